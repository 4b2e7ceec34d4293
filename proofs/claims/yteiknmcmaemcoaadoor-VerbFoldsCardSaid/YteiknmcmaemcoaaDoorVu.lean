/- What wherrykeep's Cmd answers. -/
import Derived.Test.YteiknmcmaemcoaaDoorProg
import Derived.WalkKit
import Derived.WalkLawsBesides
import Derived.Outline
import Derived.LoopTactic
import Derived.Lib.Hide
import Derived.Deep.QuietTactic
import Derived.BigQuiet
import Derived.Deep.LoopGhost
import Derived.Deep.DeepCutAuto
import Derived.Deep.CutBlock
import Derived.Deep.RegionHeld3
import Derived.Deep.RegionWith
import Derived.Deep.WholeRow
import Derived.Laws.Rows
import Derived.Laws.Tables
import Derived.Laws.ResultCell
import Derived.StillTailTactics
import Derived.Deep.DeepMust
import Derived.IntWalk
import Derived.KernelRfl
import Derived.Test.YteiknmcmaemcoaaDoorWWords
import Derived.Test.YteiknmcmaemcoaaDoorWLast
import Derived.Test.YteiknmcmaemcoaaDoorWMore
import Derived.RegionTactic
import Derived.Test.YteiknmcmaemcoaaDoorVt
namespace Go.Proofs.YteiknmcmaemcoaaDoor
open Go.RowKit Go.Lib
open Go.Proofs.YteiknmcmaemcoaaDoorW.PrintWords Go.Proofs.YteiknmcmaemcoaaDoorW.PrintLast Go.Proofs.YteiknmcmaemcoaaDoorW.PrintMore
set_option linter.unusedVariables false
set_option linter.unusedSimpArgs false
theorem kcmd_and (k1 k2 : Int) (t1 t2 : V.Bs) (p1 p2 : V.Path) (xs ys : List Prm) : decide ((⟨k1, t1, p1, xs⟩ : V.Cmd) = ⟨k2, t2, p2, ys⟩) = (decide (k1 = k2) && (decide (t1 = t2) && (decide (p1 = p2) && (decide (xs.length = ys.length) && decide (xs = ys))))) := by
  rw [Bool.eq_iff_iff]
  simp
  intro _ _ _ h
  rw [h]
set_option maxRecDepth 100000 in
set_option maxHeartbeats 4000000 in
theorem kcmd_any (a b : V.Cmd) (A1 A2 : Option Addr) (q1 q2 : Nat) (w : World) (hx : Kd.C kp w A1 a.prms.length a.prms) (hy : Kd.C kp w A2 b.prms.length b.prms) (hn : a.prms.length ≤ 1000000) :
    Calls Tryd.prog 11 #[cagg a A1 q1, cagg b A2 q2] w fun e w' => e = .returned (.bool (decide (a = b))) ∧ Below w.heap.size w w' := by
  obtain ⟨T, hT⟩ : ∃ T, T = decide (a = b) := ⟨_, rfl⟩
  rw [← hT]
  obtain ⟨k1, t1, p1, xs⟩ := a
  obtain ⟨k2, t2, p2, ys⟩ := b
  simp only at hx hy hn ⊢
  rw [kcmd_and] at hT
  have HT := Aside0.mk hT
  obtain ⟨w1, hw1⟩ : ∃ w1, w1 = (w.alloc (.cells #[.int .i64 k1, .string (str t1), .bool p1.null, .string (str p1.loc), .string (str p1.dom), .slice A1 xs.length q1] 26)).alloc (.cells #[.int .i64 k2, .string (str t2), .bool p2.null, .string (str p2.loc), .string (str p2.dom), .slice A2 ys.length q2] 26) := ⟨_, rfl⟩
  have hb1 : Below w.heap.size w w1 := by rw [hw1]; exact ((Below.refl _ w).alloc (Nat.le_refl _) _).alloc (by simp) _
  have hra : w1.heap[w.heap.size]? = some (.cells #[.int .i64 k1, .string (str t1), .bool p1.null, .string (str p1.loc), .string (str p1.dom), .slice A1 xs.length q1] 26 (0, 0)) := by
    rw [hw1, heap_alloc_old _ _ (by simp)]; exact heap_alloc_new _ _
  have hrb : w1.heap[w.heap.size + 1]? = some (.cells #[.int .i64 k2, .string (str t2), .bool p2.null, .string (str p2.loc), .string (str p2.dom), .slice A2 ys.length q2] 26 (0, 0)) := by
    rw [hw1]; exact alloc_two _ _ _
  have hsb : w.heap.size + 1 < w1.heap.size := (Array.getElem?_eq_some_iff.1 hrb).1
  have hrows : ∀ wx, Below w1.heap.size w1 wx → wx.heap[w.heap.size]? = some (.cells #[.int .i64 k1, .string (str t1), .bool p1.null, .string (str p1.loc), .string (str p1.dom), .slice A1 xs.length q1] 26 (0, 0)) ∧ wx.heap[w.heap.size + 1]? = some (.cells #[.int .i64 k2, .string (str t2), .bool p2.null, .string (str p2.loc), .string (str p2.dom), .slice A2 ys.length q2] 26 (0, 0)) := fun wx h => ⟨(h.block _ (by omega)).trans hra, (h.block _ hsb).trans hrb⟩
  have HRO := Aside0.mk hrows
  have HX := Aside0.mk (Kd.C_below hx hb1)
  have HY := Aside0.mk (Kd.C_below hy hb1)
  have HB1 := Aside0.mk hb1
  have HKP := Aside0.mk (kpath_any p1 p2 w1)
  have et : ((str t1).toList == (str t2).toList) = decide (t1 = t2) := by rw [str_eqB, lst_str, lst_str]
  obtain ⟨⟨a0, a1, a2, a3, a4, a5⟩, _⟩ := cells6 hra
  obtain ⟨⟨b0, b1, b2, b3, b4, b5⟩, _⟩ := cells6 hrb
  clear hT hb1 hx hy hra hrb hsb hrows
  go_enter Tryd.func11, Tryd.ntmps11
  go_upto_region 1 with (fail)
  rw [← hw1]
  clear hw1
  cases hk : decide (k1 = k2) with
  | false =>
    have hT : T = false := by rw [HT.out, hk]; rfl
    have HTF := Aside0.mk hT
    have u1 : (k1 != k2) = true := by simpa using hk
    clear hT hk
    go_wp2_with (fail)
    go_ret
    exact ⟨by rw [HTF.out]; rfl, HB1.out⟩
  | true =>
    have u1 : (k1 != k2) = false := by simpa using hk
    cases ht : decide (t1 = t2) with
    | false =>
      have hT : T = false := by rw [HT.out, hk, ht]; rfl
      have HTF := Aside0.mk hT
      rw [ht] at et
      clear hT hk ht
      go_wp2_with (fail)
      go_ret
      exact ⟨by rw [HTF.out]; rfl, HB1.out⟩
    | true =>
      rw [ht] at et
      cases hp : decide (p1 = p2) with
      | false =>
        have hT : T = false := by rw [HT.out, hk, ht, hp]; rfl
        have HTF := Aside0.mk hT
        have HPF := Aside0.mk hp
        clear hT hk ht hp
        go_wp2_with (first | (go_at_call 22; (with_reducible refine Calls.mono HKP.out ?_); rintro e w2 ⟨rfl, h⟩; have H2 := Aside0.mk h; clear h; rw [HPF.out]))
        go_ret
        exact ⟨by rw [HTF.out]; rfl, HB1.out.trans (H2.out.mono HB1.out.size)⟩
      | true =>
        have HPF := Aside0.mk hp
        cases hl : decide (xs.length = ys.length) with
        | false =>
          have hT : T = false := by rw [HT.out, hk, ht, hp, hl]; rfl
          have HTF := Aside0.mk hT
          have u2 : ((xs.length : Int) != (ys.length : Int)) = true := by have := of_decide_eq_false hl; simp; omega
          clear hT hk ht hp hl
          go_wp2_with (first | (go_at_call 22; (with_reducible refine Calls.mono HKP.out ?_); rintro e w2 ⟨rfl, h⟩; have H2 := Aside0.mk h; have hr := HRO.out _ h; clear h a0 a1 a2 a3 a4 a5 b0 b1 b2 b3 b4 b5; obtain ⟨⟨a0, a1, a2, a3, a4, a5⟩, _⟩ := cells6 hr.1; obtain ⟨⟨b0, b1, b2, b3, b4, b5⟩, _⟩ := cells6 hr.2; clear hr; rw [HPF.out]))
          go_ret
          exact ⟨by rw [HTF.out]; rfl, HB1.out.trans (H2.out.mono HB1.out.size)⟩
        | true =>
          have hT : T = decide (xs = ys) := by rw [HT.out, hk, ht, hp, hl]; rfl
          have HTT := Aside0.mk hT
          have hlen := of_decide_eq_true hl
          have HL := Aside0.mk hlen
          have u2 : ((xs.length : Int) != (ys.length : Int)) = false := by simp; omega
          clear hT hk ht hp hl hlen
          go_wp2_with (first | (go_at_call 22; (with_reducible refine Calls.mono HKP.out ?_); rintro e w2 ⟨rfl, h⟩; have H2 := Aside0.mk h; have hr := HRO.out _ h; clear h a0 a1 a2 a3 a4 a5 b0 b1 b2 b3 b4 b5; obtain ⟨⟨a0, a1, a2, a3, a4, a5⟩, _⟩ := cells6 hr.1; obtain ⟨⟨b0, b1, b2, b3, b4, b5⟩, _⟩ := cells6 hr.2; clear hr; rw [HPF.out]))
          clear a0 a1 a2 a3 a4 a5 b0 b1 b2 b3 b4 b5
          go_loopg [5] xs.length (fun g v5 wr => ∃ n : Nat, n ≤ xs.length ∧ g + n = xs.length ∧ v5 = .int .i64 n ∧ Aside0 (xs.take n = ys.take n ∧ Drawn0 w2 wr))
          case atStart => exact ⟨0, by omega, by omega, rfl, ⟨by simp, Drawn0.refl _⟩⟩
          case round =>
            obtain ⟨n, hn2, hg, rfl, H⟩ := hrel
            obtain ⟨wx, rfl⟩ : ∃ wz : World, wz = wr := ⟨_, rfl⟩
            have hbx : Below w1.heap.size w1 wx := H2.out.trans ((drawn_below H.out.2).mono H2.out.size)
            have HB := Aside0.mk hbx
            obtain ⟨hr1, hr2⟩ := HRO.out _ hbx
            obtain ⟨⟨a0, a1, a2, a3, a4, a5⟩, _⟩ := cells6 hr1
            obtain ⟨⟨b0, b1, b2, b3, b4, b5⟩, _⟩ := cells6 hr2
            clear hr1 hr2 hbx
            by_cases hlt : n < xs.length
            · obtain ⟨x, hx⟩ : ∃ x, x = xs.getD n ([], []) := ⟨_, rfl⟩
              obtain ⟨y, hy⟩ : ∃ y, y = ys.getD n ([], []) := ⟨_, rfl⟩
              have hlty : n < ys.length := by rw [← HL.out]; exact hlt
              obtain ⟨ad, rfl, p0, p1'⟩ := kp_at (Kd.C_below HX.out HB.out) n hlt x hx
              obtain ⟨ae, rfl, q0, q1'⟩ := kp_at (Kd.C_below HY.out HB.out) n hlty y hy
              have ek : ((str x.1).toList == (str y.1).toList) = decide (x.1 = y.1) := by rw [str_eqB, lst_str, lst_str]
              have ev : ((str x.2).toList == (str y.2).toList) = decide (x.2 = y.2) := by rw [str_eqB, lst_str, lst_str]
              have ex : xs.take (n + 1) = xs.take n ++ [x] := by
                rw [List.take_succ_eq_append_getElem hlt, hx]; simp [List.getD_eq_getElem?_getD, hlt]
              have ey : ys.take (n + 1) = ys.take n ++ [y] := by
                rw [List.take_succ_eq_append_getElem hlty, hy]; simp [List.getD_eq_getElem?_getD, hlty]
              have hlt' : (n : Int) < (xs.length : Int) := by omega
              have hlty' : (n : Int) < (ys.length : Int) := by omega
              have h0 : (0 : Int) ≤ (n : Int) := by omega
              have hbad : x ≠ y → T = false := by
                intro hxy
                rw [HTT.out]
                apply decide_eq_false
                intro h
                have e1 := ex
                rw [h, ey, ← H.out.1] at e1
                have e2 := List.append_cancel_left e1
                simp at e2
                exact hxy e2.symm
              have HBAD := Aside0.mk hbad
              have HEX := Aside0.mk ex
              have HEY := Aside0.mk ey
              clear hx hy ex ey hbad
              cases hxk : decide (x.1 = y.1) with
              | false =>
                have hT : T = false := HBAD.out (fun h => of_decide_eq_false hxk (by rw [h]))
                have HTF := Aside0.mk hT
                rw [hxk] at ek
                clear hT hxk
                go_wp2_with (fail)
                repeat (go_quiet (fail); try go_wp2_with (fail))
                go_ret
                exact ⟨by rw [HTF.out]; rfl, HB1.out.trans ((HB.out.trans ((drawn_below (by repeat (first | exact Drawn0.refl _ | apply Drawn0.step))).mono HB.out.size)).mono HB1.out.size)⟩
              | true =>
                cases hxv : decide (x.2 = y.2) with
                | false =>
                  have hT : T = false := HBAD.out (fun h => of_decide_eq_false hxv (by rw [h]))
                  have HTF := Aside0.mk hT
                  rw [hxk] at ek
                  rw [hxv] at ev
                  clear hT hxk hxv
                  go_wp2_with (fail)
                  repeat (go_quiet (fail); try go_wp2_with (fail))
                  go_ret
                  exact ⟨by rw [HTF.out]; rfl, HB1.out.trans ((HB.out.trans ((drawn_below (by repeat (first | exact Drawn0.refl _ | apply Drawn0.step))).mono HB.out.size)).mono HB1.out.size)⟩
                | true =>
                  have hxy : x = y := Prod.ext (of_decide_eq_true hxk) (of_decide_eq_true hxv)
                  have HXY := Aside0.mk hxy
                  rw [hxk] at ek
                  rw [hxv] at ev
                  clear hxy hxk hxv
                  go_wp2_with (fail)
                  repeat (go_quiet (fail); try go_wp2_with (fail))
                  go_roundg (gk - 1)
                  case measure => omega
                  case rel => exact ⟨n + 1, by omega, by omega, by go_num, ⟨by rw [HEX.out, HEY.out, H.out.1, HXY.out], by repeat (first | exact Drawn0.refl _ | exact H.out.2 | apply Drawn0.step)⟩⟩
            · have hne : n = xs.length := by omega
              have hT : T = true := by
                rw [HTT.out]
                have h := H.out.1
                rw [hne, List.take_length, HL.out, List.take_length] at h
                exact decide_eq_true h
              have HTF := Aside0.mk hT
              have t3 : decide ((n : Int) < (xs.length : Int)) = false := by simp; omega
              have t4 : decide (n < xs.length) = false := by simp; omega
              clear hT hne
              go_wp2_with (fail)
              go_ret
              exact ⟨by rw [HTF.out]; rfl, HB1.out.trans (HB.out.mono HB1.out.size)⟩
end Go.Proofs.YteiknmcmaemcoaaDoor
