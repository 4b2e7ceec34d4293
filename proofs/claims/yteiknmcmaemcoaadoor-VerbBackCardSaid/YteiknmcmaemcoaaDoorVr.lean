/- What slices.Equal of params, verb's same and Param answer. -/
import Derived.Test.YteiknmcmaemcoaaDoorProg
import Derived.WalkKit
import Derived.WalkLawsBesides
import Derived.Outline
import Derived.LoopTactic
import Derived.Lib.Hide
import Derived.Deep.QuietTactic
import Derived.BigQuiet
import Derived.Deep.LoopGhost
import Derived.Deep.DeepCutAuto
import Derived.Deep.CutBlock
import Derived.Deep.RegionHeld3
import Derived.Deep.RegionWith
import Derived.Deep.WholeRow
import Derived.Laws.Rows
import Derived.Laws.Tables
import Derived.Laws.ResultCell
import Derived.StillTailTactics
import Derived.Deep.DeepMust
import Derived.IntWalk
import Derived.KernelRfl
import Derived.Test.YteiknmcmaemcoaaDoorWWords
import Derived.Test.YteiknmcmaemcoaaDoorWLast
import Derived.Test.YteiknmcmaemcoaaDoorWMore
import Derived.RegionTactic
import Derived.Test.YteiknmcmaemcoaaDoorWEqStruct
import Derived.Test.YteiknmcmaemcoaaDoorVq
namespace Go.Proofs.YteiknmcmaemcoaaDoor
open Go.RowKit Go.Lib
open Go.Proofs.YteiknmcmaemcoaaDoorW.PrintWords Go.Proofs.YteiknmcmaemcoaaDoorW.PrintLast Go.Proofs.YteiknmcmaemcoaaDoorW.PrintMore
set_option linter.unusedVariables false
set_option linter.unusedSimpArgs false
theorem eqPath (d : Nat) (w : World) (x0 y0 : Bool) (x1 y1 : ByteArray) (x2 y2 : ByteArray) :
    (Op.equalIn (d + 2) 23 (.agg #[.bool x0, .string x1, .string x2]) (.agg #[.bool y0, .string y1, .string y2])).run Tryd.prog w = .ok (x0 == y0 && (x1.toList == y1.toList && (x2.toList == y2.toList))) w := by
  refine eqA_of Tryd.underlying23 (by kernel_rfl) ?_
  refine eqf_cons (by rfl) (by go_simp; rfl) (by go_simp; rfl) (by go_simp) ?_
  refine eqf_cons (by rfl) (by go_simp; rfl) (by go_simp; rfl) (by go_simp) ?_
  exact eqf_last (by rfl) (by go_simp; rfl) (by go_simp; rfl) (by go_simp)
theorem eqParam (d : Nat) (w : World) (x0 y0 : ByteArray) (x1 y1 : ByteArray) :
    (Op.equalIn (d + 2) 46 (.agg #[.string x0, .string x1]) (.agg #[.string y0, .string y1])).run Tryd.prog w = .ok (x0.toList == y0.toList && (x1.toList == y1.toList)) w := by
  refine eqA_of Tryd.underlying46 (by kernel_rfl) ?_
  refine eqf_cons (by rfl) (by go_simp; rfl) (by go_simp; rfl) (by go_simp) ?_
  exact eqf_last (by rfl) (by go_simp; rfl) (by go_simp; rfl) (by go_simp)
attribute [local go_sem high] eqPath eqParam
theorem prm_eq (x y : Prm) : ((str x.1).toList == (str y.1).toList && ((str x.2).toList == (str y.2).toList)) = decide (x = y) := by
  rw [str_eqB, str_eqB, lst_str, lst_str, lst_str, lst_str, Bool.eq_iff_iff]
  simp [Prod.ext_iff]
theorem drawn_below {w w' : World} (h : Drawn0 w w') : Below w.heap.size w w' := by
  obtain ⟨n, rfl⟩ := h
  exact below_drewN' (Below.refl _ _) n
set_option maxRecDepth 100000 in
set_option maxHeartbeats 2000000 in
theorem equal_any (xs ys : List Prm) (A1 A2 : Option Addr) (c1 c2 : Nat) (w : World) (hx : Kd.C kp w A1 xs.length xs) (hy : Kd.C kp w A2 ys.length ys) (hn : xs.length ≤ 1000000) :
    Calls Tryd.prog 28 #[.slice A1 xs.length c1, .slice A2 ys.length c2] w fun e w' => e = .returned (.bool (decide (xs = ys))) ∧ Below w.heap.size w w' := by
  obtain ⟨T, hT⟩ : ∃ T, T = decide (xs = ys) := ⟨_, rfl⟩
  rw [← hT]
  have HT := Aside0.mk hT
  have HX := Aside0.mk hx
  have HY := Aside0.mk hy
  clear hT hx hy
  go_enter Tryd.func28, Tryd.ntmps28
  by_cases hlen : xs.length = ys.length
  · have t1 : ((xs.length : Int) != (ys.length : Int)) = false := by simp [hlen]
    have t2 : ((xs.length : Int) == (ys.length : Int)) = true := by simp [hlen]
    have HL := Aside0.mk hlen
    clear hlen
    go_wp2
    go_loopg [13] xs.length (fun g v13 wr => ∃ n : Nat, n ≤ xs.length ∧ g + n = xs.length ∧ v13 = .int .i64 n ∧ Aside0 (xs.take n = ys.take n ∧ Drawn0 w wr))
    case atStart => exact ⟨0, by omega, by omega, rfl, ⟨by simp, Drawn0.refl _⟩⟩
    case round =>
      obtain ⟨n, hn2, hg, rfl, H⟩ := hrel
      obtain ⟨wx, rfl⟩ : ∃ wz : World, wz = wr := ⟨_, rfl⟩
      have HB := Aside0.mk (drawn_below H.out.2)
      by_cases hlt : n < xs.length
      · obtain ⟨x, hx⟩ : ∃ x, x = xs.getD n ([], []) := ⟨_, rfl⟩
        obtain ⟨y, hy⟩ : ∃ y, y = ys.getD n ([], []) := ⟨_, rfl⟩
        have hlty : n < ys.length := by rw [← HL.out]; exact hlt
        obtain ⟨ad, rfl, p0, p1⟩ := kp_at (Kd.C_below HX.out HB.out) n hlt x hx
        obtain ⟨ae, rfl, q0, q1⟩ := kp_at (Kd.C_below HY.out HB.out) n hlty y hy
        have hpe := prm_eq x y
        have ex : xs.take (n + 1) = xs.take n ++ [x] := by
          rw [List.take_succ_eq_append_getElem hlt, hx]; simp [List.getD_eq_getElem?_getD, hlt]
        have ey : ys.take (n + 1) = ys.take n ++ [y] := by
          rw [List.take_succ_eq_append_getElem hlty, hy]; simp [List.getD_eq_getElem?_getD, hlty]
        have hlt' : (n : Int) < (xs.length : Int) := by omega
        have hlty' : (n : Int) < (ys.length : Int) := by omega
        have h0 : (0 : Int) ≤ (n : Int) := by omega
        have HEX := Aside0.mk ex
        have HEY := Aside0.mk ey
        clear hx hy ex ey
        by_cases hxy : x = y
        · have HXY := Aside0.mk hxy
          have tt : (!((str x.1).toList == (str y.1).toList) || (!((str x.2).toList == (str y.2).toList))) = false := by
            rw [← Bool.not_and, hpe, decide_eq_true hxy]; rfl
          clear hxy hpe
          go_wp2
          repeat (go_quiet (fail); try go_wp2)
          go_roundg (gk - 1)
          case measure => omega
          case rel =>
            refine ⟨n + 1, by omega, by omega, by go_num, ⟨?_, by repeat (first | exact Drawn0.refl _ | exact H.out.2 | apply Drawn0.step)⟩⟩
            rw [HEX.out, HEY.out, H.out.1, HXY.out]
        · have hT : T = false := by
            rw [HT.out]
            apply decide_eq_false
            intro h
            have e1 := HEX.out
            rw [h, HEY.out, ← H.out.1] at e1
            have e2 := List.append_cancel_left e1
            simp at e2
            exact hxy e2.symm
          have HTF := Aside0.mk hT
          have tt : (!((str x.1).toList == (str y.1).toList) || (!((str x.2).toList == (str y.2).toList))) = true := by
            rw [← Bool.not_and, hpe, decide_eq_false hxy]; rfl
          clear hxy hpe hT
          go_wp2
          repeat (go_quiet (fail); try go_wp2)
          go_ret
          refine ⟨by rw [HTF.out]; rfl, ?_⟩
          exact drawn_below (by repeat (first | exact Drawn0.refl _ | exact H.out.2 | apply Drawn0.step))
      · have hne : n = xs.length := by omega
        have hT : T = true := by
          rw [HT.out]
          have h := H.out.1
          rw [hne, List.take_length, HL.out, List.take_length] at h
          exact decide_eq_true h
        have HTF := Aside0.mk hT
        have t3 : decide ((n : Int) < (xs.length : Int)) = false := by simp; omega
        have t4 : decide (n < xs.length) = false := by simp; omega
        clear hT hne
        go_wp2
        go_ret
        exact ⟨by rw [HTF.out]; rfl, HB.out⟩
  · have hT : T = false := by rw [HT.out]; exact decide_eq_false (fun h => hlen (by rw [h]))
    have HTF := Aside0.mk hT
    have t1 : ((xs.length : Int) != (ys.length : Int)) = true := by simp; omega
    have t2 : ((xs.length : Int) == (ys.length : Int)) = false := by simp; omega
    clear hT hlen
    go_wp2
    go_ret
    exact ⟨by rw [HTF.out]; rfl, Below.refl _ _⟩
/-- The cells of a command that came in or was answered. -/
def V.sameB (a b : V.Cmd) : Bool := decide (a.kind = b.kind) && decide (a.text = b.text) && decide (a.path = b.path) && decide (a.prms = b.prms)
theorem sameB_eq (a b : V.Cmd) : V.sameB a b = decide (a = b) := by
  unfold V.sameB
  obtain ⟨k, t, p, x⟩ := a
  obtain ⟨k2, t2, p2, x2⟩ := b
  rw [Bool.eq_iff_iff]
  simp [and_assoc]
set_option maxRecDepth 100000 in
set_option maxHeartbeats 4000000 in
theorem same_any (a b : V.Cmd) (A1 A2 : Option Addr) (q1 q2 : Nat) (w : World) (hx : Kd.C kp w A1 a.prms.length a.prms) (hy : Kd.C kp w A2 b.prms.length b.prms) (hn : a.prms.length ≤ 1000000) :
    Calls Tryd.prog 15 #[.agg #[.int .i64 a.kind, .string (str a.text), .bool a.path.null, .string (str a.path.loc), .string (str a.path.dom), .slice A1 a.prms.length q1], .agg #[.int .i64 b.kind, .string (str b.text), .bool b.path.null, .string (str b.path.loc), .string (str b.path.dom), .slice A2 b.prms.length q2]] w fun e w' => e = .returned (.bool (decide (a = b))) ∧ Below w.heap.size w w' := by
  obtain ⟨T, hT⟩ : ∃ T, T = decide (a = b) := ⟨_, rfl⟩
  rw [← hT]
  rw [← sameB_eq] at hT
  unfold V.sameB at hT
  obtain ⟨k1, t1, ⟨n1, l1, d1⟩, xs⟩ := a
  obtain ⟨k2, t2, ⟨n2, l2, d2⟩, ys⟩ := b
  simp only at hx hy hn hT ⊢
  have HT := Aside0.mk hT
  obtain ⟨w1, hw1⟩ : ∃ w1, w1 = (w.alloc (.cells #[.int .i64 k1, .string (str t1), .bool n1, .string (str l1), .string (str d1), .slice A1 xs.length q1] 26)).alloc (.cells #[.int .i64 k2, .string (str t2), .bool n2, .string (str l2), .string (str d2), .slice A2 ys.length q2] 26) := ⟨_, rfl⟩
  have hb1 : Below w.heap.size w w1 := by rw [hw1]; exact ((Below.refl _ w).alloc (Nat.le_refl _) _).alloc (by simp) _
  have HEQ := Aside0.mk (equal_any xs ys A1 A2 q1 q2 w1 (Kd.C_below hx hb1) (Kd.C_below hy hb1) hn)
  have HB1 := Aside0.mk hb1
  have et : ((str t1).toList == (str t2).toList) = decide (t1 = t2) := by rw [str_eqB, lst_str, lst_str]
  have ep : (n1 == n2 && ((str l1).toList == (str l2).toList && ((str d1).toList == (str d2).toList))) = decide ((⟨n1, l1, d1⟩ : V.Path) = ⟨n2, l2, d2⟩) := by
    rw [str_eqB, str_eqB, lst_str, lst_str, lst_str, lst_str, Bool.eq_iff_iff]
    simp
  clear hT hb1 hx hy
  subst hw1
  go_enter Tryd.func15, Tryd.ntmps15
  cases hk : decide (k1 = k2) with
  | false =>
    have hT : T = false := by rw [HT.out, hk]; rfl
    have HTF := Aside0.mk hT
    have u1 : (k1 == k2) = false := by simpa using hk
    clear hT
    go_wp2_with (fail)
    go_ret
    exact ⟨by rw [HTF.out]; rfl, HB1.out⟩
  | true =>
    have u1 : (k1 == k2) = true := by simpa using hk
    have HK := Aside0.mk hk
    cases ht : decide (t1 = t2) with
    | false =>
      have hT : T = false := by rw [HT.out, hk, ht]; rfl
      have HTF := Aside0.mk hT
      rw [ht] at et
      clear hT ht hk
      go_wp2_with (fail)
      go_ret
      exact ⟨by rw [HTF.out]; rfl, HB1.out⟩
    | true =>
      rw [ht] at et
      have HTT := Aside0.mk ht
      cases hp : decide ((⟨n1, l1, d1⟩ : V.Path) = ⟨n2, l2, d2⟩) with
      | false =>
        have hT : T = false := by rw [HT.out, hk, ht, hp]; rfl
        have HTF := Aside0.mk hT
        rw [hp] at ep
        clear hT ht hk hp
        go_wp2_with (fail)
        go_ret
        exact ⟨by rw [HTF.out]; rfl, HB1.out⟩
      | true =>
        have hT : T = decide (xs = ys) := by rw [HT.out, hk, ht, hp]; rfl
        have HTF := Aside0.mk hT
        rw [hp] at ep
        clear hT ht hk hp
        go_wp2_with (first | (go_at_call 28; (with_reducible refine Calls.mono HEQ.out ?_); rintro e w2 ⟨rfl, h⟩; have H2 := Aside0.mk h; clear h))
        go_ret
        exact ⟨by rw [HTF.out]; rfl, HB1.out.trans (H2.out.mono HB1.out.size)⟩
end Go.Proofs.YteiknmcmaemcoaaDoor
