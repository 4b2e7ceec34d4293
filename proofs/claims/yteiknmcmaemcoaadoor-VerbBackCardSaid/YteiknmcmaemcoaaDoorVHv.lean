/- heavy: what is not heavy is small. -/
import Derived.Test.YteiknmcmaemcoaaDoorProg
import Derived.WalkKit
import Derived.WalkLawsBesides
import Derived.Outline
import Derived.LoopTactic
import Derived.Lib.Hide
import Derived.Deep.QuietTactic
import Derived.BigQuiet
import Derived.Deep.LoopGhost
import Derived.Deep.DeepCutAuto
import Derived.Deep.CutBlock
import Derived.Deep.RegionHeld3
import Derived.Deep.RegionWith
import Derived.Deep.WholeRow
import Derived.Laws.Rows
import Derived.Laws.Tables
import Derived.Laws.ResultCell
import Derived.StillTailTactics
import Derived.Deep.DeepMust
import Derived.IntWalk
import Derived.KernelRfl
import Derived.Test.YteiknmcmaemcoaaDoorWWords
import Derived.Test.YteiknmcmaemcoaaDoorWLast
import Derived.Test.YteiknmcmaemcoaaDoorWMore
import Derived.RegionTactic
import Derived.Test.YteiknmcmaemcoaaDoorVu
import Derived.Test.YteiknmcmaemcoaaDoorVOp
namespace Go.Proofs.YteiknmcmaemcoaaDoor
open Go.RowKit Go.Lib
open Go.Proofs.YteiknmcmaemcoaaDoorW.PrintWords Go.Proofs.YteiknmcmaemcoaaDoorW.PrintLast Go.Proofs.YteiknmcmaemcoaaDoorW.PrintMore
set_option linter.unusedVariables false
set_option linter.unusedSimpArgs false
/-- One parameter more, as it is counted. -/
def V.hstep (n : Int) (p : Prm) : Int := wrap64 (wrap64 (n + p.1.length) + p.2.length)
def V.hsum (a : Int) (l : List Prm) : Int := l.foldl V.hstep a
/-- What is counted ahead of the parameters. -/
def V.hbase (c : V.Cmd) : Int := wrap64 (wrap64 ((c.text.length : Int) + c.path.loc.length) + c.path.dom.length)
def V.heavy (c : V.Cmd) : Bool := decide (3000 < V.hsum (V.hbase c) c.prms) || decide (20 < c.prms.length)
theorem hsum_take (a : Int) (l : List Prm) (n : Nat) (h : n < l.length) (x : Prm) (hx : x = l.getD n ([], [])) : V.hsum a (l.take (n + 1)) = V.hstep (V.hsum a (l.take n)) x := by
  have e : l.take (n + 1) = l.take n ++ [x] := by
    rw [List.take_succ_eq_append_getElem h, hx]; simp [List.getD_eq_getElem?_getD, h]
  unfold V.hsum
  rw [e, List.foldl_append]
  rfl
theorem hstep_eq (a : Int) (p : Prm) (ha : 0 ≤ a) (ha2 : a ≤ 9000000000000000000) (h1 : p.1.length ≤ 140737488351232) (h2 : p.2.length ≤ 140737488351232) : V.hstep a p = a + p.1.length + p.2.length := by
  unfold V.hstep
  have e : wrap64 (a + (p.1.length : Int)) = a + p.1.length := by unfold wrap64; omega
  rw [e]
  unfold wrap64; omega
theorem hsum_ge : ∀ (l : List Prm) (a : Int) (m : Nat), l.length ≤ m → 0 ≤ a → a + 300000000000000 * m ≤ 9000000000000000000 → (∀ p ∈ l, p.1.length ≤ 140737488351232 ∧ p.2.length ≤ 140737488351232) → a + (l.flatMap V.prmB).length ≤ V.hsum a l + 2 * l.length
  | [], a, m, _, _, _, _ => by simp [V.hsum]
  | p :: l, a, 0, hl, _, _, _ => by simp at hl
  | p :: l, a, m + 1, hl, h0, hm, hp => by
    obtain ⟨h1, h2⟩ := hp p (by simp)
    have e := hstep_eq a p h0 (by omega) h1 h2
    have ih := hsum_ge l (V.hstep a p) m (by simp at hl; omega) (by rw [e]; omega) (by rw [e]; omega) (fun q hq => hp q (by simp [hq]))
    have e2 : V.hsum a (p :: l) = V.hsum (V.hstep a p) l := rfl
    rw [e2, List.flatMap_cons, List.length_append, List.length_cons]
    have e3 : (V.prmB p).length = p.1.length + p.2.length + 2 := by unfold V.prmB; simp; omega
    rw [e] at ih
    rw [e3]
    rw [e]
    omega
theorem heavy_fit (c : V.Cmd) (hc : OkCmd c) (h : V.heavy c = false) : Fit c ∧ c.text.length ≤ 3040 ∧ c.path.loc.length ≤ 3040 ∧ c.path.dom.length ≤ 3040 := by
  obtain ⟨k1, k2, ⟨_, k3, k4⟩, k5, k6⟩ := hc
  have k2' : c.text.length ≤ 140737488351232 := by have : (str c.text).size ≤ _ := k2; rwa [str_size] at this
  have k3' : c.path.loc.length ≤ 140737488351232 := by have : (str c.path.loc).size ≤ _ := k3; rwa [str_size] at this
  have k4' : c.path.dom.length ≤ 140737488351232 := by have : (str c.path.dom).size ≤ _ := k4; rwa [str_size] at this
  have k6' : ∀ p ∈ c.prms, p.1.length ≤ 140737488351232 ∧ p.2.length ≤ 140737488351232 := by
    intro p hp
    obtain ⟨g1, g2⟩ := k6 p hp
    have g1' : (str p.1).size ≤ _ := g1
    have g2' : (str p.2).size ≤ _ := g2
    rw [str_size] at g1' g2'
    exact ⟨g1', g2'⟩
  unfold V.heavy at h
  rw [Bool.or_eq_false_iff] at h
  obtain ⟨h1, h2⟩ := h
  have h1' := of_decide_eq_false h1
  have h2' := of_decide_eq_false h2
  have eb : V.hbase c = (c.text.length : Int) + c.path.loc.length + c.path.dom.length := by
    unfold V.hbase
    have e : wrap64 ((c.text.length : Int) + c.path.loc.length) = (c.text.length : Int) + c.path.loc.length := by unfold wrap64; omega
    rw [e]
    unfold wrap64; omega
  have hs := hsum_ge c.prms (V.hbase c) 20 (by omega) (by rw [eb]; omega) (by rw [eb]; omega) k6'
  rw [eb] at hs
  rw [eb] at h1'
  exact ⟨⟨k1, by omega, by omega, by omega, by omega, by omega⟩, by omega, by omega, by omega⟩
set_option maxRecDepth 100000 in
set_option maxHeartbeats 4000000 in
theorem heavy_any (c : V.Cmd) (A : Option Addr) (q : Nat) (w : World) (hx : Kd.C kp w A c.prms.length c.prms) (hc : OkCmd c) :
    Calls Tryd.prog 8 #[cagg c A q] w fun e w' => e = .returned (.bool (V.heavy c)) ∧ Below w.heap.size w w' := by
  obtain ⟨T, hT⟩ : ∃ T, T = V.heavy c := ⟨_, rfl⟩
  rw [← hT]
  have hl0 : c.prms.length ≤ 140737488351232 := hc.2.2.2.1
  have hlt0 : (str c.text).size = c.text.length := str_size _
  have hll0 : (str c.path.loc).size = c.path.loc.length := str_size _
  have hld0 : (str c.path.dom).size = c.path.dom.length := str_size _
  obtain ⟨bs, hbs⟩ : ∃ bs, bs = V.hbase c := ⟨_, rfl⟩
  have hbs2 : bs = wrap64 (wrap64 (((str c.text).size : Int) + ((str c.path.loc).size : Int)) + ((str c.path.dom).size : Int)) := by rw [hbs, hlt0, hll0, hld0]; rfl
  unfold V.heavy at hT
  rw [← hbs] at hT
  obtain ⟨k, t, p, xs⟩ := c
  simp only at hx hT hbs2 hl0 ⊢
  have HT := Aside0.mk hT
  have HBS := Aside0.mk hbs2
  obtain ⟨w1, hw1⟩ : ∃ w1, w1 = (w.alloc (.cells #[.int .i64 k, .string (str t), .bool p.null, .string (str p.loc), .string (str p.dom), .slice A xs.length q] 26)) := ⟨_, rfl⟩
  have hb1 : Below w.heap.size w w1 := by rw [hw1]; exact (Below.refl _ w).alloc (Nat.le_refl _) _
  have hra : w1.heap[w.heap.size]? = some (.cells #[.int .i64 k, .string (str t), .bool p.null, .string (str p.loc), .string (str p.dom), .slice A xs.length q] 26 (0, 0)) := by
    rw [hw1]; exact heap_alloc_new _ _
  have hsb : w.heap.size < w1.heap.size := (Array.getElem?_eq_some_iff.1 hra).1
  have hrows : ∀ wx, Below w1.heap.size w1 wx → wx.heap[w.heap.size]? = some (.cells #[.int .i64 k, .string (str t), .bool p.null, .string (str p.loc), .string (str p.dom), .slice A xs.length q] 26 (0, 0)) := fun wx h => (h.block _ hsb).trans hra
  have HRO := Aside0.mk hrows
  have HX := Aside0.mk (Kd.C_below hx hb1)
  have HB1 := Aside0.mk hb1
  obtain ⟨⟨a0, a1, a2, a3, a4, a5⟩, _⟩ := cells6 hra
  clear hT hb1 hx hra hsb hrows hbs2 hbs hlt0 hll0 hld0 hc
  go_enter Tryd.func8, Tryd.ntmps8
  go_upto_region 1 with (fail)
  rw [← hw1]
  clear hw1
  go_upto_region 2 with (fail)
  rw [← HBS.out]
  clear a0 a1 a2 a3 a4 a5
  go_wp2_with (fail)
  go_loopg [3, 4] xs.length (fun g v3 v4 wr => ∃ n : Nat, n ≤ xs.length ∧ g + n = xs.length ∧ v3 = .int .i64 (V.hsum bs (xs.take n)) ∧ v4 = .int .i64 n ∧ Aside0 (Drawn0 w1 wr))
  case atStart => exact ⟨0, by omega, by omega, rfl, rfl, ⟨Drawn0.refl _⟩⟩
  case round =>
    obtain ⟨n, hn2, hg, rfl, rfl, HD⟩ := hrel
    obtain ⟨wx, rfl⟩ : ∃ wz : World, wz = wr := ⟨_, rfl⟩
    obtain ⟨⟨a0, a1, a2, a3, a4, a5⟩, _⟩ := cells6 (HRO.out _ (drawn_below HD.out))
    by_cases hlt : n < xs.length
    · obtain ⟨x, hx⟩ : ∃ x, x = xs.getD n ([], []) := ⟨_, rfl⟩
      obtain ⟨ad, rfl, p0, p1'⟩ := kp_at (Kd.C_below HX.out (drawn_below HD.out)) n hlt x hx
      have hst := hsum_take bs xs n hlt x hx
      have hz1 : (str x.1).size = x.1.length := str_size _
      have hz2 : (str x.2).size = x.2.length := str_size _
      have HST := Aside0.mk hst
      have HZ1 := Aside0.mk hz1
      have HZ2 := Aside0.mk hz2
      obtain ⟨m, hm⟩ : ∃ m, m = V.hsum bs (xs.take n) := ⟨_, rfl⟩
      rw [← hm]
      have HM := Aside0.mk hm
      have hlt' : (n : Int) < (xs.length : Int) := by omega
      have h0 : (0 : Int) ≤ (n : Int) := by omega
      clear hx hst hz1 hz2 hm
      go_wp2_with (fail)
      repeat (go_quiet (fail); try go_wp2_with (fail))
      go_roundg (gk - 1)
      case measure => omega
      case rel =>
        refine ⟨n + 1, by omega, by omega, ?_, by go_num, ⟨by repeat (first | exact Drawn0.refl _ | exact HD.out | apply Drawn0.step)⟩⟩
        rw [HST.out, ← HM.out]
        unfold V.hstep
        rw [HZ1.out, HZ2.out]
    · have hne : n = xs.length := by omega
      subst hne
      obtain ⟨m, hm⟩ : ∃ m, m = V.hsum bs (xs.take xs.length) := ⟨_, rfl⟩
      rw [← hm]
      have hm2 : V.hsum bs xs = m := by rw [hm, List.take_length]
      have HM := Aside0.mk hm2
      have t1 : decide ((xs.length : Int) < (xs.length : Int)) = false := by simp
      clear hm hm2 hlt hg hn2
      by_cases h3 : 3000 < m
      · have HTF := Aside0.mk (show T = true by rw [HT.out, HM.out]; simp [h3])
        go_wp2_with (fail)
        go_ret
        exact ⟨by rw [HTF.out]; rfl, HB1.out.trans ((drawn_below HD.out).mono HB1.out.size)⟩
      · have h3' : decide (3000 < m) = false := by simpa using h3
        have HTF := Aside0.mk (show T = decide ((20 : Int) < (xs.length : Int)) by rw [HT.out, HM.out, h3']; simp; omega)
        go_wp2_with (fail)
        go_ret
        exact ⟨by rw [HTF.out]; rfl, HB1.out.trans ((drawn_below HD.out).mono HB1.out.size)⟩
end Go.Proofs.YteiknmcmaemcoaaDoor
