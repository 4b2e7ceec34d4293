/- Texts of this seat, one behind the other: the plain law, the walks. -/
import Derived.Test.YteiknmcmaemcoaaGreatDoorProg
import Derived.WalkKit
import Derived.WalkLawsBesides
import Derived.Outline
import Derived.LoopTactic
import Derived.Lib.Hide
import Derived.Deep.QuietTactic
import Derived.BigQuiet
import Derived.Deep.LoopGhost
import Derived.Deep.DeepCutAuto
import Derived.Deep.CutBlock
import Derived.Deep.RegionHeld3
import Derived.Deep.RegionWith
import Derived.Deep.WholeRow
import Derived.Laws.Rows
import Derived.Laws.Tables
import Derived.Laws.ResultCell
import Derived.StillTailTactics
import Derived.Deep.DeepMust
import Derived.IntWalk
import Derived.KernelRfl
import Derived.Test.YteiknmcmaemcoaaGreatDoorEXa
import Derived.RegionTactic
import Derived.Test.YteiknmcmaemcoaaGreatDoorEMa
import Derived.Test.YteiknmcmaemcoaaGreatDoorEMb
import Derived.Test.YteiknmcmaemcoaaGreatDoorEMc
/- (ZD) The reference's line, Line and Param: the walks. -/
namespace Go.Proofs.YteiknmcmaemcoaaGreatDoor
open Go.RowKit Go.Lib
open Go.Proofs.YteiknmcmaemcoaaGreatDoorW.PrintWords Go.Proofs.YteiknmcmaemcoaaGreatDoorW.PrintLast Go.Proofs.YteiknmcmaemcoaaGreatDoorW.PrintMore
set_option linter.unusedVariables false
set_option linter.unusedSimpArgs false
/-- What stands ahead of the parameters, where they are written. -/
def V.rbase (c : V.Cmd) : V.Bs := if c.kind = 2 then lMAIL ++ V.rtext c.path else if c.kind = 3 then lRCPT ++ V.rtext c.path else []
theorem rtext_len (p : V.Path) (h1 : p.loc.length ≤ 10000) (h2 : p.dom.length ≤ 10000) : (V.rtext p).length ≤ 20010 := by
  unfold V.rtext
  split
  · simp
  · simp; omega
theorem rbase_len (c : V.Cmd) (h : Fit c) : (V.rbase c).length ≤ 20020 := by
  have := rtext_len c.path h.loc h.dom
  unfold V.rbase
  split
  · rw [List.length_append]; show 10 + _ ≤ _; omega
  · split
    · rw [List.length_append]; show 8 + _ ≤ _; omega
    · simp
theorem ite_len (p : Prop) [Decidable p] (a b : V.Bs) (n : Nat) (h1 : a.length ≤ n) (h2 : b.length ≤ n) : (if p then a else b).length ≤ n := by
  by_cases h : p
  · rw [if_pos h]; exact h1
  · rw [if_neg h]; exact h2
theorem rline_len (c : V.Cmd) (h : Fit c) : (V.rline c).length ≤ 60000 := by
  have h1 := rtext_len c.path h.loc h.dom
  have h2 := h.text
  have h3 := h.prms
  unfold V.rline
  refine ite_len _ _ _ _ (by rw [List.length_append]; show 5 + _ ≤ _; omega) ?_
  refine ite_len _ _ _ _ (by rw [List.length_append, List.length_append]; show 10 + _ + _ ≤ _; omega) ?_
  refine ite_len _ _ _ _ (by rw [List.length_append, List.length_append]; show 8 + _ + _ ≤ _; omega) ?_
  refine ite_len _ _ _ _ (by decide) ?_
  refine ite_len _ _ _ _ (by decide) ?_
  refine ite_len _ _ _ _ (by rw [List.length_append]; show 5 + _ ≤ _; omega) ?_
  refine ite_len _ _ _ _ (by decide) ?_
  refine ite_len _ _ _ _ (by decide) ?_
  refine ite_len _ _ _ _ (by rw [List.length_append]; show 5 + _ ≤ _; omega) ?_
  refine ite_len _ _ _ _ (by decide) ?_
  refine ite_len _ _ _ _ (ite_len _ _ _ _ (by decide) (by rw [List.length_append, List.length_cons]; show 4 + (_ + 1) ≤ _; omega)) ?_
  omega
set_option maxRecDepth 100000 in
set_option maxHeartbeats 8000000 in
theorem rline_any (c : V.Cmd) (A : Option Addr) (q : Nat) (w : World) (hf : Fit c) (hx : Kd.C kp w A c.prms.length c.prms) :
    Calls Tryz.prog 33 #[cagg c A q] w fun e w' => e = .returned (.string (str (V.rline c))) ∧ Below w.heap.size w w' := by
  obtain ⟨k, t, p, xs⟩ := c
  obtain ⟨T, hT⟩ : ∃ T, T = str (V.rline ⟨k, t, p, xs⟩) := ⟨_, rfl⟩
  rw [← hT]
  have HT := Aside0.mk hT
  have HF := Aside0.mk hf
  have hrb := rbase_len _ hf
  have h1 : t.length ≤ 10000 := hf.text
  have h2 : p.loc.length ≤ 10000 := hf.loc
  have h3 : p.dom.length ≤ 10000 := hf.dom
  have h4 : xs.length ≤ 10000 := hf.cnt
  have h5 : (xs.flatMap V.prmB).length ≤ 30000 := hf.prms
  simp only at hx ⊢
  obtain ⟨w1, hw1⟩ : ∃ w1, w1 = w.alloc (.cells #[.int .i64 k, .string (str t), .bool p.null, .string (str p.loc), .string (str p.dom), .slice A xs.length q] 26) := ⟨_, rfl⟩
  have hb1 : Below w.heap.size w w1 := by rw [hw1]; exact (Below.refl _ w).alloc (Nat.le_refl _) _
  have hra : w1.heap[w.heap.size]? = some (.cells #[.int .i64 k, .string (str t), .bool p.null, .string (str p.loc), .string (str p.dom), .slice A xs.length q] 26 (0, 0)) := by rw [hw1]; exact heap_alloc_new _ _
  have hsb : w.heap.size < w1.heap.size := (Array.getElem?_eq_some_iff.1 hra).1
  have hrow : ∀ wx, Below w1.heap.size w1 wx → wx.heap[w.heap.size]? = some (.cells #[.int .i64 k, .string (str t), .bool p.null, .string (str p.loc), .string (str p.dom), .slice A xs.length q] 26 (0, 0)) := fun wx h => (h.block _ hsb).trans hra
  have HRO := Aside0.mk hrow
  have HX := Aside0.mk (Kd.C_below hx hb1)
  have HB1 := Aside0.mk hb1
  have HRT := Aside0.mk (fun w => rtext_any p w (by omega) (by omega))
  obtain ⟨RT, hRT⟩ : ∃ RT, RT = str (V.rtext p) := ⟨_, rfl⟩
  have hRTs : RT.size ≤ 20010 := by rw [hRT, str_size]; exact rtext_len p h2 h3
  have HRTE := Aside0.mk hRT
  obtain ⟨tt, htt⟩ : ∃ tt, tt = str t := ⟨_, rfl⟩
  have htts : tt.size ≤ 10000 := by rw [htt, str_size]; exact h1
  have HTT := Aside0.mk htt
  have H4 := Aside0.mk h4
  have H5 := Aside0.mk h5
  obtain ⟨⟨a0, a1, a2, a3, a4, a5⟩, _⟩ := cells6 hra
  rw [← htt] at a1
  clear hT hb1 hx hra hsb hrow hf h1 h2 h3 h4 h5 hRT htt
  have HRB := Aside0.mk hrb
  clear hrb
  go_enter Tryz.func33, Tryz.ntmps33
  go_upto_region 1 with (fail)
  rw [← hw1]
  clear hw1
  go_upto_region 2 with (fail)
  go_upto_block 0 with (fail)
  go_cut [3] (fun v3 wc => ∃ S : ByteArray, v3 = .string S ∧ Aside0 (S = str (V.rbase ⟨k, t, p, xs⟩) ∧ V.rline ⟨k, t, p, xs⟩ = V.rbase ⟨k, t, p, xs⟩ ++ xs.flatMap V.prmB) ∧ Aside0 (Below w1.heap.size w1 wc))
  case first =>
    by_cases hk1 : k = 1
    · subst hk1
      obtain ⟨C, hC⟩ : ∃ C, C = (⟨#[69, 72, 76, 79, 32]⟩ : ByteArray) ++ tt := ⟨_, rfl⟩
      have hcat := cat_run _ _ C hC (by decide) (by omega)
      have HFIN := Aside0.mk (show C = T by rw [hC, HT.out, HTT.out, show (⟨#[69, 72, 76, 79, 32]⟩ : ByteArray) = str lEHLO from rfl, ← str_append]; congr 1)
      clear hC
      go_wp2_with (fail)
      go_ret
      exact ⟨by rw [← HFIN.out]; rfl, HB1.out⟩
    have n1 : (k == 1) = false := by rw [beq_eq_false_iff_ne]; exact hk1
    have m1 : decide (k = 1) = false := decide_eq_false hk1
    by_cases hk2 : k = 2
    · subst hk2
      obtain ⟨C, hC⟩ : ∃ C, C = (⟨#[77, 65, 73, 76, 32, 70, 82, 79, 77, 58]⟩ : ByteArray) ++ RT := ⟨_, rfl⟩
      have hcat := cat_run _ _ C hC (by decide) (by omega)
      have HFIN := Aside0.mk (show C = str (V.rbase ⟨2, t, p, xs⟩) ∧ V.rline ⟨2, t, p, xs⟩ = V.rbase ⟨2, t, p, xs⟩ ++ xs.flatMap V.prmB from ⟨by rw [hC, HRTE.out, show (⟨#[77, 65, 73, 76, 32, 70, 82, 79, 77, 58]⟩ : ByteArray) = str lMAIL from rfl, ← str_append]; congr 1, by simp [V.rline, V.rbase]⟩)
      clear hC
      go_wp2_with (first | (go_at_call 15; (with_reducible refine Calls.mono (HRT.out _) ?_); rintro e w2 ⟨rfl, h⟩; have H2 := Aside0.mk h; clear h; rw [← HRTE.out]))
      go_meet
      case rel => exact ⟨C, rfl, HFIN, H2⟩
    have n2 : (k == 2) = false := by rw [beq_eq_false_iff_ne]; exact hk2
    have m2 : decide (k = 2) = false := decide_eq_false hk2
    by_cases hk3 : k = 3
    · subst hk3
      obtain ⟨C, hC⟩ : ∃ C, C = (⟨#[82, 67, 80, 84, 32, 84, 79, 58]⟩ : ByteArray) ++ RT := ⟨_, rfl⟩
      have hcat := cat_run _ _ C hC (by decide) (by omega)
      have HFIN := Aside0.mk (show C = str (V.rbase ⟨3, t, p, xs⟩) ∧ V.rline ⟨3, t, p, xs⟩ = V.rbase ⟨3, t, p, xs⟩ ++ xs.flatMap V.prmB from ⟨by rw [hC, HRTE.out, show (⟨#[82, 67, 80, 84, 32, 84, 79, 58]⟩ : ByteArray) = str lRCPT from rfl, ← str_append]; congr 1, by simp [V.rline, V.rbase]⟩)
      clear hC
      go_wp2_with (first | (go_at_call 15; (with_reducible refine Calls.mono (HRT.out _) ?_); rintro e w2 ⟨rfl, h⟩; have H2 := Aside0.mk h; clear h; rw [← HRTE.out]))
      go_meet
      case rel => exact ⟨C, rfl, HFIN, H2⟩
    have n3 : (k == 3) = false := by rw [beq_eq_false_iff_ne]; exact hk3
    have m3 : decide (k = 3) = false := decide_eq_false hk3
    by_cases hk4 : k = 4
    · subst hk4
      have HFIN := Aside0.mk (show (⟨#[68, 65, 84, 65]⟩ : ByteArray) = T by rw [HT.out]; rfl)
      go_wp2_with (fail)
      go_ret
      exact ⟨by rw [← HFIN.out]; rfl, HB1.out⟩
    have n4 : (k == 4) = false := by rw [beq_eq_false_iff_ne]; exact hk4
    have m4 : decide (k = 4) = false := decide_eq_false hk4
    by_cases hk5 : k = 5
    · subst hk5
      have HFIN := Aside0.mk (show (⟨#[82, 83, 69, 84]⟩ : ByteArray) = T by rw [HT.out]; rfl)
      go_wp2_with (fail)
      go_ret
      exact ⟨by rw [← HFIN.out]; rfl, HB1.out⟩
    have n5 : (k == 5) = false := by rw [beq_eq_false_iff_ne]; exact hk5
    have m5 : decide (k = 5) = false := decide_eq_false hk5
    by_cases hk6 : k = 6
    · subst hk6
      obtain ⟨C, hC⟩ : ∃ C, C = (⟨#[86, 82, 70, 89, 32]⟩ : ByteArray) ++ tt := ⟨_, rfl⟩
      have hcat := cat_run _ _ C hC (by decide) (by omega)
      have HFIN := Aside0.mk (show C = T by rw [hC, HT.out, HTT.out, show (⟨#[86, 82, 70, 89, 32]⟩ : ByteArray) = str lVRFY from rfl, ← str_append]; congr 1)
      clear hC
      go_wp2_with (fail)
      go_ret
      exact ⟨by rw [← HFIN.out]; rfl, HB1.out⟩
    have n6 : (k == 6) = false := by rw [beq_eq_false_iff_ne]; exact hk6
    have m6 : decide (k = 6) = false := decide_eq_false hk6
    by_cases hk7 : k = 7
    · subst hk7
      have HFIN := Aside0.mk (show (⟨#[78, 79, 79, 80]⟩ : ByteArray) = T by rw [HT.out]; rfl)
      go_wp2_with (fail)
      go_ret
      exact ⟨by rw [← HFIN.out]; rfl, HB1.out⟩
    have n7 : (k == 7) = false := by rw [beq_eq_false_iff_ne]; exact hk7
    have m7 : decide (k = 7) = false := decide_eq_false hk7
    by_cases hk8 : k = 8
    · subst hk8
      have HFIN := Aside0.mk (show (⟨#[81, 85, 73, 84]⟩ : ByteArray) = T by rw [HT.out]; rfl)
      go_wp2_with (fail)
      go_ret
      exact ⟨by rw [← HFIN.out]; rfl, HB1.out⟩
    have n8 : (k == 8) = false := by rw [beq_eq_false_iff_ne]; exact hk8
    have m8 : decide (k = 8) = false := decide_eq_false hk8
    by_cases hk9 : k = 9
    · subst hk9
      obtain ⟨C, hC⟩ : ∃ C, C = (⟨#[69, 84, 82, 78, 32]⟩ : ByteArray) ++ tt := ⟨_, rfl⟩
      have hcat := cat_run _ _ C hC (by decide) (by omega)
      have HFIN := Aside0.mk (show C = T by rw [hC, HT.out, HTT.out, show (⟨#[69, 84, 82, 78, 32]⟩ : ByteArray) = str lETRN from rfl, ← str_append]; congr 1)
      clear hC
      go_wp2_with (fail)
      go_ret
      exact ⟨by rw [← HFIN.out]; rfl, HB1.out⟩
    have n9 : (k == 9) = false := by rw [beq_eq_false_iff_ne]; exact hk9
    have m9 : decide (k = 9) = false := decide_eq_false hk9
    by_cases hk10 : k = 10
    · subst hk10
      have HFIN := Aside0.mk (show (⟨#[65, 85, 84, 72, 32, 67, 82, 65, 77, 45, 77, 68, 53]⟩ : ByteArray) = T by rw [HT.out]; rfl)
      go_wp2_with (fail)
      go_ret
      exact ⟨by rw [← HFIN.out]; rfl, HB1.out⟩
    have n10 : (k == 10) = false := by rw [beq_eq_false_iff_ne]; exact hk10
    have m10 : decide (k = 10) = false := decide_eq_false hk10
    by_cases hk11 : k = 11
    · subst hk11
      by_cases ht : t = []
      · have e1 : (tt.toList == []) = true := by rw [eq_const tt _ [] rfl, HTT.out, lst_str, decide_eq_true ht]
        have e2 : tt.toList.isEmpty = true := by rw [emp_str, HTT.out, lst_str, ht]; rfl
        have HFIN := Aside0.mk (show (⟨#[65, 84, 82, 78]⟩ : ByteArray) = T by rw [HT.out, ht]; rfl)
        clear ht
        go_wp2_with (fail)
        go_ret
        exact ⟨by rw [← HFIN.out]; rfl, HB1.out⟩
      · have e1 : (tt.toList == []) = false := by rw [eq_const tt _ [] rfl, HTT.out, lst_str, decide_eq_false ht]
        have e2 : tt.toList.isEmpty = false := by rw [emp_str, HTT.out, lst_str]; cases t with | nil => exact absurd rfl ht | cons x y => rfl
        obtain ⟨C, hC⟩ : ∃ C, C = (⟨#[65, 84, 82, 78, 32]⟩ : ByteArray) ++ tt := ⟨_, rfl⟩
        have hcat := cat_run _ _ C hC (by decide) (by omega)
        have HFIN := Aside0.mk (show C = T by rw [hC, HT.out, HTT.out, show (⟨#[65, 84, 82, 78, 32]⟩ : ByteArray) = str [65, 84, 82, 78, 32] from rfl, ← str_append]; congr 1; simp [V.rline, ht, lATRN])
        clear hC ht
        go_wp2_with (fail)
        go_ret
        exact ⟨by rw [← HFIN.out]; rfl, HB1.out⟩
    have n11 : (k == 11) = false := by rw [beq_eq_false_iff_ne]; exact hk11
    have m11 : decide (k = 11) = false := decide_eq_false hk11
    have HFIN := Aside0.mk (show (⟨#[]⟩ : ByteArray) = str (V.rbase ⟨k, t, p, xs⟩) ∧ V.rline ⟨k, t, p, xs⟩ = V.rbase ⟨k, t, p, xs⟩ ++ xs.flatMap V.prmB from ⟨by simp [V.rbase, hk2, hk3]; rfl, by simp [V.rline, V.rbase, hk1, hk2, hk3, hk4, hk5, hk6, hk7, hk8, hk9, hk10, hk11]⟩)
    clear hk1 hk2 hk3 hk4 hk5 hk6 hk7 hk8 hk9 hk10 hk11
    go_wp2_with (fail)
    go_meet
    case rel => exact ⟨_, rfl, HFIN, ⟨Below.refl _ _⟩⟩
  case rest =>
  obtain ⟨S0, rfl, HS0, HB2⟩ := hcut
  obtain ⟨w2, rfl⟩ : ∃ wz : World, wz = wc := ⟨_, rfl⟩
  have HX2 := Aside0.mk (Kd.C_below HX.out HB2.out)
  clear a0 a1 a2 a3 a4 a5
  apply_assumption
  go_wp2_with (fail)
  go_loopg [3, 4] xs.length (fun g v3 v4 wr => ∃ (n : Nat) (S : ByteArray), n ≤ xs.length ∧ g + n = xs.length ∧ v3 = .string S ∧ S.size ≤ 100000 ∧ v4 = .int .i64 n ∧ Aside0 (S = str (V.rbase ⟨k, t, p, xs⟩ ++ (xs.take n).flatMap V.prmB) ∧ Drawn0 w2 wr))
  case atStart => exact ⟨0, S0, by omega, by omega, rfl, by rw [HS0.out.1, str_size]; have := HRB.out; omega, rfl, ⟨by rw [HS0.out.1]; simp, Drawn0.refl _⟩⟩
  case round =>
    obtain ⟨n, S, hn, hg, rfl, hSs, rfl, H⟩ := hrel
    obtain ⟨wx, rfl⟩ : ∃ wz : World, wz = wr := ⟨_, rfl⟩
    have hbx : Below w1.heap.size w1 wx := HB2.out.trans ((drawn_below H.out.2).mono HB2.out.size)
    obtain ⟨⟨a0, a1, a2, a3, a4, a5⟩, _⟩ := cells6 (HRO.out wx hbx)
    have HBX := Aside0.mk hbx
    have hx4 := H4.out
    clear hbx
    by_cases hlt : n < xs.length
    · obtain ⟨x, hx⟩ : ∃ x, x = xs.getD n ([], []) := ⟨_, rfl⟩
      obtain ⟨ad, rfl, p0, p1'⟩ := kp_at (Kd.C_below HX2.out (drawn_below H.out.2)) n hlt x hx
      have hft := flat_take xs n hlt x hx
      have hfl := flat_len xs (n + 1)
      have hlt' : (n : Int) < (xs.length : Int) := by omega
      have h0 : (0 : Int) ≤ (n : Int) := by omega
      have hxl : x.1.length + x.2.length + 2 ≤ 30000 := by
        have := H5.out
        rw [hft, List.length_append] at hfl
        have e : (V.prmB x).length = x.1.length + x.2.length + 2 := by unfold V.prmB; simp; omega
        omega
      obtain ⟨C1, hC1⟩ : ∃ C, C = S ++ (⟨#[32]⟩ : ByteArray) := ⟨_, rfl⟩
      obtain ⟨X1, hX1⟩ : ∃ X, X = str x.1 := ⟨_, rfl⟩
      obtain ⟨X2, hX2⟩ : ∃ X, X = str x.2 := ⟨_, rfl⟩
      obtain ⟨C2, hC2⟩ : ∃ C, C = C1 ++ X1 := ⟨_, rfl⟩
      obtain ⟨C3, hC3⟩ : ∃ C, C = C2 ++ (⟨#[61]⟩ : ByteArray) := ⟨_, rfl⟩
      obtain ⟨C4, hC4⟩ : ∃ C, C = C3 ++ X2 := ⟨_, rfl⟩
      have z1 : X1.size = x.1.length := by rw [hX1, str_size]
      have z2 : X2.size = x.2.length := by rw [hX2, str_size]
      have s1 : C1.size = S.size + 1 := by rw [hC1, ByteArray.size_append]; rfl
      have s2 : C2.size = C1.size + X1.size := by rw [hC2, ByteArray.size_append]
      have s3 : C3.size = C2.size + 1 := by rw [hC3, ByteArray.size_append]; rfl
      have hcat1 := cat_run _ _ C1 hC1 (by omega) (by decide)
      have hcat2 := cat_run _ _ C2 hC2 (by omega) (by omega)
      have hcat3 := cat_run _ _ C3 hC3 (by omega) (by decide)
      have hcat4 := cat_run _ _ C4 hC4 (by omega) (by omega)
      have hE : C4 = str (V.rbase ⟨k, t, p, xs⟩ ++ (xs.take (n + 1)).flatMap V.prmB) := by
        rw [hC4, hC3, hC2, hC1, H.out.1, hX1, hX2, hft]
        rw [show (⟨#[32]⟩ : ByteArray) = str [32] from rfl, show (⟨#[61]⟩ : ByteArray) = str [61] from rfl]
        simp only [← str_append]
        congr 1
        unfold V.prmB
        simp
      have HE := Aside0.mk hE
      have hE2 : C4.size ≤ 60000 := by
        rw [hE, str_size, List.length_append]
        have := HRB.out
        have := H5.out
        omega
      have HE2 := Aside0.mk hE2
      rw [← hX1] at p0
      rw [← hX2] at p1'
      clear hx hft hfl hxl hC1 hX1 hX2 hC2 hC3 hC4 z1 z2 s1 s2 s3 hE hE2
      go_wp2_with (fail)
      repeat (go_quiet (fail); try go_wp2_with (fail))
      go_roundg (gk - 1)
      case measure => omega
      case rel => exact ⟨n + 1, C4, by omega, by omega, rfl, by have := HE2.out; omega, by go_num, ⟨HE.out, by repeat (first | exact Drawn0.refl _ | exact H.out.2 | apply Drawn0.step)⟩⟩
    · have hne : n = xs.length := by omega
      subst hne
      have t3 : decide ((xs.length : Int) < (xs.length : Int)) = false := by simp
      have HFIN := Aside0.mk (show S = T by rw [H.out.1, List.take_length, HT.out, HS0.out.2])
      clear hlt hg hn
      go_wp2_with (fail)
      go_ret
      exact ⟨by rw [← HFIN.out]; rfl, HB1.out.trans (HBX.out.mono HB1.out.size)⟩
set_option maxRecDepth 100000 in
set_option maxHeartbeats 4000000 in
theorem rLine_any (c : V.Cmd) (A : Option Addr) (q : Nat) (w : World) (hf : Fit c) (hx : Kd.C kp w A c.prms.length c.prms) :
    Calls Tryz.prog 9 #[cagg c A q] w fun e w' => e = .returned (oRes (V.text c)) ∧ Below w.heap.size w w' := by
  obtain ⟨T, hT⟩ : ∃ T, T = V.text c := ⟨_, rfl⟩
  rw [← hT]
  rw [text_rline] at hT
  have HT := Aside0.mk hT
  obtain ⟨L, hL⟩ : ∃ L, L = str (V.rline c) := ⟨_, rfl⟩
  have hLs : L.size ≤ 60000 := by rw [hL, str_size]; exact rline_len c hf
  obtain ⟨w1, hw1⟩ : ∃ w1, w1 = w.alloc (.cells #[.int .i64 c.kind, .string (str c.text), .bool c.path.null, .string (str c.path.loc), .string (str c.path.dom), .slice A c.prms.length q] 26) := ⟨_, rfl⟩
  have hb1 : Below w.heap.size w w1 := by rw [hw1]; exact (Below.refl _ w).alloc (Nat.le_refl _) _
  have hra : w1.heap[w.heap.size]? = some (.cells #[.int .i64 c.kind, .string (str c.text), .bool c.path.null, .string (str c.path.loc), .string (str c.path.dom), .slice A c.prms.length q] 26 (0, 0)) := by rw [hw1]; exact heap_alloc_new _ _
  have hsb : w.heap.size < w1.heap.size := (Array.getElem?_eq_some_iff.1 hra).1
  have hrow : ∀ wx, Below w1.heap.size w1 wx → wx.heap[w.heap.size]? = some (.cells #[.int .i64 c.kind, .string (str c.text), .bool c.path.null, .string (str c.path.loc), .string (str c.path.dom), .slice A c.prms.length q] 26 (0, 0)) := fun wx h => (h.block _ hsb).trans hra
  have hli := rline_any c A q w1 hf (Kd.C_below hx hb1)
  rw [← hL] at hli
  have hve := fun w => rverb_any L w (by omega)
  rw [show lst L = V.rline c from by rw [hL, lst_str]] at hve
  have HRO := Aside0.mk hrow
  have HX := Aside0.mk (Kd.C_below hx hb1)
  have HB1 := Aside0.mk hb1
  have HLI := Aside0.mk hli
  have HL := Aside0.mk hL
  have HCNT := Aside0.mk hf.cnt
  obtain ⟨⟨a0, a1, a2, a3, a4, a5⟩, _⟩ := cells6 hra
  clear hT hb1 hx hra hsb hrow hf hli hL hLs
  go_enter Tryz.func9, Tryz.ntmps9
  go_upto_region 1 with (fail)
  rw [← hw1]
  clear hw1
  cases hp : (V.parse (V.rline c)).1 with
  | none =>
    have HTN := Aside0.mk (show T = none by rw [HT.out, hp, if_neg (by simp)])
    obtain ⟨n, hn⟩ : ∃ n, n = V.code (V.rline c) := ⟨_, rfl⟩
    have hnz : (n != 0) = true := by
      have h : V.code (V.rline c) = 500 ∨ V.code (V.rline c) = 501 ∨ V.code (V.rline c) = 504 := code_pos _ hp
      rw [← hn] at h
      rw [bne_iff_ne]
      omega
    rw [← hn] at hve
    have HVE := Aside0.mk hve
    clear hve hp hn
    go_wp2_with (first | (go_at_call 33; (with_reducible refine Calls.mono HLI.out ?_); rintro e w2 ⟨rfl, h⟩; have H2 := Aside0.mk h; clear h) | (go_at_call 7; (with_reducible refine Calls.mono (HVE.out _) ?_); rintro e w3 ⟨⟨A3, q3, rfl, hC, hl⟩, h⟩; have H3 := Aside0.mk (H2.out.trans (h.mono H2.out.size)); clear h hC hl))
    go_ret2
    exact ⟨by rw [HTN.out]; rfl, HB1.out.trans ((H3.out.alloc H3.out.size _).mono HB1.out.size)⟩
  | some x =>
    obtain ⟨e1, e2⟩ : V.cmd (V.rline c) = x ∧ V.code (V.rline c) = 0 := ⟨by unfold V.cmd; rw [hp]; rfl, code_zero _ _ hp⟩
    rw [e1, e2] at hve
    have hxc := (fit_parse hp).cnt
    have hkc := fun A1 q1 w hC h2 => kcmd_any x c A1 A q1 q w hC h2 (by omega)
    have HVE := Aside0.mk hve
    have hTT : T = if x = c then some (V.rline c) else none := by
      rw [HT.out, hp]
      by_cases h : x = c
      · rw [if_pos h, if_pos (by rw [h])]
      · rw [if_neg h, if_neg (fun e => h (Option.some.inj e))]
    have HTT := Aside0.mk hTT
    have HKC := Aside0.mk hkc
    clear hve hp e1 e2 hxc hTT hkc
    go_upto_region 3 with (first | (go_at_call 33; (with_reducible refine Calls.mono HLI.out ?_); rintro e w2 ⟨rfl, h⟩; have H2 := Aside0.mk h; clear h) | (go_at_call 7; (with_reducible refine Calls.mono (HVE.out _) ?_); rintro e w3 ⟨⟨A3, q3, rfl, hC, hl⟩, h⟩; have H3 := Aside0.mk (H2.out.trans (h.mono H2.out.size)); have HC3 := Aside0.mk hC; clear h hC hl))
    obtain ⟨w4, hw⟩ : ∃ wz, wz = w3.alloc (.cells #[.int .i64 x.kind, .string (str x.text), .bool x.path.null, .string (str x.path.loc), .string (str x.path.dom), .slice A3 x.prms.length q3] 26) := ⟨_, rfl⟩
    rw [← hw]
    obtain ⟨G4, hG⟩ : ∃ G, G = w3.heap.size := ⟨_, rfl⟩
    rw [← hG]
    have hr : w4.heap[G4]? = some (.cells #[.int .i64 x.kind, .string (str x.text), .bool x.path.null, .string (str x.path.loc), .string (str x.path.dom), .slice A3 x.prms.length q3] 26 (0, 0)) := by rw [hw, hG]; exact heap_alloc_new _ _
    have hb34 : Below w3.heap.size w3 w4 := by rw [hw]; exact (Below.refl _ _).alloc (Nat.le_refl _) _
    have hb4 : Below w1.heap.size w1 w4 := H3.out.trans (hb34.mono H3.out.size)
    have HB4 := Aside0.mk hb4
    have HC4 := Aside0.mk (Kd.C_below HC3.out hb34)
    have HX4 := Aside0.mk (Kd.C_below HX.out hb4)
    clear a0 a1 a2 a3 a4 a5
    obtain ⟨⟨b0, b1, b2, b3, b4, b5⟩, _⟩ := cells6 hr
    obtain ⟨⟨a0, a1, a2, a3, a4, a5⟩, _⟩ := cells6 (HRO.out w4 hb4)
    clear hw hG hr hb34 hb4
    by_cases hxc : x = c
    · have HTS := Aside0.mk (show T = some (V.rline c) by rw [HTT.out, if_pos hxc])
      have HXC := Aside0.mk hxc
      clear hxc
      go_wp2_with (first | (go_at_call 12; (with_reducible refine Calls.mono (HKC.out A3 q3 w4 HC4.out HX4.out) ?_); rintro e w5 ⟨rfl, h⟩; have H5 := Aside0.mk h; clear h; rw [decide_eq_true HXC.out]))
      go_ret2
      exact ⟨by rw [HTS.out, HL.out]; rfl, HB1.out.trans ((HB4.out.trans (H5.out.mono HB4.out.size)).mono HB1.out.size)⟩
    · have HTN := Aside0.mk (show T = none by rw [HTT.out, if_neg hxc])
      have HXC := Aside0.mk hxc
      clear hxc
      go_wp2_with (first | (go_at_call 12; (with_reducible refine Calls.mono (HKC.out A3 q3 w4 HC4.out HX4.out) ?_); rintro e w5 ⟨rfl, h⟩; have H5 := Aside0.mk h; clear h; rw [decide_eq_false HXC.out]))
      go_ret2
      exact ⟨by rw [HTN.out]; rfl, HB1.out.trans ((HB4.out.trans (H5.out.mono HB4.out.size)).mono HB1.out.size)⟩
set_option maxRecDepth 100000 in
set_option maxHeartbeats 4000000 in
theorem rParam_any (c : V.Cmd) (A : Option Addr) (q : Nat) (key : ByteArray) (w : World) (hx : Kd.C kp w A c.prms.length c.prms) (hn : c.prms.length ≤ 1000000) :
    Calls Tryz.prog 11 #[cagg c A q, .string key] w fun e w' => e = .returned (oRes (V.param (lst key) c.prms)) ∧ Below w.heap.size w w' := by
  obtain ⟨T, hT⟩ : ∃ T, T = V.param (lst key) c.prms := ⟨_, rfl⟩
  rw [← hT]
  obtain ⟨k, t, p, xs⟩ := c
  simp only at hx hn hT ⊢
  have HT := Aside0.mk hT
  obtain ⟨w1, hw1⟩ : ∃ w1, w1 = w.alloc (.cells #[.int .i64 k, .string (str t), .bool p.null, .string (str p.loc), .string (str p.dom), .slice A xs.length q] 26) := ⟨_, rfl⟩
  have hb1 : Below w.heap.size w w1 := by rw [hw1]; exact (Below.refl _ w).alloc (Nat.le_refl _) _
  have hra : w1.heap[w.heap.size]? = some (.cells #[.int .i64 k, .string (str t), .bool p.null, .string (str p.loc), .string (str p.dom), .slice A xs.length q] 26 (0, 0)) := by rw [hw1]; exact heap_alloc_new _ _
  have HX := Aside0.mk (Kd.C_below hx hb1)
  have HB1 := Aside0.mk hb1
  have HRA := Aside0.mk hra
  clear hT hb1 hx hra
  go_enter Tryz.func11, Tryz.ntmps11
  go_upto_region 1 with (fail)
  rw [← hw1]
  clear hw1
  go_wp2_with (fail)
  go_loopg [6] xs.length (fun g v6 wr => ∃ n : Nat, n ≤ xs.length ∧ g + n = xs.length ∧ v6 = .int .i64 n ∧ wr = w1 ∧ Aside0 (∀ j, j < n → ¬ (xs.getD j ([], [])).1 = lst key))
  case atStart => exact ⟨0, by omega, by omega, rfl, rfl, ⟨fun j hj => by omega⟩⟩
  case round =>
    obtain ⟨n, hn2, hg, rfl, rfl, H⟩ := hrel
    obtain ⟨wx, rfl⟩ : ∃ wz : World, wz = wr := ⟨_, rfl⟩
    obtain ⟨⟨a0, a1, a2, a3, a4, a5⟩, _⟩ := cells6 HRA.out
    by_cases hlt : n < xs.length
    · obtain ⟨x, hx⟩ : ∃ x, x = xs.getD n ([], []) := ⟨_, rfl⟩
      obtain ⟨ad, rfl, p0, p1'⟩ := kp_at HX.out n hlt x hx
      have ek : ((str x.1).toList == key.toList) = decide (x.1 = lst key) := by rw [str_eqB, lst_str]
      have hlt' : (n : Int) < (xs.length : Int) := by omega
      have h0 : (0 : Int) ≤ (n : Int) := by omega
      have HXE := Aside0.mk hx
      clear hx
      by_cases he : x.1 = lst key
      · rw [decide_eq_true he] at ek
        have hpf : V.pfind (lst key) xs 0 = some n := by
          rw [V.pfind_drop (lst key) xs n hn2 H.out, List.drop_eq_getElem_cons hlt]
          have e : (xs[n]).1 = lst key := by rw [← he, HXE.out, List.getD_eq_getElem?_getD, List.getElem?_eq_getElem hlt]; rfl
          unfold V.pfind
          rw [if_pos e]
        have HTS := Aside0.mk (show T = some x.2 by rw [HT.out]; unfold V.param; rw [hpf, HXE.out])
        clear hpf he
        go_wp2_with (fail)
        go_ret2
        exact ⟨by rw [HTS.out]; rfl, HB1.out⟩
      · rw [decide_eq_false he] at ek
        have HNE := Aside0.mk he
        clear he
        go_wp2_with (fail)
        go_roundg (gk - 1)
        case measure => omega
        case rel =>
          refine ⟨n + 1, by omega, by omega, by go_num, rfl, ⟨fun j hj => ?_⟩⟩
          by_cases hjn : j = n
          · rw [hjn, ← HXE.out]; exact HNE.out
          · exact H.out j (by omega)
    · have hne : n = xs.length := by omega
      have HTN := Aside0.mk (show T = none by
        rw [HT.out]
        unfold V.param
        rw [V.pfind_drop (lst key) xs n hn2 H.out, hne, List.drop_length]
        rfl)
      subst hne
      have t3 : decide ((xs.length : Int) < (xs.length : Int)) = false := by simp
      clear hlt hg hn2
      go_wp2_with (fail)
      go_ret2
      exact ⟨by rw [HTN.out]; rfl, HB1.out⟩
end Go.Proofs.YteiknmcmaemcoaaGreatDoor
/- (ZD) VerbExact: the walk. -/
namespace Go.Proofs.YteiknmcmaemcoaaGreatDoor
open Go.RowKit Go.Lib
open Go.Proofs.YteiknmcmaemcoaaGreatDoorW.PrintWords Go.Proofs.YteiknmcmaemcoaaGreatDoorW.PrintLast Go.Proofs.YteiknmcmaemcoaaGreatDoorW.PrintMore
set_option linter.unusedVariables false
set_option linter.unusedSimpArgs false
set_option maxRecDepth 100000 in
set_option maxHeartbeats 8000000 in
theorem exact_walk (s : ByteArray) (c : V.Cmd) (A : Option Addr) (q : Nat) (key : ByteArray) (w : World) (hc : OkCmd c) (hx : Kd.C kp w A c.prms.length c.prms) (hsz : s.size ≤ 140737488351232) (hksz : key.size ≤ 140737488351232) (hv : Vars w) :
    Calls Tryz.prog 3 #[.string s, cagg c A q, .string key] w fun e w' => e = .returned (.bool true) ∧ Below w.heap.size w w' := by
  obtain ⟨w1, hw1⟩ : ∃ w1, w1 = w.alloc (.cells #[.int .i64 c.kind, .string (str c.text), .bool c.path.null, .string (str c.path.loc), .string (str c.path.dom), .slice A c.prms.length q] 26) := ⟨_, rfl⟩
  have hb1 : Below w.heap.size w w1 := by rw [hw1]; exact (Below.refl _ w).alloc (Nat.le_refl _) _
  have hra : w1.heap[w.heap.size]? = some (.cells #[.int .i64 c.kind, .string (str c.text), .bool c.path.null, .string (str c.path.loc), .string (str c.path.dom), .slice A c.prms.length q] 26 (0, 0)) := by rw [hw1]; exact heap_alloc_new _ _
  have hsb : w.heap.size < w1.heap.size := (Array.getElem?_eq_some_iff.1 hra).1
  have hrow : ∀ wx, Below w1.heap.size w1 wx → wx.heap[w.heap.size]? = some (.cells #[.int .i64 c.kind, .string (str c.text), .bool c.path.null, .string (str c.path.loc), .string (str c.path.dom), .slice A c.prms.length q] 26 (0, 0)) := fun wx h => (h.block _ hsb).trans hra
  have hhv := heavy_any c A q w1 (Kd.C_below hx hb1) hc
  have HRO := Aside0.mk hrow
  have HX1 := Aside0.mk (Kd.C_below hx hb1)
  have HV1 := Aside0.mk (hv.go hb1)
  have HB1 := Aside0.mk hb1
  have HOK := Aside0.mk hc
  obtain ⟨B, hB⟩ : ∃ B, B = V.heavy c := ⟨_, rfl⟩
  rw [← hB] at hhv
  have HHV := Aside0.mk hhv
  have HB := Aside0.mk hB
  obtain ⟨⟨a0, a1, a2, a3, a4, a5⟩, _⟩ := cells6 hra
  clear hhv hB hrow hsb hra hb1 hv hx hc hksz
  go_enter Tryz.func3, Tryz.ntmps3
  go_upto_region 1 with (fail)
  rw [← hw1]
  clear hw1
  by_cases hs : 1000 < s.size
  · have t1 : decide ((1000 : Int) < (s.size : Int)) = true := by simp; omega
    have t2 : decide (1000 < s.size) = true := by simp; omega
    go_wp2_with (fail)
    go_ret
    exact ⟨rfl, HB1.out⟩
  have t1 : decide ((1000 : Int) < (s.size : Int)) = false := by simp; omega
  have t2 : decide (1000 < s.size) = false := by simp; omega
  cases B with
  | true =>
    go_wp2_with (first | (go_at_call 5; (with_reducible refine Calls.mono HHV.out ?_); rintro e w2 ⟨rfl, h⟩; have H2 := Aside0.mk h; clear h))
    go_ret
    exact ⟨rfl, HB1.out.trans (H2.out.mono HB1.out.size)⟩
  | false =>
  obtain ⟨hfit, _⟩ := heavy_fit c HOK.out HB.out.symm
  have hcnt := hfit.cnt
  have htx := fun w hx hv => text_any c A q w hfit hx hv
  have hli := fun w hx => rLine_any c A q w hfit hx
  obtain ⟨T, hT⟩ : ∃ T, T = V.text c := ⟨_, rfl⟩
  rw [← hT] at htx hli
  obtain ⟨X, hX⟩ : ∃ X, X = str (T.getD []) := ⟨_, rfl⟩
  unfold textV at htx
  unfold oRes at hli
  rw [← hX] at htx hli
  have hp1 := fun w hx => param_any c A q (lst key) w hx (by omega)
  have hp2 := fun w hx => rParam_any c A q key w hx (by omega)
  rw [str_lst] at hp1
  obtain ⟨P, hP⟩ : ∃ P, P = V.param (lst key) c.prms := ⟨_, rfl⟩
  rw [← hP] at hp1 hp2
  obtain ⟨PV, hPV⟩ : ∃ PV, PV = str (P.getD []) := ⟨_, rfl⟩
  obtain ⟨PB, hPB⟩ : ∃ PB, PB = P.isSome := ⟨_, rfl⟩
  unfold oRes at hp1 hp2
  rw [← hPV, ← hPB] at hp1 hp2
  have hps := fun w hv => parse_uni s w (by omega) hv
  have hvs := fun w => rverb_any s w (by omega)
  obtain ⟨x, hxx⟩ : ∃ x, x = V.cmd (lst s) := ⟨_, rfl⟩
  obtain ⟨n, hn⟩ : ∃ n, n = V.code (lst s) := ⟨_, rfl⟩
  rw [← hxx, ← hn] at hps hvs
  have hkc : x.prms.length ≤ 1000000 → ∀ (A1 A2 : Option Addr) (q1 q2 : Nat) (w : World), Kd.C kp w A1 x.prms.length x.prms → Kd.C kp w A2 x.prms.length x.prms → Calls Tryz.prog 12 #[cagg x A1 q1, cagg x A2 q2] w fun e w' => e = .returned (.bool true) ∧ Below w.heap.size w w' := by
    intro hl A1 A2 q1 q2 w h1 h2
    have h := kcmd_any x x A1 A2 q1 q2 w h1 h2 hl
    rw [decide_eq_true rfl] at h
    exact h
  have HTX := Aside0.mk htx
  have HLI := Aside0.mk hli
  have HP1 := Aside0.mk hp1
  have HP2 := Aside0.mk hp2
  have HPS := Aside0.mk hps
  have HVS := Aside0.mk hvs
  have HKC := Aside0.mk hkc
  have exx : (X.toList == X.toList) = true := by simp
  have epp : (PV.toList == PV.toList) = true := by simp
  have ebb : (PB == PB) = true := by simp
  clear htx hli hp1 hp2 hps hvs hkc hT hX hP hPV hPB hxx hn hfit hcnt hs
  go_upto_region 4 with (first | (go_at_call 5; (with_reducible refine Calls.mono HHV.out ?_); rintro e w2 ⟨rfl, h⟩; have H2 := Aside0.mk h; clear h) | (go_at_call 6; (with_reducible refine Calls.mono (HPS.out _ (HV1.out.go H2.out)) ?_); rintro e x3 ⟨⟨A3, q3, rfl, hC, hl⟩, h⟩; have H3 := Aside0.mk (H2.out.trans (h.mono H2.out.size)); have HC3 := Aside0.mk hC; have HL3 := Aside0.mk hl; clear h hC hl))
  clear a0 a1 a2 a3 a4 a5
  obtain ⟨w3, hw⟩ : ∃ wz, wz = x3.alloc (.cells #[.int .i64 x.kind, .string (str x.text), .bool x.path.null, .string (str x.path.loc), .string (str x.path.dom), .slice A3 x.prms.length q3] 26) := ⟨_, rfl⟩
  rw [← hw]
  obtain ⟨G3, hG⟩ : ∃ G, G = x3.heap.size := ⟨_, rfl⟩
  rw [← hG]
  have hr : w3.heap[G3]? = some (.cells #[.int .i64 x.kind, .string (str x.text), .bool x.path.null, .string (str x.path.loc), .string (str x.path.dom), .slice A3 x.prms.length q3] 26 (0, 0)) := by rw [hw, hG]; exact heap_alloc_new _ _
  have hb1 : Below x3.heap.size x3 w3 := by rw [hw]; exact (Below.refl _ _).alloc (Nat.le_refl _) _
  have hb2 : Below w1.heap.size w1 w3 := H3.out.trans (hb1.mono H3.out.size)
  have hs2 : G3 < w3.heap.size := (Array.getElem?_eq_some_iff.1 hr).1
  have hrow : ∀ wx, Below w3.heap.size w3 wx → wx.heap[G3]? = some (.cells #[.int .i64 x.kind, .string (str x.text), .bool x.path.null, .string (str x.path.loc), .string (str x.path.dom), .slice A3 x.prms.length q3] 26 (0, 0)) := fun wx h => (h.block _ hs2).trans hr
  have HB3 := Aside0.mk hb2
  have HV3 := Aside0.mk (HV1.out.go hb2)
  have HC3b := Aside0.mk (Kd.C_below HC3.out hb1)
  have HRO3 := Aside0.mk hrow
  clear hw hG hb1 hb2 hs2 hrow hr
  go_upto_region 5 with (first | (go_at_call 7; (with_reducible refine Calls.mono (HVS.out _) ?_); rintro e x4 ⟨⟨A4, q4, rfl, hC, hl⟩, h⟩; have H4 := Aside0.mk h; have HC4 := Aside0.mk hC; clear h hC hl))
  obtain ⟨w4, hw⟩ : ∃ wz, wz = x4.alloc (.cells #[.int .i64 x.kind, .string (str x.text), .bool x.path.null, .string (str x.path.loc), .string (str x.path.dom), .slice A4 x.prms.length q4] 26) := ⟨_, rfl⟩
  rw [← hw]
  obtain ⟨G4, hG⟩ : ∃ G, G = x4.heap.size := ⟨_, rfl⟩
  rw [← hG]
  have hr : w4.heap[G4]? = some (.cells #[.int .i64 x.kind, .string (str x.text), .bool x.path.null, .string (str x.path.loc), .string (str x.path.dom), .slice A4 x.prms.length q4] 26 (0, 0)) := by rw [hw, hG]; exact heap_alloc_new _ _
  have hb1 : Below x4.heap.size x4 w4 := by rw [hw]; exact (Below.refl _ _).alloc (Nat.le_refl _) _
  have hb2 : Below w3.heap.size w3 w4 := H4.out.trans (hb1.mono H4.out.size)
  have hs2 : G4 < w4.heap.size := (Array.getElem?_eq_some_iff.1 hr).1
  have hrow : ∀ wx, Below w4.heap.size w4 wx → wx.heap[G4]? = some (.cells #[.int .i64 x.kind, .string (str x.text), .bool x.path.null, .string (str x.path.loc), .string (str x.path.dom), .slice A4 x.prms.length q4] 26 (0, 0)) := fun wx h => (h.block _ hs2).trans hr
  have HB4 := Aside0.mk hb2
  have HV4 := Aside0.mk (HV3.out.go hb2)
  have HC4b := Aside0.mk (Kd.C_below HC4.out hb1)
  have HRO4 := Aside0.mk hrow
  clear hw hG hb1 hb2 hs2 hrow hr
  have HB14 := Aside0.mk (HB3.out.trans (HB4.out.mono HB3.out.size))
  obtain ⟨⟨a0, a1, a2, a3, a4, a5⟩, _⟩ := cells6 (HRO.out w4 HB14.out)
  have HX4 := Aside0.mk (Kd.C_below HX1.out HB14.out)
  go_upto_region 6 with (first | (go_at_call 8; (with_reducible refine Calls.mono (HTX.out w4 HX4.out HV4.out) ?_); rintro e w5 ⟨rfl, h⟩; have H5 := Aside0.mk h; clear h))
  clear a0 a1 a2 a3 a4 a5
  obtain ⟨⟨a0, a1, a2, a3, a4, a5⟩, _⟩ := cells6 (HRO.out w5 (HB14.out.trans (H5.out.mono HB14.out.size)))
  have HX5 := Aside0.mk (Kd.C_below HX4.out H5.out)
  go_upto_region 7 with (first | (go_at_call 9; (with_reducible refine Calls.mono (HLI.out w5 HX5.out) ?_); rintro e w6 ⟨rfl, h⟩; have H6 := Aside0.mk (H5.out.trans (h.mono H5.out.size)); clear h))
  clear a0 a1 a2 a3 a4 a5
  obtain ⟨⟨a0, a1, a2, a3, a4, a5⟩, _⟩ := cells6 (HRO.out w6 (HB14.out.trans (H6.out.mono HB14.out.size)))
  have HX6 := Aside0.mk (Kd.C_below HX4.out H6.out)
  go_upto_region 8 with (first | (go_at_call 10; (with_reducible refine Calls.mono (HP1.out w6 HX6.out) ?_); rintro e w7 ⟨rfl, h⟩; have H7 := Aside0.mk (H6.out.trans (h.mono H6.out.size)); clear h))
  clear a0 a1 a2 a3 a4 a5
  obtain ⟨⟨a0, a1, a2, a3, a4, a5⟩, _⟩ := cells6 (HRO.out w7 (HB14.out.trans (H7.out.mono HB14.out.size)))
  have HX7 := Aside0.mk (Kd.C_below HX4.out H7.out)
  go_upto_region 9 with (first | (go_at_call 11; (with_reducible refine Calls.mono (HP2.out w7 HX7.out) ?_); rintro e w8 ⟨rfl, h⟩; have H8 := Aside0.mk (H7.out.trans (h.mono H7.out.size)); clear h))
  clear a0 a1 a2 a3 a4 a5
  have hb48 : Below w3.heap.size w3 w8 := HB4.out.trans (H8.out.mono HB4.out.size)
  obtain ⟨⟨b0, b1, b2, b3, b4, b5⟩, _⟩ := cells6 (HRO3.out w8 hb48)
  obtain ⟨⟨d0, d1, d2, d3, d4, d5⟩, _⟩ := cells6 (HRO4.out w8 H8.out)
  have HC38 := Aside0.mk (Kd.C_below HC3b.out hb48)
  have HC48 := Aside0.mk (Kd.C_below HC4b.out H8.out)
  have HB8 := Aside0.mk (HB1.out.trans ((HB14.out.trans (H8.out.mono HB14.out.size)).mono HB1.out.size))
  have HV8 := Aside0.mk (HV4.out.go H8.out)
  have HLX := Aside0.mk (Nat.le_trans HL3.out (by decide : 100000 ≤ 1000000))
  clear hb48
  cases T with
  | none =>
    simp only [Option.isSome_none, errOf, Bool.false_eq_true, if_false]
    go_wp2_with (first | (go_at_call 12; (with_reducible refine Calls.mono (HKC.out HLX.out A3 A4 q3 q4 w8 HC38.out HC48.out) ?_); rintro e w9 ⟨rfl, h⟩; have H9 := Aside0.mk h; clear h) | (go_at_call 13; (with_reducible refine Calls.mono (wakes_any _ (HV8.out.go H9.out)) ?_); rintro e w10 ⟨rfl, h⟩; have H10 := Aside0.mk (H9.out.trans (h.mono H9.out.size)); clear h))
    go_ret
    exact ⟨rfl, HB8.out.trans (H10.out.mono HB8.out.size)⟩
  | some tb =>
    simp only [Option.isSome_some, errOf, if_true]
    go_wp2_with (first | (go_at_call 12; (with_reducible refine Calls.mono (HKC.out HLX.out A3 A4 q3 q4 w8 HC38.out HC48.out) ?_); rintro e w9 ⟨rfl, h⟩; have H9 := Aside0.mk h; clear h) | (go_at_call 13; (with_reducible refine Calls.mono (wakes_any _ (HV8.out.go H9.out)) ?_); rintro e w10 ⟨rfl, h⟩; have H10 := Aside0.mk (H9.out.trans (h.mono H9.out.size)); clear h))
    go_ret
    exact ⟨rfl, HB8.out.trans (H10.out.mono HB8.out.size)⟩
end Go.Proofs.YteiknmcmaemcoaaGreatDoor
