/- VerbLong: the walk. -/
import Derived.Test.YteiknmcmaemcoaaDoorProg
import Derived.WalkKit
import Derived.WalkLawsBesides
import Derived.Outline
import Derived.LoopTactic
import Derived.Lib.Hide
import Derived.Deep.QuietTactic
import Derived.BigQuiet
import Derived.Deep.LoopGhost
import Derived.Deep.DeepCutAuto
import Derived.Deep.CutBlock
import Derived.Deep.RegionHeld3
import Derived.Deep.RegionWith
import Derived.Deep.WholeRow
import Derived.Laws.Rows
import Derived.Laws.Tables
import Derived.Laws.ResultCell
import Derived.StillTailTactics
import Derived.Deep.DeepMust
import Derived.IntWalk
import Derived.KernelRfl
import Derived.Test.YteiknmcmaemcoaaDoorWWords
import Derived.Test.YteiknmcmaemcoaaDoorWLast
import Derived.Test.YteiknmcmaemcoaaDoorWMore
import Derived.RegionTactic
import Derived.Deep.CutBlock
import Derived.Test.YteiknmcmaemcoaaDoorVLa
namespace Go.Proofs.YteiknmcmaemcoaaDoor
open Go.RowKit Go.Lib
open Go.Proofs.YteiknmcmaemcoaaDoorW.PrintWords Go.Proofs.YteiknmcmaemcoaaDoorW.PrintLast Go.Proofs.YteiknmcmaemcoaaDoorW.PrintMore
set_option linter.unusedVariables false
set_option linter.unusedSimpArgs false
theorem long_fit (x : UInt8) (n : Nat) (h : n ≤ 505) : Fit ⟨6, List.replicate n x, V.noPath, []⟩ := ⟨(by decide : (Lit.int .i64 6).wf = true), by simp; omega, Nat.zero_le _, Nat.zero_le _, Nat.zero_le _, Nat.zero_le _⟩
theorem long_succ (x : UInt8) (n : Nat) : longL x (n + 1) = longL x n ++ [x] := by
  unfold longL; rw [List.replicate_succ', List.append_assoc]
theorem one_byte_str (x : UInt8) : strOfNums [(x.toNat : Int)] = str [x] := by
  simp [strOfNums, str]
set_option maxRecDepth 100000 in
set_option maxHeartbeats 4000000 in
theorem long_walk (n c : Int) (w : World) (hn : (Lit.int .i64 n).wf = true) (hc : (Lit.int .u8 c).wf = true) (hv : Vars w) :
    Calls Tryd.prog 7 #[.int .i64 n, .int .u8 c] w fun e w' => e = .returned (.bool true) ∧ Below w.heap.size w w' := by
  have HV := Aside0.mk hv
  have hc0 : 0 ≤ c ∧ c ≤ 255 := by
    have e1 : IntKind.u8.min = 0 := rfl
    have e2 : IntKind.u8.max = 255 := rfl
    simp [Lit.wf, e1, e2] at hc
    exact hc
  clear hn hc hv
  go_enter Tryd.func7, Tryd.ntmps7
  go_upto_region 1 with (fail)
  go_cut [0] (fun v0 wc => ∃ q : Nat, v0 = .int .i64 q ∧ q < 2 ∧ wc = w)
  case first =>
    go_wp2_with (fail)
    go_meet
    case rel =>
      obtain ⟨q, hq, hql⟩ := rounds_small n 2 (by decide) (by decide)
      exact ⟨q, congrArg (Value.int .i64) hq, hql, rfl⟩
  case rest =>
  obtain ⟨q, rfl, hql, rfl⟩ := hcut
  obtain ⟨w, rfl⟩ : ∃ wz : World, wz = wc := ⟨_, rfl⟩
  apply_assumption
  go_upto_region 2 with (fail)
  go_cut [19] (fun v19 wc => v19 = .bool (decide (c < 33) || decide (126 < c)) ∧ wc = w)
  case first =>
    by_cases h1 : c < 33
    · go_wp2_with (fail)
      go_meet
      case rel => exact ⟨by simp [h1], rfl⟩
    · have h1' : decide (c < 33) = false := by simpa using h1
      have HE := Aside0.mk (show (decide (c < 33) || decide (126 < c)) = decide (126 < c) by rw [h1']; rfl)
      go_wp2_with (fail)
      go_meet
      case rel => exact ⟨congrArg Value.bool HE.out.symm, rfl⟩
  case rest =>
  obtain ⟨rfl, rfl⟩ := hcut
  obtain ⟨w, rfl⟩ : ∃ wz : World, wz = wc := ⟨_, rfl⟩
  apply_assumption
  go_cut [1] (fun v1 wx => ∃ x : UInt8, v1 = .int .u8 x.toNat ∧ Aside0 (33 ≤ x.toNat ∧ x.toNat ≤ 126) ∧ wx = w)
  case first =>
    obtain ⟨B, hB⟩ : ∃ B, B = (decide (c < 33) || decide (126 < c)) := ⟨_, rfl⟩
    rw [← hB]
    have HB := Aside0.mk hB
    clear hB
    cases B
    · go_wp2_with (fail)
      go_meet
      case rel =>
        have h := HB.out.symm
        simp at h
        exact ⟨UInt8.ofNat c.toNat, by simp; omega, ⟨by simp; omega, by simp; omega⟩, rfl⟩
    · go_wp2_with (fail)
      go_meet
      case rel => exact ⟨120, by rfl, ⟨by decide, by decide⟩, rfl⟩
  case rest =>
  obtain ⟨x, rfl, HX, rfl⟩ := hcut
  obtain ⟨w, rfl⟩ : ∃ wz : World, wz = wc := ⟨_, rfl⟩
  clear hc0
  apply_assumption
  go_upto_block 0 with (fail)
  go_cut [5] (fun v5 wc => ∃ T : ByteArray, v5 = .string T ∧ Aside0 (T = str (longL x (505 + q))) ∧ Aside0 (Below w.heap.size w wc))
  case first =>
    have HQ := Aside0.mk hql
    go_wp2_with (fail)
    go_loopg [5] (505 + q) (fun g v5 wr => ∃ (k : Nat) (T : ByteArray), g + k = 505 + q ∧ v5 = .string T ∧ T.size = 5 + k ∧ Aside0 (T = str (longL x k)) ∧ Aside0 (Below w.heap.size w wr))
    case atStart => exact ⟨0, _, by omega, rfl, rfl, ⟨rfl⟩, ⟨Below.refl _ _⟩⟩
    case round =>
      obtain ⟨k, T, hg, rfl, hT, HT, HB⟩ := hrel
      obtain ⟨wx, rfl⟩ : ∃ wz : World, wz = wr := ⟨_, rfl⟩
      have hlim : k ≤ 505 + q := by omega
      have hq2 := HQ.out
      by_cases hlt : k < 505 + q
      · obtain ⟨C, hC⟩ : ∃ C, C = T ++ str [x] := ⟨_, rfl⟩
        have hcat := cat_run T (str [x]) C hC (by omega) (by rw [str_size]; simp)
        have hCL : C = str (longL x (k + 1)) := by rw [hC, HT.out, ← str_append, long_succ]
        have hCS : C.size = 5 + (k + 1) := by rw [hC, ByteArray.size_append, hT, str_size]; rfl
        have hstr : ∀ (b t f1 f2 : Nat) (wy : World), wy.heap[b]? = some (.cells #[.int .u8 x.toNat] t (f1, f2)) → (convert 37 9 (.slice (some ⟨b, 0, none⟩) 1 1)).run Tryd.prog wy = .ok (.string (str [x])) wy := by
          intro b t f1 f2 wy hb
          have h := run_convert_bytes_arg (P := Tryd.prog) wy 37 5 Tryd.underlying37 Tryd.underlying5 b 0 1 1 [(x.toNat : Int)] (by simp) (fun i hi => by
            obtain rfl : i = 0 := by simp at hi; exact hi
            rw [cell_of_row wy _ _ _ _ _ hb]
            rfl) 9 Tryd.underlying9
          rw [one_byte_str] at h
          exact h
        have hs0 := hstr wx.heap.size 5 0 0 (wx.alloc (.cells #[.int .u8 x.toNat] 5)) (heap_alloc_new _ _)
        have HC := Aside0.mk hCL
        have HS := Aside0.mk hCS
        have hlt' : (T.size : Int) < 510 + q := by omega
        clear hC hCL hCS hstr
        go_wp2_with (fail)
        go_roundg (gk - 1)
        case measure => omega
        case rel => exact ⟨k + 1, C, by omega, rfl, HS.out, HC, ⟨HB.out.alloc HB.out.size _⟩⟩
      · have hlt' : ¬ (T.size : Int) < 510 + q := by omega
        have hk : k = 505 + q := by omega
        subst hk
        go_wp2_with (fail)
        go_meet
        case rel => exact ⟨T, rfl, HT, HB⟩
  case rest =>
  obtain ⟨T, rfl, HT, HB⟩ := hcut
  obtain ⟨wa, rfl⟩ : ∃ wz : World, wz = wc := ⟨_, rfl⟩
  apply_assumption
  have HVA := Aside0.mk (HV.out.go HB.out)
  have hpa := fun w hv => parse_uni T w (by rw [HT.out, str_size]; simp [longL, lVRFY]; omega) hv
  rw [HT.out, lst_str, ← HT.out] at hpa
  rcases (by omega : q = 0 ∨ q = 1) with rfl | rfl
  · have hpr := long_parse x 505 (by decide) (by decide) HX.out.1 HX.out.2
    have htx := long_text x 505 (by decide) (by decide) HX.out.1 HX.out.2
    rw [show (505 + 0 : Nat) = 505 from rfl] at hpa
    have hcd : V.code (longL x 505) = 0 := by unfold V.code; rw [hpr]
    have hcm : V.cmd (longL x 505) = ⟨6, List.replicate 505 x, V.noPath, []⟩ := by unfold V.cmd; rw [hpr]; rfl
    rw [hcd, hcm] at hpa
    have ht : ∀ (A : Option Addr) (q : Nat) (w : World), Kd.C kp w A ([] : List Prm).length [] → Vars w → Calls Tryd.prog 9 #[cagg ⟨6, List.replicate 505 x, V.noPath, []⟩ A q] w fun e w' => e = .returned (.tuple #[.string T, .int .i64 0]) ∧ Below w.heap.size w w' := by
      intro A q w hC hv
      have h := text_any ⟨6, List.replicate 505 x, V.noPath, []⟩ A q w (long_fit x 505 (by decide)) hC hv
      rw [htx] at h
      rw [HT.out]
      exact h
    obtain ⟨cm, hc⟩ : ∃ c, c = (⟨6, List.replicate 505 x, V.noPath, []⟩ : V.Cmd) := ⟨_, rfl⟩
    rw [← hc] at hpa ht
    have hc6 : cm.kind = 6 := by rw [hc]
    have hct : (str cm.text).size = 505 := by rw [hc, str_size]; simp
    have HPA := Aside0.mk hpa
    have HTX := Aside0.mk ht
    have HC6 := Aside0.mk hc6
    have HCT := Aside0.mk hct
    clear hpa hpr htx hcd hcm ht hc6 hct hql
    have hcp : cm.prms = [] := by rw [hc]
    have HCP := Aside0.mk hcp
    clear hc hcp
    go_upto_region 8 with (first | (go_at_call 10; (with_reducible refine Calls.mono (HPA.out _ HVA.out) ?_); rintro e w1 ⟨⟨A, qq, rfl, hC, hl⟩, h⟩; have H1 := Aside0.mk h; have HC := Aside0.mk hC; clear h hC hl))
    obtain ⟨w2, hw2⟩ : ∃ w2, w2 = w1.alloc (.cells #[.int .i64 cm.kind, .string (str cm.text), .bool cm.path.null, .string (str cm.path.loc), .string (str cm.path.dom), .slice A cm.prms.length qq] 26) := ⟨_, rfl⟩
    rw [← hw2]
    obtain ⟨G, hG⟩ : ∃ G, G = w1.heap.size := ⟨_, rfl⟩
    rw [← hG]
    have hr2 : w2.heap[G]? = some (.cells #[.int .i64 cm.kind, .string (str cm.text), .bool cm.path.null, .string (str cm.path.loc), .string (str cm.path.dom), .slice A cm.prms.length qq] 26 (0, 0)) := by rw [hw2, hG]; exact heap_alloc_new _ _
    have hb12 : Below w1.heap.size w1 w2 := by rw [hw2]; exact (Below.refl _ _).alloc (Nat.le_refl _) _
    have hb2 : Below wa.heap.size wa w2 := H1.out.trans (hb12.mono H1.out.size)
    have hs2 : G < w2.heap.size := (Array.getElem?_eq_some_iff.1 hr2).1
    have hrow : ∀ wx, Below w2.heap.size w2 wx → wx.heap[G]? = some (.cells #[.int .i64 cm.kind, .string (str cm.text), .bool cm.path.null, .string (str cm.path.loc), .string (str cm.path.dom), .slice A cm.prms.length qq] 26 (0, 0)) := fun wx h => (h.block _ hs2).trans hr2
    have HRO := Aside0.mk hrow
    have HB2 := Aside0.mk hb2
    have hC2 := Kd.C_below HC.out hb12
    rw [HCP.out] at hC2
    have HC2 := Aside0.mk hC2
    have HV2 := Aside0.mk (HVA.out.go hb2)
    obtain ⟨⟨a0, a1, a2, a3, a4, a5⟩, _⟩ := cells6 hr2
    clear hw2 hG hr2 hb12 hb2 hs2 hrow hC2
    go_upto_region 11 with (first | (go_at_call 9; (with_reducible refine Calls.mono (HTX.out A qq w2 HC2.out HV2.out) ?_); rintro e w3 ⟨rfl, h⟩; have H3 := Aside0.mk h; clear h))
    clear a0 a1 a2 a3 a4 a5
    obtain ⟨⟨a0, a1, a2, a3, a4, a5⟩, _⟩ := cells6 (HRO.out w3 H3.out)
    have hct := HCT.out
    rw [HC6.out] at a0
    clear a2 a3 a4 a5
    go_wp2_with (first | (go_at_call 12; (with_reducible refine Calls.mono (wakes_any _ (HV2.out.go H3.out)) ?_); rintro e w4 ⟨rfl, h⟩; have H4 := Aside0.mk (H3.out.trans (h.mono H3.out.size)); clear h))
    go_ret
    exact ⟨rfl, HB.out.trans ((HB2.out.trans (H4.out.mono HB2.out.size)).mono HB.out.size)⟩
  · have hcd := long_code1 x (505 + 1) (by decide)
    have hcm := long_cmd1 x (505 + 1) (by decide)
    rw [hcd, hcm] at hpa
    have hpk : ∀ (A : Option Addr) (q : Nat) (w : World), Kd.C kp w A V.noCmd.prms.length V.noCmd.prms → Calls Tryd.prog 11 #[cagg V.noCmd A q, .agg #[.int .i64 0, .string ⟨#[]⟩, .bool false, .string ⟨#[]⟩, .string ⟨#[]⟩, .slice none 0 0]] w fun e w' => e = .returned (.bool true) ∧ Below w.heap.size w w' := by
      intro A q w hC
      have h := kcmd_any V.noCmd V.noCmd A none q 0 w hC (Kd.C_nil _ _) (Nat.zero_le _)
      rw [decide_eq_true rfl] at h
      exact h
    obtain ⟨cm, hc⟩ : ∃ c, c = V.noCmd := ⟨_, rfl⟩
    rw [← hc] at hpa hpk
    have HPK := Aside0.mk hpk
    clear hc
    have HPA := Aside0.mk hpa
    clear hpa hcd hcm hpk hql
    go_upto_region 8 with (first | (go_at_call 10; (with_reducible refine Calls.mono (HPA.out _ HVA.out) ?_); rintro e w1 ⟨⟨A, qq, rfl, hC, hl⟩, h⟩; have H1 := Aside0.mk h; have HC := Aside0.mk hC; clear h hC hl))
    obtain ⟨w2, hw2⟩ : ∃ w2, w2 = w1.alloc (.cells #[.int .i64 cm.kind, .string (str cm.text), .bool cm.path.null, .string (str cm.path.loc), .string (str cm.path.dom), .slice A cm.prms.length qq] 26) := ⟨_, rfl⟩
    rw [← hw2]
    obtain ⟨G, hG⟩ : ∃ G, G = w1.heap.size := ⟨_, rfl⟩
    rw [← hG]
    have hr2 : w2.heap[G]? = some (.cells #[.int .i64 cm.kind, .string (str cm.text), .bool cm.path.null, .string (str cm.path.loc), .string (str cm.path.dom), .slice A cm.prms.length qq] 26 (0, 0)) := by rw [hw2, hG]; exact heap_alloc_new _ _
    have hb12 : Below w1.heap.size w1 w2 := by rw [hw2]; exact (Below.refl _ _).alloc (Nat.le_refl _) _
    have hb2 : Below wa.heap.size wa w2 := H1.out.trans (hb12.mono H1.out.size)
    have HB2 := Aside0.mk hb2
    have HC2 := Aside0.mk (Kd.C_below HC.out hb12)
    have HV2 := Aside0.mk (HVA.out.go hb2)
    obtain ⟨⟨a0, a1, a2, a3, a4, a5⟩, _⟩ := cells6 hr2
    clear hw2 hG hr2 hb12 hb2
    go_wp2_with (first | (go_at_call 11; (with_reducible refine Calls.mono (HPK.out A qq w2 HC2.out) ?_); rintro e w3 ⟨rfl, h⟩; have H3 := Aside0.mk h; clear h) | (go_at_call 12; (with_reducible refine Calls.mono (wakes_any _ (HV2.out.go H3.out)) ?_); rintro e w4 ⟨rfl, h⟩; have H4 := Aside0.mk (H3.out.trans (h.mono H3.out.size)); clear h))
    go_ret
    exact ⟨rfl, HB.out.trans ((HB2.out.trans (H4.out.mono HB2.out.size)).mono HB.out.size)⟩
end Go.Proofs.YteiknmcmaemcoaaDoor
