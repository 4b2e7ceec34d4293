/- VerbFolds: the walk. -/
import Derived.Test.YteiknmcmaemcoaaDoorProg
import Derived.WalkKit
import Derived.WalkLawsBesides
import Derived.Outline
import Derived.LoopTactic
import Derived.Lib.Hide
import Derived.Deep.QuietTactic
import Derived.BigQuiet
import Derived.Deep.LoopGhost
import Derived.Deep.DeepCutAuto
import Derived.Deep.CutBlock
import Derived.Deep.RegionHeld3
import Derived.Deep.RegionWith
import Derived.Deep.WholeRow
import Derived.Laws.Rows
import Derived.Laws.Tables
import Derived.Laws.ResultCell
import Derived.StillTailTactics
import Derived.Deep.DeepMust
import Derived.IntWalk
import Derived.KernelRfl
import Derived.Test.YteiknmcmaemcoaaDoorWWords
import Derived.Test.YteiknmcmaemcoaaDoorWLast
import Derived.Test.YteiknmcmaemcoaaDoorWMore
import Derived.RegionTactic
import Derived.Deep.CutBlock
import Derived.Test.YteiknmcmaemcoaaDoorVFa
import Derived.Test.YteiknmcmaemcoaaDoorVOp
namespace Go.Proofs.YteiknmcmaemcoaaDoor
open Go.RowKit Go.Lib
open Go.Proofs.YteiknmcmaemcoaaDoorW.PrintWords Go.Proofs.YteiknmcmaemcoaaDoorW.PrintLast Go.Proofs.YteiknmcmaemcoaaDoorW.PrintMore
set_option linter.unusedVariables false
set_option linter.unusedSimpArgs false
/-- Cells that hold a text's bytes. -/
def Holds (cs : Array Value) (l : V.Bs) : Prop := ∀ j, j < l.length → cs[j]? = some (.int .u8 (l.getD j 0).toNat)
theorem bytes_str (b t f1 f2 cap : Nat) (cs : Array Value) (l : V.Bs) (w : World) (hb : w.heap[b]? = some (.cells cs t (f1, f2))) (hl : Holds cs l) (n : Nat) (hn : n = l.length) (S : ByteArray) (hS : S = str l) :
    (convert 37 9 (.slice (some ⟨b, 0, none⟩) n cap)).run Tryd.prog w = .ok (.string S) w := by
  subst hn hS
  have h := run_convert_bytes_arg (P := Tryd.prog) w 37 5 Tryd.underlying37 Tryd.underlying5 b 0 l.length cap (l.map fun c => (c.toNat : Int)) (by simp) (fun i hi => by
    rw [Nat.zero_add, cell_of_row w _ _ _ _ _ hb, hl i hi]
    simp [List.getD_eq_getElem?_getD, hi]) 9 Tryd.underlying9
  have e : strOfNums (l.map fun c => (c.toNat : Int)) = str l := by
    simp only [strOfNums, str]
    rw [List.map_map]
    have e2 : ((fun n : Int => UInt8.ofNat n.toNat) ∘ fun c : UInt8 => (c.toNat : Int)) = id := by
      funext c; simp
    first
    | rw [e2, List.map_id]
    | (congr 1; simp)
  rw [e] at h
  exact h
theorem Holds.set {cs : Array Value} {l : V.Bs} (h : Holds cs l) (i : Nat) (hi : i < l.length) (c : UInt8) : Holds (cs.setIfInBounds i (.int .u8 c.toNat)) (l.set i c) := by
  intro j hj
  rw [List.length_set] at hj
  by_cases hij : i = j
  · subst hij
    have hsz : i < cs.size := (Array.getElem?_eq_some_iff.1 (h i hi)).1
    rw [Array.getElem?_setIfInBounds_self_of_lt hsz, List.getD_eq_getElem?_getD, List.getElem?_set_self hi]
    rfl
  · rw [Array.getElem?_setIfInBounds_ne hij, h j hj, List.getD_eq_getElem?_getD, List.getD_eq_getElem?_getD, List.getElem?_set_ne hij]
theorem bool_at {w : World} {A : Option Addr} {n : Nat} {xs : List Bool} (h : Kd.bool.C w A n xs) (i : Nat) (h1 : i < n) : ∃ ad b, A = some ad ∧ w.cell? (ad.add i) = some (.bool b) := by
  obtain ⟨ad, c, e, _, hK, hc0⟩ := Kd.C_get h false (i : Int) (by omega) (by omega)
  have e0 : (i : Int).toNat = i := by omega
  rw [e0] at hK hc0
  refine ⟨ad, xs.getD i false, e, ?_⟩
  have e1 : Kd.bool.sz = 1 := rfl
  have hK' : c = [.bool (xs.getD i false)] := hK
  have := hc0 0 (.bool (xs.getD i false)) (by rw [hK']; rfl)
  rw [e1, Nat.mul_one, Nat.add_zero] at this
  exact this
theorem flip_bits (c : UInt8) : bits BinOp.xor IntKind.u8 (c.toNat : Int) 32 = ((c ^^^ 32).toNat : Int) := by
  have h' : ∀ n : Nat, n < 256 → bits BinOp.xor IntKind.u8 ((UInt8.ofNat n).toNat : Int) 32 = ((UInt8.ofNat n ^^^ 32).toNat : Int) := by decide +kernel
  have e := h' c.toNat c.toNat_lt
  rw [UInt8.ofNat_toNat] at e
  exact e
set_option maxRecDepth 100000 in
set_option maxHeartbeats 8000000 in
theorem folds_walk (s : ByteArray) (fl : List Bool) (A : Option Addr) (cq : Nat) (bad a : Int) (w : World) (hfl : Kd.bool.C w A fl.length fl) (hlen : fl.length ≤ 140737488351232) (hbad : (Lit.int .u8 bad).wf = true) (hat : (Lit.int .i64 a).wf = true) (hsz : s.size ≤ 140737488351232) (hv : Vars w) :
    Calls Tryd.prog 4 #[.string s, .slice A fl.length cq, .int .u8 bad, .int .i64 a] w fun e w' => e = .returned (.bool true) ∧ Below w.heap.size w w' := by
  have HV := Aside0.mk hv
  have hbad0 : 0 ≤ bad ∧ bad ≤ 255 := by
    have e1 : IntKind.u8.min = 0 := rfl
    have e2 : IntKind.u8.max = 255 := rfl
    simp [Lit.wf, e1, e2] at hbad
    exact hbad
  have HBAD := Aside0.mk hbad0
  have HFL := Aside0.mk hfl
  have HLEN := Aside0.mk hlen
  clear hv hbad hat hbad0 hfl hlen
  obtain ⟨NF, hNF⟩ : ∃ NF, NF = fl.length := ⟨_, rfl⟩
  rw [← hNF]
  have HNF := Aside0.mk hNF
  clear hNF
  go_enter Tryd.func4, Tryd.ntmps4
  by_cases hs : 400 < s.size
  · have t1 : decide ((400 : Int) < (s.size : Int)) = true := by simp; omega
    have t2 : decide (400 < s.size) = true := by simp; omega
    go_wp2_with (fail)
    go_ret
    exact ⟨rfl, Below.refl _ _⟩
  have t1 : decide ((400 : Int) < (s.size : Int)) = false := by simp; omega
  have t2 : decide (400 < s.size) = false := by simp; omega
  have hpa := fun w hv => parse_uni s w (by omega) hv
  obtain ⟨c, hc⟩ : ∃ c, c = V.cmd (lst s) := ⟨_, rfl⟩
  obtain ⟨n, hn⟩ : ∃ n, n = V.code (lst s) := ⟨_, rfl⟩
  rw [← hc, ← hn] at hpa
  have hpb : ∀ (l : V.Bs) (w : World), V.fold l = V.fold (lst s) → l.drop 4 = (lst s).drop 4 → Vars w → Calls Tryd.prog 10 #[.string (str l)] w fun e w' => uniPost c n e w' ∧ Below w.heap.size w w' := by
    intro l w h1 h2 hv
    have hl : l.length = s.size := by rw [← fold_len, h1, fold_len, lst_length]
    have h := parse_uni (str l) w (by rw [str_size]; omega) hv
    rw [lst_str] at h
    have e := parse_same h1 h2
    have e1 : V.cmd l = c := by rw [hc]; unfold V.cmd; rw [e]
    have e2 : V.code l = n := by rw [hn]; unfold V.code; rw [e]
    rw [e1, e2] at h
    exact h
  have HPA := Aside0.mk hpa
  have HPB := Aside0.mk hpb
  have hcn : c.prms.length ≤ 1000000 → ∀ (A1 A2 : Option Addr) (q1 q2 : Nat) (w : World), Kd.C kp w A1 c.prms.length c.prms → Kd.C kp w A2 c.prms.length c.prms → Calls Tryd.prog 11 #[cagg c A1 q1, cagg c A2 q2] w fun e w' => e = .returned (.bool true) ∧ Below w.heap.size w w' := by
    intro hl A1 A2 q1 q2 w h1 h2
    have h := kcmd_any c c A1 A2 q1 q2 w h1 h2 hl
    rw [decide_eq_true rfl] at h
    exact h
  have HKC := Aside0.mk hcn
  clear hpa hpb hc hn hcn
  have HSZ := Aside0.mk (show s.size ≤ 400 by omega)
  go_upto_region 4 with (first | (go_at_call 10; (with_reducible refine Calls.mono (HPA.out _ HV.out) ?_); rintro e x1 ⟨⟨A1, q1, rfl, hC, hl⟩, h⟩; have H1 := Aside0.mk h; have HC1 := Aside0.mk hC; have HL := Aside0.mk hl; clear h hC hl))
  obtain ⟨w1, hw⟩ : ∃ w2, w2 = x1.alloc (.cells #[.int .i64 c.kind, .string (str c.text), .bool c.path.null, .string (str c.path.loc), .string (str c.path.dom), .slice A1 c.prms.length q1] 26) := ⟨_, rfl⟩
  rw [← hw]
  obtain ⟨G1, hG⟩ : ∃ G, G = x1.heap.size := ⟨_, rfl⟩
  rw [← hG]
  have hr : w1.heap[G1]? = some (.cells #[.int .i64 c.kind, .string (str c.text), .bool c.path.null, .string (str c.path.loc), .string (str c.path.dom), .slice A1 c.prms.length q1] 26 (0, 0)) := by rw [hw, hG]; exact heap_alloc_new _ _
  have hb1 : Below x1.heap.size x1 w1 := by rw [hw]; exact (Below.refl _ _).alloc (Nat.le_refl _) _
  have hb2 : Below w.heap.size w w1 := H1.out.trans (hb1.mono H1.out.size)
  have hs2 : G1 < w1.heap.size := (Array.getElem?_eq_some_iff.1 hr).1
  have hrow : ∀ wx, Below w1.heap.size w1 wx → wx.heap[G1]? = some (.cells #[.int .i64 c.kind, .string (str c.text), .bool c.path.null, .string (str c.path.loc), .string (str c.path.dom), .slice A1 c.prms.length q1] 26 (0, 0)) := fun wx h => (h.block _ hs2).trans hr
  have HRO1 := Aside0.mk hrow
  have HB1 := Aside0.mk hb2
  have HV1 := Aside0.mk (HV.out.go hb2)
  have HCA := Aside0.mk (Kd.C_below HC1.out hb1)
  have HF1 := Aside0.mk (Kd.C_below HFL.out hb2)
  clear hw hG hr hb1 hb2 hs2 hrow
  obtain ⟨cp, W1, cs, kk, hcv⟩ := bytes_conv s
  have hcr := fun w => (hcv w).1
  have HCV := Aside0.mk (fun w => (hcv w).2)
  clear hcv
  go_upto_region 5 with (fail)
  obtain ⟨wq, hwq⟩ : ∃ wq, wq = W1 w1 := ⟨_, rfl⟩
  obtain ⟨b, hb⟩ : ∃ b, b = w1.heap.size := ⟨_, rfl⟩
  obtain ⟨cpp, hcp⟩ : ∃ x, x = cp w1 := ⟨_, rfl⟩
  obtain ⟨k1, k2, k3, k4, k5⟩ := HCV.out w1
  rw [← hwq, ← hb, ← hcp]
  rw [← hwq] at k1 k2
  have HK1 := Aside0.mk k1
  have HSTART : Aside0 (∃ (cs' : Array Value) (k m : Nat), wq.heap[b]? = some (.cells cs' 5 (k, m)) ∧ s.size ≤ k ∧ Holds cs' (lst s)) := ⟨⟨_, _, _, by rw [hb]; exact k2, k4, fun j hj => k3 j (by rw [lst_length] at hj; exact hj)⟩⟩
  have HBB := Aside0.mk hb
  clear hwq hb hcp k1 k2 k3 k4 k5 HCV hcr
  go_upto_block 0 with (fail)
  go_cut [12] (fun v12 wc => Aside0 (∃ (l' : V.Bs) (cs' : Array Value) (k m : Nat), wc.heap[b]? = some (.cells cs' 5 (k, m)) ∧ s.size ≤ k ∧ Holds cs' l' ∧ V.fold l' = V.fold (lst s) ∧ l'.drop 4 = (lst s).drop 4 ∧ Below w1.heap.size w1 wc))
  case first =>
    go_wp2_with (fail)
    go_loopg [12] 4 (fun g v12 wr => ∃ (i : Nat) (l' : V.Bs) (cs' : Array Value) (k m : Nat), g + i = 4 ∧ v12 = .int .i64 i ∧ Aside0 (wr.heap[b]? = some (.cells cs' 5 (k, m)) ∧ s.size ≤ k ∧ Holds cs' l' ∧ V.fold l' = V.fold (lst s) ∧ l'.drop 4 = (lst s).drop 4 ∧ Below w1.heap.size w1 wr))
    case atStart =>
      obtain ⟨cs', k, m, h1, h2, h3⟩ := HSTART.out
      exact ⟨0, lst s, cs', k, m, rfl, rfl, ⟨h1, h2, h3, rfl, rfl, HK1.out⟩⟩
    case round =>
      obtain ⟨i, l', cs', k, m, hg, rfl, HR⟩ := hrel
      obtain ⟨wx, rfl⟩ : ∃ wz : World, wz = wr := ⟨_, rfl⟩
      by_cases hi : i < 4
      · have hi' : (i : Int) < 4 := by omega
        by_cases hn : i < s.size
        · have hn' : (i : Int) < (s.size : Int) := by omega
          obtain ⟨hrow, hk, hh, hF, hD, hB⟩ := HR.out
          have hll : l'.length = s.size := by rw [← fold_len, hF, fold_len, lst_length]
          have hcell : wx.cell? ⟨b, i, none⟩ = some (.int .u8 (l'.getD i 0).toNat) := by rw [cell_of_row wx _ _ _ _ _ hrow]; exact hh i (by omega)
          have hfr : wx.frozen? ⟨b, i, none⟩ = false := frozen_row hrow (by omega)
          obtain ⟨ch, hch⟩ : ∃ ch, ch = l'.getD i 0 := ⟨_, rfl⟩
          rw [← hch] at hcell
          obtain ⟨x, hx⟩ : ∃ x : Int, x = (ch.toNat : Int) := ⟨_, rfl⟩
          rw [← hx] at hcell
          have hx0 : 0 ≤ x := by omega
          have hx1 : x < 256 := by have := ch.toNat_lt; omega
          have hi0 : (0 : Int) ≤ (i : Int) := by omega
          have HX := Aside0.mk hx
          have HC := Aside0.mk hch
          have HLL := Aside0.mk hll
          clear hx hch hrow hk hh hF hD hB hll
          by_cases hf : i < NF
          · obtain ⟨ad, bb, hA, hbc⟩ := bool_at (Kd.C_below HF1.out (HR.out.2.2.2.2.2)) i (by rw [← HNF.out]; exact hf)
            subst hA
            have hf' : (i : Int) < (NF : Int) := by omega
            have HF' := Aside0.mk hf'
            go_wp2_with (fail)
            all_goals
              go_roundg (gk - 1)
              case measure => omega
              case rel =>
                first
                | exact ⟨i + 1, l', cs', k, m, by omega, by go_num, HR⟩
                | (obtain ⟨hrow, hk, hh, hF, hD, hB⟩ := HR.out
                   have hlet : (decide (97 ≤ ch ∧ ch ≤ 122) || decide (65 ≤ ch ∧ ch ≤ 90)) = true := by
                     have := HX.out
                     simp [UInt8.le_iff_toNat_le]
                     omega
                   have hlf := low_flip ch hlet
                   refine ⟨i + 1, l'.set i (ch ^^^ 32), _, k, m, by omega, by go_num, ⟨setCell_row _ _ _ _ _ _ _ hrow, hk, ?_, ?_, ?_, hB.setCell (by rw [HBB.out]; exact Nat.le_refl _) _⟩⟩
                   · rw [HX.out, flip_bits]
                     exact hh.set i (by have := HLL.out; omega) _
                   · rw [fold_set l' i _ (by have := HLL.out; omega) (by rw [hlf, HC.out])]; exact hF
                   · rw [drop_set _ _ _ _ hi]; exact hD)
          · have hf' : decide ((i : Int) < (NF : Int)) = false := by simp; omega
            have hf2 : decide (i < NF) = false := by simpa using hf
            go_wp2_with (fail)
            all_goals
              go_roundg (gk - 1)
              case measure => omega
              case rel => exact ⟨i + 1, l', cs', k, m, by omega, by go_num, HR⟩
        · have hn' : decide ((i : Int) < (s.size : Int)) = false := by simp; omega
          have hn2 : decide (i < s.size) = false := by simpa using hn
          go_wp2_with (fail)
          go_meet
          case rel => exact ⟨l', cs', k, m, HR.out⟩
      · have hi' : decide ((i : Int) < 4) = false := by simp; omega
        have hi2 : decide (i < 4) = false := by simpa using hi
        go_wp2_with (fail)
        go_meet
        case rel => exact ⟨l', cs', k, m, HR.out⟩
  case rest =>
  obtain ⟨wb, rfl⟩ : ∃ wz : World, wz = wc := ⟨_, rfl⟩
  obtain ⟨l', cs', k, m, hrow, hk, hh, hF, hD, hB⟩ := hcut.out
  have hll : l'.length = s.size := by rw [← fold_len, hF, fold_len, lst_length]
  obtain ⟨S, hS⟩ : ∃ S, S = str l' := ⟨_, rfl⟩
  have hconv := bytes_str b 5 k m cpp cs' l' wb hrow hh s.size hll.symm S hS
  have hps := fun w hv => HPB.out l' w hF hD hv
  rw [← hS] at hps
  have HPS := Aside0.mk hps
  have HB2 := Aside0.mk hB
  have HV2 := Aside0.mk (HV1.out.go hB)
  clear hS hps hrow hk hh hF hD hB hll hcut
  apply_assumption
  go_upto_region 11 with (first | (go_at_call 10; (with_reducible refine Calls.mono (HPS.out _ HV2.out) ?_); rintro e x2 ⟨⟨A2, q2, rfl, hC, hl⟩, h⟩; have H2 := Aside0.mk h; have HC2 := Aside0.mk hC; clear h hC hl))
  obtain ⟨w2, hw⟩ : ∃ w2, w2 = x2.alloc (.cells #[.int .i64 c.kind, .string (str c.text), .bool c.path.null, .string (str c.path.loc), .string (str c.path.dom), .slice A2 c.prms.length q2] 26) := ⟨_, rfl⟩
  rw [← hw]
  obtain ⟨G2, hG⟩ : ∃ G, G = x2.heap.size := ⟨_, rfl⟩
  rw [← hG]
  have hr : w2.heap[G2]? = some (.cells #[.int .i64 c.kind, .string (str c.text), .bool c.path.null, .string (str c.path.loc), .string (str c.path.dom), .slice A2 c.prms.length q2] 26 (0, 0)) := by rw [hw, hG]; exact heap_alloc_new _ _
  have hb1 : Below x2.heap.size x2 w2 := by rw [hw]; exact (Below.refl _ _).alloc (Nat.le_refl _) _
  have hb2 : Below wb.heap.size wb w2 := H2.out.trans (hb1.mono H2.out.size)
  have hb3 : Below w1.heap.size w1 w2 := HB2.out.trans (hb2.mono HB2.out.size)
  have HB3 := Aside0.mk hb3
  have HV3 := Aside0.mk (HV2.out.go hb2)
  have HCA3 := Aside0.mk (Kd.C_below HCA.out hb3)
  have HCB3 := Aside0.mk (Kd.C_below HC2.out hb1)
  obtain ⟨⟨a0, a1, a2, a3, a4, a5⟩, _⟩ := cells6 (HRO1.out w2 hb3)
  obtain ⟨⟨b0, b1, b2, b3, b4, b5⟩, _⟩ := cells6 hr
  have HLL := Aside0.mk (Nat.le_trans HL.out (by decide : 100000 ≤ 1000000))
  clear hw hG hr hb1 hb2 hb3
  go_upto_region 13 with (first | (go_at_call 11; (with_reducible refine Calls.mono (HKC.out HLL.out A1 A2 q1 q2 w2 HCA3.out HCB3.out) ?_); rintro e w3 ⟨rfl, h⟩; have H3 := Aside0.mk h; clear h))
  have HV4 := Aside0.mk (HV3.out.go H3.out)
  have HB4 := Aside0.mk (HB1.out.trans ((HB3.out.trans (H3.out.mono HB3.out.size)).mono HB1.out.size))
  clear a0 a1 a2 a3 a4 a5 b0 b1 b2 b3 b4 b5
  go_upto_block 2 with (fail)
  go_cut [15] (fun v15 wc => ∃ T : ByteArray, v15 = .string T ∧ Aside0 (510 < T.size ∧ T.size ≤ 600) ∧ Aside0 (Below w3.heap.size w3 wc))
  case first =>
    go_wp2_with (fail)
    go_loopg [15] (600 - s.size) (fun g v15 wr => ∃ (T : ByteArray), g + T.size = 600 ∧ v15 = .string T ∧ T.size ≤ 511 ∧ Aside0 (Below w3.heap.size w3 wr))
    case atStart =>
      have := HSZ.out
      exact ⟨s, by omega, rfl, by omega, ⟨Below.refl _ _⟩⟩
    case round =>
      obtain ⟨T, hg, rfl, hT, HB⟩ := hrel
      obtain ⟨wx, rfl⟩ : ∃ wz : World, wz = wr := ⟨_, rfl⟩
      by_cases hlt : T.size ≤ 510
      · obtain ⟨C, hC⟩ : ∃ C, C = T ++ (⟨#[120]⟩ : ByteArray) := ⟨_, rfl⟩
        have hcat := cat_run T ⟨#[120]⟩ C hC (by omega) (by decide)
        have hCS : C.size = T.size + 1 := by rw [hC, ByteArray.size_append]; rfl
        have HS := Aside0.mk hCS
        have hlt' : (T.size : Int) ≤ 510 := by omega
        clear hC hCS
        go_wp2_with (fail)
        go_roundg (gk - 1)
        case measure => omega
        case rel =>
          have := HS.out
          exact ⟨C, by omega, rfl, by omega, HB⟩
      · have hlt' : decide ((T.size : Int) ≤ 510) = false := by simp; omega
        have hlt2 : decide (T.size ≤ 510) = false := by simp; omega
        have HS := Aside0.mk (And.intro (show 510 < T.size by omega) (show T.size ≤ 600 by omega))
        go_wp2_with (fail)
        go_meet
        case rel => exact ⟨T, rfl, HS, HB⟩
  case rest =>
  obtain ⟨T, rfl, HT, HB5⟩ := hcut
  obtain ⟨w4, rfl⟩ : ∃ wz : World, wz = wc := ⟨_, rfl⟩
  have HV5 := Aside0.mk (HV4.out.go HB5.out)
  have hpt := fun w hv => parse_uni T w (by have := HT.out; omega) hv
  rw [code_long (lst T) (by rw [lst_length]; exact HT.out.1)] at hpt
  obtain ⟨ct, hct⟩ : ∃ c, c = V.cmd (lst T) := ⟨_, rfl⟩
  rw [← hct] at hpt
  have HPT := Aside0.mk hpt
  clear hct hpt
  apply_assumption
  go_upto_region 17 with (first | (go_at_call 10; (with_reducible refine Calls.mono (HPT.out _ HV5.out) ?_); rintro e x5 ⟨⟨A5, q5, rfl, hC, hl⟩, h⟩; have H5 := Aside0.mk h; clear h hC hl))
  obtain ⟨w5, hw⟩ : ∃ w2, w2 = x5.alloc (.cells #[.int .i64 ct.kind, .string (str ct.text), .bool ct.path.null, .string (str ct.path.loc), .string (str ct.path.dom), .slice A5 ct.prms.length q5] 26) := ⟨_, rfl⟩
  rw [← hw]
  have hb1 : Below x5.heap.size x5 w5 := by rw [hw]; exact (Below.refl _ _).alloc (Nat.le_refl _) _
  have hb2 : Below w4.heap.size w4 w5 := H5.out.trans (hb1.mono H5.out.size)
  have HB6 := Aside0.mk (HB4.out.trans ((HB5.out.trans (hb2.mono HB5.out.size)).mono HB4.out.size))
  have HV6 := Aside0.mk (HV5.out.go hb2)
  clear hw hb1 hb2
  by_cases hg : 32 ≤ bad ∧ bad ≤ 126
  · obtain ⟨hg1, hg2⟩ := hg
    go_wp2_with (first | (go_at_call 12; (with_reducible refine Calls.mono (wakes_any _ HV6.out) ?_); rintro e w6 ⟨rfl, h⟩; have H6 := Aside0.mk h; clear h))
    go_ret
    exact ⟨rfl, HB6.out.trans (H6.out.mono HB6.out.size)⟩
  · go_upto_region 19 with (fail)
    go_cut [119] (fun v wc => v = .bool false ∧ wc = w5)
    case first =>
      by_cases h1 : bad < 32
      · have h1' : decide (32 ≤ bad) = false := by simp; omega
        go_wp2_with (fail)
        go_meet
        case rel => exact ⟨rfl, rfl⟩
      · have h2 : 32 ≤ bad := by omega
        have h2' : decide (bad ≤ 126) = false := by simp; omega
        go_wp2_with (fail)
        go_meet
        case rel => exact ⟨rfl, rfl⟩
    case rest =>
    obtain ⟨rfl, rfl⟩ := hcut
    obtain ⟨w5, rfl⟩ : ∃ wz : World, wz = wc := ⟨_, rfl⟩
    have HG := Aside0.mk hg
    clear hg
    apply_assumption
    go_upto_region 21 with (fail)
    go_cut [3] (fun v wc => ∃ q : Nat, v = .int .i64 q ∧ Aside0 (q ≤ s.size) ∧ wc = w5)
    case first =>
      have hr21 := rounds_small a (s.size + 1) (by omega) (by omega)
      have HR21 := Aside0.mk hr21
      clear hr21
      go_wp2_with (fail)
      go_meet
      case rel =>
        obtain ⟨q, hq, hql⟩ := HR21.out
        rw [show ((s.size + 1 : Nat) : Int) = (s.size : Int) + 1 from by omega] at hq
        exact ⟨q, congrArg (Value.int .i64) hq, ⟨by omega⟩, rfl⟩
    case rest =>
    obtain ⟨q, rfl, HQ, rfl⟩ := hcut
    obtain ⟨w5, rfl⟩ : ∃ wz : World, wz = wc := ⟨_, rfl⟩
    apply_assumption
    go_upto_region 22 with (fail)
    go_cut [18, 19] (fun v18 v19 wc => v19 = .int .i64 500 ∧ Aside0 (Below w5.heap.size w5 wc))
    case first =>
      have hq := HQ.out
      have hs4 := HSZ.out
      obtain ⟨bc, hbc⟩ : ∃ bc : UInt8, (bc.toNat : Int) = bad := ⟨UInt8.ofNat bad.toNat, by have := HBAD.out; simp; omega⟩
      have hnok : okByte bc = false := by
        have := HG.out
        simp [okByte, UInt8.le_iff_toNat_le]
        omega
      obtain ⟨X, hX⟩ : ∃ X, X = str ((lst s).take q) := ⟨_, rfl⟩
      obtain ⟨Y, hY⟩ : ∃ Y, Y = str ((lst s).drop q) := ⟨_, rfl⟩
      obtain ⟨Bb, hBb⟩ : ∃ Bb, Bb = str [bc] := ⟨_, rfl⟩
      obtain ⟨XB, hXB⟩ : ∃ C, C = X ++ Bb := ⟨_, rfl⟩
      obtain ⟨C, hCC⟩ : ∃ C, C = XB ++ Y := ⟨_, rfl⟩
      have hto := fun w => slice_to s q hq X hX w
      have hfrom := fun w => slice_from s q hq Y hY w
      have hcat1 := fun w => cat_run X Bb XB hXB (by rw [hX, str_size, List.length_take, lst_length]; omega) (by rw [hBb, str_size]; simp) w
      have hXs : XB.size = q + 1 := by rw [hXB, ByteArray.size_append, hX, hBb, str_size, str_size, List.length_take, lst_length]; simp; omega
      have hcat2 := fun w => cat_run XB Y C hCC (by omega) (by rw [hY, str_size, List.length_drop, lst_length]; omega) w
      have hlC : lst C = (lst s).take q ++ [bc] ++ (lst s).drop q := by rw [hCC, hXB, hX, hY, hBb, lst_append, lst_append, lst_str, lst_str, lst_str]
      have hlL : (lst C).length = s.size + 1 := by rw [hlC]; simp [lst_length]; omega
      have hpc := fun w hv => parse_uni C w (by rw [← lst_length]; omega) hv
      rw [code_bad (lst C) (by omega) (by rw [hlC, List.all_append, List.all_append]; simp [hnok])] at hpc
      obtain ⟨cc, hcc⟩ : ∃ c, c = V.cmd (lst C) := ⟨_, rfl⟩
      rw [← hcc] at hpc
      have hcs : ∀ (b t f1 f2 : Nat) (wy : World), wy.heap[b]? = some (.cells #[.int .u8 bad] t (f1, f2)) → (convert 37 9 (.slice (some ⟨b, 0, none⟩) 1 1)).run Tryd.prog wy = .ok (.string Bb) wy := by
        intro b t f1 f2 wy hb
        exact bytes_str b t f1 f2 1 _ [bc] wy hb (by intro j hj; obtain rfl : j = 0 := by simp at hj; exact hj
                                                     simp [hbc]) 1 rfl Bb hBb
      have hs1 := hcs w5.heap.size 5 0 0 (w5.alloc (.cells #[.int .u8 bad] 5)).drew (heap_alloc_new w5 _)
      have hs2 := hcs w5.heap.size 5 0 0 ((w5.alloc (.cells #[.int .u8 bad] 5)).alloc (.cells #[.int .i64 0, .string { data := #[] }, .bool false, .string { data := #[] }, .string { data := #[] }, .slice none 0 0] 26)).drew (by
        have e := heap_alloc_new w5 (.cells #[.int .u8 bad] 5)
        exact (((Below.refl _ (w5.alloc (.cells #[.int .u8 bad] 5))).alloc (Nat.le_refl _) (.cells #[.int .i64 0, .string { data := #[] }, .bool false, .string { data := #[] }, .string { data := #[] }, .slice none 0 0] 26)).block _ (by simp)).trans e)
      have hs3 := hcs (w5.heap.size + 1) 5 0 0 ((w5.alloc (.cells #[.int .i64 0, .string { data := #[] }, .bool false, .string { data := #[] }, .string { data := #[] }, .slice none 0 0] 26)).alloc (.cells #[.int .u8 bad] 5)).drew (by
        have e := heap_alloc_new (w5.alloc (.cells #[.int .i64 0, .string { data := #[] }, .bool false, .string { data := #[] }, .string { data := #[] }, .slice none 0 0] 26)) (.cells #[.int .u8 bad] 5)
        have e2 : (w5.alloc (.cells #[.int .i64 0, .string { data := #[] }, .bool false, .string { data := #[] }, .string { data := #[] }, .slice none 0 0] 26)).heap.size = w5.heap.size + 1 := by simp
        rw [e2] at e
        exact e)
      have hz1 : ∀ x, Below ((w5.alloc (.cells #[.int .u8 bad] 5)).alloc (.cells #[.int .i64 0, .string { data := #[] }, .bool false, .string { data := #[] }, .string { data := #[] }, .slice none 0 0] 26)).drew.heap.size ((w5.alloc (.cells #[.int .u8 bad] 5)).alloc (.cells #[.int .i64 0, .string { data := #[] }, .bool false, .string { data := #[] }, .string { data := #[] }, .slice none 0 0] 26)).drew x → x.heap[w5.heap.size + 1]? = some (.cells #[.int .i64 0, .string { data := #[] }, .bool false, .string { data := #[] }, .string { data := #[] }, .slice none 0 0] 26 (0, 0)) := by
        intro x h
        have e := heap_alloc_new (w5.alloc (.cells #[.int .u8 bad] 5)) (.cells #[.int .i64 0, .string { data := #[] }, .bool false, .string { data := #[] }, .string { data := #[] }, .slice none 0 0] 26)
        have e2 : (w5.alloc (.cells #[.int .u8 bad] 5)).heap.size = w5.heap.size + 1 := by simp
        rw [e2] at e
        exact (h.block _ (Array.getElem?_eq_some_iff.1 e).1).trans e
      have hz2 : ∀ x, Below ((w5.alloc (.cells #[.int .i64 0, .string { data := #[] }, .bool false, .string { data := #[] }, .string { data := #[] }, .slice none 0 0] 26)).alloc (.cells #[.int .u8 bad] 5)).drew.heap.size ((w5.alloc (.cells #[.int .i64 0, .string { data := #[] }, .bool false, .string { data := #[] }, .string { data := #[] }, .slice none 0 0] 26)).alloc (.cells #[.int .u8 bad] 5)).drew x → x.heap[w5.heap.size]? = some (.cells #[.int .i64 0, .string { data := #[] }, .bool false, .string { data := #[] }, .string { data := #[] }, .slice none 0 0] 26 (0, 0)) := by
        intro x h
        have e0 := heap_alloc_new w5 (.cells #[.int .i64 0, .string { data := #[] }, .bool false, .string { data := #[] }, .string { data := #[] }, .slice none 0 0] 26)
        have e := (((Below.refl _ (w5.alloc (.cells #[.int .i64 0, .string { data := #[] }, .bool false, .string { data := #[] }, .string { data := #[] }, .slice none 0 0] 26))).alloc (Nat.le_refl _) (.cells #[.int .u8 bad] 5)).block _ (by simp)).trans e0
        exact (h.block _ (Array.getElem?_eq_some_iff.1 e).1).trans e
      have HZ1 := Aside0.mk hz1
      have HZ2 := Aside0.mk hz2
      clear hz1 hz2
      have HPC := Aside0.mk hpc
      clear hX hY hBb hXB hCC hlC hlL hpc hcc hcs hbc hnok hXs
      go_region_with (first | (go_at_call 10; (first | ((with_reducible refine Calls.mono (HPC.out ((w5.alloc (.cells #[.int .u8 bad] 5)).alloc (.cells #[.int .i64 0, .string { data := #[] }, .bool false, .string { data := #[] }, .string { data := #[] }, .slice none 0 0] 26)).drew (HV6.out.go (((Below.refl _ w5).alloc (Nat.le_refl _) _).alloc (by simp) _).drew)) ?_); rintro e x6 ⟨⟨A6, q6, rfl, hC, hl⟩, h⟩; have HQ6 := Aside0.mk (Below.trans ((((Below.refl _ w5).alloc (Nat.le_refl _) _).alloc (by simp) _).drew) (h.mono ((((Below.refl _ w5).alloc (Nat.le_refl _) _).alloc (by simp) _).drew).size)); obtain ⟨⟨_, _, _, _, _, _⟩, ⟨_, _, _, _, _, _⟩⟩ := cells6 (HZ1.out _ h)) | ((with_reducible refine Calls.mono (HPC.out ((w5.alloc (.cells #[.int .i64 0, .string { data := #[] }, .bool false, .string { data := #[] }, .string { data := #[] }, .slice none 0 0] 26)).alloc (.cells #[.int .u8 bad] 5)).drew (HV6.out.go (((Below.refl _ w5).alloc (Nat.le_refl _) _).alloc (by simp) _).drew)) ?_); rintro e x6 ⟨⟨A6, q6, rfl, hC, hl⟩, h⟩; have HQ6 := Aside0.mk (Below.trans ((((Below.refl _ w5).alloc (Nat.le_refl _) _).alloc (by simp) _).drew) (h.mono ((((Below.refl _ w5).alloc (Nat.le_refl _) _).alloc (by simp) _).drew).size)); obtain ⟨⟨_, _, _, _, _, _⟩, ⟨_, _, _, _, _, _⟩⟩ := cells6 (HZ2.out _ h)) | ((with_reducible refine Calls.mono (HPC.out (w5.alloc (.cells #[.int .u8 bad] 5)).drew (HV6.out.go ((Below.refl _ w5).alloc (Nat.le_refl _) _).drew)) ?_); rintro e x6 ⟨⟨A6, q6, rfl, hC, hl⟩, h⟩; have HQ6 := Aside0.mk (Below.trans (((Below.refl _ w5).alloc (Nat.le_refl _) _).drew) (h.mono (((Below.refl _ w5).alloc (Nat.le_refl _) _).drew).size)))); have H6 := Aside0.mk h; clear h hC hl))
      all_goals go_wp2_with (fail)
      all_goals go_meet
      all_goals
        refine ⟨rfl, ⟨?_⟩⟩
        first
        | (with_reducible exact HQ6.out.alloc HQ6.out.size _)
        | exact below6 HQ6.out (Nat.le_refl _)
        | exact below6 HQ6.out (Nat.le_succ _)
    case rest =>
    obtain ⟨rfl, H7⟩ := hcut
    obtain ⟨w7, rfl⟩ : ∃ wz : World, wz = wc := ⟨_, rfl⟩
    apply_assumption
    go_wp2_with (first | (go_at_call 12; (with_reducible refine Calls.mono (wakes_any _ (HV6.out.go H7.out)) ?_); rintro e w8 ⟨rfl, h⟩; have H8 := Aside0.mk (H7.out.trans (h.mono H7.out.size)); clear h))
    go_ret
    exact ⟨rfl, HB6.out.trans (H8.out.mono HB6.out.size)⟩
end Go.Proofs.YteiknmcmaemcoaaDoor
