/- What the law CramProves answers. -/
import Derived.Test.YtalignlbbdeeiaaProg
import Derived.WalkKit
import Derived.WalkLawsBesides
import Derived.Outline
import Derived.LoopTactic
import Derived.Lib.Hide
import Derived.Deep.QuietTactic
import Derived.BigQuiet
import Derived.Deep.LoopGhost
import Derived.Deep.DeepCutAuto
import Derived.Deep.CutBlock
import Derived.Deep.RegionHeld3
import Derived.Deep.RegionWith
import Derived.Deep.WholeRow
import Derived.Laws.Rows
import Derived.Laws.Tables
import Derived.Laws.ResultCell
import Derived.StillTailTactics
import Derived.Deep.DeepMust
import Derived.IntWalk
import Derived.KernelRfl
import Derived.Test.YtalignlbbdeeiaaWWords
import Derived.Test.YtalignlbbdeeiaaWLast
import Derived.Test.YtalignlbbdeeiaaWMore
import Derived.RegionTactic
import Derived.Test.YtalignlbbdeeiaaSet
import Derived.Test.YtalignlbbdeeiaaFacts
namespace Go.Proofs.Ytalignlbbdeeiaa
open Go.RowKit
open Go.Proofs.YtalignlbbdeeiaaW.PrintWords
set_option linter.unusedVariables false
set_option linter.unusedSimpArgs false
theorem cver_at (U S C E L : ByteArray) (v : Bool) (w : World) (hE : ans U S C = E) (hv : decide (L = E) = v) (hu : U.size ≤ 10000) (hs : S.size ≤ 10000) (hc : C.size ≤ 10000) :
    Calls Try.prog 21 #[.string U, .string S, .string C, .string L] w fun e w' => e = .returned (.bool v) ∧ Below w.heap.size w w' := by
  subst hv
  exact cver_any U S C E L w hE hu hs hc
theorem eql_do {ev : Operand → Value} {o : Oper} {w : World} {oA oB : Array Value} {vv : Bool} (x y : Operand) (ho : o.op = .binOp .eql 24 x y 24) (hg : o.type = 4) (hz : o.guard = none) (hx : ev x = .agg oA) (hy : ev y = .agg oB) (h : (Op.equalIn 10000 24 (.agg oA) (.agg oB)).run Try.prog w = .ok vv w) :
    (execOp ev o).run Try.prog w = .ok (.value (.bool vv)) w := by
  obtain ⟨d, op, t, p, af, g⟩ := o
  simp only at ho hg hz
  subst ho hg hz
  go_simp
def eight (x0 x1 x2 x3 x4 x5 x6 x7 : Value) : Nat → Value
  | 0 => x0
  | 1 => x1
  | 2 => x2
  | 3 => x3
  | 4 => x4
  | 5 => x5
  | 6 => x6
  | _ => x7
def ProvFacts (v0 v1 v2 v3 v4 v5 v6 v7 : Value) : Nat → Value → World → Prop
  | 0, v, _ => v = v0
  | 1, v, _ => v = v1
  | 2, v, _ => v = v2
  | 3, v, _ => v = v3
  | 4, v, _ => v = v4
  | 5, v, _ => v = v5
  | 6, v, _ => v = v6
  | 7, v, _ => v = v7
  | _, _, _ => True
theorem ProvFacts.stab (v0 v1 v2 v3 v4 v5 v6 v7 : Value) : ∀ i v w1 w2, ProvFacts v0 v1 v2 v3 v4 v5 v6 v7 i v w1 → Below w1.heap.size w1 w2 → ProvFacts v0 v1 v2 v3 v4 v5 v6 v7 i v w2
  | 0, _, _, _, h, _ => h
  | 1, _, _, _, h, _ => h
  | 2, _, _, _, h, _ => h
  | 3, _, _, _, h, _ => h
  | 4, _, _, _, h, _ => h
  | 5, _, _, _, h, _ => h
  | 6, _, _, _, h, _ => h
  | 7, _, _, _, h, _ => h
  | _ + 8, _, _, _, _, _ => trivial
theorem setCell_range (w : World) (g i : Nat) (cs : Array Value) (t : TypeId) (fr : Nat × Nat) (v : Value) (hg : w.heap[g]? = some (.cells cs t fr)) :
    (w.setCell ⟨g, i, none⟩ v).heap[g]? = some (.cells (cs.setIfInBounds i v) t fr) := by
  rw [setCell_eq_setRow w g i cs t fr v hg]
  exact setRow_heap w g cs _ t _ hg
theorem rounds_any (nn : Int) (m : Nat) (h1 : 1 ≤ m) (h2 : m ≤ 1000000) : ∃ q : Nat, wrap64 ((IntKind.u64.wrap nn).tmod (m : Int)) = q ∧ q < m := by
  have h0 : 0 ≤ IntKind.u64.wrap nn := by simp [IntKind.wrap, IntKind.signed, IntKind.bits]; omega
  rw [Int.tmod_eq_emod_of_nonneg h0]
  generalize IntKind.u64.wrap nn = x at *
  have h3 : 0 ≤ x % (m : Int) := Int.emod_nonneg _ (by omega)
  have h4 : x % (m : Int) < m := Int.emod_lt_of_pos _ (by omega)
  refine ⟨(x % (m : Int)).toNat, ?_, by omega⟩
  have : wrap64 (x % (m : Int)) = x % (m : Int) := by unfold wrap64; omega
  omega
set_option maxRecDepth 100000 in
set_option maxHeartbeats 2000000 in
theorem proves_any (U S C O : ByteArray) (nn : Int) (hU : U.size ≤ 140737488351232) (hS : S.size ≤ 140737488351232) (hC : C.size ≤ 140737488351232) (hO : O.size ≤ 140737488351232) (hnn : (Lit.int .i64 nn).wf = true) (w : World) :
    Calls Try.prog 7 #[.string U, .string S, .string C, .string O, .int .i64 nn] w fun e w' => e = .returned (.bool true) ∧ Below w.heap.size w w' := by
  go_enter Try.func7, Try.ntmps7
  by_cases hlen : 800 < U.size + S.size + C.size + O.size
  · have t1 : decide ((800 : Int) < (U.size : Int) + (S.size : Int) + (C.size : Int) + (O.size : Int)) = true := by simp; omega
    have t2 : decide (800 < U.size + S.size + C.size + O.size) = true := by simp; omega
    go_wp2_with (fail)
    go_ret
    exact ⟨rfl, Below.refl _ _⟩
  · have t1 : decide ((800 : Int) < (U.size : Int) + (S.size : Int) + (C.size : Int) + (O.size : Int)) = false := by simp; omega
    have t2 : decide (800 < U.size + S.size + C.size + O.size) = false := by simp; omega
    have hU' : U.size ≤ 800 := by omega
    have hS' : S.size ≤ 800 := by omega
    have hC' : C.size ≤ 800 := by omega
    have hO' : O.size ≤ 800 := by omega
    obtain ⟨E, hE⟩ : ∃ E, ans U S C = E := ⟨_, rfl⟩
    have hE0 : 0 < E.size := by rw [← hE]; exact ans_pos _ _ _
    have hE1 : E.size ≤ 20000 := by rw [← hE]; exact ans_size _ _ _ (by omega)
    obtain ⟨E2, hE2⟩ : ∃ E2, E2 = E ++ (⟨#[61]⟩ : ByteArray) := ⟨_, rfl⟩
    have ha1 : ∀ w, (Op.stringOp .add E { data := #[61] }).run Try.prog w = .ok (.string E2) w := by rw [hE2]; exact put_run E _ (by omega) (by decide)
    have hne : decide (E2 = E) = false := by
      rw [decide_eq_false_iff_not, hE2]
      intro h
      have := congrArg ByteArray.size h
      rw [ByteArray.size_append] at this
      have h1 : (⟨#[61]⟩ : ByteArray).size = 1 := rfl
      omega
    have t3 : ((E.size : Int) == 0) = false := by rw [beq_eq_false_iff_ne]; omega
    have HE := Aside0.mk hE
    have HNE := Aside0.mk hne
    clear hE hE2 hne hlen hU hS hC hO
    go_upto_region 6 with (first | (go_at_call 20; refine (cans_any U S C E w HE.out (by omega) (by omega) (by omega)).mono ?_; rintro e w1 ⟨rfl, h1⟩; have H1 := Aside0.mk h1; clear h1) | (go_at_call 21; with_reducible refine Calls.mono (cver_at U S C E E true w1 HE.out (decide_eq_true (Eq.refl E)) (by omega) (by omega) (by omega)) ?_; rintro e w2 ⟨rfl, h2⟩; have H2 := Aside0.mk h2; clear h2) | (go_at_call 21; with_reducible refine Calls.mono (cver_at U S C E E2 false w2 HE.out HNE.out (by omega) (by omega) (by omega)) ?_; rintro e w3 ⟨rfl, h3⟩; have H3 := Aside0.mk h3; clear h3))
    obtain ⟨q, hq, hql⟩ := rounds_any nn E.size (by omega) (by omega)
    go_upto_region 7 with (fail)
    rw [hq]
    clear hq t1 t2
    obtain ⟨cp, W1, cs, kk, hcv⟩ := str_conv2 E (by omega)
    have hcr := fun w => (hcv w).1
    have HCV := Aside0.mk (fun w => (hcv w).2)
    clear hcv
    have hblk := (HCV.out w3).2.1
    have hlt : q < (byt E).length := by rw [byt_length]; exact hql
    have hc0 : (W1 w3).cell? ⟨w3.heap.size, q, none⟩ = some (.int .u8 ((byt E).getD q 0)) := by rw [cell_of_row (W1 w3) w3.heap.size _ _ _ _ hblk]; exact (HCV.out w3).2.2.1 q hql
    have hfr : (W1 w3).frozen? ⟨w3.heap.size, q, none⟩ = false := frozen_range hblk (by have := (HCV.out w3).2.2.2.1; omega)
    have hy := (byt_bytes E).getD q
    obtain ⟨y, hye⟩ : ∃ y, y = (byt E).getD q 0 := ⟨_, rfl⟩
    rw [← hye] at hc0 hy
    have hx1 := xor_one y hy.1 hy.2
    obtain ⟨y2, hy2⟩ : ∃ y2, y2 = bits .xor .u8 y 1 := ⟨_, rfl⟩
    rw [← hy2] at hx1
    have hxor : bits .xor .u8 y 1 = y2 := hy2.symm
    have hCB : CB ((W1 w3).setCell ⟨w3.heap.size, q, none⟩ (.int .u8 y2)) (some ⟨w3.heap.size, 0, none⟩) ((byt E).set q y2) := by
      refine CB_of_cells (setCell_range _ _ _ _ _ _ _ hblk) (fun j hj => ?_) (by rw [List.length_set, byt_length]; omega)
      rw [List.length_set, byt_length] at hj
      have hcj := (HCV.out w3).2.2.1 j hj
      have hjl : j < (byt E).length := by rw [byt_length]; exact hj
      by_cases hjq : q = j
      · subst hjq
        have hsz : q < (cs w3).size := (Array.getElem?_eq_some_iff.1 hcj).1
        rw [Array.getElem?_setIfInBounds_self_of_lt hsz, List.getD_eq_getElem?_getD, List.getElem?_set_self hjl]
        rfl
      · rw [Array.getElem?_setIfInBounds_ne hjq, hcj, List.getD_eq_getElem?_getD, List.getD_eq_getElem?_getD, List.getElem?_set_ne hjq]
    obtain ⟨X, hX⟩ : ∃ X, X = strOfNums ((byt E).set q y2) := ⟨_, rfl⟩
    have hXne : decide (X = E) = false := by
      rw [decide_eq_false_iff_not, hX]
      intro h
      have h1 := congrArg byt h
      rw [byt_str _ (by
        intro z hz
        rcases List.mem_or_eq_of_mem_set hz with h2 | h2
        · exact byt_bytes E z h2
        · rw [h2]; exact ⟨hx1.1, hx1.2.1⟩)] at h1
      exact set_ne (byt E) q y2 hlt (by rw [← hye]; exact hx1.2.2) h1
    have hBS : Below w3.heap.size w3 ((W1 w3).setCell ⟨w3.heap.size, q, none⟩ (.int .u8 y2)) := (HCV.out w3).1.setCell (Nat.le_refl _) _
    obtain ⟨WS, hWS⟩ : ∃ WS, WS = (W1 w3).setCell ⟨w3.heap.size, q, none⟩ (.int .u8 y2) := ⟨_, rfl⟩
    rw [← hWS] at hCB hBS
    have hlen : ((byt E).set q y2).length = E.size := by rw [List.length_set, byt_length]
    have hstr : (convert 22 9 (.slice (some ⟨w3.heap.size, 0, none⟩) E.size (cp w3))).run Try.prog WS = .ok (.string X) WS := by
      rw [hX]
      refine Kd.C_string (n := E.size) Try.underlying22 Try.underlying5 Try.underlying9 ?_
      unfold CB at hCB
      rw [hlen] at hCB
      exact hCB
    have HXN := Aside0.mk hXne
    have HBS := Aside0.mk hBS
    have hql' : (q : Int) < (E.size : Int) := by omega
    clear hblk hlt hye hy hx1 hy2 hCB hX hXne hBS hlen
    go_upto_region 9 with (fail)
    rw [← hWS]
    clear hWS hc0 hfr hcr HCV hxor
    have hbw3 := (H1.out.trans (H2.out.mono H1.out.size)).trans (H3.out.mono (Nat.le_trans H1.out.size H2.out.size))
    have HBW3 := Aside0.mk hbw3
    clear hbw3 H1 H2 H3
    go_cut [84] (fun v84 wc => v84 = .bool false ∧ Aside0 (Below WS.heap.size WS wc))
    case first =>
      by_cases hUO : U = O
      · have t1 : (U.toList == O.toList) = true := by rw [str_eq]; simp [hUO]
        clear hUO
        go_wp2_with (first | (go_at_call 21; with_reducible refine Calls.mono (cver_at U S C E X false WS HE.out HXN.out (by omega) (by omega) (by omega)) ?_; rintro e w4 ⟨rfl, h4⟩; have H4 := Aside0.mk h4; clear h4))
        go_meet
        case rel => exact ⟨rfl, H4⟩
      · have t1 : (U.toList == O.toList) = false := by rw [str_eq]; simp [hUO]
        have hne2 : decide (E = ans O S C) = false := by
          rw [decide_eq_false_iff_not, ← HE.out]
          intro h
          exact hUO (ans_inj U O S C S C h).1
        obtain ⟨E3, hE3⟩ : ∃ E3, ans O S C = E3 := ⟨_, rfl⟩
        rw [hE3] at hne2
        have HE3 := Aside0.mk hE3
        have HN3 := Aside0.mk hne2
        clear hE3 hne2 hUO
        go_wp2_with (first | (go_at_call 21; with_reducible refine Calls.mono (cver_at U S C E X false WS HE.out HXN.out (by omega) (by omega) (by omega)) ?_; rintro e w4 ⟨rfl, h4⟩; have H4 := Aside0.mk h4; clear h4) | (go_at_call 21; with_reducible refine Calls.mono (cver_at O S C E3 E false w4 HE3.out HN3.out (by omega) (by omega) (by omega)) ?_; rintro e w5 ⟨rfl, h5⟩; have H5 := Aside0.mk h5; clear h5))
        go_meet
        case rel => exact ⟨rfl, ⟨H4.out.trans (H5.out.mono H4.out.size)⟩⟩
    case rest =>
    obtain ⟨rfl, H4⟩ := hcut
    obtain ⟨wx, rfl⟩ : ∃ wz : World, wz = wc := ⟨_, rfl⟩
    clear hstr HXN X
    obtain ⟨cpS, WA, hcv⟩ := str_conv S (by omega)
    have hcr1 := fun w => (hcv w).1
    have HCA := Aside0.mk (fun w => (hcv w).2)
    clear hcv
    obtain ⟨cpC, WB, hcv⟩ := str_conv C (by omega)
    have hcr2 := fun w => (hcv w).1
    have HCB := Aside0.mk (fun w => (hcv w).2)
    clear hcv
    obtain ⟨cpO, WO, hcv⟩ := str_conv O (by omega)
    have hcr3 := fun w => (hcv w).1
    have HCO := Aside0.mk (fun w => (hcv w).2)
    clear hcv
    obtain ⟨K1, hK1⟩ : ∃ K, K = Md5.keyed (byt S) (byt C) := ⟨_, rfl⟩
    obtain ⟨K2, hK2⟩ : ∃ K, K = Md5.keyed (byt S) (byt O) := ⟨_, rfl⟩
    have hl1 : K1.length = 16 := by rw [hK1]; exact keyed_length _ _
    have hl2 : K2.length = 16 := by rw [hK2]; exact keyed_length _ _
    obtain ⟨oA, hoA⟩ : ∃ oA, (K1.map (Value.int .u8)).toArray = oA := ⟨_, rfl⟩
    obtain ⟨oB, hoB⟩ : ∃ oB, (K2.map (Value.int .u8)).toArray = oB := ⟨_, rfl⟩
    have HOK1 : Aside0 (((Md5.keyed (byt S) (byt C)).map (Value.int .u8)).toArray = oA) := ⟨by rw [← hK1]; exact hoA⟩
    have HOK2 : Aside0 (((Md5.keyed (byt S) (byt O)).map (Value.int .u8)).toArray = oB) := ⟨by rw [← hK2]; exact hoB⟩
    have HOA := Aside0.mk hoA
    have HOB := Aside0.mk hoB
    have HL1 := Aside0.mk hl1
    have HL2 := Aside0.mk hl2
    obtain ⟨E4, hE4⟩ : ∃ E4, ans U S O = E4 := ⟨_, rfl⟩
    have hvv : decide (E = E4) = (K1 == K2) := by
      rw [Bool.eq_iff_iff, decide_eq_true_eq, beq_iff_eq, ← HE.out, ← hE4]
      constructor
      · intro h
        rw [hK1, hK2]
        exact (ans_inj _ _ _ _ _ _ h).2
      · intro h
        rw [hK1, hK2] at h
        unfold ans
        rw [h]
    obtain ⟨vv, hve⟩ : ∃ vv, vv = (K1 == K2) := ⟨_, rfl⟩
    rw [← hve] at hvv
    have heql : ∀ w, (Op.equalIn 10000 24 (.agg oA) (.agg oB)).run Try.prog w = .ok vv w := by
      intro w
      rw [hve, ← hoA, ← hoB]
      exact eql_bytes w 9998 24 5 16 K1 K2 Try.underlying24 Try.underlying5 (by kernel_rfl) hl1 hl2
    have HE4 := Aside0.mk hE4
    have HVV := Aside0.mk hvv
    clear hK1 hK2 hl1 hl2 hoA hoB hE4 hvv hve
    go_upto_region 11 with (fail)
    go_cut [13, 14] (fun v13 v14 wc => ∃ b13 b14 : Nat, v13 = .pointer (some ⟨b13, 0, none⟩) ∧ v14 = .pointer (some ⟨b14, 0, none⟩) ∧ Aside0 (wc.heap[b13]? = some (.cells oA 24 (0, 0))) ∧ Aside0 (wc.heap[b14]? = some (.cells oB 24 (0, 0))) ∧ Aside0 (Below wx.heap.size wx wc))
    case first =>
      have hb1 := (HCA.out wx).1
      have hb2 := (HCB.out (WA wx)).1
      have hs1 := Kd.C_below (HCA.out wx).2.1 hb2
      have hs2 := (HCB.out (WA wx)).2.1
      have HS1 := Aside0.mk hs1
      have HS2 := Aside0.mk hs2
      have HB12 := Aside0.mk (hb1.trans (hb2.mono hb1.size))
      clear hs1 hs2 hb1 hb2
      go_wp2_with (first | (go_at_call 11; with_reducible refine Calls.mono (keyed_at (some ⟨wx.heap.size, 0, none⟩) (some ⟨(WA wx).heap.size, 0, none⟩) (cpS wx) (cpC (WA wx)) S.size C.size (byt S) (byt C) oA _ (byt_length S) (byt_length C) HOK1.out HS1.out (by rw [byt_length]; exact (HCA.out wx).2.2.1) (byt_bytes S) (by rw [byt_length]; omega) HS2.out (byt_bytes C) (by rw [byt_length]; omega)) ?_; rintro e w1 ⟨rfl, h1⟩; have H1 := Aside0.mk h1; clear h1) | (go_at_call 11; with_reducible refine Calls.mono (keyed_at (some ⟨w1.heap.size, 0, none⟩) (some ⟨(WA w1).heap.size, 0, none⟩) (cpS w1) (cpO (WA w1)) S.size O.size (byt S) (byt O) oB _ (byt_length S) (byt_length O) HOK2.out (Kd.C_below (HCA.out w1).2.1 (HCO.out (WA w1)).1) (by rw [byt_length]; exact (HCA.out w1).2.2.1) (byt_bytes S) (by rw [byt_length]; omega) (HCO.out (WA w1)).2.1 (byt_bytes O) (by rw [byt_length]; omega)) ?_; rintro e w2 ⟨rfl, h2⟩; have H2 := Aside0.mk h2; clear h2) | ((with_reducible refine gate_store (p := 13) rfl ?_); refine wpList_store_row rfl 24 _ _ rfl w2.heap.size oA rfl rfl 24 zero16 (heap_alloc2_old w2 _ _) (hi16 HOA.out HL1.out) (by rw [size16 HOA.out HL1.out]; rfl) (one16 HOA.out) ?_) | ((with_reducible refine gate_store (p := 14) rfl ?_); refine wpList_store_row rfl 24 _ _ rfl (w2.heap.size + 1) oB rfl rfl 24 zero16 ((setRow_other _ _ _ _ (by omega)).trans (heap_alloc2_new w2 _ _)) (hi16 HOB.out HL2.out) (by rw [size16 HOB.out HL2.out]; rfl) (one16 HOB.out) ?_))
      have z1 := H1.out.size
      have z0 := HB12.out.size
      have zA := (HCA.out w1).1.size
      have zO := (HCO.out (WA w1)).1.size
      have z2 := H2.out.size
      have g1 : Below wx.heap.size wx w1 := HB12.out.trans (H1.out.mono z0)
      have g2 : Below w1.heap.size w1 w2 := ((HCA.out w1).1.trans ((HCO.out (WA w1)).1.mono zA)).trans (H2.out.mono (by omega))
      have g3 : Below wx.heap.size wx w2 := g1.trans (g2.mono g1.size)
      have g4 := (g3.alloc g3.size (.cells zero16 24)).alloc (by have := g3.size; simp; omega) (.cells zero16 24)
      have HBW := Aside0.mk (Facts.below_setRow (Facts.below_setRow g4 (g := w2.heap.size) g3.size oA) (g := w2.heap.size + 1) (by have := g3.size; omega) oB)
      clear g1 g2 g3 g4 z0 z1 z2 zA zO
      go_wp2_with (fail)
      go_meet
      case rel => exact ⟨w2.heap.size, w2.heap.size + 1, rfl, rfl, ⟨(setRow_other _ _ _ _ (by omega)).trans (setRow_heap _ _ _ _ _ _ (heap_alloc2_old w2 _ _))⟩, ⟨setRow_heap _ _ _ _ _ _ ((setRow_other _ _ _ _ (by omega)).trans (heap_alloc2_new w2 _ _))⟩, HBW⟩
    case rest =>
    obtain ⟨b13, b14, rfl, rfl, HC13, HC14, HD⟩ := hcut
    obtain ⟨wp, rfl⟩ : ∃ wz : World, wz = wc := ⟨_, rfl⟩
    have hall : Below w.heap.size w wp := HBW3.out.trans ((HBS.out.trans ((H4.out.trans (HD.out.mono H4.out.size)).mono HBS.out.size)).mono HBW3.out.size)
    have HALL := Aside0.mk hall
    clear hall HBW3 HBS H4 HD hcr1 hcr2 hcr3 HCA HCB HCO
    go_upto_region 12 with (fail)
    refine Facts.region_any (n := 5 + 8) #[false, false, false, false, false, false, false, false, false, false, false, false, false] (by kernel_rfl) rfl (by kernel_rfl) (fun W0 hW0 hB0 => ?_)
    have hB1 : Below wp.heap.size wp W0 := hB0 _
    clear hW0 hB0
    refine Facts.wpAny_eval [(0, some 95), (1, some 96), (2, some 97), (3, some 98), (4, some 99), (5, some 100), (6, some 101), (7, some 102)] _ #[true, true, true, true, true, true, true, true, false, false, false, false, false] (by kernel_rfl) 5 _ _ (fun w1 w2 => Below w1.heap.size w1 w2) (ProvFacts (.string U) (.string S) (.string O) (.string E) (.bool vv) (.agg oA) (.agg oB) (.bool vv)) Facts.below_refl Facts.below_tr (ProvFacts.stab _ _ _ _ _ _ _ _) ?hop ?H (eight u95 u96 u97 u98 u99 u100 u101 u102) (by kernel_rfl)
    case hop =>
      intro x hx o ho V W hR hpre K hK
      have hW : Below wp.heap.size wp W := hB1.trans (hR.mono hB1.size)
      simp only [List.mem_cons, List.not_mem_nil, or_false] at hx
      rcases hx with rfl | rfl | rfl | rfl | rfl | rfl | rfl | rfl
      · obtain rfl := Option.some.inj ho
        refine Facts.OpDo.value (by kernel_rfl) rfl (v := .string U) (w1 := W) (by kernel_rfl) ?_
        exact hK _ _ rfl (Below.refl _ _)
      · obtain rfl := Option.some.inj ho
        refine Facts.OpDo.value (by kernel_rfl) rfl (v := .string S) (w1 := W) (by kernel_rfl) ?_
        exact hK _ _ rfl (Below.refl _ _)
      · obtain rfl := Option.some.inj ho
        refine Facts.OpDo.value (by kernel_rfl) rfl (v := .string O) (w1 := W) (by kernel_rfl) ?_
        exact hK _ _ rfl (Below.refl _ _)
      · obtain rfl := Option.some.inj ho
        refine Facts.OpDo.value (by kernel_rfl) rfl (v := .string E) (w1 := W) (by kernel_rfl) ?_
        exact hK _ _ rfl (Below.refl _ _)
      · obtain rfl := Option.some.inj ho
        have f0 : V 0 = .string U := hpre { on := 0, ground := .data } (by simp) rfl rfl
        have f1 : V 1 = .string S := hpre { on := 1, ground := .data } (by simp) rfl rfl
        have f2 : V 2 = .string O := hpre { on := 2, ground := .data } (by simp) rfl rfl
        have f3 : V 3 = .string E := hpre { on := 3, ground := .data } (by simp) rfl rfl
        refine Facts.OpDo.goes Try.func21 (by kernel_rfl) rfl #[V 0, V 1, V 2, V 3] (by kernel_rfl) rfl rfl (by kernel_rfl) ?_
        rw [f0, f1, f2, f3]
        refine (cver_at U S O E4 E vv W HE4.out HVV.out (by omega) (by omega) (by omega)).mono ?_
        rintro e w' ⟨rfl, hb'⟩
        exact ⟨_, rfl, hK _ _ rfl hb'⟩
      · obtain rfl := Option.some.inj ho
        refine Facts.load_row_ (by kernel_rfl) rfl 24 (.tmp 13) rfl b13 (by kernel_rfl) 24 oA (0, 0) _ (keep_blk HC13.out hW) Try.underlying24 rfl (hi16 HOA.out HL1.out) ?_
        exact hK _ _ rfl (Below.refl _ _)
      · obtain rfl := Option.some.inj ho
        refine Facts.load_row_ (by kernel_rfl) rfl 24 (.tmp 14) rfl b14 (by kernel_rfl) 24 oB (0, 0) _ (keep_blk HC14.out hW) Try.underlying24 rfl (hi16 HOB.out HL2.out) ?_
        exact hK _ _ rfl (Below.refl _ _)
      · obtain rfl := Option.some.inj ho
        have f5 : V 5 = .agg oA := hpre { on := 5, ground := .data } (by simp) rfl rfl
        have f6 : V 6 = .agg oB := hpre { on := 6, ground := .data } (by simp) rfl rfl
        refine Facts.OpDo.value (by kernel_rfl) rfl (v := .bool vv) (w1 := W) ?_ ?_
        · exact eql_do _ _ rfl rfl rfl ((show _ = V 5 by kernel_rfl).trans f5) ((show _ = V 6 by kernel_rfl).trans f6) (heql W)
        · exact hK _ _ rfl (Below.refl _ _)
    case H =>
      intro V W hR hΦ
      have f0 := hΦ (0, some 95) (by simp)
      have f1 := hΦ (1, some 96) (by simp)
      have f2 := hΦ (2, some 97) (by simp)
      have f3 := hΦ (3, some 98) (by simp)
      have f4 := hΦ (4, some 99) (by simp)
      have f5 := hΦ (5, some 100) (by simp)
      have f6 := hΦ (6, some 101) (by simp)
      have f7 := hΦ (7, some 102) (by simp)
      clear hΦ
      simp only [ProvFacts] at f0 f1 f2 f3 f4 f5 f6 f7
      have hW : Below wp.heap.size wp W := hB1.trans (hR.mono hB1.size)
      clear hR
      simp only [Facts.acE, f0, f1, f2, f3, f4, f5, f6, f7, Act.put, List.setIfInBounds_toArray, List.set_cons_zero, List.set_cons_succ]
      clear f0 f1 f2 f3 f4 f5 f6 f7 V
      refine Facts.wpAny_one (i := 8) #[true, true, true, true, true, true, true, true, true, false, false, false, false] rfl (by kernel_rfl) rfl (fun K hK => ?_)
      refine Facts.OpDo.value (by kernel_rfl) rfl (d := some 103) (v := .bool true) (w1 := W) (by go_simp) (hK _ _ ?_)
      clear hK K
      simp only [Act.put, List.setIfInBounds_toArray, List.set_cons_zero, List.set_cons_succ]
      refine Facts.wpAny_one (i := 9) #[true, true, true, true, true, true, true, true, true, true, false, false, false] rfl (by kernel_rfl) rfl (fun K hK => ?_)
      refine Facts.OpDo.value (by kernel_rfl) rfl (d := some 104) (v := .bool true) (w1 := W) (by go_simp) (hK _ _ ?_)
      clear hK K
      simp only [Act.put, List.setIfInBounds_toArray, List.set_cons_zero, List.set_cons_succ]
      refine Facts.wpAny_one (i := 10) #[true, true, true, true, true, true, true, true, true, true, true, false, false] rfl (by kernel_rfl) rfl (fun K hK => ?_)
      refine Facts.OpDo.goes (d := some 105) Try.func19 (by kernel_rfl) rfl #[] (by kernel_rfl) rfl rfl (by simp) ?_
      refine (wakesB_any W).mono ?_
      rintro e W2 ⟨rfl, hb2⟩
      refine ⟨_, rfl, hK _ _ ?_⟩
      clear hK K
      simp only [Act.put, List.setIfInBounds_toArray, List.set_cons_zero, List.set_cons_succ]
      refine Facts.wpAny_one (i := 11) #[true, true, true, true, true, true, true, true, true, true, true, true, false] rfl (by kernel_rfl) rfl (fun K hK => ?_)
      refine Facts.OpDo.value (by kernel_rfl) rfl (d := some 106) (v := .bool true) (w1 := W2) (by go_simp) (hK _ _ ?_)
      clear hK K
      simp only [Act.put, List.setIfInBounds_toArray, List.set_cons_zero, List.set_cons_succ]
      refine Facts.wpAny_one (i := 12) #[true, true, true, true, true, true, true, true, true, true, true, true, true] rfl (by kernel_rfl) rfl (fun K hK => ?_)
      refine Facts.OpDo.value (by kernel_rfl) rfl (d := some 10) (v := .bool true) (w1 := W2) (by go_simp) (hK _ _ ?_)
      clear hK K
      refine Facts.wpAny_done (by kernel_rfl) ?_
      simp only [Act.put, List.setIfInBounds_toArray, List.set_cons_zero, List.set_cons_succ]
      have hfin := (HALL.out.trans (hW.mono HALL.out.size)).trans (hb2.mono (by have := (HALL.out.trans (hW.mono HALL.out.size)).size; omega))
      go_wp2_with (fail)
      go_ret
      exact ⟨rfl, hfin⟩
end Go.Proofs.Ytalignlbbdeeiaa
