/- The walk of the law of keys: it answers yes. -/
import Derived.Test.YtalignlbbdeeiaaProg
import Derived.WalkKit
import Derived.WalkLawsBesides
import Derived.Outline
import Derived.LoopTactic
import Derived.Lib.Hide
import Derived.Deep.QuietTactic
import Derived.BigQuiet
import Derived.Deep.LoopGhost
import Derived.Deep.DeepCutAuto
import Derived.Deep.CutBlock
import Derived.Deep.RegionHeld3
import Derived.Deep.RegionWith
import Derived.Deep.WholeRow
import Derived.Laws.Rows
import Derived.Laws.Tables
import Derived.Laws.ResultCell
import Derived.StillTailTactics
import Derived.Deep.DeepMust
import Derived.IntWalk
import Derived.KernelRfl
import Derived.Test.YtalignlbbdeeiaaWWords
import Derived.Test.YtalignlbbdeeiaaWLast
import Derived.Test.YtalignlbbdeeiaaWMore
import Derived.RegionTactic
import Derived.Test.YtalignlbbdeeiaaWakes
namespace Go.Proofs.Ytalignlbbdeeiaa
open Go.RowKit
open Go.Proofs.YtalignlbbdeeiaaW.PrintWords
set_option linter.unusedVariables false
set_option linter.unusedSimpArgs false
theorem keyed_at (A B : Option Addr) (c d n m : Nat) (key text : List Int) (oA : Array Value) (w : World) (hn : key.length = n) (hm : text.length = m) (ho : ((Md5.keyed key text).map (Value.int .u8)).toArray = oA) (hk : CB w A key) (hkc : key.length ≤ c) (hkb : Md5.Bytes key) (hkl : key.length ≤ 10000) (ht : CB w B text) (htb : Md5.Bytes text) (htl : text.length ≤ 10000) :
    Calls Try.prog 11 #[.slice A n c, .slice B m d] w fun e w' => e = .returned (.agg oA) ∧ Below w.heap.size w w' := by
  subst hn hm ho
  exact keyed_any A B c d key text w hk hkc hkb hkl ht htb htl
theorem same16 (l : List Int) (oA : Array Value) (ho : (l.map (Value.int .u8)).toArray = oA) (hl : l.length = 16) (w : World) : (Op.equalIn 10000 24 (.agg oA) (.agg oA)).run Try.prog w = .ok true w := by
  subst ho
  have h := eql_bytes w 9998 24 5 16 l l Try.underlying24 Try.underlying5 (by kernel_rfl) hl hl
  simpa using h
theorem rounds_small (nn : Int) (m : Nat) (h1 : 1 ≤ m) (h2 : m ≤ 65) : ∃ q : Nat, wrap64 ((IntKind.u64.wrap nn).tmod (m : Int)) = q ∧ q < m := by
  have h0 : 0 ≤ IntKind.u64.wrap nn := by simp [IntKind.wrap, IntKind.signed, IntKind.bits]; omega
  rw [Int.tmod_eq_emod_of_nonneg h0]
  generalize IntKind.u64.wrap nn = x at *
  have h3 : 0 ≤ x % (m : Int) := Int.emod_nonneg _ (by omega)
  have h4 : x % (m : Int) < m := Int.emod_lt_of_pos _ (by omega)
  refine ⟨(x % (m : Int)).toNat, ?_, by omega⟩
  have : wrap64 (x % (m : Int)) = x % (m : Int) := by unfold wrap64; omega
  omega
def four (x0 x1 x2 x3 : Value) : Nat → Value
  | 0 => x0
  | 1 => x1
  | 2 => x2
  | _ => x3
/-- What the first four operations of the last region yield. -/
def KeyFacts (v0 v1 : Value) (oA : Array Value) : Nat → Value → World → Prop
  | 0, v, _ => v = v0
  | 1, v, _ => v = v1
  | 2, v, _ => v = .agg oA
  | 3, v, _ => v = .agg oA
  | _, _, _ => True
theorem KeyFacts.stab (v0 v1 : Value) (oA : Array Value) : ∀ i v w1 w2, KeyFacts v0 v1 oA i v w1 → Below w1.heap.size w1 w2 → KeyFacts v0 v1 oA i v w2
  | 0, _, _, _, h, _ => h
  | 1, _, _, _, h, _ => h
  | 2, _, _, _, h, _ => h
  | 3, _, _, _, h, _ => h
  | _ + 4, _, _, _, _, _ => trivial
set_option maxRecDepth 100000 in
set_option maxHeartbeats 4000000 in
theorem keys_any (A B : Option Addr) (c d : Nat) (key text : List Int) (nn : Int) (w : World) (hk : CB w A key) (hkc : key.length ≤ c) (hkb : Md5.Bytes key) (ht : CB w B text) (htb : Md5.Bytes text) (hnn : (Lit.int .i64 nn).wf = true) :
    Calls Try.prog 5 #[.slice A key.length c, .slice B text.length d, .int .i64 nn] w fun e w' => e = .returned (.bool true) ∧ Below w.heap.size w w' := by
  have HK := Aside0.mk hk
  have HKB := Aside0.mk hkb
  have HT := Aside0.mk ht
  have HTB := Aside0.mk htb
  clear hk hkb ht htb
  go_enter Try.func5, Try.ntmps5
  by_cases hb1 : 300 < key.length
  · have c1 : decide ((300 : Int) < (key.length : Int)) = true := by simp; omega
    have c2 : decide (300 < key.length) = true := by simp; omega
    go_wp2_with (fail)
    go_ret
    exact ⟨rfl, Below.refl _ _⟩
  have c1 : decide ((300 : Int) < (key.length : Int)) = false := by simp; omega
  have c2 : decide (300 < key.length) = false := by simp; omega
  by_cases hb2 : 300 < text.length
  · have c3 : decide ((300 : Int) < (text.length : Int)) = true := by simp; omega
    have c4 : decide (300 < text.length) = true := by simp; omega
    go_wp2_with (fail)
    go_ret
    exact ⟨rfl, Below.refl _ _⟩
  have c3 : decide ((300 : Int) < (text.length : Int)) = false := by simp; omega
  have c4 : decide (300 < text.length) = false := by simp; omega
  obtain ⟨oA, hoA⟩ : ∃ oA, ((Md5.keyed key text).map (Value.int .u8)).toArray = oA := ⟨_, rfl⟩
  have hl16 : (Md5.keyed key text).length = 16 := Md5.sum_length _
  have HOA := Aside0.mk hoA
  have HL := Aside0.mk hl16
  have heq := same16 _ oA hoA hl16
  clear hoA hl16
  go_upto_region 3 with (fail)
  go_cut [7] (fun v7 wc => ∃ b : Nat, v7 = .pointer (some ⟨b, 0, none⟩) ∧ w.heap.size ≤ b ∧ b < wc.heap.size ∧ Aside0 (wc.heap[b]? = some (.cells oA 24 (0, 0))) ∧ Aside0 (Below w.heap.size w wc))
  case first =>
    go_wp2_with (first | (go_at_call 11; refine (keyed_at A B c d _ _ key text oA w rfl rfl HOA.out HK.out hkc HKB.out (by omega) HT.out HTB.out (by omega)).mono ?_; rintro e w1 ⟨rfl, h1⟩; have H1 := Aside0.mk h1; clear h1) | ((with_reducible refine gate_store (p := 7) rfl ?_); refine wpList_store_row rfl 24 _ _ rfl w1.heap.size oA rfl rfl 24 zero16 (heap_alloc_new _ _) (hi16 HOA.out HL.out) (by rw [size16 HOA.out HL.out]; rfl) (one16 HOA.out) ?_; rw [World.setRow_alloc_new]))
    have hsz := H1.out.size
    have HBW := Aside0.mk (H1.out.alloc hsz (.cells oA 24))
    clear H1
    go_wp2_with (fail)
    go_meet
    case rel => exact ⟨w1.heap.size, rfl, hsz, by simp, ⟨heap_alloc_new _ _⟩, HBW⟩
  case rest =>
    obtain ⟨b, rfl, hb, hbs, HC, HD⟩ := hcut
    obtain ⟨wo, rfl⟩ : ∃ wo : World, wo = wc := ⟨_, rfl⟩
    by_cases hlong : 64 < key.length
    · have d1 : decide ((64 : Int) < (key.length : Int)) = true := by simp; omega
      have d2 : decide (64 < key.length) = true := by simp; omega
      obtain ⟨S, hS⟩ : ∃ S, S = Md5.sum key := ⟨_, rfl⟩
      have hlen : S.length = 16 := by rw [hS]; exact Md5.sum_length _
      have hsb : Md5.Bytes S := by rw [hS]; exact Md5.sum_bytes _
      have hkk : ((Md5.keyed S text).map (Value.int .u8)).toArray = oA := by rw [hS, Md5.keyed_sum key text hlong]; exact HOA.out
      obtain ⟨oB, hoB⟩ : ∃ oB, (S.map (Value.int .u8)).toArray = oB := ⟨_, rfl⟩
      have HS := Aside0.mk hS
      have HSL := Aside0.mk hlen
      have HSB := Aside0.mk hsb
      have HKK := Aside0.mk hkk
      have HOB := Aside0.mk hoB
      clear hS hlen hsb hkk hoB
      go_upto_region 5 with (fail)
      go_cut [8] (fun v8 wd => ∃ b8 : Nat, v8 = .pointer (some ⟨b8, 0, none⟩) ∧ wo.heap.size ≤ b8 ∧ b8 < wd.heap.size ∧ Aside0 (wd.heap[b8]? = some (.cells oB 24 (0, 0))) ∧ Aside0 (Below wo.heap.size wo wd))
      case first =>
        go_wp2_with (first | (go_at_call 9; refine (sum_at A c _ key S wo rfl HS.out (Kd.C_below HK.out HD.out) hkc HKB.out (by omega)).mono ?_; rintro e w1 ⟨rfl, h1⟩; rw [HOB.out]; have H1 := Aside0.mk h1; clear h1) | ((with_reducible refine gate_store (p := 8) rfl ?_); refine wpList_store_row rfl 24 _ _ rfl w1.heap.size oB rfl rfl 24 zero16 (heap_alloc_new _ _) (hi16 HOB.out HSL.out) (by rw [size16 HOB.out HSL.out]; rfl) (one16 HOB.out) ?_; rw [World.setRow_alloc_new]))
        have hsz := H1.out.size
        have HBW := Aside0.mk (H1.out.alloc hsz (.cells oB 24))
        clear H1
        go_wp2_with (fail)
        go_meet
        case rel => exact ⟨w1.heap.size, rfl, hsz, by simp, ⟨heap_alloc_new _ _⟩, HBW⟩
      case rest =>
        obtain ⟨b8, rfl, hb8, hbs8, HC8, HD8⟩ := hcut
        obtain ⟨wp, rfl⟩ : ∃ wp : World, wp = wc := ⟨_, rfl⟩
        have HA : ∀ W : World, Below wp.heap.size wp W → Below wo.heap.size wo W := fun W h => HD8.out.trans (h.mono HD8.out.size)
        have HCA : ∀ W : World, Below wp.heap.size wp W → W.heap[b]? = some (.cells oA 24 (0, 0)) := fun W h => by rw [(HA W h).block b (by omega)]; exact HC.out
        have HC8A : ∀ W : World, Below wp.heap.size wp W → W.heap[b8]? = some (.cells oB 24 (0, 0)) := fun W h => by rw [h.block b8 (by omega)]; exact HC8.out
        have HTA : ∀ W : World, Below wp.heap.size wp W → CB W B text := fun W h => Kd.C_below (Kd.C_below HT.out HD.out) (HA W h)
        have HSA : ∀ W : World, Below wp.heap.size wp W → CB W (some ⟨b8, 0, none⟩) S := fun W h => CB_of_row (HC8A W h) HOB.out.symm (by rw [HSL.out]; omega)
        go_upto_region 6 with (fail)
        have hD := HD.out
        have hDs := hD.size
        refine Facts.region_any (n := 5 + 4) #[false, false, false, false, false, false, false, false, false] (by kernel_rfl) rfl (by kernel_rfl) (fun W0 hW0 hB0 => ?_)
        have hB1 : Below wp.heap.size wp W0 := hB0 _
        clear hW0 hB0
        refine Facts.wpAny_eval [(0, some 27), (1, some 28), (2, some 29), (3, some 30)] _ #[true, true, true, true, false, false, false, false, false] (by kernel_rfl) 5 _ _ (fun w1 w2 => Below w1.heap.size w1 w2) (KeyFacts (.slice (some ⟨b8, 0, none⟩) 16 16) (.slice B text.length d) oA) Facts.below_refl Facts.below_tr (KeyFacts.stab _ _ _) ?hop ?H (four _ _ _ _) rfl
        case hop =>
          intro x hx o ho V W hR hpre K hK
          have hW : Below wp.heap.size wp W := hB1.trans (hR.mono hB1.size)
          simp only [List.mem_cons, List.not_mem_nil, or_false] at hx
          rcases hx with rfl | rfl | rfl | rfl
          · obtain rfl := Option.some.inj ho
            refine Facts.OpDo.value (by kernel_rfl) rfl (v := .slice (some ⟨b8, 0, none⟩) 16 16) (w1 := W) (by kernel_rfl) ?_
            exact hK _ _ rfl (Below.refl _ _)
          · obtain rfl := Option.some.inj ho
            refine Facts.OpDo.value (by kernel_rfl) rfl (v := .slice B text.length d) (w1 := W) (by kernel_rfl) ?_
            exact hK _ _ rfl (Below.refl _ _)
          · obtain rfl := Option.some.inj ho
            have f0 : V 0 = .slice (some ⟨b8, 0, none⟩) 16 16 := hpre { on := 0, ground := .data } (by simp) rfl rfl
            have f1 : V 1 = .slice B text.length d := hpre { on := 1, ground := .data } (by simp) rfl rfl
            refine Facts.OpDo.goes Try.func11 (by kernel_rfl) rfl #[V 0, V 1] (by kernel_rfl) rfl rfl (by kernel_rfl) ?_
            rw [f0, f1]
            refine (keyed_at (some ⟨b8, 0, none⟩) B 16 d 16 _ S text oA W HSL.out rfl HKK.out (HSA W hW) (by rw [HSL.out]; omega) HSB.out (by rw [HSL.out]; omega) (HTA W hW) HTB.out (by omega)).mono ?_
            rintro e w' ⟨rfl, hb'⟩
            exact ⟨_, rfl, hK _ _ rfl hb'⟩
          · obtain rfl := Option.some.inj ho
            refine Facts.load_row_ (by kernel_rfl) rfl 24 (.tmp 7) rfl b (by kernel_rfl) 24 oA (0, 0) _ (HCA W hW) Try.underlying24 rfl (hi16 HOA.out HL.out) ?_
            exact hK _ _ rfl (Below.refl _ _)
        case H =>
          intro V W hR hΦ
          have f0 := hΦ (0, some 27) (by simp)
          have f1 := hΦ (1, some 28) (by simp)
          have f2 := hΦ (2, some 29) (by simp)
          have f3 := hΦ (3, some 30) (by simp)
          clear hΦ
          simp only [KeyFacts] at f0 f1 f2 f3
          have hW : Below wp.heap.size wp W := hB1.trans (hR.mono hB1.size)
          clear hR
          simp only [Facts.acE, f0, f1, f2, f3, Act.put, List.setIfInBounds_toArray, List.set_cons_zero, List.set_cons_succ]
          clear f0 f1 f2 f3 V
          refine Facts.wpAny_one (i := 4) #[true, true, true, true, true, false, false, false, false] rfl (by kernel_rfl) rfl (fun K hK => ?_)
          refine Facts.OpDo.value (by kernel_rfl) rfl (d := some 31) (v := .bool true) (w1 := W) (by go_simp) (hK _ _ ?_)
          clear hK K
          simp only [Act.put, List.setIfInBounds_toArray, List.set_cons_zero, List.set_cons_succ]
          refine Facts.wpAny_one (i := 5) #[true, true, true, true, true, true, false, false, false] rfl (by kernel_rfl) rfl (fun K hK => ?_)
          refine Facts.OpDo.value (by kernel_rfl) rfl (d := some 32) (v := .bool true) (w1 := W) (by go_simp) (hK _ _ ?_)
          clear hK K
          simp only [Act.put, List.setIfInBounds_toArray, List.set_cons_zero, List.set_cons_succ]
          refine Facts.wpAny_one (i := 6) #[true, true, true, true, true, true, true, false, false] rfl (by kernel_rfl) rfl (fun K hK => ?_)
          refine Facts.OpDo.goes (d := some 33) Try.func14 (by kernel_rfl) rfl #[] (by kernel_rfl) rfl rfl (by simp) ?_
          refine (wakes_any W).mono ?_
          rintro e W2 ⟨rfl, hb2⟩
          refine ⟨_, rfl, hK _ _ ?_⟩
          clear hK K
          simp only [Act.put, List.setIfInBounds_toArray, List.set_cons_zero, List.set_cons_succ]
          refine Facts.wpAny_one (i := 7) #[true, true, true, true, true, true, true, true, false] rfl (by kernel_rfl) rfl (fun K hK => ?_)
          refine Facts.OpDo.value (by kernel_rfl) rfl (d := some 34) (v := .bool true) (w1 := W2) (by go_simp) (hK _ _ ?_)
          clear hK K
          simp only [Act.put, List.setIfInBounds_toArray, List.set_cons_zero, List.set_cons_succ]
          refine Facts.wpAny_one (i := 8) #[true, true, true, true, true, true, true, true, true] rfl (by kernel_rfl) rfl (fun K hK => ?_)
          refine Facts.OpDo.value (by kernel_rfl) rfl (d := some 6) (v := .bool true) (w1 := W2) (by go_simp) (hK _ _ ?_)
          clear hK K
          refine Facts.wpAny_done (by kernel_rfl) ?_
          simp only [Act.put, List.setIfInBounds_toArray, List.set_cons_zero, List.set_cons_succ]
          have hfin := (hD.trans ((HA W hW).mono hDs)).trans (hb2.mono (by have := (hD.trans ((HA W hW).mono hDs)).size; omega))
          go_wp2_with (fail)
          go_ret
          exact ⟨rfl, hfin⟩
    · have d1 : decide ((64 : Int) < (key.length : Int)) = false := by simp; omega
      have d2 : decide (64 < key.length) = false := by simp; omega
      clear c1 c2 c3 c4
      go_upto_region 7 with (fail)
      go_cut [9] (fun v9 wd => Aside0 (RB wd wo.heap.size (fun _ => True) v9 key) ∧ Aside0 (Below wo.heap.size wo wd))
      case first =>
        go_wp2_with (first | (go_at_call 8; refine (twin_any A c key wo (Kd.C_below HK.out HD.out) (by omega)).mono ?_; rintro e w1 ⟨v, rfl, h1, h2⟩; have H1 := Aside0.mk h1; have H2 := Aside0.mk h2; clear h1 h2))
        go_meet
        case rel => exact ⟨H1, H2⟩
      case rest =>
        obtain ⟨H9, HD9⟩ := hcut
        obtain ⟨wp, rfl⟩ : ∃ wp : World, wp = wc := ⟨_, rfl⟩
        obtain ⟨A9, k9, rfl, hk9, hr9⟩ := Kd.R_reads H9.out
        have e65 : ((65 : Int) - (key.length : Int)) = ((65 - key.length : Nat) : Int) := by omega
        obtain ⟨q, hq, hql⟩ := rounds_small nn (65 - key.length) (by omega) (by omega)
        go_upto_block 0 with (fail)
        rw [hq]
        clear hq e65
        go_wp2_with (fail)
        go_loopg [9, 10] q (fun g v9 v10 wx => ∃ j : Nat, g + j = q ∧ v10 = .int .i64 g ∧ Aside0 (RB wx wo.heap.size (fun _ => True) v9 (key ++ List.replicate j 0)) ∧ Aside0 (Below wo.heap.size wo wx))
        case atStart => exact ⟨0, by omega, rfl, ⟨by simpa using H9.out⟩, HD9⟩
        case round =>
          clear H9 HD9
          obtain ⟨wp, rfl⟩ : ∃ wp : World, wp = wr := ⟨_, rfl⟩
          obtain ⟨g, rfl⟩ : ∃ g : Nat, g = gk := ⟨_, rfl⟩
          obtain ⟨j, hj, rfl, H9, HD9⟩ := hrel
          obtain ⟨A9, k9, rfl, hk9, hr9⟩ := Kd.R_reads H9.out
          have HR9 := Aside0.mk hr9
          clear hr9
          by_cases h0 : 0 < g
          · have e1 : decide ((0 : Int) < (g : Int)) = true := by simp; omega
            have e2 : decide (0 < g) = true := by simp; omega
            go_wp2_with (first | ((with_reducible refine gate_builtin (b := .append) (xs := #[.tmp 49, .tmp 50]) rfl ?_); at_builtin; refine Kd.R_append_rows (Kd.int .u8) (w0 := wo) wo.heap.size rfl (.tmp 49) (.tmp 50) 22 5 (.int .u8 0) 1 rfl Try.underlying22 infoU8 rfl (by decide) (by omega) (.slice A9 (key ++ List.replicate j 0).length k9) (key ++ List.replicate j 0) [0] _ _ _ (fun _ => True) (fun _ => False) rfl rfl (Kd.R_alloc H9.out _) (CB_of_row (heap_alloc_new _ _) rfl (by simp)) (fun _ _ h => h) (fun _ h => h.elim) (fun _ _ => trivial) (HD9.out.alloc HD9.out.size _) (by have := HD9.out.size; simp <;> omega) (by simp <;> omega) ?_; intro v2 w2 g1 g2 g3 g4; have eL : key ++ List.replicate j 0 ++ [0] = key ++ List.replicate (j + 1) (0 : Int) := (by rw [List.append_assoc, ← List.replicate_succ']); rw [eL] at g1; have G1 := Aside0.mk g1; have G2 := Aside0.mk g2; clear g1 g2 g3 g4 eL))
            go_roundg (g - 1)
            case measure => omega
            case rel => exact ⟨j + 1, by omega, by go_num, G1, G2⟩
          · obtain rfl : g = 0 := by omega
            go_wp2_with (fail)
            have eS : ((Md5.keyed (key ++ List.replicate j 0) text).map (Value.int .u8)).toArray = oA := by rw [Md5.keyed_zeros key text j (by omega)]; exact HOA.out
            have hS := Aside0.mk eS
            have hbl : Md5.Bytes (key ++ List.replicate j 0) := HKB.out.append (Md5.Bytes.replicate j)
            have HBL := Aside0.mk hbl
            clear eS hbl
            have HA : ∀ W : World, Below wp.heap.size wp W → Below wo.heap.size wo W := fun W h => HD9.out.trans (h.mono HD9.out.size)
            have HCA : ∀ W : World, Below wp.heap.size wp W → W.heap[b]? = some (.cells oA 24 (0, 0)) := fun W h => by rw [(HA W h).block b (by omega)]; exact HC.out
            have HTA : ∀ W : World, Below wp.heap.size wp W → CB W B text := fun W h => Kd.C_below (Kd.C_below HT.out HD.out) (HA W h)
            have hD := HD.out
            have hDs := hD.size
            refine Facts.region_any (n := 5 + 4) #[false, false, false, false, false, false, false, false, false] (by kernel_rfl) rfl (by kernel_rfl) (fun W0 hW0 hB0 => ?_)
            have hB1 : Below wp.heap.size wp W0 := hB0 _
            clear hW0 hB0
            refine Facts.wpAny_eval [(0, some 52), (1, some 53), (2, some 54), (3, some 55)] _ #[true, true, true, true, false, false, false, false, false] (by kernel_rfl) 5 _ _ (fun w1 w2 => Below w1.heap.size w1 w2) (KeyFacts (.slice A9 (key ++ List.replicate j 0).length k9) (.slice B text.length d) oA) Facts.below_refl Facts.below_tr (KeyFacts.stab _ _ _) ?hop ?H (four _ _ _ _) rfl
            case hop =>
              intro x hx o ho V W hR hpre K hK
              have hW : Below wp.heap.size wp W := hB1.trans (hR.mono hB1.size)
              simp only [List.mem_cons, List.not_mem_nil, or_false] at hx
              rcases hx with rfl | rfl | rfl | rfl
              · obtain rfl := Option.some.inj ho
                refine Facts.OpDo.value (by kernel_rfl) rfl (v := .slice A9 (key ++ List.replicate j 0).length k9) (w1 := W) (by kernel_rfl) ?_
                exact hK _ _ rfl (Below.refl _ _)
              · obtain rfl := Option.some.inj ho
                refine Facts.OpDo.value (by kernel_rfl) rfl (v := .slice B text.length d) (w1 := W) (by kernel_rfl) ?_
                exact hK _ _ rfl (Below.refl _ _)
              · obtain rfl := Option.some.inj ho
                have f0 : V 0 = .slice A9 (key ++ List.replicate j 0).length k9 := hpre { on := 0, ground := .data } (by simp) rfl rfl
                have f1 : V 1 = .slice B text.length d := hpre { on := 1, ground := .data } (by simp) rfl rfl
                refine Facts.OpDo.goes Try.func11 (by kernel_rfl) rfl #[V 0, V 1] (by kernel_rfl) rfl rfl (by kernel_rfl) ?_
                rw [f0, f1]
                refine (keyed_at A9 B k9 d _ _ (key ++ List.replicate j 0) text oA W rfl rfl hS.out (Kd.C_below HR9.out hW) hk9 HBL.out (by simp <;> omega) (HTA W hW) HTB.out (by omega)).mono ?_
                rintro e w' ⟨rfl, hb'⟩
                exact ⟨_, rfl, hK _ _ rfl hb'⟩
              · obtain rfl := Option.some.inj ho
                refine Facts.load_row_ (by kernel_rfl) rfl 24 (.tmp 7) rfl b (by kernel_rfl) 24 oA (0, 0) _ (HCA W hW) Try.underlying24 rfl (hi16 HOA.out HL.out) ?_
                exact hK _ _ rfl (Below.refl _ _)
            case H =>
              intro V W hR hΦ
              have f0 := hΦ (0, some 52) (by simp)
              have f1 := hΦ (1, some 53) (by simp)
              have f2 := hΦ (2, some 54) (by simp)
              have f3 := hΦ (3, some 55) (by simp)
              clear hΦ
              simp only [KeyFacts] at f0 f1 f2 f3
              have hW : Below wp.heap.size wp W := hB1.trans (hR.mono hB1.size)
              clear hR
              simp only [Facts.acE, f0, f1, f2, f3, Act.put, List.setIfInBounds_toArray, List.set_cons_zero, List.set_cons_succ]
              clear f0 f1 f2 f3 V
              refine Facts.wpAny_one (i := 4) #[true, true, true, true, true, false, false, false, false] rfl (by kernel_rfl) rfl (fun K hK => ?_)
              refine Facts.OpDo.value (by kernel_rfl) rfl (d := some 56) (v := .bool true) (w1 := W) (by go_simp) (hK _ _ ?_)
              clear hK K
              simp only [Act.put, List.setIfInBounds_toArray, List.set_cons_zero, List.set_cons_succ]
              refine Facts.wpAny_one (i := 5) #[true, true, true, true, true, true, false, false, false] rfl (by kernel_rfl) rfl (fun K hK => ?_)
              refine Facts.OpDo.value (by kernel_rfl) rfl (d := some 57) (v := .bool true) (w1 := W) (by go_simp) (hK _ _ ?_)
              clear hK K
              simp only [Act.put, List.setIfInBounds_toArray, List.set_cons_zero, List.set_cons_succ]
              refine Facts.wpAny_one (i := 6) #[true, true, true, true, true, true, true, false, false] rfl (by kernel_rfl) rfl (fun K hK => ?_)
              refine Facts.OpDo.goes (d := some 58) Try.func14 (by kernel_rfl) rfl #[] (by kernel_rfl) rfl rfl (by simp) ?_
              refine (wakes_any W).mono ?_
              rintro e W2 ⟨rfl, hb2⟩
              refine ⟨_, rfl, hK _ _ ?_⟩
              clear hK K
              simp only [Act.put, List.setIfInBounds_toArray, List.set_cons_zero, List.set_cons_succ]
              refine Facts.wpAny_one (i := 7) #[true, true, true, true, true, true, true, true, false] rfl (by kernel_rfl) rfl (fun K hK => ?_)
              refine Facts.OpDo.value (by kernel_rfl) rfl (d := some 59) (v := .bool true) (w1 := W2) (by go_simp) (hK _ _ ?_)
              clear hK K
              simp only [Act.put, List.setIfInBounds_toArray, List.set_cons_zero, List.set_cons_succ]
              refine Facts.wpAny_one (i := 8) #[true, true, true, true, true, true, true, true, true] rfl (by kernel_rfl) rfl (fun K hK => ?_)
              refine Facts.OpDo.value (by kernel_rfl) rfl (d := some 6) (v := .bool true) (w1 := W2) (by go_simp) (hK _ _ ?_)
              clear hK K
              refine Facts.wpAny_done (by kernel_rfl) ?_
              simp only [Act.put, List.setIfInBounds_toArray, List.set_cons_zero, List.set_cons_succ]
              have hfin := (hD.trans ((HA W hW).mono hDs)).trans (hb2.mono (by have := (hD.trans ((HA W hW).mono hDs)).size; omega))
              go_wp2_with (fail)
              go_ret
              exact ⟨rfl, hfin⟩
end Go.Proofs.Ytalignlbbdeeiaa
