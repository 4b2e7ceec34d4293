/- The walk of the law of known sums: it answers yes. -/
import Derived.Test.YtalignlbbdeeiaaProg
import Derived.WalkKit
import Derived.WalkLawsBesides
import Derived.Outline
import Derived.LoopTactic
import Derived.Lib.Hide
import Derived.Deep.QuietTactic
import Derived.BigQuiet
import Derived.Deep.LoopGhost
import Derived.Deep.DeepCutAuto
import Derived.Deep.CutBlock
import Derived.Deep.RegionHeld3
import Derived.Deep.RegionWith
import Derived.Deep.WholeRow
import Derived.Laws.Rows
import Derived.Laws.Tables
import Derived.Laws.ResultCell
import Derived.StillTailTactics
import Derived.Deep.DeepMust
import Derived.IntWalk
import Derived.KernelRfl
import Derived.Test.YtalignlbbdeeiaaWWords
import Derived.Test.YtalignlbbdeeiaaWLast
import Derived.Test.YtalignlbbdeeiaaWMore
import Derived.RegionTactic
import Derived.Lib.SmallJoins
import Derived.Test.YtalignlbbdeeiaaKeys
import Derived.Test.YtalignlbbdeeiaaKnownA
namespace Go.Proofs.Ytalignlbbdeeiaa
open Go.RowKit
open Go.Proofs.YtalignlbbdeeiaaW.PrintWords
set_option linter.unusedVariables false
set_option linter.unusedSimpArgs false
theorem keep_blk {w w' : World} {b : Nat} {o : Obj} (h : w.heap[b]? = some o) (hb : Below w.heap.size w w') : w'.heap[b]? = some o := by
  rw [hb.block b ?_]
  · exact h
  · rcases Nat.lt_or_ge b w.heap.size with h' | h'
    · exact h'
    · rw [Array.getElem?_eq_none h'] at h; cases h
theorem lt_blk {w : World} {b : Nat} {o : Obj} (h : w.heap[b]? = some o) : b < w.heap.size := by
  rcases Nat.lt_or_ge b w.heap.size with h' | h'
  · exact h'
  · rw [Array.getElem?_eq_none h'] at h; cases h
def six (x0 x1 x2 x3 x4 x5 : Value) : Nat → Value
  | 0 => x0
  | 1 => x1
  | 2 => x2
  | 3 => x3
  | 4 => x4
  | _ => x5
def KnownFacts (v0 v1 v2 v3 v4 : Value) : Nat → Value → World → Prop
  | 0, v, _ => v = v0
  | 1, v, _ => v = v1
  | 2, v, _ => v = v2
  | 3, v, _ => v = v3
  | 4, v, _ => v = v4
  | 5, v, _ => v = v1
  | _, _, _ => True
theorem KnownFacts.stab (v0 v1 v2 v3 v4 : Value) : ∀ i v w1 w2, KnownFacts v0 v1 v2 v3 v4 i v w1 → Below w1.heap.size w1 w2 → KnownFacts v0 v1 v2 v3 v4 i v w2
  | 0, _, _, _, h, _ => h
  | 1, _, _, _, h, _ => h
  | 2, _, _, _, h, _ => h
  | 3, _, _, _, h, _ => h
  | 4, _, _, _, h, _ => h
  | 5, _, _, _, h, _ => h
  | _ + 6, _, _, _, _, _ => trivial
theorem hexs_data {l : List Int} {E : ByteArray} (h : (hexs l).toArray = E.data) : (⟨(hexs l).toArray⟩ : ByteArray) = E := by rw [h]
theorem hex_at (A : Option Addr) (c n : Nat) (l : List Int) (E : ByteArray) (w : World) (hn : l.length = n) (hE : (⟨(hexs l).toArray⟩ : ByteArray) = E) (hr : CB w A l) (hb : Md5.Bytes l) (hl : l.length ≤ 100000) :
    Calls Try.prog 15 #[.slice A n c] w fun e w' => e = .returned (.string E) ∧ Below w.heap.size w w' := by
  subst hn hE
  refine (hex_any A c l w hr hb hl).mono ?_
  rintro e w' ⟨rfl, n, rfl⟩
  exact ⟨rfl, pw_below_drewN (Below.refl _ _) n⟩
set_option maxRecDepth 100000 in
set_option maxHeartbeats 4000000 in
theorem known_any (nn : Int) (w : World) (hnn : (Lit.int .i64 nn).wf = true) :
    Calls Try.prog 4 #[.int .i64 nn] w fun e w' => e = .returned (.bool true) ∧ Below w.heap.size w w' := by
  go_enter Try.func4, Try.ntmps4
  go_upto_region 1 with (fail)
  go_cut [3] (fun v3 wc => ∃ b3 : Nat, v3 = .slice (some ⟨b3, 0, none⟩) 5 5 ∧ Aside0 (wc.heap[b3]? = some (.cells texts 9 (0, 0))) ∧ Aside0 (Below w.heap.size w wc))
  case first =>
    go_wp2_with (fail)
    go_meet
    case rel => exact ⟨w.heap.size, rfl, ⟨heap_alloc_new _ _⟩, ⟨(Below.refl _ _).alloc (Nat.le_refl _) _⟩⟩
  case rest =>
  obtain ⟨b3, rfl, H3, HA⟩ := hcut
  obtain ⟨wa, rfl⟩ : ∃ wa : World, wa = wc := ⟨_, rfl⟩
  go_upto_region 2 with (fail)
  go_cut [4] (fun v4 wc => ∃ b4 : Nat, v4 = .slice (some ⟨b4, 0, none⟩) 5 5 ∧ Aside0 (wc.heap[b4]? = some (.cells sums 9 (0, 0))) ∧ Aside0 (Below wa.heap.size wa wc))
  case first =>
    go_wp2_with (fail)
    go_meet
    case rel => exact ⟨wa.heap.size, rfl, ⟨heap_alloc_new _ _⟩, ⟨(Below.refl _ _).alloc (Nat.le_refl _) _⟩⟩
  case rest =>
  obtain ⟨b4, rfl, H4, HB⟩ := hcut
  obtain ⟨wb, rfl⟩ : ∃ wb : World, wb = wc := ⟨_, rfl⟩
  have h3 := keep_blk H3.out HB.out
  have hbb : Below w.heap.size w wb := HA.out.trans (HB.out.mono HA.out.size)
  have H3' := Aside0.mk h3
  have HW := Aside0.mk hbb
  clear H3 HA HB h3 hbb
  obtain ⟨q, hq, hql⟩ := rounds_small nn 5 (by omega) (by omega)
  go_upto_region 4 with (fail)
  have hq' : wrap64 ((IntKind.u64.wrap nn).tmod 5) = (q : Int) := hq
  rw [hq']
  have ct : wb.cell? ⟨b3, q, none⟩ = some (.string (tx q)) := by rw [cell_of_row wb b3 _ _ _ _ H3'.out]; exact texts_at q hql
  have hts := tx_size q hql
  have hks := known_sum q hql
  obtain ⟨T, hT⟩ : ∃ T, T = tx q := ⟨_, rfl⟩
  rw [← hT] at ct hts hks
  obtain ⟨S, hS⟩ : ∃ S, S = Md5.sum (byt T) := ⟨_, rfl⟩
  rw [← hS] at hks
  have hSl : S.length = 16 := by rw [hS]; exact Md5.sum_length _
  have hSb : Md5.Bytes S := by rw [hS]; exact Md5.sum_bytes _
  obtain ⟨oA, hoA⟩ : ∃ oA, (S.map (Value.int .u8)).toArray = oA := ⟨_, rfl⟩
  have HS := Aside0.mk hS
  have HSL := Aside0.mk hSl
  have HSB := Aside0.mk hSb
  have HOA := Aside0.mk hoA
  have HKS := Aside0.mk hks
  clear hq hq' hT hS hSl hSb hoA hks
  obtain ⟨cp, W1, hcv⟩ := str_conv T (by omega)
  have hcr := fun w => (hcv w).1
  have HCV := Aside0.mk (fun w => (hcv w).2)
  clear hcv
  have hq0 : (0 : Int) ≤ (q : Int) := by omega
  have hq5 : (q : Int) < 5 := by omega
  go_cut [5] (fun v5 wc => ∃ b5 : Nat, v5 = .pointer (some ⟨b5, 0, none⟩) ∧ Aside0 (wc.heap[b5]? = some (.cells oA 24 (0, 0))) ∧ Aside0 (Below wb.heap.size wb wc))
  case first =>
    go_wp2_with (first | (go_at_call 9; refine (sum_at (some ⟨wb.heap.size, 0, none⟩) (cp wb) T.size (byt T) S _ (byt_length T) HS.out (HCV.out wb).2.1 (by rw [byt_length]; exact (HCV.out wb).2.2.1) (byt_bytes T) (by rw [byt_length]; omega)).mono ?_; rintro e w1 ⟨rfl, h1⟩; rw [HOA.out]; have H1 := Aside0.mk h1; clear h1) | ((with_reducible refine gate_store (p := 5) rfl ?_); refine wpList_store_row rfl 24 _ _ rfl w1.heap.size oA rfl rfl 24 zero16 (heap_alloc_new _ _) (hi16 HOA.out HSL.out) (by rw [size16 HOA.out HSL.out]; rfl) (one16 HOA.out) ?_; rw [World.setRow_alloc_new]))
    have hsz := (HCV.out wb).1.size
    have hsz2 := H1.out.size
    have hbw := ((HCV.out wb).1.trans (H1.out.mono hsz)).alloc (by omega) (.cells oA 24)
    have HBW := Aside0.mk hbw
    clear H1 hbw
    go_wp2_with (fail)
    go_meet
    case rel => exact ⟨w1.heap.size, rfl, ⟨heap_alloc_new _ _⟩, HBW⟩
  case rest =>
  obtain ⟨b5, rfl, H5, HB⟩ := hcut
  obtain ⟨wc', rfl⟩ : ∃ wz : World, wz = wc := ⟨_, rfl⟩
  have h4 := keep_blk H4.out HB.out
  have hbb : Below w.heap.size w wc' := HW.out.trans (HB.out.mono HW.out.size)
  have H4' := Aside0.mk h4
  have HW' := Aside0.mk hbb
  clear H3' H4 HB h4 hbb HW ct hcr HCV W1 cp
  go_upto_region 5 with (fail)
  have hmk : ∀ w, (Instr.makeSlice 22 (.int .i64 16) (.int .i64 16)).run Try.prog w = .ok (.slice (some ⟨w.heap.size, 0, none⟩) 16 16) (w.alloc (.cells zero16 5)) := fun _ => by kernel_rfl
  go_cut [6] (fun v6 wd => ∃ b6 : Nat, v6 = .slice (some ⟨b6, 0, none⟩) 16 16 ∧ wc'.heap.size ≤ b6 ∧ Aside0 (wd.heap[b6]? = some (.cells zero16 5 (0, 0))) ∧ Aside0 (Below wc'.heap.size wc' wd))
  case first =>
    go_wp2_with (fail)
    go_meet
    case rel => exact ⟨wc'.heap.size, rfl, Nat.le_refl _, ⟨heap_alloc_new _ _⟩, ⟨(Below.refl _ _).alloc (Nat.le_refl _) _⟩⟩
  case rest =>
  clear hmk
  obtain ⟨b6, rfl, hb6, H6, HB⟩ := hcut
  obtain ⟨wd, rfl⟩ : ∃ wz : World, wz = wc := ⟨_, rfl⟩
  have h6 : RB wd wc'.heap.size (fun _ => True) (.slice (some ⟨b6, 0, none⟩) 16 16) (List.replicate 16 0) := RB_of_blk H6.out rfl hb6 trivial (by simp)
  have H6' := Aside0.mk h6
  clear h6 H6
  go_upto_block 0 with (fail)
  go_wp2_with (fail)
  go_loopg [7] 16 (fun g v7 wx => ∃ k : Nat, k ≤ 16 ∧ g + k = 16 ∧ v7 = .int .i64 k ∧ Aside0 (RB wx wc'.heap.size (fun _ => True) (.slice (some ⟨b6, 0, none⟩) 16 16) (List.replicate k 11 ++ List.replicate (16 - k) 0)) ∧ Aside0 (Below wc'.heap.size wc' wx))
  case atStart => exact ⟨0, by omega, by omega, rfl, H6', HB⟩
  case round =>
  clear H6' HB
  obtain ⟨wx, rfl⟩ : ∃ wz : World, wz = wr := ⟨_, rfl⟩
  obtain ⟨k, hk, hg, rfl, H6, HB⟩ := hrel
  by_cases hk16 : k < 16
  · have hk16' : (k : Int) < 16 := by omega
    have hk0 : (0 : Int) ≤ (k : Int) := by omega
    have c6 := RB_cell H6.out k (by simp; omega)
    have f6 := RB_frozen H6.out k
    have p6 := RB_put H6.out k 11
    have e6 : (List.replicate k (11 : Int) ++ List.replicate (16 - k) 0).set k 11 = List.replicate (k + 1) 11 ++ List.replicate (16 - (k + 1)) 0 := by
      have : 16 - k = (16 - (k + 1)) + 1 := by omega
      rw [this, List.replicate_succ, List.set_append_right _ _ (by simp), List.replicate_succ']
      simp
    rw [e6] at p6
    have P6 := Aside0.mk p6
    clear p6 e6
    generalize (List.replicate k (11 : Int) ++ List.replicate (16 - k) 0).getD k 0 = x0 at *
    go_wp2_with (fail)
    go_roundg (gk - 1)
    case measure => omega
    case rel => exact ⟨k + 1, by omega, by omega, by go_num, P6, ⟨HB.out.setCell hb6 _⟩⟩
  · have hke : k = 16 := by omega
    have t1 : decide ((k : Int) < 16) = false := by simp; omega
    have t2 : decide (k < 16) = false := by simp; omega
    have h6 : RB wx wc'.heap.size (fun _ => True) (.slice (some ⟨b6, 0, none⟩) 16 16) (List.replicate 16 11) := by
      have h := H6.out
      rw [hke] at h
      exact h
    clear hke
    have h4 := keep_blk H4'.out HB.out
    have h5 := keep_blk H5.out HB.out
    have hbb : Below w.heap.size w wx := HW'.out.trans (HB.out.mono HW'.out.size)
    obtain ⟨x1, x2, hr6⟩ := Kd.R_reads' h6
    clear x1 x2
    have H4 := Aside0.mk h4
    have H5' := Aside0.mk h5
    have HW := Aside0.mk hbb
    have HR6 := Aside0.mk hr6
    clear H6 HB h6 h4 h5 hbb hr6 H4' H5 HW'
    go_upto_region 10 with (fail)
    clear t1 t2 hk16 hg hk
    have kc := Lib.run_convert_bytes_const (P := Try.prog) wx 22 5 #[.int .u8 72, .int .u8 105, .int .u8 32, .int .u8 84, .int .u8 104, .int .u8 101, .int .u8 114, .int .u8 101] 8 8 Try.underlying22 Try.underlying5
    obtain ⟨K1, hK1⟩ : ∃ K, K = Md5.keyed (List.replicate 16 11) hi := ⟨_, rfl⟩
    obtain ⟨K2, hK2⟩ : ∃ K, K = Md5.keyed jefe what := ⟨_, rfl⟩
    have hk1l : K1.length = 16 := by rw [hK1]; exact Md5.sum_length _
    have hk2l : K2.length = 16 := by rw [hK2]; exact Md5.sum_length _
    have hk1b : Md5.Bytes K1 := by rw [hK1]; exact Md5.sum_bytes _
    have hk2b : Md5.Bytes K2 := by rw [hK2]; exact Md5.sum_bytes _
    have hk1s : (hexs K1).toArray = hiSum.data := by rw [hK1]; exact known_hi
    have hk2s : (hexs K2).toArray = whatSum.data := by rw [hK2]; exact known_what
    obtain ⟨oK1, hoK1⟩ : ∃ oA, (K1.map (Value.int .u8)).toArray = oA := ⟨_, rfl⟩
    obtain ⟨oK2, hoK2⟩ : ∃ oA, (K2.map (Value.int .u8)).toArray = oA := ⟨_, rfl⟩
    have hoK1' := hoK1
    have hoK2' := hoK2
    rw [hK1] at hoK1'
    rw [hK2] at hoK2'
    have HO1 := Aside0.mk hoK1
    have HO2 := Aside0.mk hoK2
    have HO1' := Aside0.mk hoK1'
    have HO2' := Aside0.mk hoK2'
    have HK1L := Aside0.mk hk1l
    have HK2L := Aside0.mk hk2l
    have HK1B := Aside0.mk hk1b
    have HK2B := Aside0.mk hk2b
    have HK1S := Aside0.mk hk1s
    have HK2S := Aside0.mk hk2s
    clear hK1 hK2 hk1l hk2l hk1b hk2b hk1s hk2s hoK1 hoK2 hoK1' hoK2'
    have hbhi : Md5.Bytes hi := by unfold Md5.Bytes; decide
    have hbje : Md5.Bytes jefe := by unfold Md5.Bytes; decide
    have hbwh : Md5.Bytes what := by unfold Md5.Bytes; decide
    have hb11 : Md5.Bytes (List.replicate 16 11) := by unfold Md5.Bytes; decide
    have HBHI := Aside0.mk hbhi
    have HBJE := Aside0.mk hbje
    have HBWH := Aside0.mk hbwh
    have HB11 := Aside0.mk hb11
    clear hbhi hbje hbwh hb11
    go_cut [8] (fun v8 wc => ∃ b8 : Nat, v8 = .pointer (some ⟨b8, 0, none⟩) ∧ Aside0 (wc.heap[b8]? = some (.cells oK1 24 (0, 0))) ∧ Aside0 (Below wx.heap.size wx wc))
    case first =>
      go_wp2_with (first | (go_at_call 11; refine (keyed_at (some ⟨b6, 0, none⟩) (some ⟨wx.heap.size, 0, none⟩) 16 8 16 8 (List.replicate 16 11) hi oK1 _ rfl rfl HO1'.out (Kd.C_below HR6.out ((Below.refl _ _).alloc (Nat.le_refl _) _)) (by simp) HB11.out (by simp) (CB_of_row (heap_alloc_new _ _) rfl (by decide)) HBHI.out (by decide)).mono ?_; rintro e w1 ⟨rfl, h1⟩; have H1 := Aside0.mk h1; clear h1) | ((with_reducible refine gate_store (p := 8) rfl ?_); refine wpList_store_row rfl 24 _ _ rfl w1.heap.size oK1 rfl rfl 24 zero16 (heap_alloc_new _ _) (hi16 HO1.out HK1L.out) (by rw [size16 HO1.out HK1L.out]; rfl) (one16 HO1.out) ?_; rw [World.setRow_alloc_new]))
      have hbw := ((Below.refl wx.heap.size wx).alloc (Nat.le_refl _) _).trans (H1.out.mono (by simp))
      have hsz := hbw.size
      have HBW := Aside0.mk (hbw.alloc hsz (.cells oK1 24))
      clear H1 hbw
      go_wp2_with (fail)
      go_meet
      case rel => exact ⟨w1.heap.size, rfl, ⟨heap_alloc_new _ _⟩, HBW⟩
    case rest =>
    obtain ⟨b8, rfl, H8, HB⟩ := hcut
    obtain ⟨wy, rfl⟩ : ∃ wz : World, wz = wc := ⟨_, rfl⟩
    have h4 := keep_blk H4.out HB.out
    have h5 := keep_blk H5'.out HB.out
    have hbb : Below w.heap.size w wy := HW.out.trans (HB.out.mono HW.out.size)
    clear H4 H5' HW HR6 HB kc
    have H4 := Aside0.mk h4
    have H5 := Aside0.mk h5
    have HW := Aside0.mk hbb
    clear h4 h5 hbb
    have kc := Lib.run_convert_bytes_const (P := Try.prog) wy 22 5 #[.int .u8 74, .int .u8 101, .int .u8 102, .int .u8 101] 4 4 Try.underlying22 Try.underlying5
    have kc2 := Go.Joins.run_convert_bytes_const_at (P := Try.prog) (wy.alloc (.cells #[.int .u8 74, .int .u8 101, .int .u8 102, .int .u8 101] 5 (4, 5))) 22 5 #[.int .u8 119, .int .u8 104, .int .u8 97, .int .u8 116, .int .u8 32, .int .u8 100, .int .u8 111, .int .u8 32, .int .u8 121, .int .u8 97, .int .u8 32, .int .u8 119, .int .u8 97, .int .u8 110, .int .u8 116, .int .u8 32, .int .u8 102, .int .u8 111, .int .u8 114, .int .u8 32, .int .u8 110, .int .u8 111, .int .u8 116, .int .u8 104, .int .u8 105, .int .u8 110, .int .u8 103, .int .u8 63] 28 28 (wy.heap.size + 1) (by simp) Try.underlying22 Try.underlying5
    go_upto_region 11 with (fail)
    go_cut [9] (fun v9 wc => ∃ b9 : Nat, v9 = .pointer (some ⟨b9, 0, none⟩) ∧ Aside0 (wc.heap[b9]? = some (.cells oK2 24 (0, 0))) ∧ Aside0 (Below wy.heap.size wy wc))
    case first =>
      go_wp2_with (first | (go_at_call 11; refine (keyed_at (some ⟨wy.heap.size, 0, none⟩) (some ⟨wy.heap.size + 1, 0, none⟩) 4 28 4 28 jefe what oK2 _ rfl rfl HO2'.out (CB_of_row (heap_alloc2_old _ _ _) rfl (by decide)) (by decide) HBJE.out (by decide) (CB_of_row (heap_alloc2_new _ _ _) rfl (by decide)) HBWH.out (by decide)).mono ?_; rintro e w1 ⟨rfl, h1⟩; have H1 := Aside0.mk h1; clear h1) | ((with_reducible refine gate_store (p := 9) rfl ?_); refine wpList_store_row rfl 24 _ _ rfl w1.heap.size oK2 rfl rfl 24 zero16 (heap_alloc_new _ _) (hi16 HO2.out HK2L.out) (by rw [size16 HO2.out HK2L.out]; rfl) (one16 HO2.out) ?_; rw [World.setRow_alloc_new]))
      have hbw := (((Below.refl wy.heap.size wy).alloc (Nat.le_refl _) _).alloc (by simp) _).trans (H1.out.mono (by simp <;> omega))
      have hsz := hbw.size
      have HBW := Aside0.mk (hbw.alloc hsz (.cells oK2 24))
      clear H1 hbw
      go_wp2_with (fail)
      go_meet
      case rel => exact ⟨w1.heap.size, rfl, ⟨heap_alloc_new _ _⟩, HBW⟩
    case rest =>
    obtain ⟨b9, rfl, H9, HB⟩ := hcut
    obtain ⟨wp, rfl⟩ : ∃ wz : World, wz = wc := ⟨_, rfl⟩
    have h4 := keep_blk H4.out HB.out
    have h5 := keep_blk H5.out HB.out
    have h8 := keep_blk H8.out HB.out
    have hbb : Below w.heap.size w wp := HW.out.trans (HB.out.mono HW.out.size)
    clear H4 H5 H8 HW HB kc kc2
    have H4 := Aside0.mk h4
    have H5 := Aside0.mk h5
    have H8 := Aside0.mk h8
    have HW := Aside0.mk hbb
    clear h4 h5 h8 hbb
    go_upto_region 12 with (fail)
    -- the last region
    have HE := Aside0.mk (hexs_data HKS.out)
    have HCA : ∀ W : World, Below wp.heap.size wp W → W.cell? ⟨b4, q, none⟩ = some (.string (sm q)) := fun W h => by rw [cell_of_row W b4 _ _ _ _ (keep_blk H4.out h)]; exact sums_at q hql
    have H5A : ∀ W : World, Below wp.heap.size wp W → CB W (some ⟨b5, 0, none⟩) S := fun W h => CB_of_row (keep_blk H5.out h) HOA.out.symm (by rw [HSL.out]; omega)
    have H8A : ∀ W : World, Below wp.heap.size wp W → CB W (some ⟨b8, 0, none⟩) K1 := fun W h => CB_of_row (keep_blk H8.out h) HO1.out.symm (by rw [HK1L.out]; omega)
    have H9A : ∀ W : World, Below wp.heap.size wp W → CB W (some ⟨b9, 0, none⟩) K2 := fun W h => CB_of_row (keep_blk H9.out h) HO2.out.symm (by rw [HK2L.out]; omega)
    refine Facts.region_any (n := 15 + 6) #[false, false, false, false, false, false, false, false, false, false, false, false, false, false, false, false, false, false, false, false, false] (by kernel_rfl) rfl (by kernel_rfl) (fun W0 hW0 hB0 => ?_)
    have hB1 : Below wp.heap.size wp W0 := hB0 _
    clear hW0 hB0
    refine Facts.wpAny_eval [(0, some 39), (1, some 40), (2, some 41), (3, some 42), (4, some 43), (5, some 44)] _ #[true, true, true, true, true, true, false, false, false, false, false, false, false, false, false, false, false, false, false, false, false] (by kernel_rfl) 15 _ _ (fun w1 w2 => Below w1.heap.size w1 w2) (KnownFacts (.slice (some ⟨b5, 0, none⟩) 16 16) (.string (sm q)) (.slice (some ⟨b4, 0, none⟩) 5 5) (.int .i64 q) (.pointer (some ⟨b4, q, none⟩))) Facts.below_refl Facts.below_tr (KnownFacts.stab _ _ _ _ _) ?hop ?H (six _ _ _ _ _ _) rfl
    case hop =>
      intro x hx o ho V W hR hpre K hK
      have hW : Below wp.heap.size wp W := hB1.trans (hR.mono hB1.size)
      simp only [List.mem_cons, List.not_mem_nil, or_false] at hx
      rcases hx with rfl | rfl | rfl | rfl | rfl | rfl
      · obtain rfl := Option.some.inj ho
        refine Facts.OpDo.value (by kernel_rfl) rfl (v := .slice (some ⟨b5, 0, none⟩) 16 16) (w1 := W) (by kernel_rfl) ?_
        exact hK _ _ rfl (Below.refl _ _)
      · obtain rfl := Option.some.inj ho
        have f0 : V 0 = .slice (some ⟨b5, 0, none⟩) 16 16 := hpre { on := 0, ground := .data } (by simp) rfl rfl
        refine Facts.OpDo.goes Try.func15 (by kernel_rfl) rfl #[V 0] (by kernel_rfl) rfl rfl (by kernel_rfl) ?_
        rw [f0]
        refine (hex_at (some ⟨b5, 0, none⟩) 16 16 S (sm q) W HSL.out HE.out (H5A W hW) HSB.out (by rw [HSL.out]; omega)).mono ?_
        rintro e w' ⟨rfl, hb'⟩
        exact ⟨_, rfl, hK _ _ rfl hb'⟩
      · obtain rfl := Option.some.inj ho
        refine Facts.OpDo.value (by kernel_rfl) rfl (v := .slice (some ⟨b4, 0, none⟩) 5 5) (w1 := W) (by kernel_rfl) ?_
        exact hK _ _ rfl (Below.refl _ _)
      · obtain rfl := Option.some.inj ho
        refine Facts.OpDo.value (by kernel_rfl) rfl (v := .int .i64 q) (w1 := W) (by kernel_rfl) ?_
        exact hK _ _ rfl (Below.refl _ _)
      · obtain rfl := Option.some.inj ho
        have f2 : V 2 = .slice (some ⟨b4, 0, none⟩) 5 5 := hpre { on := 2, ground := .data } (by simp) rfl rfl
        have f3 : V 3 = .int .i64 q := hpre { on := 3, ground := .data } (by simp) rfl rfl
        refine Facts.OpDo.value (by kernel_rfl) rfl (v := .pointer (some ⟨b4, q, none⟩)) (w1 := W) ?_ ?_
        · simp only [Facts.acE, f2, f3, Act.put, List.setIfInBounds_toArray, List.set_cons_zero, List.set_cons_succ]
          go_simp
        · exact hK _ _ rfl (Below.refl _ _)
      · obtain rfl := Option.some.inj ho
        have f4 : V 4 = .pointer (some ⟨b4, q, none⟩) := hpre { on := 4, ground := .data } (by simp) rfl rfl
        have hc := HCA W hW
        refine Facts.OpDo.value (by kernel_rfl) rfl (v := .string (sm q)) (w1 := W) ?_ ?_
        · simp only [Facts.acE, f4, Act.put, List.setIfInBounds_toArray, List.set_cons_zero, List.set_cons_succ]
          go_simp
        · exact hK _ _ rfl (Below.refl _ _)
    case H =>
      intro V W hR hΦ
      have f0 := hΦ (0, some 39) (by simp)
      have f1 := hΦ (1, some 40) (by simp)
      have f2 := hΦ (2, some 41) (by simp)
      have f3 := hΦ (3, some 42) (by simp)
      have f4 := hΦ (4, some 43) (by simp)
      have f5 := hΦ (5, some 44) (by simp)
      clear hΦ
      simp only [KnownFacts] at f0 f1 f2 f3 f4 f5
      have hW : Below wp.heap.size wp W := hB1.trans (hR.mono hB1.size)
      clear hR
      simp only [Facts.acE, f0, f1, f2, f3, f4, f5, Act.put, List.setIfInBounds_toArray, List.set_cons_zero, List.set_cons_succ]
      clear f0 f1 f2 f3 f4 f5 V
      refine Facts.wpAny_one (i := 6) #[true, true, true, true, true, true, true, false, false, false, false, false, false, false, false, false, false, false, false, false, false] rfl (by kernel_rfl) rfl (fun K hK => ?_)
      refine Facts.OpDo.value (by kernel_rfl) rfl (d := some 45) (v := .bool true) (w1 := W) (by go_simp) (hK _ _ ?_)
      clear hK K
      simp only [Act.put, List.setIfInBounds_toArray, List.set_cons_zero, List.set_cons_succ]
      refine Facts.wpAny_one (i := 7) #[true, true, true, true, true, true, true, true, false, false, false, false, false, false, false, false, false, false, false, false, false] rfl (by kernel_rfl) rfl (fun K hK => ?_)
      refine Facts.OpDo.value (by kernel_rfl) rfl (d := some 46) (v := .bool true) (w1 := W) (by go_simp) (hK _ _ ?_)
      clear hK K
      simp only [Act.put, List.setIfInBounds_toArray, List.set_cons_zero, List.set_cons_succ]
      refine Facts.wpAny_one (i := 8) #[true, true, true, true, true, true, true, true, true, false, false, false, false, false, false, false, false, false, false, false, false] rfl (by kernel_rfl) rfl (fun K hK => ?_)
      refine Facts.OpDo.value (by kernel_rfl) rfl (d := some 47) (v := .slice (some ⟨b8, 0, none⟩) 16 16) (w1 := W) (by kernel_rfl) (hK _ _ ?_)
      clear hK K
      simp only [Act.put, List.setIfInBounds_toArray, List.set_cons_zero, List.set_cons_succ]
      refine Facts.wpAny_one (i := 9) #[true, true, true, true, true, true, true, true, true, true, false, false, false, false, false, false, false, false, false, false, false] rfl (by kernel_rfl) rfl (fun K hK => ?_)
      refine Facts.OpDo.goes (d := some 48) Try.func15 (by kernel_rfl) rfl #[.slice (some ⟨b8, 0, none⟩) 16 16] (by kernel_rfl) rfl rfl (by kernel_rfl) ?_
      refine (hex_at (some ⟨b8, 0, none⟩) 16 16 K1 hiSum W HK1L.out (hexs_data HK1S.out) (H8A W hW) HK1B.out (by rw [HK1L.out]; omega)).mono ?_
      rintro e W1 ⟨rfl, hbW1⟩
      refine ⟨_, rfl, hK _ _ ?_⟩
      clear hK K
      have hW' := hW.trans (hbW1.mono hW.size)
      clear hbW1 hW
      have hW := hW'
      clear hW'
      simp only [Act.put, List.setIfInBounds_toArray, List.set_cons_zero, List.set_cons_succ]
      refine Facts.wpAny_one (i := 10) #[true, true, true, true, true, true, true, true, true, true, true, false, false, false, false, false, false, false, false, false, false] rfl (by kernel_rfl) rfl (fun K hK => ?_)
      refine Facts.OpDo.value (by kernel_rfl) rfl (d := some 49) (v := .bool true) (w1 := W1) (by kernel_rfl) (hK _ _ ?_)
      clear hK K
      simp only [Act.put, List.setIfInBounds_toArray, List.set_cons_zero, List.set_cons_succ]
      refine Facts.wpAny_one (i := 11) #[true, true, true, true, true, true, true, true, true, true, true, true, false, false, false, false, false, false, false, false, false] rfl (by kernel_rfl) rfl (fun K hK => ?_)
      refine Facts.OpDo.value (by kernel_rfl) rfl (d := some 50) (v := .bool true) (w1 := W1) (by go_simp) (hK _ _ ?_)
      clear hK K
      simp only [Act.put, List.setIfInBounds_toArray, List.set_cons_zero, List.set_cons_succ]
      refine Facts.wpAny_one (i := 12) #[true, true, true, true, true, true, true, true, true, true, true, true, true, false, false, false, false, false, false, false, false] rfl (by kernel_rfl) rfl (fun K hK => ?_)
      refine Facts.OpDo.value (by kernel_rfl) rfl (d := some 51) (v := .bool true) (w1 := W1) (by go_simp) (hK _ _ ?_)
      clear hK K
      simp only [Act.put, List.setIfInBounds_toArray, List.set_cons_zero, List.set_cons_succ]
      refine Facts.wpAny_one (i := 13) #[true, true, true, true, true, true, true, true, true, true, true, true, true, true, false, false, false, false, false, false, false] rfl (by kernel_rfl) rfl (fun K hK => ?_)
      refine Facts.OpDo.value (by kernel_rfl) rfl (d := some 52) (v := .slice (some ⟨b9, 0, none⟩) 16 16) (w1 := W1) (by kernel_rfl) (hK _ _ ?_)
      clear hK K
      simp only [Act.put, List.setIfInBounds_toArray, List.set_cons_zero, List.set_cons_succ]
      refine Facts.wpAny_one (i := 14) #[true, true, true, true, true, true, true, true, true, true, true, true, true, true, true, false, false, false, false, false, false] rfl (by kernel_rfl) rfl (fun K hK => ?_)
      refine Facts.OpDo.goes (d := some 53) Try.func15 (by kernel_rfl) rfl #[.slice (some ⟨b9, 0, none⟩) 16 16] (by kernel_rfl) rfl rfl (by kernel_rfl) ?_
      refine (hex_at (some ⟨b9, 0, none⟩) 16 16 K2 whatSum W1 HK2L.out (hexs_data HK2S.out) (H9A W1 hW) HK2B.out (by rw [HK2L.out]; omega)).mono ?_
      rintro e W2 ⟨rfl, hbW2⟩
      refine ⟨_, rfl, hK _ _ ?_⟩
      clear hK K
      have hW' := hW.trans (hbW2.mono hW.size)
      clear hbW2 hW
      have hW := hW'
      clear hW'
      simp only [Act.put, List.setIfInBounds_toArray, List.set_cons_zero, List.set_cons_succ]
      refine Facts.wpAny_one (i := 15) #[true, true, true, true, true, true, true, true, true, true, true, true, true, true, true, true, false, false, false, false, false] rfl (by kernel_rfl) rfl (fun K hK => ?_)
      refine Facts.OpDo.value (by kernel_rfl) rfl (d := some 54) (v := .bool true) (w1 := W2) (by kernel_rfl) (hK _ _ ?_)
      clear hK K
      simp only [Act.put, List.setIfInBounds_toArray, List.set_cons_zero, List.set_cons_succ]
      refine Facts.wpAny_one (i := 16) #[true, true, true, true, true, true, true, true, true, true, true, true, true, true, true, true, true, false, false, false, false] rfl (by kernel_rfl) rfl (fun K hK => ?_)
      refine Facts.OpDo.value (by kernel_rfl) rfl (d := some 55) (v := .bool true) (w1 := W2) (by go_simp) (hK _ _ ?_)
      clear hK K
      simp only [Act.put, List.setIfInBounds_toArray, List.set_cons_zero, List.set_cons_succ]
      refine Facts.wpAny_one (i := 17) #[true, true, true, true, true, true, true, true, true, true, true, true, true, true, true, true, true, true, false, false, false] rfl (by kernel_rfl) rfl (fun K hK => ?_)
      refine Facts.OpDo.value (by kernel_rfl) rfl (d := some 56) (v := .bool true) (w1 := W2) (by go_simp) (hK _ _ ?_)
      clear hK K
      simp only [Act.put, List.setIfInBounds_toArray, List.set_cons_zero, List.set_cons_succ]
      refine Facts.wpAny_one (i := 18) #[true, true, true, true, true, true, true, true, true, true, true, true, true, true, true, true, true, true, true, false, false] rfl (by kernel_rfl) rfl (fun K hK => ?_)
      refine Facts.OpDo.goes (d := some 57) Try.func14 (by kernel_rfl) rfl #[] (by kernel_rfl) rfl rfl (by simp) ?_
      refine (wakes_any W2).mono ?_
      rintro e W3 ⟨rfl, hb3'⟩
      refine ⟨_, rfl, hK _ _ ?_⟩
      clear hK K
      simp only [Act.put, List.setIfInBounds_toArray, List.set_cons_zero, List.set_cons_succ]
      refine Facts.wpAny_one (i := 19) #[true, true, true, true, true, true, true, true, true, true, true, true, true, true, true, true, true, true, true, true, false] rfl (by kernel_rfl) rfl (fun K hK => ?_)
      refine Facts.OpDo.value (by kernel_rfl) rfl (d := some 58) (v := .bool true) (w1 := W3) (by go_simp) (hK _ _ ?_)
      clear hK K
      simp only [Act.put, List.setIfInBounds_toArray, List.set_cons_zero, List.set_cons_succ]
      refine Facts.wpAny_one (i := 20) #[true, true, true, true, true, true, true, true, true, true, true, true, true, true, true, true, true, true, true, true, true] rfl (by kernel_rfl) rfl (fun K hK => ?_)
      refine Facts.OpDo.value (by kernel_rfl) rfl (d := some 2) (v := .bool true) (w1 := W3) (by go_simp) (hK _ _ ?_)
      clear hK K
      simp only [Act.put, List.setIfInBounds_toArray, List.set_cons_zero, List.set_cons_succ]
      refine Facts.wpAny_done (by kernel_rfl) ?_
      have h1 := HW.out.trans (hW.mono HW.out.size)
      have hfin := h1.trans (hb3'.mono h1.size)
      go_wp2_with (fail)
      go_ret
      exact ⟨rfl, hfin⟩
end Go.Proofs.Ytalignlbbdeeiaa
