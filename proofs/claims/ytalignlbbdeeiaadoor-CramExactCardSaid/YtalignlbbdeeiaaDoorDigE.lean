/- The keyed sum of package digest. -/
import Derived.Test.YtalignlbbdeeiaaDoorProg
import Derived.WalkKit
import Derived.WalkLawsBesides
import Derived.Outline
import Derived.LoopTactic
import Derived.Lib.Hide
import Derived.Deep.QuietTactic
import Derived.BigQuiet
import Derived.Deep.LoopGhost
import Derived.Deep.DeepCutAuto
import Derived.Deep.CutBlock
import Derived.Deep.RegionHeld3
import Derived.Deep.RegionWith
import Derived.Deep.WholeRow
import Derived.Laws.Rows
import Derived.Laws.Tables
import Derived.Laws.ResultCell
import Derived.StillTailTactics
import Derived.Deep.DeepMust
import Derived.IntWalk
import Derived.KernelRfl
import Derived.Test.YtalignlbbdeeiaaDoorWWords
import Derived.Test.YtalignlbbdeeiaaDoorWLast
import Derived.Test.YtalignlbbdeeiaaDoorWMore
import Derived.RegionTactic
import Derived.Test.YtalignlbbdeeiaaDoorDigD
namespace Go.Proofs.YtalignlbbdeeiaaDoor
open Go.RowKit
open Go.Proofs.YtalignlbbdeeiaaDoorW.PrintWords
set_option linter.unusedVariables false
set_option linter.unusedSimpArgs false
def zero64 : Array Value := (List.replicate 64 (Value.int .u8 0)).toArray
theorem RB_of_blk {w : World} {base b : Nat} {ok : Nat → Prop} {l : List Int} {cs : Array Value} (h : w.heap[b]? = some (.cells cs 5 (0, 0))) (hcs : cs = (l.map (Value.int .u8)).toArray) (hb : base ≤ b) (hok : ok b) (hl : l.length ≤ 1000000) :
    RB w base ok (.slice (some ⟨b, 0, none⟩) l.length l.length) l := by
  subst hcs
  refine ⟨fun k hk => ?_, l.map (Value.int .u8), ⟨?_, .inr ⟨b, l.length, _, rfl, hb, h, Nat.le_refl _, ?_, ?_, ?_⟩⟩, ⟨?_, ?_⟩⟩
  · have : b = k := by simpa [Value.ownBlock] using hk
    subst this; exact hok
  · simp [Kd.int, Kd.scalar]
  · simp only [maxLen]; omega
  · simp [Kd.int, Kd.scalar]
  · simp only [Kd.int, Kd.scalar, Nat.mul_one]; exact List.take_of_length_le (by simp)
  · simp [Kd.int, Kd.scalar]
  · intro j p hp
    show _ = [Value.int .u8 p]
    have hj := (List.getElem?_eq_some_iff.1 hp)
    obtain ⟨hj1, rfl⟩ := hj
    have e1 : (Kd.int .u8).sz = 1 := rfl
    rw [e1, Nat.mul_one]
    apply List.ext_getElem?
    intro i
    cases i with
    | zero => simp [hj1]
    | succ i => simp; omega
theorem CB_of_blk {w : World} {b : Nat} {l : List Int} {cs : Array Value} (h : w.heap[b]? = some (.cells cs 49 (0, 0))) (hcs : cs = (l.map (Value.int .u8)).toArray) (hl : l.length ≤ 1000000) : CB w (some ⟨b, 0, none⟩) l := by
  refine ⟨rfl, by omega, fun _ => ⟨_, rfl, fun j p hp => ⟨[.int .u8 p], rfl, rfl, fun i u hu => ?_⟩⟩⟩
  have e1 : (Kd.int .u8).sz = 1 := rfl
  cases i with
  | zero =>
    obtain rfl : Value.int .u8 p = u := by simpa using hu
    rw [e1, add_plain, cell_of_row w b _ _ _ _ h, hcs]
    simp [hp]
  | succ i => simp at hu
theorem RB_row {w : World} {base g n c : Nat} {ok : Nat → Prop} {l : List Int} (h : RB w base ok (.slice (some ⟨g, 0, none⟩) n c) l) : ∃ cur, w.heap[g]? = some (.cells cur 5 (0, 0)) ∧ base ≤ g := by
  obtain ⟨inner, ho⟩ := Kd.R_own h
  rcases ho.2 with ⟨h1, _⟩ | ⟨g', cap, cur, h1, hb, hh, _⟩
  · cases h1
  · injection h1 with h1
    injection h1 with h1
    injection h1 with h1
    subst h1
    exact ⟨cur, hh, hb⟩
theorem lt_of_RB {w : World} {base g n c : Nat} {ok : Nat → Prop} {l : List Int} (h : RB w base ok (.slice (some ⟨g, 0, none⟩) n c) l) : g < w.heap.size := by
  obtain ⟨cur, hh, _⟩ := RB_row h
  exact lt_of_blk hh
theorem RB_frozen {w : World} {base g n c : Nat} {ok : Nat → Prop} {l : List Int} (h : RB w base ok (.slice (some ⟨g, 0, none⟩) n c) l) (j : Nat) : w.frozen? ⟨g, j, none⟩ = false := by
  obtain ⟨cur, hh, _⟩ := RB_row h
  exact frozen_of_row _ _ _ _ _ hh
theorem RB_cell {w : World} {base g n c : Nat} {ok : Nat → Prop} {l : List Int} (h : RB w base ok (.slice (some ⟨g, 0, none⟩) n c) l) (i : Nat) (hi : i < l.length) : w.cell? ⟨g, i, none⟩ = some (.int .u8 (l.getD i 0)) := by
  obtain ⟨A, c', he, _, hr⟩ := Kd.R_reads h
  injection he with h1 h2 h3
  subst h1
  obtain ⟨ad, h4, hc⟩ := Kd.at_int hr i (by omega) (by omega)
  injection h4 with h4
  subst h4
  rw [add_plain] at hc
  exact hc
theorem RB_put {w : World} {base g n c : Nat} {ok : Nat → Prop} {l : List Int} (h : RB w base ok (.slice (some ⟨g, 0, none⟩) n c) l) (i : Nat) (x : Int) : RB (w.setCell ⟨g, i, none⟩ (.int .u8 x)) base ok (.slice (some ⟨g, 0, none⟩) n c) (l.set i x) := by
  have := (Kd.R_putg h (i : Int) x).1
  exact this
/-- The first k of a list's bytes with a mask laid on. -/
def masked (m : Nat) (l : List Int) (k : Nat) : List Int := (l.take k).map (Md5.xb m) ++ l.drop k
theorem masked_step (m : Nat) (l : List Int) (k : Nat) (hk : k < l.length) : (masked m l k).set k (Md5.xb m (l.getD k 0)) = masked m l (k + 1) := by
  have e1 : ((l.take k).map (Md5.xb m)).length = k := by simp; omega
  have e2 : l.drop k = l[k] :: l.drop (k + 1) := List.drop_eq_getElem_cons hk
  have e3 : l.getD k 0 = l[k] := by simp [List.getD_eq_getElem?_getD, hk]
  unfold masked
  rw [List.set_append_right _ _ (by omega), e1, Nat.sub_self, e2, List.set_cons_zero, e3, List.take_succ_eq_append_getElem hk, List.map_append, List.append_assoc]
  rfl
theorem masked_at (m : Nat) (l : List Int) (k : Nat) (hk : k < l.length) : (masked m l k).getD k 0 = l.getD k 0 := by
  have e1 : ((l.take k).map (Md5.xb m)).length = k := by simp; omega
  unfold masked
  rw [List.getD_eq_getElem?_getD, List.getElem?_append_right (by omega), e1, Nat.sub_self, List.getElem?_drop, Nat.add_zero, List.getD_eq_getElem?_getD]
theorem masked_length (m : Nat) (l : List Int) (k : Nat) : (masked m l k).length = l.length := by simp [masked]; omega
theorem masked_zero (m : Nat) (l : List Int) : masked m l 0 = l := by simp [masked]
theorem masked_all (m : Nat) (l : List Int) : masked m l l.length = l.map (Md5.xb m) := by simp [masked]
theorem xor_byte (x : Int) (m : Nat) (hm : m < 256) (hx : 0 ≤ x ∧ x < 256) : bits .xor .u8 x (m : Int) = Md5.xb m x := by
  have h := u8_xor_nat x.toNat m (by omega) hm
  have e : ((x.toNat : Nat) : Int) = x := by omega
  rw [e] at h
  exact h
theorem sum_at (A : Option Addr) (c n : Nat) (l : List Int) (S : List Int) (w : World) (hn : l.length = n) (hS : S = Md5.sum l) (hr : CB w A l) (hc : l.length ≤ c) (hb : Md5.Bytes l) (hl : l.length ≤ 100000) :
    Calls Tryd.prog 33 #[.slice A n c] w fun e w' => e = .returned (.agg (S.map (Value.int .u8)).toArray) ∧ Below w.heap.size w w' := by
  subst hn hS
  exact sum_any A c l w hr hc hb hl
theorem CB16 {w : World} {b : Nat} {l : List Int} {cs : Array Value} (h : w.heap[b]? = some (.cells cs 49 (0, 0))) (hcs : (l.map (Value.int .u8)).toArray = cs) (hl : l.length = 16) : (Kd.int .u8).C w (some ⟨b, 0, none⟩) 16 l := by
  have := CB_of_blk h hcs.symm (by omega)
  unfold CB at this
  rw [hl] at this
  exact this
theorem size16 {S : List Int} {oA : Array Value} (h : (List.map (Value.int .u8) S).toArray = oA) (hS : S.length = 16) : oA.size = 16 := by subst h; simp [hS]
theorem hi16 {S : List Int} {oA : Array Value} (h : (List.map (Value.int .u8) S).toArray = oA) (hS : S.length = 16) : (Tryd.prog.info? 49).map (·.size) = some oA.size := by rw [size16 h hS]; kernel_rfl
theorem one16 {S : List Int} {oA : Array Value} (h : (List.map (Value.int .u8) S).toArray = oA) : (oA.all fun x => x.oneCell') = true := by
  subst h
  rw [Array.all_eq_true_iff_forall_mem]; intro v hv; simp only [List.mem_toArray, List.mem_map] at hv; obtain ⟨y, _, rfl⟩ := hv; rfl
set_option maxRecDepth 100000 in
set_option maxHeartbeats 4000000 in
theorem keyed_any (A B : Option Addr) (c d : Nat) (key text : List Int) (w : World) (hk : CB w A key) (hkc : key.length ≤ c) (hkb : Md5.Bytes key) (hkl : key.length ≤ 10000) (ht : CB w B text) (htb : Md5.Bytes text) (htl : text.length ≤ 10000) :
    Calls Tryd.prog 25 #[.slice A key.length c, .slice B text.length d] w fun e w' => e = .returned (.agg ((Md5.keyed key text).map (Value.int .u8)).toArray) ∧ Below w.heap.size w w' := by
  have HK := Aside0.mk hk
  have HKB := Aside0.mk hkb
  have HT := Aside0.mk ht
  have HTB := Aside0.mk htb
  clear hk hkb ht htb
  go_enter Tryd.func25, Tryd.ntmps25
  go_upto_if 12 with (fail)
  have ew : w.alloc (.cells #[.int .u8 0, .int .u8 0, .int .u8 0, .int .u8 0, .int .u8 0, .int .u8 0, .int .u8 0, .int .u8 0, .int .u8 0, .int .u8 0, .int .u8 0, .int .u8 0, .int .u8 0, .int .u8 0, .int .u8 0, .int .u8 0] 49) = w16 w := rfl
  rw [ew]
  clear ew
  have hs := w16_size w
  have hs1 : w.heap.size + 1 ≤ (w16 w).heap.size := by omega
  have hs2 : (w16 w).heap.size ≤ w.heap.size + 1 := by omega
  clear hs
  have HKw := Aside0.mk (Kd.C_below HK.out (w16_below w))
  go_cut [0, 5] (fun v0 v5 wc => ∃ (A' : Option Addr) (c' : Nat), v0 = .slice A' (Md5.fit key).length c' ∧ Aside0 (CB wc A' (Md5.fit key)) ∧ (Md5.fit key).length ≤ c' ∧ Aside0 (Below (w16 w).heap.size (w16 w) wc))
  case first =>
    by_cases hlong : 64 < key.length
    · have hfit : Md5.fit key = Md5.sum key := if_pos hlong
      have HF := Aside0.mk hfit
      have hc1 : decide ((64 : Int) < (key.length : Int)) = true := by simp; omega
      have hc2 : decide (64 < key.length) = true := by simp; omega
      clear hfit
      go_wp2_with (first | (go_at_call 33; refine (sum_any A c key _ HKw.out hkc HKB.out (by omega)).mono ?_; rintro e w1 ⟨rfl, h1⟩; have H1 := Aside0.mk h1; clear h1; generalize hoA : (List.map (Value.int .u8) (Md5.sum key)).toArray = oA; have HOA := Aside0.mk hoA; clear hoA) | ((with_reducible refine gate_store (p := 5) rfl ?_); refine wpList_store_row rfl 49 _ _ rfl w1.heap.size oA rfl rfl 49 zero16 (heap_alloc_new _ _) (hi16 HOA.out (Md5.sum_length key)) (by rw [size16 HOA.out (Md5.sum_length key)]; rfl) (one16 HOA.out) ?_; rw [World.setRow_alloc_new]))
      have hlt : w1.heap.size < w1.heap.size + 1 := by omega
      go_wp2_with (fail)
      go_meet
      case rel => exact ⟨_, _, by rw [HF.out]; rfl, ⟨by rw [HF.out]; exact CB_of_blk (heap_alloc_new _ _) HOA.out.symm (by rw [Md5.sum_length]; omega)⟩, by rw [HF.out, Md5.sum_length]; omega, ⟨H1.out.alloc H1.out.size _⟩⟩
    · have hfit : Md5.fit key = key := if_neg hlong
      have HF := Aside0.mk hfit
      have hc1 : decide ((64 : Int) < (key.length : Int)) = false := by simp; omega
      have hc2 : decide (64 < key.length) = false := by simp; omega
      clear hfit
      go_wp2_with (fail)
      go_meet
      case rel => exact ⟨A, c, by rw [HF.out], ⟨by rw [HF.out]; exact HKw.out⟩, by rw [HF.out]; exact hkc, ⟨Below.refl _ _⟩⟩
  case rest =>
    obtain ⟨A', c', rfl, HA, hA, HC⟩ := hcut
    obtain ⟨w1c, rfl⟩ : ∃ w1c : World, w1c = wc := ⟨_, rfl⟩
    have hmk : ∀ w, (Instr.makeSlice 22 (.int .i64 64) (.int .i64 64)).run Tryd.prog w = .ok (.slice (some ⟨w.heap.size, 0, none⟩) 64 64) (w.alloc (.cells zero64 5)) := fun _ => by kernel_rfl
    go_upto_region 4 with (fail)
    go_cut [6, 7] (fun v6 v7 wd => ∃ b6 b7 : Nat, v6 = .slice (some ⟨b6, 0, none⟩) 64 64 ∧ v7 = .slice (some ⟨b7, 0, none⟩) 64 64 ∧ b6 ≠ b7 ∧ w1c.heap.size ≤ b6 ∧ w1c.heap.size ≤ b7 ∧ Aside0 (wd.heap[b6]? = some (.cells zero64 5 (0, 0))) ∧ Aside0 (wd.heap[b7]? = some (.cells zero64 5 (0, 0))) ∧ Aside0 (Below w1c.heap.size w1c wd))
    case first =>
      have hcs := HC.out.size
      go_region
      all_goals
        go_wp2_with (fail)
        go_meet
        case rel =>
          have hbw : Below w1c.heap.size w1c (((w1c.alloc (.cells zero64 5)).alloc (.cells zero64 5)).drew) := (((Below.refl _ _).alloc (Nat.le_refl _) _).alloc (by simp) _).drew
          first | exact ⟨w1c.heap.size, w1c.heap.size + 1, rfl, rfl, by omega, by omega, by omega, ⟨heap_alloc2_old _ _ _⟩, ⟨heap_alloc2_new _ _ _⟩, ⟨hbw⟩⟩ | exact ⟨w1c.heap.size + 1, w1c.heap.size, rfl, rfl, by omega, by omega, by omega, ⟨heap_alloc2_new _ _ _⟩, ⟨heap_alloc2_old _ _ _⟩, ⟨hbw⟩⟩
    case rest =>
      clear hmk
      obtain ⟨b6, b7, rfl, rfl, hne, hb6, hb7, H6, H7, HD⟩ := hcut
      have h6 : RB wc w1c.heap.size (fun k => k ≠ b7) (.slice (some ⟨b6, 0, none⟩) 64 64) (List.replicate 64 0) := RB_of_blk H6.out rfl hb6 hne (by simp)
      have h7 : RB wc w1c.heap.size (fun k => k ≠ b6) (.slice (some ⟨b7, 0, none⟩) 64 64) (List.replicate 64 0) := RB_of_blk H7.out rfl hb7 (fun e => hne e.symm) (by simp)
      clear H6 H7
      have H6 := Aside0.mk h6
      have H7 := Aside0.mk h7
      have hfl := Md5.fit_length key
      have eblk : (Md5.fit key).take (min (Md5.fit key).length (List.replicate 64 (0 : Int)).length) ++ (List.replicate 64 (0 : Int)).drop (min (Md5.fit key).length (List.replicate 64 (0 : Int)).length) = Md5.block key := by
        have e : min (Md5.fit key).length (List.replicate 64 (0 : Int)).length = (Md5.fit key).length := by simp; omega
        rw [e, List.take_length, List.drop_replicate]; rfl
      have HE := Aside0.mk eblk
      clear h6 h7 eblk
      go_wp2_with (first | ((with_reducible refine gate_builtin (b := .copy) (xs := #[.tmp 18, .tmp 19]) rfl ?_); refine Kd.R_copy (0 : Int) (w0 := w1c) w1c.heap.size rfl (.tmp 18) (.tmp 19) 22 22 5 rfl Tryd.underlying22 (by kernel_rfl) (.slice (some ⟨b6, 0, none⟩) 64 64) (List.replicate 64 0) (Md5.fit key) A' (Md5.fit key).length c' (fun k => k ≠ b7) rfl rfl H6.out (Kd.C_below HA.out HD.out) HD.out HD.out.size ?_; intro w2 g1 g2 g3; rw [HE.out] at g1; have g4 := Kd.R_grown H7.out g3 (fun k hk => by intro e; injection e with e; exact hk e); clear H6 H7 HD; have H6 := Aside0.mk g1; have H7 := Aside0.mk g4; have HD := Aside0.mk g2; clear g1 g2 g3 g4) | ((with_reducible refine gate_builtin (b := .copy) (xs := #[.tmp 21, .tmp 22]) rfl ?_); refine Kd.R_copy (0 : Int) (w0 := w1c) w1c.heap.size rfl (.tmp 21) (.tmp 22) 22 22 5 rfl Tryd.underlying22 (by kernel_rfl) (.slice (some ⟨b7, 0, none⟩) 64 64) (List.replicate 64 0) (Md5.fit key) A' (Md5.fit key).length c' (fun k => k ≠ b6) rfl rfl H7.out (Kd.C_below HA.out HD.out) HD.out HD.out.size ?_; intro w2 g1 g2 g3; rw [HE.out] at g1; have g4 := Kd.R_grown H6.out g3 (fun k hk => by intro e; injection e with e; exact hk e); clear H6 H7 HD; have H7 := Aside0.mk g1; have H6 := Aside0.mk g4; have HD := Aside0.mk g2; clear g1 g2 g3 g4))
      clear HE
      have hbl := Md5.block_length key
      have hbb := Md5.block_bytes HKB.out
      have hky0 : Md5.keyed key text = Md5.sum ((Md5.block key).map (Md5.xb 92) ++ Md5.sum ((Md5.block key).map (Md5.xb 54) ++ text)) := rfl
      have HKEY := Aside0.mk hky0
      clear hky0
      generalize Md5.block key = bl at *
      have HBB := Aside0.mk hbb
      have HBL := Aside0.mk hbl
      clear hbb hbl
      go_loopg [26] 64 (fun g v26 wx => ∃ k : Nat, k ≤ 64 ∧ g + k = 64 ∧ v26 = .int .i64 k ∧ Aside0 (RB wx w1c.heap.size (fun k => k ≠ b7) (.slice (some ⟨b6, 0, none⟩) 64 64) (masked 54 bl k)) ∧ Aside0 (RB wx w1c.heap.size (fun k => k ≠ b6) (.slice (some ⟨b7, 0, none⟩) 64 64) (masked 92 bl k)) ∧ Aside0 (Below w1c.heap.size w1c wx))
      case atStart => exact ⟨0, by omega, by omega, rfl, ⟨by rw [masked_zero]; exact H6.out⟩, ⟨by rw [masked_zero]; exact H7.out⟩, HD⟩
      case round =>
        clear H6 H7 HD
        obtain ⟨k, hk, hg, rfl, H6, H7, HD⟩ := hrel
        by_cases hk64 : k < 64
        · have hk64' : (k : Int) < 64 := by omega
          have c6 := RB_cell H6.out k (by rw [masked_length, HBL.out]; omega)
          have c7 := RB_cell H7.out k (by rw [masked_length, HBL.out]; omega)
          rw [masked_at _ _ _ (by rw [HBL.out]; omega)] at c6 c7
          have f6 := RB_frozen H6.out k
          have f7 := RB_frozen H7.out k
          have s6 := masked_step 54 bl k (by rw [HBL.out]; omega)
          have s7 := masked_step 92 bl k (by rw [HBL.out]; omega)
          have hx := HBB.out.getD k
          have p6 := RB_put H6.out k (Md5.xb 54 (bl.getD k 0))
          have p7 := RB_put (Kd.R_far (p := ⟨b6, k, none⟩) H7.out (fun j hj => hj) (.int .u8 (Md5.xb 54 (bl.getD k 0)))) k (Md5.xb 92 (bl.getD k 0))
          have p6' := Kd.R_far (p := ⟨b7, k, none⟩) p6 (fun j hj => hj) (.int .u8 (Md5.xb 92 (bl.getD k 0)))
          rw [s6] at p6'
          rw [s7] at p7
          have P6 := Aside0.mk p6'
          have P7 := Aside0.mk p7
          clear p6 p6' p7 s6 s7
          have x54 := xor_byte (bl.getD k 0) 54 (by omega) hx
          have x92 := xor_byte (bl.getD k 0) 92 (by omega) hx
          generalize bl.getD k 0 = x at *
          have x54' : bits .xor .u8 x 54 = Md5.xb 54 x := x54
          have x92' : bits .xor .u8 x 92 = Md5.xb 92 x := x92
          clear x54 x92
          have hne' : b7 ≠ b6 := fun e => hne e.symm
          go_wp2_with (fail)
          go_roundg (gk - 1)
          case measure => omega
          case rel => exact ⟨k + 1, by omega, by omega, by go_num, P6, P7, ⟨(HD.out.setCell hb6 _).setCell hb7 _⟩⟩
        · obtain rfl : k = 64 := by omega
          have e64 : masked 54 bl 64 = bl.map (Md5.xb 54) := by have := masked_all 54 bl; rw [HBL.out] at this; exact this
          have e65 : masked 92 bl 64 = bl.map (Md5.xb 92) := by have := masked_all 92 bl; rw [HBL.out] at this; exact this
          rw [e64] at H6
          rw [e65] at H7
          clear e64 e65
          have hi1 : Md5.Bytes (bl.map (Md5.xb 54)) := Md5.map_xb_bytes 54 (by omega) HBB.out
          have hi2 : Md5.Bytes (bl.map (Md5.xb 92)) := Md5.map_xb_bytes 92 (by omega) HBB.out
          have hl1 : (bl.map (Md5.xb 54)).length = 64 := by rw [List.length_map]; exact HBL.out
          have hl2 : (bl.map (Md5.xb 92)).length = 64 := by rw [List.length_map]; exact HBL.out
          generalize bl.map (Md5.xb 54) = ib at *
          generalize bl.map (Md5.xb 92) = ob at *
          have HI1 := Aside0.mk hi1
          have HI2 := Aside0.mk hi2
          have HL1 := Aside0.mk hl1
          have HL2 := Aside0.mk hl2
          clear hi1 hi2 hl1 hl2
          have HTW := Aside0.mk (Kd.C_below (Kd.C_below (Kd.C_below HT.out (w16_below w)) HC.out) HD.out)
          obtain ⟨S1, hS1⟩ : ∃ S1, S1 = Md5.sum (ib ++ text) := ⟨_, rfl⟩
          obtain ⟨S2, hS2⟩ : ∃ S2, S2 = Md5.sum (ob ++ S1) := ⟨_, rfl⟩
          have hlen1 : S1.length = 16 := by rw [hS1]; exact Md5.sum_length _
          have hlen2 : S2.length = 16 := by rw [hS2]; exact Md5.sum_length _
          have hsb : Md5.Bytes S1 := by rw [hS1]; exact Md5.sum_bytes _
          have hkey : Md5.keyed key text = S2 := by rw [HKEY.out, hS2, hS1]
          have HS1 := Aside0.mk hS1
          have HS2 := Aside0.mk hS2
          have HLEN1 := Aside0.mk hlen1
          have HLEN2 := Aside0.mk hlen2
          have HSB := Aside0.mk hsb
          have HKY := Aside0.mk hkey
          obtain ⟨oA, hoA⟩ : ∃ oA, (List.map (Value.int .u8) S1).toArray = oA := ⟨_, rfl⟩
          obtain ⟨oB, hoB⟩ : ∃ oB, (List.map (Value.int .u8) S2).toArray = oB := ⟨_, rfl⟩
          have HOA := Aside0.mk hoA
          have HOB := Aside0.mk hoB
          have HRES : ∀ {x y : World}, Below w1c.heap.size w1c x → Below x.heap.size x y → y.heap[w.heap.size]? = some (.cells zero16 49 (0, 0)) := by
            intro x y h1 h2
            have h3 := HC.out.size
            have h4 := h1.size
            rw [h2.block _ (by omega), h1.block _ (by omega), HC.out.block _ (by omega)]
            exact heap_alloc_new _ _
          clear hlen1 hlen2 hsb hkey HKEY hS1 hS2 hoA hoB
          go_wp2_with (first | ((with_reducible refine gate_builtin (b := .append) (xs := #[.tmp 42, .tmp 43]) rfl ?_); at_builtin; refine Kd.R_append_rows (Kd.int .u8) (w0 := w1c) w1c.heap.size rfl (.tmp 42) (.tmp 43) 22 5 (.int .u8 0) 1 rfl Tryd.underlying22 infoU8 rfl (by decide) (by omega) (.slice (some ⟨b6, 0, none⟩) 64 64) ib text _ _ _ (fun k => k ≠ b7) (fun _ => False) rfl rfl H6.out HTW.out (fun _ _ h => h) (fun _ h => h.elim) (fun k hk => by have := lt_of_RB H7.out; omega) HD.out HD.out.size (by rw [HL1.out]; omega) ?_; intro v2 w2 g1 g2 g3 g4; have g5 := Kd.R_grown H7.out g3 (fun k hk => by intro e; injection e with e; exact hk e); clear H6 H7 HD; have H6 := Aside0.mk g1; have H7 := Aside0.mk g5; have HD := Aside0.mk g2; clear g1 g2 g3 g4 g5; obtain ⟨A7, c7, rfl, hc7, hr7⟩ := Kd.R_reads H6.out; have HR7 := Aside0.mk hr7; clear hr7) | (go_at_call 33; refine (sum_at A8 c8 _ (ob ++ S1) S2 _ (by simp) HS2.out HR8.out hc8 (HI2.out.append HSB.out) (by rw [List.length_append, HL2.out, HLEN1.out]; omega)).mono ?_; rintro e w5 ⟨rfl, g1⟩; rw [HOB.out]; have G5 := Aside0.mk g1; clear g1) | (go_at_call 33; refine (sum_at A7 c7 _ (ib ++ text) S1 _ (by simp) HS1.out HR7.out hc7 (HI1.out.append HTB.out) (by rw [List.length_append, HL1.out]; omega)).mono ?_; rintro e w3 ⟨rfl, g1⟩; rw [HOA.out]; have g2 := Kd.R_below H7.out g1; have g3 := HD.out.trans (g1.mono HD.out.size); clear H6 H7 HD; have H7 := Aside0.mk g2; have HD := Aside0.mk g3; clear g1 g2 g3) | ((with_reducible refine gate_builtin (b := .append) (xs := #[.tmp 46, .tmp 47]) rfl ?_); at_builtin; refine Kd.R_append_rows (Kd.int .u8) (w0 := w1c) w1c.heap.size rfl (.tmp 46) (.tmp 47) 22 5 (.int .u8 0) 1 rfl Tryd.underlying22 infoU8 rfl (by decide) (by omega) (.slice (some ⟨b7, 0, none⟩) 64 64) ob S1 _ _ _ (fun _ => True) (fun _ => False) rfl rfl (Kd.R_mono (Kd.R_alloc H7.out _) (fun _ _ => trivial)) (CB16 (heap_alloc_new _ _) HOA.out HLEN1.out) (fun _ _ h => h) (fun _ h => h.elim) (fun _ _ => trivial) (HD.out.alloc HD.out.size _) ((HD.out.alloc HD.out.size _).size) (by rw [HL2.out]; omega) ?_; intro v8 w4 g1 g2 g3 g4; clear H7 HD; have H8 := Aside0.mk g1; have HD := Aside0.mk g2; clear g1 g2 g3 g4; obtain ⟨A8, c8, rfl, hc8, hr8⟩ := Kd.R_reads H8.out; have HR8 := Aside0.mk hr8; clear hr8) | ((with_reducible refine gate_store (p := 4) rfl ?_); refine wpList_store_row rfl 49 _ _ rfl w.heap.size oB rfl rfl 49 zero16 (HRES HD.out G5.out) (hi16 HOB.out HLEN2.out) (by rw [size16 HOB.out HLEN2.out]; rfl) (one16 HOB.out) ?_) | ((with_reducible refine gate_store (p := 9) rfl ?_); refine wpList_store_row rfl 49 _ _ rfl w3.heap.size oA rfl rfl 49 zero16 (heap_alloc_new _ _) (hi16 HOA.out HLEN1.out) (by rw [size16 HOA.out HLEN1.out]; rfl) (one16 HOA.out) ?_; rw [World.setRow_alloc_new]))
          rw [HKY.out, HOB.out]
          refine bodyPost_ret (v := .agg oB) ?_ rfl ⟨rfl, ?_⟩
          · exact results_cell_row (by rfl) _ _ w.heap.size 49 _ (0, 0) _ rfl (setRow_heap _ _ _ _ _ _ (HRES HD.out G5.out)) Tryd.underlying49 rfl (hi16 HOB.out HLEN2.out)
          · refine Facts.below_setRow ?_ (Nat.le_refl _) _
            have b0 := HC.out.size
            have b1 := HD.out.size
            exact (((w16_below w).trans (HC.out.mono (by omega))).trans (HD.out.mono (by omega))).trans (G5.out.mono (by omega))
end Go.Proofs.YtalignlbbdeeiaaDoor
