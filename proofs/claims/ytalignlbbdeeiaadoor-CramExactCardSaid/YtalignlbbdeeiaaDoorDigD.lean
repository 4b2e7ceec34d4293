/- The sum of package digest: MD5 of any text of fewer than a million bytes. -/
import Derived.Test.YtalignlbbdeeiaaDoorProg
import Derived.WalkKit
import Derived.WalkLawsBesides
import Derived.Outline
import Derived.LoopTactic
import Derived.Lib.Hide
import Derived.Deep.QuietTactic
import Derived.BigQuiet
import Derived.Deep.LoopGhost
import Derived.Deep.DeepCutAuto
import Derived.Deep.CutBlock
import Derived.Deep.RegionHeld3
import Derived.Deep.RegionWith
import Derived.Deep.WholeRow
import Derived.Laws.Rows
import Derived.Laws.Tables
import Derived.Laws.ResultCell
import Derived.StillTailTactics
import Derived.Deep.DeepMust
import Derived.IntWalk
import Derived.KernelRfl
import Derived.Test.YtalignlbbdeeiaaDoorWWords
import Derived.Test.YtalignlbbdeeiaaDoorWLast
import Derived.Test.YtalignlbbdeeiaaDoorWMore
import Derived.Test.YtalignlbbdeeiaaDoorDigC
import Derived.Test.YtalignlbbdeeiaaDoorBytes
namespace Go.Proofs.YtalignlbbdeeiaaDoor
open Go.RowKit
open Go.Proofs.YtalignlbbdeeiaaDoorW.PrintWords
set_option linter.unusedVariables false
set_option linter.unusedSimpArgs false
def zero16 : Array Value := (List.replicate 16 (Value.int .u8 0)).toArray
/-- The world with a result's sixteen bytes laid. -/
def w16 (w : World) : World := w.alloc (.cells zero16 49)
theorem w16_size (w : World) : (w16 w).heap.size = w.heap.size + 1 := by simp [w16]
theorem w16_below (w : World) : Below w.heap.size w (w16 w) := (Below.refl _ _).alloc (Nat.le_refl _) _
theorem zeros_succ (l : List Int) (k : Nat) : l ++ [128] ++ List.replicate k 0 ++ [0] = l ++ [128] ++ List.replicate (k + 1) (0 : Int) := by rw [List.append_assoc _ (List.replicate k 0), ← List.replicate_succ']
theorem lens_succ (x : List Int) (n k : Nat) : x ++ (List.range k).map (Md5.lenByte n) ++ [Md5.lenByte n k] = x ++ (List.range (k + 1)).map (Md5.lenByte n) := by rw [List.range_succ, List.map_append, List.append_assoc]; rfl
/-- The result's bytes, the first m of them laid. -/
def outArr (s : Md5.St) (m : Nat) : Array Value := (((Md5.out s).take m).map (Value.int .u8) ++ List.replicate (16 - m) (Value.int .u8 0)).toArray
theorem outArr_step (s : Md5.St) (m : Nat) (hm : m < 16) (v : Value) (hv : v = .int .u8 ((Md5.out s).getD m 0)) : (outArr s m).setIfInBounds m v = outArr s (m + 1) := by
  subst hv
  have hl : (Md5.out s).length = 16 := Md5.out_length s
  have e1 : (((Md5.out s).take m).map (Value.int .u8)).length = m := by simp; omega
  have e2 : 16 - m = (16 - (m + 1)) + 1 := by omega
  have hg : (Md5.out s).getD m 0 = (Md5.out s)[m]'(by omega) := by simp [List.getD_eq_getElem?_getD, show m < (Md5.out s).length by omega]
  unfold outArr
  rw [List.setIfInBounds_toArray, hg, e2, List.replicate_succ, List.set_append_right _ _ (by omega), e1, Nat.sub_self, List.set_cons_zero, List.take_succ_eq_append_getElem (by omega), List.map_append, List.append_assoc]
  rfl
theorem outArr_size (s : Md5.St) (m : Nat) (hm : m ≤ 16) : (outArr s m).size = 16 := by
  have hl : (Md5.out s).length = 16 := Md5.out_length s
  simp [outArr]; omega
theorem outArr_all (s : Md5.St) : outArr s 16 = ((Md5.out s).map (Value.int .u8)).toArray := by
  have hl : (Md5.out s).length = 16 := Md5.out_length s
  unfold outArr
  rw [List.take_of_length_le (by omega)]; simp
theorem outArr_at (s : Md5.St) (m j : Nat) (hm : m ≤ 16) (hj : j < 16) : ∃ v, (outArr s m)[j]? = some v :=
  ⟨_, Array.getElem?_eq_getElem (by rw [outArr_size s m hm]; omega)⟩
theorem outArr_zero (s : Md5.St) : outArr s 0 = zero16 := rfl
def wd (s : Md5.St) (i : Nat) : Nat := [s.a, s.b, s.c, s.d].getD i 0
theorem out_at (s : Md5.St) (i k : Nat) (hi : i < 4) (hk : k < 4) : (Md5.out s).getD (4 * i + k) 0 = Md5.outByte (wd s i) k := by
  have h1 : i = 0 ∨ i = 1 ∨ i = 2 ∨ i = 3 := by omega
  have h2 : k = 0 ∨ k = 1 ∨ k = 2 ∨ k = 3 := by omega
  rcases h1 with rfl | rfl | rfl | rfl <;> rcases h2 with rfl | rfl | rfl | rfl <;> rfl
theorem Words_at (s : Md5.St) (i : Nat) (hi : i < 4) : (Words s)[i]? = some (.int .u32 (wd s i : Nat)) := by
  have h1 : i = 0 ∨ i = 1 ∨ i = 2 ∨ i = 3 := by omega
  rcases h1 with rfl | rfl | rfl | rfl <;> rfl
theorem wd_lt (s : Md5.St) (hs : s.ok) (i : Nat) : wd s i < 4294967296 := by
  obtain ⟨h1, h2, h3, h4⟩ := hs
  unfold wd
  match i with
  | 0 => exact h1
  | 1 => exact h2
  | 2 => exact h3
  | 3 => exact h4
  | n + 4 => show (0 : Nat) < _; omega
set_option maxRecDepth 10000 in
set_option maxHeartbeats 4000000 in
theorem sum_any (A : Option Addr) (c : Nat) (l : List Int) (w : World) (hr : CB w A l) (hc : l.length ≤ c) (hb : Md5.Bytes l) (hl : l.length ≤ 100000) :
    Calls Tryd.prog 33 #[.slice A l.length c] w fun e w' => e = .returned (.agg ((Md5.sum l).map (Value.int .u8)).toArray) ∧ Below w.heap.size w w' := by
  have HR := Aside0.mk hr
  have HB := Aside0.mk hb
  clear hr hb
  go_enter Tryd.func33, Tryd.ntmps33
  go_upto_region 1 with (fail)
  have ew : w.alloc (.cells #[.int .u8 0, .int .u8 0, .int .u8 0, .int .u8 0, .int .u8 0, .int .u8 0, .int .u8 0, .int .u8 0, .int .u8 0, .int .u8 0, .int .u8 0, .int .u8 0, .int .u8 0, .int .u8 0, .int .u8 0, .int .u8 0] 49) = w16 w := rfl
  rw [ew]
  clear ew
  have hs := w16_size w
  have hs1 : w.heap.size + 1 ≤ (w16 w).heap.size := by omega
  have hs2 : (w16 w).heap.size ≤ w.heap.size + 1 := by omega
  clear hs
  have HRw := Aside0.mk (Kd.C_below HR.out (w16_below w))
  clear HR
  go_wp2_with (first | (go_at_call 42; refine (clone_any A c l _ HRw.out (by omega)).mono ?_; rintro e w1 ⟨v1, rfl, h1, h2⟩; have H1 := Aside0.mk h1; have H2 := Aside0.mk h2; clear h1 h2) | ((with_reducible refine gate_builtin (b := .append) (xs := #[.tmp 11, .tmp 12]) rfl ?_); at_builtin; refine Kd.R_append (Kd.int .u8) (w0 := w16 w) (w16 w).heap.size rfl (.tmp 11) (.tmp 12) 22 5 (.int .u8 0) 1 rfl Tryd.underlying22 infoU8 rfl (by decide) (by omega) v1 l 128 [.int .u8 128] (fun _ => True) (fun _ => False) rfl rfl rfl (fun _ h => h.elim) (fun _ _ => trivial) H1.out H2.out H2.out.size (by omega) ?_; intro v2 w2 h1 h2 h3 h4; clear H1 H2; have H1 := Aside0.mk h1; have H2 := Aside0.mk h2; clear h1 h2 h3 h4))
  clear HRw
  obtain ⟨Z, hZ⟩ : ∃ Z, Z = (119 - l.length % 64) % 64 := ⟨_, rfl⟩
  have HZ := Aside0.mk hZ
  clear hZ
  go_loopg [3] Z (fun g v3 wr => ∃ k : Nat, k ≤ Z ∧ g + k = Z ∧ Aside0 (RB wr (w16 w).heap.size (fun _ => True) v3 (l ++ [128] ++ List.replicate k 0)) ∧ Aside0 (Below (w16 w).heap.size (w16 w) wr))
  case atStart => exact ⟨0, by omega, by omega, ⟨by simpa using H1.out⟩, H2⟩
  case round =>
    clear H1 H2
    obtain ⟨k, hk, hg, H1, H2⟩ := hrel
    obtain ⟨A3, c3, rfl, hc3, hr3⟩ := Kd.R_reads H1.out
    obtain ⟨m, hm⟩ : ∃ m, m = (l ++ [128] ++ List.replicate k (0 : Int)).length := ⟨_, rfl⟩
    rw [← hm] at H1 hc3 hr3 ⊢
    have hm2 : m = l.length + 1 + k := by rw [hm]; simp; omega
    have HM := Aside0.mk hm
    have HM2 := Aside0.mk hm2
    have hm3 : m ≤ 100100 := by have := HZ.out; omega
    have HL : Aside0 (((l ++ [128] ++ List.replicate k (0 : Int)).length + 1) * 1 ≤ 140737488355328) := ⟨by rw [← hm]; omega⟩
    clear hm hm2
    by_cases hkZ : k < Z
    · have ct : ((m : Int) % 64 != 56) = true := by have := HM2.out; have := HZ.out; rw [bne_iff_ne]; omega
      go_wp2_with (first | ((with_reducible refine gate_builtin (b := .append) (xs := #[.tmp 18, .tmp 19]) rfl ?_); at_builtin; refine Kd.R_append (Kd.int .u8) (w0 := w16 w) (w16 w).heap.size rfl (.tmp 18) (.tmp 19) 22 5 (.int .u8 0) 1 rfl Tryd.underlying22 infoU8 rfl (by decide) (by omega) (.slice A3 m c3) (l ++ [128] ++ List.replicate k 0) 0 [.int .u8 0] (fun _ => True) (fun _ => False) rfl rfl rfl (fun _ h => h.elim) (fun _ _ => trivial) H1.out H2.out H2.out.size HL.out ?_; intro v2 w2 h1 h2 h3 h4; clear H1 H2; have H1 := Aside0.mk h1; have H2 := Aside0.mk h2; clear h1 h2 h3 h4))
      go_roundg (gk - 1)
      case measure => omega
      case rel => exact ⟨k + 1, by omega, by omega, ⟨by rw [← zeros_succ]; exact H1.out⟩, H2⟩
    · obtain rfl : k = Z := by omega
      have ct : ((m : Int) % 64 != 56) = false := by have := HM2.out; have := HZ.out; rw [bne_eq_false_iff_eq]; omega
      have ep : l ++ [128] ++ List.replicate k (0 : Int) = l ++ [128] ++ Md5.zeros l.length := by unfold Md5.zeros; rw [← HZ.out]
      rw [ep] at H1 HL HM
      clear ep hr3
      go_wp2_with (fail)
      generalize hP : l ++ [128] ++ Md5.zeros l.length = P at *
      have HP := Aside0.mk hP
      clear hP
      go_loopg [3, 21] 8 (fun g v3 v21 wr => ∃ i : Nat, i ≤ 8 ∧ g + i = 8 ∧ v21 = .int .i64 i ∧ Aside0 (RB wr (w16 w).heap.size (fun _ => True) v3 (P ++ (List.range i).map (Md5.lenByte l.length))) ∧ Aside0 (Below (w16 w).heap.size (w16 w) wr))
      case atStart => exact ⟨0, by omega, by omega, rfl, ⟨by simpa using H1.out⟩, H2⟩
      case round =>
        clear H1 H2
        obtain ⟨i, hi, hg, rfl, H1, H2⟩ := hrel
        obtain ⟨A4, c4, rfl, hc4, hr4⟩ := Kd.R_reads H1.out
        obtain ⟨m4, hm4⟩ : ∃ m, m = (P ++ (List.range i).map (Md5.lenByte l.length)).length := ⟨_, rfl⟩
        rw [← hm4] at H1 hc4 hr4 ⊢
        have HM4 := Aside0.mk hm4
        have hm5 : m4 = m + i := by rw [hm4, List.length_append, HM.out]; simp
        have HL : Aside0 (((P ++ (List.range i).map (Md5.lenByte l.length)).length + 1) * 1 ≤ 140737488355328) := ⟨by rw [← hm4]; omega⟩
        have HM5 := Aside0.mk hm5
        clear hm4 hm5
        by_cases hi8 : i < 8
        · go_wp2_with (first | ((with_reducible refine gate_builtin (b := .append) (xs := #[.tmp 24, .tmp 34]) rfl ?_); at_builtin; refine Kd.R_append (Kd.int .u8) (w0 := w16 w) (w16 w).heap.size rfl (.tmp 24) (.tmp 34) 22 5 (.int .u8 0) 1 rfl Tryd.underlying22 infoU8 rfl (by decide) (by omega) (.slice A4 m4 c4) (P ++ (List.range i).map (Md5.lenByte l.length)) ((l.length : Int) * 8 / 2 ^ (8 * i) % 256) [.int .u8 ((l.length : Int) * 8 / 2 ^ (8 * i) % 256)] (fun _ => True) (fun _ => False) rfl rfl rfl (fun _ h => h.elim) (fun _ _ => trivial) H1.out H2.out H2.out.size HL.out ?_; intro v2 w2 h1 h2 h3 h4; clear H1 H2; have H1 := Aside0.mk h1; have H2 := Aside0.mk h2; clear h1 h2 h3 h4))
          have eb : ((l.length : Int) * 8 / 2 ^ (8 * i) % 256) = Md5.lenByte l.length i := by unfold Md5.lenByte; push_cast; rw [Int.mul_comm]
          rw [eb] at H1
          go_roundg (gk - 1)
          case measure => omega
          case rel => exact ⟨i + 1, by omega, by omega, by go_num, ⟨by rw [← lens_succ]; exact H1.out⟩, H2⟩
        · obtain rfl : i = 8 := by omega
          have epad : P ++ (List.range 8).map (Md5.lenByte l.length) = Md5.pad l := by rw [← HP.out]; exact Md5.pad_def l
          rw [epad] at H1 HM4 hr4
          have HR4 := Aside0.mk hr4
          have hm4b : m4 ≤ 100200 := by have := HM5.out; omega
          clear epad HL HP HM HM2 HZ HM5 hr4
          go_upto_region 9 with (fail)
          go_wp2_with (fail)
          obtain ⟨W1, hW1⟩ : ∃ W1, W1 = wr.alloc (.cells (Words Md5.init) 73) := ⟨_, rfl⟩
          have hI : W1.heap[wr.heap.size]? = some (.cells (Words Md5.init) 73 (0, 0)) := by rw [hW1]; exact heap_alloc_new _ _
          have hBW : Below wr.heap.size wr W1 := by rw [hW1]; exact (Below.refl _ _).alloc (Nat.le_refl _) _
          have HI := Aside0.mk hI
          have HBW := Aside0.mk hBW
          have hst : wr.alloc (.cells #[.int .u32 1732584193, .int .u32 4023233417, .int .u32 2562383102, .int .u32 271733878] 73) = W1 := by rw [hW1]; rfl
          rw [hst]
          clear hst hW1 hI hBW
          obtain ⟨N, hN⟩ : ∃ N, N = (Md5.pad l).length / 64 := ⟨_, rfl⟩
          have hml : m4 = 64 * N := by have h1 := Md5.pad_mod l; have h2 := HM4.out; omega
          have HML := Aside0.mk hml
          have HN := Aside0.mk hN
          have hmN : N ≤ 2000 := by omega
          clear hN hml
          obtain ⟨bS, hbS⟩ : ∃ bS, bS = wr.heap.size := ⟨_, rfl⟩
          rw [← hbS] at HI HBW ⊢
          have hwr := H2.out.size
          have hbS1 : w.heap.size + 1 ≤ bS := by omega
          have HbS := Aside0.mk hbS
          clear hbS hwr
          obtain ⟨wp, rfl⟩ : ∃ wp : World, wp = wr := ⟨_, rfl⟩
          go_loopg [3] N (fun g v3 wx => ∃ (A5 : Option Addr) (c5 : Nat) (rem : List Int) (st : Md5.St), g ≤ N ∧ v3 = .slice A5 (64 * g) c5 ∧ 64 * g ≤ c5 ∧ Aside0 (rem.length = 64 * g) ∧ Aside0 (CB wp A5 rem) ∧ Aside0 (Md5.Bytes rem) ∧ Aside0 st.ok ∧ Aside0 (Md5.blocks g st rem = Md5.blocks N Md5.init (Md5.pad l)) ∧ Aside0 (wx.heap[bS]? = some (.cells (Words st) 73 (0, 0))) ∧ Aside0 (Below bS wp wx))
          case atStart => exact ⟨A4, c4, Md5.pad l, Md5.init, Nat.le_refl _, by rw [HML.out], by have := HML.out; omega, ⟨by have := HML.out; have := HM4.out; omega⟩, ⟨by have h := HR4.out; rw [HM4.out] at h; exact h⟩, ⟨Md5.pad_bytes HB.out⟩, ⟨Md5.init_ok⟩, ⟨rfl⟩, HI, HBW⟩
          case round =>
            clear HI HBW HR4 H1
            obtain ⟨A5, c5, rem, st, hgN, rfl, hc5, HL5, HR5, HB5, HS5, HE5, HI, HBW⟩ := hrel
            obtain ⟨n5, hn5⟩ : ∃ n5, n5 = 64 * gk := ⟨_, rfl⟩
            rw [← hn5] at hc5 HL5 ⊢
            have HN5 := Aside0.mk hn5
            clear hn5
            cases gk with
            | succ g =>
              have hpos : 64 ≤ n5 := by have := HN5.out; omega
              have hp1 : decide ((0 : Int) < (n5 : Int)) = true := by simp; omega
              obtain ⟨i0, hi0, _, hsz, _⟩ := info_parts infoU8
              have hcut := cut_from (P := Tryd.prog) 22 5 .i64 Tryd.underlying22 hi0 1 hsz A5 n5 c5 64 (by omega) (by omega)
              have hnext : CB wp (if c5 = 64 then A5 else A5.map (·.add (64 * (Kd.int .u8).sz))) (rem.drop 64) := Kd.C_drop HR5.out (by rw [HL5.out]; omega) (by rw [HL5.out]; omega)
              have e64 : (64 : Int).toNat = 64 := rfl
              have esz : (Kd.int .u8).sz = 1 := rfl
              rw [esz] at hnext
              rw [e64] at hcut
              generalize (if c5 = 64 then A5 else A5.map (·.add (64 * 1))) = A6 at hcut hnext
              have HNX := Aside0.mk hnext
              clear hnext e64 esz hi0 hsz
              have q0 : wr.cell? ⟨bS, 0, none⟩ = some (.int .u32 st.a) := cellAt HI.out rfl
              have q1 : wr.cell? ⟨bS, 1, none⟩ = some (.int .u32 st.b) := cellAt HI.out rfl
              have q2 : wr.cell? ⟨bS, 2, none⟩ = some (.int .u32 st.c) := cellAt HI.out rfl
              have q3 : wr.cell? ⟨bS, 3, none⟩ = some (.int .u32 st.d) := cellAt HI.out rfl
              have hbw : Below wp.heap.size wp wr := by rw [← HbS.out]; exact HBW.out
              have HCW := Aside0.mk (Kd.C_below HR5.out hbw)
              clear hbw
              have htake := take_any st A5 c5 rem wr HS5.out HCW.out (by rw [HL5.out]; omega) (by rw [HL5.out]; omega) HB5.out
              rw [HL5.out] at htake
              obtain ⟨st2, hst2⟩ : ∃ x, x = Md5.blk st rem := ⟨_, rfl⟩
              rw [← hst2] at htake
              have HST2 := Aside0.mk hst2
              clear hst2
              have HT := Lib.hid htake
              clear htake
              go_upto_region 12 with (fail)
              have hbS2 := lt_of_blk HI.out
              go_wp2_with (first | (go_at_call 43; refine HT.out.mono ?_; rintro e w5 ⟨rfl, hb5⟩; have HB6 := Aside0.mk hb5; clear hb5) | ((with_reducible refine gate_store (p := 5) rfl ?_); refine wpList_store_row rfl 73 _ _ rfl bS (Words st2) rfl rfl 73 _ (Facts.below_blk HI.out HB6.out) (by kernel_rfl) rfl (by kernel_rfl) ?_))
              go_roundg g
              case measure => omega
              case rel =>
                have hE := HE5.out
                have hn := HN5.out
                have hl5 := HL5.out
                refine ⟨A6, c5 - 64, rem.drop 64, st2, by omega, by rw [show n5 - 64 = 64 * g by omega], by omega, ⟨by rw [List.length_drop]; omega⟩, HNX, ⟨HB5.out.drop 64⟩, ⟨by rw [HST2.out]; exact Md5.blk_ok st rem⟩, ⟨by rw [HST2.out, ← Md5.blocks_succ]; exact hE⟩, ⟨setRow_heap _ _ _ _ _ _ (Facts.below_blk HI.out HB6.out)⟩, ⟨Facts.below_setRow (HBW.out.trans (HB6.out.mono (by omega))) (Nat.le_refl _) _⟩⟩
            | zero =>
              have hp1 : n5 = 0 := by have := HN5.out; omega
              subst hp1
              have hE : st = Md5.blocks N Md5.init (Md5.pad l) := (Md5.blocks_zero st rem).symm.trans HE5.out
              have hsum : Md5.sum l = Md5.out st := by rw [hE, HN.out]; exact Md5.sum_def l
              have HSUM := Aside0.mk hsum
              have q0 : wr.cell? ⟨bS, 0, none⟩ = some (.int .u32 st.a) := cellAt HI.out rfl
              have q1 : wr.cell? ⟨bS, 1, none⟩ = some (.int .u32 st.b) := cellAt HI.out rfl
              have q2 : wr.cell? ⟨bS, 2, none⟩ = some (.int .u32 st.c) := cellAt HI.out rfl
              have q3 : wr.cell? ⟨bS, 3, none⟩ = some (.int .u32 st.d) := cellAt HI.out rfl
              have hbS2 := lt_of_blk HI.out
              clear hE hsum HE5 HN HR5 HB5 HL5 HN5 HM4 HML
              go_wp2_with (fail)
              obtain ⟨W2, hW2⟩ : ∃ W2, W2 = (wr.alloc (.cells zero16 49)).alloc (.cells (Words st) 67) := ⟨_, rfl⟩
              have hO : W2.heap[wr.heap.size]? = some (.cells (outArr st 0) 49 (0, 0)) := by rw [hW2, outArr_zero]; exact heap_alloc2_old _ _ _
              have hV : W2.heap[wr.heap.size + 1]? = some (.cells (Words st) 67 (0, 0)) := by rw [hW2]; exact heap_alloc2_new _ _ _
              have hBW2 : Below wr.heap.size wr W2 := by rw [hW2]; exact ((Below.refl _ _).alloc (Nat.le_refl _) _).alloc (by simp) _
              have hst : (wr.alloc (.cells #[.int .u8 0, .int .u8 0, .int .u8 0, .int .u8 0, .int .u8 0, .int .u8 0, .int .u8 0, .int .u8 0, .int .u8 0, .int .u8 0, .int .u8 0, .int .u8 0, .int .u8 0, .int .u8 0, .int .u8 0, .int .u8 0] 49)).alloc (.cells #[.int .u32 st.a, .int .u32 st.b, .int .u32 st.c, .int .u32 st.d] 67) = W2 := by rw [hW2]; rfl
              rw [hst]
              have HO := Aside0.mk hO
              have HV := Aside0.mk hV
              have HW2 := Aside0.mk hBW2
              clear hst hW2 hO hV hBW2 q0 q1 q2 q3
              obtain ⟨bO, hbO⟩ : ∃ bO, bO = wr.heap.size := ⟨_, rfl⟩
              rw [← hbO] at HO HV HW2 ⊢
              have hbO1 : bS < bO := by omega
              have HbO := Aside0.mk hbO
              clear hbO
              obtain ⟨wq, rfl⟩ : ∃ wq : World, wq = wr := ⟨_, rfl⟩
              go_loopg [56] 4 (fun g v56 wx => ∃ i : Nat, i ≤ 4 ∧ g + i = 4 ∧ v56 = .int .i64 i ∧ Aside0 (wx.heap[bO]? = some (.cells (outArr st (4 * i)) 49 (0, 0))) ∧ Aside0 (wx.heap[bO + 1]? = some (.cells (Words st) 67 (0, 0))) ∧ Aside0 (Below bO wq wx))
              case atStart => exact ⟨0, by omega, by omega, rfl, HO, HV, HW2⟩
              case round =>
                clear HO HV HW2
                obtain ⟨i, hi, hg, rfl, HO, HV, HW2⟩ := hrel
                obtain ⟨go4, rfl⟩ : ∃ x : Nat, x = gk := ⟨_, rfl⟩
                by_cases hi4 : i < 4
                · have cw : wr.cell? ⟨bO + 1, i, none⟩ = some (.int .u32 (wd st i : Nat)) := cellAt HV.out (Words_at st i hi4)
                  have hwd := wd_lt st HS5.out i
                  have HX : Aside0 (∀ k, k < 4 → (Md5.out st).getD (4 * i + k) 0 = Md5.outByte (wd st i) k) := ⟨fun k hk => out_at st i k hi4 hk⟩
                  generalize wd st i = x at *
                  have hi4' : (i : Int) < 4 := by omega
                  go_wp2_with (fail)
                  obtain ⟨wz, rfl⟩ : ∃ wz : World, wz = wr := ⟨_, rfl⟩
                  go_loopg [61] 4 (fun g v61 wx => ∃ k : Nat, k ≤ 4 ∧ g + k = 4 ∧ v61 = .int .i64 k ∧ Aside0 (wx.heap[bO]? = some (.cells (outArr st (4 * i + k)) 49 (0, 0))) ∧ Aside0 (wx.heap[bO + 1]? = some (.cells (Words st) 67 (0, 0))) ∧ Aside0 (Below bO wq wx))
                  case atStart => exact ⟨0, by omega, by omega, rfl, HO, HV, HW2⟩
                  case round =>
                    clear HO HV HW2 cw
                    obtain ⟨k, hk, hgk, rfl, HO, HV, HW2⟩ := hrel
                    by_cases hk4 : k < 4
                    · have hk4' : (k : Int) < 4 := by omega
                      have hidx : 4 * (i : Int) + k < 16 := by omega
                      obtain ⟨v0, hv0⟩ := outArr_at st (4 * i + k) (4 * i + k) (by omega) (by omega)
                      have co : wr.cell? ⟨bO, 4 * i + k, none⟩ = some v0 := cellAt HO.out hv0
                      have cf : wr.frozen? ⟨bO, 4 * i + k, none⟩ = false := frozen_of_row _ _ _ _ _ HO.out
                      clear hv0
                      go_wp2_with (fail)
                      have hstep := outArr_step st (4 * i + k) (by omega) (.int .u8 ((x : Int) / 2 ^ (8 * k) % 256)) (by rw [HX.out k hk4]; unfold Md5.outByte; push_cast; rfl)
                      have HST := Aside0.mk hstep
                      clear hstep
                      go_roundg (gk - 1)
                      case measure => omega
                      case rel =>
                        refine ⟨k + 1, by omega, by omega, by go_num, ⟨?_⟩, ⟨?_⟩, ⟨?_⟩⟩
                        · rw [heap_setCell_same _ _ _ _ _ _ HO.out, HST.out]; rfl
                        · rw [heap_setCell_other _ _ _ _ (by simp)]; exact HV.out
                        · exact HW2.out.setCell (Nat.le_refl _) _
                    · obtain rfl : k = 4 := by omega
                      have e4 : 4 * i + 4 = 4 * (i + 1) := by omega
                      rw [e4] at HO
                      have HE4 := Aside0.mk e4
                      clear e4
                      go_wp2_with (fail)
                      go_roundg (go4 - 1)
                      case measure => omega
                      case rel => exact ⟨i + 1, by omega, by omega, by go_num, HO, HV, HW2⟩
                · obtain rfl : i = 4 := by omega
                  have hres : wr.heap[w.heap.size]? = some (.cells zero16 49 (0, 0)) := by
                    rw [HW2.out.block _ (by omega), HBW.out.block _ (by omega), H2.out.block _ (by omega)]
                    exact heap_alloc_new _ _
                  have HRES := Aside0.mk hres
                  have HALL := Aside0.mk (outArr_all st)
                  clear hres
                  have e16 : 4 * 4 = 16 := rfl
                  rw [e16, HALL.out] at HO
                  have hoz : (List.map (Value.int .u8) (Md5.out st)).toArray.size = 16 := by simp [Md5.out_length]
                  have hone : ((List.map (Value.int .u8) (Md5.out st)).toArray.all fun x => x.oneCell') = true := by
                    rw [Array.all_eq_true_iff_forall_mem]; intro v hv; simp only [List.mem_toArray, List.mem_map] at hv; obtain ⟨y, _, rfl⟩ := hv; rfl
                  generalize (List.map (Value.int .u8) (Md5.out st)).toArray = oA at *
                  have hi24 : (Tryd.prog.info? 49).map (·.size) = some oA.size := by rw [hoz]; kernel_rfl
                  have hold : zero16.size = oA.size := by rw [hoz]; rfl
                  have HZ4 := Aside0.mk (And.intro hi24 (And.intro hold hone))
                  clear hi24 hold hone hoz e16
                  have hwlt : w.heap.size < wr.heap.size := lt_of_blk HRES.out
                  go_wp2_with (first | ((with_reducible refine gate_dst (N := 77) rfl ?_); refine wpList_load_row rfl 49 _ rfl bO rfl 49 oA (0, 0) _ HO.out Tryd.underlying49 rfl HZ4.out.1 ?_) | ((with_reducible refine gate_store (p := 2) rfl ?_); refine wpList_store_row rfl 49 _ _ rfl w.heap.size oA rfl rfl 49 zero16 HRES.out HZ4.out.1 HZ4.out.2.1 HZ4.out.2.2 ?_))
                  have hfin : (List.map (Value.int .u8) (Md5.sum l)).toArray = oA := by rw [HSUM.out, ← outArr_all]; exact HALL.out
                  rw [hfin]
                  refine bodyPost_ret (v := .agg oA) ?_ rfl ⟨rfl, ?_⟩
                  · exact results_cell_row (by rfl) _ _ w.heap.size 49 _ (0, 0) _ rfl (setRow_heap _ _ _ _ _ _ HRES.out) Tryd.underlying49 rfl HZ4.out.1
                  · refine Facts.below_setRow ?_ (Nat.le_refl _) _
                    have b1 : Below w.heap.size w wp := (w16_below w).trans (H2.out.mono (by omega))
                    exact (b1.trans (HBW.out.mono (by omega))).trans (HW2.out.mono (by omega))
end Go.Proofs.YtalignlbbdeeiaaDoor
