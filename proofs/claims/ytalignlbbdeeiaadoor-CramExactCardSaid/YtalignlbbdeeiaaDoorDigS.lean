/- The reference's sum: MD5 of any text of fewer than a hundred thousand bytes. -/
import Derived.Test.YtalignlbbdeeiaaDoorProg
import Derived.WalkKit
import Derived.WalkLawsBesides
import Derived.Outline
import Derived.LoopTactic
import Derived.Lib.Hide
import Derived.Deep.QuietTactic
import Derived.BigQuiet
import Derived.Deep.LoopGhost
import Derived.Deep.DeepCutAuto
import Derived.Deep.CutBlock
import Derived.Deep.RegionHeld3
import Derived.Deep.RegionWith
import Derived.Deep.WholeRow
import Derived.Laws.Rows
import Derived.Laws.Tables
import Derived.Laws.ResultCell
import Derived.StillTailTactics
import Derived.Deep.DeepMust
import Derived.IntWalk
import Derived.KernelRfl
import Derived.Test.YtalignlbbdeeiaaDoorWWords
import Derived.Test.YtalignlbbdeeiaaDoorWLast
import Derived.Test.YtalignlbbdeeiaaDoorWMore
import Derived.Test.YtalignlbbdeeiaaDoorDigS0
namespace Go.Proofs.YtalignlbbdeeiaaDoor
open Go.RowKit
open Go.Proofs.YtalignlbbdeeiaaDoorW.PrintWords
set_option linter.unusedVariables false
set_option linter.unusedSimpArgs false
theorem cast_mod (b r : Nat) : ((b : Int) + r) % 4294967296 = ((b + r : Nat) % 4294967296 : Nat) := by omega
theorem set4 (s : Md5.St) (a b c d : Value) : ((((Words s).setIfInBounds 0 a).setIfInBounds 1 b).setIfInBounds 2 c).setIfInBounds 3 d = #[a, b, c, d] := rfl
theorem Words_mod (s t : Md5.St) : Words ⟨(s.a + t.a) % 4294967296, (s.b + t.b) % 4294967296, (s.c + t.c) % 4294967296, (s.d + t.d) % 4294967296⟩ = #[.int .u32 (((s.a : Int) + t.a) % 4294967296), .int .u32 (((s.b : Int) + t.b) % 4294967296), .int .u32 (((s.c : Int) + t.c) % 4294967296), .int .u32 (((s.d : Int) + t.d) % 4294967296)] := by
  simp only [cast_mod]; rfl
theorem rword_at (A : Option Addr) (c n : Nat) (l : List Int) (k : Nat) (K : Int) (w : World) (hK : K = (k : Int)) (hn : l.length = n) (hr : CB w A l) (hk : k + 4 ≤ l.length) (hb : Md5.Bytes l) (hl : l.length ≤ 1000000) :
    Calls Tryd.prog 40 #[.slice A n c, .int .i64 K] w fun e w' => e = .returned (.int .u32 (Md5.wrd l k)) ∧ ∃ n, w' = w.drewN n := by
  subst hK
  exact rword_any A c n l k w hn hr hk hb hl
set_option maxRecDepth 10000 in
set_option maxHeartbeats 4000000 in
theorem rsum_any (A : Option Addr) (c : Nat) (l : List Int) (w : World) (hr : CB w A l) (hc : l.length ≤ c) (hb : Md5.Bytes l) (hl : l.length ≤ 100000) :
    Calls Tryd.prog 32 #[.slice A l.length c] w fun e w' => e = .returned (.agg ((Md5.sum l).map (Value.int .u8)).toArray) ∧ Below w.heap.size w w' := by
  have HR := Aside0.mk hr
  have HB := Aside0.mk hb
  clear hr hb
  go_enter Tryd.func32, Tryd.ntmps32
  go_upto_region 1 with (fail)
  have ew : w.alloc (.cells #[.int .u8 0, .int .u8 0, .int .u8 0, .int .u8 0, .int .u8 0, .int .u8 0, .int .u8 0, .int .u8 0, .int .u8 0, .int .u8 0, .int .u8 0, .int .u8 0, .int .u8 0, .int .u8 0, .int .u8 0, .int .u8 0] 49) = w16 w := rfl
  rw [ew]
  clear ew
  have hs := w16_size w
  have hs1 : w.heap.size + 1 ≤ (w16 w).heap.size := by omega
  have hs2 : (w16 w).heap.size ≤ w.heap.size + 1 := by omega
  clear hs
  have HRw := Aside0.mk (Kd.C_below HR.out (w16_below w))
  clear HR
  go_wp2_with (first | (go_at_call 10; refine (twin_any A c l _ HRw.out (by omega)).mono ?_; rintro e w1 ⟨v1, rfl, h1, h2⟩; have H1 := Aside0.mk h1; have H2 := Aside0.mk h2; clear h1 h2) | ((with_reducible refine gate_builtin (b := .append) (xs := #[.tmp 19, .tmp 20]) rfl ?_); at_builtin; refine Kd.R_append (Kd.int .u8) (w0 := w16 w) (w16 w).heap.size rfl (.tmp 19) (.tmp 20) 22 5 (.int .u8 0) 1 rfl Tryd.underlying22 infoU8 rfl (by decide) (by omega) v1 l 128 [.int .u8 128] (fun _ => True) (fun _ => False) rfl rfl rfl (fun _ h => h.elim) (fun _ _ => trivial) H1.out H2.out H2.out.size (by omega) ?_; intro v2 w2 h1 h2 h3 h4; clear H1 H2; have H1 := Aside0.mk h1; have H2 := Aside0.mk h2; clear h1 h2 h3 h4))
  clear HRw
  obtain ⟨Z, hZ⟩ : ∃ Z, Z = (119 - l.length % 64) % 64 := ⟨_, rfl⟩
  have HZ := Aside0.mk hZ
  clear hZ
  go_loopg [3] Z (fun g v3 wr => ∃ k : Nat, k ≤ Z ∧ g + k = Z ∧ Aside0 (RB wr (w16 w).heap.size (fun _ => True) v3 (l ++ [128] ++ List.replicate k 0)) ∧ Aside0 (Below (w16 w).heap.size (w16 w) wr))
  case atStart => exact ⟨0, by omega, by omega, ⟨by simpa using H1.out⟩, H2⟩
  case round =>
    clear H1 H2
    obtain ⟨k, hk, hg, H1, H2⟩ := hrel
    obtain ⟨A3, c3, rfl, hc3, hr3⟩ := Kd.R_reads H1.out
    obtain ⟨m, hm⟩ : ∃ m, m = (l ++ [128] ++ List.replicate k (0 : Int)).length := ⟨_, rfl⟩
    rw [← hm] at H1 hc3 hr3 ⊢
    have hm2 : m = l.length + 1 + k := by rw [hm]; simp; omega
    have HM := Aside0.mk hm
    have HM2 := Aside0.mk hm2
    have hm3 : m ≤ 100100 := by have := HZ.out; omega
    have HL : Aside0 (((l ++ [128] ++ List.replicate k (0 : Int)).length + 1) * 1 ≤ 140737488355328) := ⟨by rw [← hm]; omega⟩
    clear hm hm2
    by_cases hkZ : k < Z
    · have ct : ((m : Int) % 64 != 56) = true := by have := HM2.out; have := HZ.out; rw [bne_iff_ne]; omega
      go_wp2_with (first | ((with_reducible refine gate_builtin (b := .append) (xs := #[.tmp 26, .tmp 27]) rfl ?_); at_builtin; refine Kd.R_append (Kd.int .u8) (w0 := w16 w) (w16 w).heap.size rfl (.tmp 26) (.tmp 27) 22 5 (.int .u8 0) 1 rfl Tryd.underlying22 infoU8 rfl (by decide) (by omega) (.slice A3 m c3) (l ++ [128] ++ List.replicate k 0) 0 [.int .u8 0] (fun _ => True) (fun _ => False) rfl rfl rfl (fun _ h => h.elim) (fun _ _ => trivial) H1.out H2.out H2.out.size HL.out ?_; intro v2 w2 h1 h2 h3 h4; clear H1 H2; have H1 := Aside0.mk h1; have H2 := Aside0.mk h2; clear h1 h2 h3 h4))
      go_roundg (gk - 1)
      case measure => omega
      case rel => exact ⟨k + 1, by omega, by omega, ⟨by rw [← zeros_succ]; exact H1.out⟩, H2⟩
    · obtain rfl : k = Z := by omega
      have ct : ((m : Int) % 64 != 56) = false := by have := HM2.out; have := HZ.out; rw [bne_eq_false_iff_eq]; omega
      have ep : l ++ [128] ++ List.replicate k (0 : Int) = l ++ [128] ++ Md5.zeros l.length := by unfold Md5.zeros; rw [← HZ.out]
      rw [ep] at H1 HL HM
      clear ep hr3
      go_wp2_with (fail)
      generalize hP : l ++ [128] ++ Md5.zeros l.length = P at *
      have HP := Aside0.mk hP
      clear hP
      go_loopg [3, 4] 8 (fun g v3 v21 wr => ∃ i : Nat, i ≤ 8 ∧ g + i = 8 ∧ v21 = .int .i64 i ∧ Aside0 (RB wr (w16 w).heap.size (fun _ => True) v3 (P ++ (List.range i).map (Md5.lenByte l.length))) ∧ Aside0 (Below (w16 w).heap.size (w16 w) wr))
      case atStart => exact ⟨0, by omega, by omega, rfl, ⟨by simpa using H1.out⟩, H2⟩
      case round =>
        clear H1 H2
        obtain ⟨i, hi, hg, rfl, H1, H2⟩ := hrel
        obtain ⟨A4, c4, rfl, hc4, hr4⟩ := Kd.R_reads H1.out
        obtain ⟨m4, hm4⟩ : ∃ m, m = (P ++ (List.range i).map (Md5.lenByte l.length)).length := ⟨_, rfl⟩
        rw [← hm4] at H1 hc4 hr4 ⊢
        have HM4 := Aside0.mk hm4
        have hm5 : m4 = m + i := by rw [hm4, List.length_append, HM.out]; simp
        have HL : Aside0 (((P ++ (List.range i).map (Md5.lenByte l.length)).length + 1) * 1 ≤ 140737488355328) := ⟨by rw [← hm4]; omega⟩
        have HM5 := Aside0.mk hm5
        clear hm4 hm5
        by_cases hi8 : i < 8
        · go_wp2_with (first | ((with_reducible refine gate_builtin (b := .append) (xs := #[.tmp 33, .tmp 43]) rfl ?_); at_builtin; refine Kd.R_append (Kd.int .u8) (w0 := w16 w) (w16 w).heap.size rfl (.tmp 33) (.tmp 43) 22 5 (.int .u8 0) 1 rfl Tryd.underlying22 infoU8 rfl (by decide) (by omega) (.slice A4 m4 c4) (P ++ (List.range i).map (Md5.lenByte l.length)) (8 * (l.length : Int) / 2 ^ (8 * i) % 256) [.int .u8 (8 * (l.length : Int) / 2 ^ (8 * i) % 256)] (fun _ => True) (fun _ => False) rfl rfl rfl (fun _ h => h.elim) (fun _ _ => trivial) H1.out H2.out H2.out.size HL.out ?_; intro v2 w2 h1 h2 h3 h4; clear H1 H2; have H1 := Aside0.mk h1; have H2 := Aside0.mk h2; clear h1 h2 h3 h4))
          have eb : (8 * (l.length : Int) / 2 ^ (8 * i) % 256) = Md5.lenByte l.length i := by unfold Md5.lenByte; push_cast; rfl
          rw [eb] at H1
          go_roundg (gk - 1)
          case measure => omega
          case rel => exact ⟨i + 1, by omega, by omega, by go_num, ⟨by rw [← lens_succ]; exact H1.out⟩, H2⟩
        · obtain rfl : i = 8 := by omega
          have epad : P ++ (List.range 8).map (Md5.lenByte l.length) = Md5.pad l := by rw [← HP.out]; exact Md5.pad_def l
          rw [epad] at H1 HM4 hr4
          have HR4 := Aside0.mk hr4
          have hm4b : m4 ≤ 100200 := by have := HM5.out; omega
          clear epad HL HP HM HM2 HZ HM5 hr4
          go_upto_region 10 with (first | (go_at_call 39; refine (rsines_any _).mono ?_; rintro e w9 ⟨rfl, rfl⟩))
          obtain ⟨W1, hW1⟩ : ∃ W1, W1 = (wr.alloc (.cells (Words Md5.init) 67)).alloc (.cells addsA 67) := ⟨_, rfl⟩
          have hI : W1.heap[wr.heap.size]? = some (.cells (Words Md5.init) 67 (0, 0)) := by rw [hW1]; exact heap_alloc2_old _ _ _
          have hKk : W1.heap[wr.heap.size + 1]? = some (.cells addsA 67 (0, 0)) := by rw [hW1]; exact heap_alloc2_new _ _ _
          have hBW : Below wr.heap.size wr W1 := by rw [hW1]; exact ((Below.refl _ _).alloc (Nat.le_refl _) _).alloc (by simp) _
          have HI := Aside0.mk hI
          have HKk := Aside0.mk hKk
          have HBW := Aside0.mk hBW
          have hst : (wr.alloc (.cells #[.int .u32 1732584193, .int .u32 4023233417, .int .u32 2562383102, .int .u32 271733878] 67)).alloc (.cells addsA 67) = W1 := by rw [hW1]; rfl
          rw [hst]
          clear hst hW1 hI hBW hKk
          obtain ⟨N, hN⟩ : ∃ N, N = (Md5.pad l).length / 64 := ⟨_, rfl⟩
          have hml : m4 = 64 * N := by have h1 := Md5.pad_mod l; have h2 := HM4.out; omega
          have HML := Aside0.mk hml
          have HN := Aside0.mk hN
          have hmN : N ≤ 2000 := by omega
          have hpb := Md5.pad_bytes HB.out
          have hsd : Md5.sum l = Md5.out (Md5.blocks N Md5.init (Md5.pad l)) := by rw [hN]; exact Md5.sum_def l
          have HSD := Aside0.mk hsd
          clear hN hml hsd
          obtain ⟨x, hx⟩ : ∃ x, x = Md5.pad l := ⟨_, rfl⟩
          rw [← hx] at HM4 HR4 hpb HSD
          have HPB := Aside0.mk hpb
          clear hpb hx HN
          obtain ⟨bS, hbS⟩ : ∃ bS, bS = wr.heap.size := ⟨_, rfl⟩
          rw [← hbS] at HI HKk HBW ⊢
          have hwr := H2.out.size
          have hbS1 : w.heap.size + 1 ≤ bS := by omega
          have HbS := Aside0.mk hbS
          clear hbS hwr
          go_wp2_with (fail)
          obtain ⟨wp, rfl⟩ : ∃ wp : World, wp = wr := ⟨_, rfl⟩
          go_loopg [7] N (fun g v7 wx => ∃ (n at_ : Nat) (st : Md5.St), n ≤ N ∧ g + n = N ∧ Aside0 (at_ = 64 * n) ∧ v7 = .int .i64 at_ ∧ Aside0 st.ok ∧ Aside0 (Md5.blocks g st (x.drop at_) = Md5.blocks N Md5.init x) ∧ Aside0 (wx.heap[bS]? = some (.cells (Words st) 67 (0, 0))) ∧ Aside0 (wx.heap[bS + 1]? = some (.cells addsA 67 (0, 0))) ∧ Aside0 (Below bS wp wx))
          case atStart => exact ⟨0, 0, Md5.init, by omega, by omega, ⟨rfl⟩, rfl, ⟨Md5.init_ok⟩, ⟨by rw [List.drop_zero]⟩, HI, HKk, HBW⟩
          case round =>
            clear HI HKk HBW H1
            obtain ⟨n, at_, st, hnN, hgn, HAT, rfl, HS5, HE5, HI, HKk, HBW⟩ := hrel
            obtain ⟨g0, rfl⟩ : ∃ x : Nat, x = gk := ⟨_, rfl⟩
            have hmx : m4 ≤ 100200 := hm4b
            by_cases hlt : n < N
            · have hat1 : at_ + 64 ≤ m4 := by have := HAT.out; have := HML.out; omega
              have hct : decide ((at_ : Int) < (m4 : Int)) = true := by simp; omega
              have hct2 : decide (at_ < m4) = true := by simp; omega
              have q0 : wr.cell? ⟨bS, 0, none⟩ = some (.int .u32 st.a) := cellAt HI.out rfl
              have q1 : wr.cell? ⟨bS, 1, none⟩ = some (.int .u32 st.b) := cellAt HI.out rfl
              have q2 : wr.cell? ⟨bS, 2, none⟩ = some (.int .u32 st.c) := cellAt HI.out rfl
              have q3 : wr.cell? ⟨bS, 3, none⟩ = some (.int .u32 st.d) := cellAt HI.out rfl
              have hbw : Below wp.heap.size wp wr := by rw [← HbS.out]; exact HBW.out
              have HCW := Aside0.mk (Kd.C_below HR4.out hbw)
              clear hbw
              go_upto_region 13 with (fail)
              go_quiet (fail)
              go_upto_region 14 with (fail)
              go_wp2_with (fail)
              obtain ⟨wz, hwz⟩ : ∃ wz, wz = wr.drewN nq := ⟨_, rfl⟩
              rw [← hwz]
              have hbz : Below wr.heap.size wr wz := by rw [hwz]; exact pw_below_drewN (Below.refl _ _) _
              have HBZ := Aside0.mk hbz
              clear hwz hbz q0 q1 q2 q3
              obtain ⟨wo, rfl⟩ : ∃ wo : World, wo = wr := ⟨_, rfl⟩
              go_loopg [8, 9, 10, 11, 12] 64 (fun g v8 v9 v10 v11 v12 wx => ∃ (i : Nat) (t : Md5.St), i ≤ 64 ∧ g + i = 64 ∧ Aside0 (t = Md5.rounds (x.drop at_) st i) ∧ v8 = .int .u32 t.a ∧ v9 = .int .u32 t.b ∧ v10 = .int .u32 t.c ∧ v11 = .int .u32 t.d ∧ v12 = .int .i64 i ∧ Aside0 (Below wo.heap.size wo wx))
              case atStart => exact ⟨0, st, by omega, by omega, ⟨rfl⟩, rfl, rfl, rfl, rfl, rfl, HBZ⟩
              case round =>
                clear HBZ
                obtain ⟨i, t, hi, hgi, HT, rfl, rfl, rfl, rfl, rfl, HBZ⟩ := hrel
                have ht : t.ok := by rw [HT.out]; exact Md5.rounds_ok _ _ HS5.out i
                by_cases hi64 : i < 64
                · have hi64' : (i : Int) < 64 := by omega
                  go_upto_block 8 with (fail)
                  go_cut [13, 14, 70] (fun v13 v14 v70 wx => v13 = .int .u32 (Md5.F i t.b t.c t.d : Nat) ∧ v14 = .int .i64 (Md5.G i : Nat) ∧ wr = wx)
                  case first =>
                    by_cases h0 : i / 16 = 0
                    · have H := Aside0.mk (F0 i t.b t.c t.d h0 ht.2.1 ht.2.2.1 ht.2.2.2)
                      have hG : ((i : Nat) : Int) = Md5.G i := by unfold Md5.G; rw [if_pos h0]
                      have HG := Aside0.mk hG
                      have c0 : ((i : Int) / 16 == 0) = true := by rw [beq_iff_eq]; omega
                      clear h0 hG
                      go_wp2_with (fail)
                      go_meet
                      case rel => exact ⟨congrArg (Value.int .u32) H.out, congrArg (Value.int .i64) HG.out, rfl⟩
                    by_cases h1 : i / 16 = 1
                    · have H := Aside0.mk (F1b i t.b t.c t.d h1 ht.2.1 ht.2.2.1 ht.2.2.2)
                      have hG : (5 * (i : Int) + 1) % 16 = Md5.G i := by unfold Md5.G; rw [if_neg h0, if_pos h1]; omega
                      have HG := Aside0.mk hG
                      have c0 : ((i : Int) / 16 == 0) = false := by rw [beq_eq_false_iff_ne]; omega
                      have c1 : ((i : Int) / 16 == 1) = true := by rw [beq_iff_eq]; omega
                      clear h0 h1 hG
                      go_wp2_with (fail)
                      go_meet
                      case rel => exact ⟨congrArg (Value.int .u32) H.out, congrArg (Value.int .i64) HG.out, rfl⟩
                    by_cases h2 : i / 16 = 2
                    · have H := Aside0.mk (F2 i t.b t.c t.d h2 ht.2.1 ht.2.2.1 ht.2.2.2)
                      have hG : (3 * (i : Int) + 5) % 16 = Md5.G i := by unfold Md5.G; rw [if_neg h0, if_neg h1, if_pos h2]; omega
                      have HG := Aside0.mk hG
                      have c0 : ((i : Int) / 16 == 0) = false := by rw [beq_eq_false_iff_ne]; omega
                      have c1 : ((i : Int) / 16 == 1) = false := by rw [beq_eq_false_iff_ne]; omega
                      have c2 : ((i : Int) / 16 == 2) = true := by rw [beq_iff_eq]; omega
                      clear h0 h1 h2 hG
                      go_wp2_with (fail)
                      go_meet
                      case rel => exact ⟨congrArg (Value.int .u32) H.out, congrArg (Value.int .i64) HG.out, rfl⟩
                    · have H := Aside0.mk (F3 i t.b t.c t.d h0 h1 h2 ht.2.1 ht.2.2.1 ht.2.2.2)
                      have hG : 7 * (i : Int) % 16 = Md5.G i := by unfold Md5.G; rw [if_neg h0, if_neg h1, if_neg h2]; omega
                      have HG := Aside0.mk hG
                      have c0 : ((i : Int) / 16 == 0) = false := by rw [beq_eq_false_iff_ne]; omega
                      have c1 : ((i : Int) / 16 == 1) = false := by rw [beq_eq_false_iff_ne]; omega
                      have c2 : ((i : Int) / 16 == 2) = false := by rw [beq_eq_false_iff_ne]; omega
                      clear h0 h1 h2 hG
                      go_wp2_with (fail)
                      go_meet
                      case rel => exact ⟨congrArg (Value.int .u32) H.out, congrArg (Value.int .i64) HG.out, rfl⟩
                  case rest =>
                    obtain ⟨rfl, rfl, rfl⟩ := hcut
                    have hF := Md5.F_lt i t.b t.c t.d ht.2.1 ht.2.2.1 ht.2.2.2
                    have hG := Md5.G_lt i hi64
                    have HST : Aside0 (Md5.stp (x.drop at_) i t = ⟨t.d, (t.b + Md5.rot ((Md5.F i t.b t.c t.d + t.a + Md5.kTab.getD i 0 + Md5.wrd x (at_ + 4 * Md5.G i)) % 4294967296) (Md5.rTab.getD (i / 16 * 4 + i % 4) 0)) % 4294967296, t.b, t.c⟩) := ⟨by rw [← Md5.wrd_drop]; rfl⟩
                    have cA : wr.cell? ⟨bS + 1, i, none⟩ = some (.int .u32 (Md5.kTab.getD i 0 : Nat)) := (HBZ.out.cell (lt_of_blk HKk.out)).trans (cellAt HKk.out (adds_at i hi64))
                    have hrb := rTab_bd (i / 16 * 4 + i % 4) (by omega)
                    have hHCW := Aside0.mk (Kd.C_below HCW.out HBZ.out)
                    have hHCX : Aside0 (CB wr A4 x) := ⟨by have h := hHCW.out; rw [HM4.out] at h; exact h⟩
                    have hlx := HM4.out
                    have HLX := Aside0.mk hlx
                    clear hlx hHCW
                    have hwl := Md5.wrd_lt HPB.out (at_ + 4 * Md5.G i)
                    have htu := rturns_any i hi64
                    have HTU := Aside0.mk htu
                    clear htu
                    generalize Md5.rTab.getD (i / 16 * 4 + i % 4) 0 = rv at *
                    generalize Md5.kTab.getD i 0 = kn at *
                    generalize Md5.F i t.b t.c t.d = Fn at *
                    generalize hGn : Md5.G i = Gn at *
                    have HGN := Aside0.mk hGn
                    clear hGn
                    have e1 : IntKind.i64.wrap (4 * (Gn : Int)) = 4 * (Gn : Int) := IntWalk.i64_in _ (by omega)
                    have e2 : IntKind.i64.wrap ((at_ : Int) + 4 * (Gn : Int)) = (at_ : Int) + 4 * (Gn : Int) := IntWalk.i64_in _ (by omega)
                    go_wp2_with (fail)
                    go_upto_region 26 with (fail)
                    go_quiet ((go_at_call 40; refine Calls.quiet_of (rword_at A4 c4 m4 x (at_ + 4 * Gn) _ _ (by omega) HLX.out.symm (Kd.C_drewN hHCX.out _) (by rw [← HLX.out]; omega) HPB.out (by rw [← HLX.out]; omega))))
                    go_upto_region 27 with (fail)
                    have ef : (((Fn : Int) + t.a + kn) % 4294967296 + (Md5.wrd x (at_ + 4 * Gn) : Int)) % 4294967296 = (((Fn + t.a + kn + Md5.wrd x (at_ + 4 * Gn)) % 4294967296 : Nat) : Int) := by omega
                    rw [ef]
                    have hfl : (Fn + t.a + kn + Md5.wrd x (at_ + 4 * Gn)) % 4294967296 < 4294967296 := Nat.mod_lt _ (by omega)
                    clear ef hwl
                    generalize (Fn + t.a + kn + Md5.wrd x (at_ + 4 * Gn)) % 4294967296 = fv at *
                    have HRB := Lib.hid (rot_bits fv rv hfl)
                    have hrot := Md5.rot_lt fv rv hfl
                    obtain ⟨hr1, hr2⟩ := hrb
                    have e3 : ((32 : Int) - rv).toNat = 32 - rv := by omega
                    go_wp2_with (first | (go_at_call 41; refine (HTU.out _).mono ?_; rintro e w8 ⟨rfl, hb8⟩; have HB8 := Aside0.mk hb8; clear hb8))
                    go_roundg (gk - 1)
                    case measure => omega
                    case rel =>
                      have hb9 := HBZ.out.trans ((pw_below_drewN (Below.refl wr.heap.size wr) nq).mono HBZ.out.size)
                      refine ⟨i + 1, Md5.stp (x.drop at_) i t, by omega, by omega, ⟨by rw [HT.out]; rfl⟩, by rw [HST.out], ?_, by rw [HST.out], by rw [HST.out], by go_num, ⟨hb9.trans (HB8.out.mono hb9.size)⟩⟩
                      rw [HST.out, HRB.out]
                      exact congrArg (Value.int .u32) (cast_mod _ _)
                · obtain rfl : i = 64 := by omega
                  have hIz := (HBZ.out.block _ (lt_of_blk HI.out)).trans HI.out
                  have hKz := (HBZ.out.block _ (lt_of_blk HKk.out)).trans HKk.out
                  have hBz : Below bS wp wr := HBW.out.trans (HBZ.out.mono (by have := lt_of_blk HI.out; omega))
                  have hblk : Md5.blk st (x.drop at_) = ⟨(st.a + t.a) % 4294967296, (st.b + t.b) % 4294967296, (st.c + t.c) % 4294967296, (st.d + t.d) % 4294967296⟩ := by rw [HT.out]; rfl
                  have HBK := Aside0.mk hblk
                  clear hblk
                  go_upto_region 30 with (fail)
                  refine Facts.startL (n := 32) (fun w => w.heap[bS]? = some (.cells (Words st) 67 (0, 0))) [25, 27, 29, 31] #[false, false, false, false, false, false, false, false, false, false, false, false, false, false, false, false, false, false, false, false, false, false, false, false, false, false, false, false, false, false, false, false] (by kernel_rfl) rfl (by kernel_rfl) hIz ?_
                  obtain ⟨wy, hwy⟩ : ∃ wy, wy = wr.drew := ⟨_, rfl⟩
                  rw [← hwy]
                  have hIy : wy.heap[bS]? = some (.cells (Words st) 67 (0, 0)) := by rw [hwy]; exact hIz
                  have hKy : wy.heap[bS + 1]? = some (.cells addsA 67 (0, 0)) := by rw [hwy]; exact hKz
                  have hBy : Below bS wp wy := by rw [hwy]; exact hBz.drew
                  have f0 := hIy
                  have HK2 := Aside0.mk hKy
                  have HB2 := Aside0.mk hBy
                  clear hKy hBy hIz hKz hBz hwy
                  refine Facts.pureL (i := 0) (.slice (some ⟨bS, 0, none⟩) 4 4) #[true, false, false, false, false, false, false, false, false, false, false, false, false, false, false, false, false, false, false, false, false, false, false, false, false, false, false, false, false, false, false, false] rfl rfl (by kernel_rfl) (fun _ _ _ h => h) (by kernel_rfl) (fun _ => by kernel_rfl) ?_
                  refine Facts.pureL (i := 1) (.slice (some ⟨bS, 0, none⟩) 4 4) #[true, true, false, false, false, false, false, false, false, false, false, false, false, false, false, false, false, false, false, false, false, false, false, false, false, false, false, false, false, false, false, false] rfl rfl (by kernel_rfl) (fun _ _ _ h => h) (by kernel_rfl) (fun _ => by kernel_rfl) ?_
                  refine Facts.pureL (i := 2) (.slice (some ⟨bS, 0, none⟩) 4 4) #[true, true, true, false, false, false, false, false, false, false, false, false, false, false, false, false, false, false, false, false, false, false, false, false, false, false, false, false, false, false, false, false] rfl rfl (by kernel_rfl) (fun _ _ _ h => h) (by kernel_rfl) (fun _ => by kernel_rfl) ?_
                  refine Facts.pureL (i := 3) (.slice (some ⟨bS, 0, none⟩) 4 4) #[true, true, true, true, false, false, false, false, false, false, false, false, false, false, false, false, false, false, false, false, false, false, false, false, false, false, false, false, false, false, false, false] rfl rfl (by kernel_rfl) (fun _ _ _ h => h) (by kernel_rfl) (fun _ => by kernel_rfl) ?_
                  refine Facts.pureL (i := 4) (.slice (some ⟨bS, 0, none⟩) 4 4) #[true, true, true, true, true, false, false, false, false, false, false, false, false, false, false, false, false, false, false, false, false, false, false, false, false, false, false, false, false, false, false, false] rfl rfl (by kernel_rfl) (fun _ _ _ h => h) (by kernel_rfl) (fun _ => by kernel_rfl) ?_
                  refine Facts.pureL (i := 5) (.pointer (some ⟨bS, 0, none⟩)) #[true, true, true, true, true, true, false, false, false, false, false, false, false, false, false, false, false, false, false, false, false, false, false, false, false, false, false, false, false, false, false, false] rfl rfl (by kernel_rfl) (fun _ _ _ h => h) (by kernel_rfl) (fun _ => by kernel_rfl) ?_
                  refine Facts.takeL (i := 6) (.int .u32 st.a) #[true, true, true, true, true, true, true, false, false, false, false, false, false, false, false, false, false, false, false, false, false, false, false, false, false, false, false, false, false, false, false, false] rfl rfl (by kernel_rfl) (fun _ _ _ h => h) hIy (by kernel_rfl) (fun wv hv => ld_u32 (ad := ⟨bS, 0, none⟩) (by kernel_rfl) rfl (cellAt hv rfl)) ?_
                  refine Facts.pureL (i := 7) (.int .u32 t.a) #[true, true, true, true, true, true, true, true, false, false, false, false, false, false, false, false, false, false, false, false, false, false, false, false, false, false, false, false, false, false, false, false] rfl rfl (by kernel_rfl) (fun _ _ _ h => h) (by kernel_rfl) (fun _ => by kernel_rfl) ?_
                  refine Facts.pureL (i := 8) (.int .u32 (IntKind.u32.wrap ((st.a : Int) + t.a))) #[true, true, true, true, true, true, true, true, true, false, false, false, false, false, false, false, false, false, false, false, false, false, false, false, false, false, false, false, false, false, false, false] rfl rfl (by kernel_rfl) (fun _ _ _ h => h) (by kernel_rfl) (fun _ => by kernel_rfl) ?_
                  refine Facts.pureL (i := 9) (.slice (some ⟨bS, 0, none⟩) 4 4) #[true, true, true, true, true, true, true, true, true, true, false, false, false, false, false, false, false, false, false, false, false, false, false, false, false, false, false, false, false, false, false, false] rfl rfl (by kernel_rfl) (fun _ _ _ h => h) (by kernel_rfl) (fun _ => by kernel_rfl) ?_
                  refine Facts.pureL (i := 10) (.pointer (some ⟨bS, 1, none⟩)) #[true, true, true, true, true, true, true, true, true, true, true, false, false, false, false, false, false, false, false, false, false, false, false, false, false, false, false, false, false, false, false, false] rfl rfl (by kernel_rfl) (fun _ _ _ h => h) (by kernel_rfl) (fun _ => by kernel_rfl) ?_
                  refine Facts.takeL (i := 11) (.int .u32 st.b) #[true, true, true, true, true, true, true, true, true, true, true, true, false, false, false, false, false, false, false, false, false, false, false, false, false, false, false, false, false, false, false, false] rfl rfl (by kernel_rfl) (fun _ _ _ h => h) hIy (by kernel_rfl) (fun wv hv => ld_u32 (ad := ⟨bS, 1, none⟩) (by kernel_rfl) rfl (cellAt hv rfl)) ?_
                  refine Facts.pureL (i := 12) (.int .u32 t.b) #[true, true, true, true, true, true, true, true, true, true, true, true, true, false, false, false, false, false, false, false, false, false, false, false, false, false, false, false, false, false, false, false] rfl rfl (by kernel_rfl) (fun _ _ _ h => h) (by kernel_rfl) (fun _ => by kernel_rfl) ?_
                  refine Facts.pureL (i := 13) (.int .u32 (IntKind.u32.wrap ((st.b : Int) + t.b))) #[true, true, true, true, true, true, true, true, true, true, true, true, true, true, false, false, false, false, false, false, false, false, false, false, false, false, false, false, false, false, false, false] rfl rfl (by kernel_rfl) (fun _ _ _ h => h) (by kernel_rfl) (fun _ => by kernel_rfl) ?_
                  refine Facts.pureL (i := 14) (.slice (some ⟨bS, 0, none⟩) 4 4) #[true, true, true, true, true, true, true, true, true, true, true, true, true, true, true, false, false, false, false, false, false, false, false, false, false, false, false, false, false, false, false, false] rfl rfl (by kernel_rfl) (fun _ _ _ h => h) (by kernel_rfl) (fun _ => by kernel_rfl) ?_
                  refine Facts.pureL (i := 15) (.pointer (some ⟨bS, 2, none⟩)) #[true, true, true, true, true, true, true, true, true, true, true, true, true, true, true, true, false, false, false, false, false, false, false, false, false, false, false, false, false, false, false, false] rfl rfl (by kernel_rfl) (fun _ _ _ h => h) (by kernel_rfl) (fun _ => by kernel_rfl) ?_
                  refine Facts.takeL (i := 16) (.int .u32 st.c) #[true, true, true, true, true, true, true, true, true, true, true, true, true, true, true, true, true, false, false, false, false, false, false, false, false, false, false, false, false, false, false, false] rfl rfl (by kernel_rfl) (fun _ _ _ h => h) hIy (by kernel_rfl) (fun wv hv => ld_u32 (ad := ⟨bS, 2, none⟩) (by kernel_rfl) rfl (cellAt hv rfl)) ?_
                  refine Facts.pureL (i := 17) (.int .u32 t.c) #[true, true, true, true, true, true, true, true, true, true, true, true, true, true, true, true, true, true, false, false, false, false, false, false, false, false, false, false, false, false, false, false] rfl rfl (by kernel_rfl) (fun _ _ _ h => h) (by kernel_rfl) (fun _ => by kernel_rfl) ?_
                  refine Facts.pureL (i := 18) (.int .u32 (IntKind.u32.wrap ((st.c : Int) + t.c))) #[true, true, true, true, true, true, true, true, true, true, true, true, true, true, true, true, true, true, true, false, false, false, false, false, false, false, false, false, false, false, false, false] rfl rfl (by kernel_rfl) (fun _ _ _ h => h) (by kernel_rfl) (fun _ => by kernel_rfl) ?_
                  refine Facts.pureL (i := 19) (.slice (some ⟨bS, 0, none⟩) 4 4) #[true, true, true, true, true, true, true, true, true, true, true, true, true, true, true, true, true, true, true, true, false, false, false, false, false, false, false, false, false, false, false, false] rfl rfl (by kernel_rfl) (fun _ _ _ h => h) (by kernel_rfl) (fun _ => by kernel_rfl) ?_
                  refine Facts.pureL (i := 20) (.pointer (some ⟨bS, 3, none⟩)) #[true, true, true, true, true, true, true, true, true, true, true, true, true, true, true, true, true, true, true, true, true, false, false, false, false, false, false, false, false, false, false, false] rfl rfl (by kernel_rfl) (fun _ _ _ h => h) (by kernel_rfl) (fun _ => by kernel_rfl) ?_
                  refine Facts.takeL (i := 21) (.int .u32 st.d) #[true, true, true, true, true, true, true, true, true, true, true, true, true, true, true, true, true, true, true, true, true, true, false, false, false, false, false, false, false, false, false, false] rfl rfl (by kernel_rfl) (fun _ _ _ h => h) hIy (by kernel_rfl) (fun wv hv => ld_u32 (ad := ⟨bS, 3, none⟩) (by kernel_rfl) rfl (cellAt hv rfl)) ?_
                  refine Facts.pureL (i := 22) (.int .u32 t.d) #[true, true, true, true, true, true, true, true, true, true, true, true, true, true, true, true, true, true, true, true, true, true, true, false, false, false, false, false, false, false, false, false] rfl rfl (by kernel_rfl) (fun _ _ _ h => h) (by kernel_rfl) (fun _ => by kernel_rfl) ?_
                  refine Facts.pureL (i := 23) (.int .u32 (IntKind.u32.wrap ((st.d : Int) + t.d))) #[true, true, true, true, true, true, true, true, true, true, true, true, true, true, true, true, true, true, true, true, true, true, true, true, false, false, false, false, false, false, false, false] rfl rfl (by kernel_rfl) (fun _ _ _ h => h) (by kernel_rfl) (fun _ => by kernel_rfl) ?_
                  clear hIy
                  have f1 := heap_setCell_same wy bS 0 _ _ (.int .u32 (IntKind.u32.wrap ((st.a : Int) + t.a))) f0
                  have f2 := heap_setCell_same _ bS 1 _ _ (.int .u32 (IntKind.u32.wrap ((st.b : Int) + t.b))) f1
                  have f3 := heap_setCell_same _ bS 2 _ _ (.int .u32 (IntKind.u32.wrap ((st.c : Int) + t.c))) f2
                  have f4 := heap_setCell_same _ bS 3 _ _ (.int .u32 (IntKind.u32.wrap ((st.d : Int) + t.d))) f3
                  refine Facts.pureL (i := 24) (.pointer (some ⟨bS, 0, none⟩)) #[true, true, true, true, true, true, true, true, true, true, true, true, true, true, true, true, true, true, true, true, true, true, true, true, true, false, false, false, false, false, false, false] rfl rfl (by kernel_rfl) (fun _ _ _ h => h) (by kernel_rfl) (fun _ => by kernel_rfl) ?_
                  refine Facts.lastL (i := 25) #[true, true, true, true, true, true, true, true, true, true, true, true, true, true, true, true, true, true, true, true, true, true, true, true, true, true, false, false, false, false, false, false] rfl rfl (by kernel_rfl) (by decide) (fun K hK => ?_)
                  refine Facts.OpDo.skip (by kernel_rfl) rfl (st_u32 (ad := ⟨bS, 0, none⟩) (n := IntKind.u32.wrap ((st.a : Int) + t.a)) (by kernel_rfl) (by kernel_rfl) rfl (cellAt f0 rfl) (frozen_of_row _ _ _ _ _ f0)) (hK _ _ ?_)
                  clear hK K
                  refine Facts.pureL (i := 26) (.pointer (some ⟨bS, 1, none⟩)) #[true, true, true, true, true, true, true, true, true, true, true, true, true, true, true, true, true, true, true, true, true, true, true, true, true, true, true, false, false, false, false, false] rfl rfl (by kernel_rfl) (fun _ _ _ h => h) (by kernel_rfl) (fun _ => by kernel_rfl) ?_
                  refine Facts.lastL (i := 27) #[true, true, true, true, true, true, true, true, true, true, true, true, true, true, true, true, true, true, true, true, true, true, true, true, true, true, true, true, false, false, false, false] rfl rfl (by kernel_rfl) (by decide) (fun K hK => ?_)
                  refine Facts.OpDo.skip (by kernel_rfl) rfl (st_u32 (ad := ⟨bS, 1, none⟩) (n := IntKind.u32.wrap ((st.b : Int) + t.b)) (by kernel_rfl) (by kernel_rfl) rfl (cellAt f1 rfl) (frozen_of_row _ _ _ _ _ f1)) (hK _ _ ?_)
                  clear hK K
                  refine Facts.pureL (i := 28) (.pointer (some ⟨bS, 2, none⟩)) #[true, true, true, true, true, true, true, true, true, true, true, true, true, true, true, true, true, true, true, true, true, true, true, true, true, true, true, true, true, false, false, false] rfl rfl (by kernel_rfl) (fun _ _ _ h => h) (by kernel_rfl) (fun _ => by kernel_rfl) ?_
                  refine Facts.lastL (i := 29) #[true, true, true, true, true, true, true, true, true, true, true, true, true, true, true, true, true, true, true, true, true, true, true, true, true, true, true, true, true, true, false, false] rfl rfl (by kernel_rfl) (by decide) (fun K hK => ?_)
                  refine Facts.OpDo.skip (by kernel_rfl) rfl (st_u32 (ad := ⟨bS, 2, none⟩) (n := IntKind.u32.wrap ((st.c : Int) + t.c)) (by kernel_rfl) (by kernel_rfl) rfl (cellAt f2 rfl) (frozen_of_row _ _ _ _ _ f2)) (hK _ _ ?_)
                  clear hK K
                  refine Facts.pureL (i := 30) (.pointer (some ⟨bS, 3, none⟩)) #[true, true, true, true, true, true, true, true, true, true, true, true, true, true, true, true, true, true, true, true, true, true, true, true, true, true, true, true, true, true, true, false] rfl rfl (by kernel_rfl) (fun _ _ _ h => h) (by kernel_rfl) (fun _ => by kernel_rfl) ?_
                  refine Facts.lastL (i := 31) #[true, true, true, true, true, true, true, true, true, true, true, true, true, true, true, true, true, true, true, true, true, true, true, true, true, true, true, true, true, true, true, true] rfl rfl (by kernel_rfl) (by decide) (fun K hK => ?_)
                  refine Facts.OpDo.skip (by kernel_rfl) rfl (st_u32 (ad := ⟨bS, 3, none⟩) (n := IntKind.u32.wrap ((st.d : Int) + t.d)) (by kernel_rfl) (by kernel_rfl) rfl (cellAt f3 rfl) (frozen_of_row _ _ _ _ _ f3)) (hK _ _ ?_)
                  clear hK K
                  refine Go.Proofs.YtalignlbbdeeiaaDoorW.PrintLast.done_ (by kernel_rfl) ?_
                  simp only [Act.put, List.setIfInBounds_toArray, List.set_cons_zero, List.set_cons_succ]
                  have F4 := Aside0.mk f4
                  clear f0 f1 f2 f3 f4
                  go_wp2_with (fail)
                  go_roundg (g0 - 1)
                  case measure => omega
                  case rel =>
                    have f4 := F4.out
                    simp only [IntKind.wrap_u32] at f4
                    rw [set4, ← Words_mod, ← HBK.out] at f4
                    have hE := HE5.out
                    have hAT := HAT.out
                    obtain ⟨g1, rfl⟩ : ∃ g1, g0 = g1 + 1 := ⟨g0 - 1, by omega⟩
                    rw [Md5.blocks_succ, List.drop_drop] at hE
                    refine ⟨n + 1, at_ + 64, Md5.blk st (x.drop at_), by omega, by omega, ⟨by omega⟩, by go_num, ⟨Md5.blk_ok _ _⟩, ⟨hE⟩, ⟨f4⟩, ⟨?_⟩, ⟨(((HB2.out.setCell (Nat.le_refl _) _).setCell (Nat.le_refl _) _).setCell (Nat.le_refl _) _).setCell (Nat.le_refl _) _⟩⟩
                    rw [heap_setCell_other _ _ _ _ (by simp), heap_setCell_other _ _ _ _ (by simp), heap_setCell_other _ _ _ _ (by simp), heap_setCell_other _ _ _ _ (by simp)]
                    exact HK2.out
            · obtain rfl : n = N := by omega
              have hct : decide ((at_ : Int) < (m4 : Int)) = false := by have := HAT.out; have := HML.out; simp; omega
              have hct2 : decide (at_ < m4) = false := by have := HAT.out; have := HML.out; simp; omega
              have hE : st = Md5.blocks n Md5.init x := by
                have h0 : g0 = 0 := by omega
                subst h0
                exact (Md5.blocks_zero st _).symm.trans HE5.out
              have hsum : Md5.sum l = Md5.out st := by rw [hE]; exact HSD.out
              have HSUM := Aside0.mk hsum
              clear hE hsum HE5 HSD HM4 HML HAT
              go_upto_region 32 with (fail)
              go_wp2_with (fail)
              obtain ⟨W2, hW2⟩ : ∃ W2, W2 = wr.alloc (.cells zero16 49) := ⟨_, rfl⟩
              have hO : W2.heap[wr.heap.size]? = some (.cells (outArr st 0) 49 (0, 0)) := by rw [hW2, outArr_zero]; exact heap_alloc_new _ _
              have hBW2 : Below wr.heap.size wr W2 := by rw [hW2]; exact (Below.refl _ _).alloc (Nat.le_refl _) _
              have hst : wr.alloc (.cells #[.int .u8 0, .int .u8 0, .int .u8 0, .int .u8 0, .int .u8 0, .int .u8 0, .int .u8 0, .int .u8 0, .int .u8 0, .int .u8 0, .int .u8 0, .int .u8 0, .int .u8 0, .int .u8 0, .int .u8 0, .int .u8 0] 49) = W2 := by rw [hW2]; rfl
              rw [hst]
              have hbS2 := lt_of_blk HI.out
              have HO := Aside0.mk hO
              have HW2 := Aside0.mk hBW2
              clear hst hW2 hO hBW2
              obtain ⟨bO, hbO⟩ : ∃ bO, bO = wr.heap.size := ⟨_, rfl⟩
              rw [← hbO] at HO HW2 ⊢
              have hbO1 : bS < bO := by omega
              have HbO := Aside0.mk hbO
              clear hbO
              obtain ⟨wq, rfl⟩ : ∃ wq : World, wq = wr := ⟨_, rfl⟩
              go_loopg [17] 16 (fun g v17 wx => ∃ i : Nat, i ≤ 16 ∧ g + i = 16 ∧ v17 = .int .i64 i ∧ Aside0 (wx.heap[bO]? = some (.cells (outArr st i) 49 (0, 0))) ∧ Aside0 (Below bO wq wx))
              case atStart => exact ⟨0, by omega, by omega, rfl, HO, HW2⟩
              case round =>
                clear HO HW2
                obtain ⟨i, hi, hg, rfl, HO, HW2⟩ := hrel
                have hIr : wr.heap[bS]? = some (.cells (Words st) 67 (0, 0)) := (HW2.out.block _ hbO1).trans HI.out
                by_cases hi16 : i < 16
                · have cw : wr.cell? ⟨bS, i / 4, none⟩ = some (.int .u32 (wd st (i / 4) : Nat)) := cellAt hIr (Words_at st (i / 4) (by omega))
                  have hwd := wd_lt st HS5.out (i / 4)
                  have hX : (Md5.out st).getD i 0 = Md5.outByte (wd st (i / 4)) (i % 4) := by
                    have h := out_at st (i / 4) (i % 4) (by omega) (by omega)
                    have e : 4 * (i / 4) + i % 4 = i := by omega
                    rw [e] at h
                    exact h
                  have HX := Aside0.mk hX
                  clear hX hIr
                  generalize wd st (i / 4) = xw at *
                  have hi16' : (i : Int) < 16 := by omega
                  have hq4 : (i : Int) / 4 < 4 := by omega
                  obtain ⟨v0, hv0⟩ := outArr_at st i i (by omega) (by omega)
                  have co : wr.cell? ⟨bO, i, none⟩ = some v0 := cellAt HO.out hv0
                  have cf : wr.frozen? ⟨bO, i, none⟩ = false := frozen_of_row _ _ _ _ _ HO.out
                  clear hv0
                  go_wp2_with (fail)
                  have hstep := outArr_step st i (by omega) (.int .u8 ((xw : Int) / 2 ^ (8 * (i % 4)) % 256)) (by rw [HX.out]; unfold Md5.outByte; push_cast; rfl)
                  have HST := Aside0.mk hstep
                  clear hstep
                  go_roundg (gk - 1)
                  case measure => omega
                  case rel =>
                    refine ⟨i + 1, by omega, by omega, by go_num, ⟨?_⟩, ⟨?_⟩⟩
                    · rw [heap_setCell_same _ _ _ _ _ _ HO.out, HST.out]
                    · exact HW2.out.setCell (Nat.le_refl _) _
                · obtain rfl : i = 16 := by omega
                  have hres : wr.heap[w.heap.size]? = some (.cells zero16 49 (0, 0)) := by
                    rw [HW2.out.block _ (by omega), HBW.out.block _ (by omega), H2.out.block _ (by omega)]
                    exact heap_alloc_new _ _
                  have HRES := Aside0.mk hres
                  have HALL := Aside0.mk (outArr_all st)
                  clear hres hIr
                  rw [HALL.out] at HO
                  have hoz : (List.map (Value.int .u8) (Md5.out st)).toArray.size = 16 := by simp [Md5.out_length]
                  have hone : ((List.map (Value.int .u8) (Md5.out st)).toArray.all fun x => x.oneCell') = true := by
                    rw [Array.all_eq_true_iff_forall_mem]; intro v hv; simp only [List.mem_toArray, List.mem_map] at hv; obtain ⟨y, _, rfl⟩ := hv; rfl
                  generalize (List.map (Value.int .u8) (Md5.out st)).toArray = oA at *
                  have hi24 : (Tryd.prog.info? 49).map (·.size) = some oA.size := by rw [hoz]; kernel_rfl
                  have hold : zero16.size = oA.size := by rw [hoz]; rfl
                  have HZ4 := Aside0.mk (And.intro hi24 (And.intro hold hone))
                  clear hi24 hold hone hoz
                  have hwlt : w.heap.size < wr.heap.size := lt_of_blk HRES.out
                  go_wp2_with (first | ((with_reducible refine gate_dst (N := 191) rfl ?_); refine wpList_load_row rfl 49 _ rfl bO rfl 49 oA (0, 0) _ HO.out Tryd.underlying49 rfl HZ4.out.1 ?_) | ((with_reducible refine gate_store (p := 2) rfl ?_); refine wpList_store_row rfl 49 _ _ rfl w.heap.size oA rfl rfl 49 zero16 HRES.out HZ4.out.1 HZ4.out.2.1 HZ4.out.2.2 ?_))
                  have hfin : (List.map (Value.int .u8) (Md5.sum l)).toArray = oA := by rw [HSUM.out, ← outArr_all]; exact HALL.out
                  rw [hfin]
                  refine bodyPost_ret (v := .agg oA) ?_ rfl ⟨rfl, ?_⟩
                  · exact results_cell_row (by rfl) _ _ w.heap.size 49 _ (0, 0) _ rfl (setRow_heap _ _ _ _ _ _ HRES.out) Tryd.underlying49 rfl HZ4.out.1
                  · refine Facts.below_setRow ?_ (Nat.le_refl _) _
                    have b1 : Below w.heap.size w wp := (w16_below w).trans (H2.out.mono (by omega))
                    exact (b1.trans (HBW.out.mono (by omega))).trans (HW2.out.mono (by omega))
end Go.Proofs.YtalignlbbdeeiaaDoor
