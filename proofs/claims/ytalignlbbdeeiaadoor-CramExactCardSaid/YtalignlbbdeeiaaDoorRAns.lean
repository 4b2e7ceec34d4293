/- What the reference's Answer answers; the law CramExact. -/
import Derived.Test.YtalignlbbdeeiaaDoorProg
import Derived.WalkKit
import Derived.WalkLawsBesides
import Derived.Outline
import Derived.LoopTactic
import Derived.Lib.Hide
import Derived.Deep.QuietTactic
import Derived.BigQuiet
import Derived.Deep.LoopGhost
import Derived.Deep.DeepCutAuto
import Derived.Deep.CutBlock
import Derived.Deep.RegionHeld3
import Derived.Deep.RegionWith
import Derived.Deep.WholeRow
import Derived.Laws.Rows
import Derived.Laws.Tables
import Derived.Laws.ResultCell
import Derived.StillTailTactics
import Derived.Deep.DeepMust
import Derived.IntWalk
import Derived.KernelRfl
import Derived.Test.YtalignlbbdeeiaaDoorWWords
import Derived.Test.YtalignlbbdeeiaaDoorWLast
import Derived.Test.YtalignlbbdeeiaaDoorWMore
import Derived.RegionTactic
import Derived.Test.YtalignlbbdeeiaaDoorRDec
import Derived.Test.YtalignlbbdeeiaaDoorExact
namespace Go.Proofs.YtalignlbbdeeiaaDoor
open Go.RowKit
open Go.Proofs.YtalignlbbdeeiaaDoorW.PrintWords
set_option linter.unusedVariables false
set_option linter.unusedSimpArgs false
set_option maxRecDepth 100000 in
set_option maxHeartbeats 1000000 in
theorem rans_any (U S C E : ByteArray) (w : World) (hE : ans U S C = E) (hu : U.size ≤ 10000) (hs : S.size ≤ 10000) (hc : C.size ≤ 10000) :
    Calls Tryd.prog 12 #[.string U, .string S, .string C] w fun e w' => e = .returned (.string E) ∧ Below w.heap.size w w' := by
  obtain ⟨cp, W1, hcv⟩ := str_conv S (by omega)
  have hcr := fun w => (hcv w).1
  have HCV := Aside0.mk (fun w => (hcv w).2)
  clear hcv
  obtain ⟨cp2, W2, hcv⟩ := str_conv C (by omega)
  have hcr2 := fun w => (hcv w).1
  have HCV2 := Aside0.mk (fun w => (hcv w).2)
  clear hcv
  obtain ⟨K, hK⟩ : ∃ K, K = Md5.keyed (byt S) (byt C) := ⟨_, rfl⟩
  have hKl : K.length = 16 := by rw [hK]; exact keyed_length _ _
  have hKb : Md5.Bytes K := by rw [hK]; exact keyed_bytes _ _
  obtain ⟨oA, hoA⟩ : ∃ oA, (K.map (Value.int .u8)).toArray = oA := ⟨_, rfl⟩
  have HOK : Aside0 (((Md5.keyed (byt S) (byt C)).map (Value.int .u8)).toArray = oA) := ⟨by rw [← hK]; exact hoA⟩
  have HOA := Aside0.mk hoA
  obtain ⟨H, hH⟩ : ∃ H, hexB K = H := ⟨_, rfl⟩
  have hHs : H.size = 32 := by rw [← hH, hexB_size, hKl]
  obtain ⟨T1, hT1⟩ : ∃ T1, T1 = U ++ (⟨#[32]⟩ : ByteArray) := ⟨_, rfl⟩
  have hT1s : T1.size ≤ 10001 := by rw [hT1, ByteArray.size_append]; exact Nat.add_le_add hu (Nat.le_refl 1)
  obtain ⟨T2, hT2⟩ : ∃ T2, T2 = T1 ++ H := ⟨_, rfl⟩
  have hT2s : T2.size ≤ 10033 := by rw [hT2, ByteArray.size_append]; omega
  have ha1 : ∀ w, (Op.stringOp .add U { data := #[32] }).run Tryd.prog w = .ok (.string T1) w := by rw [hT1]; exact put_run U _ (by omega) (by decide)
  have ha2 : ∀ w, (Op.stringOp .add T1 H).run Tryd.prog w = .ok (.string T2) w := by rw [hT2]; exact put_run T1 H (by omega) (by omega)
  obtain ⟨cp3, W3, hcv⟩ := str_conv T2 (by omega)
  have hcr3 := fun w => (hcv w).1
  have HCV3 := Aside0.mk (fun w => (hcv w).2)
  clear hcv
  have hE2 : encB (byt T2) = E := by rw [hT2, hT1, ← hH, hK]; exact hE
  have HE := Aside0.mk hE2
  have HH := Aside0.mk hH
  have HKL := Aside0.mk hKl
  have HKB := Aside0.mk hKb
  clear hE hE2 hH hK hKl hKb hoA hT1 hT2
  go_enter Tryd.func12, Tryd.ntmps12
  go_upto_region 1 with (fail)
  go_cut [7] (fun v7 wc => ∃ b7 : Nat, v7 = .pointer (some ⟨b7, 0, none⟩) ∧ Aside0 (wc.heap[b7]? = some (.cells oA 49 (0, 0))) ∧ Aside0 (Below w.heap.size w wc))
  case first =>
    have hb1 := (HCV.out w).1
    have hb2 := (HCV2.out (W1 w)).1
    have hz1 := hb1.size
    have hz2 := hb2.size
    have hs1 := Kd.C_below (HCV.out w).2.1 hb2
    have hs2 := (HCV2.out (W1 w)).2.1
    have HS1 := Aside0.mk hs1
    have HS2 := Aside0.mk hs2
    have HB12 := Aside0.mk (hb1.trans (hb2.mono hz1))
    clear hs1 hs2 hb1 hb2
    go_wp2_with (first | (go_at_call 23; refine (rkeyed_at (some ⟨w.heap.size, 0, none⟩) (some ⟨(W1 w).heap.size, 0, none⟩) (cp w) (cp2 (W1 w)) S.size C.size (byt S) (byt C) oA _ (byt_length S) (byt_length C) HOK.out HS1.out (by rw [byt_length]; exact (HCV.out w).2.2.1) (byt_bytes S) (by rw [byt_length]; omega) HS2.out (byt_bytes C) (by rw [byt_length]; omega)).mono ?_; rintro e w1 ⟨rfl, h1⟩; have H1 := Aside0.mk h1; clear h1) | ((with_reducible refine gate_store (p := 7) rfl ?_); refine wpList_store_row rfl 49 _ _ rfl w1.heap.size oA rfl rfl 49 zero16 (heap_alloc_new _ _) (hi16 HOA.out HKL.out) (by rw [size16 HOA.out HKL.out]; rfl) (one16 HOA.out) ?_; rw [World.setRow_alloc_new]))
    have hsz2 := H1.out.size
    have hbw := (HB12.out.trans (H1.out.mono (by omega))).alloc (by omega) (.cells oA 49)
    have HBW := Aside0.mk hbw
    clear H1 hbw
    go_wp2_with (fail)
    go_meet
    case rel => exact ⟨w1.heap.size, rfl, ⟨heap_alloc_new _ _⟩, HBW⟩
  case rest =>
  obtain ⟨b7, rfl, H7, HB⟩ := hcut
  obtain ⟨wx, rfl⟩ : ∃ wz : World, wz = wc := ⟨_, rfl⟩
  clear HCV HCV2 hcr hcr2 W1 W2 cp cp2
  have hcb := CB16 H7.out HOA.out HKL.out
  have HCB := Aside0.mk hcb
  have hws := HB.out.size
  clear hcb
  go_wp2_with (first | (go_at_call 15; refine (hex_at (some ⟨b7, 0, none⟩) 16 16 K H wx HKL.out HH.out (by unfold CB; rw [HKL.out]; exact HCB.out) HKB.out (by rw [HKL.out]; omega)).mono ?_; rintro e w1 ⟨rfl, h1⟩; have H1 := Aside0.mk h1; have hz1 := h1.size; clear h1) | (go_at_call 13; refine (renc_at (some ⟨w1.heap.size, 0, none⟩) (cp3 w1) T2.size (byt T2) E _ (byt_length T2) HE.out (HCV3.out w1).2.1 (byt_bytes T2) (by rw [byt_length]; omega)).mono ?_; rintro e w3 ⟨rfl, rfl⟩))
  go_ret
  exact ⟨rfl, HB.out.trans ((H1.out.trans ((HCV3.out w1).1.mono hz1)).mono hws)⟩
end Go.Proofs.YtalignlbbdeeiaaDoor
