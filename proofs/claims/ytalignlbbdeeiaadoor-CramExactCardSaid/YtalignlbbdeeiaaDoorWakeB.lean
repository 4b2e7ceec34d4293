/- The wakes of wherrylaw10; its digit. -/
import Derived.Test.YtalignlbbdeeiaaDoorProg
import Derived.WalkKit
import Derived.WalkLawsBesides
import Derived.Outline
import Derived.LoopTactic
import Derived.Lib.Hide
import Derived.Deep.QuietTactic
import Derived.BigQuiet
import Derived.Deep.LoopGhost
import Derived.Deep.DeepCutAuto
import Derived.Deep.CutBlock
import Derived.Deep.RegionHeld3
import Derived.Deep.RegionWith
import Derived.Deep.WholeRow
import Derived.Laws.Rows
import Derived.Laws.Tables
import Derived.Laws.ResultCell
import Derived.StillTailTactics
import Derived.Deep.DeepMust
import Derived.IntWalk
import Derived.KernelRfl
import Derived.Test.YtalignlbbdeeiaaDoorWWords
import Derived.Test.YtalignlbbdeeiaaDoorWLast
import Derived.Test.YtalignlbbdeeiaaDoorWMore
import Derived.RegionTactic
import Derived.Test.YtalignlbbdeeiaaDoorAns
namespace Go.Proofs.YtalignlbbdeeiaaDoor
open Go.RowKit
open Go.Proofs.YtalignlbbdeeiaaDoorW.PrintWords
set_option linter.unusedVariables false
set_option linter.unusedSimpArgs false
def timU : ByteArray := { data := #[116, 105, 109] }
def timS : ByteArray := { data := #[116, 97, 110, 115, 116, 97, 97, 102, 116, 97, 110, 115, 116, 97, 97, 102] }
def timC : ByteArray := { data := #[60, 49, 56, 57, 54, 46, 54, 57, 55, 49, 55, 48, 57, 53, 50, 64, 112, 111, 115, 116, 111, 102, 102, 105, 99, 101, 46, 114, 101, 115, 116, 111, 110, 46, 109, 99, 105, 46, 110, 101, 116, 62] }
theorem known_tim : (ans timU timS timC).data.toList = [100, 71, 108, 116, 73, 71, 73, 53, 77, 84, 78, 104, 78, 106, 65, 121, 89, 122, 100, 108, 90, 71, 69, 51, 89, 84, 81, 53, 78, 87, 73, 48, 90, 84, 90, 108, 78, 122, 77, 122, 78, 71, 81, 122, 79, 68, 107, 119] := by decide +kernel
theorem known_a : (encB [97]).data.toList = [89, 81, 61, 61] := by decide +kernel
theorem known_ab : (hexB [171]).data.toList = [97, 98] := by decide +kernel
theorem ba_eq {a b : ByteArray} (h : a.data.toList = b.data.toList) : a = b := ByteArray.ext (Array.toList_inj.1 h)
set_option maxRecDepth 100000 in
set_option maxHeartbeats 4000000 in
theorem wakesB_any (w : World) : Calls Tryd.prog 9 #[] w fun e w' => e = .returned (.bool true) ∧ Below w.heap.size w w' := by
  obtain ⟨E1, hE1⟩ : ∃ E, ans timU timS timC = E := ⟨_, rfl⟩
  obtain ⟨E2, hE2⟩ : ∃ E, encB [97] = E := ⟨_, rfl⟩
  obtain ⟨E3, hE3⟩ : ∃ E, hexB [171] = E := ⟨_, rfl⟩
  have q1 : (E1.toList == ([100, 71, 108, 116, 73, 71, 73, 53, 77, 84, 78, 104, 78, 106, 65, 121, 89, 122, 100, 108, 90, 71, 69, 51, 89, 84, 81, 53, 78, 87, 73, 48, 90, 84, 90, 108, 78, 122, 77, 122, 78, 71, 81, 122, 79, 68, 107, 119] : List UInt8)) = true := by
    rw [beq_iff_eq, ByteArray.toList_eq, ← hE1]; exact known_tim
  have q2 : (E2.toList == ([89, 81, 61, 61] : List UInt8)) = true := by
    rw [beq_iff_eq, ByteArray.toList_eq, ← hE2]; exact known_a
  have q3 : (E3.toList == ([97, 98] : List UInt8)) = true := by
    rw [beq_iff_eq, ByteArray.toList_eq, ← hE3]; exact known_ab
  have HE1 := Aside0.mk hE1
  have HE2 := Aside0.mk hE2
  have HE3 := Aside0.mk hE3
  clear hE1 hE2 hE3
  have hcv := fun w => Lib.run_convert_bytes_const (P := Tryd.prog) w 22 5 #[.int .u8 97] 1 1 Tryd.underlying22 Tryd.underlying5
  have HCa : ∀ w : World, CB (w.alloc (.cells #[.int .u8 97] 5 (1, 2))) (some ⟨w.heap.size, 0, none⟩) [97] := fun w => CB_of_row (heap_alloc_new _ _) rfl (by simp)
  have HCb : ∀ w : World, CB (w.alloc (.cells #[.int .u8 171] 5)) (some ⟨w.heap.size, 0, none⟩) [171] := fun w => CB_of_row (heap_alloc_new _ _) rfl (by simp)
  have hb1 : Md5.Bytes [97] := by intro x hx; simp at hx; omega
  have hb2 : Md5.Bytes [171] := by intro x hx; simp at hx; omega
  have HB1 := Aside0.mk hb1
  have HB2 := Aside0.mk hb2
  have HCA := Aside0.mk HCa
  have HCB := Aside0.mk HCb
  clear hb1 hb2 HCa HCb
  go_enter Tryd.func9, Tryd.ntmps9
  go_wp2_with (first | (go_at_call 16; refine (cans_any timU timS timC E1 w HE1.out (by decide) (by decide) (by decide)).mono ?_; rintro e w1 ⟨rfl, h1⟩; have H1 := Aside0.mk h1; clear h1) | (go_at_call 6; refine (cenc_at (some ⟨w1.heap.size, 0, none⟩) 1 1 [97] E2 _ rfl HE2.out (HCA.out w1) HB1.out (by simp) (by simp)).mono ?_; rintro e w2 ⟨rfl, h2⟩; have H2 := Aside0.mk h2; clear h2) | (go_at_call 14; refine (chex_at (some ⟨w2.heap.size, 0, none⟩) 1 1 [171] E3 _ rfl HE3.out (HCB.out w2) HB2.out (by simp)).mono ?_; rintro e w3 ⟨rfl, h3⟩; have H3 := Aside0.mk h3; clear h3))
  go_ret
  have z1 := H1.out.size
  have b2 : Below w1.heap.size w1 w2 := ((Below.refl _ _).alloc (Nat.le_refl _) _).trans (H2.out.mono (by simp))
  have b3 : Below w2.heap.size w2 w3 := ((Below.refl _ _).alloc (Nat.le_refl _) _).trans (H3.out.mono (by simp))
  exact ⟨rfl, H1.out.trans ((b2.trans (b3.mono b2.size)).mono z1)⟩
end Go.Proofs.YtalignlbbdeeiaaDoor
