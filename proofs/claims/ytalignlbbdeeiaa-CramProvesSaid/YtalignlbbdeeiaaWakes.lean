/- The function wakes of the digest's laws answers yes. -/
import Derived.Test.YtalignlbbdeeiaaProg
import Derived.WalkKit
import Derived.WalkLawsBesides
import Derived.Outline
import Derived.LoopTactic
import Derived.Lib.Hide
import Derived.Deep.QuietTactic
import Derived.BigQuiet
import Derived.Deep.LoopGhost
import Derived.Deep.DeepCutAuto
import Derived.Deep.CutBlock
import Derived.Deep.RegionHeld3
import Derived.Deep.RegionWith
import Derived.Deep.WholeRow
import Derived.Laws.Rows
import Derived.Laws.Tables
import Derived.Laws.ResultCell
import Derived.StillTailTactics
import Derived.Deep.DeepMust
import Derived.IntWalk
import Derived.KernelRfl
import Derived.Test.YtalignlbbdeeiaaWWords
import Derived.Test.YtalignlbbdeeiaaWLast
import Derived.Test.YtalignlbbdeeiaaWMore
import Derived.RegionTactic
import Derived.Lib.SlBytesConst
import Derived.Test.YtalignlbbdeeiaaDigS
import Derived.Test.YtalignlbbdeeiaaEql
namespace Go.Proofs.Ytalignlbbdeeiaa
open Go.RowKit
open Go.Proofs.YtalignlbbdeeiaaW.PrintWords
set_option linter.unusedVariables false
set_option linter.unusedSimpArgs false
theorem CB_of_row {w : World} {b t : Nat} {fr : Nat × Nat} {l : List Int} {cs : Array Value} (h : w.heap[b]? = some (.cells cs t fr)) (hcs : cs = (l.map (Value.int .u8)).toArray) (hl : l.length ≤ 1000000) : CB w (some ⟨b, 0, none⟩) l := by
  refine ⟨rfl, by omega, fun _ => ⟨_, rfl, fun j p hp => ⟨[.int .u8 p], rfl, rfl, fun i u hu => ?_⟩⟩⟩
  have e1 : (Kd.int .u8).sz = 1 := rfl
  cases i with
  | zero =>
    obtain rfl : Value.int .u8 p = u := by simpa using hu
    rw [e1, add_plain, cell_of_row w b _ _ _ _ h, hcs]
    simp [hp]
  | succ i => simp at hu
theorem cell16 {w : World} {b : Nat} {S : List Int} {oA : Array Value} {fr : Nat × Nat} (h : w.heap[b]? = some (.cells oA 24 fr)) (ho : (List.map (Value.int .u8) S).toArray = oA) (hS : S.length = 16) (i : Nat) (hi : i < 16) : w.cell? ⟨b, i, none⟩ = some (.int .u8 (S.getD i 0)) := by
  rw [cell_of_row w b _ _ _ _ h, ← ho]
  simp [List.getD_eq_getElem?_getD, hS, hi]
set_option maxRecDepth 100000 in
set_option maxHeartbeats 4000000 in
theorem wakes_any (w : World) : Calls Try.prog 14 #[] w fun e w' => e = .returned (.bool true) ∧ Below w.heap.size w w' := by
  obtain ⟨S, hS⟩ : ∃ S, S = Md5.sum [97, 98, 99] := ⟨_, rfl⟩
  have hlen : S.length = 16 := by rw [hS]; exact Md5.sum_length _
  have hk := Md5.known_abc
  rw [← hS] at hk
  obtain ⟨k0, k1, k14, k15⟩ := hk
  obtain ⟨oA, hoA⟩ : ∃ oA, (List.map (Value.int .u8) S).toArray = oA := ⟨_, rfl⟩
  have HS := Aside0.mk hS
  have HLEN := Aside0.mk hlen
  have HOA := Aside0.mk hoA
  have HK := Aside0.mk (And.intro k0 (And.intro k1 (And.intro k14 k15)))
  have hcv := Lib.run_convert_bytes_const (P := Try.prog) w 22 5 #[.int .u8 97, .int .u8 98, .int .u8 99] 3 3 Try.underlying22 Try.underlying5
  clear hS hlen hoA k0 k1 k14 k15
  have HB : ∀ w : World, CB (w.alloc (.cells #[.int .u8 97, .int .u8 98, .int .u8 99] 5 (3, 4))) (some ⟨w.heap.size, 0, none⟩) [97, 98, 99] := fun w => CB_of_row (heap_alloc_new _ _) rfl (by simp)
  have hbs : Md5.Bytes [97, 98, 99] := by intro x hx; simp at hx; omega
  have HBS := Aside0.mk hbs
  clear hbs
  go_enter Try.func14, Try.ntmps14
  go_upto_region 1 with (fail)
  go_cut [1] (fun v1 wc => ∃ b : Nat, v1 = .pointer (some ⟨b, 0, none⟩) ∧ w.heap.size ≤ b ∧ Aside0 (wc.heap[b]? = some (.cells oA 24 (0, 0))) ∧ Aside0 (Below w.heap.size w wc))
  case first =>
    go_wp2_with (first | (go_at_call 9; refine (sum_at (some ⟨w.heap.size, 0, none⟩) 3 3 [97, 98, 99] S _ rfl HS.out (HB w) (by simp) HBS.out (by simp)).mono ?_; rintro e w1 ⟨rfl, h1⟩; rw [HOA.out]; have H1 := Aside0.mk h1; clear h1) | ((with_reducible refine gate_store (p := 1) rfl ?_); refine wpList_store_row rfl 24 _ _ rfl w1.heap.size oA rfl rfl 24 zero16 (heap_alloc_new _ _) (hi16 HOA.out HLEN.out) (by rw [size16 HOA.out HLEN.out]; rfl) (one16 HOA.out) ?_; rw [World.setRow_alloc_new]))
    have hb : Below w.heap.size w w1 := ((Below.refl _ _).alloc (Nat.le_refl _) _).trans (H1.out.mono (by simp))
    have hsz := hb.size
    have HBW := Aside0.mk (hb.alloc hsz (.cells oA 24))
    clear H1
    go_wp2_with (fail)
    go_meet
    case rel => exact ⟨w1.heap.size, rfl, hsz, ⟨heap_alloc_new _ _⟩, HBW⟩
  case rest =>
    obtain ⟨b, rfl, hb, HC, HD⟩ := hcut
    have c0 := cell16 HC.out HOA.out HLEN.out 0 (by omega)
    have c1 := cell16 HC.out HOA.out HLEN.out 1 (by omega)
    have c14 := cell16 HC.out HOA.out HLEN.out 14 (by omega)
    have c15 := cell16 HC.out HOA.out HLEN.out 15 (by omega)
    rw [HK.out.1] at c0
    rw [HK.out.2.1] at c1
    rw [HK.out.2.2.1] at c14
    rw [HK.out.2.2.2] at c15
    clear HB
    go_wp2_with (fail)
    go_ret
    exact ⟨rfl, HD.out⟩
end Go.Proofs.Ytalignlbbdeeiaa
