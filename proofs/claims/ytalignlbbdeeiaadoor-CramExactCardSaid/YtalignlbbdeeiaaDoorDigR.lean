/- The reference's words, turns and sines. -/
import Derived.Test.YtalignlbbdeeiaaDoorProg
import Derived.WalkKit
import Derived.WalkLawsBesides
import Derived.Outline
import Derived.LoopTactic
import Derived.Lib.Hide
import Derived.Deep.QuietTactic
import Derived.BigQuiet
import Derived.Deep.LoopGhost
import Derived.Deep.DeepCutAuto
import Derived.Deep.CutBlock
import Derived.Deep.RegionHeld3
import Derived.Deep.RegionWith
import Derived.Deep.WholeRow
import Derived.Laws.Rows
import Derived.Laws.Tables
import Derived.Laws.ResultCell
import Derived.StillTailTactics
import Derived.Deep.DeepMust
import Derived.IntWalk
import Derived.KernelRfl
import Derived.Test.YtalignlbbdeeiaaDoorWWords
import Derived.Test.YtalignlbbdeeiaaDoorWLast
import Derived.Test.YtalignlbbdeeiaaDoorWMore
import Derived.Test.YtalignlbbdeeiaaDoorDigE
namespace Go.Proofs.YtalignlbbdeeiaaDoor
open Go.RowKit
open Go.Proofs.YtalignlbbdeeiaaDoorW.PrintWords
set_option linter.unusedVariables false
set_option linter.unusedSimpArgs false
theorem or4 (x0 x1 x2 x3 : Int) (b0 : 0 ≤ x0 ∧ x0 < 256) (b1 : 0 ≤ x1 ∧ x1 < 256) (b2 : 0 ≤ x2 ∧ x2 < 256) (b3 : 0 ≤ x3 ∧ x3 < 256) :
    bits .or .u32 (bits .or .u32 (bits .or .u32 x0 (x1 * 256)) (x2 * 65536)) (x3 * 16777216) = ((x0.toNat + 256 * x1.toNat + 65536 * x2.toNat + 16777216 * x3.toNat : Nat) : Int) := by
  obtain ⟨n0, rfl⟩ := Int.eq_ofNat_of_zero_le b0.1
  obtain ⟨n1, rfl⟩ := Int.eq_ofNat_of_zero_le b1.1
  obtain ⟨n2, rfl⟩ := Int.eq_ofNat_of_zero_le b2.1
  obtain ⟨n3, rfl⟩ := Int.eq_ofNat_of_zero_le b3.1
  have e1 : (n1 : Int) * 256 = ((256 * n1 : Nat) : Int) := by omega
  have e2 : (n2 : Int) * 65536 = ((65536 * n2 : Nat) : Int) := by omega
  have e3 : (n3 : Int) * 16777216 = ((16777216 * n3 : Nat) : Int) := by omega
  have o1 : n0 ||| 256 * n1 = n0 + 256 * n1 := by rw [Nat.or_comm, nat_join 8 _ _ (by omega) (by omega), Nat.add_comm]
  have o2 : (n0 + 256 * n1) ||| 65536 * n2 = n0 + 256 * n1 + 65536 * n2 := by rw [Nat.or_comm, nat_join 16 _ _ (by omega) (by omega), Nat.add_comm]
  have o3 : (n0 + 256 * n1 + 65536 * n2) ||| 16777216 * n3 = n0 + 256 * n1 + 65536 * n2 + 16777216 * n3 := by rw [Nat.or_comm, nat_join 24 _ _ (by omega) (by omega), Nat.add_comm]
  rw [e1, e2, e3, u32_or_nat _ _ (by omega) (by omega), o1, u32_or_nat _ _ (by omega) (by omega), o2, u32_or_nat _ _ (by omega) (by omega), o3]
  simp
set_option maxHeartbeats 800000 in
theorem rword_any (A : Option Addr) (c n : Nat) (l : List Int) (k : Nat) (w : World) (hn : l.length = n) (hr : CB w A l) (hk : k + 4 ≤ l.length) (hb : Md5.Bytes l) (hl : l.length ≤ 1000000) :
    Calls Tryd.prog 40 #[.slice A n c, .int .i64 k] w fun e w' => e = .returned (.int .u32 (Md5.wrd l k)) ∧ ∃ n, w' = w.drewN n := by
  subst hn
  obtain ⟨ad, rfl, c0⟩ := Kd.at_int hr k (by omega) (by omega)
  obtain ⟨ad1, h1, c1⟩ := Kd.at_int hr (k + 1 : Nat) (by omega) (by omega)
  obtain ⟨ad2, h2, c2⟩ := Kd.at_int hr (k + 2 : Nat) (by omega) (by omega)
  obtain ⟨ad3, h3, c3⟩ := Kd.at_int hr (k + 3 : Nat) (by omega) (by omega)
  obtain rfl := Option.some.inj h1
  obtain rfl := Option.some.inj h2
  obtain rfl := Option.some.inj h3
  clear h1 h2 h3 hr
  have e0 : rd l k = l.getD k 0 := rfl
  have e1 : rd l (k + 1 : Nat) = l.getD (k + 1) 0 := rfl
  have e2 : rd l (k + 2 : Nat) = l.getD (k + 2) 0 := rfl
  have e3 : rd l (k + 3 : Nat) = l.getD (k + 3) 0 := rfl
  rw [e0, Int.toNat_natCast] at c0
  rw [e1, Int.toNat_natCast] at c1
  rw [e2, Int.toNat_natCast] at c2
  rw [e3, Int.toNat_natCast] at c3
  clear e0 e1 e2 e3
  have a1 : ad.add (k + 1) = ⟨ad.block, ad.off + (k + 1), none⟩ := by simp [Addr.add]
  have a2 : ad.add (k + 2) = ⟨ad.block, ad.off + (k + 2), none⟩ := by simp [Addr.add]
  have a3 : ad.add (k + 3) = ⟨ad.block, ad.off + (k + 3), none⟩ := by simp [Addr.add]
  rw [a1] at c1
  rw [a2] at c2
  rw [a3] at c3
  clear a1 a2 a3
  have b0 := hb.getD k
  have b1 := hb.getD (k + 1)
  have b2 := hb.getD (k + 2)
  have b3 := hb.getD (k + 3)
  have HW : Aside0 (Md5.wrd l k = (l.getD k 0).toNat + 256 * (l.getD (k + 1) 0).toNat + 65536 * (l.getD (k + 2) 0).toNat + 16777216 * (l.getD (k + 3) 0).toNat) := ⟨rfl⟩
  generalize l.getD k 0 = x0 at *
  generalize l.getD (k + 1) 0 = x1 at *
  generalize l.getD (k + 2) 0 = x2 at *
  generalize l.getD (k + 3) 0 = x3 at *
  have i1 : IntKind.i64.wrap ((k : Int) + 1) = (k : Int) + 1 := IntWalk.i64_in _ (by omega)
  have i2 : IntKind.i64.wrap ((k : Int) + 2) = (k : Int) + 2 := IntWalk.i64_in _ (by omega)
  have i3 : IntKind.i64.wrap ((k : Int) + 3) = (k : Int) + 3 := IntWalk.i64_in _ (by omega)
  have j0 : (k : Int) < (l.length : Int) := by omega
  have j1 : (k : Int) + 1 < (l.length : Int) := by omega
  have j2 : (k : Int) + 2 < (l.length : Int) := by omega
  have j3 : (k : Int) + 3 < (l.length : Int) := by omega
  have p1 : 0 ≤ (k : Int) + 1 := by omega
  have p2 : 0 ≤ (k : Int) + 2 := by omega
  have p3 : 0 ≤ (k : Int) + 3 := by omega
  have t1 : ((k : Int) + 1).toNat = k + 1 := by omega
  have t2 : ((k : Int) + 2).toNat = k + 2 := by omega
  have t3 : ((k : Int) + 3).toNat = k + 3 := by omega
  have w0 : IntKind.u32.wrap x0 = x0 := by rw [IntKind.wrap_u32]; omega
  have w1 : IntKind.u32.wrap x1 = x1 := by rw [IntKind.wrap_u32]; omega
  have w2 : IntKind.u32.wrap x2 = x2 := by rw [IntKind.wrap_u32]; omega
  have w3 : IntKind.u32.wrap x3 = x3 := by rw [IntKind.wrap_u32]; omega
  go_enter Tryd.func40, Tryd.ntmps40
  go_wp2_with (fail)
  go_quiet (fail)
  go_wp2
  go_ret
  refine ⟨congrArg (fun n => Ending.returned (.int .u32 n)) ?_, _, rfl⟩
  rw [HW.out]
  exact or4 x0 x1 x2 x3 b0 b1 b2 b3
set_option maxHeartbeats 800000 in
theorem rsines_any (w : World) : Calls Tryd.prog 39 #[] w fun e w' => e = .returned (.slice (some ⟨w.heap.size, 0, none⟩) 64 64) ∧ w.alloc (.cells addsA 67) = w' := by
  go_enter Tryd.func39, Tryd.ntmps39
  go_wp2_with (first | ((with_reducible refine gate_dst (N := 1) rfl ?_); refine Kd.event_run rfl (v := .slice (some ⟨w.heap.size, 0, none⟩) 64 64) (w1 := w.alloc (.cells addsA 67)) (by kernel_rfl) ?_))
  go_ret
  exact ⟨rfl, rfl⟩
def turnsU : Array Value := (Md5.rTab.map fun n : Nat => Value.int .u64 (n : Int)).toArray
set_option maxHeartbeats 800000 in
theorem rturns_any (i : Nat) (hi : i < 64) (w : World) : Calls Tryd.prog 41 #[.int .i64 i] w fun e w' => e = .returned (.int .u64 (Md5.rTab.getD (i / 16 * 4 + i % 4) 0 : Nat)) ∧ Below w.heap.size w w' := by
  go_enter Tryd.func41, Tryd.ntmps41
  have hcell : (w.alloc (.cells turnsU 32)).cell? ⟨w.heap.size, i / 16 * 4 + i % 4, none⟩ = some (.int .u64 (Md5.rTab.getD (i / 16 * 4 + i % 4) 0 : Nat)) := by
    have h : i / 16 * 4 + i % 4 < Md5.rTab.length := by show _ < 16; omega
    rw [cell_of_row _ _ _ _ _ _ (heap_alloc_new _ _)]
    simp only [turnsU, List.getElem?_toArray, List.getElem?_map, List.getD_eq_getElem?_getD, List.getElem?_eq_getElem h, Option.map_some, Option.getD_some]
  generalize Md5.rTab.getD (i / 16 * 4 + i % 4) 0 = rv at *
  go_wp2_with (first | ((with_reducible refine gate_dst (N := 4) rfl ?_); refine Kd.event_run rfl (v := .slice (some ⟨w.heap.size, 0, none⟩) 16 16) (w1 := w.alloc (.cells turnsU 32)) (by kernel_rfl) ?_))
  go_ret
  exact ⟨rfl, (Below.refl _ _).alloc (Nat.le_refl _) _⟩
end Go.Proofs.YtalignlbbdeeiaaDoor
