/- A word out of four bytes, the tables, a block of package digest: what each returns. Conditions: the text is bytes, of at least 64. -/
import Derived.Test.YtalignlbbdeeiaaDoorProg
import Derived.WalkKit
import Derived.WalkLawsBesides
import Derived.Outline
import Derived.LoopTactic
import Derived.Lib.Hide
import Derived.Deep.QuietTactic
import Derived.BigQuiet
import Derived.Deep.LoopGhost
import Derived.Deep.DeepCutAuto
import Derived.Deep.CutBlock
import Derived.Deep.RegionHeld3
import Derived.Deep.RegionWith
import Derived.Deep.WholeRow
import Derived.Laws.Rows
import Derived.Laws.Tables
import Derived.Laws.ResultCell
import Derived.StillTailTactics
import Derived.Deep.DeepMust
import Derived.IntWalk
import Derived.KernelRfl
import Derived.Test.YtalignlbbdeeiaaDoorWWords
import Derived.Test.YtalignlbbdeeiaaDoorWLast
import Derived.Test.YtalignlbbdeeiaaDoorWMore
import Derived.Test.YtalignlbbdeeiaaDoorDigA
namespace Go.Proofs.YtalignlbbdeeiaaDoor
open Go.RowKit
open Go.Proofs.YtalignlbbdeeiaaDoorW.PrintWords
set_option linter.unusedVariables false
set_option linter.unusedSimpArgs false

def part (l : List Int) : Nat → Nat
  | 0 => 0
  | k + 1 => part l k + 2 ^ (8 * k) * (l.getD k 0).toNat
theorem part_lt {l : List Int} (h : Md5.Bytes l) : ∀ k, part l k < 2 ^ (8 * k)
  | 0 => by simp [part]
  | k + 1 => by
    have h0 := part_lt h k
    have h1 := h.getD k
    have h2 : (l.getD k 0).toNat ≤ 255 := by omega
    have h3 : 2 ^ (8 * k) * (l.getD k 0).toNat ≤ 2 ^ (8 * k) * 255 := Nat.mul_le_mul_left _ h2
    have h4 : 2 ^ (8 * (k + 1)) = 2 ^ (8 * k) * 256 := by rw [Nat.mul_add, Nat.pow_add]
    simp only [part]
    omega
theorem part_four (l : List Int) : part l 4 = Md5.wrd l 0 := by simp [part, Md5.wrd]
theorem part_step {l : List Int} (h : Md5.Bytes l) (k : Nat) (hk : k < 4) :
    bits .or .u32 (part l k : Int) (l.getD k 0 * 2 ^ (8 * k) % 4294967296) = (part l (k + 1) : Int) := by
  have h0 := part_lt h k
  have h1 := h.getD k
  have hp : 2 ^ (8 * k) ≤ 2 ^ 24 := Nat.pow_le_pow_right (by omega) (by omega)
  have e : l.getD k 0 * 2 ^ (8 * k) % 4294967296 = ((2 ^ (8 * k) * (l.getD k 0).toNat : Nat) : Int) := by
    have h2 : (l.getD k 0).toNat ≤ 255 := by omega
    have h3 : 2 ^ (8 * k) * (l.getD k 0).toNat ≤ 2 ^ 24 * 255 := Nat.mul_le_mul hp h2
    have e1 : l.getD k 0 = ((l.getD k 0).toNat : Int) := by omega
    have e2 : l.getD k 0 * 2 ^ (8 * k) = ((2 ^ (8 * k) * (l.getD k 0).toNat : Nat) : Int) := by
      conv => lhs; rw [e1]
      push_cast; exact Int.mul_comm _ _
    rw [e2]; omega
  rw [e]
  have hn := part_lt h (k + 1)
  have hp2 : 2 ^ (8 * (k + 1)) ≤ 2 ^ 32 := Nat.pow_le_pow_right (by omega) (by omega)
  simp only [part] at hn ⊢
  rw [u32_or_nat _ _ (by omega) (by omega), Nat.or_comm, nat_join (8 * k) _ _ (by rw [Nat.mul_mod_right]) h0, Nat.add_comm]
set_option maxHeartbeats 400000 in
theorem word_any (A : Option Addr) (c : Nat) (l : List Int) (w : World) (hr : (Kd.int .u8).C w A l.length l) (hl : 4 ≤ l.length) (hb : Md5.Bytes l) :
    Calls Tryd.prog 50 #[.slice A l.length c] w fun e w' => e = .returned (.int .u32 (Md5.wrd l 0)) ∧ w = w' := by
  have HR := Lib.hid hr
  have HB := Lib.hid hb
  clear hr hb
  go_enter Tryd.func50, Tryd.ntmps50
  go_wp2
  go_loopg [3, 5] 4 (fun g v3 v5 w' => ∃ k : Nat, k ≤ 4 ∧ g + k = 4 ∧ v3 = .int .u32 (part l k) ∧ v5 = .int .i64 k ∧ w = w')
  case atStart => exact ⟨0, by omega, by omega, rfl, rfl, rfl⟩
  case round =>
    obtain ⟨k, hk, hg, rfl, rfl, rfl⟩ := hrel
    by_cases hk4 : k < 4
    · obtain ⟨ad, rfl, hc⟩ := Kd.at_int HR.out k (by omega) (by omega)
      have hk0 : (k : Int).toNat = k := by omega
      have H := Lib.hid (part_step HB.out k hk4)
      have hbk := HB.out.getD k
      have e1 : rd l k = l.getD k 0 := rfl
      rw [e1, hk0] at hc
      generalize l.getD k 0 = x at *
      clear e1
      go_wp2
      go_roundg (gk - 1)
      case measure => omega
      case rel => exact ⟨k + 1, by omega, by omega, congrArg (Value.int .u32) H.out, by go_num, rfl⟩
    · obtain rfl : k = 4 := by omega
      have H := Lib.hid (part_four l)
      go_wp2
      go_ret
      exact ⟨congrArg (fun n : Nat => Ending.returned (.int .u32 n)) H.out, rfl⟩
def addsA : Array Value := (Md5.kTab.map fun n : Nat => Value.int .u32 (n : Int)).toArray
def turnsA : Array Value := (Md5.rTab.map fun n : Nat => Value.int .i64 (n : Int)).toArray
set_option maxHeartbeats 400000 in
theorem turns_any (w : World) : Calls Tryd.prog 48 #[] w fun e w' => e = .returned (.agg turnsA) ∧ w.alloc (.cells turnsA 80) = w' := by
  go_enter Tryd.func48, Tryd.ntmps48
  go_wp2
  refine bodyPost_ret (v := .agg turnsA) ?_ rfl ⟨rfl, rfl⟩
  exact results_cell_row (by rfl) _ _ w.heap.size 80 turnsA (0, 0) _ rfl (heap_alloc_new _ _) Tryd.underlying80 rfl (by kernel_rfl)
theorem wpList_build_to {P : Program} {w : World} {ops : Array Oper} {rest : List Oper} {o : Oper} {a : Act} {Q : Exit → Act → World → Prop} (hg : o.guard = none) (t : TypeId) (parts : Array (Nat × Operand)) (ho : o.op = .build t parts) (cells : Array Value)
    (hf : P.built t (parts.map fun (i, x) => (i, a.eval x)).toList = some cells) (h : wpList P ops Q rest (a.put o.dst (.agg cells)) w) : wpList P ops Q (o :: rest) a w :=
  wpList_build hg t parts ho (by rw [hf]; rfl) (by rw [hf]; exact h)
set_option maxRecDepth 100000 in
set_option maxHeartbeats 400000 in
theorem adds_any (w : World) : Calls Tryd.prog 47 #[] w fun e w' => e = .returned (.agg addsA) ∧ w.alloc (.cells addsA 77) = w' := by
  go_enter Tryd.func47, Tryd.ntmps47
  go_wp2_with (first | ((with_reducible refine gate_dst (N := 1) rfl ?_); refine wpList_build_to rfl 77 _ rfl addsA (by kernel_rfl) ?_) | ((with_reducible refine gate_store (p := 0) rfl ?_); refine wpList_store_row rfl 77 _ _ rfl w.heap.size addsA rfl rfl 77 _ (heap_alloc_new _ _) (by kernel_rfl) rfl (by decide +kernel) ?_; rw [World.setRow_alloc_new]))
  refine bodyPost_ret (v := .agg addsA) ?_ rfl ⟨rfl, rfl⟩
  exact results_cell_row (by rfl) _ _ w.heap.size 77 addsA (0, 0) _ rfl (heap_alloc_new _ _) Tryd.underlying77 rfl (by kernel_rfl)
end Go.Proofs.YtalignlbbdeeiaaDoor
