/- The leaves of package digest and of the reference's sum: what each returns. Conditions: words below 2^32, rounds below 64. -/
import Derived.Test.YtalignlbbdeeiaaDoorProg
import Derived.WalkKit
import Derived.WalkLawsBesides
import Derived.Outline
import Derived.LoopTactic
import Derived.Lib.Hide
import Derived.Deep.QuietTactic
import Derived.BigQuiet
import Derived.Deep.LoopGhost
import Derived.Deep.DeepCutAuto
import Derived.Deep.CutBlock
import Derived.Deep.RegionHeld3
import Derived.Deep.RegionWith
import Derived.Deep.WholeRow
import Derived.Laws.Rows
import Derived.Laws.Tables
import Derived.Laws.ResultCell
import Derived.StillTailTactics
import Derived.Deep.DeepMust
import Derived.IntWalk
import Derived.KernelRfl
import Derived.Test.YtalignlbbdeeiaaDoorWWords
import Derived.Test.YtalignlbbdeeiaaDoorWLast
import Derived.Test.YtalignlbbdeeiaaDoorWMore
import Derived.Test.YtalignlbbdeeiaaDoorMd5
namespace Go.Proofs.YtalignlbbdeeiaaDoor
open Go.RowKit
open Go.Proofs.YtalignlbbdeeiaaDoorW.PrintWords
set_option linter.unusedVariables false
set_option linter.unusedSimpArgs false

theorem and31 (k : Nat) (hk : k < 32) : bits .and .u64 (k : Int) 31 = (k : Int) := by
  have h := u64_and_nat k 31 (by omega) (by omega)
  have e : k &&& 31 = k := by rw [Nat.and_two_pow_sub_one_eq_mod k 5]; omega
  rw [e] at h; exact h
theorem rot_bits (x k : Nat) (hx : x < 4294967296) : bits .or .u32 ((x : Int) * 2 ^ k % 4294967296) ((x : Int) / 2 ^ (32 - k)) = (Md5.rot x k : Int) := by
  have h := u32_or_nat (x * 2 ^ k % 4294967296) (x / 2 ^ (32 - k)) (by omega) (Nat.lt_of_le_of_lt (Nat.div_le_self _ _) (by omega))
  unfold Md5.rot
  rw [← h]; congr 1

set_option maxHeartbeats 400000 in
theorem rotl_any (x k : Nat) (w : World) (hk : k < 32) (h0 : 0 < k) (hx : x < 4294967296) :
    Calls Tryd.prog 51 #[.int .u32 x, .int .i64 k] w fun e w' => e = .returned (.int .u32 (Md5.rot x k)) ∧ w = w' := by
  have e := and31 k hk
  have HR := Lib.hid (rot_bits x k hx)
  have e2 : ((32 : Int) - k).toNat = 32 - k := by omega
  go_enter Tryd.func51, Tryd.ntmps51
  go_wp2
  go_ret
  exact ⟨congrArg (fun n => Ending.returned (.int .u32 n)) HR.out, rfl⟩

theorem two_ints {k j : IntKind} {a b c d : Int} (h : a = b) (h' : c = d) : Ending.returned (.tuple #[.int k a, .int j c]) = Ending.returned (.tuple #[.int k b, .int j d]) := by rw [h, h']
theorem maxu32 : IntKind.u32.max = ((4294967295 : Nat) : Int) := by decide
theorem not_bits (b : Nat) (hb : b < 4294967296) : bits .xor .u32 IntKind.u32.max (b : Int) = ((4294967295 ^^^ b : Nat) : Int) := by
  rw [maxu32]; exact u32_xor_nat 4294967295 b (by omega) hb
theorem not_lt (b : Nat) (hb : b < 4294967296) : 4294967295 ^^^ b < 4294967296 := Nat.xor_lt_two_pow (n := 32) (by omega) (by omega)
theorem and_lt (a b : Nat) (hb : b < 4294967296) : a &&& b < 4294967296 := Nat.lt_of_le_of_lt Nat.and_le_right hb
theorem F0 (i b c d : Nat) (hi : i / 16 = 0) (hb : b < 4294967296) (hc : c < 4294967296) (hd : d < 4294967296) :
    bits .or .u32 (bits .and .u32 (b : Int) (c : Int)) (bits .and .u32 (bits .xor .u32 IntKind.u32.max (b : Int)) (d : Int)) = (Md5.F i b c d : Int) := by
  rw [not_bits b hb, u32_and_nat b c hb hc, u32_and_nat _ d (not_lt b hb) hd, u32_or_nat _ _ (and_lt _ _ hc) (and_lt _ _ hd)]
  unfold Md5.F; rw [if_pos hi]
theorem F1a (i b c d : Nat) (hi : i / 16 = 1) (hb : b < 4294967296) (hc : c < 4294967296) (hd : d < 4294967296) :
    bits .or .u32 (bits .and .u32 (b : Int) (d : Int)) (bits .andNot .u32 (c : Int) (d : Int)) = (Md5.F i b c d : Int) := by
  rw [u32_and_nat b d hb hd, u32_andNot_nat c d hc hd, u32_or_nat _ _ (and_lt _ _ hd) (and_lt _ _ (by omega)), Md5.F_one i b c d hi hd]
theorem F1b (i b c d : Nat) (hi : i / 16 = 1) (hb : b < 4294967296) (hc : c < 4294967296) (hd : d < 4294967296) :
    bits .or .u32 (bits .and .u32 (d : Int) (b : Int)) (bits .and .u32 (bits .xor .u32 IntKind.u32.max (d : Int)) (c : Int)) = (Md5.F i b c d : Int) := by
  rw [not_bits d hd, u32_and_nat d b hd hb, u32_and_nat _ c (not_lt d hd) hc, u32_or_nat _ _ (and_lt _ _ hb) (and_lt _ _ hc)]
  unfold Md5.F; rw [if_neg (by omega), if_pos hi]
theorem F2 (i b c d : Nat) (hi : i / 16 = 2) (hb : b < 4294967296) (hc : c < 4294967296) (hd : d < 4294967296) :
    bits .xor .u32 (bits .xor .u32 (b : Int) (c : Int)) (d : Int) = (Md5.F i b c d : Int) := by
  rw [u32_xor_nat b c hb hc, u32_xor_nat _ d (Nat.xor_lt_two_pow (n := 32) (by omega) (by omega)) hd]
  unfold Md5.F; rw [if_neg (by omega), if_neg (by omega), if_pos hi]
theorem F3 (i b c d : Nat) (h0 : ¬ i / 16 = 0) (h1 : ¬ i / 16 = 1) (h2 : ¬ i / 16 = 2) (hb : b < 4294967296) (hc : c < 4294967296) (hd : d < 4294967296) :
    bits .xor .u32 (c : Int) (bits .or .u32 (b : Int) (bits .xor .u32 IntKind.u32.max (d : Int))) = (Md5.F i b c d : Int) := by
  rw [not_bits d hd, u32_or_nat b _ hb (not_lt d hd), u32_xor_nat c _ hc (Nat.or_lt_two_pow (n := 32) (by omega) (not_lt d hd))]
  unfold Md5.F; rw [if_neg h0, if_neg h1, if_neg h2]
def Words (s : Md5.St) : Array Value := #[.int .u32 s.a, .int .u32 s.b, .int .u32 s.c, .int .u32 s.d]
set_option maxHeartbeats 800000 in
theorem mix_any (s : Md5.St) (i : Nat) (w : World) (hi : i < 64) (hs : s.ok) :
    Calls Tryd.prog 49 #[.agg #[.int .u32 s.a, .int .u32 s.b, .int .u32 s.c, .int .u32 s.d], .int .i64 i] w fun e w' => e = .returned (.tuple #[.int .u32 (Md5.F i s.b s.c s.d), .int .i64 (Md5.G i)]) ∧ w.alloc (.cells #[.int .u32 s.a, .int .u32 s.b, .int .u32 s.c, .int .u32 s.d] 73) = w' := by
  obtain ⟨a, b, c, d⟩ := s
  obtain ⟨ha, hb, hc, hd⟩ := hs
  simp only at ha hb hc hd ⊢
  by_cases h0 : i / 16 = 0
  · have H := Lib.hid (F0 i b c d h0 hb hc hd)
    have hG := Lib.hid (show ((i : Nat) : Int) = Md5.G i by unfold Md5.G; rw [if_pos h0])
    have c0 : ((i : Int) / 16 == 0) = true := by rw [beq_iff_eq]; omega
    clear h0
    go_enter Tryd.func49, Tryd.ntmps49
    go_wp2
    go_ret2
    exact ⟨two_ints H.out hG.out, rfl⟩
  by_cases h1 : i / 16 = 1
  · have H := Lib.hid (F1a i b c d h1 hb hc hd)
    have hG := Lib.hid (show (5 * (i : Int) + 1) % 16 = Md5.G i by unfold Md5.G; rw [if_neg h0, if_pos h1]; omega)
    have c0 : ((i : Int) / 16 == 0) = false := by rw [beq_eq_false_iff_ne]; omega
    have c1 : ((i : Int) / 16 == 1) = true := by rw [beq_iff_eq]; omega
    clear h0 h1
    go_enter Tryd.func49, Tryd.ntmps49
    go_wp2
    go_ret2
    exact ⟨two_ints H.out hG.out, rfl⟩
  by_cases h2 : i / 16 = 2
  · have H := Lib.hid (F2 i b c d h2 hb hc hd)
    have hG := Lib.hid (show (3 * (i : Int) + 5) % 16 = Md5.G i by unfold Md5.G; rw [if_neg h0, if_neg h1, if_pos h2]; omega)
    have c0 : ((i : Int) / 16 == 0) = false := by rw [beq_eq_false_iff_ne]; omega
    have c1 : ((i : Int) / 16 == 1) = false := by rw [beq_eq_false_iff_ne]; omega
    have c2 : ((i : Int) / 16 == 2) = true := by rw [beq_iff_eq]; omega
    clear h0 h1 h2
    go_enter Tryd.func49, Tryd.ntmps49
    go_wp2
    go_ret2
    exact ⟨two_ints H.out hG.out, rfl⟩
  · have H := Lib.hid (F3 i b c d h0 h1 h2 hb hc hd)
    have hG := Lib.hid (show 7 * (i : Int) % 16 = Md5.G i by unfold Md5.G; rw [if_neg h0, if_neg h1, if_neg h2]; omega)
    have c0 : ((i : Int) / 16 == 0) = false := by rw [beq_eq_false_iff_ne]; omega
    have c1 : ((i : Int) / 16 == 1) = false := by rw [beq_eq_false_iff_ne]; omega
    have c2 : ((i : Int) / 16 == 2) = false := by rw [beq_eq_false_iff_ne]; omega
    clear h0 h1 h2
    go_enter Tryd.func49, Tryd.ntmps49
    go_wp2
    go_ret2
    exact ⟨two_ints H.out hG.out, rfl⟩
end Go.Proofs.YtalignlbbdeeiaaDoor
