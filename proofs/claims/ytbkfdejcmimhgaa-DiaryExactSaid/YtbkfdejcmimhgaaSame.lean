/- The reference's comparisons, of a thing with itself. -/
import Derived.Test.YtbkfdejcmimhgaaProg
import Derived.WalkKit
import Derived.WalkLawsBesides
import Derived.Outline
import Derived.LoopTactic
import Derived.Lib.Hide
import Derived.Deep.QuietTactic
import Derived.BigQuiet
import Derived.Deep.LoopGhost
import Derived.Deep.DeepCutAuto
import Derived.Deep.CutBlock
import Derived.Deep.RegionHeld3
import Derived.Deep.RegionWith
import Derived.Deep.WholeRow
import Derived.Laws.Rows
import Derived.Laws.Tables
import Derived.Laws.ResultCell
import Derived.StillTailTactics
import Derived.Deep.DeepMust
import Derived.IntWalk
import Derived.KernelRfl
import Derived.Test.YtbkfdejcmimhgaaVa
import Derived.Test.YtbkfdejcmimhgaaHeavy
import Derived.Test.YtbkfdejcmimhgaaVb
import Derived.Test.YtbkfdejcmimhgaaVc
import Derived.Test.YtbkfdejcmimhgaaVd
namespace Go.Proofs.Ytbkfdejcmimhgaa
open Go.RowKit Go.Proofs.YtbkfdejcmimhgaaW.PrintWords Go.Proofs.Ytbkfdejcmimhgaa.PDiaryExact
set_option linter.unusedVariables false
set_option linter.unusedSimpArgs false
theorem bytes_l0 (l : List Int) (hl : l.length ≤ 1000000) : ∀ (d i k : Nat), d = l.length - i → i ≤ l.length → d < k → wherrykeep_Bytes.l0 k l l i = some true := by
  intro d
  induction d with
  | zero =>
    intro i k hd hi hk
    obtain ⟨k, rfl⟩ : ∃ j, k = j + 1 := ⟨k - 1, by omega⟩
    simp only [wherrykeep_Bytes.l0]
    rw [if_neg (by omega)]
  | succ d ih =>
    intro i k hd hi hk
    obtain ⟨k, rfl⟩ : ∃ j, k = j + 1 := ⟨k - 1, by omega⟩
    simp only [wherrykeep_Bytes.l0]
    rw [if_pos (by omega), if_pos (by omega), if_pos (by omega), if_pos trivial, wr_id' _ (by omega) (by omega)]
    exact ih (i + 1) k (by omega) (by omega) (by omega)
theorem ints_l0 (l : List Int) (hl : l.length ≤ 1000000) : ∀ (d i k : Nat), d = l.length - i → i ≤ l.length → d < k → wherrykeep_Ints.l0 k l l i = some true := by
  intro d
  induction d with
  | zero =>
    intro i k hd hi hk
    obtain ⟨k, rfl⟩ : ∃ j, k = j + 1 := ⟨k - 1, by omega⟩
    simp only [wherrykeep_Ints.l0]
    rw [if_neg (by omega)]
  | succ d ih =>
    intro i k hd hi hk
    obtain ⟨k, rfl⟩ : ∃ j, k = j + 1 := ⟨k - 1, by omega⟩
    simp only [wherrykeep_Ints.l0]
    rw [if_pos (by omega), if_pos (by omega), if_pos (by omega), if_pos trivial, wr_id' _ (by omega) (by omega)]
    exact ih (i + 1) k (by omega) (by omega) (by omega)
theorem path_same (a : Bool) (b c : ByteArray) : wherrykeep_Path.f a b c a b c = some true := by
  unfold wherrykeep_Path.f
  rw [if_pos (by simp), if_pos rfl]
  simp
theorem paths_l0 (l : List S32) (hl : l.length ≤ 1000000) : ∀ (d i k : Nat), d = l.length - i → i ≤ l.length → d < k → wherrykeep_Paths.l0 k l l i = some true := by
  intro d
  induction d with
  | zero =>
    intro i k hd hi hk
    obtain ⟨k, rfl⟩ : ∃ j, k = j + 1 := ⟨k - 1, by omega⟩
    simp only [wherrykeep_Paths.l0]
    rw [if_neg (by omega)]
  | succ d ih =>
    intro i k hd hi hk
    obtain ⟨k, rfl⟩ : ∃ j, k = j + 1 := ⟨k - 1, by omega⟩
    simp only [wherrykeep_Paths.l0]
    rw [if_pos (by omega), if_pos (by omega), if_pos (by omega), path_same, Option.bind_some, if_pos rfl, wr_id' _ (by omega) (by omega)]
    exact ih (i + 1) k (by omega) (by omega) (by omega)
theorem bytes_same' (l : List Int) (hl : l.length ≤ 1000000) (k : Nat) (hk : l.length < k) : wherrykeep_Bytes.f k l l = some true := by
  unfold wherrykeep_Bytes.f
  rw [if_pos rfl]
  exact bytes_l0 l hl (l.length - 0) 0 k rfl (by omega) (by omega)
theorem ints_same (l : List Int) (hl : l.length ≤ 1000000) (k : Nat) (hk : l.length < k) : wherrykeep_Ints.f k l l = some true := by
  unfold wherrykeep_Ints.f
  rw [if_pos rfl]
  exact ints_l0 l hl (l.length - 0) 0 k rfl (by omega) (by omega)
theorem paths_same (l : List S32) (hl : l.length ≤ 1000000) (k : Nat) (hk : l.length < k) : wherrykeep_Paths.f k l l = some true := by
  unfold wherrykeep_Paths.f
  rw [if_pos rfl]
  exact paths_l0 l hl (l.length - 0) 0 k rfl (by omega) (by omega)
theorem rec_same (x : S39) (hs : Small x) (k : Nat) (hk : 30000 < k) : wherrykeep_Rec.f k x.f0 x.f1.f0.f0 x.f1.f0.f1 x.f1.f0.f2 x.f1.f1 x.f1.f2 x.f1.f3 x.f1.f4 x.f1.f5 x.f2 x.f3 x.f4 x.f5 x.f6 x.f7 x.f0 x.f1.f0.f0 x.f1.f0.f1 x.f1.f0.f2 x.f1.f1 x.f1.f2 x.f1.f3 x.f1.f4 x.f1.f5 x.f2 x.f3 x.f4 x.f5 x.f6 x.f7 = some true := by
  obtain ⟨h1, h2, h3, h4, h5⟩ := hs
  have hm : wherrykeep_Mail.f k x.f1.f0.f0 x.f1.f0.f1 x.f1.f0.f2 x.f1.f1 x.f1.f2 x.f1.f3 x.f1.f4 x.f1.f5 x.f1.f0.f0 x.f1.f0.f1 x.f1.f0.f2 x.f1.f1 x.f1.f2 x.f1.f3 x.f1.f4 x.f1.f5 = some true := by
    unfold wherrykeep_Mail.f
    rw [path_same, Option.bind_some, if_pos rfl, paths_same _ (by omega) k (by omega), Option.bind_some, if_pos rfl, bytes_same' _ (by omega) k (by omega), Option.bind_some, if_pos rfl, if_pos (by simp), if_pos rfl]
    simp
  unfold wherrykeep_Rec.f
  rw [if_pos rfl, hm, Option.bind_some, if_pos rfl, if_pos rfl, ints_same _ (by omega) k (by omega), Option.bind_some, if_pos rfl, if_pos rfl, if_pos rfl, if_pos rfl, bytes_same' _ (by omega) k (by omega), Option.bind_some]
theorem recs_l0 (l : List S39) (hs : ∀ x ∈ l, Small x) (hl : l.length ≤ 1000) : ∀ (d i k : Nat), d = l.length - i → i ≤ l.length → d + 30001 < k → wherrykeep_Recs.l0 k l l i = some true := by
  intro d
  induction d with
  | zero =>
    intro i k hd hi hk
    obtain ⟨k, rfl⟩ : ∃ j, k = j + 1 := ⟨k - 1, by omega⟩
    simp only [wherrykeep_Recs.l0]
    rw [if_neg (by omega)]
  | succ d ih =>
    intro i k hd hi hk
    obtain ⟨k, rfl⟩ : ∃ j, k = j + 1 := ⟨k - 1, by omega⟩
    have hil : i < l.length := by omega
    have ex : rd_T39 l (i : Int) = l.getD i z39 := rfl
    have hx : Small (rd_T39 l (i : Int)) := by rw [ex]; exact hs _ (by simp [List.getD_eq_getElem?_getD, hil])
    simp only [wherrykeep_Recs.l0]
    rw [if_pos (by omega), if_pos (by omega), if_pos (by omega), rec_same _ hx k (by omega), Option.bind_some, if_pos rfl, wr_id' _ (by omega) (by omega)]
    exact ih (i + 1) k (by omega) (by omega) (by omega)
theorem recs_same (l : List S39) (hs : ∀ x ∈ l, Small x) (hl : l.length ≤ 1000) : wherrykeep_Recs.f 40000 l l = some true := by
  unfold wherrykeep_Recs.f
  rw [if_pos rfl]
  exact recs_l0 l hs hl (l.length - 0) 0 40000 rfl (by omega) (by omega)
/-- Records that are the same ones are told to be so. -/
theorem recs_at (W : World) (A0 : Option Addr) (c0 n0 : Nat) (A1 : Option Addr) (c1 n1 : Nat) (l : List S39) (hs : ∀ x ∈ l, Small x) (hl : l.length ≤ 1000) (h0 : k39.C W A0 n0 l) (hc0 : n0 ≤ c0) (h1 : k39.C W A1 n1 l) (hc1 : n1 ≤ c1) :
    Calls Try.prog 19 #[.slice A0 n0 c0, .slice A1 n1 c1] W fun e w' => e = .returned (.bool true) ∧ Below W.heap.size W w' := by
  obtain rfl : l.length = n0 := h0.1
  obtain rfl : l.length = n1 := h1.1
  exact wherrykeep_Recs.calls 40000 A0 c0 l A1 c1 l true W h0 hc0 h1 hc1 (recs_same l hs hl)
end Go.Proofs.Ytbkfdejcmimhgaa
