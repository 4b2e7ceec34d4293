/- What the laws share: Parse's answer in one form. -/
import Derived.Test.YteiknmcmaemcoaaDoorProg
import Derived.WalkKit
import Derived.WalkLawsBesides
import Derived.Outline
import Derived.LoopTactic
import Derived.Lib.Hide
import Derived.Deep.QuietTactic
import Derived.BigQuiet
import Derived.Deep.LoopGhost
import Derived.Deep.DeepCutAuto
import Derived.Deep.CutBlock
import Derived.Deep.RegionHeld3
import Derived.Deep.RegionWith
import Derived.Deep.WholeRow
import Derived.Laws.Rows
import Derived.Laws.Tables
import Derived.Laws.ResultCell
import Derived.StillTailTactics
import Derived.Deep.DeepMust
import Derived.IntWalk
import Derived.KernelRfl
import Derived.Test.YteiknmcmaemcoaaDoorWWords
import Derived.Test.YteiknmcmaemcoaaDoorWLast
import Derived.Test.YteiknmcmaemcoaaDoorWMore
import Derived.RegionTactic
import Derived.Test.YteiknmcmaemcoaaDoorVx
namespace Go.Proofs.YteiknmcmaemcoaaDoor
open Go.RowKit Go.Lib
open Go.Proofs.YteiknmcmaemcoaaDoorW.PrintWords Go.Proofs.YteiknmcmaemcoaaDoorW.PrintLast Go.Proofs.YteiknmcmaemcoaaDoorW.PrintMore
set_option linter.unusedVariables false
set_option linter.unusedSimpArgs false
theorem rounds_small (nn : Int) (m : Nat) (h1 : 1 ≤ m) (h2 : m ≤ 65000) : ∃ q : Nat, wrap64 ((IntKind.u64.wrap nn).tmod (m : Int)) = q ∧ q < m := by
  have h0 : 0 ≤ IntKind.u64.wrap nn := by simp [IntKind.wrap, IntKind.signed, IntKind.bits]; omega
  rw [Int.tmod_eq_emod_of_nonneg h0]
  generalize IntKind.u64.wrap nn = x at *
  have h3 : 0 ≤ x % (m : Int) := Int.emod_nonneg _ (by omega)
  have h4 : x % (m : Int) < m := Int.emod_lt_of_pos _ (by omega)
  refine ⟨(x % (m : Int)).toNat, ?_, by omega⟩
  have : wrap64 (x % (m : Int)) = x % (m : Int) := by unfold wrap64; omega
  omega
/-- The command of a line, or none. -/
def V.cmd (l : V.Bs) : V.Cmd := (V.parse l).1.getD V.noCmd
/-- The number that answers it. -/
def V.code (l : V.Bs) : Int := (V.parse l).2
def uniPost (c : V.Cmd) (n : Int) (e : Ending) (w : World) : Prop := ∃ (A : Option Addr) (q : Nat), e = .returned (.tuple #[cagg c A q, .int .i64 n]) ∧ Kd.C kp w A c.prms.length c.prms ∧ c.prms.length ≤ 100000
theorem parse_uni (s : ByteArray) (w : World) (hs : s.size ≤ 100000) (hv : Vars w) :
    Calls Tryd.prog 10 #[.string s] w fun e w' => uniPost (V.cmd (lst s)) (V.code (lst s)) e w' ∧ Below w.heap.size w w' := by
  refine (parse_any s w hs hv).mono ?_
  rintro e w' ⟨h1, hb⟩
  refine ⟨?_, hb⟩
  unfold V.cmd V.code
  cases h : (V.parse (lst s)).1 with
  | none =>
    rw [h] at h1
    exact ⟨none, 0, h1, Kd.C_nil _ _, Nat.zero_le _⟩
  | some c =>
    rw [h] at h1
    obtain ⟨v, rfl, hR, hl⟩ := h1
    obtain ⟨A, q, rfl, _, hC⟩ := Kd.R_reads hR
    rw [code_zero _ _ h]
    exact ⟨A, q, rfl, hC, hl⟩
end Go.Proofs.YteiknmcmaemcoaaDoor
