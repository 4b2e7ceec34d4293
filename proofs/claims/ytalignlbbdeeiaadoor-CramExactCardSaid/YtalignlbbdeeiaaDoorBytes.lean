/- Bytes copied and compared: slices.Clone, the keeper's Twin and Bytes. Conditions: fewer than a million bytes. -/
import Derived.Test.YtalignlbbdeeiaaDoorProg
import Derived.WalkKit
import Derived.WalkLawsBesides
import Derived.Outline
import Derived.LoopTactic
import Derived.Lib.Hide
import Derived.Deep.QuietTactic
import Derived.BigQuiet
import Derived.Deep.LoopGhost
import Derived.Deep.DeepCutAuto
import Derived.Deep.CutBlock
import Derived.Deep.RegionHeld3
import Derived.Deep.RegionWith
import Derived.Deep.WholeRow
import Derived.Laws.Rows
import Derived.Laws.Tables
import Derived.Laws.ResultCell
import Derived.StillTailTactics
import Derived.Deep.DeepMust
import Derived.IntWalk
import Derived.KernelRfl
import Derived.Test.YtalignlbbdeeiaaDoorWWords
import Derived.Test.YtalignlbbdeeiaaDoorWLast
import Derived.Test.YtalignlbbdeeiaaDoorWMore
import Derived.Test.YtalignlbbdeeiaaDoorMd5
namespace Go.Proofs.YtalignlbbdeeiaaDoor
open Go.RowKit
open Go.Proofs.YtalignlbbdeeiaaDoorW.PrintWords
set_option linter.unusedVariables false
set_option linter.unusedSimpArgs false
theorem infoU8 : (Tryd.prog.info? 5).map (fun i => (i.zero, i.size, i.bytes)) = some (some (.int .u8 0), 1, 1) := by kernel_rfl
/-- Bytes that can be read behind a slice's value. -/
abbrev CB (w : World) (A : Option Addr) (l : List Int) : Prop := (Kd.int .u8).C w A l.length l
/-- Bytes in memory of the call's own. -/
abbrev RB (w : World) (base : Nat) (ok : Nat → Prop) (v : Value) (l : List Int) : Prop := (Kd.int .u8).R 5 w base ok v l
theorem CB.nil_of {w : World} {l : List Int} (h : CB w none l) : l = [] := by
  rcases Nat.eq_zero_or_pos l.length with e | e
  · exact List.eq_nil_of_length_eq_zero e
  · obtain ⟨ad, hh, _⟩ := h.2.2 e; cases hh
set_option maxHeartbeats 400000 in
theorem clone_any (A : Option Addr) (c : Nat) (l : List Int) (w : World) (hr : CB w A l) (hl : l.length ≤ 1000000) :
    Calls Tryd.prog 42 #[.slice A l.length c] w fun e w' => ∃ v, e = .returned v ∧ RB w' w.heap.size (fun _ => True) v l ∧ Below w.heap.size w w' := by
  have hx := fun (w : World) => Lib.run_eql_slice_nil (P := Tryd.prog) w 22 5 A l.length c 0 0 Tryd.underlying22
  cases A with
  | none =>
    obtain rfl := hr.nil_of
    clear hr
    simp only [List.length_nil] at hx ⊢
    go_enter Tryd.func42, Tryd.ntmps42
    go_wp2
    go_ret
    exact ⟨_, rfl, Kd.R_nil _ _ _ _ _, Below.refl _ _⟩
  | some ad =>
    have HR := Aside0.mk hr
    clear hr
    go_enter Tryd.func42, Tryd.ntmps42
    go_wp2_with (first | ((with_reducible refine gate_builtin (b := .append) (xs := #[.tmp 5, .tmp 6]) rfl ?_); at_builtin; refine Kd.R_append_rows (Kd.int .u8) (w0 := w) w.heap.size rfl (.tmp 5) (.tmp 6) 22 5 (.int .u8 0) 1 rfl Tryd.underlying22 infoU8 rfl (by decide) (by omega) (.slice (some ⟨w.heap.size, 0, none⟩) 0 0) ([] : List Int) l _ _ _ (fun _ => True) (fun _ => False) rfl rfl ?aO ?aR (fun _ _ h => h) (fun _ h => h.elim) (fun _ _ => trivial) ?aB (by simp) (by simp; omega) ?_))
    case aO => exact ⟨fun _ _ => trivial, [], ⟨rfl, .inr ⟨w.heap.size, 0, #[], rfl, Nat.le_refl _, heap_alloc_new _ _, Nat.le_refl _, Nat.zero_le _, rfl, rfl⟩⟩, Reps.none _ _⟩
    case aR => exact Kd.C_alloc HR.out _
    case aB => exact (Below.refl _ _).alloc (Nat.le_refl _) _
    intro v1 w1 h1 h2 h3 h4
    have H1 := Aside0.mk h1
    have H2 := Aside0.mk h2
    clear h1 h2 h3 h4
    go_wp2
    go_ret
    exact ⟨_, rfl, H1.out, H2.out⟩
set_option maxHeartbeats 400000 in
theorem twin_any (A : Option Addr) (c : Nat) (l : List Int) (w : World) (hr : CB w A l) (hl : l.length ≤ 1000000) :
    Calls Tryd.prog 10 #[.slice A l.length c] w fun e w' => ∃ v, e = .returned v ∧ RB w' w.heap.size (fun _ => True) v l ∧ Below w.heap.size w w' := by
  have HR := Aside0.mk hr
  clear hr
  go_enter Tryd.func10, Tryd.ntmps10
  go_wp2_with (first | ((with_reducible refine gate_builtin (b := .append) (xs := #[.tmp 4, .tmp 5]) rfl ?_); at_builtin; refine Kd.R_append_rows (Kd.int .u8) (w0 := w) w.heap.size rfl (.tmp 4) (.tmp 5) 22 5 (.int .u8 0) 1 rfl Tryd.underlying22 infoU8 rfl (by decide) (by omega) (.slice none 0 0) ([] : List Int) l _ _ _ (fun _ => True) (fun _ => False) rfl rfl (Kd.R_nil _ _ _ _ _) HR.out (fun _ _ h => h) (fun _ h => h.elim) (fun _ _ => trivial) (Below.refl _ _) (Nat.le_refl _) (by simp; omega) ?_))
  intro v1 w1 h1 h2 h3 h4
  have H1 := Aside0.mk h1
  have H2 := Aside0.mk h2
  clear h1 h2 h3 h4
  go_wp2
  go_ret
  exact ⟨_, rfl, H1.out, H2.out⟩
theorem eq_of_getD {l k : List Int} (h : l.length = k.length) (hh : ∀ i, i < l.length → l.getD i 0 = k.getD i 0) : l = k := by
  apply List.ext_getElem h
  intro i h1 h2
  have := hh i h1
  simpa [List.getD_eq_getElem?_getD, h1, h2] using this
set_option maxHeartbeats 800000 in
theorem bytes_same (A B : Option Addr) (c d : Nat) (l : List Int) (w : World) (hr : CB w A l) (hr' : CB w B l) (hl : l.length ≤ 1000000) :
    Calls Tryd.prog 8 #[.slice A l.length c, .slice B l.length d] w fun e w' => e = .returned (.bool true) ∧ ∃ n, w' = w.drewN n := by
  have HR := Aside0.mk hr
  have HR' := Aside0.mk hr'
  clear hr hr'
  go_enter Tryd.func8, Tryd.ntmps8
  go_wp2
  go_loopg [5] l.length (fun g v5 wr => ∃ n m : Nat, n ≤ l.length ∧ g + n = l.length ∧ v5 = .int .i64 n ∧ wr = w.drewN m)
  case atStart => exact ⟨0, 0, by omega, by omega, rfl, rfl⟩
  case round =>
    obtain ⟨n, m, hn, hg, rfl, rfl⟩ := hrel
    by_cases hlt : n < l.length
    · obtain ⟨ad, rfl, hc⟩ := Kd.at_int HR.out n (by omega) (by omega)
      obtain ⟨bd, rfl, hd⟩ := Kd.at_int HR'.out n (by omega) (by omega)
      have hn0 : (n : Int).toNat = n := by omega
      rw [hn0] at hc hd
      have e1 : rd l n = l.getD n 0 := rfl
      rw [e1] at hc hd
      generalize l.getD n 0 = x at *
      clear e1
      have hlt' : (n : Int) < (l.length : Int) := by omega
      have h0 : (0 : Int) ≤ (n : Int) := by omega
      have hbx : (x != x) = false := by simp
      go_wp2_with (fail)
      go_quiet (fail)
      go_wp2
      go_roundg (gk - 1)
      case measure => omega
      case rel => exact ⟨n + 1, _, by omega, by omega, by go_num, rfl⟩
    · obtain rfl : n = l.length := by omega
      go_wp2
      go_ret
      exact ⟨rfl, m, rfl⟩
end Go.Proofs.YtalignlbbdeeiaaDoor
