/- What holds at every stage of a region that appends to two rows. -/
import Derived.Test.YtalignlbbdeeiaaDoorProg
import Derived.WalkKit
import Derived.WalkLawsBesides
import Derived.Outline
import Derived.LoopTactic
import Derived.Lib.Hide
import Derived.Deep.QuietTactic
import Derived.BigQuiet
import Derived.Deep.LoopGhost
import Derived.Deep.DeepCutAuto
import Derived.Deep.CutBlock
import Derived.Deep.RegionHeld3
import Derived.Deep.RegionWith
import Derived.Deep.WholeRow
import Derived.Laws.Rows
import Derived.Laws.Tables
import Derived.Laws.ResultCell
import Derived.StillTailTactics
import Derived.Deep.DeepMust
import Derived.IntWalk
import Derived.KernelRfl
import Derived.Test.YtalignlbbdeeiaaDoorWWords
import Derived.Test.YtalignlbbdeeiaaDoorWLast
import Derived.Test.YtalignlbbdeeiaaDoorWMore
import Derived.RegionTactic
import Derived.Test.YtalignlbbdeeiaaDoorInv
import Derived.Test.YtalignlbbdeeiaaDoorKeys
namespace Go.Proofs.YtalignlbbdeeiaaDoor
open Go.RowKit
open Go.Proofs.YtalignlbbdeeiaaDoorW.PrintWords
set_option linter.unusedVariables false
set_option linter.unusedSimpArgs false
/-- Two rows of one's own, apart. -/
def Two (B : Nat) (wl : World) (X7 : Value) (m7 : List Int) (X8 : Value) (m8 : List Int) (w : World) : Prop :=
  Below B wl w ∧ RB w B (fun _ => True) X7 m7 ∧ RB w B (fun _ => True) X8 m8 ∧ (∀ b, X7.ownBlock = some b → X8.ownBlock ≠ some b)
/-- A new row of one byte. -/
def One (v : Value) (y : Int) (X7 X8 : Value) (w : World) : Prop :=
  ∃ g, v = .slice (some ⟨g, 0, none⟩) 1 1 ∧ w.heap[g]? = some (.cells #[.int .u8 y] 5 (0, 0)) ∧ X7.ownBlock ≠ some g ∧ X8.ownBlock ≠ some g
theorem Two.comm {B : Nat} {wl w : World} {X7 X8 : Value} {m7 m8 : List Int} (h : Two B wl X7 m7 X8 m8 w) : Two B wl X8 m8 X7 m7 w := ⟨h.1, h.2.2.1, h.2.1, fun b h8 h7 => h.2.2.2 b h7 h8⟩
theorem One.comm {v : Value} {y : Int} {X7 X8 : Value} {w : World} (h : One v y X7 X8 w) : One v y X8 X7 w := by
  obtain ⟨g, h1, h2, h3, h4⟩ := h; exact ⟨g, h1, h2, h4, h3⟩
theorem Two.alloc {B : Nat} {wl w : World} {X7 X8 : Value} {m7 m8 : List Int} (h : Two B wl X7 m7 X8 m8 w) (hB : B ≤ w.heap.size) (o : Obj) : Two B wl X7 m7 X8 m8 (w.alloc o) :=
  ⟨h.1.alloc hB _, Kd.R_alloc h.2.1 o, Kd.R_alloc h.2.2.1 o, h.2.2.2⟩
theorem One.alloc {v : Value} {y : Int} {X7 X8 : Value} {w : World} (h : One v y X7 X8 w) (o : Obj) : One v y X7 X8 (w.alloc o) := by
  obtain ⟨g, h1, h2, h3, h4⟩ := h
  have hlt : g < w.heap.size := by
    rcases Nat.lt_or_ge g w.heap.size with h' | h'
    · exact h'
    · rw [Array.getElem?_eq_none h'] at h2; cases h2
  exact ⟨g, h1, (heap_alloc_old w o hlt).trans h2, h3, h4⟩
theorem One.fresh {B : Nat} {wl w : World} {X7 X8 : Value} {m7 m8 : List Int} (h : Two B wl X7 m7 X8 m8 w) (y : Int) : One (.slice (some ⟨w.heap.size, 0, none⟩) 1 1) y X7 X8 (w.alloc (.cells #[.int .u8 y] 5)) :=
  ⟨_, rfl, heap_alloc_new _ _, fun e => Nat.lt_irrefl _ (Kd.R_lt h.2.1 _ e), fun e => Nat.lt_irrefl _ (Kd.R_lt h.2.2.1 _ e)⟩
/-- The first row is appended to. -/
theorem Two.grown {B : Nat} {wl w w' : World} {X7 X8 X7' : Value} {m7 m8 m7' : List Int} (h : Two B wl X7 m7 X8 m8 w) (hr : RB w' B (fun _ => True) X7' m7') (hb : Below B wl w') (hg : w.grownBy w' X7.ownBlock) (ho : X7'.ownBlock = X7.ownBlock ∨ ∃ b, X7'.ownBlock = some b ∧ w.heap.size ≤ b) : Two B wl X7' m7' X8 m8 w' := by
  refine ⟨hb, hr, ?_, ?_⟩
  · exact Kd.R_grown2 h.2.2.1 rfl hg (fun k hk hk8 => h.2.2.2 k hk hk8.symm)
  · intro b h7 h8
    rcases ho with e | ⟨b', e, hb'⟩
    · rw [e] at h7; exact h.2.2.2 b h7 h8
    · rw [e] at h7
      obtain rfl : b' = b := by injection h7
      have := Kd.R_lt h.2.2.1 _ h8
      omega
theorem One.grown {v : Value} {y : Int} {X7 X8 X7' : Value} {w w' : World} (h : One v y X7 X8 w) (hg : w.grownBy w' X7.ownBlock) (ho : X7'.ownBlock = X7.ownBlock ∨ ∃ b, X7'.ownBlock = some b ∧ w.heap.size ≤ b) : One v y X7' X8 w' := by
  obtain ⟨g, h1, h2, h3, h4⟩ := h
  have hlt : g < w.heap.size := by
    rcases Nat.lt_or_ge g w.heap.size with h' | h'
    · exact h'
    · rw [Array.getElem?_eq_none h'] at h2; cases h2
  refine ⟨g, h1, ?_, ?_, h4⟩
  · rw [hg.block g hlt (fun e => h3 e.symm)]; exact h2
  · rcases ho with e | ⟨b', e, hb'⟩
    · rw [e]; exact h3
    · rw [e]; intro e2; injection e2 with e2; omega
/-- The stages. -/
def RegI (B : Nat) (wl : World) (pv : Nat → Option Value) (v7 v8 : Value) (m7 m8 : List Int) (y7 y8 : Int) (L : Nat → Bool) (V : Nat → Value) (w : World) : Prop :=
  (∀ i v, pv i = some v → L i = true → V i = v) ∧
  Two B wl (if L 7 = true then V 7 else v7) (if L 7 = true then m7 ++ [y7] else m7) (if L 15 = true then V 15 else v8) (if L 15 = true then m8 ++ [y8] else m8) w ∧
  (L 6 = true → L 7 = false → One (V 6) y7 (if L 7 = true then V 7 else v7) (if L 15 = true then V 15 else v8) w) ∧
  (L 14 = true → L 15 = false → One (V 14) y8 (if L 7 = true then V 7 else v7) (if L 15 = true then V 15 else v8) w)
abbrev put1 (L : Nat → Bool) (i : Nat) : Nat → Bool := fun j => if j = i then true else L j
section
variable {B : Nat} {wl w : World} {pv : Nat → Option Value} {v7 v8 : Value} {m7 m8 : List Int} {y7 y8 : Int} {L : Nat → Bool} {V : Nat → Value}
theorem RegI.pure (h : RegI B wl pv v7 v8 m7 m8 y7 y8 L V w) (i : Nat) (v : Value) (hv : pv i = some v) (h6 : i ≠ 6) (h7 : i ≠ 7) (h14 : i ≠ 14) (h15 : i ≠ 15) : RegI B wl pv v7 v8 m7 m8 y7 y8 (put1 L i) (Facts.up V i v) w := by
  obtain ⟨a, b, c, d⟩ := h
  refine ⟨fun j u hu hj => ?_, ?_, ?_, ?_⟩
  · by_cases e : j = i
    · subst e; rw [hv] at hu; injection hu with hu; simp [Facts.up, hu]
    · simp only [put1, if_neg e] at hj; simp only [Facts.up, if_neg e]; exact a j u hu hj
  all_goals simpa only [put1, Facts.up, if_neg (Ne.symm h6), if_neg (Ne.symm h7), if_neg (Ne.symm h14), if_neg (Ne.symm h15)]
theorem RegI.six (h : RegI B wl pv v7 v8 m7 m8 y7 y8 L V w) (hp : pv 6 = none) (hB : B ≤ w.heap.size) : RegI B wl pv v7 v8 m7 m8 y7 y8 (put1 L 6) (Facts.up V 6 (.slice (some ⟨w.heap.size, 0, none⟩) 1 1)) (w.alloc (.cells #[.int .u8 y7] 5)) := by
  obtain ⟨a, b, c, d⟩ := h
  refine ⟨fun j u hu hj => ?_, ?_, ?_, ?_⟩
  · by_cases e : j = 6
    · subst e; rw [hp] at hu; cases hu
    · simp only [put1, if_neg e] at hj; simp only [Facts.up, if_neg e]; exact a j u hu hj
  · simpa [put1, Facts.up] using b.alloc hB _
  · intro _ _
    simpa [put1, Facts.up] using One.fresh b y7
  · intro h1 h2
    simpa [put1, Facts.up] using (d (by simpa [put1] using h1) (by simpa [put1] using h2)).alloc _
theorem RegI.fourteen (h : RegI B wl pv v7 v8 m7 m8 y7 y8 L V w) (hp : pv 14 = none) (hB : B ≤ w.heap.size) : RegI B wl pv v7 v8 m7 m8 y7 y8 (put1 L 14) (Facts.up V 14 (.slice (some ⟨w.heap.size, 0, none⟩) 1 1)) (w.alloc (.cells #[.int .u8 y8] 5)) := by
  obtain ⟨a, b, c, d⟩ := h
  refine ⟨fun j u hu hj => ?_, ?_, ?_, ?_⟩
  · by_cases e : j = 14
    · subst e; rw [hp] at hu; cases hu
    · simp only [put1, if_neg e] at hj; simp only [Facts.up, if_neg e]; exact a j u hu hj
  · simpa [put1, Facts.up] using b.alloc hB _
  · intro h1 h2
    simpa [put1, Facts.up] using (c (by simpa [put1] using h1) (by simpa [put1] using h2)).alloc _
  · intro _ _
    simpa [put1, Facts.up] using One.fresh b y8
theorem RegI.seven (h : RegI B wl pv v7 v8 m7 m8 y7 y8 L V w) (hp : pv 7 = none) (hL : L 7 = false) {v : Value} {w' : World} (hr : RB w' B (fun _ => True) v (m7 ++ [y7])) (hb : Below B wl w') (hg : w.grownBy w' v7.ownBlock) (ho : v.ownBlock = v7.ownBlock ∨ ∃ b, v.ownBlock = some b ∧ w.heap.size ≤ b) :
    RegI B wl pv v7 v8 m7 m8 y7 y8 (put1 L 7) (Facts.up V 7 v) w' := by
  obtain ⟨a, b, c, d⟩ := h
  rw [hL] at b d
  simp only [Bool.false_eq_true, if_false] at b d
  refine ⟨fun j u hu hj => ?_, ?_, ?_, ?_⟩
  · by_cases e : j = 7
    · subst e; rw [hp] at hu; cases hu
    · simp only [put1, if_neg e] at hj; simp only [Facts.up, if_neg e]; exact a j u hu hj
  · simpa [put1, Facts.up] using b.grown hr hb hg ho
  · intro _ h2; simp [put1] at h2
  · intro h1 h2
    simpa [put1, Facts.up] using (d (by simpa [put1] using h1) (by simpa [put1] using h2)).grown hg ho
theorem RegI.fifteen (h : RegI B wl pv v7 v8 m7 m8 y7 y8 L V w) (hp : pv 15 = none) (hL : L 15 = false) {v : Value} {w' : World} (hr : RB w' B (fun _ => True) v (m8 ++ [y8])) (hb : Below B wl w') (hg : w.grownBy w' v8.ownBlock) (ho : v.ownBlock = v8.ownBlock ∨ ∃ b, v.ownBlock = some b ∧ w.heap.size ≤ b) :
    RegI B wl pv v7 v8 m7 m8 y7 y8 (put1 L 15) (Facts.up V 15 v) w' := by
  obtain ⟨a, b, c, d⟩ := h
  rw [hL] at b c
  simp only [Bool.false_eq_true, if_false] at b c
  refine ⟨fun j u hu hj => ?_, ?_, ?_, ?_⟩
  · by_cases e : j = 15
    · subst e; rw [hp] at hu; cases hu
    · simp only [put1, if_neg e] at hj; simp only [Facts.up, if_neg e]; exact a j u hu hj
  · simpa [put1, Facts.up] using (b.comm.grown hr hb hg ho).comm
  · intro h1 h2
    simpa [put1, Facts.up] using ((c (by simpa [put1] using h1) (by simpa [put1] using h2)).comm.grown hg ho).comm
  · intro _ h2; simp [put1] at h2
end
end Go.Proofs.YtalignlbbdeeiaaDoor
