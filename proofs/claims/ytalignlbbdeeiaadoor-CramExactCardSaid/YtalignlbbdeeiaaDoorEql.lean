/- Two equal rows of bytes are one array. -/
import Derived.Test.YtalignlbbdeeiaaDoorProg
import Derived.WalkKit
import Derived.WalkLawsBesides
import Derived.Outline
import Derived.LoopTactic
import Derived.Lib.Hide
import Derived.Deep.QuietTactic
import Derived.BigQuiet
import Derived.Deep.LoopGhost
import Derived.Deep.DeepCutAuto
import Derived.Deep.CutBlock
import Derived.Deep.RegionHeld3
import Derived.Deep.RegionWith
import Derived.Deep.WholeRow
import Derived.Laws.Rows
import Derived.Laws.Tables
import Derived.Laws.ResultCell
import Derived.StillTailTactics
import Derived.Deep.DeepMust
import Derived.IntWalk
import Derived.KernelRfl
import Derived.Test.YtalignlbbdeeiaaDoorWWords
import Derived.Test.YtalignlbbdeeiaaDoorWLast
import Derived.Test.YtalignlbbdeeiaaDoorWMore
import Derived.Test.YtalignlbbdeeiaaDoorDigE
namespace Go.Proofs.YtalignlbbdeeiaaDoor
open Go.RowKit
theorem part_run (e : TypeId) (xs : List Int) (i : Nat) (hi : i < xs.length) (w : World) (he : Tryd.prog.underlying e = some (.int .u8)) (hs : (Tryd.prog.info? e).map (·.size) = some 1) : (Go.part e (xs.map (Value.int .u8)).toArray i).run Tryd.prog w = .ok (.int .u8 (xs.getD i 0)) w := by
  obtain ⟨inf, h1, h2⟩ := Option.map_eq_some_iff.1 hs
  unfold Go.part
  simp [run_underlying he, isAgg, hi, Result.andThen]
theorem forIn_run (P : Program) (d e : Nat) (w : World) (ht : P.underlying e = some (.int .u8)) (X Y : Array Value) (xs ys : List Int)
    (hX : ∀ i, i < xs.length → ∀ w, (Go.part e X (i * 1)).run P w = .ok (.int .u8 (xs.getD i 0)) w) (hY : ∀ i, i < ys.length → ∀ w, (Go.part e Y (i * 1)).run P w = .ok (.int .u8 (ys.getD i 0)) w) (hl : xs.length = ys.length) :
    ∀ (m k : Nat), k + m = xs.length → (forIn (List.range' k m) ((none : Option Bool), ()) (fun i (_ : Option Bool × Unit) => do
            let a ← Go.part e X (i * 1)
            let b ← Go.part e Y (i * 1)
            let r ← Op.equalIn (d + 1) e a b
            if (!r) = true then pure (ForInStep.done (some false, ())) else pure (ForInStep.yield ((none : Option Bool), ()))) : Sem (Option Bool × Unit)).run P w = .ok (if xs.drop k == ys.drop k then none else some false, ()) w
  | 0, k, hk => by
    have e1 : xs.drop k = [] := List.drop_eq_nil_of_le (by omega)
    have e2 : ys.drop k = [] := List.drop_eq_nil_of_le (by omega)
    simp [e1, e2]
  | m + 1, k, hk => by
    have ih := forIn_run P d e w ht X Y xs ys hX hY hl m (k + 1) (by omega)
    have e1 : xs.drop k = xs.getD k 0 :: xs.drop (k + 1) := by rw [List.drop_eq_getElem_cons (show k < xs.length by omega)]; simp [List.getD_eq_getElem?_getD, show k < xs.length by omega]
    have e2 : ys.drop k = ys.getD k 0 :: ys.drop (k + 1) := by rw [List.drop_eq_getElem_cons (show k < ys.length by omega)]; simp [List.getD_eq_getElem?_getD, show k < ys.length by omega]
    rw [e1, e2, List.range'_succ, List.forIn_cons]
    simp only [Sem.run_bind, hX k (by omega), hY k (by omega), Result.andThen_ok, run_equalIn_int w d e .u8 .u8 _ _ ht, Sem.run_ite, Sem.run_pure, List.cons_beq_cons]
    by_cases hb : (xs.getD k 0 == ys.getD k 0) = true
    · simp only [hb]; simpa using ih
    · rw [Bool.not_eq_true] at hb; simp only [hb]; simp
theorem eql_bytes (w : World) (d t e n : Nat) (xs ys : List Int) (ht : Tryd.prog.underlying t = some (.array n e)) (he : Tryd.prog.underlying e = some (.int .u8)) (hs : (Tryd.prog.info? e).map (·.size) = some 1) (hx : xs.length = n) (hy : ys.length = n) :
    (Op.equalIn (d + 2) t (.agg (xs.map (Value.int .u8)).toArray) (.agg (ys.map (Value.int .u8)).toArray)).run Tryd.prog w = .ok (xs == ys) w := by
  obtain ⟨inf, h1, h2⟩ := Option.map_eq_some_iff.1 hs
  have hsz : (sizeOf e).run Tryd.prog w = .ok 1 w := by simp [sizeOf, typeInfo, h1, h2]
  unfold Op.equalIn
  simp only [Sem.run_bind, run_underlying ht, Result.andThen_ok, hsz]
  have h := forIn_run Tryd.prog d e w he (xs.map (Value.int .u8)).toArray (ys.map (Value.int .u8)).toArray xs ys (fun i hi w => by rw [Nat.mul_one]; exact part_run e xs i hi w he hs) (fun i hi w => by rw [Nat.mul_one]; exact part_run e ys i hi w he hs) (by omega) n 0 (by omega)
  rw [Std.Legacy.Range.forIn_eq_forIn_range']
  simp only [Std.Legacy.Range.size, Nat.sub_zero, Nat.add_sub_cancel, Nat.div_one]
  rw [h]
  simp only [List.drop_zero]
  cases xs == ys <;> simp
end Go.Proofs.YtalignlbbdeeiaaDoor
