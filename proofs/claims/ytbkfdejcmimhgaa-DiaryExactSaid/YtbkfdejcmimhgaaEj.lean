/- A diary's acts: as arguments, and read out of their row. -/
import Derived.Test.YtbkfdejcmimhgaaProg
import Derived.WalkKit
import Derived.WalkLawsBesides
import Derived.Outline
import Derived.LoopTactic
import Derived.Lib.Hide
import Derived.Deep.QuietTactic
import Derived.BigQuiet
import Derived.Deep.LoopGhost
import Derived.Deep.DeepCutAuto
import Derived.Deep.CutBlock
import Derived.Deep.RegionHeld3
import Derived.Deep.RegionWith
import Derived.Deep.WholeRow
import Derived.Laws.Rows
import Derived.Laws.Tables
import Derived.Laws.ResultCell
import Derived.StillTailTactics
import Derived.Deep.DeepMust
import Derived.IntWalk
import Derived.KernelRfl
import Derived.Test.YtbkfdejcmimhgaaVa
import Derived.RegionTactic
import Derived.Test.YtbkfdejcmimhgaaOpen
import Derived.Test.YtbkfdejcmimhgaaDiLa
namespace Go.Proofs.Ytbkfdejcmimhgaa
open Go.RowKit Go.Proofs.YtbkfdejcmimhgaaW.PrintWords Go.Proofs.Ytbkfdejcmimhgaa.PDiaryExact
set_option linter.unusedVariables false
set_option linter.unusedSimpArgs false
structure Ac where
  kind : Int
  recs : List S39
  n : Int
  keep : Int
def k59 : Kd Ac := Kd.iso (Kd.pair (Kd.int .i64) (Kd.pair (Kd.slice 39 k39) (Kd.pair (Kd.int .i64) (Kd.int .i64)))) (fun x : Ac => (x.kind, x.recs, x.n, x.keep))
theorem k59_open {w : World} {x : Ac} {cs : List Value} (h : k59.K w x cs) : ∃ A c, cs = [.int .i64 x.kind, .slice A x.recs.length c, .int .i64 x.n, .int .i64 x.keep] ∧ x.recs.length ≤ c ∧ k39.C w A x.recs.length x.recs := by
  obtain ⟨_, _, rfl, rfl, ⟨_, _, rfl, ⟨A, c, rfl, l, g⟩, ⟨_, _, rfl, rfl, rfl⟩⟩⟩ := h
  exact ⟨A, c, rfl, l, g⟩
theorem heap59 : Kd.Heap k59 := Kd.heap_iso _ (Kd.heap_pair (Kd.heap_int .i64) (Kd.heap_pair (Kd.heap_slice 39 heap39) (Kd.heap_pair (Kd.heap_int .i64) (Kd.heap_int .i64))))
theorem at_T59 {w : World} {A : Option Addr} {n : Nat} {xs : List Ac} (h : k59.C w A n xs) (i : Nat) (hi : i < n) : ∃ (ad : Addr) (Ar : Option Addr) (cr : Nat) (x : Ac), A = some ad ∧ xs[i]? = some x ∧ w.cell? (ad.add (i * 4)) = some (.int .i64 x.kind) ∧ w.cell? ⟨(ad.add (i * 4)).block, (ad.add (i * 4)).off + 1, none⟩ = some (.slice Ar x.recs.length cr) ∧ w.cell? ⟨(ad.add (i * 4)).block, (ad.add (i * 4)).off + 2, none⟩ = some (.int .i64 x.n) ∧ w.cell? ⟨(ad.add (i * 4)).block, (ad.add (i * 4)).off + 3, none⟩ = some (.int .i64 x.keep) ∧ x.recs.length ≤ cr ∧ k39.C w Ar x.recs.length x.recs := by
  obtain ⟨hl, _, hr⟩ := h
  obtain ⟨ad, rfl, hc⟩ := hr (by omega)
  have hil : i < xs.length := by omega
  obtain ⟨cs, hcl, hK, hcc⟩ := hc i xs[i] (List.getElem?_eq_getElem hil)
  obtain ⟨Ar, cr, rfl, hlr, hC⟩ := k59_open hK
  refine ⟨ad, Ar, cr, xs[i], rfl, List.getElem?_eq_getElem hil, ?_, ?_, ?_, ?_, hlr, hC⟩
  · exact hcc 0 _ rfl
  · rw [← add_field _ _ 1 (by omega)]; exact hcc 1 _ rfl
  · rw [← add_field _ _ 2 (by omega)]; exact hcc 2 _ rfl
  · rw [← add_field _ _ 3 (by omega)]; exact hcc 3 _ rfl
def OkI (z : Int) : Prop := (Lit.int .i64 z).wf = true
def OkAc (x : Ac) : Prop := OkP OkI (OkP (OkL Ok39) (OkP OkI OkI)) (x.kind, x.recs, x.n, x.keep)
theorem cells22 : Try.prog.cellsOf 22 = 1 := by kernel_rfl
theorem cells59 : Try.prog.cellsOf 59 = 4 := by kernel_rfl
theorem bytes59 : 1 ≤ Try.prog.bytesOf 59 := of_decide_eq_true (by kernel_rfl)
section
variable {H : Type} {enc : TypeId × Value → H} {w : World} {base : Nat} {spare : Nat → Bool} {held : Bool}
theorem opens_intw : Opens enc Try.prog w base spare held (Kd.int .i64) OkI 3 := fun fuel cs x h _ => by
  obtain ⟨n, rfl, _, hw⟩ := DataW.trod_int Try.underlying3 h
  exact ⟨n, rfl, hw⟩
theorem opens59 : Opens enc Try.prog w base spare held k59 OkAc 59 :=
  opens_struct _ (fun y => ⟨⟨y.1, y.2.1, y.2.2.1, y.2.2.2⟩, rfl⟩) Try.underlying59 cells59 (opensF_pair rfl cells3 opens_intw (by decide) (opensF_pair rfl cells22 (opens_slice Try.underlying22 cells39 bytes39 opens39) (by decide) (opensF_pair rfl cells3 opens_intw (by decide) (opensF_one rfl cells3 opens_intw))))
/-- An argument that is a slice of acts. -/
theorem open_acts {r : Reach} {b0 : Nat} {v : Value} {d : DataW H} {p : List MemPlace} {ts : List TypeId} {ds : List (DataW H)} {j : Nat} (hsz : (DataW.weightsEach Try.prog ts ds).all (· ≤ reachBytes) = true) (hts : ts[j]? = some 54) (hds : ds[j]? = some d) (hv : Value.okWide Try.prog w r b0 54 v) (h : DataW.Trod enc Try.prog w base spare held 54 v d p) : ∃ (x : List Ac) (A : Option Addr) (c : Nat), v = .slice A x.length c ∧ x.length ≤ c ∧ c ≤ maxLen ∧ k59.C w A x.length x ∧ OkL OkAc x := by
  obtain ⟨a, len, cap, rfl⟩ := Go.WideShapes.okWide_slice Try.underlying54 hv
  obtain ⟨fuel, hf⟩ := h
  obtain ⟨y, A, c, hy, hl, hm, hC, hG⟩ := opens_C Try.underlying54 cells59 bytes59 opens59 _ _ _ hf (fun n hn => by simpa using List.all_eq_true.1 hsz n (DataW.weights_mem_each hts hds n hn))
  exact ⟨y, A, c, by simpa [Value.cells] using hy, hl, hm, hC, hG⟩
end
end Go.Proofs.Ytbkfdejcmimhgaa
