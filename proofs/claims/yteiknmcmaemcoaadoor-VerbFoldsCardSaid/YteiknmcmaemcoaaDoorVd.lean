/- What path's parts, Domain and Check answer. -/
import Derived.Test.YteiknmcmaemcoaaDoorProg
import Derived.WalkKit
import Derived.WalkLawsBesides
import Derived.Outline
import Derived.LoopTactic
import Derived.Lib.Hide
import Derived.Deep.QuietTactic
import Derived.BigQuiet
import Derived.Deep.LoopGhost
import Derived.Deep.DeepCutAuto
import Derived.Deep.CutBlock
import Derived.Deep.RegionHeld3
import Derived.Deep.RegionWith
import Derived.Deep.WholeRow
import Derived.Laws.Rows
import Derived.Laws.Tables
import Derived.Laws.ResultCell
import Derived.StillTailTactics
import Derived.Deep.DeepMust
import Derived.IntWalk
import Derived.KernelRfl
import Derived.Test.YteiknmcmaemcoaaDoorWWords
import Derived.Test.YteiknmcmaemcoaaDoorWLast
import Derived.Test.YteiknmcmaemcoaaDoorWMore
import Derived.RegionTactic
import Derived.Lib.SliceRun
import Derived.Lib.SmallJoins
import Derived.Test.YteiknmcmaemcoaaDoorVc
namespace Go.Proofs.YteiknmcmaemcoaaDoor
open Go.RowKit Go.Lib
open Go.Proofs.YteiknmcmaemcoaaDoorW.PrintWords
set_option linter.unusedVariables false
set_option linter.unusedSimpArgs false
/-- What the library's variables hold. -/
structure Vars (w : World) : Prop where
  low : 8 ≤ w.heap.size
  mx : ∃ m, w.cell? ⟨0, 0, none⟩ = some (.int .i64 m)
  syn : ∃ tp p, w.var? Tryd.prog "strconv.ErrSyntax" = some #[.iface tp p]
  rng : ∃ tp p, w.var? Tryd.prog "strconv.ErrRange" = some #[.iface tp p]
  pow : Lib.TabIs Tryd.prog w "internal/strconv.uint64pow10" .u64 Lib.pow10Tab
theorem var_on {P : Program} {W W' : World} {B g : Nat} {n : String} {cs : Array Value} (hg : P.globalNamed n = some g) (h : W.var? P n = some cs) (hb : Below B W W') (hB : g < B) : W'.var? P n = some cs := by
  unfold World.var? at h ⊢
  rw [hg] at h ⊢
  simp only [Option.bind_some] at h ⊢
  rw [hb.block g hB]
  exact h
theorem Vars.on {w w' : World} {B : Nat} (hv : Vars w) (hb : Below B w w') (hB : 8 ≤ B) : Vars w' where
  low := Nat.le_trans hv.low hb.size
  mx := by
    obtain ⟨m, hm⟩ := hv.mx
    exact ⟨m, (hb.cell (p := ⟨0, 0, none⟩) (by show 0 < B; omega)).trans hm⟩
  syn := by
    obtain ⟨tp, p, h⟩ := hv.syn
    exact ⟨tp, p, var_on (g := 3) (by kernel_rfl) h hb (by omega)⟩
  rng := by
    obtain ⟨tp, p, h⟩ := hv.rng
    exact ⟨tp, p, var_on (g := 4) (by kernel_rfl) h hb (by omega)⟩
  pow := var_on (g := 5) (by kernel_rfl) hv.pow hb (by omega)
theorem Vars.go {w w' : World} (hv : Vars w) (hb : Below w.heap.size w w') : Vars w' := hv.on hb hv.low
/-- Strings that are not too long. -/
abbrev Sh := {x : ByteArray // x.size ≤ 1000000}
instance : Inhabited Sh := ⟨⟨ByteArray.empty, by decide⟩⟩
theorem split_any (s : ByteArray) (c : UInt8) (w : World) (hs : s.size ≤ 1000000) (hv : Vars w) (D : ByteArray) (hD : D = str [c]) :
    Calls Tryd.prog 19 #[.string s, .string D] w fun e w' => ∃ n : Nat, n = (V.splitOn c (lst s)).length ∧ e = .returned (.slice (some ⟨w.heap.size, 0, none⟩) n n) ∧ w' = w.alloc (.cells (((V.splitOn c (lst s)).map fun l => Value.string (str l))).toArray 9) := by
  subst hD
  obtain ⟨m, hm⟩ := hv.mx
  refine (Tryd.strings_Split s (str [c]) m w (by omega) hm (by show 1 ≤ 1; omega)).mono ?_
  rintro e w' ⟨rfl, rfl⟩
  have e1 := V.split_list c s
  have e2 := V.split_len c s
  refine ⟨_, rfl, by rw [show (str [c] : ByteArray) = ⟨#[c]⟩ from rfl, e2]; rfl, ?_⟩
  rw [show (str [c] : ByteArray) = ⟨#[c]⟩ from rfl, e1, List.map_map]
  rfl
theorem splitOn_mem (c : UInt8) : ∀ (l x : V.Bs), x ∈ V.splitOn c l → x.length ≤ l.length
  | [], x, h => by simp [V.splitOn] at h; simp [h]
  | y :: l, x, h => by
    have ih := splitOn_mem c l
    unfold V.splitOn at h
    by_cases hy : y = c
    · rw [if_pos hy] at h
      rcases List.mem_cons.1 h with h | h
      · simp [h]
      · have := ih x h; simp; omega
    · rw [if_neg hy] at h
      cases hs : V.splitOn c l with
      | nil => rw [hs] at h; simp at h; simp [h]
      | cons a t =>
        rw [hs] at h
        simp only [List.mem_cons] at h
        rcases h with h | h
        · have := ih a (by rw [hs]; simp); rw [h]; simp; omega
        · have := ih x (by rw [hs]; simp [h]); simp; omega
/-- The parts as strings that are not too long. -/
def pieces (c : UInt8) (s : ByteArray) (hs : s.size ≤ 1000000) : List Sh := (V.splitOn c (lst s)).attach.map fun x => ⟨str x.1, by rw [str_size]; have := splitOn_mem c _ _ x.2; rw [lst_length] at this; omega⟩
theorem pieces_length (c : UInt8) (s : ByteArray) (hs : s.size ≤ 1000000) : (pieces c s hs).length = (V.splitOn c (lst s)).length := by simp [pieces]
theorem pieces_val (c : UInt8) (s : ByteArray) (hs : s.size ≤ 1000000) : (pieces c s hs).map (fun x => Value.string x.1) = (V.splitOn c (lst s)).map fun l => Value.string (str l) := by
  unfold pieces
  rw [List.map_map]
  have e : ((fun x : Sh => Value.string x.1) ∘ fun x : {x // x ∈ V.splitOn c (lst s)} => (⟨str x.1, by rw [str_size]; have := splitOn_mem c _ _ x.2; rw [lst_length] at this; omega⟩ : Sh)) = (fun l => Value.string (str l)) ∘ (fun x : {x // x ∈ V.splitOn c (lst s)} => x.1) := rfl
  rw [e, ← List.map_map, List.attach_map_subtype_val]
theorem pieces_any (c : UInt8) (s : ByteArray) (hs : s.size ≤ 1000000) (p : V.Bs → Bool) : (pieces c s hs).any (fun x => !p (lst x.1)) = !(V.splitOn c (lst s)).all p := by
  have e : (pieces c s hs).any (fun x => !p (lst x.1)) = ((V.splitOn c (lst s)).attach.map (fun x => x.1)).any (fun l => !p l) := by
    unfold pieces
    rw [List.any_map, List.any_map]
    congr 1
  rw [e]
  rw [List.attach_map_subtype_val]
  rw [List.not_all_eq_any_not]
theorem cells_of_pieces (c : UInt8) (s : ByteArray) (hs : s.size ≤ 1000000) (w W : World) (b : Nat) (hb : W.heap[b]? = some (.cells (((V.splitOn c (lst s)).map fun l => Value.string (str l))).toArray 9)) : ∀ j, j < (pieces c s hs).length → W.cell? ⟨b, 0 + j, none⟩ = some (.string ((pieces c s hs)[j]!).1) := by
  intro j hj
  rw [Nat.zero_add, cell_of_row W b _ _ _ _ hb]
  rw [List.getElem?_toArray, ← pieces_val c s hs, List.getElem?_map, List.getElem?_eq_getElem hj]
  simp [hj]
theorem alloc_two (w : World) (o p : Obj) : ((w.alloc o).alloc p).heap[w.heap.size + 1]? = some p := by
  have e : (w.alloc o).heap.size = w.heap.size + 1 := by simp
  rw [← e]
  exact heap_alloc_new _ _
theorem splitOn_length (c : UInt8) : ∀ l : V.Bs, (V.splitOn c l).length ≤ l.length + 1
  | [] => by simp [V.splitOn]
  | y :: l => by
    have ih := splitOn_length c l
    unfold V.splitOn
    split
    · simp; omega
    · split
      · simp
      · rename_i h; rw [h] at ih; simp at ih ⊢; omega

theorem pred_atom (B : Nat) (w : World) (hB : B < w.heap.size) (hcell : w.cell? ⟨B, 0, none⟩ = some (.func (.func 47) #[] #[])) :
    PredAt Tryd.prog 63 #[.pointer (some ⟨B, 0, none⟩)] (fun x : Sh => Value.string x.1) (fun x => !V.atom (lst x.1)) w := fun W x hb => by
  have hc : W.cell? ⟨B, 0, none⟩ = some (.func (.func 47) #[] #[]) := (hb.cell (p := ⟨B, 0, none⟩) hB).trans hcell
  show Calls Tryd.prog 63 #[.string x.1, .pointer (some ⟨B, 0, none⟩)] W _
  obtain ⟨X, hX⟩ := x
  simp only
  go_enter Tryd.func63, Tryd.ntmps63
  go_wp2_with (first | (go_at_call 47; with_reducible refine Calls.mono (atom_any X W hX) ?_; rintro e w1 ⟨rfl, rfl⟩))
  go_ret
  exact ⟨rfl, 0, rfl⟩
set_option maxHeartbeats 1000000 in
theorem parts_atom (s : ByteArray) (most : Int) (hm0 : 0 ≤ most) (hm1 : most ≤ 100000) (w : World) (hs : s.size ≤ 1000000) (hv : Vars w) :
    Calls Tryd.prog 46 #[.string s, .int .i64 most, .func (.func 47) #[] #[]] w fun e w' => e = .returned (.bool (V.parts (lst s) most.toNat V.atom)) ∧ Below w.heap.size w w' := by
  obtain ⟨T, hT⟩ : ∃ T, T = V.parts (lst s) most.toNat V.atom := ⟨_, rfl⟩
  rw [← hT]
  have hT2 : T = (decide ((s.size : Int) ≤ most) && (V.splitOn 46 (lst s)).all V.atom) := by
    rw [hT]
    unfold V.parts
    congr 1
    rw [lst_length]
    exact decide_eq_decide.2 (by omega)
  have HT := Aside0.mk hT2
  clear hT hT2
  have HV := Aside0.mk hv
  clear hv
  go_enter Tryd.func46, Tryd.ntmps46
  by_cases hlen : (s.size : Int) ≤ most
  · have hT : T = !(pieces 46 s hs).any (fun x => !V.atom (lst x.1)) := by rw [HT.out, pieces_any, Bool.not_not, decide_eq_true hlen, Bool.true_and]
    have HTF := Aside0.mk hT
    clear hT
    have eg : ∀ args w, (callFunc 63 args).run Tryd.prog w = .ok (.enter 63 args) w := enters_of Tryd.func63 (by kernel_rfl) rfl
    have hcon : ∀ (w1 : World) (n : Nat), n = (V.splitOn 46 (lst s)).length → w1 = (w.alloc (.cells #[.func (.func 47) #[] #[]] 43)).alloc (.cells (((V.splitOn 46 (lst s)).map fun l => Value.string (str l))).toArray 9) →
        Calls Tryd.prog 62 #[.slice (some ⟨w.heap.size + 1, 0, none⟩) n n, .func (.func 63) #[] #[.pointer (some ⟨w.heap.size, 0, none⟩)]] w1 fun e w' => e = .returned (.bool ((pieces 46 s hs).any (fun x => !V.atom (lst x.1)))) ∧ ∃ q, w' = w1.drewN q := by
      intro w1 n hn hw1
      have hc := Tryd.slices_ContainsFunc (fun x : Sh => Value.string x.1) (fun x => !V.atom (lst x.1)) 63 #[.pointer (some ⟨w.heap.size, 0, none⟩)] eg (w.heap.size + 1) 0 n n (pieces 46 s hs) w1
        (pred_atom w.heap.size w1 (by rw [hw1]; simp; omega) (by rw [hw1]; simp)) (by rw [pieces_length]; omega) (by rw [hn]; have := splitOn_length 46 (lst s); rw [lst_length] at this; omega) (cells_of_pieces 46 s hs w w1 _ (by rw [hw1]; exact alloc_two _ _ _))
      rw [List.take_of_length_le (by rw [pieces_length]; omega)] at hc
      exact hc
    have HC := Aside0.mk hcon
    have HVA := Aside0.mk (HV.out.go ((Below.refl _ w).alloc (Nat.le_refl _) (.cells #[.func (.func 47) #[] #[]] 43)))
    clear hcon eg
    go_wp2_with (first | (go_at_call 19; with_reducible refine Calls.mono (split_any s 46 _ hs HVA.out _ rfl) ?_; rintro e w1 ⟨n, hn, rfl, hw1⟩; have HN := Aside0.mk hn; have HW := Aside0.mk hw1; clear hn hw1) | (go_at_call 62; with_reducible refine Calls.mono (HC.out w1 n HN.out HW.out) ?_; rintro e w2 ⟨rfl, q, rfl⟩))
    go_ret
    refine ⟨by rw [HTF.out]; rfl, ?_⟩
    rw [HW.out]
    exact below_drewN' (((Below.refl _ w).alloc (Nat.le_refl _) _).alloc (by simp) _) q
  · have hT : T = false := by rw [HT.out, decide_eq_false hlen]; rfl
    have HTF := Aside0.mk hT
    clear hT
    have t1 : decide ((s.size : Int) ≤ most) = false := decide_eq_false hlen
    go_wp2_with (fail)
    go_ret
    exact ⟨by rw [HTF.out]; rfl, (Below.refl _ _).alloc (Nat.le_refl _) _⟩

theorem pred_label (B : Nat) (w : World) (hB : B < w.heap.size) (hcell : w.cell? ⟨B, 0, none⟩ = some (.func (.func 55) #[] #[])) :
    PredAt Tryd.prog 63 #[.pointer (some ⟨B, 0, none⟩)] (fun x : Sh => Value.string x.1) (fun x => !V.label (lst x.1)) w := fun W x hb => by
  have hc : W.cell? ⟨B, 0, none⟩ = some (.func (.func 55) #[] #[]) := (hb.cell (p := ⟨B, 0, none⟩) hB).trans hcell
  show Calls Tryd.prog 63 #[.string x.1, .pointer (some ⟨B, 0, none⟩)] W _
  obtain ⟨X, hX⟩ := x
  simp only
  go_enter Tryd.func63, Tryd.ntmps63
  go_wp2_with (first | (go_at_call 55; with_reducible refine Calls.mono (label_any X W hX) ?_; rintro e w1 ⟨rfl, rfl⟩))
  go_ret
  exact ⟨rfl, 0, rfl⟩
set_option maxHeartbeats 1000000 in
theorem parts_label (s : ByteArray) (most : Int) (hm0 : 0 ≤ most) (hm1 : most ≤ 100000) (w : World) (hs : s.size ≤ 1000000) (hv : Vars w) :
    Calls Tryd.prog 46 #[.string s, .int .i64 most, .func (.func 55) #[] #[]] w fun e w' => e = .returned (.bool (V.parts (lst s) most.toNat V.label)) ∧ Below w.heap.size w w' := by
  obtain ⟨T, hT⟩ : ∃ T, T = V.parts (lst s) most.toNat V.label := ⟨_, rfl⟩
  rw [← hT]
  have hT2 : T = (decide ((s.size : Int) ≤ most) && (V.splitOn 46 (lst s)).all V.label) := by
    rw [hT]
    unfold V.parts
    congr 1
    rw [lst_length]
    exact decide_eq_decide.2 (by omega)
  have HT := Aside0.mk hT2
  clear hT hT2
  have HV := Aside0.mk hv
  clear hv
  go_enter Tryd.func46, Tryd.ntmps46
  by_cases hlen : (s.size : Int) ≤ most
  · have hT : T = !(pieces 46 s hs).any (fun x => !V.label (lst x.1)) := by rw [HT.out, pieces_any, Bool.not_not, decide_eq_true hlen, Bool.true_and]
    have HTF := Aside0.mk hT
    clear hT
    have eg : ∀ args w, (callFunc 63 args).run Tryd.prog w = .ok (.enter 63 args) w := enters_of Tryd.func63 (by kernel_rfl) rfl
    have hcon : ∀ (w1 : World) (n : Nat), n = (V.splitOn 46 (lst s)).length → w1 = (w.alloc (.cells #[.func (.func 55) #[] #[]] 43)).alloc (.cells (((V.splitOn 46 (lst s)).map fun l => Value.string (str l))).toArray 9) →
        Calls Tryd.prog 62 #[.slice (some ⟨w.heap.size + 1, 0, none⟩) n n, .func (.func 63) #[] #[.pointer (some ⟨w.heap.size, 0, none⟩)]] w1 fun e w' => e = .returned (.bool ((pieces 46 s hs).any (fun x => !V.label (lst x.1)))) ∧ ∃ q, w' = w1.drewN q := by
      intro w1 n hn hw1
      have hc := Tryd.slices_ContainsFunc (fun x : Sh => Value.string x.1) (fun x => !V.label (lst x.1)) 63 #[.pointer (some ⟨w.heap.size, 0, none⟩)] eg (w.heap.size + 1) 0 n n (pieces 46 s hs) w1
        (pred_label w.heap.size w1 (by rw [hw1]; simp; omega) (by rw [hw1]; simp)) (by rw [pieces_length]; omega) (by rw [hn]; have := splitOn_length 46 (lst s); rw [lst_length] at this; omega) (cells_of_pieces 46 s hs w w1 _ (by rw [hw1]; exact alloc_two _ _ _))
      rw [List.take_of_length_le (by rw [pieces_length]; omega)] at hc
      exact hc
    have HC := Aside0.mk hcon
    have HVA := Aside0.mk (HV.out.go ((Below.refl _ w).alloc (Nat.le_refl _) (.cells #[.func (.func 55) #[] #[]] 43)))
    clear hcon eg
    go_wp2_with (first | (go_at_call 19; with_reducible refine Calls.mono (split_any s 46 _ hs HVA.out _ rfl) ?_; rintro e w1 ⟨n, hn, rfl, hw1⟩; have HN := Aside0.mk hn; have HW := Aside0.mk hw1; clear hn hw1) | (go_at_call 62; with_reducible refine Calls.mono (HC.out w1 n HN.out HW.out) ?_; rintro e w2 ⟨rfl, q, rfl⟩))
    go_ret
    refine ⟨by rw [HTF.out]; rfl, ?_⟩
    rw [HW.out]
    exact below_drewN' (((Below.refl _ w).alloc (Nat.le_refl _) _).alloc (by simp) _) q
  · have hT : T = false := by rw [HT.out, decide_eq_false hlen]; rfl
    have HTF := Aside0.mk hT
    clear hT
    have t1 : decide ((s.size : Int) ≤ most) = false := decide_eq_false hlen
    go_wp2_with (fail)
    go_ret
    exact ⟨by rw [HTF.out]; rfl, (Below.refl _ _).alloc (Nat.le_refl _) _⟩
end Go.Proofs.YteiknmcmaemcoaaDoor
