/- What path's Parse answers. -/
import Derived.Test.YteiknmcmaemcoaaDoorProg
import Derived.WalkKit
import Derived.WalkLawsBesides
import Derived.Outline
import Derived.LoopTactic
import Derived.Lib.Hide
import Derived.Deep.QuietTactic
import Derived.BigQuiet
import Derived.Deep.LoopGhost
import Derived.Deep.DeepCutAuto
import Derived.Deep.CutBlock
import Derived.Deep.RegionHeld3
import Derived.Deep.RegionWith
import Derived.Deep.WholeRow
import Derived.Laws.Rows
import Derived.Laws.Tables
import Derived.Laws.ResultCell
import Derived.StillTailTactics
import Derived.Deep.DeepMust
import Derived.IntWalk
import Derived.KernelRfl
import Derived.Test.YteiknmcmaemcoaaDoorWWords
import Derived.Test.YteiknmcmaemcoaaDoorWLast
import Derived.Test.YteiknmcmaemcoaaDoorWMore
import Derived.RegionTactic
import Derived.Laws.ResultCell
import Derived.Test.YteiknmcmaemcoaaDoorVe
namespace Go.Proofs.YteiknmcmaemcoaaDoor
open Go.RowKit Go.Lib
open Go.Proofs.YteiknmcmaemcoaaDoorW.PrintWords
set_option linter.unusedVariables false
set_option linter.unusedSimpArgs false
theorem results_ct {P : Program} {fn : Func} {p u : Tmp} {ty : TypeId} (h : fn.results = #[.cell p ty, .tmp u]) (tmps : Array Value) (w : World) (g : Nat) (t : TypeId) (cs : Array Value) (fr : Nat × Nat) (d : TypeDesc)
    (hp : tmps.getD p undef = .pointer (some ⟨g, 0, none⟩)) (hg : w.heap[g]? = some (.cells cs t fr))
    (hu : P.underlying ty = some d) (hd : (match d with | .struct _ | .array _ _ => true | _ => false) = true) (hi : (P.info? ty).map (·.size) = some cs.size) (v : Value) (hv : tmps.getD u undef = v) :
    (results fn tmps).run P w = .ok (.tuple #[.agg cs, v]) w := by
  subst hv
  rw [results_cell_tmp h]
  have hp' : tmps[p]?.getD undef = .pointer (some ⟨g, 0, none⟩) := by simpa using hp
  simp [hp', asAddr, run_loadVar_row w g t ty cs fr d hg hu hd hi, Result.andThen]
/-- A block of three cells behind three stores. -/
theorem row3 {w : World} {g t : Nat} {fr : Nat × Nat} {x y z a b c : Value} (h : w.heap[g]? = some (.cells #[x, y, z] t fr)) : (((w.setCell ⟨g, 0, none⟩ a).setCell ⟨g, 1, none⟩ b).setCell ⟨g, 2, none⟩ c).heap[g]? = some (.cells #[a, b, c] t fr) := by
  have h1 := setCell_row _ g 0 _ _ _ a h
  have h2 := setCell_row _ g 1 _ _ _ b h1
  have h3 := setCell_row _ g 2 _ _ _ c h2
  exact h3
theorem unfroz {w : World} {g : Nat} {cs : Array Value} {t : TypeId} (h : w.heap[g]? = some (.cells cs t (0, 0))) (i : Nat) : w.frozen? ⟨g, i, none⟩ = false := by simp [World.frozen?, h]
theorem cells3 {w : World} {g t : Nat} {x y z : Value} (h : w.heap[g]? = some (.cells #[x, y, z] t (0, 0))) : w.cell? ⟨g, 0, none⟩ = some x ∧ w.cell? ⟨g, 1, none⟩ = some y ∧ w.cell? ⟨g, 2, none⟩ = some z ∧ w.frozen? ⟨g, 0, none⟩ = false ∧ w.frozen? ⟨g, 1, none⟩ = false ∧ w.frozen? ⟨g, 2, none⟩ = false := by
  refine ⟨?_, ?_, ?_, unfroz h _, unfroz h _, unfroz h _⟩
  · rw [cell_of_row w g _ _ _ _ h]; rfl
  · rw [cell_of_row w g _ _ _ _ h]; rfl
  · rw [cell_of_row w g _ _ _ _ h]; rfl
def pval (p : V.Path) : Value := .agg #[.bool p.null, .string (str p.loc), .string (str p.dom)]
def pres (o : Option V.Path) : Value := .tuple #[pval (o.getD V.noPath), .int .i64 (errOf o.isSome)]
set_option maxRecDepth 100000 in
set_option maxHeartbeats 1000000 in
theorem pparse_any (s : ByteArray) (w : World) (hs : s.size ≤ 100000) (hv : Vars w) :
    Calls Tryd.prog 44 #[.string s] w fun e w' => e = .returned (pres (V.pparse (lst s))) ∧ Below w.heap.size w w' := by
  obtain ⟨T, hT⟩ : ∃ T, T = pres (V.pparse (lst s)) := ⟨_, rfl⟩
  rw [← hT]
  have HT := Aside0.mk hT
  clear hT
  obtain ⟨N, hN⟩ : ∃ N : ByteArray, N = ⟨#[60, 62]⟩ := ⟨_, rfl⟩
  have HV := Aside0.mk hv
  clear hv
  go_enter Tryd.func44, Tryd.ntmps44
  by_cases hs0 : s = ⟨#[60, 62]⟩
  · have hT : T = .tuple #[.agg #[.bool true, .string ByteArray.empty, .string ByteArray.empty], .int .i64 0] := by
      rw [HT.out, hs0]; rfl
    have HTF := Aside0.mk hT
    clear hT
    subst hs0
    go_wp2_with (fail)
    refine bodyPost_ret (v := T) ?_ rfl ⟨rfl, (Below.refl _ _).alloc (Nat.le_refl _) _⟩
    rw [HTF.out]
    exact results_ct (by rfl) _ _ w.heap.size 23 _ (0, 0) _ rfl (heap_alloc_new _ _) Tryd.underlying23 rfl (by kernel_rfl) _ rfl
  · have t0 : (s.toList == [60, 62]) = false := by
      rw [ByteArray.toList_eq]
      simp only [beq_eq_false_iff_ne, ne_eq]
      intro h
      exact hs0 (by rw [← str_lst s, lst, h]; rfl)
    obtain ⟨m, hm⟩ := HV.out.mx
    obtain ⟨b1, hb1⟩ : ∃ b, b = decide ((lst s).head? = some 60) := ⟨_, rfl⟩
    obtain ⟨l1, hl1⟩ : ∃ l, l = if (lst s).head? = some 60 then (lst s).tail else lst s := ⟨_, rfl⟩
    obtain ⟨b2, hb2⟩ : ∃ b, b = decide (l1.getLast? = some 62) := ⟨_, rfl⟩
    obtain ⟨l2, hl2⟩ : ∃ l, l = if l1.getLast? = some 62 then l1.dropLast else l1 := ⟨_, rfl⟩
    obtain ⟨la, lb, b3, hcut⟩ : ∃ la lb b3, Lib.cut l2 [64] = (la, lb, b3) := ⟨_, _, _, rfl⟩
    have hle1 : l1.length ≤ 100000 := by have := lst_length s; rw [hl1]; split <;> simp <;> omega
    have hle2 : l2.length ≤ 100000 := by rw [hl2]; split
                                         · simp; omega
                                         · omega
    have hcc := V.cut_one 64 l2
    rw [hcut] at hcc
    have hab : la.length ≤ 100000 ∧ lb.length ≤ 100000 := by
      cases hx : V.cutAt 64 l2 with
      | none => rw [hx] at hcc; simp at hcc; obtain ⟨rfl, rfl, _⟩ := hcc; exact ⟨hle2, by simp⟩
      | some ab =>
        obtain ⟨a, b⟩ := ab
        rw [hx] at hcc; simp at hcc
        obtain ⟨rfl, rfl, _⟩ := hcc
        obtain ⟨h1, _⟩ := V.cutAt_some hx
        have := congrArg List.length h1
        simp at this
        omega
    have hT : T = pres (if b1 && b2 && b3 && V.check ⟨false, la, lb⟩ then some ⟨false, la, lb⟩ else none) := by
      rw [HT.out]
      congr 1
      unfold V.pparse
      rw [if_neg (by intro h; exact hs0 (by rw [← str_lst s, h]; rfl))]
      by_cases h1 : (lst s).head? = some 60
      · rw [if_pos h1] at hl1
        subst hl1
        by_cases h2 : (lst s).tail.getLast? = some 62
        · rw [if_pos h2] at hl2
          subst hl2
          rw [if_pos ⟨h1, h2⟩, hb1, hb2, decide_eq_true h1, decide_eq_true h2]
          cases hx : V.cutAt 64 (lst s).tail.dropLast with
          | none => rw [hx] at hcc; simp at hcc; obtain ⟨_, _, rfl⟩ := hcc; simp
          | some ab =>
            obtain ⟨a, b⟩ := ab
            rw [hx] at hcc; simp at hcc
            obtain ⟨rfl, rfl, rfl⟩ := hcc
            simp
        · rw [if_neg (fun h => h2 h.2), hb2, decide_eq_false h2]; simp
      · rw [if_neg (fun h => h1 h.1), hb1, decide_eq_false h1]; simp
    have hp1 : ∀ w, Calls Tryd.prog 56 #[.string s, .string ⟨#[60]⟩] w fun e w' => e = .returned (.tuple #[.string (str l1), .bool b1]) ∧ w = w' := by
      intro w
      refine (Tryd.strings_CutPrefix s ⟨#[60]⟩ w).mono ?_
      rintro e w' ⟨rfl, rfl⟩
      have e1 := V.trimPrefix_one 60 (lst s)
      have e2 := V.hasPrefix_one 60 (lst s)
      rw [← hl1] at e1
      rw [← hb1] at e2
      exact ⟨by rw [← e1, ← e2]; rfl, rfl⟩
    have hp2 : ∀ w, Calls Tryd.prog 57 #[.string (str l1), .string ⟨#[62]⟩] w fun e w' => e = .returned (.tuple #[.string (str l2), .bool b2]) ∧ w = w' := by
      intro w
      refine (Tryd.strings_CutSuffix (str l1) ⟨#[62]⟩ w (by rw [str_size]; omega)).mono ?_
      rintro e w' ⟨rfl, rfl⟩
      have e1 := V.trimSuffix_one 62 l1
      have e2 := V.hasSuffix_one 62 l1
      rw [← hl2] at e1
      rw [← hb2] at e2
      exact ⟨by rw [← e1, ← e2]; rfl, rfl⟩
    have hp3 : ∀ w, w.cell? ⟨0, 0, none⟩ = some (.int .i64 m) → Calls Tryd.prog 16 #[.string (str l2), .string ⟨#[64]⟩] w fun e w' => e = .returned (.tuple #[.string (str la), .string (str lb), .bool b3]) ∧ ∃ n, w' = w.drewN n := by
      intro w hm
      refine (Tryd.strings_Cut (str l2) ⟨#[64]⟩ m w (by rw [str_size]; omega) hm).mono ?_
      rintro e w' ⟨rfl, h⟩
      refine ⟨?_, h⟩
      have e0 : (str l2).data.toList = l2 := lst_str l2
      have e1 : (⟨#[64]⟩ : ByteArray).data.toList = [64] := rfl
      rw [e0, e1, hcut]
      rfl
    have HTF := Aside0.mk hT
    have HAB := Aside0.mk hab
    have HP1 := Aside0.mk hp1
    have HP2 := Aside0.mk hp2
    have HP3 := Aside0.mk hp3
    have HM := Aside0.mk hm
    clear hT hab hp1 hp2 hp3 hcc hcut hle1 hle2 hl1 hl2 hb1 hb2 hm hs0
    go_upto_region 5 with (first | (go_at_call 56; with_reducible refine Calls.mono (HP1.out _) ?_; rintro e w1 ⟨rfl, rfl⟩) | (go_at_call 57; with_reducible refine Calls.mono (HP2.out _) ?_; rintro e w2 ⟨rfl, rfl⟩))
    have hmc : ∀ o, (w.alloc o).cell? ⟨0, 0, none⟩ = some (.int .i64 m) := fun o => (((Below.refl _ w).alloc (Nat.le_refl _) o).cell (p := ⟨0, 0, none⟩) (by show 0 < w.heap.size; have := HV.out.low; omega)).trans HM.out
    have HMC := Aside0.mk hmc
    clear hmc
    go_upto_region 7 with (first | (go_at_call 16; with_reducible refine Calls.mono (HP3.out _ (HMC.out _)) ?_; rintro e w3 ⟨rfl, q, rfl⟩))
    obtain ⟨w5, hw5⟩ : ∃ w5, w5 = ((((w.alloc (.cells #[.bool false, .string { data := #[] }, .string { data := #[] }] 23)).drewN q).alloc (.cells #[.bool false, .string (str la), .string (str lb)] 23))) := ⟨_, rfl⟩
    rw [← hw5]
    have hr1 : w5.heap[w.heap.size]? = some (.cells #[.bool false, .string { data := #[] }, .string { data := #[] }] 23 (0, 0)) := by
      rw [hw5, heap_alloc_old _ _ (by show w.heap.size < (w.alloc _).heap.size; simp)]
      exact heap_alloc_new _ _
    have hr2 : w5.heap[w.heap.size + 1]? = some (.cells #[.bool false, .string (str la), .string (str lb)] 23 (0, 0)) := by
      rw [hw5]
      have := heap_alloc_new ((w.alloc (.cells #[.bool false, .string { data := #[] }, .string { data := #[] }] 23)).drewN q) (.cells #[.bool false, .string (str la), .string (str lb)] 23)
      have e : ((w.alloc (.cells #[.bool false, .string { data := #[] }, .string { data := #[] }] 23)).drewN q).heap.size = w.heap.size + 1 := by show (w.alloc _).heap.size = _; simp
      rw [e] at this
      exact this
    have hb5 : Below w.heap.size w w5 := by
      rw [hw5]
      exact (below_drewN' ((Below.refl _ w).alloc (Nat.le_refl _) _) q).alloc (by show w.heap.size ≤ (w.alloc _).heap.size; simp) _
    have hs5 : w5.heap.size = w.heap.size + 2 := by rw [hw5]; simp
    have HB5 := Aside0.mk hb5
    have HR1 := Aside0.mk hr1
    have HR2 := Aside0.mk hr2
    have HS5 := Aside0.mk hs5
    clear hw5 hb5 hr1 hr2 hs5
    obtain ⟨c1, c2, c3, f1, f2, f3⟩ := cells3 HR1.out
    obtain ⟨d1, d2, d3, g1, g2, g3⟩ := cells3 HR2.out
    by_cases hall : b1 = true ∧ b2 = true ∧ b3 = true
    · obtain ⟨rfl, rfl, rfl⟩ := hall
      cases hck : V.check ⟨false, la, lb⟩ with
      | true =>
        have HCK := Aside0.mk hck
        go_wp2_with (first | (go_at_call 38; with_reducible refine Calls.mono (check_any false (str la) (str lb) _ (by rw [str_size]; exact HAB.out.1) (by rw [str_size]; exact HAB.out.2) (HV.out.go HB5.out)) ?_; rintro e w6 ⟨rfl, h⟩; rw [lst_str, lst_str, HCK.out]; simp only [errOf, if_true]; have H6 := Aside0.mk h; clear h c1 c2 c3 f1 f2 f3 d1 d2 d3 g1 g2 g3; have R1 := Aside0.mk ((H6.out.block w.heap.size (by rw [HS5.out]; omega)).trans HR1.out); have R2 := Aside0.mk ((H6.out.block (w.heap.size + 1) (by rw [HS5.out]; omega)).trans HR2.out); obtain ⟨c1, c2, c3, f1, f2, f3⟩ := cells3 R1.out; obtain ⟨d1, d2, d3, g1, g2, g3⟩ := cells3 R2.out))
        refine bodyPost_ret (v := T) ?_ rfl ⟨rfl, ?_⟩
        · rw [HTF.out, HCK.out]
          exact results_ct (by rfl) _ _ w.heap.size 23 _ (0, 0) _ rfl (row3 R1.out) Tryd.underlying23 rfl (by kernel_rfl) _ rfl
        · exact (((HB5.out.trans (H6.out.mono HB5.out.size)).setCell (Nat.le_refl _) _).setCell (Nat.le_refl _) _).setCell (Nat.le_refl _) _
      | false =>
        have HCK := Aside0.mk hck
        go_wp2_with (first | (go_at_call 38; with_reducible refine Calls.mono (check_any false (str la) (str lb) _ (by rw [str_size]; exact HAB.out.1) (by rw [str_size]; exact HAB.out.2) (HV.out.go HB5.out)) ?_; rintro e w6 ⟨rfl, h⟩; rw [lst_str, lst_str, HCK.out]; simp only [errOf, Bool.false_eq_true, if_false]; have H6 := Aside0.mk h; clear h c1 c2 c3 f1 f2 f3 d1 d2 d3 g1 g2 g3; have R1 := Aside0.mk ((H6.out.block w.heap.size (by rw [HS5.out]; omega)).trans HR1.out); have R2 := Aside0.mk ((H6.out.block (w.heap.size + 1) (by rw [HS5.out]; omega)).trans HR2.out); obtain ⟨c1, c2, c3, f1, f2, f3⟩ := cells3 R1.out; obtain ⟨d1, d2, d3, g1, g2, g3⟩ := cells3 R2.out))
        refine bodyPost_ret (v := T) ?_ rfl ⟨rfl, ?_⟩
        · rw [HTF.out, HCK.out]
          exact results_ct (by rfl) _ _ w.heap.size 23 _ (0, 0) _ rfl (row3 R1.out) Tryd.underlying23 rfl (by kernel_rfl) _ rfl
        · exact (((HB5.out.trans (H6.out.mono HB5.out.size)).setCell (Nat.le_refl _) _).setCell (Nat.le_refl _) _).setCell (Nat.le_refl _) _
    · have hT : T = pres none := by
        rw [HTF.out]
        congr 1
        rw [if_neg]
        intro h
        simp only [Bool.and_eq_true] at h
        exact hall ⟨h.1.1.1, h.1.1.2, h.1.2⟩
      have HTG := Aside0.mk hT
      have hcases : b1 = false ∨ (b1 = true ∧ b2 = false) ∨ (b1 = true ∧ b2 = true ∧ b3 = false) := by cases b1 <;> cases b2 <;> cases b3 <;> simp_all
      clear hT hall HTF
      rcases hcases with rfl | ⟨rfl, rfl⟩ | ⟨rfl, rfl, rfl⟩
      all_goals go_wp2_with (fail)
      all_goals
        refine bodyPost_ret (v := T) ?_ rfl ⟨rfl, ?_⟩
        · rw [HTG.out]
          exact results_ct (by rfl) _ _ w.heap.size 23 _ (0, 0) _ rfl (row3 HR1.out) Tryd.underlying23 rfl (by kernel_rfl) _ rfl
        · exact ((HB5.out.setCell (Nat.le_refl _) _).setCell (Nat.le_refl _) _).setCell (Nat.le_refl _) _
end Go.Proofs.YteiknmcmaemcoaaDoor
