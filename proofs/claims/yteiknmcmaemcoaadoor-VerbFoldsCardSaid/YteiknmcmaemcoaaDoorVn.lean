/- What verb's alone answers: a map that is made, filled and read. -/
import Derived.Test.YteiknmcmaemcoaaDoorProg
import Derived.WalkKit
import Derived.WalkLawsBesides
import Derived.Outline
import Derived.LoopTactic
import Derived.Lib.Hide
import Derived.Deep.QuietTactic
import Derived.BigQuiet
import Derived.Deep.LoopGhost
import Derived.Deep.DeepCutAuto
import Derived.Deep.CutBlock
import Derived.Deep.RegionHeld3
import Derived.Deep.RegionWith
import Derived.Deep.WholeRow
import Derived.Laws.Rows
import Derived.Laws.Tables
import Derived.Laws.ResultCell
import Derived.StillTailTactics
import Derived.Deep.DeepMust
import Derived.IntWalk
import Derived.KernelRfl
import Derived.Test.YteiknmcmaemcoaaDoorWWords
import Derived.Test.YteiknmcmaemcoaaDoorWLast
import Derived.Test.YteiknmcmaemcoaaDoorWMore
import Derived.RegionTactic
import Derived.Maps.OwnSet
import Derived.Test.YteiknmcmaemcoaaDoorVm
namespace Go.Proofs.YteiknmcmaemcoaaDoor
open Go.RowKit Go.Lib Go.Maps
open Go.Proofs.YteiknmcmaemcoaaDoorW.PrintWords
set_option linter.unusedVariables false
set_option linter.unusedSimpArgs false
theorem wpList_insert_own {H : Type} {P : Program} (w : World) {ops : Array Oper} {rest : List Oper} {o : Oper} {a : Act} {Q : Exit → Act → World → Prop}
    (hg : o.guard = none) (m x v : Operand) (t : TypeId) (hop : o.op = Op.insert t m x v)
    (k e : TypeId) (K : Keyed P k) (ht : P.underlying t = some (.map k e)) (R : Value → Option (DataW H × List MemPlace)) (b n : Nat) (D : DataW H)
    (hm : a.eval m = .map (some b)) (hown : w.ownsMap P k R b n D) (hn : n < maxLen) (key val : Value) (kl : Lit) (hx : a.eval x = key) (hv : a.eval v = val) (hkey : keyOf P k key = some kl)
    (d : DataW H) (ps : List MemPlace) (hval : R val = some (d, ps))
    (hK : ∀ w', w'.ownsMap P k R b (n + 1) (D.put kl d) → w.grownBy w' (some b) → wpList P ops Q rest (a.put o.dst undef) w') :
    wpList P ops Q (o :: rest) a w := by
  refine wpList_plain hg fun K' hK' => ?_
  obtain ⟨w', hrun, r1, r2⟩ := hown.update K ht hn hkey hval
  unfold Oper.wp
  simp [execOp, hop, hm, hx, hv, hrun, Result.andThen]
  exact hK' _ _ (hK w' r1 r2)
theorem ownsMap_on {H : Type} {P : Program} {k : TypeId} {R : Value → Option (DataW H × List MemPlace)} {b n : Nat} {D : DataW H} {w w' : World} (h : w.ownsMap P k R b n D) (hb : w'.heap[b]? = w.heap[b]?) : w'.ownsMap P k R b n D := by
  obtain ⟨es, clock, h1, h2⟩ := h
  exact ⟨es, clock, hb.trans h1, h2⟩
/-- The entries of a map from words to numbers, the last one put ahead. -/
def V.words (T : List (V.Bs × Int)) : DataW Unit := T.foldr (fun p m => m.put (.string p.1) (.lit (.int .i64 p.2))) (.map [])
theorem V.words_map : ∀ T, IsMap (V.words T)
  | [] => isMap_empty
  | p :: T => (V.words_map T).put _ _
theorem V.words_has (l : V.Bs) : ∀ T, Maps.has (V.words T) (.string l) = T.any (fun p => decide (p.1 = l))
  | [] => rfl
  | p :: T => by
    show Maps.has ((V.words T).put (.string p.1) (.lit (.int .i64 p.2))) (.string l) = _
    by_cases h : p.1 = l
    · subst h
      rw [has_put_same (k := .string p.1) (V.words_map T) trivial]
      simp
    · rw [has_put_other (by intro e; injection e with e; exact h e.symm), V.words_has l T]
      simp [h]
def V.look (l : V.Bs) : List (V.Bs × Int) → Int
  | [] => 0
  | p :: T => if p.1 = l then p.2 else V.look l T
theorem V.words_at (l : V.Bs) : ∀ T, (V.words T).atKey (.string l) (.lit (.int .i64 0)) = .lit (.int .i64 (V.look l T))
  | [] => rfl
  | p :: T => by
    show ((V.words T).put (.string p.1) (.lit (.int .i64 p.2))).atKey (.string l) _ = _
    unfold V.look
    by_cases h : p.1 = l
    · subst h
      rw [atKey_put_same (k := .string p.1) (V.words_map T) trivial, if_pos rfl]
    · rw [atKey_put_other (by intro e; injection e with e; exact h e.symm), V.words_at l T, if_neg h]
/-- The words that stand alone. -/
def aloneT : List (V.Bs × Int) := [([97, 117, 116, 104, 32, 99, 114, 97, 109, 45, 109, 100, 53], 10), ([97, 116, 114, 110], 11), ([110, 111, 111, 112], 7), ([113, 117, 105, 116], 8), ([114, 115, 101, 116], 5), ([100, 97, 116, 97], 4)]
def V.aloneK (l : V.Bs) : Int := V.look (V.fold l) aloneT
def V.aloneB (l : V.Bs) : Bool := aloneT.any (fun p => decide (p.1 = V.fold l))
theorem lawS : Keyed Tryd.prog 9 := string_keyed Tryd.underlying9
theorem zeroI (w : World) : (zeroValue 3).run Tryd.prog w = .ok (.int .i64 0) w := by kernel_rfl
theorem keyS (s : ByteArray) (h : s.size ≤ 1000000) : keyOf Tryd.prog 9 (.string s) = some (.string (lst s)) := Go.WideMaps.keyOf_string_mk Tryd.underlying9 (by unfold maxLen; omega)
abbrev ownM (w : World) (b n : Nat) (T : List (V.Bs × Int)) : Prop := w.ownsMap Tryd.prog 9 (plainElem Tryd.prog 3) b n (V.words T)
theorem ins_step {ops : Array Oper} {rest : List Oper} {o : Oper} {a : Act} {Q : Exit → Act → World → Prop} (w : World) (hg : o.guard = none) (K : ByteArray) (c : Int) (hop : o.op = Op.insert 74 (.tmp 7) (.const (.string K)) (.const (.int .i64 c)))
    (b n : Nat) (T : List (V.Bs × Int)) (hm : a.eval (.tmp 7) = .map (some b)) (hown : ownM w b n T) (hn : n ≤ 100) (hK : K.size ≤ 100) (hc : (Lit.int .i64 c).wf = true) (k : V.Bs) (hk : k = lst K)
    (hq : ∀ w', ownM w' b (n + 1) ((k, c) :: T) → w.grownBy w' (some b) → wpList Tryd.prog ops Q rest (a.put o.dst undef) w') : wpList Tryd.prog ops Q (o :: rest) a w := by
  subst hk
  exact wpList_insert_own w hg _ _ _ _ hop 9 3 lawS Tryd.underlying74 _ b n (V.words T) hm hown (by unfold maxLen; omega) _ _ (.string (lst K)) rfl rfl (keyS K (by omega)) (.lit (.int .i64 c)) [] (plainElem_int Tryd.underlying3 hc) hq
set_option maxRecDepth 100000 in
set_option maxHeartbeats 4000000 in
theorem alone_any (s : ByteArray) (w : World) (hs : s.size ≤ 10000) :
    Calls Tryd.prog 32 #[.string s] w fun e w' => e = .returned (.tuple #[cval ⟨V.aloneK (lst s), [], V.noPath, []⟩ noSl, .bool (V.aloneB (lst s))]) ∧ Below w.heap.size w w' := by
  obtain ⟨F, hF⟩ : ∃ F, F = foldB s := ⟨_, rfl⟩
  have hfs : lst F = V.fold (lst s) := by rw [hF]; unfold foldB; rw [lst_str]
  have hfl : F.size ≤ 10000 := by rw [← lst_length, hfs, V.fold_length, lst_length]; exact hs
  have hcf : ∀ w, Calls Tryd.prog 17 #[.string s] w fun e w' => e = .returned (.string F) ∧ Below w.heap.size w w' := by
    intro w; rw [hF]; exact fold_any s w (by omega)
  have HF := Aside0.mk hfs
  have HCF := Aside0.mk hcf
  have hkey : keyOf Tryd.prog 9 (.string F) = some (.string (lst F)) := keyS F (by omega)
  have HKEY := Aside0.mk hkey
  clear hF hfs hcf hkey
  have hmm := @run_makeMap Tryd.prog
  obtain ⟨wM, hwM⟩ : ∃ wM, wM = (w.alloc (.cells #[.int .i64 0, .string { data := #[] }, .bool false, .string { data := #[] }, .string { data := #[] }, .slice none 0 0] 26)).alloc (.map #[] 0) := ⟨_, rfl⟩
  have hown : ownM wM (w.heap.size + 1) 0 [] := by
    rw [hwM]
    have h := World.ownsMap_made (w.alloc (.cells #[.int .i64 0, .string { data := #[] }, .bool false, .string { data := #[] }, .string { data := #[] }, .slice none 0 0] 26)) Tryd.prog 9 (plainElem (H := Unit) Tryd.prog 3)
    have e : (w.alloc (.cells #[.int .i64 0, .string { data := #[] }, .bool false, .string { data := #[] }, .string { data := #[] }, .slice none 0 0] 26)).heap.size = w.heap.size + 1 := by simp
    rw [e] at h
    exact h
  have hrow : wM.heap[w.heap.size]? = some (.cells #[.int .i64 0, .string { data := #[] }, .bool false, .string { data := #[] }, .string { data := #[] }, .slice none 0 0] 26 (0, 0)) := by
    rw [hwM, heap_alloc_old _ _ (by simp)]
    exact heap_alloc_new _ _
  have hbM : Below w.heap.size w wM := by
    rw [hwM]
    exact ((Below.refl _ w).alloc (Nat.le_refl _) _).alloc (by simp) _
  have HROW := Aside0.mk hrow
  have HBM := Aside0.mk hbM
  have hszM : wM.heap.size = w.heap.size + 2 := by rw [hwM]; simp
  have HSM := Aside0.mk hszM
  subst hwM
  have HO := Aside0.mk hown
  clear hown hrow hbM hszM
  go_enter Tryd.func32, Tryd.ntmps32
  go_upto_region 2 with (first | ((with_reducible refine gate_ (.insert 74 (.tmp 7) (.const (.string { data := #[100, 97, 116, 97] })) (.const (.int .i64 4))) rfl ?_); refine ins_step _ rfl _ _ rfl (w.heap.size + 1) 0 [] rfl HO.out (by decide) (by decide) (by decide) [100, 97, 116, 97] rfl ?_; intro w0 ho hg; have HO0 := Aside0.mk ho; have HG0 := Aside0.mk hg; clear ho hg) | ((with_reducible refine gate_ (.insert 74 (.tmp 7) (.const (.string { data := #[114, 115, 101, 116] })) (.const (.int .i64 5))) rfl ?_); refine ins_step _ rfl _ _ rfl (w.heap.size + 1) 1 [([100, 97, 116, 97], 4)] rfl HO0.out (by decide) (by decide) (by decide) [114, 115, 101, 116] rfl ?_; intro w1 ho hg; have HO1 := Aside0.mk ho; have HG1 := Aside0.mk hg; clear ho hg) | ((with_reducible refine gate_ (.insert 74 (.tmp 7) (.const (.string { data := #[113, 117, 105, 116] })) (.const (.int .i64 8))) rfl ?_); refine ins_step _ rfl _ _ rfl (w.heap.size + 1) 2 [([114, 115, 101, 116], 5), ([100, 97, 116, 97], 4)] rfl HO1.out (by decide) (by decide) (by decide) [113, 117, 105, 116] rfl ?_; intro w2 ho hg; have HO2 := Aside0.mk ho; have HG2 := Aside0.mk hg; clear ho hg) | ((with_reducible refine gate_ (.insert 74 (.tmp 7) (.const (.string { data := #[110, 111, 111, 112] })) (.const (.int .i64 7))) rfl ?_); refine ins_step _ rfl _ _ rfl (w.heap.size + 1) 3 [([113, 117, 105, 116], 8), ([114, 115, 101, 116], 5), ([100, 97, 116, 97], 4)] rfl HO2.out (by decide) (by decide) (by decide) [110, 111, 111, 112] rfl ?_; intro w3 ho hg; have HO3 := Aside0.mk ho; have HG3 := Aside0.mk hg; clear ho hg) | ((with_reducible refine gate_ (.insert 74 (.tmp 7) (.const (.string { data := #[97, 116, 114, 110] })) (.const (.int .i64 11))) rfl ?_); refine ins_step _ rfl _ _ rfl (w.heap.size + 1) 4 [([110, 111, 111, 112], 7), ([113, 117, 105, 116], 8), ([114, 115, 101, 116], 5), ([100, 97, 116, 97], 4)] rfl HO3.out (by decide) (by decide) (by decide) [97, 116, 114, 110] rfl ?_; intro w4 ho hg; have HO4 := Aside0.mk ho; have HG4 := Aside0.mk hg; clear ho hg) | ((with_reducible refine gate_ (.insert 74 (.tmp 7) (.const (.string { data := #[97, 117, 116, 104, 32, 99, 114, 97, 109, 45, 109, 100, 53] })) (.const (.int .i64 10))) rfl ?_); refine ins_step _ rfl _ _ rfl (w.heap.size + 1) 5 [([97, 116, 114, 110], 11), ([110, 111, 111, 112], 7), ([113, 117, 105, 116], 8), ([114, 115, 101, 116], 5), ([100, 97, 116, 97], 4)] rfl HO4.out (by decide) (by decide) (by decide) [97, 117, 116, 104, 32, 99, 114, 97, 109, 45, 109, 100, 53] rfl ?_; intro w5 ho hg; have HO5 := Aside0.mk ho; have HG5 := Aside0.mk hg; clear ho hg))
  have hgo : ∀ {w1 w2 : World}, Below w.heap.size w w1 ∧ w1.heap[w.heap.size]? = some (.cells #[.int .i64 0, .string { data := #[] }, .bool false, .string { data := #[] }, .string { data := #[] }, .slice none 0 0] 26 (0, 0)) ∧ w.heap.size + 2 ≤ w1.heap.size → w1.grownBy w2 (some (w.heap.size + 1)) → Below w.heap.size w w2 ∧ w2.heap[w.heap.size]? = some (.cells #[.int .i64 0, .string { data := #[] }, .bool false, .string { data := #[] }, .string { data := #[] }, .slice none 0 0] 26 (0, 0)) ∧ w.heap.size + 2 ≤ w2.heap.size := by
    intro w1 w2 h hg
    refine ⟨h.1.grown hg h.1.size (fun j hj => by cases hj; omega), ?_, Nat.le_trans h.2.2 hg.size⟩
    rw [hg.block w.heap.size (by omega) (by intro e; injection e with e; omega)]
    exact h.2.1
  have h5 := hgo (hgo (hgo (hgo (hgo (hgo ⟨HBM.out, HROW.out, Nat.le_of_eq HSM.out.symm⟩ HG0.out) HG1.out) HG2.out) HG3.out) HG4.out) HG5.out
  have H5 := Aside0.mk h5
  clear hgo h5 HG0 HG1 HG2 HG3 HG4 HG5 HO HO0 HO1 HO2 HO3 HO4 HBM HROW HSM hmm
  have hown6 : ∀ w6, Below w5.heap.size w5 w6 → ownM w6 (w.heap.size + 1) 6 aloneT := fun w6 h => ownsMap_on HO5.out (h.block _ (by have := H5.out.2.2; omega))
  have HOW := Aside0.mk hown6
  clear hown6
  go_wp2_with (first | (go_at_call 17; (with_reducible refine Calls.mono (HCF.out _) ?_); rintro e w6 ⟨rfl, h⟩; have H6 := Aside0.mk h; have HO6 := Aside0.mk (HOW.out _ h); have R := Aside0.mk ((h.block w.heap.size (by have := H5.out.2.2; omega)).trans H5.out.2.1); clear h; obtain ⟨⟨c0, c1, c2, c3, c4, c5⟩, f0, f1, f2, f3, f4, f5⟩ := cells6 R.out) | ((with_reducible refine gate_dst (N := 13) rfl ?_); refine wpList_lookup_own_ok_int _ rfl _ _ 74 rfl 9 3 .i64 lawS Tryd.underlying74 Tryd.underlying3 (zeroI _) (w.heap.size + 1) 6 (V.words aloneT) rfl HO6.out (.string F) (.string (lst F)) rfl HKEY.out ?_; intro c hat hwc; rw [V.words_has, HF.out]; have HAT := Aside0.mk hat; clear hat hwc))
  have hc : c = V.aloneK (lst s) := by
    have h := HAT.out
    rw [V.words_at, HF.out] at h
    injection h with h
    injection h with h1 h2
    exact h2.symm
  subst hc
  refine bodyPost_ret (v := .tuple #[cval ⟨V.aloneK (lst s), [], V.noPath, []⟩ noSl, .bool (V.aloneB (lst s))]) ?_ rfl ⟨rfl, below6 (H5.out.1.trans (H6.out.mono H5.out.1.size)) (Nat.le_refl _)⟩
  exact results_ct (by rfl) _ _ w.heap.size 26 _ (0, 0) _ rfl (row6 R.out) Tryd.underlying26 rfl (by kernel_rfl) _ rfl
end Go.Proofs.YteiknmcmaemcoaaDoor
