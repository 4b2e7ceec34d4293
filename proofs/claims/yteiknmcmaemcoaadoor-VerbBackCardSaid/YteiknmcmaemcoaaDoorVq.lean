/- What verb's line answers. -/
import Derived.Test.YteiknmcmaemcoaaDoorProg
import Derived.WalkKit
import Derived.WalkLawsBesides
import Derived.Outline
import Derived.LoopTactic
import Derived.Lib.Hide
import Derived.Deep.QuietTactic
import Derived.BigQuiet
import Derived.Deep.LoopGhost
import Derived.Deep.DeepCutAuto
import Derived.Deep.CutBlock
import Derived.Deep.RegionHeld3
import Derived.Deep.RegionWith
import Derived.Deep.WholeRow
import Derived.Laws.Rows
import Derived.Laws.Tables
import Derived.Laws.ResultCell
import Derived.StillTailTactics
import Derived.Deep.DeepMust
import Derived.IntWalk
import Derived.KernelRfl
import Derived.Test.YteiknmcmaemcoaaDoorWWords
import Derived.Test.YteiknmcmaemcoaaDoorWLast
import Derived.Test.YteiknmcmaemcoaaDoorWMore
import Derived.RegionTactic
import Derived.Maps.OwnSet
import Derived.Test.YteiknmcmaemcoaaDoorVp
namespace Go.Proofs.YteiknmcmaemcoaaDoor
open Go.RowKit Go.Lib Go.Maps
open Go.Proofs.YteiknmcmaemcoaaDoorW.PrintWords
set_option linter.unusedVariables false
set_option linter.unusedSimpArgs false
/-- The entries of a map from numbers to texts, the last one put ahead. -/
def V.texts (T : List (Int × V.Bs)) : DataW Unit := T.foldr (fun p m => m.put (.int .i64 p.1) (.lit (.string p.2))) (.map [])
theorem V.texts_map : ∀ T, IsMap (V.texts T)
  | [] => isMap_empty
  | p :: T => (V.texts_map T).put _ _
def V.lookT (k : Int) : List (Int × V.Bs) → V.Bs
  | [] => []
  | p :: T => if p.1 = k then p.2 else V.lookT k T
theorem V.texts_at (k : Int) : ∀ T, (V.texts T).atKey (.int .i64 k) (.lit (.string [])) = .lit (.string (V.lookT k T))
  | [] => rfl
  | p :: T => by
    show ((V.texts T).put (.int .i64 p.1) (.lit (.string p.2))).atKey (.int .i64 k) _ = _
    unfold V.lookT
    by_cases h : p.1 = k
    · subst h
      rw [atKey_put_same (k := .int .i64 p.1) (V.texts_map T) trivial, if_pos rfl]
    · rw [atKey_put_other (by intro e; injection e with _ e; exact h e.symm), V.texts_at k T, if_neg h]
def lEHLO : V.Bs := [69, 72, 76, 79, 32]
def lMAIL : V.Bs := [77, 65, 73, 76, 32, 70, 82, 79, 77, 58]
def lRCPT : V.Bs := [82, 67, 80, 84, 32, 84, 79, 58]
def lDATA : V.Bs := [68, 65, 84, 65]
def lRSET : V.Bs := [82, 83, 69, 84]
def lVRFY : V.Bs := [86, 82, 70, 89, 32]
def lNOOP : V.Bs := [78, 79, 79, 80]
def lQUIT : V.Bs := [81, 85, 73, 84]
def lETRN : V.Bs := [69, 84, 82, 78, 32]
def lAUTH : V.Bs := [65, 85, 84, 72, 32, 67, 82, 65, 77, 45, 77, 68, 53]
def lATRN : V.Bs := [65, 84, 82, 78]
def lineT (t box : V.Bs) : List (Int × V.Bs) := [(11, lATRN), (10, lAUTH), (9, lETRN ++ t), (8, lQUIT), (7, lNOOP), (6, lVRFY ++ t), (5, lRSET), (4, lDATA), (3, lRCPT ++ box), (2, lMAIL ++ box), (1, lEHLO ++ t)]
def V.prmB (p : Prm) : V.Bs := 32 :: p.1 ++ 61 :: p.2
def V.lineB (c : V.Cmd) : V.Bs := V.lookT c.kind (lineT c.text ((V.ptext c.path).getD [])) ++ (if c.kind = 11 ∧ c.text ≠ [] then 32 :: c.text else [])
/-- A command's line. -/
def V.line (c : V.Cmd) : V.Bs := V.lineB c ++ c.prms.flatMap V.prmB
theorem plainStr_inv {H : Type} {P : Program} {e : TypeId} (he : P.underlying e = some .string) {v : Value} {z : DataW H × List MemPlace} (h : plainElem P e v = some z) : ∃ s : ByteArray, v = .string s ∧ z = (.lit (.string s.data.toList), []) := by
  unfold plainElem at h
  rw [he] at h
  cases v <;> simp at h
  obtain ⟨h1, h2⟩ := h
  exact ⟨_, rfl, h2.symm⟩
theorem wpList_lookup_own_str {P : Program} (w : World) {ops : Array Oper} {rest : List Oper} {o : Oper} {a : Act} {Q : Exit → Act → World → Prop} (hg : o.guard = none) (m x : Operand) (t : TypeId) (hop : o.op = Op.lookup t m x false)
    (k e : TypeId) (K : Keyed P k) (ht : P.underlying t = some (.map k e)) (he : P.underlying e = some .string) (hz : (zeroValue e).run P w = .ok (.string ByteArray.empty) w) (b n : Nat) (D : DataW Unit)
    (hm : a.eval m = .map (some b)) (hown : w.ownsMap P k (plainElem P e) b n D) (key : Value) (kl : Lit) (hx : a.eval x = key) (hkey : keyOf P k key = some kl)
    (hK : ∀ s : ByteArray, D.atKey kl (.lit (.string [])) = .lit (.string s.data.toList) → wpList P ops Q rest (a.put o.dst (.string s)) w) :
    wpList P ops Q (o :: rest) a w := by
  refine wpList_plain hg fun K' hK' => ?_
  obtain ⟨v, ps, hrun, hv⟩ := hown.lookup K ht hz (plainElem_string (H := Unit) he (s := ByteArray.empty) (by unfold maxLen; decide)) hkey
  obtain ⟨s, rfl, hs⟩ := plainStr_inv he hv
  unfold Oper.wp
  simp [execOp, hop, hm, hx, hrun, Result.andThen]
  exact hK' _ _ (hK s (congrArg Prod.fst hs))
theorem lawI : Keyed Tryd.prog 3 := int_keyed Tryd.underlying3
theorem zeroS (w : World) : (zeroValue 9).run Tryd.prog w = .ok (.string ByteArray.empty) w := by kernel_rfl
abbrev ownI (w : World) (b n : Nat) (T : List (Int × V.Bs)) : Prop := w.ownsMap Tryd.prog 3 (plainElem Tryd.prog 9) b n (V.texts T)
theorem insI_step {ops : Array Oper} {rest : List Oper} {o : Oper} {a : Act} {Q : Exit → Act → World → Prop} (w : World) (hg : o.guard = none) (k : Int) (v : Operand) (hop : o.op = Op.insert 61 (.tmp 14) (.const (.int .i64 k)) v)
    (b n : Nat) (T : List (Int × V.Bs)) (hm : a.eval (.tmp 14) = .map (some b)) (hown : ownI w b n T) (hn : n ≤ 100) (hk : (Lit.int .i64 k).wf = true) (S : ByteArray) (hv : a.eval v = .string S) (hS : S.size ≤ 1000000) (x : V.Bs) (hx : x = lst S)
    (hq : ∀ w', ownI w' b (n + 1) ((k, x) :: T) → w.grownBy w' (some b) → wpList Tryd.prog ops Q rest (a.put o.dst undef) w') : wpList Tryd.prog ops Q (o :: rest) a w := by
  subst hx
  exact wpList_insert_own w hg _ _ _ _ hop 3 9 lawI Tryd.underlying61 _ b n (V.texts T) hm hown (by unfold maxLen; omega) _ _ (.int .i64 k) rfl hv (keyOf_int_mk Tryd.underlying3 hk) (.lit (.string (lst S))) [] (plainElem_string Tryd.underlying9 (by unfold maxLen; omega)) hq
theorem cat2 {a b : V.Bs} {A B C : ByteArray} (hA : A = str a) (hB : B = str b) (hC : C = str (a ++ b)) (ha : a.length ≤ 1000000) (hb : b.length ≤ 1000000) (w : World) : (Op.stringOp .add A B).run Tryd.prog w = .ok (.string C) w :=
  cat_run A B C (by rw [hC, hA, hB, str_append]) (by rw [hA, str_size]; exact ha) (by rw [hB, str_size]; exact hb) w
/-- What an insert keeps. -/
def Kept2 (g M : Nat) (v0 v1 : Value) (w0 w : World) (R : Array Value) : Prop := w.cell? ⟨g, 0, none⟩ = some v0 ∧ w.cell? ⟨g, 1, none⟩ = some v1 ∧ w.heap[g]? = some (.cells R 26 (0, 0)) ∧ Below g w0 w ∧ M < w.heap.size
theorem kept2 {g M : Nat} {v0 v1 : Value} {w0 w w' : World} {R : Array Value} (hg : w.grownBy w' (some M)) (h : Kept2 g M v0 v1 w0 w R) (hne : g ≠ M) (hlt : g < M) : Kept2 g M v0 v1 w0 w' R := by
  obtain ⟨h0, h1, h2, h3, h4⟩ := h
  have hl : g < w.heap.size := (Array.getElem?_eq_some_iff.1 h2).1
  have e := hg.block g hl (by intro e; injection e with e; exact hne e)
  have h2' := e.trans h2
  refine ⟨?_, ?_, h2', h3.grown hg (by omega) (fun j hj => by cases hj; omega), Nat.lt_of_lt_of_le h4 hg.size⟩
  · rw [← h0]; unfold World.cell?; rw [e]
  · rw [← h1]; unfold World.cell?; rw [e]
theorem flat_take (xs : List Prm) (n : Nat) (hn : n < xs.length) (x : Prm) (hx : x = xs.getD n ([], [])) : (xs.take (n + 1)).flatMap V.prmB = (xs.take n).flatMap V.prmB ++ V.prmB x := by
  have e : xs.take (n + 1) = xs.take n ++ [x] := by
    rw [List.take_succ_eq_append_getElem hn, hx]; simp [List.getD_eq_getElem?_getD, hn]
  rw [e, List.flatMap_append]
  simp
theorem flat_len (xs : List Prm) (n : Nat) : ((xs.take n).flatMap V.prmB).length ≤ (xs.flatMap V.prmB).length := by
  conv => rhs; rw [← List.take_append_drop n xs]
  rw [List.flatMap_append, List.length_append]
  omega
theorem look_le (k : Int) : ∀ (T : List (Int × V.Bs)), (∀ x ∈ T, x.2.length ≤ 50000) → (V.lookT k T).length ≤ 50000
  | [], _ => by simp [V.lookT]
  | p :: T, h => by
    unfold V.lookT
    split
    · exact h p (by simp)
    · exact look_le k T (fun x hx => h x (by simp [hx]))
set_option maxRecDepth 100000 in
set_option maxHeartbeats 4000000 in
theorem line_any (k : Int) (t : ByteArray) (n : Bool) (l d : ByteArray) (A : Option Addr) (q : Nat) (xs : List Prm) (w : World) (hk : (Lit.int .i64 k).wf = true) (ht : t.size ≤ 10000) (hl : l.size ≤ 10000) (hd : d.size ≤ 10000) (hx : Kd.C kp w A xs.length xs) (hn : xs.length ≤ 10000)
    (hlen : (xs.flatMap V.prmB).length ≤ 100000) (hv : Vars w) :
    Calls Tryd.prog 14 #[.agg #[.int .i64 k, .string t, .bool n, .string l, .string d, .slice A xs.length q]] w fun e w' => e = .returned (.string (str (V.line ⟨k, lst t, ⟨n, lst l, lst d⟩, xs⟩))) ∧ Below w.heap.size w w' := by
  obtain ⟨T, hT⟩ : ∃ T, T = V.line ⟨k, lst t, ⟨n, lst l, lst d⟩, xs⟩ := ⟨_, rfl⟩
  rw [← hT]
  have HT := Aside0.mk hT
  obtain ⟨w0, hw0⟩ : ∃ w0, w0 = w.alloc (.cells #[.int .i64 k, .string t, .bool n, .string l, .string d, .slice A xs.length q] 26) := ⟨_, rfl⟩
  have hb0 : Below w.heap.size w w0 := by rw [hw0]; exact (Below.refl _ w).alloc (Nat.le_refl _) _
  have hr0 : w0.heap[w.heap.size]? = some (.cells #[.int .i64 k, .string t, .bool n, .string l, .string d, .slice A xs.length q] 26 (0, 0)) := by rw [hw0]; exact heap_alloc_new _ _
  have hs0 : w.heap.size < w0.heap.size := (Array.getElem?_eq_some_iff.1 hr0).1
  obtain ⟨bx, hbx⟩ : ∃ bx, bx = (V.ptext ⟨n, lst l, lst d⟩).getD [] := ⟨_, rfl⟩
  obtain ⟨er, her⟩ : ∃ er, er = errOf (V.check ⟨n, lst l, lst d⟩) := ⟨_, rfl⟩
  have hpt : Calls Tryd.prog 27 #[.agg #[.bool n, .string l, .string d]] w0 fun e w' => e = .returned (.tuple #[.string (str bx), .int .i64 er]) ∧ Below w0.heap.size w0 w' := by
    have h := ptext_any n l d w0 (by omega) (by omega) (hv.go hb0)
    have e : textB n l d = str bx := by
      unfold textB
      rw [hbx]
      cases V.ptext ⟨n, lst l, lst d⟩ <;> rfl
    rw [e, ← her] at h
    exact h
  have hbl : bx.length ≤ 20003 := by
    rw [hbx]
    unfold V.ptext
    split
    · split
      · simp
      · simp [lst_length]; omega
    · simp
  obtain ⟨⟨a0, a1, a2, a3, a4, a5⟩, _⟩ := cells6 hr0
  have HPT := Aside0.mk hpt
  have HR0 := Aside0.mk hr0
  have HB0 := Aside0.mk hb0
  have HBX := Aside0.mk hbx
  have HX := Aside0.mk hx
  have hmm := @run_makeMap Tryd.prog
  obtain ⟨SE, hSE⟩ : ∃ S, S = str (lEHLO ++ lst t) := ⟨_, rfl⟩
  obtain ⟨SM, hSM⟩ : ∃ S, S = str (lMAIL ++ bx) := ⟨_, rfl⟩
  obtain ⟨SR, hSR⟩ : ∃ S, S = str (lRCPT ++ bx) := ⟨_, rfl⟩
  obtain ⟨SV, hSV⟩ : ∃ S, S = str (lVRFY ++ lst t) := ⟨_, rfl⟩
  obtain ⟨SN, hSN⟩ : ∃ S, S = str (lETRN ++ lst t) := ⟨_, rfl⟩
  have htl : (lst t).length ≤ 10000 := by rw [lst_length]; exact ht
  have f1 := cat2 (A := ⟨#[69, 72, 76, 79, 32]⟩) (B := t) (a := lEHLO) rfl (str_lst t).symm hSE (by decide) (by omega)
  have f2 := cat2 (A := ⟨#[77, 65, 73, 76, 32, 70, 82, 79, 77, 58]⟩) (B := str bx) (a := lMAIL) rfl rfl hSM (by decide) (by omega)
  have f3 := cat2 (A := ⟨#[82, 67, 80, 84, 32, 84, 79, 58]⟩) (B := str bx) (a := lRCPT) rfl rfl hSR (by decide) (by omega)
  have f4 := cat2 (A := ⟨#[86, 82, 70, 89, 32]⟩) (B := t) (a := lVRFY) rfl (str_lst t).symm hSV (by decide) (by omega)
  have f5 := cat2 (A := ⟨#[69, 84, 82, 78, 32]⟩) (B := t) (a := lETRN) rfl (str_lst t).symm hSN (by decide) (by omega)
  have sE : SE.size ≤ 1000000 := by rw [hSE, str_size]; simp [lEHLO]; omega
  have sM : SM.size ≤ 1000000 := by rw [hSM, str_size]; simp [lMAIL]; omega
  have sR : SR.size ≤ 1000000 := by rw [hSR, str_size]; simp [lRCPT]; omega
  have sV : SV.size ≤ 1000000 := by rw [hSV, str_size]; simp [lVRFY]; omega
  have sN : SN.size ≤ 1000000 := by rw [hSN, str_size]; simp [lETRN]; omega
  have HSE := Aside0.mk (show lEHLO ++ lst t = lst SE by rw [hSE, lst_str])
  have HSM := Aside0.mk (show lMAIL ++ bx = lst SM by rw [hSM, lst_str])
  have HSR := Aside0.mk (show lRCPT ++ bx = lst SR by rw [hSR, lst_str])
  have HSV := Aside0.mk (show lVRFY ++ lst t = lst SV by rw [hSV, lst_str])
  have HSN := Aside0.mk (show lETRN ++ lst t = lst SN by rw [hSN, lst_str])
  have HV := Aside0.mk hv
  clear hT hpt hr0 hb0 hbx hx her hSE hSM hSR hSV hSN hv
  go_enter Tryd.func14, Tryd.ntmps14
  go_upto_region 1 with (fail)
  rw [← hw0]
  clear hw0
  go_upto_region 2 with (first | (go_at_call 27; (with_reducible refine Calls.mono HPT.out ?_); rintro e w1 ⟨rfl, h⟩; have H1 := Aside0.mk h; clear h))
  obtain ⟨wM, hwM⟩ : ∃ wM, wM = w1.alloc (.map #[] 0) := ⟨_, rfl⟩
  obtain ⟨M, hM⟩ : ∃ M, M = w1.heap.size := ⟨_, rfl⟩
  have hr1 : w1.heap[w.heap.size]? = some (.cells #[.int .i64 k, .string t, .bool n, .string l, .string d, .slice A xs.length q] 26 (0, 0)) := (H1.out.block _ hs0).trans HR0.out
  have hrM : wM.heap[w.heap.size]? = some (.cells #[.int .i64 k, .string t, .bool n, .string l, .string d, .slice A xs.length q] 26 (0, 0)) := by
    rw [hwM, heap_alloc_old _ _ (Nat.lt_of_lt_of_le hs0 H1.out.size)]; exact hr1
  have hb1 : Below w.heap.size w w1 := HB0.out.trans (H1.out.mono HB0.out.size)
  obtain ⟨⟨m0, m1, _⟩, _⟩ := cells6 hrM
  have hkc : Kept2 w.heap.size M (.int .i64 k) (.string t) w wM #[.int .i64 k, .string t, .bool n, .string l, .string d, .slice A xs.length q] := by
    refine ⟨m0, m1, hrM, ?_, ?_⟩
    · rw [hwM]; exact hb1.alloc (Nat.le_trans (Nat.le_of_lt hs0) H1.out.size) _
    · rw [hwM, hM]; simp
  have hown : ownI wM M 0 [] := by rw [hwM, hM]; exact World.ownsMap_made w1 Tryd.prog 3 (plainElem (H := Unit) Tryd.prog 9)
  have hlt : w.heap.size < M := by rw [hM]; exact Nat.lt_of_lt_of_le hs0 H1.out.size
  have HLT := Aside0.mk hlt
  have HNE := Aside0.mk (show w.heap.size ≠ M by omega)
  have HO := Aside0.mk hown
  have KC := Aside0.mk hkc
  clear hr1 hrM hb1 hkc hown hlt a0 a1 a2 a3 a4 a5
  have hmk : (Instr.makeMap 61 none).run Tryd.prog w1 = .ok (.map (some M)) wM := by rw [hmm, hwM, hM]
  clear hmm hwM hM
  go_upto_region 3 with (first | ((with_reducible refine gate_ (.insert 61 (.tmp 14) (.const (.int .i64 1)) (.tmp 17)) rfl ?_); refine insI_step _ rfl 1 _ rfl M 0 [] rfl HO.out (by decide) (by decide) SE rfl (by omega) (lEHLO ++ lst t) HSE.out ?_; intro w0 ho hg; have HO0 := Aside0.mk ho; have KC0 := Aside0.mk (kept2 hg KC.out HNE.out HLT.out); have k0_0 := KC0.out.1; have k1_0 := KC0.out.2.1; clear ho hg) | ((with_reducible refine gate_ (.insert 61 (.tmp 14) (.const (.int .i64 2)) (.tmp 19)) rfl ?_); refine insI_step _ rfl 2 _ rfl M 1 [(1, lEHLO ++ lst t)] rfl HO0.out (by decide) (by decide) SM rfl (by omega) (lMAIL ++ bx) HSM.out ?_; intro w1 ho hg; have HO1 := Aside0.mk ho; have KC1 := Aside0.mk (kept2 hg KC0.out HNE.out HLT.out); have k0_1 := KC1.out.1; have k1_1 := KC1.out.2.1; clear ho hg) | ((with_reducible refine gate_ (.insert 61 (.tmp 14) (.const (.int .i64 3)) (.tmp 21)) rfl ?_); refine insI_step _ rfl 3 _ rfl M 2 [(2, lMAIL ++ bx), (1, lEHLO ++ lst t)] rfl HO1.out (by decide) (by decide) SR rfl (by omega) (lRCPT ++ bx) HSR.out ?_; intro w2 ho hg; have HO2 := Aside0.mk ho; have KC2 := Aside0.mk (kept2 hg KC1.out HNE.out HLT.out); have k0_2 := KC2.out.1; have k1_2 := KC2.out.2.1; clear ho hg) | ((with_reducible refine gate_ (.insert 61 (.tmp 14) (.const (.int .i64 4)) (.const (.string { data := #[68, 65, 84, 65] }))) rfl ?_); refine insI_step _ rfl 4 _ rfl M 3 [(3, lRCPT ++ bx), (2, lMAIL ++ bx), (1, lEHLO ++ lst t)] rfl HO2.out (by decide) (by decide) { data := #[68, 65, 84, 65] } rfl (by decide) (lDATA) rfl ?_; intro w3 ho hg; have HO3 := Aside0.mk ho; have KC3 := Aside0.mk (kept2 hg KC2.out HNE.out HLT.out); have k0_3 := KC3.out.1; have k1_3 := KC3.out.2.1; clear ho hg) | ((with_reducible refine gate_ (.insert 61 (.tmp 14) (.const (.int .i64 5)) (.const (.string { data := #[82, 83, 69, 84] }))) rfl ?_); refine insI_step _ rfl 5 _ rfl M 4 [(4, lDATA), (3, lRCPT ++ bx), (2, lMAIL ++ bx), (1, lEHLO ++ lst t)] rfl HO3.out (by decide) (by decide) { data := #[82, 83, 69, 84] } rfl (by decide) (lRSET) rfl ?_; intro w4 ho hg; have HO4 := Aside0.mk ho; have KC4 := Aside0.mk (kept2 hg KC3.out HNE.out HLT.out); have k0_4 := KC4.out.1; have k1_4 := KC4.out.2.1; clear ho hg) | ((with_reducible refine gate_ (.insert 61 (.tmp 14) (.const (.int .i64 6)) (.tmp 24)) rfl ?_); refine insI_step _ rfl 6 _ rfl M 5 [(5, lRSET), (4, lDATA), (3, lRCPT ++ bx), (2, lMAIL ++ bx), (1, lEHLO ++ lst t)] rfl HO4.out (by decide) (by decide) SV rfl (by omega) (lVRFY ++ lst t) HSV.out ?_; intro w5 ho hg; have HO5 := Aside0.mk ho; have KC5 := Aside0.mk (kept2 hg KC4.out HNE.out HLT.out); have k0_5 := KC5.out.1; have k1_5 := KC5.out.2.1; clear ho hg) | ((with_reducible refine gate_ (.insert 61 (.tmp 14) (.const (.int .i64 7)) (.const (.string { data := #[78, 79, 79, 80] }))) rfl ?_); refine insI_step _ rfl 7 _ rfl M 6 [(6, lVRFY ++ lst t), (5, lRSET), (4, lDATA), (3, lRCPT ++ bx), (2, lMAIL ++ bx), (1, lEHLO ++ lst t)] rfl HO5.out (by decide) (by decide) { data := #[78, 79, 79, 80] } rfl (by decide) (lNOOP) rfl ?_; intro w6 ho hg; have HO6 := Aside0.mk ho; have KC6 := Aside0.mk (kept2 hg KC5.out HNE.out HLT.out); have k0_6 := KC6.out.1; have k1_6 := KC6.out.2.1; clear ho hg) | ((with_reducible refine gate_ (.insert 61 (.tmp 14) (.const (.int .i64 8)) (.const (.string { data := #[81, 85, 73, 84] }))) rfl ?_); refine insI_step _ rfl 8 _ rfl M 7 [(7, lNOOP), (6, lVRFY ++ lst t), (5, lRSET), (4, lDATA), (3, lRCPT ++ bx), (2, lMAIL ++ bx), (1, lEHLO ++ lst t)] rfl HO6.out (by decide) (by decide) { data := #[81, 85, 73, 84] } rfl (by decide) (lQUIT) rfl ?_; intro w7 ho hg; have HO7 := Aside0.mk ho; have KC7 := Aside0.mk (kept2 hg KC6.out HNE.out HLT.out); have k0_7 := KC7.out.1; have k1_7 := KC7.out.2.1; clear ho hg) | ((with_reducible refine gate_ (.insert 61 (.tmp 14) (.const (.int .i64 9)) (.tmp 27)) rfl ?_); refine insI_step _ rfl 9 _ rfl M 8 [(8, lQUIT), (7, lNOOP), (6, lVRFY ++ lst t), (5, lRSET), (4, lDATA), (3, lRCPT ++ bx), (2, lMAIL ++ bx), (1, lEHLO ++ lst t)] rfl HO7.out (by decide) (by decide) SN rfl (by omega) (lETRN ++ lst t) HSN.out ?_; intro w8 ho hg; have HO8 := Aside0.mk ho; have KC8 := Aside0.mk (kept2 hg KC7.out HNE.out HLT.out); have k0_8 := KC8.out.1; have k1_8 := KC8.out.2.1; clear ho hg) | ((with_reducible refine gate_ (.insert 61 (.tmp 14) (.const (.int .i64 10)) (.const (.string { data := #[65, 85, 84, 72, 32, 67, 82, 65, 77, 45, 77, 68, 53] }))) rfl ?_); refine insI_step _ rfl 10 _ rfl M 9 [(9, lETRN ++ lst t), (8, lQUIT), (7, lNOOP), (6, lVRFY ++ lst t), (5, lRSET), (4, lDATA), (3, lRCPT ++ bx), (2, lMAIL ++ bx), (1, lEHLO ++ lst t)] rfl HO8.out (by decide) (by decide) { data := #[65, 85, 84, 72, 32, 67, 82, 65, 77, 45, 77, 68, 53] } rfl (by decide) (lAUTH) rfl ?_; intro w9 ho hg; have HO9 := Aside0.mk ho; have KC9 := Aside0.mk (kept2 hg KC8.out HNE.out HLT.out); have k0_9 := KC9.out.1; have k1_9 := KC9.out.2.1; clear ho hg) | ((with_reducible refine gate_ (.insert 61 (.tmp 14) (.const (.int .i64 11)) (.const (.string { data := #[65, 84, 82, 78] }))) rfl ?_); refine insI_step _ rfl 11 _ rfl M 10 [(10, lAUTH), (9, lETRN ++ lst t), (8, lQUIT), (7, lNOOP), (6, lVRFY ++ lst t), (5, lRSET), (4, lDATA), (3, lRCPT ++ bx), (2, lMAIL ++ bx), (1, lEHLO ++ lst t)] rfl HO9.out (by decide) (by decide) { data := #[65, 84, 82, 78] } rfl (by decide) (lATRN) rfl ?_; intro w10 ho hg; have HO10 := Aside0.mk ho; have KC10 := Aside0.mk (kept2 hg KC9.out HNE.out HLT.out); have k0_10 := KC10.out.1; have k1_10 := KC10.out.2.1; clear ho hg) | ((with_reducible refine gate_dst (N := 31) rfl ?_); refine wpList_lookup_own_str _ rfl _ _ 61 rfl 3 9 lawI Tryd.underlying61 Tryd.underlying9 (zeroS _) M 11 (V.texts [(11, lATRN), (10, lAUTH), (9, lETRN ++ lst t), (8, lQUIT), (7, lNOOP), (6, lVRFY ++ lst t), (5, lRSET), (4, lDATA), (3, lRCPT ++ bx), (2, lMAIL ++ bx), (1, lEHLO ++ lst t)]) rfl HO10.out (.int .i64 k) (.int .i64 k) rfl (keyOf_int_mk Tryd.underlying3 hk) ?_; intro S hat; have HAT := Aside0.mk hat; clear hat))
  have hS : lst S = V.lookT k (lineT (lst t) bx) := by
    have h := HAT.out
    rw [V.texts_at] at h
    injection h with h
    injection h with h
    exact h.symm
  have hSl : (lst S).length ≤ 50000 := by
    rw [hS]
    have hb : ∀ x ∈ lineT (lst t) bx, x.2.length ≤ 50000 := by
      intro x hx
      simp only [lineT, List.mem_cons, List.not_mem_nil, or_false] at hx
      rcases hx with rfl | rfl | rfl | rfl | rfl | rfl | rfl | rfl | rfl | rfl | rfl <;> simp [lEHLO, lMAIL, lRCPT, lDATA, lRSET, lVRFY, lNOOP, lQUIT, lETRN, lAUTH, lATRN] <;> omega
    exact look_le k _ hb
  obtain ⟨base, hbase⟩ : ∃ base, base = lst S ++ (if k = 11 ∧ lst t ≠ [] then 32 :: lst t else []) := ⟨_, rfl⟩
  have hbl2 : base.length ≤ 60001 := by rw [hbase]; simp; split <;> simp <;> omega
  have hT : T = base ++ xs.flatMap V.prmB := by
    rw [HT.out, hbase, hS]
    unfold V.line V.lineB
    rw [← HBX.out]
  have HTT := Aside0.mk hT
  have hemp : t.toList.isEmpty = (lst t).isEmpty := emp_str t
  have HBASE := Aside0.mk hbase
  have HKC := KC10
  clear hT hS HAT HO HO0 HO1 HO2 HO3 HO4 HO5 HO6 HO7 HO8 HO9 HO10 KC KC0 KC1 KC2 KC3 KC4 KC5 KC6 KC7 KC8 KC9 KC10 HSE HSM HSR HSV HSN hmk f1 f2 f3 f4 f5 k0_0 k0_1 k0_2 k0_3 k0_4 k0_5 k0_6 k0_7 k0_8 k0_9 k1_0 k1_1 k1_2 k1_3 k1_4 k1_5 k1_6 k1_7 k1_8 k1_9
  obtain ⟨tst, htst⟩ : ∃ b, b = decide (k = 11 ∧ lst t ≠ []) := ⟨_, rfl⟩
  have HTST := Aside0.mk htst
  clear htst
  go_cut [39] (fun v39 wc => v39 = .bool tst ∧ wc = w10)
  case first =>
    by_cases hk11 : k = 11
    · subst hk11
      cases htz : (lst t).isEmpty with
      | true =>
        rw [htz] at hemp
        have hb : tst = false := by rw [HTST.out]; simp [List.isEmpty_iff.1 htz]
        subst hb
        clear hbase htz
        go_wp2_with (fail)
        go_meet
        case rel => exact ⟨rfl, rfl⟩
      | false =>
        rw [htz] at hemp
        have hb : tst = true := by
          rw [HTST.out]
          simp
          intro h
          rw [h] at htz
          simp at htz
        subst hb
        clear hbase htz
        go_wp2_with (fail)
        go_meet
        case rel => exact ⟨rfl, rfl⟩
    · have hb : tst = false := by rw [HTST.out]; simp [hk11]
      subst hb
      have t1 : decide (k = 11) = false := decide_eq_false hk11
      have t2 : (k == 11) = false := by simp [hk11]
      clear hbase hk11
      go_wp2_with (fail)
      go_meet
      case rel => exact ⟨rfl, rfl⟩
  case rest =>
  obtain ⟨rfl, rfl⟩ := hcut
  obtain ⟨w10, rfl⟩ : ∃ wz : World, wz = wc := ⟨_, rfl⟩
  apply_assumption
  go_cut [5] (fun v5 wc => v5 = .string (str base) ∧ wc = w10)
  case first =>
    cases htf : tst with
    | true =>
      have hbe : base = lst S ++ (32 :: lst t) := by
        rw [HBASE.out, if_pos]
        have h := HTST.out
        rw [htf] at h
        exact of_decide_eq_true h.symm
      obtain ⟨X, hX⟩ : ∃ X, X = str (32 :: lst t) := ⟨_, rfl⟩
      have g1 := cat2 (A := ⟨#[32]⟩) (B := t) (C := X) (a := [32]) rfl (str_lst t).symm hX (by decide) (by omega)
      have g2 := cat2 (A := S) (B := X) (C := str base) (str_lst S).symm hX (by rw [hbe]) (by omega) (by simp; omega)
      clear hbase hbe htf hX
      go_wp2_with (fail)
      go_meet
      case rel => exact ⟨rfl, rfl⟩
    | false =>
      have hbe : base = lst S := by
        rw [HBASE.out, if_neg, List.append_nil]
        have h := HTST.out
        rw [htf] at h
        exact of_decide_eq_false h.symm
      have HBE := Aside0.mk hbe
      clear hbase hbe htf
      go_wp2_with (fail)
      go_meet
      case rel => exact ⟨by rw [HBE.out, str_lst], rfl⟩
  case rest =>
  obtain ⟨rfl, rfl⟩ := hcut
  obtain ⟨wx, rfl⟩ : ∃ wz : World, wz = wc := ⟨_, rfl⟩
  clear hbase k0_10 k1_10
  have hC10 := Kd.C_below HX.out (HKC.out.2.2.2.1)
  have HC10 := Aside0.mk hC10
  obtain ⟨⟨c0, c1, c2, c3, c4, c5⟩, e0, e1, e2, e3, e4, e5⟩ := cells6 HKC.out.2.2.1
  clear hC10
  go_upto_region 6 with (fail)
  go_loopg [5, 48] xs.length (fun g v5 v48 wr => ∃ j : Nat, j ≤ xs.length ∧ g + j = xs.length ∧ v48 = .int .i64 j ∧ v5 = .string (str (base ++ (xs.take j).flatMap V.prmB)) ∧ Aside0 (Below wx.heap.size wx wr))
  case atStart => exact ⟨0, by omega, by omega, rfl, by simp, ⟨Below.refl _ _⟩⟩
  case round =>
    obtain ⟨j, hj, hg, rfl, rfl, H⟩ := hrel
    obtain ⟨wy, rfl⟩ : ∃ wz : World, wz = wr := ⟨_, rfl⟩
    by_cases hlt : j < xs.length
    · obtain ⟨x, hx⟩ : ∃ x, x = xs.getD j ([], []) := ⟨_, rfl⟩
      obtain ⟨ad, rfl, p0, p1⟩ := kp_at (Kd.C_below HC10.out H.out) j hlt x hx
      have hft := flat_take xs j hlt x hx
      have hfl := flat_len xs (j + 1)
      rw [hft, List.length_append] at hfl
      have hpl : (V.prmB x).length ≤ 100000 := by omega
      have hpl2 : x.1.length + x.2.length + 2 ≤ 100000 := by unfold V.prmB at hpl; simp at hpl; omega
      have hlt' : (j : Int) < (xs.length : Int) := by omega
      have h0 : (0 : Int) ≤ (j : Int) := by omega
      obtain ⟨X1, hX1⟩ : ∃ X, X = str (32 :: x.1) := ⟨_, rfl⟩
      obtain ⟨X2, hX2⟩ : ∃ X, X = str (32 :: x.1 ++ [61]) := ⟨_, rfl⟩
      obtain ⟨X3, hX3⟩ : ∃ X, X = str (V.prmB x) := ⟨_, rfl⟩
      obtain ⟨Y, hY⟩ : ∃ Y, Y = str (base ++ (xs.take j).flatMap V.prmB) := ⟨_, rfl⟩
      obtain ⟨Z, hZ⟩ : ∃ Z, Z = str (base ++ (xs.take (j + 1)).flatMap V.prmB) := ⟨_, rfl⟩
      have g1 := cat2 (A := ⟨#[32]⟩) (B := str x.1) (C := X1) (a := [32]) rfl rfl hX1 (by decide) (by omega)
      have g2 := cat2 (A := X1) (B := ⟨#[61]⟩) (C := X2) (b := [61]) hX1 rfl hX2 (by simp; omega) (by decide)
      have g3 := cat2 (A := X2) (B := str x.2) (C := X3) hX2 rfl (by rw [hX3]; unfold V.prmB; simp) (by simp; omega) (by omega)
      have g4 := cat2 (A := Y) (B := X3) (C := Z) hY hX3 (by rw [hZ, hft, List.append_assoc]) (by rw [List.length_append]; omega) (by omega)
      have HZ := Aside0.mk hZ
      rw [← hY]
      clear hX1 hX2 hX3 hY hZ hft hfl hx hpl
      go_wp2_with (fail)
      go_roundg (gk - 1)
      case measure => omega
      case rel => exact ⟨j + 1, by omega, by omega, by go_num, by rw [HZ.out], ⟨H.out.alloc H.out.size _⟩⟩
    · have hne : j = xs.length := by omega
      have hT : T = base ++ (xs.take j).flatMap V.prmB := by rw [HTT.out, hne, List.take_length]
      rw [← hT]
      have t1 : decide ((j : Int) < (xs.length : Int)) = false := by simp; omega
      have t2 : decide (j < xs.length) = false := by simp; omega
      clear hT hne
      go_wp2_with (fail)
      go_ret
      exact ⟨rfl, HKC.out.2.2.2.1.trans (H.out.mono HKC.out.2.2.2.1.size)⟩
end Go.Proofs.YteiknmcmaemcoaaDoor
