/- Texts of this seat, one behind the other: the plain law, the walks. -/
import Derived.Test.YtpfmnkpmidjfjaaGreatDoorProg
import Derived.WalkKit
import Derived.WalkLawsBesides
import Derived.Outline
import Derived.LoopTactic
import Derived.Lib.Hide
import Derived.Deep.QuietTactic
import Derived.BigQuiet
import Derived.Deep.LoopGhost
import Derived.Deep.DeepCutAuto
import Derived.Deep.CutBlock
import Derived.Deep.RegionHeld3
import Derived.Deep.RegionWith
import Derived.Deep.WholeRow
import Derived.Laws.Rows
import Derived.Laws.Tables
import Derived.Laws.ResultCell
import Derived.StillTailTactics
import Derived.Deep.DeepMust
import Derived.IntWalk
import Derived.KernelRfl
import Derived.Test.YtpfmnkpmidjfjaaGreatDoorEXa
import Derived.RegionTactic
import Derived.Laws.IdiomStrings
import Derived.Laws.BytesArg
import Derived.Test.YtpfmnkpmidjfjaaGreatDoorShelf
import Derived.Lib.SliceRun
import Derived.Lib.SmallJoins
import Derived.HandedShaped
import Derived.Handed
import Derived.MakeChecks
import Derived.Stop.LaidErr
import Derived.Lib.LaidTab
import Derived.Test.YtpfmnkpmidjfjaaGreatDoorRows
import Derived.Laws.BitsLemmas
import Derived.Lib.AppendStr
import Derived.ArgAppend
import Derived.Lib.ConvBytes
import Derived.Lib.ItoaLen
import Derived.Test.YtpfmnkpmidjfjaaGreatDoorEMa
/- What path's Fold answers. -/
namespace Go.Proofs.YtpfmnkpmidjfjaaGreatDoor
open Go.RowKit
open Go.Proofs.YtpfmnkpmidjfjaaGreatDoorW.PrintWords
set_option linter.unusedVariables false
set_option linter.unusedSimpArgs false
def str (l : V.Bs) : ByteArray := ⟨l.toArray⟩
def lst (s : ByteArray) : V.Bs := s.data.toList
theorem str_lst (s : ByteArray) : str (lst s) = s := by cases s; simp [str, lst]
theorem lst_str (l : V.Bs) : lst (str l) = l := by simp [str, lst]
theorem lst_length (s : ByteArray) : (lst s).length = s.size := by rw [lst, Array.length_toList]; rfl
theorem str_size (l : V.Bs) : (str l).size = l.length := by rw [← lst_length, lst_str]
theorem str_eqB (a b : ByteArray) : (a.toList == b.toList) = decide (lst a = lst b) := by
 have e : ∀ s : ByteArray, s.toList = lst s := fun s => ByteArray.toList_eq s
 rw [e, e, Bool.eq_iff_iff]; simp
def foldB (s : ByteArray) : ByteArray := str (V.fold (lst s))
theorem setCell_row (w : World) (g i : Nat) (cs : Array Value) (t : TypeId) (fr : Nat × Nat) (v : Value) (hg : w.heap[g]? = some (.cells cs t fr)) :
  (w.setCell ⟨g, i, none⟩ v).heap[g]? = some (.cells (cs.setIfInBounds i v) t fr) := by
 rw [setCell_eq_setRow w g i cs t fr v hg]
 exact setRow_heap w g cs _ t _ hg
def half (l : V.Bs) (n j : Nat) : UInt8 := if j < n then V.low (l.getD j 0) else l.getD j 0
end Go.Proofs.YtpfmnkpmidjfjaaGreatDoor
/- What path's small functions answer: plain, atom, label. -/
namespace Go.Proofs.YtpfmnkpmidjfjaaGreatDoor
open Go.RowKit
open Go.Proofs.YtpfmnkpmidjfjaaGreatDoorW.PrintWords
set_option linter.unusedVariables false
set_option linter.unusedSimpArgs false
theorem plain_any (c : UInt8) (x : Int) (hx : x = (c.toNat : Int)) (w : World) :
  Calls Tryz.prog 117 #[.int .u8 x] w fun e w' => e = .returned (.bool (V.isPlain c)) ∧ w' = w := by
 have hv : V.isPlain c = (decide (97 ≤ x ∧ x ≤ 122) || decide (65 ≤ x ∧ x ≤ 90) || decide (48 ≤ x ∧ x ≤ 57)) := by
  subst hx
  unfold V.isPlain
  simp only [UInt8.le_iff_toNat_le]
  congr 1
  ·congr 1
   ·apply decide_eq_decide.2
    constructor <;> (simp; omega)
   ·apply decide_eq_decide.2
    constructor <;> (simp; omega)
  ·apply decide_eq_decide.2
   constructor <;> (simp; omega)
 have HV := Aside0.mk hv
 clear hv hx
 go_enter Tryz.func117, Tryz.ntmps117
 go_wp2_with (fail)
 all_goals (go_ret; refine ⟨?_, rfl⟩; rw [HV.out]; refine congrArg Ending.returned ?_; show Value.bool _ = Value.bool _; congr 1; rw [Bool.eq_iff_iff]; simp; omega)
theorem index_str (s : ByteArray) (n : Nat) (h : n < s.size) (c : UInt8) (hc : c = (lst s).getD n 0) (x : Int) (hx : x = (c.toNat : Int)) (w : World) : (Instr.index 9 (.string s) (.int .i64 (n : Int))).run Tryz.prog w = .ok (.int .u8 x) w := by
 subst hx hc
 rw [run_index_string w 9 s .i64 _ Tryz.underlying9, dif_pos (by omega)]
 have e : (lst s)[n]? = some s.data[n] := by rw [lst, Array.getElem?_toList, Array.getElem?_eq_getElem h]
 rw [List.getD_eq_getElem?_getD, e]
 rfl
theorem emp_str (s : ByteArray) : s.toList.isEmpty = (lst s).isEmpty := by rw [ByteArray.toList_eq]; rfl
theorem idx_mem (c : UInt8) : ∀ l : V.Bs, decide (Lib.indexByte l c < 0) = !l.contains c
 | [] => by simp [Lib.indexByte]
 | b :: l => by
  have ih := idx_mem c l
  have hg := Lib.indexByte_ge l c
  unfold Lib.indexByte
  by_cases h : b = c
  ·subst h; simp
  ·have h1 : (b == c) = false := by simp [h]
   have h2 : (b :: l).contains c = l.contains c := by simp [List.contains_cons, Ne.symm h]
   rw [h1, h2, ← ih]
   simp only [Bool.false_eq_true, if_false]
   apply decide_eq_decide.2
   by_cases h3 : Lib.indexByte l c = -1
   ·simp [h3]
   ·have h4 : ¬ ((Lib.indexByte l c == -1) = true) := by simp [h3]
    rw [if_neg h4]
    omega
theorem mark_any (D : ByteArray) (hD : D = str V.marks) (c : UInt8) (x : Int) (hx : x = (c.toNat : Int)) (w : World) :
  Calls Tryz.prog 118 #[.string D, .int .u8 x] w fun e w' => (∃ i : Int, e = .returned (.int .i64 i) ∧ decide (i < 0) = !V.marks.contains c) ∧ w' = w := by
 subst hD hx
 have h := Tryz.strings_IndexByte (str V.marks) (c.toNat : Int) w
 refine h.mono ?_
 rintro e w' ⟨rfl, rfl⟩
 have e1 : ((c.toNat : Int)).toNat.toUInt8 = c := by simp
 rw [e1]
 exact ⟨⟨_, rfl, idx_mem c _⟩, rfl⟩
def goodA (c : UInt8) : Bool := V.isPlain c || V.marks.contains c
theorem all_take (l : V.Bs) (p : UInt8 → Bool) (n : Nat) (hn : n < l.length) (c : UInt8) (hc : c = l.getD n 0) : (l.take (n + 1)).all p = ((l.take n).all p && p c) := by
 have e : l.take (n + 1) = l.take n ++ [c] := by
  rw [List.take_succ_eq_append_getElem hn, hc]; simp [List.getD_eq_getElem?_getD, hn]
 rw [e, List.all_append]; simp
theorem all_false (l : V.Bs) (p : UInt8 → Bool) (n : Nat) (hn : n < l.length) (c : UInt8) (hc : c = l.getD n 0) (h : p c = false) : l.all p = false := by
 rw [List.all_eq_false]
 refine ⟨l[n], List.getElem_mem hn, ?_⟩
 have : c = l[n] := by rw [hc]; simp [List.getD_eq_getElem?_getD, hn]
 rw [← this, h]; simp
set_option maxRecDepth 100000 in
set_option maxHeartbeats 1000000 in
theorem atom_any (s : ByteArray) (w : World) (hs : s.size ≤ 1000000) :
  Calls Tryz.prog 92 #[.string s] w fun e w' => e = .returned (.bool (V.atom (lst s))) ∧ w' = w := by
 obtain ⟨D, hD⟩ : ∃ D, D = str V.marks := ⟨_, rfl⟩
 have HD := Aside0.mk hD
 have hd : ({ data := #[33, 35, 36, 37, 38, 39, 42, 43, 45, 47, 61, 63, 94, 95, 96, 123, 124, 125, 126] } : ByteArray) = D := hD.symm
 clear hD
 obtain ⟨T, hT⟩ : ∃ T, T = V.atom (lst s) := ⟨_, rfl⟩
 rw [← hT]
 have HT := Aside0.mk hT
 clear hT
 go_enter Tryz.func92, Tryz.ntmps92
 go_wp2_with (fail)
 rw [hd]
 clear hd
 go_loopg [6] s.size (fun g v6 wr => ∃ n : Nat, n ≤ s.size ∧ g + n = s.size ∧ v6 = .int .i64 n ∧ wr = w ∧ Aside0 (((lst s).take n).all goodA = true))
 case atStart => exact ⟨0, by omega, by omega, rfl, rfl, ⟨by simp⟩⟩
 case round =>
  obtain ⟨n, hn, hg, rfl, rfl, H⟩ := hrel
  by_cases hlt : n < s.size
  ·obtain ⟨c, hc⟩ : ∃ c, c = (lst s).getD n 0 := ⟨_, rfl⟩
   obtain ⟨x, hx⟩ : ∃ x : Int, x = (c.toNat : Int) := ⟨_, rfl⟩
   have hix := fun w => index_str s n hlt c hc x hx w
   have hstep := all_take (lst s) goodA n (by rw [lst_length]; exact hlt) c hc
   have hbad := all_false (lst s) goodA n (by rw [lst_length]; exact hlt) c hc
   have hlt' : (n : Int) < (s.size : Int) := by omega
   have h0 : (0 : Int) ≤ (n : Int) := by omega
   have HX := Aside0.mk hx
   have HS := Aside0.mk hstep
   have HB := Aside0.mk hbad
   clear hx hc hstep hbad
   cases hp : V.isPlain c with
   | true =>
    have HP := Aside0.mk hp
    go_wp2_with (first | (go_at_call 117; with_reducible refine Calls.mono (plain_any c x HX.out wr) ?_; rintro e w1 ⟨rfl, rfl⟩; rw [HP.out]))
    go_roundg (gk - 1)
    case measure => omega
    case rel => exact ⟨n + 1, by omega, by omega, by go_num, rfl, ⟨by rw [HS.out, H.out]; unfold goodA; rw [HP.out]; rfl⟩⟩
   | false =>
    have HP := Aside0.mk hp
    cases hm : V.marks.contains c with
    | true =>
     have HM := Aside0.mk hm
     go_wp2_with (first | (go_at_call 117; with_reducible refine Calls.mono (plain_any c x HX.out wr) ?_; rintro e w1 ⟨rfl, rfl⟩; rw [HP.out]) | (go_at_call 118; with_reducible refine Calls.mono (mark_any D HD.out c x HX.out _) ?_; rintro e w2 ⟨⟨i, rfl, hi⟩, rfl⟩; rw [HM.out] at hi; simp only [Bool.not_true, Bool.not_false] at hi))
     go_roundg (gk - 1)
     case measure => omega
     case rel => exact ⟨n + 1, by omega, by omega, by go_num, rfl, ⟨by rw [HS.out, H.out]; unfold goodA; rw [HM.out, HP.out]; rfl⟩⟩
    | false =>
     have HM := Aside0.mk hm
     have hT : T = false := by rw [HT.out]; unfold V.atom; rw [show (fun c => V.isPlain c || V.marks.contains c) = goodA from rfl, HB.out (by unfold goodA; rw [HM.out, HP.out]; rfl)]; simp
     have HTF := Aside0.mk hT
     clear hT
     go_wp2_with (first | (go_at_call 117; with_reducible refine Calls.mono (plain_any c x HX.out wr) ?_; rintro e w1 ⟨rfl, rfl⟩; rw [HP.out]) | (go_at_call 118; with_reducible refine Calls.mono (mark_any D HD.out c x HX.out _) ?_; rintro e w2 ⟨⟨i, rfl, hi⟩, rfl⟩; rw [HM.out] at hi; simp only [Bool.not_true, Bool.not_false] at hi))
     go_ret
     exact ⟨by rw [HTF.out]; rfl, rfl⟩
  ·have hne : n = s.size := by omega
   have e : (lst s).take n = lst s := by rw [hne, ← lst_length, List.take_length]
   rw [e] at H
   have hT : T = !s.toList.isEmpty := by
    rw [HT.out]
    unfold V.atom
    rw [show (fun c => V.isPlain c || V.marks.contains c) = goodA from rfl, H.out, emp_str]
    rfl
   have t1 : decide ((n : Int) < (s.size : Int)) = false := by simp; omega
   have t2 : decide (n < s.size) = false := by simp; omega
   have HTF := Aside0.mk hT
   clear e hT hne
   go_wp2_with (fail)
   go_ret
   exact ⟨by rw [HTF.out]; rfl, rfl⟩
def goodL (c : UInt8) : Bool := V.isPlain c || c == 45
theorem byte_45 (c : UInt8) (x : Int) (hx : x = (c.toNat : Int)) : (c == 45) = decide (x = 45) := by
 subst hx
 rw [Bool.eq_iff_iff]
 simp only [beq_iff_eq, decide_eq_true_eq]
 constructor
 ·rintro rfl; rfl
 ·intro h
  apply UInt8.toNat_inj.1
  have : (45 : UInt8).toNat = 45 := rfl
  omega
set_option maxRecDepth 100000 in
set_option maxHeartbeats 1000000 in
theorem label_any (s : ByteArray) (w : World) (hs : s.size ≤ 1000000) :
  Calls Tryz.prog 119 #[.string s] w fun e w' => e = .returned (.bool (V.label (lst s))) ∧ w' = w := by
 obtain ⟨T, hT⟩ : ∃ T, T = V.label (lst s) := ⟨_, rfl⟩
 rw [← hT]
 have HT := Aside0.mk hT
 clear hT
 go_enter Tryz.func119, Tryz.ntmps119
 go_wp2_with (fail)
 go_loopg [6] s.size (fun g v6 wr => ∃ n : Nat, n ≤ s.size ∧ g + n = s.size ∧ v6 = .int .i64 n ∧ wr = w ∧ Aside0 (((lst s).take n).all goodL = true))
 case atStart => exact ⟨0, by omega, by omega, rfl, rfl, ⟨by simp⟩⟩
 case round =>
  obtain ⟨n, hn, hg, rfl, rfl, H⟩ := hrel
  by_cases hlt : n < s.size
  ·obtain ⟨c, hc⟩ : ∃ c, c = (lst s).getD n 0 := ⟨_, rfl⟩
   obtain ⟨x, hx⟩ : ∃ x : Int, x = (c.toNat : Int) := ⟨_, rfl⟩
   have hix := fun w => index_str s n hlt c hc x hx w
   have hstep := all_take (lst s) goodL n (by rw [lst_length]; exact hlt) c hc
   have hbad := all_false (lst s) goodL n (by rw [lst_length]; exact hlt) c hc
   have hlt' : (n : Int) < (s.size : Int) := by omega
   have h0 : (0 : Int) ≤ (n : Int) := by omega
   have HX := Aside0.mk hx
   have HS := Aside0.mk hstep
   have HB := Aside0.mk hbad
   have H45 := Aside0.mk (byte_45 c x hx)
   clear hx hc hstep hbad
   cases hp : V.isPlain c with
   | true =>
    have HP := Aside0.mk hp
    go_wp2_with (first | (go_at_call 117; with_reducible refine Calls.mono (plain_any c x HX.out wr) ?_; rintro e w1 ⟨rfl, rfl⟩; rw [HP.out]))
    go_roundg (gk - 1)
    case measure => omega
    case rel => exact ⟨n + 1, by omega, by omega, by go_num, rfl, ⟨by rw [HS.out, H.out]; unfold goodL; rw [HP.out]; rfl⟩⟩
   | false =>
    have HP := Aside0.mk hp
    by_cases hm : x = 45
    ·have hm1 : (c == 45) = true := by rw [H45.out]; simp [hm]
     have HM := Aside0.mk hm1
     have t5 : (x != 45) = false := by simp [hm]
     clear hm hm1
     go_wp2_with (first | (go_at_call 117; with_reducible refine Calls.mono (plain_any c x HX.out wr) ?_; rintro e w1 ⟨rfl, rfl⟩; rw [HP.out]))
     go_roundg (gk - 1)
     case measure => omega
     case rel => exact ⟨n + 1, by omega, by omega, by go_num, rfl, ⟨by rw [HS.out, H.out]; unfold goodL; rw [HM.out, HP.out]; rfl⟩⟩
    ·have hm1 : (c == 45) = false := by rw [H45.out]; simp [hm]
     have hT : T = false := by rw [HT.out]; unfold V.label; rw [show (fun c => V.isPlain c || c == 45) = goodL from rfl, HB.out (by unfold goodL; rw [hm1, hp]; rfl)]; simp
     have HTF := Aside0.mk hT
     have t5 : (x != 45) = true := by simp [hm]
     clear hT hm1
     go_wp2_with (first | (go_at_call 117; with_reducible refine Calls.mono (plain_any c x HX.out wr) ?_; rintro e w1 ⟨rfl, rfl⟩; rw [HP.out]))
     go_ret
     exact ⟨by rw [HTF.out]; rfl, rfl⟩
  ·have hne : n = s.size := by omega
   have e : (lst s).take n = lst s := by rw [hne, ← lst_length, List.take_length]
   rw [e] at H
   have hT : T = (!(lst s).isEmpty && decide (s.size ≤ 63) && (lst s).head? != some 45 && (lst s).getLast? != some 45) := by
    rw [HT.out]
    unfold V.label
    rw [show (fun c => V.isPlain c || c == 45) = goodL from rfl, H.out, lst_length]
    rfl
   have t1 : decide ((n : Int) < (s.size : Int)) = false := by simp; omega
   have t2 : decide (n < s.size) = false := by simp; omega
   by_cases h0 : s.size = 0
   ·have hl : lst s = [] := List.eq_nil_of_length_eq_zero (by rw [lst_length]; exact h0)
    have t3 : s.toList.isEmpty = true := by rw [emp_str, hl]; rfl
    rw [hl] at hT
    have HTF := Aside0.mk hT
    clear e hT hne hl h0
    go_wp2_with (fail)
    go_ret
    exact ⟨by rw [HTF.out]; rfl, rfl⟩
   ·obtain ⟨a, ha⟩ : ∃ a, a = (lst s).getD 0 0 := ⟨_, rfl⟩
    obtain ⟨z, hz⟩ : ∃ z, z = (lst s).getD (s.size - 1) 0 := ⟨_, rfl⟩
    obtain ⟨xa, hxa⟩ : ∃ x : Int, x = (a.toNat : Int) := ⟨_, rfl⟩
    obtain ⟨xz, hxz⟩ : ∃ x : Int, x = (z.toNat : Int) := ⟨_, rfl⟩
    have hi1 := fun w => index_str s 0 (by omega) a ha xa hxa w
    have hi2 : ∀ w, (Instr.index 9 (.string s) (.int .i64 ((s.size : Int) - 1))).run Tryz.prog w = .ok (.int .u8 xz) w := by
     intro w
     have := index_str s (s.size - 1) (by omega) z hz xz hxz w
     rw [show ((s.size - 1 : Nat) : Int) = (s.size : Int) - 1 by omega] at this
     exact this
    have e1 : (lst s).head? = some a := by
     rw [ha]
     cases hl : lst s with
     | nil => rw [← lst_length, hl] at h0; exact absurd rfl h0
     | cons y l => rfl
    have e2 : (lst s).getLast? = some z := by
     rw [hz, ← lst_length, List.getLast?_eq_getElem?, List.getD_eq_getElem?_getD, List.getElem?_eq_getElem (by rw [lst_length]; omega)]
     rfl
    have e3 : (lst s).isEmpty = false := by
     cases hl : lst s with
     | nil => rw [← lst_length, hl] at h0; exact absurd rfl h0
     | cons y l => rfl
    have t3 : s.toList.isEmpty = false := by rw [emp_str, e3]
    have hv : T = (decide ((s.size : Int) ≤ 63) && !decide (xa = 45) && !decide (xz = 45)) := by
     have e4 : ∀ y : UInt8, (some y != some (45 : UInt8)) = !(y == 45) := fun y => rfl
     have e5 : decide (s.size ≤ 63) = decide ((s.size : Int) ≤ 63) := decide_eq_decide.2 (by omega)
     rw [hT, e1, e2, e3, e4, e4, e5, byte_45 a xa hxa, byte_45 z xz hxz]
     rfl
    have HTF := Aside0.mk hv
    simp only [Int.natCast_zero] at hi1
    have hpos : (0 : Int) < (s.size : Int) := by omega
    clear e hT hne hv e1 e2 e3 hxa hxz ha hz h0
    go_wp2_with (fail)
    all_goals (go_ret; refine ⟨?_, rfl⟩; rw [HTF.out]; refine congrArg Ending.returned ?_; show Value.bool _ = Value.bool _; congr 1; rw [Bool.eq_iff_iff]; simp; omega)
end Go.Proofs.YtpfmnkpmidjfjaaGreatDoor
/- What path's parts, Domain and Check answer. -/
namespace Go.Proofs.YtpfmnkpmidjfjaaGreatDoor
open Go.RowKit Go.Lib
open Go.Proofs.YtpfmnkpmidjfjaaGreatDoorW.PrintWords
set_option linter.unusedVariables false
set_option linter.unusedSimpArgs false
structure Vars (w : World) : Prop where
 low : 8 ≤ w.heap.size
 mx : ∃ m, w.cell? ⟨0, 0, none⟩ = some (.int .i64 m)
 syn : ∃ tp p, w.var? Tryz.prog "strconv.ErrSyntax" = some #[.iface tp p]
 rng : ∃ tp p, w.var? Tryz.prog "strconv.ErrRange" = some #[.iface tp p]
 pow : Lib.TabIs Tryz.prog w "internal/strconv.uint64pow10" .u64 Lib.pow10Tab
theorem var_on {P : Program} {W W' : World} {B g : Nat} {n : String} {cs : Array Value} (hg : P.globalNamed n = some g) (h : W.var? P n = some cs) (hb : Below B W W') (hB : g < B) : W'.var? P n = some cs := by
 unfold World.var? at h ⊢
 rw [hg] at h ⊢
 simp only [Option.bind_some] at h ⊢
 rw [hb.block g hB]
 exact h
theorem Vars.on {w w' : World} {B : Nat} (hv : Vars w) (hb : Below B w w') (hB : 8 ≤ B) : Vars w' where
 low := Nat.le_trans hv.low hb.size
 mx := by
  obtain ⟨m, hm⟩ := hv.mx
  exact ⟨m, (hb.cell (p := ⟨0, 0, none⟩) (by show 0 < B; omega)).trans hm⟩
 syn := by
  obtain ⟨tp, p, h⟩ := hv.syn
  exact ⟨tp, p, var_on (g := 2) (by kernel_rfl) h hb (by omega)⟩
 rng := by
  obtain ⟨tp, p, h⟩ := hv.rng
  exact ⟨tp, p, var_on (g := 3) (by kernel_rfl) h hb (by omega)⟩
 pow := var_on (g := 1) (by kernel_rfl) hv.pow hb (by omega)
theorem Vars.go {w w' : World} (hv : Vars w) (hb : Below w.heap.size w w') : Vars w' := hv.on hb hv.low
abbrev Sh := {x : ByteArray // x.size ≤ 1000000}
instance : Inhabited Sh := ⟨⟨ByteArray.empty, by decide⟩⟩
theorem split_any (s : ByteArray) (c : UInt8) (w : World) (hs : s.size ≤ 1000000) (hv : Vars w) (D : ByteArray) (hD : D = str [c]) :
  Calls Tryz.prog 58 #[.string s, .string D] w fun e w' => ∃ n : Nat, n = (V.splitOn c (lst s)).length ∧ e = .returned (.slice (some ⟨w.heap.size, 0, none⟩) n n) ∧ w' = w.alloc (.cells (((V.splitOn c (lst s)).map fun l => Value.string (str l))).toArray 9) := by
 subst hD
 obtain ⟨m, hm⟩ := hv.mx
 refine (Tryz.strings_Split s (str [c]) m w (by omega) hm (by show 1 ≤ 1; omega)).mono ?_
 rintro e w' ⟨rfl, rfl⟩
 have e1 := V.split_list c s
 have e2 := V.split_len c s
 refine ⟨_, rfl, by rw [show (str [c] : ByteArray) = ⟨#[c]⟩ from rfl, e2]; rfl, ?_⟩
 rw [show (str [c] : ByteArray) = ⟨#[c]⟩ from rfl, e1, List.map_map]
 rfl
theorem splitOn_mem (c : UInt8) : ∀ (l x : V.Bs), x ∈ V.splitOn c l → x.length ≤ l.length
 | [], x, h => by simp [V.splitOn] at h; simp [h]
 | y :: l, x, h => by
  have ih := splitOn_mem c l
  unfold V.splitOn at h
  by_cases hy : y = c
  ·rw [if_pos hy] at h
   rcases List.mem_cons.1 h with h | h
   ·simp [h]
   ·have := ih x h; simp; omega
  ·rw [if_neg hy] at h
   cases hs : V.splitOn c l with
   | nil => rw [hs] at h; simp at h; simp [h]
   | cons a t =>
    rw [hs] at h
    simp only [List.mem_cons] at h
    rcases h with h | h
    ·have := ih a (by rw [hs]; simp); rw [h]; simp; omega
    ·have := ih x (by rw [hs]; simp [h]); simp; omega
def pieces (c : UInt8) (s : ByteArray) (hs : s.size ≤ 1000000) : List Sh := (V.splitOn c (lst s)).attach.map fun x => ⟨str x.1, by rw [str_size]; have := splitOn_mem c _ _ x.2; rw [lst_length] at this; omega⟩
theorem pieces_length (c : UInt8) (s : ByteArray) (hs : s.size ≤ 1000000) : (pieces c s hs).length = (V.splitOn c (lst s)).length := by simp [pieces]
theorem pieces_val (c : UInt8) (s : ByteArray) (hs : s.size ≤ 1000000) : (pieces c s hs).map (fun x => Value.string x.1) = (V.splitOn c (lst s)).map fun l => Value.string (str l) := by
 unfold pieces
 rw [List.map_map]
 have e : ((fun x : Sh => Value.string x.1) ∘ fun x : {x // x ∈ V.splitOn c (lst s)} => (⟨str x.1, by rw [str_size]; have := splitOn_mem c _ _ x.2; rw [lst_length] at this; omega⟩ : Sh)) = (fun l => Value.string (str l)) ∘ (fun x : {x // x ∈ V.splitOn c (lst s)} => x.1) := rfl
 rw [e, ← List.map_map, List.attach_map_subtype_val]
theorem pieces_any (c : UInt8) (s : ByteArray) (hs : s.size ≤ 1000000) (p : V.Bs → Bool) : (pieces c s hs).any (fun x => !p (lst x.1)) = !(V.splitOn c (lst s)).all p := by
 have e : (pieces c s hs).any (fun x => !p (lst x.1)) = ((V.splitOn c (lst s)).attach.map (fun x => x.1)).any (fun l => !p l) := by
  unfold pieces
  rw [List.any_map, List.any_map]
  congr 1
 rw [e]
 rw [List.attach_map_subtype_val]
 rw [List.not_all_eq_any_not]
theorem cells_of_pieces (c : UInt8) (s : ByteArray) (hs : s.size ≤ 1000000) (w W : World) (b : Nat) (hb : W.heap[b]? = some (.cells (((V.splitOn c (lst s)).map fun l => Value.string (str l))).toArray 9)) : ∀ j, j < (pieces c s hs).length → W.cell? ⟨b, 0 + j, none⟩ = some (.string ((pieces c s hs)[j]!).1) := by
 intro j hj
 rw [Nat.zero_add, cell_of_row W b _ _ _ _ hb]
 rw [List.getElem?_toArray, ← pieces_val c s hs, List.getElem?_map, List.getElem?_eq_getElem hj]
 simp [hj]
theorem alloc_two (w : World) (o p : Obj) : ((w.alloc o).alloc p).heap[w.heap.size + 1]? = some p := by
 have e : (w.alloc o).heap.size = w.heap.size + 1 := by simp
 rw [← e]
 exact heap_alloc_new _ _
theorem splitOn_length (c : UInt8) : ∀ l : V.Bs, (V.splitOn c l).length ≤ l.length + 1
 | [] => by simp [V.splitOn]
 | y :: l => by
  have ih := splitOn_length c l
  unfold V.splitOn
  split
  ·simp; omega
  ·split
   ·simp
   ·rename_i h; rw [h] at ih; simp at ih ⊢; omega
theorem pred_atom (B : Nat) (w : World) (hB : B < w.heap.size) (hcell : w.cell? ⟨B, 0, none⟩ = some (.func (.func 92) #[] #[])) :
  PredAt Tryz.prog 116 #[.pointer (some ⟨B, 0, none⟩)] (fun x : Sh => Value.string x.1) (fun x => !V.atom (lst x.1)) w := fun W x hb => by
 have hc : W.cell? ⟨B, 0, none⟩ = some (.func (.func 92) #[] #[]) := (hb.cell (p := ⟨B, 0, none⟩) hB).trans hcell
 show Calls Tryz.prog 116 #[.string x.1, .pointer (some ⟨B, 0, none⟩)] W _
 obtain ⟨X, hX⟩ := x
 simp only
 go_enter Tryz.func116, Tryz.ntmps116
 go_wp2_with (first | (go_at_call 92; with_reducible refine Calls.mono (atom_any X W hX) ?_; rintro e w1 ⟨rfl, rfl⟩))
 go_ret
 exact ⟨rfl, 0, rfl⟩
set_option maxHeartbeats 1000000 in
theorem parts_atom (s : ByteArray) (most : Int) (hm0 : 0 ≤ most) (hm1 : most ≤ 100000) (w : World) (hs : s.size ≤ 1000000) (hv : Vars w) :
  Calls Tryz.prog 91 #[.string s, .int .i64 most, .func (.func 92) #[] #[]] w fun e w' => e = .returned (.bool (V.parts (lst s) most.toNat V.atom)) ∧ Below w.heap.size w w' := by
 obtain ⟨T, hT⟩ : ∃ T, T = V.parts (lst s) most.toNat V.atom := ⟨_, rfl⟩
 rw [← hT]
 have hT2 : T = (decide ((s.size : Int) ≤ most) && (V.splitOn 46 (lst s)).all V.atom) := by
  rw [hT]
  unfold V.parts
  congr 1
  rw [lst_length]
  exact decide_eq_decide.2 (by omega)
 have HT := Aside0.mk hT2
 clear hT hT2
 have HV := Aside0.mk hv
 clear hv
 go_enter Tryz.func91, Tryz.ntmps91
 by_cases hlen : (s.size : Int) ≤ most
 ·have hT : T = !(pieces 46 s hs).any (fun x => !V.atom (lst x.1)) := by rw [HT.out, pieces_any, Bool.not_not, decide_eq_true hlen, Bool.true_and]
  have HTF := Aside0.mk hT
  clear hT
  have eg : ∀ args w, (callFunc 116 args).run Tryz.prog w = .ok (.enter 116 args) w := enters_of Tryz.func116 (by kernel_rfl) rfl
  have hcon : ∀ (w1 : World) (n : Nat), n = (V.splitOn 46 (lst s)).length → w1 = (w.alloc (.cells #[.func (.func 92) #[] #[]] 126)).alloc (.cells (((V.splitOn 46 (lst s)).map fun l => Value.string (str l))).toArray 9) →
    Calls Tryz.prog 115 #[.slice (some ⟨w.heap.size + 1, 0, none⟩) n n, .func (.func 116) #[] #[.pointer (some ⟨w.heap.size, 0, none⟩)]] w1 fun e w' => e = .returned (.bool ((pieces 46 s hs).any (fun x => !V.atom (lst x.1)))) ∧ ∃ q, w' = w1.drewN q := by
   intro w1 n hn hw1
   have hc := Tryz.slices_ContainsFunc (fun x : Sh => Value.string x.1) (fun x => !V.atom (lst x.1)) 116 #[.pointer (some ⟨w.heap.size, 0, none⟩)] eg (w.heap.size + 1) 0 n n (pieces 46 s hs) w1
    (pred_atom w.heap.size w1 (by rw [hw1]; simp; omega) (by rw [hw1]; simp)) (by rw [pieces_length]; omega) (by rw [hn]; have := splitOn_length 46 (lst s); rw [lst_length] at this; omega) (cells_of_pieces 46 s hs w w1 _ (by rw [hw1]; exact alloc_two _ _ _))
   rw [List.take_of_length_le (by rw [pieces_length]; omega)] at hc
   exact hc
  have HC := Aside0.mk hcon
  have HVA := Aside0.mk (HV.out.go ((Below.refl _ w).alloc (Nat.le_refl _) (.cells #[.func (.func 92) #[] #[]] 126)))
  clear hcon eg
  go_wp2_with (first | (go_at_call 58; with_reducible refine Calls.mono (split_any s 46 _ hs HVA.out _ rfl) ?_; rintro e w1 ⟨n, hn, rfl, hw1⟩; have HN := Aside0.mk hn; have HW := Aside0.mk hw1; clear hn hw1) | (go_at_call 115; with_reducible refine Calls.mono (HC.out w1 n HN.out HW.out) ?_; rintro e w2 ⟨rfl, q, rfl⟩))
  go_ret
  refine ⟨by rw [HTF.out]; rfl, ?_⟩
  rw [HW.out]
  exact below_drewN' (((Below.refl _ w).alloc (Nat.le_refl _) _).alloc (by simp) _) q
 ·have hT : T = false := by rw [HT.out, decide_eq_false hlen]; rfl
  have HTF := Aside0.mk hT
  clear hT
  have t1 : decide ((s.size : Int) ≤ most) = false := decide_eq_false hlen
  go_wp2_with (fail)
  go_ret
  exact ⟨by rw [HTF.out]; rfl, (Below.refl _ _).alloc (Nat.le_refl _) _⟩
theorem pred_label (B : Nat) (w : World) (hB : B < w.heap.size) (hcell : w.cell? ⟨B, 0, none⟩ = some (.func (.func 119) #[] #[])) :
  PredAt Tryz.prog 116 #[.pointer (some ⟨B, 0, none⟩)] (fun x : Sh => Value.string x.1) (fun x => !V.label (lst x.1)) w := fun W x hb => by
 have hc : W.cell? ⟨B, 0, none⟩ = some (.func (.func 119) #[] #[]) := (hb.cell (p := ⟨B, 0, none⟩) hB).trans hcell
 show Calls Tryz.prog 116 #[.string x.1, .pointer (some ⟨B, 0, none⟩)] W _
 obtain ⟨X, hX⟩ := x
 simp only
 go_enter Tryz.func116, Tryz.ntmps116
 go_wp2_with (first | (go_at_call 119; with_reducible refine Calls.mono (label_any X W hX) ?_; rintro e w1 ⟨rfl, rfl⟩))
 go_ret
 exact ⟨rfl, 0, rfl⟩
set_option maxHeartbeats 1000000 in
theorem parts_label (s : ByteArray) (most : Int) (hm0 : 0 ≤ most) (hm1 : most ≤ 100000) (w : World) (hs : s.size ≤ 1000000) (hv : Vars w) :
  Calls Tryz.prog 91 #[.string s, .int .i64 most, .func (.func 119) #[] #[]] w fun e w' => e = .returned (.bool (V.parts (lst s) most.toNat V.label)) ∧ Below w.heap.size w w' := by
 obtain ⟨T, hT⟩ : ∃ T, T = V.parts (lst s) most.toNat V.label := ⟨_, rfl⟩
 rw [← hT]
 have hT2 : T = (decide ((s.size : Int) ≤ most) && (V.splitOn 46 (lst s)).all V.label) := by
  rw [hT]
  unfold V.parts
  congr 1
  rw [lst_length]
  exact decide_eq_decide.2 (by omega)
 have HT := Aside0.mk hT2
 clear hT hT2
 have HV := Aside0.mk hv
 clear hv
 go_enter Tryz.func91, Tryz.ntmps91
 by_cases hlen : (s.size : Int) ≤ most
 ·have hT : T = !(pieces 46 s hs).any (fun x => !V.label (lst x.1)) := by rw [HT.out, pieces_any, Bool.not_not, decide_eq_true hlen, Bool.true_and]
  have HTF := Aside0.mk hT
  clear hT
  have eg : ∀ args w, (callFunc 116 args).run Tryz.prog w = .ok (.enter 116 args) w := enters_of Tryz.func116 (by kernel_rfl) rfl
  have hcon : ∀ (w1 : World) (n : Nat), n = (V.splitOn 46 (lst s)).length → w1 = (w.alloc (.cells #[.func (.func 119) #[] #[]] 126)).alloc (.cells (((V.splitOn 46 (lst s)).map fun l => Value.string (str l))).toArray 9) →
    Calls Tryz.prog 115 #[.slice (some ⟨w.heap.size + 1, 0, none⟩) n n, .func (.func 116) #[] #[.pointer (some ⟨w.heap.size, 0, none⟩)]] w1 fun e w' => e = .returned (.bool ((pieces 46 s hs).any (fun x => !V.label (lst x.1)))) ∧ ∃ q, w' = w1.drewN q := by
   intro w1 n hn hw1
   have hc := Tryz.slices_ContainsFunc (fun x : Sh => Value.string x.1) (fun x => !V.label (lst x.1)) 116 #[.pointer (some ⟨w.heap.size, 0, none⟩)] eg (w.heap.size + 1) 0 n n (pieces 46 s hs) w1
    (pred_label w.heap.size w1 (by rw [hw1]; simp; omega) (by rw [hw1]; simp)) (by rw [pieces_length]; omega) (by rw [hn]; have := splitOn_length 46 (lst s); rw [lst_length] at this; omega) (cells_of_pieces 46 s hs w w1 _ (by rw [hw1]; exact alloc_two _ _ _))
   rw [List.take_of_length_le (by rw [pieces_length]; omega)] at hc
   exact hc
  have HC := Aside0.mk hcon
  have HVA := Aside0.mk (HV.out.go ((Below.refl _ w).alloc (Nat.le_refl _) (.cells #[.func (.func 119) #[] #[]] 126)))
  clear hcon eg
  go_wp2_with (first | (go_at_call 58; with_reducible refine Calls.mono (split_any s 46 _ hs HVA.out _ rfl) ?_; rintro e w1 ⟨n, hn, rfl, hw1⟩; have HN := Aside0.mk hn; have HW := Aside0.mk hw1; clear hn hw1) | (go_at_call 115; with_reducible refine Calls.mono (HC.out w1 n HN.out HW.out) ?_; rintro e w2 ⟨rfl, q, rfl⟩))
  go_ret
  refine ⟨by rw [HTF.out]; rfl, ?_⟩
  rw [HW.out]
  exact below_drewN' (((Below.refl _ w).alloc (Nat.le_refl _) _).alloc (by simp) _) q
 ·have hT : T = false := by rw [HT.out, decide_eq_false hlen]; rfl
  have HTF := Aside0.mk hT
  clear hT
  have t1 : decide ((s.size : Int) ≤ most) = false := decide_eq_false hlen
  go_wp2_with (fail)
  go_ret
  exact ⟨by rw [HTF.out]; rfl, (Below.refl _ _).alloc (Nat.le_refl _) _⟩
end Go.Proofs.YtpfmnkpmidjfjaaGreatDoor
/- The library's variables out of the card's condition, and the card's wrap with the world's shape. -/
namespace Go.Proofs.YtpfmnkpmidjfjaaGreatDoor
open Go.RowKit Go.Lib
set_option linter.unusedVariables false
set_option linter.unusedSimpArgs false
theorem star_es : "*" ++ "errors.errorString" = "*errors.errorString" := by decide
theorem row_es (u : TypeId) (h : Tryz.prog.typeName? 3 u = some "*errors.errorString") : u = 177 :=
 typeName_ptr_named (nm := "errors.errorString") (by rw [star_es]; kernel_rfl) (by kernel_rfl) (by decide) u (by rw [star_es]; exact h)
theorem vars_of (W : World) (hL : laidMetH Tryz.prog [("math/bits.deBruijn32tab", Rows.laid_math_bits_deBruijn32tab), ("math/bits.deBruijn64tab", Rows.laid_math_bits_deBruijn64tab), ("internal/strconv.uint64pow10", Rows.laid_internal_strconv_uint64pow10), ("unicode/utf8.acceptRanges", Rows.laid_unicode_utf8_acceptRanges), ("strconv.ErrRange", Rows.laid_strconv_ErrRange), ("strconv.ErrSyntax", Rows.laid_strconv_ErrSyntax), ("unicode/utf8.first", Rows.laid_unicode_utf8_first)] W) (hsh : W.ShapedOpen Tryz.prog) : Vars W := by
 rw [MakeChecks.laidMetH_plain _ _ _ (by kernel_rfl)] at hL
 obtain ⟨a0, s0, hv0, -, -, -⟩ := laid_sentinel (ts := 9) hL.tail.tail.tail.tail (g := 3) (ti := 117) (by kernel_rfl) (by kernel_rfl) Tryz.underlying117 row_es Tryz.underlying177 Tryz.underlying179 rfl rfl Tryz.underlying9 (by kernel_rfl) (by kernel_rfl)
 obtain ⟨a1, s1, hv1, -, -, -⟩ := laid_sentinel (ts := 9) hL.tail.tail.tail.tail.tail (g := 2) (ti := 117) (by kernel_rfl) (by kernel_rfl) Tryz.underlying117 row_es Tryz.underlying177 Tryz.underlying179 rfl rfl Tryz.underlying9 (by kernel_rfl) (by kernel_rfl)
 have hp : TabIs Tryz.prog W "internal/strconv.uint64pow10" .u64 Lib.pow10Tab := tabIs_of_head (g := 1) (t := 144) (e := 83) (n := 20) (by kernel_rfl) (by kernel_rfl) (by kernel_rfl) (by kernel_rfl) (by kernel_rfl) (by kernel_rfl) hL.tail.tail
 obtain ⟨ps, ⟨g', t', cs, fuel, p, q, hg', ht', hvar, hd, _, _⟩, _⟩ := hL.tail.tail.tail
 refine ⟨?_, Tryz.laysM146.s1_3 W hsh, ⟨_, _, hv1⟩, ⟨_, _, hv0⟩, hp⟩
 have hg7 := hg'
 rw [show Tryz.prog.globalNamed "unicode/utf8.acceptRanges" = some 7 from by kernel_rfl] at hg7
 obtain rfl := Option.some.inj hg7
 unfold World.var? at hvar
 rw [hg'] at hvar
 simp only [Option.bind_some] at hvar
 rcases Nat.lt_or_ge 7 W.heap.size with h | h
 ·omega
 ·rw [Array.getElem?_eq_none h] at hvar
  cases hvar
theorem returnsInHanded_shaped {H : Type} {enc : TypeId × Value → H} {a : Assume} {C : Checked} {os : Os} {f : FuncId} {fn : Func} {s : ChangeSpec} {conds : List PathCond} {apart fresh handsOn again : Bool} {X : World → Array Value → Prop}
  (hX : ∀ (w w' : World) (args : Array Value), w.heap = w'.heap → X w args → X w' args)
  (own : ownKnob C.prog.godebug = none) (started : os.Started) (noInit : C.prog.inits.idxOf? f = none) (hfn : C.prog.funcs[f]? = some fn)
  (witness : ∃ (w : World) (tape : Tape) (i : Input), w.os = os ∧ (w.forCall tape i).Shaped C.prog ∧ i.vars = [] ∧ Input.okWide C.prog (w.forCall tape i) .any w.heap.size f i ∧
   ((s.pre enc C.prog fn conds apart (w.forCall tape i).memory i.args ∧ X (w.forCall tape i).memory i.args) ∧ sizedMet enc C.prog fn (OpenSpec.ofChange s) apart (w.forCall tape i).memory i.args) ∧ a.holds C.prog (lone (Frame.enter C.prog f i.args .normal) [] (w.forCall tape i)))
  (contract : ∀ (W : World) (base : Nat) (args : Array Value) (ds gs : List (DataW H)) (before : List MemPlace),
   (∀ (j : Nat) t v, fn.params[j]? = some t → args[j]? = some v → Value.okWide C.prog W .any base t v) →
   DataW.Whole enc C.prog fn.params.toList s.vars apart W args.toList ds gs before →
   conds.all (PathCond.test C.prog ⟨fn.params.toList, ds, s.plain.varTypes C.prog, gs⟩) = true →
   (DataW.weightsEach C.prog (fn.params.toList ++ s.plain.varTypes C.prog) (ds ++ gs)).all (· ≤ reachBytes) = true → X W args →
   W.ShapedOpen C.prog →
   Calls C.prog f args W fun e W' => ∃ v, e = .returned v ∧ s.post enc C.prog fn apart fresh handsOn again W args v W') :
  ReturnsInHanded a C os f .any (fun w args => (s.pre enc C.prog fn conds apart w args ∧ X w args) ∧ sizedMet enc C.prog fn (OpenSpec.ofChange s) apart w args) (s.post enc C.prog fn apart fresh handsOn again) := by
 refine returnsInHanded_of_calls own started noInit witness ?_
 intro w tape i _ hsh _ hok hpre hholds
 obtain ⟨_, _, _, fn', hfn', _, _, _, _, hval⟩ := hok
 have e : fn' = fn := Option.some.inj (hfn'.symm.trans hfn)
 subst e
 obtain ⟨⟨⟨ds, gs, before, hw, hc⟩, hx⟩, hz⟩ := hpre
 have hw' := DataW.Whole.of_heap (w' := w.forCall tape i) (by rfl) hw
 refine (contract (w.forCall tape i) w.heap.size i.args ds gs before hval hw' hc (hz.weights hw) (hX _ _ _ (by rfl) hx) hsh).mono fun e W' ⟨v, he, hp⟩ => ?_
 subst he
 exact ChangeSpec.post_blind hp
end Go.Proofs.YtpfmnkpmidjfjaaGreatDoor
/- What path's Domain, Check and Text answer. -/
namespace Go.Proofs.YtpfmnkpmidjfjaaGreatDoor
open Go.RowKit Go.Lib
open Go.Proofs.YtpfmnkpmidjfjaaGreatDoorW.PrintWords
set_option linter.unusedVariables false
set_option linter.unusedSimpArgs false
theorem domain_any (s : ByteArray) (w : World) (hs : s.size ≤ 1000000) (hv : Vars w) :
  Calls Tryz.prog 93 #[.string s] w fun e w' => e = .returned (.bool (V.domain (lst s))) ∧ Below w.heap.size w w' := by
 have HV := Aside0.mk hv
 clear hv
 go_enter Tryz.func93, Tryz.ntmps93
 go_wp2_with (first | (go_at_call 91; with_reducible refine Calls.mono (parts_label s 255 (by decide) (by decide) _ hs HV.out) ?_; rintro e w1 ⟨rfl, h⟩; have H := Aside0.mk h; clear h))
 go_ret
 exact ⟨rfl, H.out⟩
theorem cat_run (a b c : ByteArray) (hc : c = a ++ b) (ha : a.size ≤ 1000000) (hb : b.size ≤ 1000000) (w : World) : (Op.stringOp .add a b).run Tryz.prog w = .ok (.string c) w := by
 rw [hc]; exact run_string_add_sum w a b (by omega)
theorem lst_append (a b : ByteArray) : lst (a ++ b) = lst a ++ lst b := by simp [lst, ByteArray.data_append]
theorem str_append (a b : V.Bs) : str (a ++ b) = str a ++ str b := by rw [← str_lst (str a ++ str b), lst_append, lst_str, lst_str]
def pv (n : Bool) (a b : ByteArray) : Value := .agg #[.bool n, .string a, .string b]
def errOf (b : Bool) : Int := if b then 0 else 5
set_option maxRecDepth 100000 in
set_option maxHeartbeats 1000000 in
theorem check_any (n : Bool) (a b : ByteArray) (w : World) (ha : a.size ≤ 100000) (hb : b.size ≤ 100000) (hv : Vars w) :
  Calls Tryz.prog 70 #[.agg #[.bool n, .string a, .string b]] w fun e w' => e = .returned (.int .i64 (errOf (V.check ⟨n, lst a, lst b⟩))) ∧ Below w.heap.size w w' := by
 obtain ⟨T, hT⟩ : ∃ T, T = V.check ⟨n, lst a, lst b⟩ := ⟨_, rfl⟩
 rw [← hT]
 have HT := Aside0.mk hT
 clear hT
 obtain ⟨C, hC⟩ : ∃ C, C = a ++ b := ⟨_, rfl⟩
 have hcat := cat_run a b C hC (by omega) (by omega)
 have hce : C.toList.isEmpty = ((lst a).isEmpty && (lst b).isEmpty) := by
  rw [emp_str, hC, lst_append]
  cases lst a <;> simp
 clear hC
 have HV := Aside0.mk hv
 clear hv
 go_enter Tryz.func70, Tryz.ntmps70
 cases n with
 | true =>
  have hT : T = ((lst a).isEmpty && (lst b).isEmpty) := by rw [HT.out]; simp [V.check]
  rw [← hT] at hce
  have HTF := Aside0.mk hT
  clear hT
  cases T with
  | true =>
   go_wp2_with (fail)
   go_ret
   exact ⟨rfl, (Below.refl _ _).alloc (Nat.le_refl _) _⟩
  | false =>
   go_wp2_with (fail)
   go_ret
   exact ⟨rfl, (Below.refl _ _).alloc (Nat.le_refl _) _⟩
 | false =>
  have hT : T = (V.parts (lst a) (64 : Int).toNat V.atom && V.domain (lst b)) := by rw [HT.out]; simp [V.check, V.localOk]
  clear hce
  have HVA := Aside0.mk (HV.out.go ((Below.refl _ w).alloc (Nat.le_refl _) (.cells #[.bool false, .string a, .string b] 43)))
  cases h1 : V.parts (lst a) (64 : Int).toNat V.atom with
  | false =>
   have hT2 : T = false := by rw [hT, h1]; rfl
   have HTF := Aside0.mk hT2
   have H1 := Aside0.mk h1
   clear hT hT2
   go_wp2_with (first | (go_at_call 91; with_reducible refine Calls.mono (parts_atom a 64 (by decide) (by decide) _ (by omega) HVA.out) ?_; rintro e w1 ⟨rfl, h⟩; have H := Aside0.mk h; clear h; rw [H1.out]))
   go_ret
   exact ⟨by rw [HTF.out]; rfl, ((Below.refl _ w).alloc (Nat.le_refl _) _).trans (H.out.mono (by simp))⟩
  | true =>
   have hT2 : T = V.domain (lst b) := by rw [hT, h1]; rfl
   have H1 := Aside0.mk h1
   clear hT
   cases h2 : V.domain (lst b) with
   | false =>
    have HTF := Aside0.mk (hT2.trans h2)
    have H2 := Aside0.mk h2
    clear hT2
    go_wp2_with (first | (go_at_call 91; with_reducible refine Calls.mono (parts_atom a 64 (by decide) (by decide) _ (by omega) HVA.out) ?_; rintro e w1 ⟨rfl, h⟩; have H := Aside0.mk h; have hc2 : w1.cell? ⟨w.heap.size, 2, none⟩ = some (.string b) := (h.cell (p := ⟨w.heap.size, 2, none⟩) (by simp)).trans (by simp); clear h; rw [H1.out]) | (go_at_call 93; with_reducible refine Calls.mono (domain_any b _ (by omega) (HVA.out.go H.out)) ?_; rintro e w2 ⟨rfl, h⟩; have H3 := Aside0.mk h; clear h; rw [H2.out]))
    go_ret
    exact ⟨by rw [HTF.out]; rfl, (((Below.refl _ w).alloc (Nat.le_refl _) _).trans (H.out.mono (by simp))).trans (H3.out.mono (Nat.le_trans (by simp) H.out.size))⟩
   | true =>
    have HTF := Aside0.mk (hT2.trans h2)
    have H2 := Aside0.mk h2
    clear hT2
    go_wp2_with (first | (go_at_call 91; with_reducible refine Calls.mono (parts_atom a 64 (by decide) (by decide) _ (by omega) HVA.out) ?_; rintro e w1 ⟨rfl, h⟩; have H := Aside0.mk h; have hc2 : w1.cell? ⟨w.heap.size, 2, none⟩ = some (.string b) := (h.cell (p := ⟨w.heap.size, 2, none⟩) (by simp)).trans (by simp); clear h; rw [H1.out]) | (go_at_call 93; with_reducible refine Calls.mono (domain_any b _ (by omega) (HVA.out.go H.out)) ?_; rintro e w2 ⟨rfl, h⟩; have H3 := Aside0.mk h; clear h; rw [H2.out]))
    go_ret
    exact ⟨by rw [HTF.out]; rfl, (((Below.refl _ w).alloc (Nat.le_refl _) _).trans (H.out.mono (by simp))).trans (H3.out.mono (Nat.le_trans (by simp) H.out.size))⟩
def textB (n : Bool) (a b : ByteArray) : ByteArray := match V.ptext ⟨n, lst a, lst b⟩ with | some l => str l | none => ByteArray.empty
set_option maxRecDepth 100000 in
set_option maxHeartbeats 1000000 in
theorem ptext_any (n : Bool) (a b : ByteArray) (w : World) (ha : a.size ≤ 100000) (hb : b.size ≤ 100000) (hv : Vars w) :
  Calls Tryz.prog 51 #[.agg #[.bool n, .string a, .string b]] w fun e w' => e = .returned (.tuple #[.string (textB n a b), .int .i64 (errOf (V.check ⟨n, lst a, lst b⟩))]) ∧ Below w.heap.size w w' := by
 obtain ⟨T, hT⟩ : ∃ T, T = V.check ⟨n, lst a, lst b⟩ := ⟨_, rfl⟩
 obtain ⟨X, hX⟩ : ∃ X, X = textB n a b := ⟨_, rfl⟩
 rw [← hT, ← hX]
 unfold textB V.ptext at hX
 rw [← hT] at hX
 have HT := Aside0.mk hT
 clear hT
 have HVA := Aside0.mk (hv.go ((Below.refl _ w).alloc (Nat.le_refl _) (.cells #[.bool n, .string a, .string b] 43)))
 clear hv
 obtain ⟨C1, hC1⟩ : ∃ C, C = (⟨#[60]⟩ : ByteArray) ++ a := ⟨_, rfl⟩
 obtain ⟨C2, hC2⟩ : ∃ C, C = C1 ++ (⟨#[64]⟩ : ByteArray) := ⟨_, rfl⟩
 obtain ⟨C3, hC3⟩ : ∃ C, C = C2 ++ b := ⟨_, rfl⟩
 obtain ⟨C4, hC4⟩ : ∃ C, C = C3 ++ (⟨#[62]⟩ : ByteArray) := ⟨_, rfl⟩
 have s1 : C1.size = 1 + a.size := by rw [hC1, ByteArray.size_append]; rfl
 have s2 : C2.size = C1.size + 1 := by rw [hC2, ByteArray.size_append]; rfl
 have s3 : C3.size = C2.size + b.size := by rw [hC3, ByteArray.size_append]
 have hcat1 := cat_run _ _ C1 hC1 (by decide) (by omega)
 have hcat2 := cat_run _ _ C2 hC2 (by omega) (by decide)
 have hcat3 := cat_run _ _ C3 hC3 (by omega) (by omega)
 have hcat4 := cat_run _ _ C4 hC4 (by omega) (by decide)
 have hC : C4 = str (60 :: lst a ++ 64 :: lst b ++ [62]) := by
  rw [← str_lst C4, hC4, hC3, hC2, hC1]
  simp only [lst_append]
  congr 1
  simp [lst]
 have HCC := Aside0.mk hC
 clear hC1 hC2 hC3 hC4 s1 s2 s3 hC
 go_enter Tryz.func51, Tryz.ntmps51
 cases T with
 | false =>
  simp only [Bool.false_eq_true, if_false] at hX
  have HX := Aside0.mk hX
  clear hX
  go_wp2_with (first | (go_at_call 70; with_reducible refine Calls.mono (check_any n a b _ ha hb HVA.out) ?_; rintro e w1 ⟨rfl, h⟩; have H := Aside0.mk h; clear h; rw [← HT.out]; simp only [errOf, Bool.false_eq_true, if_false]))
  go_ret2
  exact ⟨by rw [HX.out]; rfl, ((Below.refl _ w).alloc (Nat.le_refl _) _).trans (H.out.mono (by simp))⟩
 | true =>
  simp only [if_true] at hX
  cases n with
  | true =>
   simp only [if_true] at hX
   have HX := Aside0.mk hX
   clear hX
   go_wp2_with (first | (go_at_call 70; with_reducible refine Calls.mono (check_any true a b _ ha hb HVA.out) ?_; rintro e w1 ⟨rfl, h⟩; have H := Aside0.mk h; have hc0 : w1.cell? ⟨w.heap.size, 0, none⟩ = some (.bool true) := (h.cell (p := ⟨w.heap.size, 0, none⟩) (by simp)).trans (by simp); clear h; rw [← HT.out]; simp only [errOf, if_true]))
   go_ret2
   exact ⟨by rw [HX.out]; rfl, ((Below.refl _ w).alloc (Nat.le_refl _) _).trans (H.out.mono (by simp))⟩
  | false =>
   simp only [Bool.false_eq_true, if_false] at hX
   have HX := Aside0.mk hX
   clear hX
   go_wp2_with (first | (go_at_call 70; with_reducible refine Calls.mono (check_any false a b _ ha hb HVA.out) ?_; rintro e w1 ⟨rfl, h⟩; have H := Aside0.mk h; have hc0 : w1.cell? ⟨w.heap.size, 0, none⟩ = some (.bool false) := (h.cell (p := ⟨w.heap.size, 0, none⟩) (by simp)).trans (by simp); have hc1 : w1.cell? ⟨w.heap.size, 1, none⟩ = some (.string a) := (h.cell (p := ⟨w.heap.size, 1, none⟩) (by simp)).trans (by simp); have hc2 : w1.cell? ⟨w.heap.size, 2, none⟩ = some (.string b) := (h.cell (p := ⟨w.heap.size, 2, none⟩) (by simp)).trans (by simp); clear h; rw [← HT.out]; simp only [errOf, if_true]))
   go_ret2
   exact ⟨by rw [HX.out, ← HCC.out]; rfl, ((Below.refl _ w).alloc (Nat.le_refl _) _).trans (H.out.mono (by simp))⟩
end Go.Proofs.YtpfmnkpmidjfjaaGreatDoor
/- What path's Parse answers. -/
namespace Go.Proofs.YtpfmnkpmidjfjaaGreatDoor
open Go.RowKit Go.Lib
open Go.Proofs.YtpfmnkpmidjfjaaGreatDoorW.PrintWords
set_option linter.unusedVariables false
set_option linter.unusedSimpArgs false
theorem results_ct {P : Program} {fn : Func} {p u : Tmp} {ty : TypeId} (h : fn.results = #[.cell p ty, .tmp u]) (tmps : Array Value) (w : World) (g : Nat) (t : TypeId) (cs : Array Value) (fr : Nat × Nat) (d : TypeDesc)
  (hp : tmps.getD p undef = .pointer (some ⟨g, 0, none⟩)) (hg : w.heap[g]? = some (.cells cs t fr))
  (hu : P.underlying ty = some d) (hd : (match d with | .struct _ | .array _ _ => true | _ => false) = true) (hi : (P.info? ty).map (·.size) = some cs.size) (v : Value) (hv : tmps.getD u undef = v) :
  (results fn tmps).run P w = .ok (.tuple #[.agg cs, v]) w := by
 subst hv
 rw [results_cell_tmp h]
 have hp' : tmps[p]?.getD undef = .pointer (some ⟨g, 0, none⟩) := by simpa using hp
 simp [hp', asAddr, run_loadVar_row w g t ty cs fr d hg hu hd hi, Result.andThen]
theorem row3 {w : World} {g t : Nat} {fr : Nat × Nat} {x y z a b c : Value} (h : w.heap[g]? = some (.cells #[x, y, z] t fr)) : (((w.setCell ⟨g, 0, none⟩ a).setCell ⟨g, 1, none⟩ b).setCell ⟨g, 2, none⟩ c).heap[g]? = some (.cells #[a, b, c] t fr) := by
 have h1 := setCell_row _ g 0 _ _ _ a h
 have h2 := setCell_row _ g 1 _ _ _ b h1
 have h3 := setCell_row _ g 2 _ _ _ c h2
 exact h3
theorem unfroz {w : World} {g : Nat} {cs : Array Value} {t : TypeId} (h : w.heap[g]? = some (.cells cs t (0, 0))) (i : Nat) : w.frozen? ⟨g, i, none⟩ = false := by simp [World.frozen?, h]
theorem cells3 {w : World} {g t : Nat} {x y z : Value} (h : w.heap[g]? = some (.cells #[x, y, z] t (0, 0))) : w.cell? ⟨g, 0, none⟩ = some x ∧ w.cell? ⟨g, 1, none⟩ = some y ∧ w.cell? ⟨g, 2, none⟩ = some z ∧ w.frozen? ⟨g, 0, none⟩ = false ∧ w.frozen? ⟨g, 1, none⟩ = false ∧ w.frozen? ⟨g, 2, none⟩ = false := by
 refine ⟨?_, ?_, ?_, unfroz h _, unfroz h _, unfroz h _⟩
 ·rw [cell_of_row w g _ _ _ _ h]; rfl
 ·rw [cell_of_row w g _ _ _ _ h]; rfl
 ·rw [cell_of_row w g _ _ _ _ h]; rfl
def pval (p : V.Path) : Value := .agg #[.bool p.null, .string (str p.loc), .string (str p.dom)]
def pres (o : Option V.Path) : Value := .tuple #[pval (o.getD V.noPath), .int .i64 (errOf o.isSome)]
set_option maxRecDepth 100000 in
set_option maxHeartbeats 1000000 in
theorem pparse_any (s : ByteArray) (w : World) (hs : s.size ≤ 100000) (hv : Vars w) :
  Calls Tryz.prog 86 #[.string s] w fun e w' => e = .returned (pres (V.pparse (lst s))) ∧ Below w.heap.size w w' := by
 obtain ⟨T, hT⟩ : ∃ T, T = pres (V.pparse (lst s)) := ⟨_, rfl⟩
 rw [← hT]
 have HT := Aside0.mk hT
 clear hT
 obtain ⟨N, hN⟩ : ∃ N : ByteArray, N = ⟨#[60, 62]⟩ := ⟨_, rfl⟩
 have HV := Aside0.mk hv
 clear hv
 go_enter Tryz.func86, Tryz.ntmps86
 by_cases hs0 : s = ⟨#[60, 62]⟩
 ·have hT : T = .tuple #[.agg #[.bool true, .string ByteArray.empty, .string ByteArray.empty], .int .i64 0] := by
   rw [HT.out, hs0]; rfl
  have HTF := Aside0.mk hT
  clear hT
  subst hs0
  go_wp2_with (fail)
  refine bodyPost_ret (v := T) ?_ rfl ⟨rfl, (Below.refl _ _).alloc (Nat.le_refl _) _⟩
  rw [HTF.out]
  exact results_ct (by rfl) _ _ w.heap.size 43 _ (0, 0) _ rfl (heap_alloc_new _ _) Tryz.underlying43 rfl (by kernel_rfl) _ rfl
 ·have t0 : (s.toList == [60, 62]) = false := by
   rw [ByteArray.toList_eq]
   simp only [beq_eq_false_iff_ne, ne_eq]
   intro h
   exact hs0 (by rw [← str_lst s, lst, h]; rfl)
  obtain ⟨m, hm⟩ := HV.out.mx
  obtain ⟨b1, hb1⟩ : ∃ b, b = decide ((lst s).head? = some 60) := ⟨_, rfl⟩
  obtain ⟨l1, hl1⟩ : ∃ l, l = if (lst s).head? = some 60 then (lst s).tail else lst s := ⟨_, rfl⟩
  obtain ⟨b2, hb2⟩ : ∃ b, b = decide (l1.getLast? = some 62) := ⟨_, rfl⟩
  obtain ⟨l2, hl2⟩ : ∃ l, l = if l1.getLast? = some 62 then l1.dropLast else l1 := ⟨_, rfl⟩
  obtain ⟨la, lb, b3, hcut⟩ : ∃ la lb b3, Lib.cut l2 [64] = (la, lb, b3) := ⟨_, _, _, rfl⟩
  have hle1 : l1.length ≤ 100000 := by have := lst_length s; rw [hl1]; split <;> simp <;> omega
  have hle2 : l2.length ≤ 100000 := by rw [hl2]; split
                                       ·simp; omega
                                       ·omega
  have hcc := V.cut_one 64 l2
  rw [hcut] at hcc
  have hab : la.length ≤ 100000 ∧ lb.length ≤ 100000 := by
   cases hx : V.cutAt 64 l2 with
   | none => rw [hx] at hcc; simp at hcc; obtain ⟨rfl, rfl, _⟩ := hcc; exact ⟨hle2, by simp⟩
   | some ab =>
    obtain ⟨a, b⟩ := ab
    rw [hx] at hcc; simp at hcc
    obtain ⟨rfl, rfl, _⟩ := hcc
    obtain ⟨h1, _⟩ := V.cutAt_some hx
    have := congrArg List.length h1
    simp at this
    omega
  have hT : T = pres (if b1 && b2 && b3 && V.check ⟨false, la, lb⟩ then some ⟨false, la, lb⟩ else none) := by
   rw [HT.out]
   congr 1
   unfold V.pparse
   rw [if_neg (by intro h; exact hs0 (by rw [← str_lst s, h]; rfl))]
   by_cases h1 : (lst s).head? = some 60
   ·rw [if_pos h1] at hl1
    subst hl1
    by_cases h2 : (lst s).tail.getLast? = some 62
    ·rw [if_pos h2] at hl2
     subst hl2
     rw [if_pos ⟨h1, h2⟩, hb1, hb2, decide_eq_true h1, decide_eq_true h2]
     cases hx : V.cutAt 64 (lst s).tail.dropLast with
     | none => rw [hx] at hcc; simp at hcc; obtain ⟨_, _, rfl⟩ := hcc; simp
     | some ab =>
      obtain ⟨a, b⟩ := ab
      rw [hx] at hcc; simp at hcc
      obtain ⟨rfl, rfl, rfl⟩ := hcc
      simp
    ·rw [if_neg (fun h => h2 h.2), hb2, decide_eq_false h2]; simp
   ·rw [if_neg (fun h => h1 h.1), hb1, decide_eq_false h1]; simp
  have hp1 : ∀ w, Calls Tryz.prog 85 #[.string s, .string ⟨#[60]⟩] w fun e w' => e = .returned (.tuple #[.string (str l1), .bool b1]) ∧ w = w' := by
   intro w
   refine (Tryz.strings_CutPrefix s ⟨#[60]⟩ w).mono ?_
   rintro e w' ⟨rfl, rfl⟩
   have e1 := V.trimPrefix_one 60 (lst s)
   have e2 := V.hasPrefix_one 60 (lst s)
   rw [← hl1] at e1
   rw [← hb1] at e2
   exact ⟨by rw [← e1, ← e2]; rfl, rfl⟩
  have hp2 : ∀ w, Calls Tryz.prog 113 #[.string (str l1), .string ⟨#[62]⟩] w fun e w' => e = .returned (.tuple #[.string (str l2), .bool b2]) ∧ w = w' := by
   intro w
   refine (Tryz.strings_CutSuffix (str l1) ⟨#[62]⟩ w (by rw [str_size]; omega)).mono ?_
   rintro e w' ⟨rfl, rfl⟩
   have e1 := V.trimSuffix_one 62 l1
   have e2 := V.hasSuffix_one 62 l1
   rw [← hl2] at e1
   rw [← hb2] at e2
   exact ⟨by rw [← e1, ← e2]; rfl, rfl⟩
  have hp3 : ∀ w, w.cell? ⟨0, 0, none⟩ = some (.int .i64 m) → Calls Tryz.prog 114 #[.string (str l2), .string ⟨#[64]⟩] w fun e w' => e = .returned (.tuple #[.string (str la), .string (str lb), .bool b3]) ∧ ∃ n, w' = w.drewN n := by
   intro w hm
   refine (Tryz.strings_Cut (str l2) ⟨#[64]⟩ m w (by rw [str_size]; omega) hm).mono ?_
   rintro e w' ⟨rfl, h⟩
   refine ⟨?_, h⟩
   have e0 : (str l2).data.toList = l2 := lst_str l2
   have e1 : (⟨#[64]⟩ : ByteArray).data.toList = [64] := rfl
   rw [e0, e1, hcut]
   rfl
  have HTF := Aside0.mk hT
  have HAB := Aside0.mk hab
  have HP1 := Aside0.mk hp1
  have HP2 := Aside0.mk hp2
  have HP3 := Aside0.mk hp3
  have HM := Aside0.mk hm
  clear hT hab hp1 hp2 hp3 hcc hcut hle1 hle2 hl1 hl2 hb1 hb2 hm hs0
  go_upto_region 5 with (first | (go_at_call 85; with_reducible refine Calls.mono (HP1.out _) ?_; rintro e w1 ⟨rfl, rfl⟩) | (go_at_call 113; with_reducible refine Calls.mono (HP2.out _) ?_; rintro e w2 ⟨rfl, rfl⟩))
  have hmc : ∀ o, (w.alloc o).cell? ⟨0, 0, none⟩ = some (.int .i64 m) := fun o => (((Below.refl _ w).alloc (Nat.le_refl _) o).cell (p := ⟨0, 0, none⟩) (by show 0 < w.heap.size; have := HV.out.low; omega)).trans HM.out
  have HMC := Aside0.mk hmc
  clear hmc
  go_upto_region 7 with (first | (go_at_call 114; with_reducible refine Calls.mono (HP3.out _ (HMC.out _)) ?_; rintro e w3 ⟨rfl, q, rfl⟩))
  obtain ⟨w5, hw5⟩ : ∃ w5, w5 = ((((w.alloc (.cells #[.bool false, .string { data := #[] }, .string { data := #[] }] 43)).drewN q).alloc (.cells #[.bool false, .string (str la), .string (str lb)] 43))) := ⟨_, rfl⟩
  rw [← hw5]
  have hr1 : w5.heap[w.heap.size]? = some (.cells #[.bool false, .string { data := #[] }, .string { data := #[] }] 43 (0, 0)) := by
   rw [hw5, heap_alloc_old _ _ (by show w.heap.size < (w.alloc _).heap.size; simp)]
   exact heap_alloc_new _ _
  have hr2 : w5.heap[w.heap.size + 1]? = some (.cells #[.bool false, .string (str la), .string (str lb)] 43 (0, 0)) := by
   rw [hw5]
   have := heap_alloc_new ((w.alloc (.cells #[.bool false, .string { data := #[] }, .string { data := #[] }] 43)).drewN q) (.cells #[.bool false, .string (str la), .string (str lb)] 43)
   have e : ((w.alloc (.cells #[.bool false, .string { data := #[] }, .string { data := #[] }] 43)).drewN q).heap.size = w.heap.size + 1 := by show (w.alloc _).heap.size = _; simp
   rw [e] at this
   exact this
  have hb5 : Below w.heap.size w w5 := by
   rw [hw5]
   exact (below_drewN' ((Below.refl _ w).alloc (Nat.le_refl _) _) q).alloc (by show w.heap.size ≤ (w.alloc _).heap.size; simp) _
  have hs5 : w5.heap.size = w.heap.size + 2 := by rw [hw5]; simp
  have HB5 := Aside0.mk hb5
  have HR1 := Aside0.mk hr1
  have HR2 := Aside0.mk hr2
  have HS5 := Aside0.mk hs5
  clear hw5 hb5 hr1 hr2 hs5
  obtain ⟨c1, c2, c3, f1, f2, f3⟩ := cells3 HR1.out
  obtain ⟨d1, d2, d3, g1, g2, g3⟩ := cells3 HR2.out
  by_cases hall : b1 = true ∧ b2 = true ∧ b3 = true
  ·obtain ⟨rfl, rfl, rfl⟩ := hall
   cases hck : V.check ⟨false, la, lb⟩ with
   | true =>
    have HCK := Aside0.mk hck
    go_wp2_with (first | (go_at_call 70; with_reducible refine Calls.mono (check_any false (str la) (str lb) _ (by rw [str_size]; exact HAB.out.1) (by rw [str_size]; exact HAB.out.2) (HV.out.go HB5.out)) ?_; rintro e w6 ⟨rfl, h⟩; rw [lst_str, lst_str, HCK.out]; simp only [errOf, if_true]; have H6 := Aside0.mk h; clear h c1 c2 c3 f1 f2 f3 d1 d2 d3 g1 g2 g3; have R1 := Aside0.mk ((H6.out.block w.heap.size (by rw [HS5.out]; omega)).trans HR1.out); have R2 := Aside0.mk ((H6.out.block (w.heap.size + 1) (by rw [HS5.out]; omega)).trans HR2.out); obtain ⟨c1, c2, c3, f1, f2, f3⟩ := cells3 R1.out; obtain ⟨d1, d2, d3, g1, g2, g3⟩ := cells3 R2.out))
    refine bodyPost_ret (v := T) ?_ rfl ⟨rfl, ?_⟩
    ·rw [HTF.out, HCK.out]
     exact results_ct (by rfl) _ _ w.heap.size 43 _ (0, 0) _ rfl (row3 R1.out) Tryz.underlying43 rfl (by kernel_rfl) _ rfl
    ·exact (((HB5.out.trans (H6.out.mono HB5.out.size)).setCell (Nat.le_refl _) _).setCell (Nat.le_refl _) _).setCell (Nat.le_refl _) _
   | false =>
    have HCK := Aside0.mk hck
    go_wp2_with (first | (go_at_call 70; with_reducible refine Calls.mono (check_any false (str la) (str lb) _ (by rw [str_size]; exact HAB.out.1) (by rw [str_size]; exact HAB.out.2) (HV.out.go HB5.out)) ?_; rintro e w6 ⟨rfl, h⟩; rw [lst_str, lst_str, HCK.out]; simp only [errOf, Bool.false_eq_true, if_false]; have H6 := Aside0.mk h; clear h c1 c2 c3 f1 f2 f3 d1 d2 d3 g1 g2 g3; have R1 := Aside0.mk ((H6.out.block w.heap.size (by rw [HS5.out]; omega)).trans HR1.out); have R2 := Aside0.mk ((H6.out.block (w.heap.size + 1) (by rw [HS5.out]; omega)).trans HR2.out); obtain ⟨c1, c2, c3, f1, f2, f3⟩ := cells3 R1.out; obtain ⟨d1, d2, d3, g1, g2, g3⟩ := cells3 R2.out))
    refine bodyPost_ret (v := T) ?_ rfl ⟨rfl, ?_⟩
    ·rw [HTF.out, HCK.out]
     exact results_ct (by rfl) _ _ w.heap.size 43 _ (0, 0) _ rfl (row3 R1.out) Tryz.underlying43 rfl (by kernel_rfl) _ rfl
    ·exact (((HB5.out.trans (H6.out.mono HB5.out.size)).setCell (Nat.le_refl _) _).setCell (Nat.le_refl _) _).setCell (Nat.le_refl _) _
  ·have hT : T = pres none := by
    rw [HTF.out]
    congr 1
    rw [if_neg]
    intro h
    simp only [Bool.and_eq_true] at h
    exact hall ⟨h.1.1.1, h.1.1.2, h.1.2⟩
   have HTG := Aside0.mk hT
   have hcases : b1 = false ∨ (b1 = true ∧ b2 = false) ∨ (b1 = true ∧ b2 = true ∧ b3 = false) := by cases b1 <;> cases b2 <;> cases b3 <;> simp_all
   clear hT hall HTF
   rcases hcases with rfl | ⟨rfl, rfl⟩ | ⟨rfl, rfl, rfl⟩
   all_goals go_wp2_with (fail)
   all_goals
    refine bodyPost_ret (v := T) ?_ rfl ⟨rfl, ?_⟩
    ·rw [HTG.out]
     exact results_ct (by rfl) _ _ w.heap.size 43 _ (0, 0) _ rfl (row3 HR1.out) Tryz.underlying43 rfl (by kernel_rfl) _ rfl
    ·exact ((HB5.out.setCell (Nat.le_refl _) _).setCell (Nat.le_refl _) _).setCell (Nat.le_refl _) _
end Go.Proofs.YtpfmnkpmidjfjaaGreatDoor
/- Slices of bytes that are read, rows of one's own, and what the library's functions of bytes answer of them. -/
namespace Go.Proofs.YtpfmnkpmidjfjaaGreatDoor
open Go.RowKit
open Go.Proofs.YtpfmnkpmidjfjaaGreatDoorW.PrintWords
set_option linter.unusedVariables false
set_option linter.unusedSimpArgs false
theorem cell_up {w w' : World} (h : Below w.heap.size w w') {p : Addr} {v : Value} (hp : w.cell? p = some v) : w'.cell? p = some v :=
 (h.cell (World.block_lt_of_cell? _ _ hp)).trans hp
abbrev kb : Kd Int := Kd.int .u8
def nb (l : B.Bs) : List Int := l.map fun c => (c.toNat : Int)
theorem nb_length (l : B.Bs) : (nb l).length = l.length := by simp [nb]
theorem nb_append (a b : B.Bs) : nb (a ++ b) = nb a ++ nb b := by simp [nb]
theorem nb_take (n : Nat) (l : B.Bs) : nb (l.take n) = (nb l).take n := by simp [nb]
theorem nb_drop (n : Nat) (l : B.Bs) : nb (l.drop n) = (nb l).drop n := by simp [nb]
theorem bytesOf_nb (l : B.Bs) : Lib.bytesOf (nb l) = l := by
 unfold Lib.bytesOf nb
 rw [List.map_map]
 exact (List.map_congr_left (fun c _ => by simp)).trans (List.map_id l)
theorem nb_range (l : B.Bs) : ∀ x ∈ nb l, 0 ≤ x ∧ x < 256 := by
 intro x hx
 unfold nb at hx
 obtain ⟨c, _, rfl⟩ := List.mem_map.1 hx
 have := c.toNat_lt
 omega
structure Bt (w : World) (A : Option Addr) (c : Nat) (l : B.Bs) : Prop where
 rd : kb.C w A (nb l).length (nb l)
 cap : l.length ≤ c
 nil : A = none → c = 0
theorem Bt.on {w w' : World} {A : Option Addr} {c : Nat} {l : B.Bs} (h : Bt w A c l) (hb : Below w.heap.size w w') : Bt w' A c l := ⟨Kd.C_below h.rd hb, h.cap, h.nil⟩
theorem Bt.none (w : World) : Bt w none 0 [] := ⟨Kd.C_nil _ _, Nat.le_refl _, fun _ => rfl⟩
theorem Bt.take {w : World} {A : Option Addr} {c : Nat} {l : B.Bs} (h : Bt w A c l) (n : Nat) (hn : n ≤ l.length) : Bt w A c (l.take n) := by
 refine ⟨?_, ?_, h.nil⟩
 ·rw [nb_take]; exact Kd.C_take h.rd (by rw [nb_length]; exact hn)
 ·have := h.cap; simp; omega
theorem Bt.drop {w : World} {A : Option Addr} {c : Nat} {l : B.Bs} (h : Bt w A c l) (n : Nat) (hn : n ≤ l.length) : Bt w (if c = n then A else A.map (fun x => x.add n)) (c - n) (l.drop n) := by
 refine ⟨?_, ?_, ?_⟩
 ·rw [nb_drop]
  have := Kd.C_drop (m := n) (c := c) h.rd (by rw [nb_length]; exact hn) (by rw [nb_length]; exact h.cap)
  rw [show n * kb.sz = n from Nat.mul_one n] at this
  exact this
 ·have := h.cap; simp; omega
 ·intro hA
  by_cases hc : c = n
  ·omega
  ·rw [if_neg hc] at hA
   have : A = Option.none := by cases A <;> simp_all
   have := h.nil this
   omega
theorem Bt.cells {w : World} {A : Option Addr} {c : Nat} {l : B.Bs} (h : Bt w A c l) (hn : 0 < l.length) : ∃ ad, A = some ad ∧ ∀ i, i < l.length → w.cell? (ad.add i) = some (.int .u8 ((nb l).getD i 0)) := by
 obtain ⟨ad, hA, hc⟩ := h.rd.2.2 (by rw [nb_length]; exact hn)
 refine ⟨ad, hA, fun i hi => ?_⟩
 obtain ⟨cs, h1, h2, h3⟩ := hc i ((nb l).getD i 0) (by
  rw [List.getD_eq_getElem?_getD]
  have : i < (nb l).length := by rw [nb_length]; exact hi
  rw [List.getElem?_eq_getElem this]; rfl)
 have h4 := h3 0 (.int .u8 ((nb l).getD i 0)) (by rw [h2]; rfl)
 have e : i * kb.sz + 0 = i := by show i * 1 + 0 = i; omega
 rw [e] at h4
 exact h4
theorem Bt.bytes {w : World} {A : Option Addr} {c : Nat} {l : B.Bs} (h : Bt w A c l) : Lib.BytesIn w A l.length (nb l) := by
 intro hn
 obtain ⟨ad, rfl, hc⟩ := h.cells hn
 exact Lib.BytesIn.of_cells hc hn
theorem Bt.lit {w : World} {g t : Nat} {cs : Array Value} {fr : Nat × Nat} (l : B.Bs) (h : w.heap[g]? = some (.cells cs t fr)) (hcs : cs.toList = (nb l).map (Value.int .u8)) (hl : l.length ≤ 1000000) : Bt w (some ⟨g, 0, Option.none⟩) l.length l := by
 refine ⟨⟨rfl, by rw [nb_length]; omega, fun hn => ⟨_, rfl, fun j p hp => ⟨[.int .u8 p], rfl, rfl, fun i u hu => ?_⟩⟩⟩, Nat.le_refl _, fun hA => by cases hA⟩
 cases i with
 | succ i => simp at hu
 | zero =>
  obtain rfl : Value.int .u8 p = u := by simpa using hu
  have e : (⟨g, 0, Option.none⟩ : Addr).add (j * 1 + 0) = ⟨g, j, Option.none⟩ := by
   unfold Addr.add
   by_cases hj : j * 1 + 0 = 0
   ·rw [if_pos hj]; simp at hj; rw [hj]
   ·rw [if_neg hj]; simp
  show w.cell? ((⟨g, 0, Option.none⟩ : Addr).add (j * 1 + 0)) = _
  rw [e]
  have hj : cs[j]? = some (.int .u8 p) := by
   rw [← Array.getElem?_toList, hcs, List.getElem?_map, hp]; rfl
  unfold World.cell?
  simp [h, hj]
abbrev Ow (b0 : Nat) (w : World) (v : Value) (l : B.Bs) : Prop := kb.R 5 w b0 (fun _ => True) v (nb l)
theorem Ow.bt {b0 : Nat} {w : World} {v : Value} {l : B.Bs} (h : Ow b0 w v l) : ∃ A c, v = .slice A l.length c ∧ Bt w A c l := by
 obtain ⟨A, c, rfl, hc, hr⟩ := Kd.R_reads h
 rw [nb_length] at hc ⊢
 refine ⟨A, c, rfl, hr, hc, fun hA => ?_⟩
 obtain ⟨inner, _, h2⟩ := Kd.R_own h
 rcases h2 with ⟨h2, _⟩ | ⟨g, cap, cur, h2, _⟩
 ·injection h2
 ·injection h2 with h3 _ _
  rw [hA] at h3; cases h3
theorem Ow.none (b0 : Nat) (w : World) : Ow b0 w (.slice Option.none 0 0) [] := Kd.R_nil _ _ _ _ _
theorem index_cut : ∀ l : B.Bs, Lib.index l [13, 10] = match B.cut l with
  | none => -1
  | some (a, _) => (a.length : Int)
 | [] => rfl
 | x :: r => by
  rw [Lib.index, B.cut]
  by_cases hx : x = 13 ∧ r.head? = some 10
  ·rw [if_pos hx, if_pos]
   ·rfl
   ·cases r with
    | nil => cases hx.2
    | cons y t =>
     have := Option.some.inj hx.2
     rw [hx.1, this]
     simp
  ·rw [if_neg hx, if_neg]
   ·rw [index_cut r]
    cases B.cut r with
    | none => rfl
    | some p =>
     show (if ((p.1.length : Int) == -1) = true then (-1 : Int) else (p.1.length : Int) + 1) = ((x :: p.1).length : Int)
     rw [if_neg (by simp), List.length_cons]
     omega
   ·intro h
    cases r with
    | nil => simp at h
    | cons y t =>
     simp at h
     exact hx ⟨h.1.symm, by rw [← h.2]; rfl⟩
theorem cut_take {l a b : B.Bs} (h : B.cut l = some (a, b)) : l.take a.length = a ∧ l.drop (a.length + 2) = b ∧ a.length + 2 + b.length = l.length := by
 have e := B.cut_some h
 subst e
 refine ⟨by simp, ?_, by simp; omega⟩
 rw [show a ++ 13 :: 10 :: b = (a ++ [13, 10]) ++ b by simp, List.drop_left' (by simp)]
theorem cut_none {A A2 : Option Addr} {c c2 : Nat} {l : B.Bs} {w : World} (hb : Bt w A c l) (hs : Bt w A2 c2 [13, 10]) (hl : l.length ≤ 1000000) (hv : Vars w) (h : B.cut l = Option.none) :
  Calls Tryz.prog 57 #[.slice A l.length c, .slice A2 2 c2] w fun e w' => e = .returned (.tuple #[.slice A l.length c, .slice Option.none 0 0, .bool false]) ∧ Below w.heap.size w w' := by
 obtain ⟨m, hm⟩ := hv.mx
 refine (Tryz.bytes_Cut_all A A2 l.length c 2 c2 (nb l) (nb [13, 10]) m w (nb_length l) rfl (nb_range _) (nb_range _) hb.bytes hs.bytes hb.nil hb.cap (by omega) (by omega) hm).mono ?_
 rintro e w' ⟨rfl, q, rfl⟩
 refine ⟨?_, below_drewN' (Below.refl _ _) q⟩
 rw [bytesOf_nb, bytesOf_nb, index_cut, h]
 rfl
theorem cut_some {A A2 : Option Addr} {c c2 : Nat} {l a r : B.Bs} {w : World} (hb : Bt w A c l) (hs : Bt w A2 c2 [13, 10]) (hl : l.length ≤ 1000000) (hv : Vars w) (h : B.cut l = some (a, r)) :
  Calls Tryz.prog 57 #[.slice A l.length c, .slice A2 2 c2] w fun e w' => (∃ A' c', e = .returned (.tuple #[.slice A a.length c, .slice A' r.length c', .bool true]) ∧ ∀ w0, Bt w0 A c l → Bt w0 A c a ∧ Bt w0 A' c' r) ∧ Below w.heap.size w w' := by
 obtain ⟨m, hm⟩ := hv.mx
 refine (Tryz.bytes_Cut_all A A2 l.length c 2 c2 (nb l) (nb [13, 10]) m w (nb_length l) rfl (nb_range _) (nb_range _) hb.bytes hs.bytes hb.nil hb.cap (by omega) (by omega) hm).mono ?_
 rintro e w' ⟨rfl, q, rfl⟩
 have hbel := below_drewN' (Below.refl w.heap.size w) q
 obtain ⟨h1, h2, h3⟩ := cut_take h
 have d1 := fun w0 (hb : Bt w0 A c l) => hb.take a.length (by omega)
 have d2 := fun w0 (hb : Bt w0 A c l) => hb.drop (a.length + 2) (by omega)
 rw [h1] at d1
 rw [h2] at d2
 refine ⟨⟨_, _, ?_, fun w0 hb => ⟨d1 w0 hb, d2 w0 hb⟩⟩, hbel⟩
 rw [bytesOf_nb, bytesOf_nb, index_cut, h]
 unfold Lib.cutV
 rw [if_pos (by simp)]
 simp only [Int.toNat_natCast, Lib.fromV]
 rw [show l.length - (a.length + 2) = r.length by omega]
theorem end_any (w : World) :
  Calls Tryz.prog 78 #[] w fun e w' => (∃ A c, e = .returned (.slice A 2 c) ∧ Bt w' A c [13, 10]) ∧ Below w.heap.size w w' := by
 go_enter Tryz.func78, Tryz.ntmps78
 go_wp2
 go_ret
 refine ⟨⟨_, _, rfl, ?_⟩, (Below.refl _ _).alloc (Nat.le_refl _) _⟩
 exact Bt.lit [13, 10] (heap_alloc_new _ _) rfl (by decide)
theorem clone_any {A : Option Addr} {c : Nat} {l : B.Bs} {w : World} (hb : Bt w A c l) (hl : l.length ≤ 1000000) :
  Calls Tryz.prog 68 #[.slice A l.length c] w fun e w' => (∃ v, e = .returned v ∧ Ow w.heap.size w' v l) ∧ Below w.heap.size w w' := by
 cases A with
 | none =>
  have hc := hb.nil rfl
  have hl0 : l = [] := by have := hb.cap; cases l with | nil => rfl | cons x t => simp at this; omega
  subst hl0
  refine (Tryz.bytes_Clone_nil 0 c w).mono ?_
  rintro e w' ⟨rfl, rfl⟩
  exact ⟨⟨_, rfl, Ow.none _ _⟩, Below.refl _ _⟩
 | some a =>
  have hcells : ∀ i, i < l.length → w.cell? (a.add i) = some (.int .u8 ((nb l).getD i 0)) := by
   intro i hi
   obtain ⟨ad, e, hc⟩ := hb.cells (by omega)
   cases e
   exact hc i hi
  refine (Tryz.bytes_Clone_at a l.length c (nb l) w (nb_length l) (by omega) hcells).mono ?_
  rintro e w' ⟨v, rfl, h1, _, h2⟩
  refine ⟨⟨v, rfl, ?_⟩, h2⟩
  refine Kd.R_of_own ?_ (fun _ _ => trivial)
  rw [nb_length]
  exact h1
theorem suffix_any {A A2 : Option Addr} {c c2 : Nat} {l s : B.Bs} {w : World} (hb : Bt w A c l) (hs : Bt w A2 c2 s) (hl : l.length ≤ 1000000) :
  Calls Tryz.prog 95 #[.slice A l.length c, .slice A2 s.length c2] w fun e w' => e = .returned (.bool (s.isSuffixOf l)) ∧ Below w.heap.size w w' := by
 refine (Tryz.bytes_HasSuffix_all A A2 l.length c s.length c2 (nb l) (nb s) w (nb_length l) (nb_length s) hb.cap (by omega) hb.bytes hs.bytes).mono ?_
 rintro e w' ⟨rfl, rfl⟩
 rw [bytesOf_nb, bytesOf_nb]
 exact ⟨rfl, Below.refl _ _⟩
theorem prefix_any {A A2 : Option Addr} {c c2 : Nat} {l s : B.Bs} {w : World} (hb : Bt w A c l) (hs : Bt w A2 c2 s) :
  Calls Tryz.prog 77 #[.slice A l.length c, .slice A2 s.length c2] w fun e w' => e = .returned (.bool (s.isPrefixOf l)) ∧ Below w.heap.size w w' := by
 refine (Tryz.bytes_HasPrefix_all A A2 l.length c s.length c2 (nb l) (nb s) w (nb_length l) (nb_length s) hb.cap hb.bytes hs.bytes).mono ?_
 rintro e w' ⟨rfl, rfl⟩
 rw [bytesOf_nb, bytesOf_nb]
 exact ⟨rfl, Below.refl _ _⟩
theorem equal_any {A A2 : Option Addr} {c c2 : Nat} {l s : B.Bs} {w : World} (hb : Bt w A c l) (hs : Bt w A2 c2 s) :
  Calls Tryz.prog 36 #[.slice A l.length c, .slice A2 s.length c2] w fun e w' => e = .returned (.bool (decide (l = s))) ∧ Below w.heap.size w w' := by
 refine (Tryz.bytes_Equal_all A A2 l.length c s.length c2 (nb l) (nb s) w (nb_length l) (nb_length s) hb.bytes hs.bytes).mono ?_
 rintro e w' ⟨rfl, rfl⟩
 rw [bytesOf_nb, bytesOf_nb, show (l == s) = decide (l = s) by rw [Bool.eq_iff_iff]; simp]
 exact ⟨rfl, Below.refl _ _⟩
theorem byte_any' {A : Option Addr} {c : Nat} {l : B.Bs} {w : World} (x : UInt8) (y : Int) (hy : y = (x.toNat : Int)) (hb : Bt w A c l) :
  Calls Tryz.prog 96 #[.slice A l.length c, .int .u8 y] w fun e w' => e = .returned (.int .i64 (Lib.indexByte l x)) ∧ Below w.heap.size w w' := by
 subst hy
 cases A with
 | none =>
  have hc := hb.nil rfl
  have hl0 : l = [] := by have := hb.cap; cases l with | nil => rfl | cons x t => simp at this; omega
  subst hl0
  subst hc
  refine (Tryz.bytes_IndexByte_nil _ w).mono ?_
  rintro e w' ⟨rfl, rfl⟩
  exact ⟨rfl, Below.refl _ _⟩
 | some a =>
  have hcells : ∀ i, i < l.length → w.cell? (a.add i) = some (.int .u8 ((nb l).getD i 0)) := by
   intro i hi
   obtain ⟨ad, e, hc⟩ := hb.cells (by omega)
   cases e
   exact hc i hi
  refine (Tryz.bytes_IndexByte_at a l.length c (nb l) (x.toNat : Int) w (nb_length l) hcells).mono ?_
  rintro e w' ⟨rfl, rfl⟩
  rw [bytesOf_nb]
  exact ⟨by simp, Below.refl _ _⟩
theorem trimV {A : Option Addr} {c : Nat} {l s : B.Bs} {w : World} (hb : Bt w A c l) (hs : s ≠ []) : ∃ A' c', Lib.trimPrefixV A l.length c (nb l) (nb s) = .slice A' (Lib.trimPrefix l s).length c' ∧ ∀ w0, Bt w0 A c l → Bt w0 A' c' (Lib.trimPrefix l s) := by
 by_cases h : Lib.hasPrefix l s = true
 ·have hle : s.length ≤ l.length := List.IsPrefix.length_le (List.isPrefixOf_iff_prefix.1 h)
  have hsl : 0 < s.length := List.length_pos_iff.2 hs
  obtain ⟨ad, rfl, hc⟩ := hb.cells (by omega)
  obtain ⟨b, o, e, _⟩ := hb.bytes (by omega)
  cases e
  have e1 : Lib.trimPrefix l s = l.drop s.length := by unfold Lib.trimPrefix; rw [if_pos h]
  rw [e1]
  have d := fun w0 (hb : Bt w0 (some ⟨b, o, none⟩) c l) => hb.drop s.length hle
  refine ⟨_, _, ?_, d⟩
  cases s with
  | nil => exact absurd rfl hs
  | cons x t =>
   show Lib.bytesTrimPrefix b o l.length c (nb l) (nb (x :: t)) = _
   unfold Lib.bytesTrimPrefix
   rw [bytesOf_nb, bytesOf_nb, if_pos h, nb_length]
   unfold Lib.sliceFrom
   simp [Addr.add]
 ·have e1 : Lib.trimPrefix l s = l := by unfold Lib.trimPrefix; rw [if_neg h]
  rw [e1]
  refine ⟨A, c, ?_, fun _ hb => hb⟩
  unfold Lib.trimPrefixV
  split
  ·unfold Lib.bytesTrimPrefix
   rw [bytesOf_nb, bytesOf_nb, if_neg h]
  ·rfl
theorem trim_any {A A2 : Option Addr} {c c2 : Nat} {l s : B.Bs} {w : World} (hb : Bt w A c l) (hs : Bt w A2 c2 s) (hn : s ≠ []) :
  Calls Tryz.prog 88 #[.slice A l.length c, .slice A2 s.length c2] w fun e w' => (∃ A' c', e = .returned (.slice A' (Lib.trimPrefix l s).length c') ∧ ∀ w0, Bt w0 A c l → Bt w0 A' c' (Lib.trimPrefix l s)) ∧ Below w.heap.size w w' := by
 refine (Tryz.bytes_TrimPrefix_all A A2 l.length c s.length c2 (nb l) (nb s) w (nb_length l) (nb_length s) hb.cap hb.bytes hs.bytes).mono ?_
 rintro e w' ⟨rfl, rfl⟩
 obtain ⟨A', c', e1, h⟩ := trimV hb hn
 rw [e1]
 exact ⟨⟨A', c', rfl, h⟩, Below.refl _ _⟩
theorem cutpre_any {A A2 : Option Addr} {c c2 : Nat} {l s : B.Bs} {w : World} (hb : Bt w A c l) (hs : Bt w A2 c2 s) (hn : s ≠ []) :
  Calls Tryz.prog 61 #[.slice A l.length c, .slice A2 s.length c2] w fun e w' => (∃ A' c', e = .returned (.tuple #[.slice A' (Lib.trimPrefix l s).length c', .bool (s.isPrefixOf l)]) ∧ ∀ w0, Bt w0 A c l → Bt w0 A' c' (Lib.trimPrefix l s)) ∧ Below w.heap.size w w' := by
 refine (Tryz.bytes_CutPrefix_all A A2 l.length c s.length c2 (nb l) (nb s) w (nb_length l) (nb_length s) hb.cap hb.bytes hs.bytes).mono ?_
 rintro e w' ⟨rfl, rfl⟩
 obtain ⟨A', c', e1, h⟩ := trimV hb hn
 rw [e1, bytesOf_nb, bytesOf_nb]
 exact ⟨⟨A', c', rfl, h⟩, Below.refl _ _⟩
end Go.Proofs.YtpfmnkpmidjfjaaGreatDoor
/- What sums' table, run and Long answer. -/
namespace Go.Proofs.YtpfmnkpmidjfjaaGreatDoor
open Go.RowKit Go.Lib
open Go.Proofs.YtpfmnkpmidjfjaaGreatDoorW.PrintWords Go.Proofs.YtpfmnkpmidjfjaaGreatDoorW.PrintLast Go.Proofs.YtpfmnkpmidjfjaaGreatDoorW.PrintMore
set_option linter.unusedVariables false
set_option linter.unusedSimpArgs false
theorem wraps_u64' (n : Int) (h0 : 0 ≤ n) (h1 : n < 2 ^ 32) : IntKind.u64.wrap n = n := by
 simp [IntKind.wrap, IntKind.bits, IntKind.signed]
 omega
theorem u64_and1 (r : Nat) (h : r < 4294967296) : bits .and .u64 (r : Int) 1 = ((r % 2 : Nat) : Int) := by
 have e := bits_mask .u64 32 (by decide) wraps_u64' 1 (by decide) (r : Int) (by omega) (by show (r : Int) < 4294967296; omega)
 have e2 : ((2 : Int) ^ 1 - 1) = 1 := by decide
 rw [e2] at e
 rw [e]
 show (r : Int) % 2 = _
 omega
theorem u64_xor (a b : Nat) (ha : a < 4294967296) (hb : b < 4294967296) : bits .xor .u64 (a : Int) (b : Int) = ((a ^^^ b : Nat) : Int) := by
 have ha' : a % 2 ^ 64 = a := Nat.mod_eq_of_lt (Nat.lt_of_lt_of_le ha (by decide))
 have hb' : b % 2 ^ 64 = b := Nat.mod_eq_of_lt (Nat.lt_of_lt_of_le hb (by decide))
 have hx : a ^^^ b < 2 ^ 32 := Nat.xor_lt_two_pow ha hb
 have e : IntKind.u64.bits = 64 := rfl
 simp only [bits, e, BitVec.ofInt_natCast, BitVec.toNat_xor, BitVec.toNat_ofNat, ha', hb']
 exact wraps_u64' _ (by omega) (by exact_mod_cast hx)
theorem u8_xor (a b : Nat) (ha : a < 256) (hb : b < 256) : bits .xor .u8 (a : Int) (b : Int) = ((a ^^^ b : Nat) : Int) := by
 have ha' : a % 2 ^ 8 = a := Nat.mod_eq_of_lt ha
 have hb' : b % 2 ^ 8 = b := Nat.mod_eq_of_lt hb
 have hx : a ^^^ b < 2 ^ 8 := Nat.xor_lt_two_pow ha hb
 have e : IntKind.u8.bits = 8 := rfl
 simp only [bits, e, BitVec.ofInt_natCast, BitVec.toNat_xor, BitVec.toNat_ofNat, ha', hb']
 exact wraps_u8 _ (by omega) (by exact_mod_cast hx)
set_option maxRecDepth 100000 in
set_option maxHeartbeats 1000000 in
theorem down_any (r : Nat) (w : World) (hr : r < 4294967296) :
  Calls Tryz.prog 99 #[.int .u64 (r : Int), .int .u64 3988292384] w fun e w' => e = .returned (.int .u64 ((B.bit B.dv r : Nat) : Int)) ∧ w = w' := by
 obtain ⟨T, hT⟩ : ∃ T : Int, T = ((B.bit B.dv r : Nat) : Int) := ⟨_, rfl⟩
 rw [← hT]
 have ha := u64_and1 r hr
 have hx : bits .xor .u64 ((r : Int) / 2) 3988292384 = ((r / 2 ^^^ 3988292384 : Nat) : Int) := u64_xor (r / 2) 3988292384 (by omega) (by decide)
 obtain ⟨d, hd⟩ : ∃ d : Int, d = bits .and .u64 (r : Int) 1 := ⟨_, rfl⟩
 rw [← hd] at ha
 obtain ⟨x, hx'⟩ : ∃ x : Int, x = bits .xor .u64 ((r : Int) / 2) 3988292384 := ⟨_, rfl⟩
 rw [← hx'] at hx
 have HX := Aside0.mk hx
 have HXX := Aside0.mk hx'
 by_cases h1 : r % 2 = 1
 ·have hc0 : (bits .and .u64 (r : Int) 1 == 1) = true := by rw [← hd, ha, h1]; rfl
  have hc1 : (bits .and .u64 (r : Int) 1 != 1) = false := by rw [← hd, ha, h1]; rfl
  have HT := Aside0.mk (show T = bits .xor .u64 ((r : Int) / 2) 3988292384 by rw [← HXX.out, hT, HX.out]; unfold B.bit B.dv; rw [if_pos h1])
  clear hT hx hx' hd ha h1
  go_enter Tryz.func99, Tryz.ntmps99
  go_wp2_with (fail)
  go_ret
  exact ⟨by rw [HT.out]; rfl, rfl⟩
 ·have h0 : r % 2 = 0 := by omega
  have hc0 : (bits .and .u64 (r : Int) 1 == 1) = false := by rw [← hd, ha, h0]; rfl
  have hc1 : (bits .and .u64 (r : Int) 1 != 1) = true := by rw [← hd, ha, h0]; rfl
  have HT := Aside0.mk (show T = (r : Int) / 2 by rw [hT]; unfold B.bit; rw [if_neg h1]; omega)
  clear hT hx hx' hd ha h1 h0
  go_enter Tryz.func99, Tryz.ntmps99
  go_wp2_with (fail)
  go_ret
  exact ⟨by rw [HT.out]; rfl, rfl⟩
set_option maxRecDepth 100000 in
set_option maxHeartbeats 1000000 in
theorem ones_any (w : World) :
  Calls Tryz.prog 80 #[.int .i64 32] w fun e w' => e = .returned (.int .u64 4294967295) ∧ w = w' := by
 go_enter Tryz.func80, Tryz.ntmps80
 go_wp2_with (fail)
 go_ret
 exact ⟨by first | rfl | decide | simp, rfl⟩
abbrev kU : Kd Int := Kd.int .u64
theorem infoU64 : (Tryz.prog.info? 83).map (fun i => (i.zero, i.size, i.bytes)) = some (some (.int .u64 0), 1, 8) := by kernel_rfl
def B.bitN : Nat → Nat → Nat
 | 0, r => r
 | k + 1, r => B.bit B.dv (B.bitN k r)
theorem bitN_lt : ∀ (k r : Nat), r < 4294967296 → B.bitN k r < 4294967296
 | 0, r, h => h
 | k + 1, r, h => B.bit_lt _ (bitN_lt k r h)
def tab (i : Nat) : Int := ((B.bits8 B.dv i : Nat) : Int)
def tabN (n : Nat) : List Int := (List.range 256).map (fun i => if i < n then tab i else 0)
theorem tabN_length (n : Nat) : (tabN n).length = 256 := by simp [tabN]
theorem tabN_get (n i : Nat) (hi : i < 256) : (tabN n)[i]? = some (if i < n then tab i else 0) := by
 unfold tabN
 rw [List.getElem?_map, List.getElem?_range hi]
 rfl
theorem tabN_zero : tabN 0 = List.replicate 256 0 := by
 apply List.ext_getElem?
 intro i
 by_cases hi : i < 256
 ·rw [tabN_get 0 i hi, List.getElem?_replicate, if_pos hi, if_neg (by omega)]
 ·rw [List.getElem?_eq_none (by rw [tabN_length]; omega), List.getElem?_replicate, if_neg hi]
theorem tabN_set (n : Nat) (hn : n < 256) : (tabN n).set n (tab n) = tabN (n + 1) := by
 apply List.ext_getElem?
 intro i
 by_cases hi : i < 256
 ·rw [List.getElem?_set, tabN_get _ i hi, tabN_get _ i hi, tabN_length, if_pos hn]
  by_cases h : n = i
  ·subst h
   rw [if_pos rfl, if_pos (by omega)]
  ·rw [if_neg h]
   by_cases h2 : i < n
   ·rw [if_pos h2, if_pos (by omega)]
   ·rw [if_neg h2, if_neg (by omega)]
 ·rw [List.getElem?_eq_none (by rw [List.length_set, tabN_length]; omega), List.getElem?_eq_none (by rw [tabN_length]; omega)]
theorem tabN_at (i : Nat) (hi : i < 256) : (tabN 256).getD i 0 = tab i := by
 rw [List.getD_eq_getElem?_getD, tabN_get 256 i hi, if_pos hi]
 rfl
set_option maxRecDepth 100000 in
set_option maxHeartbeats 4000000 in
theorem table_any (w : World) :
  Calls Tryz.prog 79 #[.int .u64 3988292384] w fun e w' => (∃ g c, e = .returned (.slice (some ⟨g, 0, none⟩) 256 c) ∧ ∀ i, i < 256 → w'.cell? ⟨g, i, none⟩ = some (.int .u64 (tab i))) ∧ Below w.heap.size w w' := by
 go_enter Tryz.func79, Tryz.ntmps79
 go_wp2_with (first | ((with_reducible refine gate_dst (N := 6) rfl ?_); refine Kd.R_make kU (w0 := w) w.heap.size 83 rfl (N := 6) rfl 110 _ _ rfl 256 rfl rfl Tryz.underlying110 (.int .u64 0) 8 infoU64 rfl (by decide) (by omega) 0 (ok := fun _ => True) (okp := fun _ => True) rfl (fun _ hk => hk) trivial (by omega) (by omega) (Below.refl _ _) (Nat.le_refl _) ?_; intro v1 w1 h1 hb1 _ _; have h2 : kU.R 83 w1 w.heap.size (fun _ => True) v1 (tabN 0) := (by rw [tabN_zero]; exact h1); clear h1; obtain ⟨g, cc, e, hg1, hg2, _⟩ := Kd.R_form h2 (by simp [tabN_length]); rw [tabN_length] at e; subst e; have H1 := Aside0.mk h2; have HB1 := Aside0.mk hb1; have HG := Aside0.mk hg1; clear h2 hb1 hg1 hg2))
 go_loopg [9] 256 (fun gf v9 wr => ∃ (n : Nat), v9 = .int .i64 n ∧ n ≤ 256 ∧ gf + n = 256 ∧ Aside0 (kU.R 83 wr w.heap.size (fun _ => True) (.slice (some ⟨g, 0, none⟩) 256 cc) (tabN n) ∧ Below w.heap.size w wr))
 case atStart => exact ⟨0, rfl, by omega, by omega, ⟨H1.out, HB1.out⟩⟩
 case round =>
  obtain ⟨n, rfl, hn, hg, H⟩ := hrel
  obtain ⟨wx, rfl⟩ : ∃ wz : World, wz = wr := ⟨_, rfl⟩
  obtain ⟨go, rfl⟩ : ∃ z : Nat, z = gk := ⟨_, rfl⟩
  by_cases hlt : n < 256
  ·have hlt' : (n : Int) < 256 := by omega
   have h00 : (0 : Int) ≤ (n : Int) := by omega
   go_wp2_with (fail)
   go_loopg [5, 14] 8 (fun gf v5 v14 wr => ∃ (j : Nat), v14 = .int .i64 j ∧ j ≤ 8 ∧ gf + j = 8 ∧ v5 = .int .u64 ((B.bitN j n : Nat) : Int) ∧ Aside0 (wr = wx))
   case atStart => exact ⟨0, rfl, by omega, by omega, by first | rfl | (show Value.int .u64 (IntKind.u64.wrap (n : Int)) = _; rw [wraps_u64' _ (by omega) (by omega)]; rfl), ⟨rfl⟩⟩
   case round =>
    obtain ⟨j, rfl, hj, hgj, rfl, HE⟩ := hrel
    by_cases hjl : j < 8
    ·obtain ⟨r, hr⟩ : ∃ r, r = B.bitN j n := ⟨_, rfl⟩
     have hrl : r < 4294967296 := by rw [hr]; exact bitN_lt j n (by omega)
     rw [← hr]
     have HR := Aside0.mk hr
     clear hr
     have hjl' : (j : Int) < 8 := by omega
     go_wp2_with (first | (go_at_call 99; (with_reducible refine Calls.mono (down_any r _ hrl) ?_); rintro e w5 ⟨rfl, h⟩; have HW5 := Aside0.mk h; clear h))
     go_roundg (gk - 1)
     case measure => omega
     case rel => exact ⟨j + 1, by go_num, by omega, by omega, by rw [HR.out]; rfl, ⟨by rw [← HW5.out]; exact HE.out⟩⟩
    ·have hj8 : j = 8 := by omega
     subst hj8
     obtain ⟨wy, hwy⟩ : ∃ wy, wy = wr := ⟨_, rfl⟩
     have H' : Aside0 (kU.R 83 wr w.heap.size (fun _ => True) (.slice (some ⟨g, 0, none⟩) 256 cc) (tabN n) ∧ Below w.heap.size w wr) := ⟨by rw [HE.out]; exact H.out⟩
     obtain ⟨hc, hf⟩ := Kd.R_celln 0 H'.out.1 (n : Int) h00 hlt'
     have HP := Aside0.mk (Kd.R_putg H'.out.1 (n : Int) (tab n))
     rw [show (n : Int).toNat = n from Int.toNat_natCast n] at hc hf
     go_wp2_with (fail)
     go_roundg (go - 1)
     case measure => omega
     case rel =>
      refine ⟨n + 1, by go_num, by omega, by omega, ⟨?_, ?_⟩⟩
      ·have := HP.out.1
       rw [show (n : Int).toNat = n from Int.toNat_natCast n, tabN_set n hlt] at this
       exact this
      ·exact H'.out.2.setCell HG.out _
  ·have hne : n = 256 := by omega
   subst hne
   go_wp2_with (fail)
   go_ret
   refine ⟨⟨_, _, rfl, fun i hi => ?_⟩, H.out.2⟩
   have h := (Kd.R_celln 0 H.out.1 (i : Int) (by omega) (by omega)).1
   rw [show (i : Int).toNat = i from Int.toNat_natCast i] at h
   rw [h]
   show some (Value.int .u64 ((tabN 256).getD ((i : Int).toNat) 0)) = _
   rw [show (i : Int).toNat = i from Int.toNat_natCast i, tabN_at i hi]
def B.row (l : B.Bs) : Nat := l.foldl (B.step B.dv) 4294967295
theorem row_lt (l : B.Bs) : B.row l < 4294967296 := B.fold_lt l _ (by decide)
theorem row_take (l : B.Bs) (n : Nat) (hn : n < l.length) : B.row (l.take (n + 1)) = B.step B.dv (B.row (l.take n)) (l.getD n 0) := by
 unfold B.row
 rw [List.take_add_one, List.foldl_append, List.getElem?_eq_getElem hn, List.getD_eq_getElem?_getD, List.getElem?_eq_getElem hn]
 rfl
theorem nb_getD (l : B.Bs) (n : Nat) (hn : n < l.length) : (nb l).getD n 0 = ((l.getD n 0).toNat : Int) := by
 unfold nb
 rw [List.getD_eq_getElem?_getD, List.getElem?_map, List.getD_eq_getElem?_getD, List.getElem?_eq_getElem hn]
 rfl
set_option maxRecDepth 100000 in
set_option maxHeartbeats 4000000 in
theorem run_any {A : Option Addr} {c : Nat} {l : B.Bs} (w : World) (hb : Bt w A c l) (hl : l.length ≤ 100000000000000) :
  Calls Tryz.prog 53 #[.slice A l.length c, .int .i64 32, .int .u64 3988292384] w fun e w' => e = .returned (.int .i64 ((B.long l : Nat) : Int)) ∧ Below w.heap.size w w' := by
 have HBT := Aside0.mk hb
 clear hb
 obtain ⟨T, hT⟩ : ∃ T : Int, T = ((B.long l : Nat) : Int) := ⟨_, rfl⟩
 rw [← hT]
 have HT := Aside0.mk hT
 clear hT
 go_enter Tryz.func53, Tryz.ntmps53
 go_wp2_with (first | (go_at_call 79; (with_reducible refine Calls.mono (table_any _) ?_); rintro e w1 ⟨⟨g, c1, rfl, h⟩, h'⟩; have H1 := Aside0.mk h; have H1b := Aside0.mk h'; clear h h') | (go_at_call 80; (with_reducible refine Calls.mono (ones_any _) ?_); rintro e w2 ⟨rfl, rfl⟩))
 go_loopg [8, 17] l.length (fun gf v8 v17 wr => ∃ (n : Nat), v17 = .int .i64 n ∧ n ≤ l.length ∧ gf + n = l.length ∧ v8 = .int .u64 ((B.row (l.take n) : Nat) : Int) ∧ Aside0 (wr = w1))
 case atStart => exact ⟨0, rfl, by omega, by omega, rfl, ⟨rfl⟩⟩
 case round =>
  obtain ⟨n, rfl, hn, hg, rfl, HE⟩ := hrel
  obtain ⟨r, hr⟩ : ∃ r, r = B.row (l.take n) := ⟨_, rfl⟩
  rw [← hr]
  have hrl : r < 4294967296 := by rw [hr]; exact row_lt _
  have HR := Aside0.mk hr
  clear hr
  by_cases hlt : n < l.length
  ·have hlt' : (n : Int) < (l.length : Int) := by omega
   have h00 : (0 : Int) ≤ (n : Int) := by omega
   obtain ⟨x, hx⟩ : ∃ x : UInt8, x = l.getD n 0 := ⟨_, rfl⟩
   have hrt := row_take l n hlt
   rw [← HR.out, ← hx] at hrt
   obtain ⟨ad, hA, hcell⟩ := HBT.out.cells (by omega)
   subst hA
   have hc0 := cell_up H1b.out (hcell n hlt)
   rw [← HE.out, nb_getD l n hlt, ← hx] at hc0
   obtain ⟨q, hq⟩ : ∃ q : Nat, q = (r % 256) ^^^ x.toNat := ⟨_, rfl⟩
   have hql : q < 256 := by rw [hq]; exact Nat.xor_lt_two_pow (n := 8) (by omega) x.toNat_lt
   have hxx : bits .xor .u8 ((r : Int) % 256) (x.toNat : Int) = (q : Int) := by
    rw [hq, ← u8_xor _ _ (by omega) x.toNat_lt]
    rfl
   have hct := H1.out q hql
   rw [← HE.out] at hct
   have hst : bits .xor .u64 ((r : Int) / 256) (tab q) = ((B.step B.dv r x : Nat) : Int) := by
    unfold tab B.step
    rw [← hq, ← u64_xor _ _ (by omega) (B.bits8_lt _ (by omega))]
    rfl
   have HRT := Aside0.mk hrt
   have h0q : (0 : Int) ≤ (q : Int) := by omega
   have hq2 : (q : Int) < 256 := by omega
   clear hrt hcell hx hq hlt
   go_wp2_with (fail)
   go_roundg (gk - 1)
   case measure => omega
   case rel => exact ⟨n + 1, by go_num, by omega, by omega, by rw [HRT.out], HE⟩
  ·have hne : n = l.length := by omega
   have t1 : decide ((n : Int) < (l.length : Int)) = false := by simp; omega
   have t2 : decide (n < l.length) = false := by simp; omega
   have hx : bits .xor .u64 (r : Int) 4294967295 = T := by
    rw [HT.out]
    unfold B.long
    have e := HR.out
    rw [hne, List.take_length] at e
    unfold B.row at e
    rw [← e]
    exact u64_xor r 4294967295 hrl (by decide)
   have hTl : 0 ≤ T ∧ T < 4294967296 := by
    rw [HT.out]
    have := B.long_lt l
    omega
   obtain ⟨hT0, hT1⟩ := hTl
   clear hne
   go_wp2_with (first | (go_at_call 80; (with_reducible refine Calls.mono (ones_any _) ?_); rintro e w2 ⟨rfl, rfl⟩))
   go_ret
   exact ⟨by first | rfl | (congr 2; unfold wrap64; omega), by rw [HE.out]; exact H1b.out⟩
theorem long_any {A : Option Addr} {c : Nat} {l : B.Bs} (w : World) (hb : Bt w A c l) (hl : l.length ≤ 100000000000000) :
  Calls Tryz.prog 31 #[.slice A l.length c] w fun e w' => e = .returned (.int .i64 ((B.long l : Nat) : Int)) ∧ Below w.heap.size w w' := by
 have HBT := Aside0.mk hb
 clear hb
 go_enter Tryz.func31, Tryz.ntmps31
 go_wp2_with (first | (go_at_call 53; (with_reducible refine Calls.mono (run_any _ HBT.out hl) ?_); rintro e w1 ⟨rfl, h⟩; have H1 := Aside0.mk h; clear h))
 go_ret
 exact ⟨rfl, H1.out⟩
end Go.Proofs.YtpfmnkpmidjfjaaGreatDoor
/- What dots' Lines and Check answer. -/
namespace Go.Proofs.YtpfmnkpmidjfjaaGreatDoor
open Go.RowKit
open Go.Proofs.YtpfmnkpmidjfjaaGreatDoorW.PrintWords
set_option linter.unusedVariables false
set_option linter.unusedSimpArgs false
abbrev kl : Kd (List Int) := Kd.slice 5 kb
theorem infoU8 : (Tryz.prog.info? 5).map (fun i => (i.zero, i.size, i.bytes)) = some (some (.int .u8 0), 1, 1) := by kernel_rfl
theorem infoBs : (Tryz.prog.info? 25).map (fun i => (i.zero, i.size, i.bytes)) = some (some (.slice none 0 0), 1, 24) := by kernel_rfl
abbrev Ls (b0 : Nat) (w : World) (v : Value) (l : List B.Bs) : Prop := kl.R 25 w b0 (fun _ => True) v (l.map nb)
theorem Ow.low {b0 b1 : Nat} {w : World} {v : Value} {l : B.Bs} (h : Ow b0 w v l) (hb : b1 ≤ b0) : Ow b1 w v l := Kd.R_lower h hb
theorem Ow.on {b0 : Nat} {w w' : World} {v : Value} {l : B.Bs} (h : Ow b0 w v l) (hb : Below w.heap.size w w') : Ow b0 w' v l := Kd.R_below h hb
theorem Ow.el {b0 b1 : Nat} {w : World} {v : Value} {l : B.Bs} (h : Ow b1 w v l) (hb : b0 ≤ b1) : kl.M w b0 (fun k => b1 ≤ k) (nb l) [v] :=
 ⟨v, rfl, Kd.R_reok rfl (Kd.R_lower h hb) (fun k e => Kd.R_base h k e)⟩
set_option maxRecDepth 100000 in
set_option maxHeartbeats 4000000 in
theorem lines_any {A : Option Addr} {c : Nat} {l : B.Bs} (w : World) (hb : Bt w A c l) (hl : l.length ≤ 1000000) (hv : Vars w) :
  Calls Tryz.prog 76 #[.slice A l.length c] w fun e w' => (∃ v, e = .returned v ∧ Ls w.heap.size w' v (B.lines l)) ∧ Below w.heap.size w w' := by
 have HBT := Aside0.mk hb
 have HV := Aside0.mk hv
 clear hb hv
 go_enter Tryz.func76, Tryz.ntmps76
 go_wp2_with (fail)
 go_loopg [0, 3] l.length (fun g v0 v3 wr => ∃ (r : B.Bs) (ls : List B.Bs) (A1 : Option Addr) (c1 : Nat), v0 = .slice A1 r.length c1 ∧ r.length ≤ g ∧ g ≤ l.length ∧ Aside0 (Bt w A1 c1 r ∧ ls.length + r.length ≤ l.length ∧ ls ++ B.lines r = B.lines l ∧ Ls w.heap.size wr v3 ls ∧ Below w.heap.size w wr))
 case atStart => exact ⟨l, [], A, c, rfl, by omega, by omega, ⟨HBT.out, by simp, rfl, Kd.R_nil _ _ _ _ _, Below.refl _ _⟩⟩
 case round =>
  obtain ⟨r, ls, A1, c1, rfl, hr, hg, H⟩ := hrel
  obtain ⟨wx, rfl⟩ : ∃ wz : World, wz = wr := ⟨_, rfl⟩
  have HVX := Aside0.mk (HV.out.go H.out.2.2.2.2)
  have HRL := Aside0.mk (Nat.le_trans hr (Nat.le_trans hg hl))
  cases hc : B.cut r with
  | none =>
   have HC := Aside0.mk hc
   clear hc
   go_wp2_with (first | (go_at_call 78; (with_reducible refine Calls.mono (end_any _) ?_); rintro e w1 ⟨⟨A2, c2, rfl, h⟩, h'⟩; have H1 := Aside0.mk h; have H1b := Aside0.mk h'; clear h h') | (go_at_call 57; (with_reducible refine Calls.mono (cut_none ((H.out.1.on H.out.2.2.2.2).on H1b.out) H1.out HRL.out (HVX.out.go H1b.out) HC.out) ?_); rintro e w2 ⟨rfl, h⟩; have H2 := Aside0.mk h; clear h))
   go_ret
   have hw : Below wx.heap.size wx w2 := H1b.out.trans (H2.out.mono H1b.out.size)
   refine ⟨⟨_, rfl, ?_⟩, H.out.2.2.2.2.trans (hw.mono H.out.2.2.2.2.size)⟩
   have e : B.lines r = [] := by rw [B.lines_cut, HC.out]
   have e2 := H.out.2.2.1
   rw [e, List.append_nil] at e2
   rw [← e2]
   exact Kd.R_below H.out.2.2.2.1 hw
  | some p =>
   obtain ⟨a, r2⟩ := p
   have HC := Aside0.mk hc
   have HCT := Aside0.mk (cut_take hc)
   obtain ⟨A3, c3, hv3, hcc, _⟩ := Kd.R_reads H.out.2.2.2.1
   rw [List.length_map] at hv3
   subst hv3
   clear hc hcc
   go_upto_region 5 with (first | (go_at_call 78; (with_reducible refine Calls.mono (end_any _) ?_); rintro e w1 ⟨⟨A2, c2, rfl, h⟩, h'⟩; have H1 := Aside0.mk h; have H1b := Aside0.mk h'; clear h h') | (go_at_call 57; (with_reducible refine Calls.mono (cut_some ((H.out.1.on H.out.2.2.2.2).on H1b.out) H1.out HRL.out (HVX.out.go H1b.out) HC.out) ?_); rintro e w2 ⟨⟨A4, c4, rfl, h⟩, h'⟩; have H2 := Aside0.mk (h w H.out.1); have H2b := Aside0.mk h'; clear h h'))
   have hw : Below wx.heap.size wx w2 := H1b.out.trans (H2b.out.mono H1b.out.size)
   have HW := Aside0.mk hw
   clear hw
   have HR3 := Aside0.mk (Kd.R_below H.out.2.2.2.1 HW.out)
   go_wp2_with (first | (go_at_call 68; (with_reducible refine Calls.mono (clone_any (H2.out.1.on (H.out.2.2.2.2.trans (HW.out.mono H.out.2.2.2.2.size))) (by have := HCT.out.2.2; have := HRL.out; omega)) ?_); rintro e w3 ⟨⟨v, rfl, h⟩, h'⟩; obtain ⟨A5, c5, rfl, _⟩ := Ow.bt h; have H3 := Aside0.mk h; have H3b := Aside0.mk h'; clear h h') | ((with_reducible refine gate_builtin (b := .append) (xs := #[.tmp 17, .tmp 20]) rfl ?_); at_builtin; refine Kd.R_append kl (w0 := w) w.heap.size rfl (.tmp 17) (.tmp 20) 107 25 (.slice none 0 0) 24 rfl Tryz.underlying107 infoBs rfl (by decide) (by omega) (.slice A3 ls.length c3) (ls.map nb) (nb a) [.slice A5 a.length c5] (fun _ => True) (fun k => w2.heap.size ≤ k) rfl rfl (H3.out.el (Nat.le_trans H.out.2.2.2.2.size HW.out.size)) (fun k hk => ⟨trivial, fun e => absurd (Kd.R_lt HR3.out k e.symm) (by omega)⟩) (fun _ _ => trivial) (Kd.R_below HR3.out H3b.out) ((H.out.2.2.2.2.trans (HW.out.mono H.out.2.2.2.2.size)).trans (H3b.out.mono (Nat.le_trans H.out.2.2.2.2.size HW.out.size))) (Nat.le_trans (Nat.le_trans H.out.2.2.2.2.size HW.out.size) H3b.out.size) (by have := H.out.2.1; rw [List.length_map]; omega) ?_; intro v1 w5 hR5 hB5 hg5 hat5; have HR5 := Aside0.mk hR5; have HB5 := Aside0.mk hB5; have HG5 := Aside0.mk hg5; clear hR5 hB5 hg5 hat5))
   go_roundg (gk - 1)
   case measure => have := HCT.out.2.2; omega
   case rel =>
    refine ⟨r2, ls ++ [a], _, _, rfl, by have := HCT.out.2.2; omega, by omega, ⟨?_, by have := HCT.out.2.2; have := H.out.2.1; simp; omega, ?_, by unfold Ls; rw [List.map_append]; exact HR5.out, HB5.out⟩⟩
    ·exact H2.out.2
    ·rw [← H.out.2.2.1, B.lines_cut r, HC.out]
     simp
end Go.Proofs.YtpfmnkpmidjfjaaGreatDoor
/- What dots' Check answers. -/
namespace Go.Proofs.YtpfmnkpmidjfjaaGreatDoor
open Go.RowKit
open Go.Proofs.YtpfmnkpmidjfjaaGreatDoorW.PrintWords
set_option linter.unusedVariables false
set_option linter.unusedSimpArgs false
theorem ended_suffix (l : B.Bs) : B.ended l = [13, 10].isSuffixOf l := by
 rw [Bool.eq_iff_iff]
 unfold B.ended
 rw [Bool.and_eq_true, decide_eq_true_eq, decide_eq_true_eq, List.isSuffixOf_iff_suffix]
 constructor
 ·rintro ⟨h1, h2⟩
  exact ⟨l.take (l.length - 2), by have := List.take_append_drop (l.length - 2) l; rw [h2] at this; exact this⟩
 ·rintro ⟨t, rfl⟩
  refine ⟨by simp, ?_⟩
  simp [B.crlf]
theorem bare_bytes (l : B.Bs) : B.bare l = (!(decide (0 ≤ Lib.indexByte l 13)) && !(decide (0 ≤ Lib.indexByte l 10))) := by
 have e : ∀ c, decide (0 ≤ Lib.indexByte l c) = l.contains c := by
  intro c
  have := idx_mem c l
  rw [Bool.eq_iff_iff] at this ⊢
  simp only [decide_eq_true_eq, Bool.not_eq_true'] at this ⊢
  constructor
  ·intro h
   cases hb : l.contains c with
   | true => rfl
   | false => have := this.2 hb; omega
  ·intro h
   by_cases h' : Lib.indexByte l c < 0
   ·rw [this.1 h'] at h; cases h
   ·omega
 rw [e, e]
 unfold B.bare
 rw [Bool.eq_iff_iff]
 simp only [List.all_eq_true, Bool.and_eq_true, Bool.not_eq_true', decide_eq_false_iff_not, List.contains_eq_mem]
 constructor
 ·intro h
  exact ⟨fun hm => (h _ hm).1 rfl, fun hm => (h _ hm).2 rfl⟩
 ·rintro ⟨h1, h2⟩ x hx
  exact ⟨fun e => h1 (e ▸ hx), fun e => h2 (e ▸ hx)⟩
theorem Ls.form {b0 : Nat} {w : World} {v : Value} {ls : List B.Bs} (h : Ls b0 w v ls) : (v = .slice none 0 0 ∧ ls = []) ∨ ∃ g c, v = .slice (some ⟨g, 0, none⟩) ls.length c := by
 obtain ⟨inner, h1, h2⟩ := Kd.R_own h
 rcases h2 with ⟨h2, h3⟩ | ⟨g, c, cur, h2, _⟩
 ·left
  refine ⟨h2, ?_⟩
  rw [List.length_map] at h3
  exact List.eq_nil_of_length_eq_zero h3
 ·right
  rw [List.length_map] at h2
  exact ⟨g, c, h2⟩
theorem Ls.sl {b0 : Nat} {w : World} {v : Value} {ls : List B.Bs} (h : Ls b0 w v ls) : ∃ A c, v = .slice A ls.length c ∧ (0 < ls.length → ∃ g, A = some ⟨g, 0, none⟩) := by
 rcases h.form with ⟨rfl, rfl⟩ | ⟨g, c, rfl⟩
 ·exact ⟨_, _, rfl, fun h => absurd h (by simp)⟩
 ·exact ⟨_, _, rfl, fun _ => ⟨g, rfl⟩⟩
theorem Ls.get {b0 : Nat} {w : World} {g cc : Nat} {ls : List B.Bs} (h : Ls b0 w (.slice (some ⟨g, 0, none⟩) ls.length cc) ls) (n : Nat) (hn : n < ls.length) : ∃ A c, w.cell? ⟨g, n, none⟩ = some (.slice A (ls.getD n []).length c) ∧ Bt w A c (ls.getD n []) := by
 have h' : kl.R 25 w b0 (fun _ => True) (.slice (some ⟨g, 0, none⟩) (ls.map nb).length cc) (ls.map nb) := by rw [List.length_map]; exact h
 obtain ⟨c, h1, h2, h3, _⟩ := Kd.R_elem h' [] (n : Int) (by omega) (by rw [List.length_map]; omega)
 obtain ⟨v, rfl, hv⟩ := h2
 have e : (ls.map nb).getD (n : Int).toNat [] = nb (ls.getD n []) := by
  simp only [Int.toNat_natCast, List.getD_eq_getElem?_getD, List.getElem?_map]
  rw [List.getElem?_eq_getElem hn]; rfl
 rw [e] at hv
 obtain ⟨A, c2, rfl, hb⟩ := Ow.bt (Kd.R_mono hv (fun _ _ => trivial))
 refine ⟨A, c2, ?_, hb⟩
 have := h3 0 _ rfl
 simpa [Kd.slice] using this
theorem all_take' {α : Type} (l : List α) (p : α → Bool) (n : Nat) (hn : n < l.length) (d : α) : (l.take (n + 1)).all p = ((l.take n).all p && p (l.getD n d)) := by
 rw [List.take_add_one, List.all_append, List.getElem?_eq_getElem hn, List.getD_eq_getElem?_getD, List.getElem?_eq_getElem hn]
 simp
theorem all_false' {α : Type} (l : List α) (p : α → Bool) (n : Nat) (hn : n < l.length) (d : α) (h : p (l.getD n d) = false) : l.all p = false := by
 rw [List.all_eq_false]
 refine ⟨l.getD n d, ?_, by rw [h]; simp⟩
 rw [List.getD_eq_getElem?_getD, List.getElem?_eq_getElem hn]
 exact List.getElem_mem hn
theorem lines_len (l : B.Bs) : (B.lines l).length ≤ l.length ∧ ∀ x ∈ B.lines l, x.length ≤ l.length := by
 have : ∀ n (l : B.Bs), l.length ≤ n → (B.lines l).length ≤ l.length ∧ ∀ x ∈ B.lines l, x.length ≤ l.length := by
  intro n
  induction n with
  | zero =>
   intro l hl
   have : l = [] := List.eq_nil_of_length_eq_zero (by omega)
   subst this
   exact ⟨Nat.le_refl _, fun x hx => by cases hx⟩
  | succ n ih =>
   intro l hl
   rw [B.lines_cut]
   cases hc : B.cut l with
   | none => exact ⟨Nat.zero_le _, fun x hx => by cases hx⟩
   | some p =>
    obtain ⟨a, r⟩ := p
    have h3 := (cut_take hc).2.2
    obtain ⟨i1, i2⟩ := ih r (by omega)
    refine ⟨by simp only [List.length_cons]; omega, fun x hx => ?_⟩
    rcases List.mem_cons.1 hx with rfl | hx
    ·omega
    ·have := i2 x hx; omega
 exact this l.length l (Nat.le_refl _)
theorem getD_mem {α : Type} (l : List α) (n : Nat) (hn : n < l.length) (d : α) : l.getD n d ∈ l := by
 rw [List.getD_eq_getElem?_getD, List.getElem?_eq_getElem hn]
 exact List.getElem_mem hn
set_option maxRecDepth 100000 in
set_option maxHeartbeats 4000000 in
theorem dcheck_any {A : Option Addr} {c : Nat} {l : B.Bs} (w : World) (hb : Bt w A c l) (hl : l.length ≤ 1000000) (hv : Vars w) :
  Calls Tryz.prog 72 #[.slice A l.length c] w fun e w' => e = .returned (.int .i64 (if B.body l then 0 else 5)) ∧ Below w.heap.size w w' := by
 obtain ⟨T, hT⟩ : ∃ T : Int, T = if B.body l then 0 else 5 := ⟨_, rfl⟩
 rw [← hT]
 have HT := Aside0.mk hT
 have HBT := Aside0.mk hb
 have HV := Aside0.mk hv
 have HL := Aside0.mk hl
 have HEN := Aside0.mk (ended_suffix l)
 clear hT hb hv hl
 have HP : ∀ ws, Aside0 (Below w.heap.size w ws) → Aside0 ((l.isEmpty || B.ended l) = true) → ∀ (a : Act), a.tmps.size = 30 → a.eval (.tmp 0) = .slice A l.length c → True := fun _ _ _ _ _ _ => trivial
 clear HP
 go_enter Tryz.func72, Tryz.ntmps72
 by_cases hbad : 0 < l.length ∧ [13, 10].isSuffixOf l = false
 ·obtain ⟨hne, hen⟩ := hbad
  have h0 : (0 : Int) < (l.length : Int) := by omega
  have h0' : decide ((l.length : Int) > 0) = true := by simp; omega
  have hT5 : T = 5 := by
   rw [HT.out, if_neg]
   intro h
   unfold B.body at h
   rw [HEN.out, hen] at h
   cases l with
   | nil => simp at hne
   | cons x t => simp at h
  have HT5 := Aside0.mk hT5
  have HE := Aside0.mk hen
  clear hen hT5
  go_wp2_with (first | (go_at_call 78; (with_reducible refine Calls.mono (end_any _) ?_); rintro e w1 ⟨⟨A2, c2, rfl, h⟩, h'⟩; have H1 := Aside0.mk h; have H1b := Aside0.mk h'; clear h h') | (go_at_call 95; (with_reducible refine Calls.mono (suffix_any (HBT.out.on H1b.out) H1.out HL.out) ?_); rintro e w2 ⟨rfl, h⟩; have H2 := Aside0.mk h; clear h; rw [HE.out]))
  go_ret
  exact ⟨by rw [HT5.out]; rfl, H1b.out.trans (H2.out.mono H1b.out.size)⟩
 ·have hgood : (l.isEmpty || B.ended l) = true := by
   rw [HEN.out]
   cases l with
   | nil => rfl
   | cons x t =>
    cases h : [13, 10].isSuffixOf (x :: t) with
    | true => simp
    | false => exact absurd ⟨by simp, h⟩ hbad
  have HG := Aside0.mk hgood
  clear hgood
  obtain ⟨ls, hls⟩ : ∃ ls, ls = B.lines l := ⟨_, rfl⟩
  have hle := lines_len l
  rw [← hls] at hle
  have HLE := Aside0.mk hle
  have HLS := Aside0.mk hls
  clear hle
  have hTb : T = if ls.all B.bare then 0 else 5 := by
   rw [HT.out]
   unfold B.body
   rw [HG.out, ← HLS.out, Bool.true_and]
  have HTB := Aside0.mk hTb
  clear hTb hls
  have hloop : ∀ (w0 : World) (g cc : Nat), Aside0 (Vars w0) → True := fun _ _ _ _ => trivial
  clear hloop
  by_cases hne : 0 < l.length
  ·have h0 : (0 : Int) < (l.length : Int) := by omega
   have h0' : decide ((l.length : Int) > 0) = true := by simp; omega
   have hen : [13, 10].isSuffixOf l = true := by
    cases h : [13, 10].isSuffixOf l with
    | true => rfl
    | false => exact absurd ⟨hne, h⟩ hbad
   have HE := Aside0.mk hen
   clear hen hbad
   go_wp2_with (first | (go_at_call 78; (with_reducible refine Calls.mono (end_any _) ?_); rintro e w1 ⟨⟨A2, c2, rfl, h⟩, h'⟩; have H1 := Aside0.mk h; have H1b := Aside0.mk h'; clear h h') | (go_at_call 95; (with_reducible refine Calls.mono (suffix_any (HBT.out.on H1b.out) H1.out HL.out) ?_); rintro e w2 ⟨rfl, h⟩; have H2 := Aside0.mk (H1b.out.trans (h.mono H1b.out.size)); clear h; rw [HE.out]) | (go_at_call 76; (with_reducible refine Calls.mono (lines_any _ (HBT.out.on H2.out) HL.out (HV.out.go H2.out)) ?_); rw [← HLS.out]; rintro e w3 ⟨⟨v, rfl, h⟩, h'⟩; have H3 := Aside0.mk h; have H3b := Aside0.mk (H2.out.trans (h'.mono H2.out.size)); clear h h'; obtain ⟨A4, c4, rfl, h4⟩ := Ls.sl H3.out; have HA4 := Aside0.mk h4; clear h4))
   go_loopg [17] ls.length (fun gf v17 wr => ∃ (n : Nat), v17 = .int .i64 n ∧ n ≤ ls.length ∧ gf + n = ls.length ∧ Aside0 ((ls.take n).all B.bare = true ∧ Below w3.heap.size w3 wr))
   case atStart => exact ⟨0, rfl, by omega, by omega, ⟨by simp, Below.refl _ _⟩⟩
   case round =>
    obtain ⟨n, rfl, hn, hg, H⟩ := hrel
    have hll : ls.length ≤ 1000000 := Nat.le_trans HLE.out.1 HL.out
    obtain ⟨wx, rfl⟩ : ∃ wz : World, wz = wr := ⟨_, rfl⟩
    by_cases hlt : n < ls.length
    ·obtain ⟨g, rfl⟩ := HA4.out (by omega)
     obtain ⟨A5, c5, hcell, hb5⟩ := Ls.get (Kd.R_below H3.out H.out.2) n hlt
     have HB5 := Aside0.mk hb5
     have hxl := HLE.out.2 _ (getD_mem ls n hlt [])
     obtain ⟨x, hx⟩ : ∃ x, x = ls.getD n [] := ⟨_, rfl⟩
     have hbb := bare_bytes (ls.getD n [])
     rw [← hx] at hcell hb5 hxl hbb
     have HX := Aside0.mk hx
     have HBX := Aside0.mk hb5
     have HXB := Aside0.mk hbb
     have hlt' : (n : Int) < (ls.length : Int) := by omega
     have h00 : (0 : Int) ≤ (n : Int) := by omega
     clear hb5 hbb HB5 hx
     obtain ⟨i1, hi1⟩ : ∃ i1, i1 = Lib.indexByte x 13 := ⟨_, rfl⟩
     obtain ⟨i2, hi2⟩ : ∃ i2, i2 = Lib.indexByte x 10 := ⟨_, rfl⟩
     have HI1 := Aside0.mk hi1
     have HI2 := Aside0.mk hi2
     have hb : B.bare x = (!(decide (0 ≤ i1)) && !(decide (0 ≤ i2))) := by rw [HXB.out, hi1, hi2]
     have HBR := Aside0.mk hb
     clear hi1 hi2 hb
     by_cases hi : 0 ≤ i1
     ·have hd : decide (i1 ≥ 0) = true := by simpa using hi
      have hT5 : T = 5 := by
       rw [HTB.out, if_neg]
       rw [all_false' ls B.bare n hlt [] (by rw [← HX.out, HBR.out]; simp [hi])]
       simp
      have HT5 := Aside0.mk hT5
      clear hT5
      go_wp2_with (first | (go_at_call 96; (with_reducible refine Calls.mono (byte_any' 13 13 rfl HBX.out) ?_); rintro e w5 ⟨rfl, h⟩; have H5 := Aside0.mk h; clear h; rw [← HI1.out]))
      go_ret
      exact ⟨by rw [HT5.out]; rfl, H3b.out.trans ((H.out.2.trans (H5.out.mono H.out.2.size)).mono H3b.out.size)⟩
     ·have hd : decide (i1 ≥ 0) = false := by simpa using hi
      by_cases hj : 0 ≤ i2
      ·have hd2 : decide (i2 ≥ 0) = true := by simpa using hj
       have hT5 : T = 5 := by
        rw [HTB.out, if_neg]
        rw [all_false' ls B.bare n hlt [] (by rw [← HX.out, HBR.out]; simp [hj])]
        simp
       have HT5 := Aside0.mk hT5
       clear hT5
       go_wp2_with (first | (go_at_call 96; (with_reducible refine Calls.mono (byte_any' 13 13 rfl HBX.out) ?_); rintro e w5 ⟨rfl, h⟩; have H5 := Aside0.mk h; clear h; rw [← HI1.out]) | (go_at_call 96; (with_reducible refine Calls.mono (byte_any' 10 10 rfl (HBX.out.on H5.out)) ?_); rintro e w6 ⟨rfl, h⟩; have H6 := Aside0.mk (H5.out.trans (h.mono H5.out.size)); clear h; rw [← HI2.out]))
       go_ret
       exact ⟨by rw [HT5.out]; rfl, H3b.out.trans ((H.out.2.trans (H6.out.mono H.out.2.size)).mono H3b.out.size)⟩
      ·have hd2 : decide (i2 ≥ 0) = false := by simpa using hj
       go_wp2_with (first | (go_at_call 96; (with_reducible refine Calls.mono (byte_any' 13 13 rfl HBX.out) ?_); rintro e w5 ⟨rfl, h⟩; have H5 := Aside0.mk h; clear h; rw [← HI1.out]) | (go_at_call 96; (with_reducible refine Calls.mono (byte_any' 10 10 rfl (HBX.out.on H5.out)) ?_); rintro e w6 ⟨rfl, h⟩; have H6 := Aside0.mk (H5.out.trans (h.mono H5.out.size)); clear h; rw [← HI2.out]))
       go_roundg (gk - 1)
       case measure => omega
       case rel =>
        have hn1 := HLE.out.1
        have hn2 := HL.out
        exact ⟨n + 1, by go_num, by omega, by omega, ⟨by rw [all_take' ls B.bare n hlt [], H.out.1, ← HX.out, HBR.out]; simp [hi, hj], H.out.2.trans (H6.out.mono H.out.2.size)⟩⟩
    ·have hne : n = ls.length := by omega
     have hT0 : T = 0 := by
      rw [HTB.out, if_pos]
      have := H.out.1
      rw [hne, List.take_length] at this
      exact this
     have HT0 := Aside0.mk hT0
     have t1 : decide ((n : Int) < (ls.length : Int)) = false := by simp; omega
     have t2 : decide (n < ls.length) = false := by simp; omega
     clear hT0
     go_wp2_with (fail)
     go_ret
     exact ⟨by rw [HT0.out]; rfl, H3b.out.trans (H.out.2.mono H3b.out.size)⟩
  ·have hl0 : l = [] := List.eq_nil_of_length_eq_zero (by omega)
   have hs0 : ls = [] := by rw [HLS.out, hl0]; rfl
   have hT0 : T = 0 := by rw [HTB.out, hs0]; rfl
   have HT0 := Aside0.mk hT0
   have HBN := HBT
   have h0' : decide ((l.length : Int) > 0) = false := by simp; omega
   have HS0 := Aside0.mk hs0
   clear hT0 hbad hs0 hl0
   go_wp2_with (first | (go_at_call 76; (with_reducible refine Calls.mono (lines_any _ HBT.out HL.out HV.out) ?_); rw [← HLS.out]; rintro e w3 ⟨⟨v, rfl, h⟩, h'⟩; have H3 := Aside0.mk h; have H3b := Aside0.mk h'; clear h h'; obtain ⟨A4, c4, rfl, h4⟩ := Ls.sl H3.out; clear h4; rw [HS0.out]; clear H3))
   go_loopg [17] 0 (fun gf v17 wr => v17 = .int .i64 0 ∧ Aside0 (Below w.heap.size w wr))
   case atStart => exact ⟨rfl, H3b⟩
   case round =>
    obtain ⟨rfl, H⟩ := hrel
    go_wp2_with (fail)
    go_ret
    exact ⟨by rw [HT0.out]; rfl, H.out⟩
end Go.Proofs.YtpfmnkpmidjfjaaGreatDoor
/- What dots' Stuff answers. -/
namespace Go.Proofs.YtpfmnkpmidjfjaaGreatDoor
open Go.RowKit
open Go.Proofs.YtpfmnkpmidjfjaaGreatDoorW.PrintWords
set_option linter.unusedVariables false
set_option linter.unusedSimpArgs false
structure Bd (b : Nat) (w0 w : World) (v : Value) (xs : B.Bs) : Prop where
 be : Below b w0 w
 ow : Ow b w v xs
 sz : b ≤ w.heap.size
theorem Bd.go {b : Nat} {w0 w w' : World} {v : Value} {xs : B.Bs} (h : Bd b w0 w v xs) (hb : Below w.heap.size w w') : Bd b w0 w' v xs := ⟨h.be.trans (hb.mono h.sz), h.ow.on hb, Nat.le_trans h.sz hb.size⟩
theorem Bd.alloc {b : Nat} {w0 w : World} {v : Value} {xs : B.Bs} (h : Bd b w0 w v xs) (o : Obj) : Bd b w0 (w.alloc o) v xs := h.go ((Below.refl _ _).alloc (Nat.le_refl _) _)
theorem Bd.none (w : World) : Bd w.heap.size w w (.slice Option.none 0 0) [] := ⟨Below.refl _ _, Ow.none _ _, Nat.le_refl _⟩
theorem bd_append {ops : Array Oper} {rest : List Oper} {o : Oper} {a : Act} {Q : Exit → Act → World → Prop} {w0 W : World} {b : Nat} (hg : o.guard = none) (s x : Operand)
  (ho : o.op = .call { callee := .builtin .append, args := #[s, x], argTypes := #[25, 25] }) (v : Value) (xs ys : B.Bs) (A : Option Addr) (n c : Nat)
  (hs : a.eval s = v) (hx : a.eval x = .slice A n c) (hn : n = ys.length) (h : Bd b w0 W v xs) (hy : Bt W A c ys) (hlen : xs.length + ys.length ≤ 100000000000000)
  (k : ∀ v1 w1, Bd b w0 w1 v1 (xs ++ ys) → wpList Tryz.prog ops Q rest (a.put o.dst v1) w1) : wpList Tryz.prog ops Q (o :: rest) a W := by
 subst hn
 refine Kd.R_append_rows kb (w0 := w0) b hg s x 25 5 (.int .u8 0) 1 ho Tryz.underlying25 infoU8 rfl (by decide) (by omega) v (nb xs) (nb ys) A (nb ys).length c (fun _ => True) (fun _ => False) hs (by rw [nb_length]; exact hx) h.ow hy.rd (fun _ _ h => h) (fun _ h => h.elim) (fun _ _ => trivial) h.be h.sz (by rw [nb_length, nb_length]; omega) ?_
 intro v1 w1 h1 h2 h3 _
 refine k v1 w1 ⟨h2, ?_, Nat.le_trans h.sz h3.size⟩
 unfold Ow
 rw [nb_append]
 exact h1
theorem flat_len {α : Type} (f : α → B.Bs) (K : Nat) : ∀ ls : List α, (∀ x ∈ ls, (f x).length ≤ K) → (ls.flatMap f).length ≤ ls.length * K
 | [], _ => by simp
 | x :: ls, h => by
  have h1 := h x (List.mem_cons_self ..)
  have h2 := flat_len f K ls (fun y hy => h y (List.mem_cons_of_mem _ hy))
  rw [List.flatMap_cons, List.length_append, List.length_cons, Nat.add_mul]
  omega
theorem flat_take {α : Type} (f : α → B.Bs) (ls : List α) (n : Nat) (hn : n < ls.length) (d : α) : (ls.take (n + 1)).flatMap f = (ls.take n).flatMap f ++ f (ls.getD n d) := by
 rw [List.take_add_one, List.flatMap_append, List.getElem?_eq_getElem hn, List.getD_eq_getElem?_getD, List.getElem?_eq_getElem hn]
 simp
theorem prefix_dot (l : B.Bs) : ([46] : B.Bs).isPrefixOf l = decide (l.head? = some 46) := by
 cases l with
 | nil => rfl
 | cons x t =>
  rw [Bool.eq_iff_iff]
  simp
  exact eq_comm
theorem Ls.below {b0 : Nat} {w w' : World} {v : Value} {ls : List B.Bs} (h : Ls b0 w v ls) (hb : Below w.heap.size w w') : Ls b0 w' v ls := Kd.R_below h hb
set_option maxRecDepth 100000 in
set_option maxHeartbeats 4000000 in
theorem stuff_any {A : Option Addr} {c : Nat} {l : B.Bs} (w : World) (hb : Bt w A c l) (hl : l.length ≤ 1000000) (hv : Vars w) :
  Calls Tryz.prog 52 #[.slice A l.length c] w fun e w' => (if B.body l then ∃ v, e = .returned (.tuple #[v, .int .i64 0]) ∧ Ow w.heap.size w' v (B.stuff l) else e = .returned (.tuple #[.slice none 0 0, .int .i64 5])) ∧ Below w.heap.size w w' := by
 have HBT := Aside0.mk hb
 have HV := Aside0.mk hv
 have HL := Aside0.mk hl
 have hck := dcheck_any w hb hl hv
 clear hb hv hl
 cases hbody : B.body l with
 | false =>
  rw [hbody] at hck
  have HCK := Aside0.mk hck
  clear hck hbody
  go_enter Tryz.func52, Tryz.ntmps52
  go_wp2_with (first | (go_at_call 72; (with_reducible refine Calls.mono HCK.out ?_); rintro e w1 ⟨rfl, h⟩; have H1 := Aside0.mk h; clear h; rw [if_neg (by decide)]))
  go_ret2
  exact ⟨rfl, H1.out⟩
 | true =>
  rw [hbody] at hck
  have HCK := Aside0.mk hck
  obtain ⟨ls, hls⟩ : ∃ ls, ls = B.lines l := ⟨_, rfl⟩
  have hle := lines_len l
  rw [← hls] at hle
  have HLE := Aside0.mk hle
  have HLS := Aside0.mk hls
  have hst : B.stuff l = ls.flatMap B.dotted ++ [46] ++ [13, 10] := by rw [hls]; simp [B.stuff]
  have HST := Aside0.mk hst
  have hlitb : ∀ W : World, Bt (W.alloc (.cells #[.int .u8 46] 5)) (some ⟨W.heap.size, 0, none⟩) 1 [46] := fun W => Bt.lit [46] (heap_alloc_new _ _) rfl (by decide)
  have HLB := Aside0.mk hlitb
  clear hck hbody hle hls hst hlitb
  go_enter Tryz.func52, Tryz.ntmps52
  go_wp2_with (first | (go_at_call 72; (with_reducible refine Calls.mono HCK.out ?_); rintro e w1 ⟨rfl, h⟩; have H1 := Aside0.mk h; clear h; rw [if_pos rfl]) | (go_at_call 76; (with_reducible refine Calls.mono (lines_any _ (HBT.out.on H1.out) HL.out (HV.out.go H1.out)) ?_); rw [← HLS.out]; rintro e w3 ⟨⟨v, rfl, h⟩, h'⟩; have H3 := Aside0.mk h; have H3b := Aside0.mk (H1.out.trans (h'.mono H1.out.size)); clear h h'; obtain ⟨A4, c4, rfl, h4⟩ := Ls.sl H3.out; have HA4 := Aside0.mk h4; clear h4))
  go_loopg [5, 16] ls.length (fun gf v5 v16 wr => ∃ (n : Nat), v16 = .int .i64 n ∧ n ≤ ls.length ∧ gf + n = ls.length ∧ Aside0 (Bd w3.heap.size w3 wr v5 ((ls.take n).flatMap B.dotted)))
  case atStart => exact ⟨0, rfl, by omega, by omega, ⟨Bd.none _⟩⟩
  case round =>
   obtain ⟨n, rfl, hn, hg, H⟩ := hrel
   have hll : ls.length ≤ 1000000 := Nat.le_trans HLE.out.1 HL.out
   obtain ⟨wx, rfl⟩ : ∃ wz : World, wz = wr := ⟨_, rfl⟩
   obtain ⟨out, hout⟩ : ∃ out, out = (ls.take n).flatMap B.dotted := ⟨_, rfl⟩
   rw [← hout] at H
   obtain ⟨A6, c6, rfl, hb6⟩ := Ow.bt H.out.ow
   have hol : out.length ≤ 1000000 * 1000003 := by
    rw [hout]
    refine Nat.le_trans (flat_len B.dotted 1000003 _ ?_) ?_
    ·intro x hx
     have h1 := HLE.out.2 x (List.mem_of_mem_take hx)
     have h2 := HL.out
     unfold B.dotted
     split <;> simp [B.crlf] <;> omega
    ·rw [List.length_take]
     exact Nat.mul_le_mul_right _ (by omega)
   have HOL := Aside0.mk hol
   have HOUT := Aside0.mk hout
   clear hol hout hb6
   by_cases hlt : n < ls.length
   ·obtain ⟨g, rfl⟩ := HA4.out (by omega)
    obtain ⟨A5, c5, hcell, hb5⟩ := Ls.get (H3.out.below H.out.be) n hlt
    have hb0 := (Ls.get H3.out n hlt)
    have hxl := HLE.out.2 _ (getD_mem ls n hlt [])
    obtain ⟨x, hx⟩ : ∃ x, x = ls.getD n [] := ⟨_, rfl⟩
    have hft := flat_take B.dotted ls n hlt []
    rw [← hx] at hcell hb5 hxl hb0 hft
    have hb3 : Bt w3 A5 c5 x := by
     obtain ⟨A7, c7, h1, h2⟩ := hb0
     have h3 := cell_up H.out.be h1
     rw [hcell] at h3
     injection h3 with h3
     injection h3 with h4 _ h5
     rw [h4, h5]; exact h2
    rw [← HOUT.out] at hft
    have HFT := Aside0.mk hft
    have HB3 := Aside0.mk hb3
    have HXL := Aside0.mk (Nat.le_trans hxl HL.out)
    have hlt' : (n : Int) < (ls.length : Int) := by omega
    have h00 : (0 : Int) ≤ (n : Int) := by omega
    have hpd := prefix_dot x
    clear hb5 hx hb0 hb3 hft hxl
    by_cases hd : x.head? = some 46
    ·rw [decide_eq_true hd] at hpd
     have HPD := Aside0.mk hpd
     have hdx : B.dotted x = [46] ++ x ++ [13, 10] := by unfold B.dotted; rw [if_pos hd]; rfl
     have HDX := Aside0.mk hdx
     clear hpd hdx hd
     go_wp2_with (first | (go_at_call 77; (with_reducible refine Calls.mono (prefix_any (s := [46]) (HB3.out.on (H.out.alloc _).be) (HLB.out _)) ?_); rintro e w5 ⟨rfl, h⟩; have H5 := Aside0.mk ((H.out.alloc _).go h); clear h; rw [HPD.out]) | ((with_reducible refine gate_builtin (b := .append) (xs := #[.tmp 23, .tmp 24]) rfl ?_); at_builtin; refine bd_append rfl (.tmp 23) (.tmp 24) rfl _ _ [46] _ _ _ rfl rfl rfl (H5.out.alloc _) (HLB.out _) (by have := HOL.out; simp; omega) ?_; intro v1 w6 h; have H6 := Aside0.mk h; clear h) | ((with_reducible refine gate_builtin (b := .append) (xs := #[.tmp 26, .tmp 27]) rfl ?_); at_builtin; refine bd_append rfl (.tmp 26) (.tmp 27) rfl _ _ x _ _ _ rfl rfl rfl H6.out (HB3.out.on H6.out.be) (by have := HOL.out; have := HXL.out; simp; omega) ?_; intro v2 w7 h; have H7 := Aside0.mk h; clear h) | (go_at_call 78; (with_reducible refine Calls.mono (end_any _) ?_); rintro e w8 ⟨⟨A2, c2, rfl, h⟩, h'⟩; have H8 := Aside0.mk (H7.out.go h'); have H8e := Aside0.mk h; clear h h') | ((with_reducible refine gate_builtin (b := .append) (xs := #[.tmp 28, .tmp 29]) rfl ?_); at_builtin; refine bd_append rfl (.tmp 28) (.tmp 29) rfl _ _ [13, 10] _ _ _ rfl rfl rfl H8.out H8e.out (by have := HOL.out; have := HXL.out; simp; omega) ?_; intro v3 w9 h; have H9 := Aside0.mk h; clear h))
     go_roundg (gk - 1)
     case measure => omega
     case rel =>
      have h9 := H9.out
      refine ⟨n + 1, by go_num, by omega, by omega, ⟨?_⟩⟩
      rw [HFT.out, HDX.out]
      simpa using h9
    ·rw [decide_eq_false hd] at hpd
     have HPD := Aside0.mk hpd
     have hdx : B.dotted x = x ++ [13, 10] := by unfold B.dotted; rw [if_neg hd]; rfl
     have HDX := Aside0.mk hdx
     clear hpd hdx hd
     go_wp2_with (first | (go_at_call 77; (with_reducible refine Calls.mono (prefix_any (s := [46]) (HB3.out.on (H.out.alloc _).be) (HLB.out _)) ?_); rintro e w5 ⟨rfl, h⟩; have H5 := Aside0.mk ((H.out.alloc _).go h); clear h; rw [HPD.out]) | ((with_reducible refine gate_builtin (b := .append) (xs := #[.tmp 26, .tmp 27]) rfl ?_); at_builtin; refine bd_append rfl (.tmp 26) (.tmp 27) rfl _ _ x _ _ _ rfl rfl rfl H5.out (HB3.out.on H5.out.be) (by have := HOL.out; have := HXL.out; omega) ?_; intro v2 w7 h; have H7 := Aside0.mk h; clear h) | (go_at_call 78; (with_reducible refine Calls.mono (end_any _) ?_); rintro e w8 ⟨⟨A2, c2, rfl, h⟩, h'⟩; have H8 := Aside0.mk (H7.out.go h'); have H8e := Aside0.mk h; clear h h') | ((with_reducible refine gate_builtin (b := .append) (xs := #[.tmp 28, .tmp 29]) rfl ?_); at_builtin; refine bd_append rfl (.tmp 28) (.tmp 29) rfl _ _ [13, 10] _ _ _ rfl rfl rfl H8.out H8e.out (by have := HOL.out; have := HXL.out; simp; omega) ?_; intro v3 w9 h; have H9 := Aside0.mk h; clear h))
     go_roundg (gk - 1)
     case measure => omega
     case rel =>
      have h9 := H9.out
      refine ⟨n + 1, by go_num, by omega, by omega, ⟨?_⟩⟩
      rw [HFT.out, HDX.out]
      simpa using h9
   ·have hne : n = ls.length := by omega
    have t1 : decide ((n : Int) < (ls.length : Int)) = false := by simp; omega
    have t2 : decide (n < ls.length) = false := by simp; omega
    have ho2 : out = ls.flatMap B.dotted := by rw [HOUT.out, hne, List.take_length]
    have HO2 := Aside0.mk ho2
    clear ho2 hne
    go_wp2_with (first | ((with_reducible refine gate_builtin (b := .append) (xs := #[.tmp 32, .tmp 33]) rfl ?_); at_builtin; refine bd_append rfl (.tmp 32) (.tmp 33) rfl _ _ [46] _ _ _ rfl rfl rfl (H.out.alloc _) (HLB.out _) (by have := HOL.out; simp; omega) ?_; intro v1 w6 h; have H6 := Aside0.mk h; clear h) | (go_at_call 78; (with_reducible refine Calls.mono (end_any _) ?_); rintro e w8 ⟨⟨A2, c2, rfl, h⟩, h'⟩; have H8 := Aside0.mk (H6.out.go h'); have H8e := Aside0.mk h; clear h h') | ((with_reducible refine gate_builtin (b := .append) (xs := #[.tmp 34, .tmp 35]) rfl ?_); at_builtin; refine bd_append rfl (.tmp 34) (.tmp 35) rfl _ _ [13, 10] _ _ _ rfl rfl rfl H8.out H8e.out (by have := HOL.out; simp; omega) ?_; intro v3 w9 h; have H9 := Aside0.mk h; clear h))
    go_ret2
    refine ⟨⟨_, rfl, ?_⟩, H3b.out.trans (H9.out.be.mono H3b.out.size)⟩
    rw [HST.out, ← HO2.out]
    exact H9.out.ow.low H3b.out.size
end Go.Proofs.YtpfmnkpmidjfjaaGreatDoor
/- What dots' Last and Strip answer. -/
namespace Go.Proofs.YtpfmnkpmidjfjaaGreatDoor
open Go.RowKit
open Go.Proofs.YtpfmnkpmidjfjaaGreatDoorW.PrintWords
set_option linter.unusedVariables false
set_option linter.unusedSimpArgs false
theorem index_find (p : B.Bs) (hp : p ≠ []) : ∀ (l : B.Bs) (k : Nat), (∀ n, B.find p k l = some n → Lib.index l p = (n : Int) - k ∧ k ≤ n) ∧ (B.find p k l = none → Lib.index l p = -1)
 | [], k => by
  unfold B.find
  rw [if_neg hp]
  refine ⟨(fun n h => by cases h), fun _ => ?_⟩
  unfold Lib.index
  cases p with
  | nil => exact absurd rfl hp
  | cons x t => rfl
 | x :: r, k => by
  obtain ⟨h1, h2⟩ := index_find p hp r (k + 1)
  unfold B.find Lib.index
  by_cases hx : p.isPrefixOf (x :: r) = true
  ·rw [if_pos hx, if_pos hx]
   refine ⟨fun n h => ?_, (fun h => by cases h)⟩
   obtain rfl := Option.some.inj h
   exact ⟨by omega, Nat.le_refl _⟩
  ·rw [if_neg hx, if_neg hx]
   refine ⟨fun n h => ?_, fun h => ?_⟩
   ·obtain ⟨e, hle⟩ := h1 n h
    rw [e, if_neg (by simp; omega)]
    exact ⟨by omega, by omega⟩
   ·rw [h2 h]; rfl
theorem find_lt (p : B.Bs) (hp : p ≠ []) : ∀ (l : B.Bs) (k n : Nat), B.find p k l = some n → n + p.length ≤ k + l.length
 | [], k, n, h => by
  unfold B.find at h
  rw [if_neg hp] at h; cases h
 | x :: r, k, n, h => by
  unfold B.find at h
  by_cases hx : p.isPrefixOf (x :: r) = true
  ·rw [if_pos hx] at h
   obtain rfl := Option.some.inj h
   have := List.IsPrefix.length_le (List.isPrefixOf_iff_prefix.1 hx)
   omega
  ·rw [if_neg hx] at h
   have := find_lt p hp r (k + 1) n h
   simp; omega
theorem dot_lt {l : B.Bs} {n : Nat} (h : B.dot l = some n) : n + 3 ≤ l.length := by
 unfold B.dot at h
 by_cases hx : [46, 13, 10].isPrefixOf l = true
 ·rw [if_pos hx] at h
  obtain rfl := Option.some.inj h
  have := List.IsPrefix.length_le (List.isPrefixOf_iff_prefix.1 hx)
  simpa using this
 ·rw [if_neg hx] at h
  cases hf : B.find [13, 10, 46, 13, 10] 0 l with
  | none => rw [hf] at h; cases h
  | some m =>
   rw [hf] at h
   obtain rfl := Option.some.inj h
   have := find_lt _ (by decide) l 0 m hf
   simp at this
   omega
theorem index_any {A A2 : Option Addr} {c c2 : Nat} {l s : B.Bs} {w : World} (hb : Bt w A c l) (hs : Bt w A2 c2 s) (hs2 : 2 ≤ s.length) (hsl : s.length ≤ 1000) (hl : l.length ≤ 1000000) (hv : Vars w) :
  Calls Tryz.prog 82 #[.slice A l.length c, .slice A2 s.length c2] w fun e w' => e = .returned (.int .i64 (Lib.index l s)) ∧ Below w.heap.size w w' := by
 obtain ⟨m, hm⟩ := hv.mx
 cases A with
 | none =>
  have hc := hb.nil rfl
  have hl0 : l = [] := by have := hb.cap; cases l with | nil => rfl | cons x t => simp at this; omega
  subst hl0
  subst hc
  refine (Tryz.bytes_Index_nil A2 s.length c2 w (by omega) (by omega)).mono ?_
  rintro e w' ⟨rfl, rfl⟩
  refine ⟨?_, Below.refl _ _⟩
  rw [if_neg (by omega)]
  unfold Lib.index
  cases s with
  | nil => simp at hs2
  | cons x t => rfl
 | some a1 =>
  obtain ⟨a2, rfl, hc2⟩ := hs.cells (by omega)
  have hcells : ∀ i, i < l.length → w.cell? (a1.add i) = some (.int .u8 ((nb l).getD i 0)) := by
   intro i hi
   obtain ⟨ad, e, hc⟩ := hb.cells (by omega)
   cases e
   exact hc i hi
  refine (Tryz.bytes_Index_at a1 a2 l.length c s.length c2 (nb l) (nb s) m w (nb_length l) (nb_length s) (nb_range _) (nb_range _) hcells hc2 hb.cap (by omega) (by omega) hm).mono ?_
  rintro e w' ⟨rfl, q, rfl⟩
  rw [bytesOf_nb, bytesOf_nb]
  exact ⟨rfl, below_drewN' (Below.refl _ _) q⟩
def lastV (o : Option Nat) : Value := match o with
 | none => .tuple #[.int .i64 1, .bool false]
 | some n => .tuple #[.int .i64 n, .bool true]
set_option maxRecDepth 100000 in
set_option maxHeartbeats 1000000 in
theorem last_any {A : Option Addr} {c : Nat} {l : B.Bs} (w : World) (hb : Bt w A c l) (hl : l.length ≤ 1000000) (hv : Vars w) :
  Calls Tryz.prog 87 #[.slice A l.length c] w fun e w' => e = .returned (lastV (B.dot l)) ∧ Below w.heap.size w w' := by
 have HBT := Aside0.mk hb
 have HV := Aside0.mk hv
 obtain ⟨T, hT⟩ : ∃ T, T = lastV (B.dot l) := ⟨_, rfl⟩
 rw [← hT]
 have hlit3 : ∀ W : World, Bt (W.alloc (.cells #[.int .u8 46, .int .u8 13, .int .u8 10] 5)) (some ⟨W.heap.size, 0, none⟩) 3 [46, 13, 10] := fun W => Bt.lit [46, 13, 10] (heap_alloc_new _ _) rfl (by decide)
 have hlit5 : ∀ W : World, Bt (W.alloc (.cells #[.int .u8 13, .int .u8 10, .int .u8 46, .int .u8 13, .int .u8 10] 5)) (some ⟨W.heap.size, 0, none⟩) 5 [13, 10, 46, 13, 10] := fun W => Bt.lit [13, 10, 46, 13, 10] (heap_alloc_new _ _) rfl (by decide)
 have H3 := Aside0.mk hlit3
 have H5 := Aside0.mk hlit5
 have hal : ∀ (W : World) (o : Obj), Below w.heap.size w W → Below w.heap.size w (W.alloc o) := fun W o h => h.alloc h.size o
 have HAL := Aside0.mk hal
 clear hlit3 hlit5 hal hb hv
 by_cases hp : [46, 13, 10].isPrefixOf l = true
 ·have hT0 : T = .tuple #[.int .i64 0, .bool true] := by rw [hT]; unfold B.dot; rw [if_pos hp]; rfl
  have HT := Aside0.mk hT0
  have HP := Aside0.mk hp
  clear hT hT0 hp
  go_enter Tryz.func87, Tryz.ntmps87
  go_wp2_with (first | (go_at_call 77; (with_reducible refine Calls.mono (prefix_any (s := [46, 13, 10]) (HBT.out.on (HAL.out _ _ (Below.refl _ _))) (H3.out _)) ?_); rintro e w5 ⟨rfl, h⟩; have H6 := Aside0.mk ((HAL.out _ _ (Below.refl _ _)).trans (h.mono (by simp))); clear h; rw [HP.out]))
  go_ret2
  exact ⟨by rw [HT.out]; rfl, H6.out⟩
 ·have hp' : [46, 13, 10].isPrefixOf l = false := Bool.eq_false_iff.2 hp
  obtain ⟨h1, h2⟩ := index_find [13, 10, 46, 13, 10] (by decide) l 0
  obtain ⟨x, hx⟩ : ∃ x, x = Lib.index l [13, 10, 46, 13, 10] := ⟨_, rfl⟩
  have hxl : -1 ≤ x ∧ x ≤ 1000000 := by
   cases hf : B.find [13, 10, 46, 13, 10] 0 l with
   | none => rw [hx, h2 hf]; omega
   | some m => rw [hx, (h1 m hf).1]; have := find_lt _ (by decide) l 0 m hf; simp at this; omega
  have hT0 : T = .tuple #[.int .i64 (x + 2), .bool (decide (0 ≤ x))] := by
   rw [hT]; unfold B.dot; rw [if_neg hp]
   cases hf : B.find [13, 10, 46, 13, 10] 0 l with
   | none => rw [hx, h2 hf]; rfl
   | some m =>
    rw [hx, (h1 m hf).1]
    show Value.tuple #[.int .i64 ((m + 2 : Nat) : Int), .bool true] = _
    rw [show ((m : Int) - ((0 : Nat) : Int) + 2) = ((m + 2 : Nat) : Int) by omega, decide_eq_true (by omega)]
  obtain ⟨hx0, hx1⟩ := hxl
  have HT := Aside0.mk hT0
  have HP := Aside0.mk hp'
  have HX := Aside0.mk hx
  clear hT hT0 hp hp' hx h1 h2
  go_enter Tryz.func87, Tryz.ntmps87
  go_wp2_with (first | (go_at_call 77; (with_reducible refine Calls.mono (prefix_any (s := [46, 13, 10]) (HBT.out.on (HAL.out _ _ (Below.refl _ _))) (H3.out _)) ?_); rintro e w5 ⟨rfl, h⟩; have H6 := Aside0.mk ((HAL.out _ _ (Below.refl _ _)).trans (h.mono (by simp))); clear h; rw [HP.out]) | (go_at_call 82; (with_reducible refine Calls.mono (index_any (s := [13, 10, 46, 13, 10]) (HBT.out.on (HAL.out _ _ H6.out)) (H5.out _) (by decide) (by decide) hl (HV.out.go (HAL.out _ _ H6.out))) ?_); rintro e w7 ⟨rfl, h⟩; have H7 := Aside0.mk ((HAL.out _ _ H6.out).trans (h.mono (HAL.out _ _ H6.out).size)); clear h; rw [← HX.out]))
  go_ret2
  exact ⟨by rw [HT.out]; rfl, H7.out⟩
theorem undot_trim (x : B.Bs) : B.undot x = Lib.trimPrefix x [46] ++ [13, 10] := by
 unfold B.undot Lib.trimPrefix Lib.hasPrefix
 have := prefix_dot x
 by_cases h : x.head? = some 46
 ·rw [decide_eq_true h] at this
  rw [if_pos h, this, if_pos rfl]
  cases x with
  | nil => cases h
  | cons y t => rfl
 ·rw [decide_eq_false h] at this
  rw [if_neg h, this, if_neg (by simp)]
  rfl
theorem trim_len (x : B.Bs) : (Lib.trimPrefix x [46]).length ≤ x.length := by
 unfold Lib.trimPrefix
 split <;> simp
def stripPost (l : B.Bs) (b : Nat) (e : Ending) (w' : World) : Prop := match B.strip l with
 | some (s, n) => ∃ v, e = .returned (.tuple #[v, .int .i64 n, .int .i64 0]) ∧ Ow b w' v s
 | none => e = .returned (.tuple #[.slice none 0 0, .int .i64 0, .int .i64 (if (B.dot l).isSome then 5 else 9)])
set_option maxRecDepth 100000 in
set_option maxHeartbeats 4000000 in
theorem strip_any {A : Option Addr} {c : Nat} {l : B.Bs} (w : World) (hb : Bt w A c l) (hl : l.length ≤ 1000000) (hv : Vars w) :
  Calls Tryz.prog 62 #[.slice A l.length c] w fun e w' => stripPost l w.heap.size e w' ∧ Below w.heap.size w w' := by
 have HBT := Aside0.mk hb
 have HV := Aside0.mk hv
 have HL := Aside0.mk hl
 clear hb hv hl
 cases hd : B.dot l with
 | none =>
  have hP : ∀ e w', e = .returned (.tuple #[.slice none 0 0, .int .i64 0, .int .i64 9]) → stripPost l w.heap.size e w' := by
   intro e w' he
   unfold stripPost
   have : B.strip l = none := by unfold B.strip; rw [hd]
   rw [this, hd]
   exact he
  have HP := Aside0.mk hP
  have hlast : ∀ W, Below w.heap.size w W → Calls Tryz.prog 87 #[.slice A l.length c] W fun e w' => e = .returned (.tuple #[.int .i64 1, .bool false]) ∧ Below W.heap.size W w' := by
   intro W hW
   have := last_any W (HBT.out.on hW) HL.out (HV.out.go hW)
   rw [hd] at this
   exact this
  have HLA := Aside0.mk hlast
  clear hlast hP hd
  go_enter Tryz.func62, Tryz.ntmps62
  go_wp2_with (first | (go_at_call 87; (with_reducible refine Calls.mono (HLA.out _ (Below.refl _ _)) ?_); rintro e w1 ⟨rfl, h⟩; have H1 := Aside0.mk h; clear h))
  go_ret3
  exact ⟨HP.out _ _ rfl, H1.out⟩
 | some n =>
  have hnl := dot_lt hd
  have hlast : ∀ W, Below w.heap.size w W → Calls Tryz.prog 87 #[.slice A l.length c] W fun e w' => e = .returned (.tuple #[.int .i64 n, .bool true]) ∧ Below W.heap.size W w' := by
   intro W hW
   have := last_any W (HBT.out.on hW) HL.out (HV.out.go hW)
   rw [hd] at this
   exact this
  have HLA := Aside0.mk hlast
  obtain ⟨t, ht⟩ : ∃ t, t = l.take n := ⟨_, rfl⟩
  have htl : t.length = n := by rw [ht, List.length_take]; omega
  have hBt : ∀ W, Below w.heap.size w W → Bt W A c t := by
   intro W hW
   rw [ht]
   exact (HBT.out.on hW).take n (by omega)
  have HBTT := Aside0.mk hBt
  have htl6 : t.length ≤ 1000000 := by have := HL.out; omega
  have HTL := Aside0.mk htl6
  have hck : ∀ W, Below w.heap.size w W → Calls Tryz.prog 72 #[.slice A n c] W fun e w' => e = .returned (.int .i64 (if B.body t then 0 else 5)) ∧ Below W.heap.size W w' := by
   intro W hW
   have := dcheck_any W (HBTT.out W hW) HTL.out (HV.out.go hW)
   rw [htl] at this
   exact this
  have hnc : n ≤ c := by have := HBT.out.cap; omega
  have h0n : (0 : Int) ≤ (n : Int) := by omega
  have hncI : (n : Int) ≤ (c : Int) := by omega
  obtain ⟨ad, hA, _⟩ := HBT.out.cells (by omega)
  subst hA
  have hn6 : (n : Int) ≤ 1000000 := by have := HL.out; omega
  cases hbody : B.body t with
  | false =>
   have hP : ∀ e w', e = .returned (.tuple #[.slice none 0 0, .int .i64 0, .int .i64 5]) → stripPost l w.heap.size e w' := by
    intro e w' he
    unfold stripPost
    have : B.strip l = none := by unfold B.strip; rw [hd]; simp only; rw [← ht, hbody]; rfl
    rw [this, hd]
    exact he
   have HP := Aside0.mk hP
   simp only [hbody, if_true, Bool.false_eq_true, if_false] at hck
   have HCK := Aside0.mk hck
   clear hlast hP hd ht htl hBt htl6 hck hbody hnl
   go_enter Tryz.func62, Tryz.ntmps62
   go_wp2_with (first | (go_at_call 87; (with_reducible refine Calls.mono (HLA.out _ (Below.refl _ _)) ?_); rintro e w1 ⟨rfl, h⟩; have H1 := Aside0.mk h; clear h) | (go_at_call 72; (with_reducible refine Calls.mono (HCK.out _ H1.out) ?_); rintro e w2 ⟨rfl, h⟩; have H2 := Aside0.mk (H1.out.trans (h.mono H1.out.size)); clear h))
   go_ret3
   exact ⟨HP.out _ _ rfl, H2.out⟩
  | true =>
   obtain ⟨ls, hls⟩ : ∃ ls, ls = B.lines t := ⟨_, rfl⟩
   have hP : ∀ (v : Value) w', Ow w.heap.size w' v (ls.flatMap B.undot) → stripPost l w.heap.size (.returned (.tuple #[v, .int .i64 ((n : Int) + 3), .int .i64 0])) w' := by
    intro v w' he
    unfold stripPost
    have : B.strip l = some (ls.flatMap B.undot, n + 3) := by unfold B.strip; rw [hd]; simp only; rw [← ht, hbody, if_pos rfl, hls]
    rw [this]
    exact ⟨v, rfl, he⟩
   have HP := Aside0.mk hP
   simp only [hbody, if_true, Bool.false_eq_true, if_false] at hck
   have HCK := Aside0.mk hck
   have hle := lines_len t
   rw [← hls] at hle
   have HLE := Aside0.mk hle
   have hlines : ∀ W, Below w.heap.size w W → Calls Tryz.prog 76 #[.slice (some ad) n c] W fun e w' => (∃ v, e = .returned v ∧ Ls W.heap.size w' v ls) ∧ Below W.heap.size W w' := by
    intro W hW
    have := lines_any W (HBTT.out W hW) HTL.out (HV.out.go hW)
    rw [htl, ← hls] at this
    exact this
   have HLI := Aside0.mk hlines
   have hlitb : ∀ W : World, Bt (W.alloc (.cells #[.int .u8 46] 5)) (some ⟨W.heap.size, 0, none⟩) 1 [46] := fun W => Bt.lit [46] (heap_alloc_new _ _) rfl (by decide)
   have HLB := Aside0.mk hlitb
   clear hlast hP hd ht htl hBt htl6 hck hbody hnl hle hlines hlitb hls
   go_enter Tryz.func62, Tryz.ntmps62
   go_wp2_with (first | (go_at_call 87; (with_reducible refine Calls.mono (HLA.out _ (Below.refl _ _)) ?_); rintro e w1 ⟨rfl, h⟩; have H1 := Aside0.mk h; clear h) | (go_at_call 72; (with_reducible refine Calls.mono (HCK.out _ H1.out) ?_); rintro e w2 ⟨rfl, h⟩; have H2 := Aside0.mk (H1.out.trans (h.mono H1.out.size)); clear h) | (go_at_call 76; (with_reducible refine Calls.mono (HLI.out _ H2.out) ?_); rintro e w3 ⟨⟨v, rfl, h⟩, h'⟩; have H3 := Aside0.mk h; have H3b := Aside0.mk (H2.out.trans (h'.mono H2.out.size)); clear h h'; obtain ⟨A4, c4, rfl, h4⟩ := Ls.sl H3.out; have HA4 := Aside0.mk h4; clear h4))
   go_loopg [2, 28] ls.length (fun gf v5 v16 wr => ∃ (m : Nat), v16 = .int .i64 m ∧ m ≤ ls.length ∧ gf + m = ls.length ∧ Aside0 (Bd w3.heap.size w3 wr v5 ((ls.take m).flatMap B.undot)))
   case atStart => exact ⟨0, rfl, by omega, by omega, ⟨Bd.none _⟩⟩
   case round =>
    obtain ⟨m, rfl, hm, hg, H⟩ := hrel
    have hll : ls.length ≤ 1000000 := Nat.le_trans HLE.out.1 HTL.out
    obtain ⟨wx, rfl⟩ : ∃ wz : World, wz = wr := ⟨_, rfl⟩
    obtain ⟨out, hout⟩ : ∃ out, out = (ls.take m).flatMap B.undot := ⟨_, rfl⟩
    rw [← hout] at H
    obtain ⟨A6, c6, rfl, hb6⟩ := Ow.bt H.out.ow
    have hol : out.length ≤ 1000000 * 1000003 := by
     rw [hout]
     refine Nat.le_trans (flat_len B.undot 1000003 _ ?_) ?_
     ·intro x hx
      have h1 := HLE.out.2 x (List.mem_of_mem_take hx)
      have h2 := HTL.out
      rw [undot_trim, List.length_append]
      have := trim_len x
      simp; omega
     ·rw [List.length_take]
      exact Nat.mul_le_mul_right _ (by omega)
    have HOL := Aside0.mk hol
    have HOUT := Aside0.mk hout
    clear hol hout hb6
    by_cases hlt : m < ls.length
    ·obtain ⟨g, rfl⟩ := HA4.out (by omega)
     obtain ⟨A5, c5, hcell, hb5⟩ := Ls.get (H3.out.below H.out.be) m hlt
     have hb0 := (Ls.get H3.out m hlt)
     have hxl := HLE.out.2 _ (getD_mem ls m hlt [])
     obtain ⟨x, hx⟩ : ∃ x, x = ls.getD m [] := ⟨_, rfl⟩
     have hft := flat_take B.undot ls m hlt []
     rw [← hx] at hcell hb5 hxl hb0 hft
     have hb3 : Bt w3 A5 c5 x := by
      obtain ⟨A7, c7, h1, h2⟩ := hb0
      have h3 := cell_up H.out.be h1
      rw [hcell] at h3
      injection h3 with h3
      injection h3 with h4 _ h5
      rw [h4, h5]; exact h2
     rw [← HOUT.out, undot_trim] at hft
     have HFT := Aside0.mk hft
     have HB3 := Aside0.mk hb3
     have hxt := trim_len x
     have HXL := Aside0.mk (Nat.le_trans hxt (Nat.le_trans hxl HTL.out))
     have hlt' : (m : Int) < (ls.length : Int) := by omega
     have h00 : (0 : Int) ≤ (m : Int) := by omega
     clear hb5 hx hb0 hb3 hft hxl hxt
     go_wp2_with (first | (go_at_call 88; (with_reducible refine Calls.mono (trim_any (s := [46]) (HB3.out.on (H.out.alloc _).be) (HLB.out _) (by decide)) ?_); rintro e w5 ⟨⟨A7, c7, rfl, hq⟩, h⟩; have HQ := Aside0.mk (hq w3 HB3.out); have H5 := Aside0.mk ((H.out.alloc _).go h); clear h hq) | ((with_reducible refine gate_builtin (b := .append) (xs := #[.tmp 32, .tmp 35]) rfl ?_); at_builtin; refine bd_append rfl (.tmp 32) (.tmp 35) rfl _ _ (Lib.trimPrefix x [46]) _ _ _ rfl rfl rfl H5.out (HQ.out.on H5.out.be) (by have := HOL.out; have := HXL.out; omega) ?_; intro v2 w7 h; have H7 := Aside0.mk h; clear h) | (go_at_call 78; (with_reducible refine Calls.mono (end_any _) ?_); rintro e w8 ⟨⟨A2, c2, rfl, h⟩, h'⟩; have H8 := Aside0.mk (H7.out.go h'); have H8e := Aside0.mk h; clear h h') | ((with_reducible refine gate_builtin (b := .append) (xs := #[.tmp 36, .tmp 37]) rfl ?_); at_builtin; refine bd_append rfl (.tmp 36) (.tmp 37) rfl _ _ [13, 10] _ _ _ rfl rfl rfl H8.out H8e.out (by have := HOL.out; have := HXL.out; simp; omega) ?_; intro v3 w9 h; have H9 := Aside0.mk h; clear h))
     go_roundg (gk - 1)
     case measure => omega
     case rel =>
      have h9 := H9.out
      refine ⟨m + 1, by go_num, by omega, by omega, ⟨?_⟩⟩
      rw [HFT.out]
      simpa using h9
    ·have hne : m = ls.length := by omega
     have t1 : decide ((m : Int) < (ls.length : Int)) = false := by simp; omega
     have t2 : decide (m < ls.length) = false := by simp; omega
     have ho2 : out = ls.flatMap B.undot := by rw [HOUT.out, hne, List.take_length]
     have HO2 := Aside0.mk ho2
     clear ho2 hne
     go_wp2_with (fail)
     go_ret3
     refine ⟨HP.out _ _ ?_, H3b.out.trans (H.out.be.mono H3b.out.size)⟩
     rw [← HO2.out]
     exact H.out.ow.low H3b.out.size
end Go.Proofs.YtpfmnkpmidjfjaaGreatDoor
/- Mails in memory; whether a mail, a bundle, is right. -/
namespace Go.Proofs.YtpfmnkpmidjfjaaGreatDoor
open Go.RowKit Go.Lib
open Go.Proofs.YtpfmnkpmidjfjaaGreatDoorW.PrintWords
set_option linter.unusedVariables false
set_option linter.unusedSimpArgs false
def kB : Kd B.Bs where
 sz := 1
 E := [5]
 K := fun w x cs => ∃ A c, cs = [.slice A x.length c] ∧ Bt w A c x
 M := fun w base ok x cs => ∃ v, cs = [v] ∧ kb.R 5 w base ok v (nb x)
 K_len := by
  rintro w x cs ⟨A, c, rfl, _⟩
  rfl
 K_one := by
  rintro w x cs ⟨A, c, rfl, _⟩ u hu
  rw [List.mem_singleton.1 hu]
  rfl
 K_below := by
  rintro w w1 x cs hb ⟨A, c, rfl, h⟩
  exact ⟨A, c, rfl, h.on hb⟩
 K_of_M := by
  rintro w base ok x cs ⟨v, rfl, h⟩
  obtain ⟨A, c, rfl, h2⟩ := Ow.bt (b0 := base) (Kd.R_mono h (fun _ _ => trivial))
  exact ⟨A, c, rfl, h2⟩
 M_mono := by
  rintro w base ok ok' x cs hok ⟨v, rfl, h⟩
  exact ⟨v, rfl, Kd.R_mono h hok⟩
 M_bound := by
  rintro w base ok x cs ⟨v, rfl, h⟩
  exact ⟨v, rfl, Kd.R_bound h⟩
 M_move := by
  rintro w w1 base ok x cs hm ⟨v, rfl, h⟩
  exact ⟨v, rfl, Kd.R_move h hm⟩
 M_lower := by
  rintro w base base' ok x cs hb ⟨v, rfl, h⟩
  exact ⟨v, rfl, Kd.R_lower h hb⟩
def kStr : Kd B.Bs := Kd.iso Kd.string str
def kPath : Kd V.Path := Kd.iso (Kd.pair Kd.bool (Kd.pair kStr kStr)) (fun p => (p.null, p.loc, p.dom))
def kPaths : Kd (List V.Path) := Kd.slice 43 kPath
def kMail : Kd B.Mail := Kd.iso (Kd.pair kPath (Kd.pair kPaths (Kd.pair kB (Kd.pair Kd.bool (Kd.pair kStr (Kd.int .i64)))))) (fun m => (m.frm, m.to, m.body, m.quiet, m.helo, m.tm))
def pcs (p : V.Path) : List Value := [.bool p.null, .string (str p.loc), .string (str p.dom)]
theorem kPath_open {w : World} {p : V.Path} {cs : List Value} (h : kPath.K w p cs) : cs = pcs p := by
 obtain ⟨_, _, rfl, rfl, ⟨_, _, rfl, rfl, rfl⟩⟩ := h
 exact rfl
theorem kPath_mk (w : World) (p : V.Path) : kPath.K w p (pcs p) := ⟨[_], [_, _], rfl, rfl, ⟨[_], [_], rfl, rfl, rfl⟩⟩
theorem kPath_mkM (w : World) (base : Nat) (ok : Nat → Prop) (p : V.Path) : kPath.M w base ok p (pcs p) := ⟨[_], [_, _], rfl, rfl, ⟨[_], [_], rfl, rfl, rfl⟩⟩
def mcs (m : B.Mail) (A : Option Addr) (c : Nat) (A2 : Option Addr) (c2 : Nat) : List Value := [.bool m.frm.null, .string (str m.frm.loc), .string (str m.frm.dom), .slice A m.to.length c, .slice A2 m.body.length c2, .bool m.quiet, .string (str m.helo), .int .i64 m.tm]
structure Ml (w : World) (m : B.Mail) (A : Option Addr) (c : Nat) (A2 : Option Addr) (c2 : Nat) : Prop where
 cap : m.to.length ≤ c
 tos : kPath.C w A m.to.length m.to
 body : Bt w A2 c2 m.body
theorem Ml.on {w w' : World} {m : B.Mail} {A : Option Addr} {c : Nat} {A2 : Option Addr} {c2 : Nat} (h : Ml w m A c A2 c2) (hb : Below w.heap.size w w') : Ml w' m A c A2 c2 := ⟨h.cap, Kd.C_below h.tos hb, h.body.on hb⟩
theorem kMail_open {w : World} {m : B.Mail} {cs : List Value} (h : kMail.K w m cs) : ∃ A c A2 c2, cs = mcs m A c A2 c2 ∧ Ml w m A c A2 c2 := by
 obtain ⟨_, _, rfl, h1, ⟨_, _, rfl, ⟨A, c, rfl, hc, hC⟩, ⟨_, _, rfl, ⟨A2, c2, rfl, hB⟩, ⟨_, _, rfl, rfl, ⟨_, _, rfl, rfl, rfl⟩⟩⟩⟩⟩ := h
 obtain rfl := kPath_open h1
 exact ⟨A, c, A2, c2, rfl, hc, hC, hB⟩
theorem kMail_mk {w : World} {m : B.Mail} {A : Option Addr} {c : Nat} {A2 : Option Addr} {c2 : Nat} (h : Ml w m A c A2 c2) : kMail.K w m (mcs m A c A2 c2) :=
 ⟨pcs m.frm, [_, _, _, _, _], rfl, kPath_mk w m.frm, ⟨[_], [_, _, _, _], rfl, ⟨A, c, rfl, h.cap, h.tos⟩, ⟨[_], [_, _, _], rfl, ⟨A2, c2, rfl, h.body⟩, ⟨[_], [_, _], rfl, rfl, ⟨[_], [_], rfl, rfl, rfl⟩⟩⟩⟩⟩
theorem path_at {w : World} {A : Option Addr} {k : Nat} {xs : List V.Path} (h : kPath.C w A k xs) (i : Nat) (h1 : i < k) (x : V.Path) (hx : x = xs.getD i V.noPath) : ∃ ad, A = some ad ∧ w.cell? (ad.add (i * 3)) = some (.bool x.null) ∧ w.cell? ⟨(ad.add (i * 3)).block, (ad.add (i * 3)).off + 1, none⟩ = some (.string (str x.loc)) ∧ w.cell? ⟨(ad.add (i * 3)).block, (ad.add (i * 3)).off + 2, none⟩ = some (.string (str x.dom)) := by
 subst hx
 obtain ⟨ad, c, e, _, hK, hc0⟩ := Kd.C_get h V.noPath (i : Int) (by omega) (by omega)
 have e0 : (i : Int).toNat = i := by omega
 rw [e0] at hK hc0
 have hc : ∀ j u, c[j]? = some u → w.cell? (ad.add (i * 3 + j)) = some u := hc0
 obtain rfl := kPath_open hK
 exact ⟨ad, e, hc 0 _ rfl, by rw [← add_field _ _ 1 (by omega)]; exact hc 1 _ rfl, by rw [← add_field _ _ 2 (by omega)]; exact hc 2 _ rfl⟩
structure Mcells (w : World) (p : Addr) (m : B.Mail) (A : Option Addr) (c : Nat) (A2 : Option Addr) (c2 : Nat) : Prop where
 k0 : w.cell? p = some (.bool m.frm.null)
 k1 : w.cell? ⟨p.block, p.off + 1, none⟩ = some (.string (str m.frm.loc))
 k2 : w.cell? ⟨p.block, p.off + 2, none⟩ = some (.string (str m.frm.dom))
 k3 : w.cell? ⟨p.block, p.off + 3, none⟩ = some (.slice A m.to.length c)
 k4 : w.cell? ⟨p.block, p.off + 4, none⟩ = some (.slice A2 m.body.length c2)
 k5 : w.cell? ⟨p.block, p.off + 5, none⟩ = some (.bool m.quiet)
 k6 : w.cell? ⟨p.block, p.off + 6, none⟩ = some (.string (str m.helo))
 k7 : w.cell? ⟨p.block, p.off + 7, none⟩ = some (.int .i64 m.tm)
theorem Mcells.on {w w' : World} {p : Addr} {m : B.Mail} {A : Option Addr} {c : Nat} {A2 : Option Addr} {c2 : Nat} (h : Mcells w p m A c A2 c2) (hb : Below w.heap.size w w') : Mcells w' p m A c A2 c2 :=
 ⟨cell_up hb h.k0, cell_up hb h.k1, cell_up hb h.k2, cell_up hb h.k3, cell_up hb h.k4, cell_up hb h.k5, cell_up hb h.k6, cell_up hb h.k7⟩
theorem mail_at {w : World} {A : Option Addr} {k : Nat} {xs : List B.Mail} (h : kMail.C w A k xs) (i : Nat) (h1 : i < k) (x : B.Mail) (hx : x = xs.getD i B.noMail) : ∃ ad A1 c1 A2 c2, A = some ad ∧ Mcells w (ad.add (i * 8)) x A1 c1 A2 c2 ∧ Ml w x A1 c1 A2 c2 := by
 subst hx
 obtain ⟨ad, c, e, _, hK, hc0⟩ := Kd.C_get h B.noMail (i : Int) (by omega) (by omega)
 have e0 : (i : Int).toNat = i := by omega
 rw [e0] at hK hc0
 have hc : ∀ j u, c[j]? = some u → w.cell? (ad.add (i * 8 + j)) = some u := hc0
 obtain ⟨A1, c1, A2, c2, rfl, hm⟩ := kMail_open hK
 exact ⟨ad, A1, c1, A2, c2, e, ⟨hc 0 _ rfl, by rw [← add_field _ _ 1 (by omega)]; exact hc 1 _ rfl, by rw [← add_field _ _ 2 (by omega)]; exact hc 2 _ rfl, by rw [← add_field _ _ 3 (by omega)]; exact hc 3 _ rfl, by rw [← add_field _ _ 4 (by omega)]; exact hc 4 _ rfl, by rw [← add_field _ _ 5 (by omega)]; exact hc 5 _ rfl, by rw [← add_field _ _ 6 (by omega)]; exact hc 6 _ rfl, by rw [← add_field _ _ 7 (by omega)]; exact hc 7 _ rfl⟩, hm⟩
def B.fitP (p : V.Path) : Prop := p.loc.length ≤ 100000 ∧ p.dom.length ≤ 100000
structure B.Fit (m : B.Mail) : Prop where
 frm : B.fitP m.frm
 tos : ∀ p ∈ m.to, B.fitP p
 n : m.to.length ≤ 100000
 body : m.body.length ≤ 100000
 helo : m.helo.length ≤ 100000
theorem pcheck_at (p : V.Path) (w : World) (hp : B.fitP p) (hv : Vars w) :
  Calls Tryz.prog 70 #[.agg #[.bool p.null, .string (str p.loc), .string (str p.dom)]] w fun e w' => e = .returned (.int .i64 (errOf (V.check p))) ∧ Below w.heap.size w w' := by
 have h := check_any p.null (str p.loc) (str p.dom) w (by rw [str_size]; exact hp.1) (by rw [str_size]; exact hp.2) hv
 rw [lst_str, lst_str] at h
 exact h
theorem ptext_at (p : V.Path) (w : World) (hp : B.fitP p) (hv : Vars w) :
  Calls Tryz.prog 51 #[.agg #[.bool p.null, .string (str p.loc), .string (str p.dom)]] w fun e w' => e = .returned (.tuple #[.string (str (B.box p)), .int .i64 (errOf (V.check p))]) ∧ Below w.heap.size w w' := by
 have h := ptext_any p.null (str p.loc) (str p.dom) w (by rw [str_size]; exact hp.1) (by rw [str_size]; exact hp.2) hv
 unfold textB at h
 rw [lst_str, lst_str] at h
 unfold B.box
 cases hx : V.ptext p with
 | none => rw [show V.ptext ⟨p.null, p.loc, p.dom⟩ = none from hx] at h; exact h
 | some l => rw [show V.ptext ⟨p.null, p.loc, p.dom⟩ = some l from hx] at h; exact h
theorem errOf_eq (b : Bool) : (errOf b == 0) = b ∧ (errOf b != 0) = !b := by cases b <;> decide
def B.far (p : V.Path) : Bool := V.check p && !p.null
set_option maxRecDepth 100000 in
set_option maxHeartbeats 1000000 in
theorem soleFn_any (p : V.Path) (w : World) (hp : B.fitP p) (hv : Vars w) :
  Calls Tryz.prog 69 #[.agg #[.bool p.null, .string (str p.loc), .string (str p.dom)]] w fun e w' => e = .returned (.bool (!B.far p)) ∧ Below w.heap.size w w' := by
 obtain ⟨T, hT⟩ : ∃ T, T = !B.far p := ⟨_, rfl⟩
 rw [← hT]
 have hck : ∀ W, Below w.heap.size w W → Calls Tryz.prog 70 #[.agg #[.bool p.null, .string (str p.loc), .string (str p.dom)]] W fun e w' => e = .returned (.int .i64 (errOf (V.check p))) ∧ Below W.heap.size W w' := fun W hW => pcheck_at p W hp (hv.go hW)
 have HCK := Aside0.mk hck
 have hal : ∀ (W : World) (o : Obj), Below w.heap.size w W → Below w.heap.size w (W.alloc o) := fun W o h => h.alloc h.size o
 have HAL := Aside0.mk hal
 clear hck hp hv hal
 obtain ⟨nl, a, b⟩ := p
 simp only at HCK ⊢
 cases hc : V.check ⟨nl, a, b⟩ with
 | false =>
  have hT : T = true := by rw [hT]; unfold B.far; rw [hc]; rfl
  have HT := Aside0.mk hT
  rw [hc] at HCK
  clear hT hc
  go_enter Tryz.func69, Tryz.ntmps69
  go_wp2_with (first | (go_at_call 70; (with_reducible refine Calls.mono (HCK.out _ (HAL.out _ _ (Below.refl _ _))) ?_); rintro e w1 ⟨rfl, h⟩; have H1 := Aside0.mk ((HAL.out _ _ (Below.refl _ _)).trans (h.mono (by simp))); clear h; simp only [errOf, Bool.false_eq_true, if_false]))
  go_ret
  exact ⟨by rw [HT.out]; rfl, H1.out⟩
 | true =>
  have hT : T = nl := by rw [hT]; unfold B.far; rw [hc]; cases nl <;> rfl
  have HT := Aside0.mk hT
  rw [hc] at HCK
  clear hT hc
  go_enter Tryz.func69, Tryz.ntmps69
  go_wp2_with (first | (go_at_call 70; (with_reducible refine Calls.mono (HCK.out _ (HAL.out _ _ (Below.refl _ _))) ?_); rintro e w1 ⟨rfl, h⟩; have H1 := Aside0.mk ((HAL.out _ _ (Below.refl _ _)).trans (h.mono (by simp))); have hc0 : w1.cell? ⟨w.heap.size, 0, none⟩ = some (.bool nl) := (h.cell (p := ⟨w.heap.size, 0, none⟩) (by simp)).trans (by simp); clear h; simp only [errOf, if_true]))
  go_ret
  exact ⟨by rw [HT.out]; rfl, H1.out⟩
theorem any_take {α : Type} (l : List α) (p : α → Bool) (n : Nat) (hn : n < l.length) (d : α) : (l.take (n + 1)).any p = ((l.take n).any p || p (l.getD n d)) := by
 rw [List.take_add_one, List.any_append, List.getElem?_eq_getElem hn, List.getD_eq_getElem?_getD, List.getElem?_eq_getElem hn]
 simp
theorem any_true {α : Type} (l : List α) (p : α → Bool) (n : Nat) (hn : n < l.length) (d : α) (h : p (l.getD n d) = true) : l.any p = true := List.any_eq_true.2 ⟨_, getD_mem l n hn d, h⟩
def idxPost (T : Bool) (e : Ending) : Prop := ∃ k : Int, e = .returned (.int .i64 k) ∧ -1 ≤ k ∧ k ≤ 1000000 ∧ (0 ≤ k ↔ T = true)
set_option maxRecDepth 100000 in
set_option maxHeartbeats 1000000 in
theorem idxPath_any (xs : List V.Path) (A : Option Addr) (c : Nat) (w : World) (hx : kPath.C w A xs.length xs) (hn : xs.length ≤ 100000) (hf : ∀ p ∈ xs, B.fitP p) (hv : Vars w) :
  Calls Tryz.prog 94 #[.slice A xs.length c, .func (.func 69) #[] #[]] w fun e w' => idxPost (xs.any (fun p => !B.far p)) e ∧ Below w.heap.size w w' := by
 obtain ⟨T, hT⟩ : ∃ T, T = xs.any (fun p => !B.far p) := ⟨_, rfl⟩
 rw [← hT]
 have HT := Aside0.mk hT
 have HX := Aside0.mk hx
 have HV := Aside0.mk hv
 have HF := Aside0.mk hf
 clear hT hx hv hf
 go_enter Tryz.func94, Tryz.ntmps94
 go_wp2_with (fail)
 go_loopg [8] xs.length (fun g v8 wr => ∃ n : Nat, n ≤ xs.length ∧ g + n = xs.length ∧ v8 = .int .i64 n ∧ Aside0 ((xs.take n).any (fun p => !B.far p) = false ∧ Below w.heap.size w wr))
 case atStart => exact ⟨0, by omega, by omega, rfl, ⟨rfl, Below.refl _ _⟩⟩
 case round =>
  obtain ⟨n, hn2, hg, rfl, H⟩ := hrel
  obtain ⟨wx, rfl⟩ : ∃ wz : World, wz = wr := ⟨_, rfl⟩
  by_cases hlt : n < xs.length
  ·obtain ⟨x, hx⟩ : ∃ x, x = xs.getD n V.noPath := ⟨_, rfl⟩
   obtain ⟨ad, rfl, hc0, hc1, hc2⟩ := path_at HX.out n hlt x hx
   have c0 := cell_up H.out.2 hc0
   have c1 := cell_up H.out.2 hc1
   have c2 := cell_up H.out.2 hc2
   have hlt' : (n : Int) < (xs.length : Int) := by omega
   have h0 : (0 : Int) ≤ (n : Int) := by omega
   have hfx : B.fitP x := HF.out _ (by rw [hx]; exact getD_mem xs n hlt _)
   have hcon := soleFn_any x wx hfx (HV.out.go H.out.2)
   have hat := any_take xs (fun p => !B.far p) n hlt V.noPath
   rw [← hx, H.out.1, Bool.false_or] at hat
   have hT := any_true xs (fun p => !B.far p) n hlt V.noPath
   rw [← hx, ← HT.out] at hT
   cases hp : (!B.far x) with
   | true =>
    rw [hp] at hcon hT
    have HCO := Aside0.mk hcon
    have HTF := Aside0.mk (hT rfl)
    clear hT hp hx hc0 hc1 hc2 hcon hfx hat
    go_wp2_with (first | (go_at_call 69; (with_reducible refine Calls.mono HCO.out ?_); rintro e w1 ⟨rfl, h⟩; have H1 := Aside0.mk h; clear h))
    go_ret
    exact ⟨⟨n, rfl, by omega, by omega, fun _ => HTF.out, fun _ => by omega⟩, H.out.2.trans (H1.out.mono H.out.2.size)⟩
   | false =>
    rw [hp] at hcon hat
    have HCO := Aside0.mk hcon
    have HAT := Aside0.mk hat
    clear hT hp hx hc0 hc1 hc2 hcon hfx hat
    go_wp2_with (first | (go_at_call 69; (with_reducible refine Calls.mono HCO.out ?_); rintro e w1 ⟨rfl, h⟩; have H1 := Aside0.mk h; clear h))
    go_roundg (gk - 1)
    case measure => omega
    case rel => exact ⟨n + 1, by omega, by omega, by go_num, ⟨HAT.out, H.out.2.trans (H1.out.mono H.out.2.size)⟩⟩
  ·have hne : n = xs.length := by omega
   have hT : T = false := by
    have := H.out.1
    rw [hne, List.take_length] at this
    rw [HT.out, this]
   have HTF := Aside0.mk hT
   have t1 : decide ((n : Int) < (xs.length : Int)) = false := by simp; omega
   have t2 : decide (n < xs.length) = false := by simp; omega
   clear hT hne
   go_wp2_with (fail)
   go_ret
   exact ⟨⟨-1, rfl, by omega, by omega, (fun h => absurd h (by omega)), fun h => by rw [HTF.out] at h; cases h⟩, H.out.2⟩
theorem idx_dec {T : Bool} {k : Int} (h : 0 ≤ k ↔ T = true) : decide (k ≥ 0) = T := by
 cases T with
 | true => exact decide_eq_true (h.2 rfl)
 | false => exact decide_eq_false (fun h' => by have := h.1 h'; cases this)
theorem contPath_any (xs : List V.Path) (A : Option Addr) (c : Nat) (w : World) (hx : kPath.C w A xs.length xs) (hn : xs.length ≤ 100000) (hf : ∀ p ∈ xs, B.fitP p) (hv : Vars w) :
  Calls Tryz.prog 71 #[.slice A xs.length c, .func (.func 69) #[] #[]] w fun e w' => e = .returned (.bool (xs.any (fun p => !B.far p))) ∧ Below w.heap.size w w' := by
 have HC := Aside0.mk (idxPath_any xs A c w hx hn hf hv)
 obtain ⟨T, hT⟩ : ∃ T, T = xs.any (fun p => !B.far p) := ⟨_, rfl⟩
 rw [← hT] at HC ⊢
 clear hT hx hv hf
 go_enter Tryz.func71, Tryz.ntmps71
 go_wp2_with (first | (go_at_call 94; (with_reducible refine Calls.mono HC.out ?_); rintro e w1 ⟨⟨k, rfl, hk0, hk1, hk⟩, h⟩; have H1 := Aside0.mk h; have HK := Aside0.mk hk; clear h hk))
 go_ret
 exact ⟨by rw [← idx_dec HK.out]; rfl, H1.out⟩
end Go.Proofs.YtpfmnkpmidjfjaaGreatDoor
/- Whether a mail, a bundle, is right: what bundle's Sole and Check answer. -/
namespace Go.Proofs.YtpfmnkpmidjfjaaGreatDoor
open Go.RowKit Go.Lib
open Go.Proofs.YtpfmnkpmidjfjaaGreatDoorW.PrintWords
set_option linter.unusedVariables false
set_option linter.unusedSimpArgs false
theorem Mcells.flat {w : World} {g : Nat} {m : B.Mail} {A : Option Addr} {c : Nat} {A2 : Option Addr} {c2 : Nat} (h : Mcells w ⟨g, 0, none⟩ m A c A2 c2) :
  w.cell? ⟨g, 0, none⟩ = some (.bool m.frm.null) ∧ w.cell? ⟨g, 1, none⟩ = some (.string (str m.frm.loc)) ∧ w.cell? ⟨g, 2, none⟩ = some (.string (str m.frm.dom)) ∧ w.cell? ⟨g, 3, none⟩ = some (.slice A m.to.length c) ∧ w.cell? ⟨g, 4, none⟩ = some (.slice A2 m.body.length c2) ∧ w.cell? ⟨g, 5, none⟩ = some (.bool m.quiet) ∧ w.cell? ⟨g, 6, none⟩ = some (.string (str m.helo)) ∧ w.cell? ⟨g, 7, none⟩ = some (.int .i64 m.tm) :=
 ⟨h.k0, h.k1, h.k2, h.k3, h.k4, h.k5, h.k6, h.k7⟩
theorem Mcells.of_row {w : World} {g t : Nat} {fr : Nat × Nat} {m : B.Mail} {A : Option Addr} {c : Nat} {A2 : Option Addr} {c2 : Nat} (h : w.heap[g]? = some (.cells #[.bool m.frm.null, .string (str m.frm.loc), .string (str m.frm.dom), .slice A m.to.length c, .slice A2 m.body.length c2, .bool m.quiet, .string (str m.helo), .int .i64 m.tm] t fr)) : Mcells w ⟨g, 0, none⟩ m A c A2 c2 := by
 constructor <;> (rw [cell_of_row w g _ _ _ _ h]; rfl)
theorem far_all (l : List V.Path) : l.all (fun p => V.check p && !p.null) = !l.any (fun p => !B.far p) := by
 rw [← List.all_eq_not_any_not]
 rfl
theorem and5 : ∀ a b c d e : Bool, a = false ∨ (a = true ∧ b = false) ∨ (a = true ∧ b = true ∧ c = false) ∨ (a = true ∧ b = true ∧ c = true ∧ d = true) ∨ (a = true ∧ b = true ∧ c = true ∧ d = false) := by decide
set_option maxRecDepth 100000 in
set_option maxHeartbeats 4000000 in
theorem sole_any (m : B.Mail) (A : Option Addr) (c : Nat) (A2 : Option Addr) (c2 : Nat) (w : World) (h : Ml w m A c A2 c2) (hf : B.Fit m) (hv : Vars w) :
  Calls Tryz.prog 43 #[.agg #[.bool m.frm.null, .string (str m.frm.loc), .string (str m.frm.dom), .slice A m.to.length c, .slice A2 m.body.length c2, .bool m.quiet, .string (str m.helo), .int .i64 m.tm]] w fun e w' => e = .returned (.bool (B.sole m)) ∧ Below w.heap.size w w' := by
 obtain ⟨T, hT⟩ : ∃ T, T = B.sole m := ⟨_, rfl⟩
 rw [← hT]
 obtain ⟨a, ha⟩ : ∃ a, a = V.check m.frm := ⟨_, rfl⟩
 obtain ⟨d, hd⟩ : ∃ d, d = m.to.any (fun p => !B.far p) := ⟨_, rfl⟩
 obtain ⟨e, he⟩ : ∃ e, e = B.body m.body := ⟨_, rfl⟩
 unfold B.sole at hT
 rw [far_all, ← ha, ← hd, ← he] at hT
 have hck : ∀ W, Below w.heap.size w W → Calls Tryz.prog 70 #[.agg #[.bool m.frm.null, .string (str m.frm.loc), .string (str m.frm.dom)]] W fun e w' => e = .returned (.int .i64 (errOf a)) ∧ Below W.heap.size W w' := fun W hW => by rw [ha]; exact pcheck_at m.frm W hf.frm (hv.go hW)
 have hcf : ∀ W, Below w.heap.size w W → Calls Tryz.prog 71 #[.slice A m.to.length c, .func (.func 69) #[] #[]] W fun e w' => e = .returned (.bool d) ∧ Below W.heap.size W w' := fun W hW => by rw [hd]; exact contPath_any m.to A c W (h.on hW).tos hf.n hf.tos (hv.go hW)
 have hdc : ∀ W, Below w.heap.size w W → Calls Tryz.prog 72 #[.slice A2 m.body.length c2] W fun r w' => r = .returned (.int .i64 (errOf e)) ∧ Below W.heap.size W w' := fun W hW => by rw [he]; exact dcheck_any W (h.on hW).body (by have := hf.body; omega) (hv.go hW)
 have HCK := Aside0.mk hck
 have HCF := Aside0.mk hcf
 have HDC := Aside0.mk hdc
 have hbx : Below w.heap.size w (w.alloc (.cells #[.bool m.frm.null, .string (str m.frm.loc), .string (str m.frm.dom), .slice A m.to.length c, .slice A2 m.body.length c2, .bool m.quiet, .string (str m.helo), .int .i64 m.tm] 46)) := (Below.refl _ _).alloc (Nat.le_refl _) _
 have hmc : Mcells (w.alloc (.cells #[.bool m.frm.null, .string (str m.frm.loc), .string (str m.frm.dom), .slice A m.to.length c, .slice A2 m.body.length c2, .bool m.quiet, .string (str m.helo), .int .i64 m.tm] 46)) ⟨w.heap.size, 0, none⟩ m A c A2 c2 := Mcells.of_row (heap_alloc_new _ _)
 have HBX := Aside0.mk hbx
 have HMC := Aside0.mk hmc
 have hn := hf.n
 clear hck hcf hdc hbx hmc h hf hv ha hd he
 have h5 := and5 a (decide (1 ≤ m.to.length)) (decide (m.to.length ≤ 8)) d e
 rcases h5 with h5 | ⟨h5, h6⟩ | ⟨h5, h6, h7⟩ | ⟨h5, h6, h7, h8⟩ | ⟨h5, h6, h7, h8⟩
 ·subst h5
  have HT := Aside0.mk (show T = false by rw [hT]; rfl)
  clear hT
  go_enter Tryz.func43, Tryz.ntmps43
  go_wp2_with (first | (go_at_call 70; (with_reducible refine Calls.mono (HCK.out _ HBX.out) ?_); rintro r w1 ⟨rfl, h⟩; have H1 := Aside0.mk (HBX.out.trans (h.mono HBX.out.size)); clear h; simp only [errOf, Bool.false_eq_true, if_false]))
  go_ret
  exact ⟨by rw [HT.out]; rfl, H1.out⟩
 ·subst h5
  have h6' : ¬ (1 ≤ m.to.length) := of_decide_eq_false h6
  have h6'' : (m.to.length : Int) < 1 := by omega
  have HT := Aside0.mk (show T = false by rw [hT, h6]; rfl)
  clear hT h6 h6'
  go_enter Tryz.func43, Tryz.ntmps43
  go_wp2_with (first | (go_at_call 70; (with_reducible refine Calls.mono (HCK.out _ HBX.out) ?_); rintro r w1 ⟨rfl, h⟩; have H1 := Aside0.mk (HBX.out.trans (h.mono HBX.out.size)); have HM := Aside0.mk (HMC.out.on h); clear h; obtain ⟨d0, d1, d2, d3, d4, d5, d6, d7⟩ := HM.out.flat; simp only [errOf, if_true]))
  go_ret
  exact ⟨by rw [HT.out]; rfl, H1.out⟩
 ·subst h5
  have h6' : 1 ≤ m.to.length := of_decide_eq_true h6
  have h6'' : 1 ≤ (m.to.length : Int) := by omega
  have h7' : ¬ (m.to.length ≤ 8) := of_decide_eq_false h7
  have h7'' : 8 < (m.to.length : Int) := by omega
  have HT := Aside0.mk (show T = false by rw [hT, h6, h7]; rfl)
  clear hT h6 h7 h7'
  go_enter Tryz.func43, Tryz.ntmps43
  go_wp2_with (first | (go_at_call 70; (with_reducible refine Calls.mono (HCK.out _ HBX.out) ?_); rintro r w1 ⟨rfl, h⟩; have H1 := Aside0.mk (HBX.out.trans (h.mono HBX.out.size)); have HM := Aside0.mk (HMC.out.on h); clear h; obtain ⟨d0, d1, d2, d3, d4, d5, d6, d7⟩ := HM.out.flat; simp only [errOf, if_true]))
  go_ret
  exact ⟨by rw [HT.out]; rfl, H1.out⟩
 ·subst h5
  subst h8
  have h6' : 1 ≤ m.to.length := of_decide_eq_true h6
  have h6'' : 1 ≤ (m.to.length : Int) := by omega
  have h7' : m.to.length ≤ 8 := of_decide_eq_true h7
  have h7'' : (m.to.length : Int) ≤ 8 := by omega
  have HT := Aside0.mk (show T = false by rw [hT, h6, h7]; rfl)
  clear hT h6 h7
  go_enter Tryz.func43, Tryz.ntmps43
  go_wp2_with (first | (go_at_call 70; (with_reducible refine Calls.mono (HCK.out _ HBX.out) ?_); rintro r w1 ⟨rfl, h⟩; have H1 := Aside0.mk (HBX.out.trans (h.mono HBX.out.size)); have HM := Aside0.mk (HMC.out.on h); clear h; obtain ⟨d0, d1, d2, d3, d4, d5, d6, d7⟩ := HM.out.flat; simp only [errOf, if_true]) | (go_at_call 71; (with_reducible refine Calls.mono (HCF.out _ H1.out) ?_); rintro r w2 ⟨rfl, h⟩; have H2 := Aside0.mk (H1.out.trans (h.mono H1.out.size)); clear h))
  go_ret
  exact ⟨by rw [HT.out]; rfl, H2.out⟩
 ·subst h5
  subst h8
  have h6' : 1 ≤ m.to.length := of_decide_eq_true h6
  have h6'' : 1 ≤ (m.to.length : Int) := by omega
  have h7' : m.to.length ≤ 8 := of_decide_eq_true h7
  have h7'' : (m.to.length : Int) ≤ 8 := by omega
  have HT := Aside0.mk (show T = e by rw [hT, h6, h7]; cases e <;> rfl)
  clear hT h6 h7
  have hee := (errOf_eq e).1
  go_enter Tryz.func43, Tryz.ntmps43
  go_wp2_with (first | (go_at_call 70; (with_reducible refine Calls.mono (HCK.out _ HBX.out) ?_); rintro r w1 ⟨rfl, h⟩; have H1 := Aside0.mk (HBX.out.trans (h.mono HBX.out.size)); have HM := Aside0.mk (HMC.out.on h); clear h; obtain ⟨d0, d1, d2, d3, d4, d5, d6, d7⟩ := HM.out.flat; simp only [errOf, if_true]) | (go_at_call 71; (with_reducible refine Calls.mono (HCF.out _ H1.out) ?_); rintro r w2 ⟨rfl, h⟩; have H2 := Aside0.mk (H1.out.trans (h.mono H1.out.size)); have HM2 := Aside0.mk (HM.out.on h); clear h; obtain ⟨e0, e1, e2, e3, e4, e5, e6, e7⟩ := HM2.out.flat) | (go_at_call 72; (with_reducible refine Calls.mono (HDC.out _ H2.out) ?_); rintro r w3 ⟨rfl, h⟩; have H3 := Aside0.mk (H2.out.trans (h.mono H2.out.size)); clear h))
  go_ret
  exact ⟨by rw [HT.out]; rfl, H3.out⟩
end Go.Proofs.YtpfmnkpmidjfjaaGreatDoor
/- Whether a bundle is right: what bundle's Check answers. -/
namespace Go.Proofs.YtpfmnkpmidjfjaaGreatDoor
open Go.RowKit Go.Lib
open Go.Proofs.YtpfmnkpmidjfjaaGreatDoorW.PrintWords
set_option linter.unusedVariables false
set_option linter.unusedSimpArgs false
theorem and5b : ∀ a b c d e : Bool, a = false ∨ (a = true ∧ b = false) ∨ (a = true ∧ b = true ∧ c = false) ∨ (a = true ∧ b = true ∧ c = true ∧ d = false) ∨ (a = true ∧ b = true ∧ c = true ∧ d = true) := by decide
set_option maxRecDepth 100000 in
set_option maxHeartbeats 4000000 in
theorem rightFn_any (m : B.Mail) (A : Option Addr) (c : Nat) (A2 : Option Addr) (c2 : Nat) (w : World) (h : Ml w m A c A2 c2) (hf : B.Fit m) (hv : Vars w) :
  Calls Tryz.prog 42 #[.agg #[.bool m.frm.null, .string (str m.frm.loc), .string (str m.frm.dom), .slice A m.to.length c, .slice A2 m.body.length c2, .bool m.quiet, .string (str m.helo), .int .i64 m.tm]] w fun e w' => e = .returned (.bool (!B.right m)) ∧ Below w.heap.size w w' := by
 obtain ⟨T, hT⟩ : ∃ T, T = !B.right m := ⟨_, rfl⟩
 rw [← hT]
 obtain ⟨a, ha⟩ : ∃ a, a = B.sole m := ⟨_, rfl⟩
 unfold B.right at hT
 rw [← ha] at hT
 have hso : ∀ W, Below w.heap.size w W → Calls Tryz.prog 43 #[.agg #[.bool m.frm.null, .string (str m.frm.loc), .string (str m.frm.dom), .slice A m.to.length c, .slice A2 m.body.length c2, .bool m.quiet, .string (str m.helo), .int .i64 m.tm]] W fun e w' => e = .returned (.bool a) ∧ Below W.heap.size W w' := fun W hW => by rw [ha]; exact sole_any m A c A2 c2 W (h.on hW) hf (hv.go hW)
 have HSO := Aside0.mk hso
 have hbx : Below w.heap.size w (w.alloc (.cells #[.bool m.frm.null, .string (str m.frm.loc), .string (str m.frm.dom), .slice A m.to.length c, .slice A2 m.body.length c2, .bool m.quiet, .string (str m.helo), .int .i64 m.tm] 46)) := (Below.refl _ _).alloc (Nat.le_refl _) _
 have hmc : Mcells (w.alloc (.cells #[.bool m.frm.null, .string (str m.frm.loc), .string (str m.frm.dom), .slice A m.to.length c, .slice A2 m.body.length c2, .bool m.quiet, .string (str m.helo), .int .i64 m.tm] 46)) ⟨w.heap.size, 0, none⟩ m A c A2 c2 := Mcells.of_row (heap_alloc_new _ _)
 have HBX := Aside0.mk hbx
 have HMC := Aside0.mk hmc
 have hbl := hf.body
 have hemp : m.helo.isEmpty = (str m.helo).toList.isEmpty := by rw [ByteArray.toList_eq]; rfl
 rw [hemp] at hT
 clear hso hbx hmc h hf hv ha hemp
 obtain ⟨q, hq⟩ : ∃ q, q = m.quiet := ⟨_, rfl⟩
 rw [← hq] at HSO HBX HMC hT
 rw [← hq]
 have HQ := Aside0.mk hq
 clear hq
 rcases and5b a (decide (m.body.length ≤ 4096)) (!q) ((str m.helo).toList.isEmpty) (decide (m.tm = 0)) with h5 | ⟨h5, h6⟩ | ⟨h5, h6, h7⟩ | ⟨h5, h6, h7, h8⟩ | ⟨h5, h6, h7, h8⟩
 ·subst h5
  have HT := Aside0.mk (show T = true by rw [hT]; rfl)
  clear hT
  go_enter Tryz.func42, Tryz.ntmps42
  go_wp2_with (first | (go_at_call 43; (with_reducible refine Calls.mono (HSO.out _ HBX.out) ?_); rintro r w1 ⟨rfl, h⟩; have H1 := Aside0.mk (HBX.out.trans (h.mono HBX.out.size)); have HM := Aside0.mk (HMC.out.on h); clear h; obtain ⟨d0, d1, d2, d3, d4, d5, d6, d7⟩ := HM.out.flat; rw [← HQ.out] at d5))
  go_ret
  exact ⟨by rw [HT.out]; rfl, H1.out⟩
 ·subst h5
  have h6' : ¬ (m.body.length ≤ 4096) := of_decide_eq_false h6
  have h6'' : 4096 < (m.body.length : Int) := by omega
  have HT := Aside0.mk (show T = true by rw [hT, h6]; rfl)
  clear hT h6 h6'
  go_enter Tryz.func42, Tryz.ntmps42
  go_wp2_with (first | (go_at_call 43; (with_reducible refine Calls.mono (HSO.out _ HBX.out) ?_); rintro r w1 ⟨rfl, h⟩; have H1 := Aside0.mk (HBX.out.trans (h.mono HBX.out.size)); have HM := Aside0.mk (HMC.out.on h); clear h; obtain ⟨d0, d1, d2, d3, d4, d5, d6, d7⟩ := HM.out.flat; rw [← HQ.out] at d5))
  go_ret
  exact ⟨by rw [HT.out]; rfl, H1.out⟩
 ·subst h5
  have h6' : m.body.length ≤ 4096 := of_decide_eq_true h6
  have h6'' : (m.body.length : Int) ≤ 4096 := by omega
  obtain rfl : q = true := by simpa using h7
  have HT := Aside0.mk (show T = true by rw [hT, h6, h7]; rfl)
  clear hT h6 h7
  go_enter Tryz.func42, Tryz.ntmps42
  go_wp2_with (first | (go_at_call 43; (with_reducible refine Calls.mono (HSO.out _ HBX.out) ?_); rintro r w1 ⟨rfl, h⟩; have H1 := Aside0.mk (HBX.out.trans (h.mono HBX.out.size)); have HM := Aside0.mk (HMC.out.on h); clear h; obtain ⟨d0, d1, d2, d3, d4, d5, d6, d7⟩ := HM.out.flat; rw [← HQ.out] at d5))
  go_ret
  exact ⟨by rw [HT.out]; rfl, H1.out⟩
 ·subst h5
  have h6' : m.body.length ≤ 4096 := of_decide_eq_true h6
  have h6'' : (m.body.length : Int) ≤ 4096 := by omega
  obtain rfl : q = false := by simpa using h7
  have h8' : ¬ ((str m.helo).toList = []) := fun h => by rw [h] at h8; cases h8
  have HT := Aside0.mk (show T = true by rw [hT, h6, h7, h8]; rfl)
  clear hT h6 h7
  go_enter Tryz.func42, Tryz.ntmps42
  go_wp2_with (first | (go_at_call 43; (with_reducible refine Calls.mono (HSO.out _ HBX.out) ?_); rintro r w1 ⟨rfl, h⟩; have H1 := Aside0.mk (HBX.out.trans (h.mono HBX.out.size)); have HM := Aside0.mk (HMC.out.on h); clear h; obtain ⟨d0, d1, d2, d3, d4, d5, d6, d7⟩ := HM.out.flat; rw [← HQ.out] at d5))
  go_ret
  exact ⟨by rw [HT.out]; rfl, H1.out⟩
 ·subst h5
  have h6' : m.body.length ≤ 4096 := of_decide_eq_true h6
  have h6'' : (m.body.length : Int) ≤ 4096 := by omega
  obtain rfl : q = false := by simpa using h7
  have h8' : (str m.helo).toList = [] := List.isEmpty_iff.1 h8
  have HT := Aside0.mk (show T = !(decide (m.tm = 0)) by rw [hT, h6, h7, h8]; rfl)
  clear hT h6 h7
  go_enter Tryz.func42, Tryz.ntmps42
  go_wp2_with (first | (go_at_call 43; (with_reducible refine Calls.mono (HSO.out _ HBX.out) ?_); rintro r w1 ⟨rfl, h⟩; have H1 := Aside0.mk (HBX.out.trans (h.mono HBX.out.size)); have HM := Aside0.mk (HMC.out.on h); clear h; obtain ⟨d0, d1, d2, d3, d4, d5, d6, d7⟩ := HM.out.flat; rw [← HQ.out] at d5))
  go_ret
  refine ⟨?_, H1.out⟩
  rw [HT.out]
  by_cases h0 : m.tm = 0 <;> simp [h0] <;> omega
set_option maxRecDepth 100000 in
set_option maxHeartbeats 1000000 in
theorem idxMail_any (xs : List B.Mail) (A : Option Addr) (c : Nat) (w : World) (hx : kMail.C w A xs.length xs) (hn : xs.length ≤ 100000) (hf : ∀ m ∈ xs, B.Fit m) (hv : Vars w) :
  Calls Tryz.prog 73 #[.slice A xs.length c, .func (.func 42) #[] #[]] w fun e w' => idxPost (xs.any (fun m => !B.right m)) e ∧ Below w.heap.size w w' := by
 obtain ⟨T, hT⟩ : ∃ T, T = xs.any (fun m => !B.right m) := ⟨_, rfl⟩
 rw [← hT]
 have HT := Aside0.mk hT
 have HX := Aside0.mk hx
 have HV := Aside0.mk hv
 have HF := Aside0.mk hf
 clear hT hx hv hf
 go_enter Tryz.func73, Tryz.ntmps73
 go_wp2_with (fail)
 go_loopg [8] xs.length (fun g v8 wr => ∃ n : Nat, n ≤ xs.length ∧ g + n = xs.length ∧ v8 = .int .i64 n ∧ Aside0 ((xs.take n).any (fun m => !B.right m) = false ∧ Below w.heap.size w wr))
 case atStart => exact ⟨0, by omega, by omega, rfl, ⟨rfl, Below.refl _ _⟩⟩
 case round =>
  obtain ⟨n, hn2, hg, rfl, H⟩ := hrel
  obtain ⟨wx, rfl⟩ : ∃ wz : World, wz = wr := ⟨_, rfl⟩
  by_cases hlt : n < xs.length
  ·obtain ⟨x, hx⟩ : ∃ x, x = xs.getD n B.noMail := ⟨_, rfl⟩
   obtain ⟨ad, A1, c1, A2, c2, rfl, hm, hl⟩ := mail_at HX.out n hlt x hx
   have hm' := hm.on H.out.2
   obtain ⟨q0, q1, q2, q3, q4, q5, q6, q7⟩ := hm'
   have hlt' : (n : Int) < (xs.length : Int) := by omega
   have h0 : (0 : Int) ≤ (n : Int) := by omega
   have hfx : B.Fit x := HF.out _ (by rw [hx]; exact getD_mem xs n hlt _)
   have hcon := rightFn_any x A1 c1 A2 c2 wx (hl.on H.out.2) hfx (HV.out.go H.out.2)
   have hat := any_take xs (fun m => !B.right m) n hlt B.noMail
   rw [← hx, H.out.1, Bool.false_or] at hat
   have hT := any_true xs (fun m => !B.right m) n hlt B.noMail
   rw [← hx, ← HT.out] at hT
   cases hp : (!B.right x) with
   | true =>
    rw [hp] at hcon hT
    have HCO := Aside0.mk hcon
    have HTF := Aside0.mk (hT rfl)
    clear hT hp hx hm hl hcon hfx hat
    go_wp2_with (first | (go_at_call 42; (with_reducible refine Calls.mono HCO.out ?_); rintro e w1 ⟨rfl, h⟩; have H1 := Aside0.mk h; clear h))
    go_ret
    exact ⟨⟨n, rfl, by omega, by omega, fun _ => HTF.out, fun _ => by omega⟩, H.out.2.trans (H1.out.mono H.out.2.size)⟩
   | false =>
    rw [hp] at hcon hat
    have HCO := Aside0.mk hcon
    have HAT := Aside0.mk hat
    clear hT hp hx hm hl hcon hfx hat
    go_wp2_with (first | (go_at_call 42; (with_reducible refine Calls.mono HCO.out ?_); rintro e w1 ⟨rfl, h⟩; have H1 := Aside0.mk h; clear h))
    go_roundg (gk - 1)
    case measure => omega
    case rel => exact ⟨n + 1, by omega, by omega, by go_num, ⟨HAT.out, H.out.2.trans (H1.out.mono H.out.2.size)⟩⟩
  ·have hne : n = xs.length := by omega
   have hT : T = false := by
    have := H.out.1
    rw [hne, List.take_length] at this
    rw [HT.out, this]
   have HTF := Aside0.mk hT
   have t1 : decide ((n : Int) < (xs.length : Int)) = false := by simp; omega
   have t2 : decide (n < xs.length) = false := by simp; omega
   clear hT hne
   go_wp2_with (fail)
   go_ret
   exact ⟨⟨-1, rfl, by omega, by omega, (fun h => absurd h (by omega)), fun h => by rw [HTF.out] at h; cases h⟩, H.out.2⟩
theorem contMail_any (xs : List B.Mail) (A : Option Addr) (c : Nat) (w : World) (hx : kMail.C w A xs.length xs) (hn : xs.length ≤ 100000) (hf : ∀ m ∈ xs, B.Fit m) (hv : Vars w) :
  Calls Tryz.prog 44 #[.slice A xs.length c, .func (.func 42) #[] #[]] w fun e w' => e = .returned (.bool (xs.any (fun m => !B.right m))) ∧ Below w.heap.size w w' := by
 have HC := Aside0.mk (idxMail_any xs A c w hx hn hf hv)
 obtain ⟨T, hT⟩ : ∃ T, T = xs.any (fun m => !B.right m) := ⟨_, rfl⟩
 rw [← hT] at HC ⊢
 clear hT hx hv hf
 go_enter Tryz.func44, Tryz.ntmps44
 go_wp2_with (first | (go_at_call 73; (with_reducible refine Calls.mono HC.out ?_); rintro e w1 ⟨⟨k, rfl, hk0, hk1, hk⟩, h⟩; have H1 := Aside0.mk h; have HK := Aside0.mk hk; clear h hk))
 go_ret
 exact ⟨by rw [← idx_dec HK.out]; rfl, H1.out⟩
structure Bn (w : World) (b : B.Bundle) (A : Option Addr) (c : Nat) : Prop where
 cap : b.mails.length ≤ c
 rd : kMail.C w A b.mails.length b.mails
theorem Bn.on {w w' : World} {b : B.Bundle} {A : Option Addr} {c : Nat} (h : Bn w b A c) (hb : Below w.heap.size w w') : Bn w' b A c := ⟨h.cap, Kd.C_below h.rd hb⟩
structure B.FitB (b : B.Bundle) : Prop where
 n : b.mails.length ≤ 1000
 ms : ∀ m ∈ b.mails, B.Fit m
theorem check_all (b : B.Bundle) : B.check b = (decide (0 ≤ b.origin) && (decide (b.origin ≤ 1) && (decide (1 ≤ b.number) && (decide (b.number ≤ 65535) && (decide (1 ≤ b.mails.length) && (decide (b.mails.length ≤ 4) && !b.mails.any (fun m => !B.right m))))))) := by
 unfold B.check
 rw [List.all_eq_not_any_not]
set_option maxRecDepth 100000 in
set_option maxHeartbeats 4000000 in
theorem bcheck_any (b : B.Bundle) (A : Option Addr) (c : Nat) (w : World) (h : Bn w b A c) (hf : B.FitB b) (hv : Vars w) :
  Calls Tryz.prog 19 #[.agg #[.int .i64 b.origin, .int .i64 b.number, .slice A b.mails.length c]] w fun e w' => e = .returned (.int .i64 (errOf (B.check b))) ∧ Below w.heap.size w w' := by
 obtain ⟨T, hT⟩ : ∃ T, T = B.check b := ⟨_, rfl⟩
 rw [← hT]
 rw [check_all] at hT
 obtain ⟨d, hd⟩ : ∃ d, d = b.mails.any (fun m => !B.right m) := ⟨_, rfl⟩
 rw [← hd] at hT
 have hcm : ∀ W, Below w.heap.size w W → Calls Tryz.prog 44 #[.slice A b.mails.length c, .func (.func 42) #[] #[]] W fun e w' => e = .returned (.bool d) ∧ Below W.heap.size W w' := fun W hW => by rw [hd]; exact contMail_any b.mails A c W (h.on hW).rd (by have := hf.n; omega) hf.ms (hv.go hW)
 have HCM := Aside0.mk hcm
 have hbx : ∀ o, Below w.heap.size w (w.alloc o) := fun o => (Below.refl _ _).alloc (Nat.le_refl _) o
 have HBX := Aside0.mk hbx
 have hn := hf.n
 clear hcm hbx h hf hv hd
 obtain ⟨o, hO⟩ : ∃ o, o = b.origin := ⟨_, rfl⟩
 obtain ⟨k, hK⟩ : ∃ k, k = b.number := ⟨_, rfl⟩
 obtain ⟨n, hN⟩ : ∃ n, n = b.mails.length := ⟨_, rfl⟩
 rw [← hO, ← hK, ← hN] at hT
 rw [← hN] at HCM hn
 rw [← hO, ← hK, ← hN]
 clear hO hK hN
 by_cases t0 : 0 ≤ o
 ·have t0i : 0 ≤ o := by omega
  by_cases t1 : o ≤ 1
  ·have t1i : o ≤ 1 := by omega
   by_cases t2 : 1 ≤ k
   ·have t2i : 1 ≤ k := by omega
    by_cases t3 : k ≤ 65535
    ·have t3i : k ≤ 65535 := by omega
     by_cases t4 : 1 ≤ n
     ·have t4i : 1 ≤ (n : Int) := by omega
      by_cases t5 : n ≤ 4
      ·have t5i : (n : Int) ≤ 4 := by omega
       cases d with
       | true =>
        have HT := Aside0.mk (show T = false by rw [hT, decide_eq_true t0, decide_eq_true t1, decide_eq_true t2, decide_eq_true t3, decide_eq_true t4, decide_eq_true t5]; rfl)
        clear hT
        go_enter Tryz.func19, Tryz.ntmps19
        go_wp2_with (first | (go_at_call 44; (with_reducible refine Calls.mono (HCM.out _ (HBX.out _)) ?_); rintro r w1 ⟨rfl, h⟩; have H1 := Aside0.mk ((HBX.out _).trans (h.mono (by simp))); clear h))
        go_ret
        exact ⟨by rw [HT.out]; rfl, H1.out⟩
       | false =>
        have HT := Aside0.mk (show T = true by rw [hT, decide_eq_true t0, decide_eq_true t1, decide_eq_true t2, decide_eq_true t3, decide_eq_true t4, decide_eq_true t5]; rfl)
        clear hT
        go_enter Tryz.func19, Tryz.ntmps19
        go_wp2_with (first | (go_at_call 44; (with_reducible refine Calls.mono (HCM.out _ (HBX.out _)) ?_); rintro r w1 ⟨rfl, h⟩; have H1 := Aside0.mk ((HBX.out _).trans (h.mono (by simp))); clear h))
        go_ret
        exact ⟨by rw [HT.out]; rfl, H1.out⟩
      ·have t5i : 4 < (n : Int) := by omega
       have HT := Aside0.mk (show T = false by rw [hT, decide_eq_true t0, decide_eq_true t1, decide_eq_true t2, decide_eq_true t3, decide_eq_true t4, decide_eq_false t5]; rfl)
       clear hT
       go_enter Tryz.func19, Tryz.ntmps19
       go_wp2_with (fail)
       go_ret
       exact ⟨by rw [HT.out]; rfl, HBX.out _⟩
     ·have t4i : (n : Int) < 1 := by omega
      have HT := Aside0.mk (show T = false by rw [hT, decide_eq_true t0, decide_eq_true t1, decide_eq_true t2, decide_eq_true t3, decide_eq_false t4]; rfl)
      clear hT
      go_enter Tryz.func19, Tryz.ntmps19
      go_wp2_with (fail)
      go_ret
      exact ⟨by rw [HT.out]; rfl, HBX.out _⟩
    ·have t3i : 65535 < k := by omega
     have HT := Aside0.mk (show T = false by rw [hT, decide_eq_true t0, decide_eq_true t1, decide_eq_true t2, decide_eq_false t3]; rfl)
     clear hT
     go_enter Tryz.func19, Tryz.ntmps19
     go_wp2_with (fail)
     go_ret
     exact ⟨by rw [HT.out]; rfl, HBX.out _⟩
   ·have t2i : k < 1 := by omega
    have HT := Aside0.mk (show T = false by rw [hT, decide_eq_true t0, decide_eq_true t1, decide_eq_false t2]; rfl)
    clear hT
    go_enter Tryz.func19, Tryz.ntmps19
    go_wp2_with (fail)
    go_ret
    exact ⟨by rw [HT.out]; rfl, HBX.out _⟩
  ·have t1i : 1 < o := by omega
   have HT := Aside0.mk (show T = false by rw [hT, decide_eq_true t0, decide_eq_false t1]; rfl)
   clear hT
   go_enter Tryz.func19, Tryz.ntmps19
   go_wp2_with (fail)
   go_ret
   exact ⟨by rw [HT.out]; rfl, HBX.out _⟩
 ·have t0i : o < 0 := by omega
  have HT := Aside0.mk (show T = false by rw [hT, decide_eq_false t0]; rfl)
  clear hT
  go_enter Tryz.func19, Tryz.ntmps19
  go_wp2_with (fail)
  go_ret
  exact ⟨by rw [HT.out]; rfl, HBX.out _⟩
end Go.Proofs.YtpfmnkpmidjfjaaGreatDoor
/- What bundle's commands answers. -/
namespace Go.Proofs.YtpfmnkpmidjfjaaGreatDoor
open Go.RowKit Go.Lib
open Go.Proofs.YtpfmnkpmidjfjaaGreatDoorW.PrintWords
set_option linter.unusedVariables false
set_option linter.unusedSimpArgs false
theorem Bd.own {b : Nat} {w0 w : World} {v : Value} {xs : B.Bs} (h : Bd b w0 w v xs) : w.ownsRow b 5 1 v (nb xs).length (nums .u8 (nb xs)) := Kd.own_of_R h.ow
theorem bd_append_str {ops : Array Oper} {rest : List Oper} {o : Oper} {a : Act} {Q : Exit → Act → World → Prop} {w0 W : World} {b : Nat} (hg : o.guard = none) (s x : Operand)
  (ho : o.op = .call { callee := .builtin .append, args := #[s, x], argTypes := #[25, 9] }) (v : Value) (xs ys : B.Bs)
  (hs : a.eval s = v) (hx : a.eval x = .string (str ys)) (h : Bd b w0 W v xs) (hlen : xs.length + ys.length ≤ 100000000000000)
  (k : ∀ v1 w1, Bd b w0 w1 v1 (xs ++ ys) → W.grownBy w1 v.ownBlock → wpList Tryz.prog ops Q rest (a.put o.dst v1) w1) : wpList Tryz.prog ops Q (o :: rest) a W := by
 refine print_append_str (w0 := w0) b hg s x 25 9 5 ho Tryz.underlying25 Tryz.underlying9 infoU8 v (nb xs) (str ys) hs hx h.own h.be h.sz (by rw [nb_length, str_size]; omega) ?_
 intro v1 w1 h1 h2 h3
 refine k v1 w1 ⟨h2, ?_, Nat.le_trans h.sz h3.size⟩ h3
 have e : Go.Proofs.YtpfmnkpmidjfjaaGreatDoorW.PrintWords.bytesOf (str ys) = nb ys := by
  show nb (lst (str ys)) = nb ys
  rw [lst_str]
 rw [e, ← nb_append] at h1
 exact Kd.R_of_own h1 (fun _ _ => trivial)
theorem bd_append2 {ops : Array Oper} {rest : List Oper} {o : Oper} {a : Act} {Q : Exit → Act → World → Prop} {w0 W : World} {b : Nat} (hg : o.guard = none) (s x : Operand)
  (ho : o.op = .call { callee := .builtin .append, args := #[s, x], argTypes := #[25, 25] }) (v : Value) (xs ys : B.Bs) (A : Option Addr) (n c : Nat)
  (hs : a.eval s = v) (hx : a.eval x = .slice A n c) (hn : n = ys.length) (h : Bd b w0 W v xs) (hy : Bt W A c ys) (hlen : xs.length + ys.length ≤ 100000000000000)
  (k : ∀ v1 w1, Bd b w0 w1 v1 (xs ++ ys) → W.grownBy w1 v.ownBlock → (v1.ownBlock = v.ownBlock ∨ ∃ b, v1.ownBlock = some b ∧ W.heap.size ≤ b) → wpList Tryz.prog ops Q rest (a.put o.dst v1) w1) : wpList Tryz.prog ops Q (o :: rest) a W := by
 subst hn
 refine Kd.R_append_rows kb (w0 := w0) b hg s x 25 5 (.int .u8 0) 1 ho Tryz.underlying25 infoU8 rfl (by decide) (by omega) v (nb xs) (nb ys) A (nb ys).length c (fun _ => True) (fun _ => False) hs (by rw [nb_length]; exact hx) h.ow hy.rd (fun _ _ h => h) (fun _ h => h.elim) (fun _ _ => trivial) h.be h.sz (by rw [nb_length, nb_length]; omega) ?_
 intro v1 w1 h1 h2 h3 h4
 refine k v1 w1 ⟨h2, ?_, Nat.le_trans h.sz h3.size⟩ h3 h4
 unfold Ow
 rw [nb_append]
 exact h1
theorem Ow.grown {b0 : Nat} {W w1 : World} {v : Value} {xs : B.Bs} (h : Ow b0 W v xs) {row : Option Nat} (hg : W.grownBy w1 row) (hr : ∀ k, row = some k → k < b0) : Ow b0 w1 v xs :=
 Kd.R_mono (Kd.R_move (Kd.R_bound h) (fun k hk => hg.block k hk.2.2.1 (fun e => by have := hr k e.symm; omega))) (fun _ _ => trivial)
theorem Bd.row {b : Nat} {w0 W w1 : World} {v : Value} {xs : B.Bs} (h : Bd b w0 W v xs) (hg : W.grownBy w1 v.ownBlock) {g t : Nat} {cells : Array Value} (ht : 5 ≠ t) (hr : W.heap[g]? = some (.cells cells t (0, 0))) : w1.heap[g]? = some (.cells cells t (0, 0)) :=
 (hg.block g (Array.getElem?_eq_some_iff.1 hr).1 (Kd.R_ne h.ow hr ht)).trans hr
theorem row_on {w w' : World} (h : Below w.heap.size w w') {g : Nat} {o : Obj} (hr : w.heap[g]? = some o) : w'.heap[g]? = some o :=
 (h.block g (Array.getElem?_eq_some_iff.1 hr).1).trans hr
theorem Ow.bt' {b0 : Nat} {w : World} {A : Option Addr} {n c : Nat} {l : B.Bs} (h : Ow b0 w (.slice A n c) l) : Bt w A c l := by
 obtain ⟨A', c', e, hb⟩ := Ow.bt h
 injection e with e1 e2 e3
 subst e1
 subst e3
 exact hb
theorem stuff_at {A : Option Addr} {c : Nat} {l : B.Bs} (w : World) (hb : Bt w A c l) (hl : l.length ≤ 1000000) (hv : Vars w) :
  Calls Tryz.prog 52 #[.slice A l.length c] w fun e w' => (∃ A' n c' k, e = .returned (.tuple #[.slice A' n c', .int .i64 k]) ∧ n = (if B.body l then B.stuff l else []).length ∧ Ow w.heap.size w' (.slice A' n c') (if B.body l then B.stuff l else [])) ∧ Below w.heap.size w w' := by
 refine (stuff_any w hb hl hv).mono ?_
 rintro e w' ⟨h1, h2⟩
 refine ⟨?_, h2⟩
 cases hB : B.body l with
 | true =>
  rw [hB, if_pos rfl] at h1
  obtain ⟨v, rfl, h⟩ := h1
  obtain ⟨A', c', rfl, _⟩ := Ow.bt h
  exact ⟨A', _, c', 0, rfl, rfl, h⟩
 | false =>
  rw [hB, if_neg (by decide)] at h1
  exact ⟨none, 0, 0, 5, h1, rfl, Ow.none _ _⟩
theorem box_len {p : V.Path} (h : B.fitP p) : (B.box p).length ≤ 200010 := by
 unfold B.box V.ptext
 have := h.1
 have := h.2
 split
 ·split <;> simp <;> omega
 ·simp
theorem dotted_len (x : B.Bs) : (B.dotted x).length ≤ x.length + 3 := by
 unfold B.dotted
 split <;> simp [B.crlf]
theorem stuff_len {l : B.Bs} (h : l.length ≤ 100000) : (B.stuff l).length ≤ 10001000000 := by
 have hle := lines_len l
 have h1 := flat_len B.dotted 100003 (B.lines l) (fun x hx => by have := hle.2 x hx; have := dotted_len x; omega)
 have h2 : (B.lines l).length * 100003 ≤ 100000 * 100003 := Nat.mul_le_mul_right _ (by omega)
 unfold B.stuff
 rw [List.length_append]
 have h3 : ([46, 13, 10] : B.Bs).length = 3 := rfl
 omega
theorem toLine_len {p : V.Path} (h : B.fitP p) : (B.toLine p).length ≤ 200020 := by
 have := box_len h
 unfold B.toLine
 simp [B.wTo, B.crlf]
 omega
theorem tos_len {l : List V.Path} (h : ∀ p ∈ l, B.fitP p) (hn : l.length ≤ 100000) : (l.flatMap B.toLine).length ≤ 20002000000 := by
 have h1 := flat_len B.toLine 200020 l (fun x hx => toLine_len (h x hx))
 have h2 : l.length * 200020 ≤ 100000 * 200020 := Nat.mul_le_mul_right _ hn
 omega
theorem mail_len {m : B.Mail} (h : B.Fit m) : (B.mailBytes m).length ≤ 40000000000 := by
 have h1 := box_len h.frm
 have h2 := tos_len h.tos h.n
 have h3 := stuff_len h.body
 unfold B.mailBytes
 simp only [List.length_append]
 have h4 : (if B.body m.body then B.stuff m.body else []).length ≤ 10001000000 := by
  split
  ·exact h3
  ·simp
 have h5 : B.wFrom.length = 10 := rfl
 have h6 : B.crlf.length = 2 := rfl
 have h7 : B.wData.length = 6 := rfl
 omega
theorem mails_len {l : List B.Mail} (h : ∀ m ∈ l, B.Fit m) (hn : l.length ≤ 1000) : (l.flatMap B.mailBytes).length ≤ 40000000000000 := by
 have h1 := flat_len B.mailBytes 40000000000 l (fun x hx => mail_len (h x hx))
 have h2 : l.length * 40000000000 ≤ 1000 * 40000000000 := Nat.mul_le_mul_right _ hn
 omega
theorem kat {a b : V.Bs} {x y : ByteArray} (hx : x = str a) (hy : y = str b) (ha : a.length ≤ 1000000) (hb : b.length ≤ 1000000) : ∀ w, (Op.stringOp .add x y).run Tryz.prog w = .ok (.string (str (a ++ b))) w := fun w =>
 cat_run x y (str (a ++ b)) (by rw [hx, hy, str_append]) (by rw [hx, str_size]; exact ha) (by rw [hy, str_size]; exact hb) w
set_option maxRecDepth 100000 in
set_option maxHeartbeats 8000000 in
theorem commands_any (b : B.Bundle) (A : Option Addr) (c : Nat) (w : World) (h : Bn w b A c) (hf : B.FitB b) (hv : Vars w) :
  Calls Tryz.prog 30 #[.agg #[.int .i64 b.origin, .int .i64 b.number, .slice A b.mails.length c]] w fun e w' => (∃ v, e = .returned v ∧ Ow w.heap.size w' v (B.commands b.mails)) ∧ Below w.heap.size w w' := by
 have HB := Aside0.mk h
 have HF := Aside0.mk hf
 have HV := Aside0.mk hv
 obtain ⟨ms, hms⟩ : ∃ ms, ms = b.mails := ⟨_, rfl⟩
 have hrd := h.rd
 have hfm := hf.ms
 have hfn := hf.n
 rw [← hms] at hrd hfm hfn ⊢
 have HR := Aside0.mk hrd
 have HM := Aside0.mk hfm
 clear h hf hv hms hrd hfm HB HF
 go_enter Tryz.func30, Tryz.ntmps30
 go_wp2_with (fail)
 go_loopg [3, 17] ms.length (fun gf v3 v17 wr => ∃ (n : Nat), v17 = .int .i64 n ∧ n ≤ ms.length ∧ gf + n = ms.length ∧ Aside0 (Bd w.heap.size w wr v3 ((ms.take n).flatMap B.mailBytes)))
 case atStart => exact ⟨0, rfl, by omega, by omega, ⟨(Bd.none w).alloc _⟩⟩
 case round =>
  obtain ⟨n, rfl, hn, hg, H⟩ := hrel
  obtain ⟨wx, rfl⟩ : ∃ wz : World, wz = wr := ⟨_, rfl⟩
  obtain ⟨go, rfl⟩ : ∃ z : Nat, z = gk := ⟨_, rfl⟩
  obtain ⟨out, hout⟩ : ∃ out, out = (ms.take n).flatMap B.mailBytes := ⟨_, rfl⟩
  rw [← hout] at H
  obtain ⟨A6, c6, rfl, hb6⟩ := Ow.bt H.out.ow
  have hol : out.length ≤ 40000000000000 := by
   rw [hout]
   exact mails_len (fun m hm => HM.out m (List.mem_of_mem_take hm)) (by rw [List.length_take]; omega)
  have HOL := Aside0.mk hol
  have HOUT := Aside0.mk hout
  clear hol hout hb6
  by_cases hlt : n < ms.length
  ·obtain ⟨m, hm⟩ : ∃ m, m = ms.getD n B.noMail := ⟨_, rfl⟩
   obtain ⟨ad, A1, c1, A2, c2, rfl, hmc, hml⟩ := mail_at HR.out n hlt m hm
   obtain ⟨q0, q1, q2, q3, q4, q5, q6, q7⟩ := hmc.on H.out.be
   have hlt' : (n : Int) < (ms.length : Int) := by omega
   have h0 : (0 : Int) ≤ (n : Int) := by omega
   have hfx : B.Fit m := HM.out _ (by rw [hm]; exact getD_mem ms n hlt _)
   have HFX := Aside0.mk hfx
   have HML := Aside0.mk hml
   have hft := flat_take B.mailBytes ms n hlt B.noMail
   rw [← hm, ← HOUT.out] at hft
   have HFT := Aside0.mk hft
   clear hm hmc hml hft hfx
   obtain ⟨bx, hbx⟩ : ∃ bx, bx = B.box m.frm := ⟨_, rfl⟩
   have hbl := box_len HFX.out.frm
   rw [← hbx] at hbl
   have hpt : ∀ W, Below w.heap.size w W → Calls Tryz.prog 51 #[.agg #[.bool m.frm.null, .string (str m.frm.loc), .string (str m.frm.dom)]] W fun e w' => e = .returned (.tuple #[.string (str bx), .int .i64 (errOf (V.check m.frm))]) ∧ Below W.heap.size W w' := fun W hW => by rw [hbx]; exact ptext_at m.frm W HFX.out.frm (HV.out.go hW)
   have HPT := Aside0.mk hpt
   have k1 := kat (a := B.wFrom) (b := bx) (x := ⟨#[77, 65, 73, 76, 32, 70, 82, 79, 77, 58]⟩) (y := str bx) rfl rfl (by decide) (by omega)
   have k2 := kat (a := B.wFrom ++ bx) (b := [13, 10]) (x := str (B.wFrom ++ bx)) (y := ⟨#[13, 10]⟩) rfl rfl (by have : B.wFrom.length = 10 := rfl; rw [List.length_append]; omega) (by decide)
   obtain ⟨s1, hs1⟩ : ∃ s1, s1 = str (B.wFrom ++ bx) := ⟨_, rfl⟩
   obtain ⟨l2, hl2⟩ : ∃ l2, l2 = B.wFrom ++ bx ++ [13, 10] := ⟨_, rfl⟩
   have hl2l : l2.length ≤ 300000 := by have : B.wFrom.length = 10 := rfl; rw [hl2, List.length_append, List.length_append]; simp; omega
   rw [← hs1] at k1 k2
   rw [← hl2] at k2
   have HL2 := Aside0.mk hl2l
   have HLL := Aside0.mk (show l2 = B.wFrom ++ B.box m.frm ++ B.crlf by rw [hl2, hbx]; rfl)
   have hrow0 : (wx.alloc (.cells #[.bool m.frm.null, .string (str m.frm.loc), .string (str m.frm.dom), .slice A1 m.to.length c1, .slice A2 m.body.length c2, .bool m.quiet, .string (str m.helo), .int .i64 m.tm] 46)).heap[wx.heap.size]? = some (.cells #[.bool m.frm.null, .string (str m.frm.loc), .string (str m.frm.dom), .slice A1 m.to.length c1, .slice A2 m.body.length c2, .bool m.quiet, .string (str m.helo), .int .i64 m.tm] 46 (0, 0)) := heap_alloc_new _ _
   have HROW0 := Aside0.mk hrow0
   clear hpt hbx hbl hs1 hl2 hl2l hrow0
   go_wp2_with (first | (go_at_call 51; (with_reducible refine Calls.mono (HPT.out _ (H.out.alloc _).be) ?_); rintro r w1 ⟨rfl, h⟩; have HD1 := Aside0.mk ((H.out.alloc _).go h); have HR1 := Aside0.mk (row_on h HROW0.out); clear h) | ((with_reducible refine gate_builtin (b := .append) (xs := #[.tmp 27, .tmp 30]) rfl ?_); at_builtin; refine bd_append_str rfl (.tmp 27) (.tmp 30) rfl _ _ l2 rfl rfl HD1.out (by have := HOL.out; have := HL2.out; omega) ?_; intro v1 w2 h hg; have HD2 := Aside0.mk h; have HR2 := Aside0.mk (HD1.out.row hg (by decide) HR1.out); clear h hg; obtain ⟨d0, d1, d2, d3, d4, d5, d6, d7⟩ := (Mcells.of_row HR2.out).flat))
   go_loopg [3, 35] m.to.length (fun gf v3 v35 wr => ∃ (k : Nat), v35 = .int .i64 k ∧ k ≤ m.to.length ∧ gf + k = m.to.length ∧ Aside0 (Bd w.heap.size w wr v3 (out ++ l2 ++ (m.to.take k).flatMap B.toLine) ∧ wr.heap[wx.heap.size]? = some (.cells #[.bool m.frm.null, .string (str m.frm.loc), .string (str m.frm.dom), .slice A1 m.to.length c1, .slice A2 m.body.length c2, .bool m.quiet, .string (str m.helo), .int .i64 m.tm] 46 (0, 0))))
   case atStart => exact ⟨0, rfl, by omega, by omega, ⟨by simpa using HD2.out, HR2.out⟩⟩
   case round =>
    obtain ⟨k, rfl, hk, hgk, H3⟩ := hrel
    obtain ⟨wy, rfl⟩ : ∃ wz : World, wz = wr := ⟨_, rfl⟩
    obtain ⟨out3, hout3⟩ : ∃ out3, out3 = out ++ l2 ++ (m.to.take k).flatMap B.toLine := ⟨_, rfl⟩
    rw [← hout3] at H3
    have hol3 : out3.length ≤ 61000000000000 := by
     have h1 := tos_len (l := m.to.take k) (fun p hp => HFX.out.tos p (List.mem_of_mem_take hp)) (by rw [List.length_take]; have := HFX.out.n; omega)
     have := HOL.out
     have := HL2.out
     rw [hout3]
     simp only [List.length_append]
     omega
    have HOL3 := Aside0.mk hol3
    have HOUT3 := Aside0.mk hout3
    obtain ⟨A7, c7, rfl, hb7⟩ := Ow.bt H3.out.1.ow
    have hcv := Mcells.of_row H3.out.2
    obtain ⟨f0, f1, f2, f3, f4, f5, f6, f7⟩ := hcv.flat
    clear hol3 hout3 hb7 hcv q0 q1 q2 q3 q4 q5 q6 q7 k1 k2
    have hto : m.to.length ≤ 100000 := HFX.out.n
    by_cases hkl : k < m.to.length
    ·obtain ⟨p, hp⟩ : ∃ p, p = m.to.getD k V.noPath := ⟨_, rfl⟩
     obtain ⟨ad1, rfl, hp0, hp1, hp2⟩ := path_at HML.out.tos k hkl p hp
     have g0 := cell_up H3.out.1.be hp0
     have g1 := cell_up H3.out.1.be hp1
     have g2 := cell_up H3.out.1.be hp2
     have hkl' : (k : Int) < (m.to.length : Int) := by omega
     have hk0 : (0 : Int) ≤ (k : Int) := by omega
     have hfp : B.fitP p := HFX.out.tos _ (by rw [hp]; exact getD_mem m.to k hkl _)
     have hft := flat_take B.toLine m.to k hkl V.noPath
     rw [← hp] at hft
     have HFK := Aside0.mk hft
     obtain ⟨by2, hby⟩ : ∃ by2, by2 = B.box p := ⟨_, rfl⟩
     have hbl := box_len hfp
     rw [← hby] at hbl
     have hpt : ∀ W, Below w.heap.size w W → Calls Tryz.prog 51 #[.agg #[.bool p.null, .string (str p.loc), .string (str p.dom)]] W fun e w' => e = .returned (.tuple #[.string (str by2), .int .i64 (errOf (V.check p))]) ∧ Below W.heap.size W w' := fun W hW => by rw [hby]; exact ptext_at p W hfp (HV.out.go hW)
     have HPT2 := Aside0.mk hpt
     have k1 := kat (a := B.wTo) (b := by2) (x := ⟨#[82, 67, 80, 84, 32, 84, 79, 58]⟩) (y := str by2) rfl rfl (by decide) (by omega)
     have k2 := kat (a := B.wTo ++ by2) (b := [13, 10]) (x := str (B.wTo ++ by2)) (y := ⟨#[13, 10]⟩) rfl rfl (by have : B.wTo.length = 8 := rfl; rw [List.length_append]; omega) (by decide)
     obtain ⟨s3, hs3⟩ : ∃ s3, s3 = str (B.wTo ++ by2) := ⟨_, rfl⟩
     obtain ⟨l4, hl4⟩ : ∃ l4, l4 = B.wTo ++ by2 ++ [13, 10] := ⟨_, rfl⟩
     have hl4l : l4.length ≤ 300000 := by have : B.wTo.length = 8 := rfl; rw [hl4, List.length_append, List.length_append]; simp; omega
     rw [← hs3] at k1 k2
     rw [← hl4] at k2
     have HL4 := Aside0.mk hl4l
     have HLL4 := Aside0.mk (show l4 = B.toLine p by rw [hl4, hby]; rfl)
     have hrow1 : ∀ o, (wy.alloc o).heap[wx.heap.size]? = some (.cells #[.bool m.frm.null, .string (str m.frm.loc), .string (str m.frm.dom), .slice (some ad1) m.to.length c1, .slice A2 m.body.length c2, .bool m.quiet, .string (str m.helo), .int .i64 m.tm] 46 (0, 0)) := fun o => row_on ((Below.refl _ _).alloc (Nat.le_refl _) _) H3.out.2
     have HROW1 := Aside0.mk hrow1
     clear hpt hby hbl hs3 hl4 hl4l hrow1 hft hp hp0 hp1 hp2 hfp f0 f1 f2 f3 f4 f5 f6 f7 hkl d0 d1 d2 d3 d4 d5 d6 d7
     go_wp2_with (first | (go_at_call 51; (with_reducible refine Calls.mono (HPT2.out _ (H3.out.1.alloc _).be) ?_); rintro r w4 ⟨rfl, h⟩; have HD4 := Aside0.mk ((H3.out.1.alloc _).go h); have HR4 := Aside0.mk (row_on h (HROW1.out _)); clear h) | ((with_reducible refine gate_builtin (b := .append) (xs := #[.tmp 44, .tmp 47]) rfl ?_); at_builtin; refine bd_append_str rfl (.tmp 44) (.tmp 47) rfl _ _ l4 rfl rfl HD4.out (by have := HOL3.out; have := HL4.out; omega) ?_; intro v5 w5 h hg; have HD5 := Aside0.mk h; have HR5 := Aside0.mk (HD4.out.row hg (by decide) HR4.out); clear h hg))
     go_roundg (gk - 1)
     case measure => omega
     case rel =>
      refine ⟨k + 1, by go_num, by omega, by omega, ⟨?_, HR5.out⟩⟩
      have h5 := HD5.out
      rw [HOUT3.out, HLL4.out] at h5
      rw [HFK.out]
      simpa using h5
    ·have hke : k = m.to.length := by omega
     have t1 : decide ((k : Int) < (m.to.length : Int)) = false := by simp; omega
     have t2 : decide (k < m.to.length) = false := by simp; omega
     obtain ⟨st, hst⟩ : ∃ st, st = if B.body m.body then B.stuff m.body else [] := ⟨_, rfl⟩
     have hsl : st.length ≤ 10001000000 := by
      rw [hst]
      split
      ·exact stuff_len HFX.out.body
      ·simp
     have hsf : ∀ W, Below w.heap.size w W → Calls Tryz.prog 52 #[.slice A2 m.body.length c2] W fun e w' => (∃ A' n c' k, e = .returned (.tuple #[.slice A' n c', .int .i64 k]) ∧ n = st.length ∧ Ow W.heap.size w' (.slice A' n c') st) ∧ Below W.heap.size W w' := fun W hW => by rw [hst]; exact stuff_at W (HML.out.body.on hW) (by have := HFX.out.body; omega) (HV.out.go hW)
     have HSF := Aside0.mk hsf
     have HST := Aside0.mk hst
     have HSL := Aside0.mk hsl
     have h6 : out3 ++ [68, 65, 84, 65, 13, 10] ++ st = out ++ B.mailBytes m := by
      rw [HOUT3.out, hke, List.take_length, HLL.out, hst]
      unfold B.mailBytes B.wData
      simp only [List.append_assoc]
     have HEQ := Aside0.mk h6
     clear hst hsl hsf hke h6 hkl
     go_wp2_with (first | (go_at_call 52; (with_reducible refine Calls.mono (HSF.out _ H3.out.1.be) ?_); rintro r w6 ⟨⟨A8, n8, c8, e8, rfl, hn8, ho8⟩, h⟩; have HD6 := Aside0.mk (H3.out.1.go h); have HO6 := Aside0.mk ho8; have HN8 := Aside0.mk hn8; clear h ho8 hn8) | ((with_reducible refine gate_builtin (b := .append) (xs := #[.tmp 56, .const (.string { data := #[68, 65, 84, 65, 13, 10] })]) rfl ?_); at_builtin; refine bd_append_str rfl (.tmp 56) (.const (.string { data := #[68, 65, 84, 65, 13, 10] })) rfl _ _ [68, 65, 84, 65, 13, 10] rfl rfl HD6.out (by have := HOL3.out; simp; omega) ?_; intro v7 w7 h hg; have HD7 := Aside0.mk h; have HO7 := Aside0.mk (HO6.out.grown hg (fun k hk => Kd.R_lt H3.out.1.ow k hk)); clear h hg) | ((with_reducible refine gate_builtin (b := .append) (xs := #[.tmp 57, .tmp 58]) rfl ?_); at_builtin; refine bd_append2 rfl (.tmp 57) (.tmp 58) rfl _ _ st A8 _ c8 rfl rfl HN8.out HD7.out (Ow.bt' HO7.out) (by have := HOL3.out; have := HSL.out; simp; omega) ?_; intro v9 w9 h _ _; have HD9 := Aside0.mk h; clear h))
     go_roundg (go - 1)
     case measure => omega
     case rel =>
      refine ⟨n + 1, by go_num, by omega, by omega, ⟨?_⟩⟩
      have h9 := HD9.out
      rw [HEQ.out] at h9
      rw [HFT.out]
      exact h9
  ·have hne : n = ms.length := by omega
   have t1 : decide ((n : Int) < (ms.length : Int)) = false := by simp; omega
   have t2 : decide (n < ms.length) = false := by simp; omega
   have h6 : out ++ [81, 85, 73, 84, 13, 10] = B.commands ms := by
    rw [HOUT.out, hne, List.take_length]
    rfl
   have HEQ := Aside0.mk h6
   clear hne h6 hlt
   go_wp2_with (first | ((with_reducible refine gate_builtin (b := .append) (xs := #[.tmp 61, .const (.string { data := #[81, 85, 73, 84, 13, 10] })]) rfl ?_); at_builtin; refine bd_append_str rfl (.tmp 61) (.const (.string { data := #[81, 85, 73, 84, 13, 10] })) rfl _ _ [81, 85, 73, 84, 13, 10] rfl rfl H.out (by have := HOL.out; simp; omega) ?_; intro v7 w7 h hg; have HD7 := Aside0.mk h; clear h hg))
   go_ret
   refine ⟨⟨_, rfl, ?_⟩, HD7.out.be⟩
   have h7 := HD7.out.ow
   rw [HEQ.out] at h7
   exact h7
end Go.Proofs.YtpfmnkpmidjfjaaGreatDoor
/- What bundle's Bytes answers. -/
namespace Go.Proofs.YtpfmnkpmidjfjaaGreatDoor
open Go.RowKit Go.Lib
open Go.Proofs.YtpfmnkpmidjfjaaGreatDoorW.PrintWords
set_option linter.unusedVariables false
set_option linter.unusedSimpArgs false
structure Fr (b : Nat) (w : World) (A : Option Addr) (c : Nat) (l : B.Bs) : Prop where
 bt : Bt w A c l
 new : ∀ a, A = some a → b ≤ a.block ∧ a.spot = none
 free : ∀ a i, A = some a → i < l.length → w.frozen? (a.add i) = false
theorem add_zero' (g i : Nat) : (⟨g, 0, none⟩ : Addr).add i = ⟨g, i, none⟩ := Go.Proofs.YtpfmnkpmidjfjaaGreatDoorW.PrintWords.add_plain g i
theorem below_setC {B g : Nat} {a w : World} (hg : B ≤ g) (h : Below B a w) (vs : List Value) (o : Nat) : Below B a (w.setCells g o vs) := by
 obtain ⟨h1, h2, h3, h4⟩ := setCells_same g vs o w
 exact ⟨h1.trans h.os, h2.trans h.tape, h3.trans h.output, by rw [h4]; exact h.size, fun k hk => (setCells_far vs o k (by omega)).trans (h.block k hk)⟩
theorem Ow.fr {b : Nat} {w : World} {v : Value} {l : B.Bs} (h : Ow b w v l) : ∃ A c, v = .slice A l.length c ∧ Fr b w A c l := by
 obtain ⟨A, c, rfl, hb⟩ := h.bt
 refine ⟨A, c, rfl, hb, ?_, ?_⟩
 ·rintro a rfl
  obtain ⟨inner, _, h2⟩ := Kd.R_own h
  rcases h2 with ⟨h2, _⟩ | ⟨g, cap, cur, h2, hb2, _⟩
  ·cases h2
  ·injection h2 with h3 _ _
   injection h3 with h3
   rw [h3]
   exact ⟨hb2, rfl⟩
 ·rintro a i rfl hi
  obtain ⟨inner, _, h2⟩ := Kd.R_own h
  rcases h2 with ⟨h2, _⟩ | ⟨g, cap, cur, h2, hb2, hr, _⟩
  ·cases h2
  ·injection h2 with h3 _ _
   injection h3 with h3
   rw [h3, add_zero']
   exact unfroz hr i
theorem conv_append {ops : Array Oper} {rest : List Oper} {o : Oper} {a : Act} {Q : Exit → Act → World → Prop} {W : World} (hg : o.guard = none) (s x : Operand)
  (ho : o.op = .call { callee := .builtin .append, args := #[s, x], argTypes := #[25, 25] }) (t ys : B.Bs) (A : Option Addr) (n c : Nat)
  (hs : a.eval s = .slice (some ⟨W.heap.size, 0, none⟩) (str t).size (grownCap W (str t).size 0 5)) (hx : a.eval x = .slice A n c) (hn : n = ys.length) (hy : Bt W A c ys) (hp : 0 < ys.length) (hlen : t.length + ys.length ≤ 100000000000000) (N : Nat) (hN : N = (t ++ ys).length)
  (k : ∀ A1 c1 w1, Fr W.heap.size w1 A1 c1 (t ++ ys) → Below W.heap.size W w1 → wpList Tryz.prog ops Q rest (a.put o.dst (.slice A1 N c1)) w1) : wpList Tryz.prog ops Q (o :: rest) a (Lib.bytesWorld W 5 (str t)) := by
 subst hN
 obtain ⟨cp, hcp⟩ : ∃ cp, cp = grownCap W (str t).size 0 5 := ⟨_, rfl⟩
 have hge : t.length ≤ cp := by have := grownCap_ge W (str t).size 0 5; rw [str_size] at this; rw [hcp, str_size]; exact this
 have hle : cp ≤ maxLen := by rw [hcp]; exact grownCap_le_maxLen W _ 0 _ (by rw [str_size]; unfold maxLen; omega)
 have hbw := bytesWorld_below W 5 (str t)
 have hrow := bytesWorld_at_new W 5 (str t)
 have hcs : (bytesCells W 5 (str t)).size = cp := by
  unfold bytesCells
  rw [Array.size_append, Array.size_map, Array.size_replicate]
  have : (str t).data.size = (str t).size := rfl
  rw [this, ← hcp, str_size]
  omega
 rw [hcs] at hrow
 obtain ⟨ad, rfl, hyc⟩ := hy.cells hp
 obtain ⟨i0, hi, hzz⟩ := Option.map_eq_some_iff.1 infoU8
 simp only [Prod.mk.injEq] at hzz
 obtain ⟨hz0, hz1, hz2⟩ := hzz
 have hold : ∀ j u, ((nb t).map (Value.int .u8))[j]? = some u → (bytesWorld W 5 (str t)).cell? ⟨W.heap.size, 0 + j, none⟩ = some u := by
  intro j u hu
  have hj : j < t.length := by
   have := (List.getElem?_eq_some_iff.1 hu).1
   rw [List.length_map, nb_length] at this
   exact this
  rw [Nat.zero_add, bytesWorld_cell W 5 (str t) j (by rw [str_size]; exact hj), ← hu]
  rw [List.getElem?_map]
  show some (Value.int .u8 (((lst (str t)).getD j 0).toNat : Int)) = _
  rw [lst_str]
  unfold nb
  rw [List.getElem?_map, List.getD_eq_getElem?_getD, List.getElem?_eq_getElem hj]
  rfl
 have hnew : ∀ j u, ((nb ys).map (Value.int .u8))[j]? = some u → (bytesWorld W 5 (str t)).cell? (ad.add j) = some u := by
  intro j u hu
  have hj : j < ys.length := by
   have := (List.getElem?_eq_some_iff.1 hu).1
   rw [List.length_map, nb_length] at this
   exact this
  have h1 := cell_up hbw (hyc j hj)
  rw [h1, ← hu, List.getElem?_map]
  rw [List.getD_eq_getElem?_getD, List.getElem?_eq_getElem (by rw [nb_length]; exact hj)]
  rfl
 have hs' : a.eval s = .slice (some ⟨W.heap.size, 0, none⟩) t.length cp := by rw [hs, ← hcp, str_size]
 have hone : ∀ u ∈ (nb ys).map (Value.int .u8), u.oneCell' = true := by
  intro u hu
  obtain ⟨z, _, rfl⟩ := List.mem_map.1 hu
  rfl
 refine wpList_append_arg _ hg s x 25 ho 5 i0 (.int .u8 0) 1 1 Tryz.underlying25 hi hz0 hz1 hz2 rfl (by decide) W.heap.size 0 t.length cp ((nb t).map (Value.int .u8)) hs' (by rw [List.length_map, nb_length, Nat.mul_one]) hold ad ys.length c ((nb ys).map (Value.int .u8)) (by rw [hx, hn]) (by rw [List.length_map, nb_length, Nat.mul_one]) hnew hone ?_ (by unfold maxLen; omega) (by omega) ?_ ?_
 ·intro hroom j hj
  rw [List.length_map, nb_length] at hj
  rw [Nat.zero_add, Nat.mul_one]
  refine ⟨?_, ?_⟩
  ·rw [cell_of_row _ _ _ _ _ _ hrow, Array.getElem?_eq_getElem (by rw [hcs]; omega)]
   rfl
  ·simp [World.frozen?, hrow]
   omega
 ·intro hroom
  rw [Nat.zero_add, Nat.mul_one]
  have hlen2 : t.length + ys.length = (t ++ ys).length := by rw [List.length_append]
  rw [hlen2]
  have hiss : ∀ j, j < ((nb ys).map (Value.int .u8)).length → ((bytesWorld W 5 (str t)).cell? ⟨W.heap.size, t.length + j, none⟩).isSome = true := by
   intro j hj
   rw [List.length_map, nb_length] at hj
   rw [cell_of_row _ _ _ _ _ _ hrow, Array.getElem?_eq_getElem (by rw [hcs]; omega)]
   rfl
  refine k (some ⟨W.heap.size, 0, none⟩) cp _ ⟨⟨⟨rfl, ?_, fun _ => ⟨_, rfl, ?_⟩⟩, ?_, fun e => by cases e⟩, ?_, ?_⟩ ?_
  ·rw [nb_length, List.length_append]; omega
  ·intro j p hp2
   refine ⟨[.int .u8 p], rfl, rfl, ?_⟩
   intro i u hu
   cases i with
   | succ i => simp at hu
   | zero =>
    obtain rfl : Value.int .u8 p = u := by simpa using hu
    show World.cell? _ ((⟨W.heap.size, 0, none⟩ : Addr).add (j * 1 + 0)) = _
    rw [Nat.mul_one, Nat.add_zero, add_zero']
    have hjl := (List.getElem?_eq_some_iff.1 hp2).1
    rw [nb_length, List.length_append] at hjl
    rw [nb_append] at hp2
    by_cases hj : j < t.length
    ·rw [World.cell?_setCells_out _ _ _ _ _ (fun _ _ => Or.inl hj)]
     have := hold j (.int .u8 p) (by rw [List.getElem?_map]; rw [List.getElem?_append_left (by rw [nb_length]; exact hj)] at hp2; rw [hp2]; rfl)
     rw [Nat.zero_add] at this
     exact this
    ·obtain ⟨q, rfl⟩ : ∃ q, j = t.length + q := ⟨j - t.length, by omega⟩
     rw [World.cell?_setCells_in _ _ _ _ hiss q (by rw [List.length_map, nb_length]; omega)]
     rw [List.getElem?_append_right (by rw [nb_length]; omega), nb_length, Nat.add_sub_cancel_left] at hp2
     rw [List.getElem_map]
     rw [List.getElem?_eq_getElem (by rw [nb_length]; omega)] at hp2
     exact congrArg (fun z => some (Value.int .u8 z)) (Option.some.inj hp2)
  ·rw [List.length_append]; omega
  ·rintro a e
   cases e
   exact ⟨Nat.le_refl _, rfl⟩
  ·rintro a i e hi2
   cases e
   rw [add_zero', World.frozen?_setCells]
   rw [List.length_append] at hi2
   simp [World.frozen?, hrow]
   omega
  ·exact below_setC (Nat.le_refl _) hbw _ _
 ·intro hg2 v' w' h1 h2
  have h3 : Ow W.heap.size w' v' (t ++ ys) := by
   unfold Ow
   refine Kd.R_of_own ?_ (fun _ _ => trivial)
   rw [nb_append]
   have e : encs (Value.int .u8) (nb t ++ nb ys) = (nb t).map (Value.int .u8) ++ (nb ys).map (Value.int .u8) := by
    unfold encs; rw [List.map_append]
   rw [List.length_append, nb_length, nb_length, e]
   exact own_weaken h1 hbw.size
  obtain ⟨A1, c1, rfl, h4⟩ := h3.fr
  exact k A1 c1 w' h4 (hbw.grown h2 hbw.size (fun j hj => by cases hj))
end Go.Proofs.YtpfmnkpmidjfjaaGreatDoor
/- What bundle's Bytes answers. -/
namespace Go.Proofs.YtpfmnkpmidjfjaaGreatDoor
open Go.RowKit Go.Lib
open Go.Proofs.YtpfmnkpmidjfjaaGreatDoorW.PrintWords
set_option linter.unusedVariables false
set_option linter.unusedSimpArgs false
theorem commands_len {b : B.Bundle} (hf : B.FitB b) : (B.commands b.mails).length ≤ 41000000000000 := by
 have h1 := mails_len hf.ms hf.n
 unfold B.commands
 rw [List.length_append]
 have : B.wQuit.length = 6 := rfl
 omega
theorem commands_pos (l : List B.Mail) : 0 < (B.commands l).length := by
 unfold B.commands
 rw [List.length_append]
 have : B.wQuit.length = 6 := rfl
 omega
theorem conv_run (t : ByteArray) : ∀ w : World, (convert 9 25 (.string t)).run Tryz.prog w = .ok (.slice (some ⟨w.heap.size, 0, none⟩) t.size (grownCap w t.size 0 5)) (Lib.bytesWorld w 5 t) := fun w =>
 Lib.run_convert_string_bytes w 9 25 5 t Tryz.underlying9 Tryz.underlying25 Tryz.underlying5
theorem itoa_any (v : Int) (w : World) (h0 : -9223372036854775808 ≤ v) (h1 : v ≤ 9223372036854775807) (hv : Vars w) : Calls Tryz.prog 32 #[.int .i64 v] w fun e w' => e = .returned (.string (str (Lib.itoa v))) ∧ Below w.heap.size w w' := by
 refine (Tryz.strconv_Itoa v h0 h1 w hv.pow).mono ?_
 rintro e w' ⟨rfl, k, os, rfl⟩
 exact ⟨rfl, below_grown _ k os⟩
theorem nums_take (ns : List Int) (n : Nat) (hn : n < ns.length) : B.nums (ns.take (n + 1)) = B.nums (ns.take n) ++ ([32] ++ Lib.itoa (ns.getD n 0)) := flat_take (fun n => 32 :: Lib.itoa n) ns n hn 0
theorem nums_len (ns : List Int) (h : ∀ n ∈ ns, -9223372036854775808 ≤ n ∧ n ≤ 9223372036854775807) : (B.nums ns).length ≤ ns.length * 22 := flat_len (fun n => 32 :: Lib.itoa n) 22 ns (fun x hx => by
 have := Lib.itoa_length_le x (h x hx).1 (h x hx).2
 show (Lib.itoa x).length + 1 ≤ 22
 omega)
theorem check_ranges {b : B.Bundle} (h : B.check b = true) : 0 ≤ b.origin ∧ b.origin ≤ 1 ∧ 1 ≤ b.number ∧ b.number ≤ 65535 ∧ 1 ≤ b.mails.length ∧ b.mails.length ≤ 4 := by
 unfold B.check at h
 simp only [Bool.and_eq_true, decide_eq_true_eq] at h
 exact ⟨h.1, h.2.1, h.2.2.1, h.2.2.2.1, h.2.2.2.2.1, h.2.2.2.2.2.1⟩
theorem Fr.low {b b' : Nat} {w : World} {A : Option Addr} {c : Nat} {l : B.Bs} (h : Fr b w A c l) (hb : b' ≤ b) : Fr b' w A c l := ⟨h.bt, (fun a e => ⟨Nat.le_trans hb (h.new a e).1, (h.new a e).2⟩), h.free⟩
theorem cell5 {w : World} {g t : Nat} {fr : Nat × Nat} {x0 x1 x2 x3 x4 : Int} (h : w.heap[g]? = some (.cells #[.int .i64 x0, .int .i64 x1, .int .i64 x2, .int .i64 x3, .int .i64 x4] t fr)) (n : Nat) (hn : n < 5) : w.cell? ⟨g, n, none⟩ = some (.int .i64 ([x0, x1, x2, x3, x4].getD n 0)) := by
 rw [cell_of_row w g _ _ _ _ h]
 match n, hn with
 | 0, _ => rfl
 | 1, _ => rfl
 | 2, _ => rfl
 | 3, _ => rfl
 | 4, _ => rfl
set_option maxRecDepth 100000 in
set_option maxHeartbeats 8000000 in
theorem bytes_any (b : B.Bundle) (A : Option Addr) (c : Nat) (w : World) (h : Bn w b A c) (hf : B.FitB b) (hv : Vars w) :
  Calls Tryz.prog 13 #[.agg #[.int .i64 b.origin, .int .i64 b.number, .slice A b.mails.length c]] w fun e w' => (∃ A1 c1, e = .returned (.tuple #[.slice A1 (B.bytes b).1.length c1, .int .i64 (B.bytes b).2]) ∧ Fr w.heap.size w' A1 c1 (B.bytes b).1) ∧ Below w.heap.size w w' := by
 have HB := Aside0.mk h
 have HF := Aside0.mk hf
 have HV := Aside0.mk hv
 obtain ⟨X, hX⟩ : ∃ X, X = B.bytes b := ⟨_, rfl⟩
 rw [← hX]
 have hbx : Below w.heap.size w (w.alloc (.cells #[.int .i64 b.origin, .int .i64 b.number, .slice A b.mails.length c] 24)) := (Below.refl _ _).alloc (Nat.le_refl _) _
 have HBX := Aside0.mk hbx
 have hbc : ∀ W, Below w.heap.size w W → Calls Tryz.prog 19 #[.agg #[.int .i64 b.origin, .int .i64 b.number, .slice A b.mails.length c]] W fun e w' => e = .returned (.int .i64 (errOf (B.check b))) ∧ Below W.heap.size W w' := fun W hW => bcheck_any b A c W (HB.out.on hW) HF.out (HV.out.go hW)
 have hrow : (w.alloc (.cells #[.int .i64 b.origin, .int .i64 b.number, .slice A b.mails.length c] 24)).heap[w.heap.size]? = some (.cells #[.int .i64 b.origin, .int .i64 b.number, .slice A b.mails.length c] 24 (0, 0)) := heap_alloc_new _ _
 have HROW := Aside0.mk hrow
 cases hck : B.check b with
 | false =>
  have hX2 : X = ([], 5) := by rw [hX]; unfold B.bytes; rw [hck]; rfl
  have HX := Aside0.mk hX2
  rw [hck] at hbc
  have HBC := Aside0.mk hbc
  clear h hf hv hX hbx hbc hrow hX2 hck
  go_enter Tryz.func13, Tryz.ntmps13
  go_wp2_with (first | (go_at_call 19; (with_reducible refine Calls.mono (HBC.out _ HBX.out) ?_); rintro r w1 ⟨rfl, h⟩; have H1 := Aside0.mk (HBX.out.trans (h.mono HBX.out.size)); clear h; simp only [errOf, Bool.false_eq_true, if_false]))
  go_ret2
  refine ⟨⟨none, 0, by rw [HX.out]; rfl, ?_⟩, H1.out⟩
  rw [HX.out]
  exact ⟨Bt.none _, (fun a e => by cases e), (fun a i e => by cases e)⟩
 | true =>
  obtain ⟨cm, hcm⟩ : ∃ cm, cm = B.commands b.mails := ⟨_, rfl⟩
  have hX2 : X = if 4096 < (B.head b cm ++ cm).length then ([], 2) else (B.head b cm ++ cm, 0) := by rw [hX, hcm]; unfold B.bytes; rw [hck]; rfl
  have HX := Aside0.mk hX2
  rw [hck] at hbc
  have HBC := Aside0.mk hbc
  have hcl := commands_len hf
  have hcp := commands_pos b.mails
  rw [← hcm] at hcl hcp
  have HCL := Aside0.mk hcl
  have HCP := Aside0.mk hcp
  have hcc : ∀ W, Below w.heap.size w W → Calls Tryz.prog 30 #[.agg #[.int .i64 b.origin, .int .i64 b.number, .slice A b.mails.length c]] W fun e w' => (∃ v, e = .returned v ∧ Ow W.heap.size w' v cm) ∧ Below W.heap.size W w' := fun W hW => by rw [hcm]; exact commands_any b A c W (HB.out.on hW) HF.out (HV.out.go hW)
  have HCC := Aside0.mk hcc
  have HCK := Aside0.mk hck
  clear h hf hv hX hbx hbc hrow hX2 hck hcl hcp hcc hcm
  go_enter Tryz.func13, Tryz.ntmps13
  go_wp2_with (first | (go_at_call 19; (with_reducible refine Calls.mono (HBC.out _ HBX.out) ?_); rintro r w1 ⟨rfl, h⟩; have H1 := Aside0.mk (HBX.out.trans (h.mono HBX.out.size)); have HR1 := Aside0.mk (row_on h HROW.out); clear h; simp only [errOf, if_true]; obtain ⟨d0, d1, d2, e0, e1, e2⟩ := cells3 HR1.out) | (go_at_call 30; (with_reducible refine Calls.mono (HCC.out _ H1.out) ?_); rintro r w2 ⟨⟨v, rfl, ho⟩, h⟩; have H2 := Aside0.mk (H1.out.trans (h.mono H1.out.size)); have HR2 := Aside0.mk (row_on h HR1.out); obtain ⟨A5, c5, rfl, _⟩ := Ow.bt ho; have HO2 := Aside0.mk ho; clear h ho d0 d1 d2 e0 e1 e2; obtain ⟨d0, d1, d2, _, _, _⟩ := cells3 HR2.out))
  have hlg : ∀ W, Below w2.heap.size w2 W → Calls Tryz.prog 31 #[.slice A5 cm.length c5] W fun e w' => e = .returned (.int .i64 ((B.long cm : Nat) : Int)) ∧ Below W.heap.size W w' := fun W hW => long_any W ((HO2.out.on hW).bt') (by have := HCL.out; omega)
  have HLG := Aside0.mk hlg
  clear hlg
  go_region_held3 (fun w' => w'.cell? ⟨w.heap.size, 0, none⟩ = some (.int .i64 b.origin) ∧ w'.cell? ⟨w.heap.size, 1, none⟩ = some (.int .i64 b.number) ∧ w'.cell? ⟨w.heap.size, 2, none⟩ = some (.slice A b.mails.length c)) (first | go_keep | exact ⟨q0, q1, q2⟩ | exact HQ.out _) (first | (go_at_call 31; (with_reducible refine Calls.mono (HLG.out _ ?_) ?_); (first | exact Below.refl _ _ | exact (Below.refl _ _).drew); rintro r w3 ⟨rfl, h⟩; have hb3 : Below w2.heap.size w2 w3 := (by first | exact h | exact ((Below.refl _ _).drew).trans h); have HB3 := Aside0.mk hb3; obtain ⟨q0, q1, q2, _, _, _⟩ := cells3 (row_on hb3 HR2.out); have HQ := Aside0.mk (fun o : Obj => (let ⟨a, b, c, _⟩ := cells3 (row_on ((hb3.alloc hb3.size o)) HR2.out); And.intro a (And.intro b c))); clear h hb3))
  have hrng := check_ranges HCK.out
  obtain ⟨ns, hns⟩ : ∃ ns : List Int, ns = [b.origin, b.number, (b.mails.length : Int), (cm.length : Int), ((B.long cm : Nat) : Int)] := ⟨_, rfl⟩
  have hnr : ∀ n ∈ ns, -9223372036854775808 ≤ n ∧ n ≤ 9223372036854775807 := by
   have h1 := HCL.out
   have h2 := B.long_lt cm
   intro n hn
   rw [hns] at hn
   simp only [List.mem_cons, List.not_mem_nil, or_false] at hn
   rcases hn with rfl | rfl | rfl | rfl | rfl <;> omega
  have HNR := Aside0.mk hnr
  obtain ⟨wa, hwa⟩ : ∃ wa, wa = w3.alloc (.cells #[.int .i64 b.origin, .int .i64 b.number, .int .i64 (b.mails.length : Int), .int .i64 (cm.length : Int), .int .i64 ((B.long cm : Nat) : Int)] 3) := ⟨_, rfl⟩
  have hba : Below w2.heap.size w2 wa := by rw [hwa]; exact HB3.out.alloc HB3.out.size _
  have hca : ∀ n, n < 5 → wa.cell? ⟨w3.heap.size, n, none⟩ = some (.int .i64 (ns.getD n 0)) := by
   intro n hn
   rw [hwa, hns]
   exact cell5 (heap_alloc_new _ _) n hn
  have hnl : ns.length = 5 := by rw [hns]; rfl
  have HBA := Aside0.mk hba
  have HCA := Aside0.mk hca
  have HNL := Aside0.mk hnl
  have HNS := Aside0.mk hns
  rw [← hwa]
  clear hrng hns hnr hwa hba hca hnl HQ d0 d1 d2
  try clear q0 q1 q2
  go_wp2_with (fail)
  go_loopg [6, 30] 5 (fun gf v6 v30 wr => ∃ (n : Nat) (l : B.Bs), v30 = .int .i64 n ∧ n ≤ 5 ∧ gf + n = 5 ∧ v6 = .string (str l) ∧ Aside0 (l = B.wBundle ++ B.nums (ns.take n) ∧ Below wa.heap.size wa wr))
  case atStart => exact ⟨0, B.wBundle, rfl, by omega, by omega, rfl, ⟨by simp [B.nums], Below.refl _ _⟩⟩
  case round =>
   obtain ⟨n, l, rfl, hn, hg, rfl, H⟩ := hrel
   obtain ⟨wx, rfl⟩ : ∃ wz : World, wz = wr := ⟨_, rfl⟩
   have hll : l.length ≤ 200 := by
    have h1 := nums_len (ns.take n) (fun x hx => HNR.out x (List.mem_of_mem_take hx))
    have h2 : (ns.take n).length ≤ 5 := by rw [List.length_take, HNL.out]; omega
    have h3 : B.wBundle.length = 6 := rfl
    rw [H.out.1, List.length_append, h3]
    have : (ns.take n).length * 22 ≤ 5 * 22 := Nat.mul_le_mul_right _ h2
    omega
   by_cases hlt : n < 5
   ·have hlt' : (n : Int) < 5 := by omega
    have h00 : (0 : Int) ≤ (n : Int) := by omega
    have hcell := cell_up H.out.2 (HCA.out n hlt)
    obtain ⟨x, hx⟩ : ∃ x, x = ns.getD n 0 := ⟨_, rfl⟩
    have hnt := nums_take ns n (by rw [HNL.out]; exact hlt)
    rw [← hx] at hcell hnt
    have hxr := HNR.out x (by rw [hx]; exact getD_mem ns n (by rw [HNL.out]; exact hlt) 0)
    have hil := Lib.itoa_length_le x hxr.1 hxr.2
    have hit := itoa_any x wx hxr.1 hxr.2 (HV.out.go (H2.out.trans ((HBA.out.trans (H.out.2.mono HBA.out.size)).mono H2.out.size)))
    have HIT := Aside0.mk hit
    obtain ⟨it, hitt⟩ : ∃ it, it = Lib.itoa x := ⟨_, rfl⟩
    rw [← hitt] at HIT hil hnt
    have k1 := kat (a := [32]) (b := it) (x := ⟨#[32]⟩) (y := str it) rfl rfl (by decide) (by omega)
    have k2 := kat (a := l) (b := [32] ++ it) (x := str l) (y := str ([32] ++ it)) rfl rfl (by omega) (by simp; omega)
    obtain ⟨s1, hs1⟩ : ∃ s1, s1 = str ([32] ++ it) := ⟨_, rfl⟩
    obtain ⟨l2, hl2⟩ : ∃ l2, l2 = l ++ ([32] ++ it) := ⟨_, rfl⟩
    rw [← hs1] at k1 k2
    rw [← hl2] at k2
    have HL2 := Aside0.mk (show l2 = B.wBundle ++ B.nums (ns.take (n + 1)) by rw [hl2, hnt, H.out.1, List.append_assoc])
    clear hx hnt hxr hit hitt hs1 hl2
    go_wp2_with (first | (go_at_call 32; (with_reducible refine Calls.mono HIT.out ?_); rintro e w5 ⟨rfl, h⟩; have H5 := Aside0.mk h; clear h))
    go_roundg (gk - 1)
    case measure => omega
    case rel => exact ⟨n + 1, l2, by go_num, by omega, by omega, rfl, ⟨HL2.out, H.out.2.trans (H5.out.mono H.out.2.size)⟩⟩
   ·have hne : n = 5 := by omega
    have k1 := kat (a := l) (b := [13, 10]) (x := str l) (y := ⟨#[13, 10]⟩) rfl rfl (by omega) (by decide)
    obtain ⟨hd, hhd⟩ : ∃ hd, hd = l ++ [13, 10] := ⟨_, rfl⟩
    rw [← hhd] at k1
    have hhl : hd.length ≤ 300 := by rw [hhd, List.length_append]; simp; omega
    have k2 := conv_run (str hd)
    have heq : hd = B.head b cm := by
     have e : ns.take n = ns := by rw [hne, ← HNL.out, List.take_length]
     rw [hhd, H.out.1, e, HNS.out]
     rfl
    have HEQ := Aside0.mk heq
    have HXX := Aside0.mk (show X = if 4096 < (hd ++ cm).length then ([], 2) else (hd ++ cm, 0) by rw [HX.out, heq])
    have HHL := Aside0.mk hhl
    clear heq hhd hhl
    obtain ⟨N, hN⟩ : ∃ N, N = (hd ++ cm).length := ⟨_, rfl⟩
    rw [← hN] at HXX
    have HN := Aside0.mk hN
    clear hN
    subst hne
    have hbt : Below w2.heap.size w2 wx := HBA.out.trans (H.out.2.mono HBA.out.size)
    have HBT := Aside0.mk hbt
    clear hbt
    by_cases hlong : 4096 < N
    ·have hx2 : X = ([], 2) := by rw [HXX.out, if_pos hlong]
     have HX2 := Aside0.mk hx2
     have hl2 : (4096 : Int) < (N : Int) := by omega
     clear hx2
     go_wp2_with (first | ((with_reducible refine gate_builtin (b := .append) (xs := #[.tmp 42, .tmp 43]) rfl ?_); at_builtin; refine conv_append rfl (.tmp 42) (.tmp 43) rfl hd cm A5 _ c5 rfl rfl rfl ((HO2.out.on HBT.out).bt') HCP.out (by have := HCL.out; have := HHL.out; omega) N HN.out ?_; intro A9 c9 w9 h h'; have H9 := Aside0.mk h; have H9b := Aside0.mk h'; clear h h'))
     go_ret2
     refine ⟨⟨none, 0, by rw [HX2.out]; rfl, ?_⟩, H2.out.trans ((HBT.out.trans (H9b.out.mono HBT.out.size)).mono H2.out.size)⟩
     rw [HX2.out]
     exact ⟨Bt.none _, (fun a e => by cases e), (fun a i e => by cases e)⟩
    ·have hx2 : X = (hd ++ cm, 0) := by rw [HXX.out, if_neg hlong]
     have HX2 := Aside0.mk hx2
     have hl2 : (N : Int) ≤ 4096 := by omega
     clear hx2
     go_wp2_with (first | ((with_reducible refine gate_builtin (b := .append) (xs := #[.tmp 42, .tmp 43]) rfl ?_); at_builtin; refine conv_append rfl (.tmp 42) (.tmp 43) rfl hd cm A5 _ c5 rfl rfl rfl ((HO2.out.on HBT.out).bt') HCP.out (by have := HCL.out; have := HHL.out; omega) N HN.out ?_; intro A9 c9 w9 h h'; have H9 := Aside0.mk h; have H9b := Aside0.mk h'; clear h h'))
     go_ret2
     refine ⟨⟨A9, c9, by rw [HX2.out, ← HN.out]; rfl, ?_⟩, H2.out.trans ((HBT.out.trans (H9b.out.mono HBT.out.size)).mono H2.out.size)⟩
     rw [HX2.out]
     exact H9.out.low (Nat.le_trans H2.out.size HBT.out.size)
end Go.Proofs.YtpfmnkpmidjfjaaGreatDoor
/- What bundle's number and cut answer. -/
namespace Go.Proofs.YtpfmnkpmidjfjaaGreatDoor
open Go.RowKit Go.Lib
open Go.Proofs.YtpfmnkpmidjfjaaGreatDoorW.PrintWords
set_option linter.unusedVariables false
set_option linter.unusedSimpArgs false
theorem results_ctt {P : Program} {fn : Func} {p u u2 : Tmp} {ty : TypeId} (h : fn.results = #[.cell p ty, .tmp u, .tmp u2]) (tmps : Array Value) (w : World) (g : Nat) (t : TypeId) (cs : Array Value) (fr : Nat × Nat) (d : TypeDesc)
  (hp : tmps.getD p undef = .pointer (some ⟨g, 0, none⟩)) (hg : w.heap[g]? = some (.cells cs t fr))
  (hu : P.underlying ty = some d) (hd : (match d with | .struct _ | .array _ _ => true | _ => false) = true) (hi : (P.info? ty).map (·.size) = some cs.size) (v v2 : Value) (hv : tmps.getD u undef = v) (hv2 : tmps.getD u2 undef = v2) :
  (results fn tmps).run P w = .ok (.tuple #[.agg cs, v, v2]) w := by
 subst hv hv2
 have hp' : tmps[p]?.getD undef = .pointer (some ⟨g, 0, none⟩) := by simpa using hp
 simp only [results, h]
 simp [Sem.run_bind, Result.andThen, hp', asAddr, run_loadVar_row w g t ty cs fr d hg hu hd hi]
theorem bt_string {A : Option Addr} {c : Nat} {l : B.Bs} {W : World} (h : Bt W A c l) : (convert 25 9 (.slice A l.length c)).run Tryz.prog W = .ok (.string (str l)) W := by
 cases A with
 | none =>
  have hl : l = [] := by
   have h1 := h.cap
   have h2 := h.nil rfl
   exact List.eq_nil_of_length_eq_zero (by omega)
  subst hl
  exact run_convert_bytes_nil (P := Tryz.prog) W 25 5 Tryz.underlying25 Tryz.underlying5 0 c 9 Tryz.underlying9
 | some ad =>
  have hl : (loadCells ad l.length).run Tryz.prog W = .ok ((nb l).map (Value.int .u8)).toArray W := by
   have := run_loadCells_list (P := Tryz.prog) W ad ((nb l).map (Value.int .u8)) (fun j v hj => by
    have hjl : j < l.length := by
     have := (List.getElem?_eq_some_iff.1 hj).1
     rw [List.length_map, nb_length] at this
     exact this
    obtain ⟨ad', e, hc⟩ := h.cells (by omega)
    cases e
    rw [hc j hjl, ← hj, List.getElem?_map, List.getD_eq_getElem?_getD, List.getElem?_eq_getElem (by rw [nb_length]; exact hjl)]
    rfl)
   rw [List.length_map, nb_length] at this
   exact this
  rw [run_convert_bytes_string W 25 9 5 (some ad) l.length c Tryz.underlying25 Tryz.underlying5 Tryz.underlying9, run_bytesToString W ad l.length c (nb l) hl, foldl_push_bytes]
  congr 2
  have e : ((nb l).map fun n => UInt8.ofNat n.toNat) = l := by
   have := bytesOf_nb l
   unfold Lib.bytesOf at this
   exact this
  rw [e]
  unfold str
  simp
theorem Below.one' {w w' : World} (h : w' = w ∨ ∃ t, w' = Lib.bytesWorld w 5 t) : Below w.heap.size w w' := by
 rcases h with rfl | ⟨t, rfl⟩
 ·exact Below.refl _ _
 ·exact Lib.bytesWorld_below w _ t
theorem num_cases' (x : Lib.NumEnd Int) : (∃ v, x = Lib.NumEnd.ok v) ∨ x = Lib.NumEnd.syntax ∨ x = Lib.NumEnd.range := by
 cases x <;> simp
def numPost (o : Option Int) (e : Ending) : Prop := ∃ v b, e = .returned (.tuple #[.int .i64 v, .bool b]) ∧ (b = true → o = some v) ∧ (b = false → o = none)
set_option maxRecDepth 100000 in
set_option maxHeartbeats 1000000 in
theorem number_any (l : B.Bs) (w : World) (hs : l.length ≤ 100000) (hv : Vars w) :
  Calls Tryz.prog 59 #[.string (str l)] w fun e w' => numPost (B.number l) e ∧ Below w.heap.size w w' := by
 obtain ⟨T, hT⟩ : ∃ T, T = B.number l := ⟨_, rfl⟩
 rw [← hT]
 have HT := Aside0.mk hT
 have HV := Aside0.mk hv
 have hsz : (str l).size = l.length := str_size l
 obtain ⟨s, hS⟩ : ∃ s, s = str l := ⟨_, rfl⟩
 rw [← hS] at hsz ⊢
 have hlS : lst s = l := by rw [hS, lst_str]
 have HLS := Aside0.mk hlS
 clear hT hv hS hlS
 rcases num_cases' (Lib.atoiAll (lst s)) with ⟨v, ha⟩ | ha | ha
 ·have hb := Lib.atoiAll_bounds ha
  have hT : T = if 0 ≤ v ∧ s.size ≤ 10 ∧ Lib.itoa v = lst s then some v else none := by rw [HT.out]; unfold B.number; rw [← HLS.out, ha, lst_length]
  have HTF := Aside0.mk hT
  have hc1 := Tryz.strconv_Atoi_ok s (by omega) v ha w
  have HC1 := Aside0.mk hc1
  have HBD := Aside0.mk hb
  obtain ⟨I, hI⟩ : ∃ I : ByteArray, I = str (Lib.itoa v) := ⟨_, rfl⟩
  have hc2 : ∀ w1, Vars w1 → Calls Tryz.prog 32 #[.int .i64 v] w1 fun e w' => e = .returned (.string I) ∧ Below w1.heap.size w1 w' := by
   intro w1 hv1
   rw [hI]
   exact itoa_any v w1 (by have := HBD.out; omega) (by have := HBD.out; omega) hv1
  have HC2 := Aside0.mk hc2
  have he : (I.toList == s.toList) = decide (Lib.itoa v = lst s) := by rw [str_eqB, hI, lst_str]
  have HE := Aside0.mk he
  have hsz' : s.size ≤ 100000 := by omega
  clear hT ha hb hc1 hc2 hI he hsz
  by_cases hpos : 0 ≤ v
  ·by_cases hlen : s.size ≤ 10
   ·have h9 : (s.size : Int) ≤ 10 := by omega
    have HF := Aside0.mk (show T = if Lib.itoa v = lst s then some v else none by rw [HTF.out]; simp [hpos, hlen])
    go_enter Tryz.func59, Tryz.ntmps59
    go_wp2_with (first | (go_at_call 84; (with_reducible refine Calls.mono HC1.out ?_); rintro e w1 ⟨rfl, h⟩; have H1 := Aside0.mk (Below.one' h); clear h) | (go_at_call 32; (with_reducible refine Calls.mono (HC2.out _ (HV.out.go H1.out)) ?_); rintro e w2 ⟨rfl, h⟩; have H2 := Aside0.mk h; clear h))
    go_ret2
    refine ⟨⟨v, decide (Lib.itoa v = lst s), ?_, ?_, ?_⟩, H1.out.trans (H2.out.mono H1.out.size)⟩
    ·rw [← HE.out]; rfl
    ·intro h; rw [HF.out, if_pos (of_decide_eq_true h)]
    ·intro h; rw [HF.out, if_neg (of_decide_eq_false h)]
   ·have h9 : 10 < (s.size : Int) := by omega
    have HF := Aside0.mk (show T = none by rw [HTF.out, if_neg]; intro h; exact hlen h.2.1)
    go_enter Tryz.func59, Tryz.ntmps59
    go_wp2_with (first | (go_at_call 84; (with_reducible refine Calls.mono HC1.out ?_); rintro e w1 ⟨rfl, h⟩; have H1 := Aside0.mk (Below.one' h); clear h))
    go_ret2
    exact ⟨⟨v, false, rfl, (fun h => by cases h), fun _ => HF.out⟩, H1.out⟩
  ·have h9 : v < 0 := by omega
   have HF := Aside0.mk (show T = none by rw [HTF.out, if_neg]; intro h; exact hpos h.1)
   go_enter Tryz.func59, Tryz.ntmps59
   go_wp2_with (first | (go_at_call 84; (with_reducible refine Calls.mono HC1.out ?_); rintro e w1 ⟨rfl, h⟩; have H1 := Aside0.mk (Below.one' h); clear h))
   go_ret2
   exact ⟨⟨v, false, rfl, (fun h => by cases h), fun _ => HF.out⟩, H1.out⟩
 ·have HF := Aside0.mk (show T = none by rw [HT.out]; unfold B.number; rw [← HLS.out, ha])
  obtain ⟨tp, p, hp⟩ := HV.out.syn
  have hc1 := Tryz.strconv_Atoi_syntax_var s (by omega) ha tp p w hp
  have HC1 := Aside0.mk hc1
  clear ha hc1 hp hsz
  go_enter Tryz.func59, Tryz.ntmps59
  go_wp2_with (first | (go_at_call 84; (with_reducible refine Calls.mono HC1.out ?_); rintro e w1 ⟨N, rfl, h1, h2, h⟩; have H1 := Aside0.mk h; clear h h1 h2))
  go_ret2
  exact ⟨⟨_, false, rfl, (fun h => by cases h), fun _ => HF.out⟩, H1.out⟩
 ·have HF := Aside0.mk (show T = none by rw [HT.out]; unfold B.number; rw [← HLS.out, ha])
  obtain ⟨tp, p, hp⟩ := HV.out.rng
  have hc1 := Tryz.strconv_Atoi_range_var s (by omega) ha tp p w hp
  have HC1 := Aside0.mk hc1
  clear ha hc1 hp hsz
  go_enter Tryz.func59, Tryz.ntmps59
  go_wp2_with (first | (go_at_call 84; (with_reducible refine Calls.mono HC1.out ?_); rintro e w1 ⟨N, rfl, h1, h2, h⟩; have H1 := Aside0.mk h; clear h h1 h2))
  go_ret2
  exact ⟨⟨_, false, rfl, (fun h => by cases h), fun _ => HF.out⟩, H1.out⟩
def cutAll (l : B.Bs) : B.Bs × B.Bs × Bool := match B.cut l with
 | none => (l, [], false)
 | some (a, r) => (a, r, true)
theorem cut_any {A A2 : Option Addr} {c c2 : Nat} {l : B.Bs} {w : World} (hb : Bt w A c l) (hs : Bt w A2 c2 [13, 10]) (hl : l.length ≤ 1000000) (hv : Vars w) :
  Calls Tryz.prog 57 #[.slice A l.length c, .slice A2 2 c2] w fun e w' => (∃ A' c', e = .returned (.tuple #[.slice A (cutAll l).1.length c, .slice A' (cutAll l).2.1.length c', .bool (cutAll l).2.2]) ∧ ∀ w0, Bt w0 A c l → Bt w0 A c (cutAll l).1 ∧ Bt w0 A' c' (cutAll l).2.1) ∧ Below w.heap.size w w' := by
 unfold cutAll
 cases h : B.cut l with
 | none =>
  refine (cut_none hb hs hl hv h).mono ?_
  rintro e w' ⟨rfl, h2⟩
  exact ⟨⟨none, 0, rfl, fun w0 hb => ⟨hb, Bt.none _⟩⟩, h2⟩
 | some p =>
  obtain ⟨a, r⟩ := p
  exact cut_some hb hs hl hv h
theorem cutAll_len (l : B.Bs) : (cutAll l).1.length ≤ l.length ∧ (cutAll l).2.1.length ≤ l.length ∧ ((cutAll l).2.2 = true → (cutAll l).2.1.length + 2 + (cutAll l).1.length = l.length) := by
 unfold cutAll
 cases h : B.cut l with
 | none => exact ⟨Nat.le_refl _, by simp, (fun h => by cases h)⟩
 | some p =>
  obtain ⟨a, r⟩ := p
  have := (cut_take h).2.2
  exact ⟨by simp only; omega, by simp only; omega, fun _ => by simp only; omega⟩
def cutOk (l b : B.Bs) (p : V.Path) (r : B.Bs) (is : Bool) : Prop := (is = true ∧ B.cutLine l b = some (p, r)) ∨ (is = false ∧ B.cutLine l b = none)
def cutPost (A : Option Addr) (c : Nat) (l b : B.Bs) (e : Ending) : Prop := ∃ p r A' c' is, e = .returned (.tuple #[.agg #[.bool p.null, .string (str p.loc), .string (str p.dom)], .slice A' r.length c', .bool is]) ∧ cutOk l b p r is ∧ r.length ≤ l.length ∧ (is = true → r.length + 2 ≤ l.length) ∧ ∀ w0, Bt w0 A c l → Bt w0 A' c' r
theorem trim_eq (l b : B.Bs) : Lib.trimPrefix l b = if b.isPrefixOf l then l.drop b.length else l := rfl
set_option maxRecDepth 100000 in
set_option maxHeartbeats 4000000 in
theorem bcut_any {A : Option Addr} {c : Nat} {l : B.Bs} (b : B.Bs) (w : World) (hb : Bt w A c l) (hl : l.length ≤ 100000) (hv : Vars w) :
  Calls Tryz.prog 60 #[.slice A l.length c, .string (str b)] w fun e w' => cutPost A c l b e ∧ Below w.heap.size w w' := by
 have HBT := Aside0.mk hb
 have HV := Aside0.mk hv
 obtain ⟨line, rest, ended, hca⟩ : ∃ a r e, cutAll l = (a, r, e) := ⟨_, _, _, rfl⟩
 have hcl := cutAll_len l
 rw [hca] at hcl
 simp only at hcl
 have hcon : ∀ W A2 c2, Below w.heap.size w W → Bt W A2 c2 [13, 10] → Calls Tryz.prog 57 #[.slice A l.length c, .slice A2 2 c2] W fun e w' => (∃ A' c', e = .returned (.tuple #[.slice A line.length c, .slice A' rest.length c', .bool ended]) ∧ ∀ w0, Bt w0 A c l → Bt w0 A c line ∧ Bt w0 A' c' rest) ∧ Below W.heap.size W w' := by
  intro W A2 c2 hW h2
  have h := cut_any (HBT.out.on hW) h2 (by omega) (HV.out.go hW)
  rw [hca] at h
  exact h
 obtain ⟨box, hbox⟩ : ∃ box, box = Lib.trimPrefix line b := ⟨_, rfl⟩
 obtain ⟨begun, hbeg⟩ : ∃ x, x = b.isPrefixOf line := ⟨_, rfl⟩
 have hbl : box.length ≤ 100000 := by
  have h1 := hcl.1
  rw [hbox, trim_eq]
  split <;> simp <;> omega
 have hpre : ∀ W, Calls Tryz.prog 85 #[.string (str line), .string (str b)] W fun e w' => e = .returned (.tuple #[.string (str box), .bool begun]) ∧ W = w' := by
  intro W
  refine (Tryz.strings_CutPrefix (str line) (str b) W).mono ?_
  rintro e w' ⟨rfl, rfl⟩
  refine ⟨?_, rfl⟩
  have e1 : (str line).data.toList = line := lst_str line
  have e2 : (str b).data.toList = b := lst_str b
  rw [e1, e2, hbox, hbeg]
  rfl
 obtain ⟨po, hpo⟩ : ∃ po, po = V.pparse box := ⟨_, rfl⟩
 have hpar : ∀ W, Below w.heap.size w W → Calls Tryz.prog 86 #[.string (str box)] W fun e w' => e = .returned (.tuple #[.agg #[.bool (po.getD V.noPath).null, .string (str (po.getD V.noPath).loc), .string (str (po.getD V.noPath).dom)], .int .i64 (errOf po.isSome)]) ∧ Below W.heap.size W w' := by
  intro W hW
  have h := pparse_any (str box) W (by rw [str_size]; exact hbl) (HV.out.go hW)
  rw [lst_str, ← hpo] at h
  exact h
 have hfin : ∀ is, is = (ended && (begun && po.isSome)) → cutOk l b (po.getD V.noPath) rest is := by
  rintro is rfl
  unfold cutOk B.cutLine
  unfold cutAll at hca
  cases hc : B.cut l with
  | none =>
   rw [hc] at hca
   obtain ⟨rfl, rfl, rfl⟩ := by simpa using hca
   right
   exact ⟨rfl, rfl⟩
  | some q =>
   obtain ⟨a, r⟩ := q
   rw [hc] at hca
   simp only [Prod.mk.injEq] at hca
   obtain ⟨rfl, rfl, rfl⟩ := hca
   simp only
   rw [← hbeg]
   cases hbb : begun with
   | false => right; exact ⟨rfl, by simp⟩
   | true =>
    have hbx : box = a.drop b.length := by rw [hbox, trim_eq, ← hbeg, hbb]; rfl
    rw [hbx] at hpo
    rw [← hpo]
    cases po with
    | none => right; exact ⟨rfl, rfl⟩
    | some p => left; exact ⟨rfl, rfl⟩
 obtain ⟨np, al, ad, hp3⟩ : ∃ x y z, (x, y, z) = ((po.getD V.noPath).null, str (po.getD V.noPath).loc, str (po.getD V.noPath).dom) := ⟨_, _, _, rfl⟩
 have hlit : ∀ o : Obj, Bt ((w.alloc o).alloc (.cells #[.int .u8 13, .int .u8 10] 5)) (some ⟨w.heap.size + 1, 0, none⟩) 2 [13, 10] := fun o => Bt.lit [13, 10] (alloc_two w o _) rfl (by decide)
 have hrow : (w.alloc (.cells #[.bool false, .string { data := #[] }, .string { data := #[] }] 43)).heap[w.heap.size]? = some (.cells #[.bool false, .string { data := #[] }, .string { data := #[] }] 43 (0, 0)) := heap_alloc_new _ _
 have HROW := Aside0.mk hrow
 have HLIT := Aside0.mk hlit
 have HCON := Aside0.mk hcon
 have HPRE := Aside0.mk hpre
 have HFIN := Aside0.mk hfin
 have HCL := Aside0.mk hcl
 have hal : ∀ (W : World) (o : Obj), Below w.heap.size w W → Below w.heap.size w (W.alloc o) := fun W o h => h.alloc h.size o
 have HAL := Aside0.mk hal
 have HPO := Aside0.mk hp3
 have hpar2 : ∀ W, Below w.heap.size w W → Calls Tryz.prog 86 #[.string (str box)] W fun e w' => e = .returned (.tuple #[.agg #[.bool np, .string al, .string ad], .int .i64 (errOf po.isSome)]) ∧ Below W.heap.size W w' := by
  intro W hW
  have h := hpar W hW
  simp only [Prod.mk.injEq] at hp3
  rw [← hp3.1, ← hp3.2.1, ← hp3.2.2] at h
  exact h
 have HPAR := Aside0.mk hpar2
 obtain ⟨sm, hsm⟩ : ∃ sm, sm = po.isSome := ⟨_, rfl⟩
 rw [← hsm] at HPAR HFIN
 have hse := (errOf_eq sm).1
 clear hb hv hca hcl hcon hbox hbeg hpre hpar hfin hp3 hpar2 hlit hrow hpo hsm hal hbl
 go_enter Tryz.func60, Tryz.ntmps60
 go_upto_region 2 with (first | (go_at_call 57; (with_reducible refine Calls.mono (HCON.out _ _ _ (HAL.out _ _ (HAL.out _ _ (Below.refl _ _))) (HLIT.out _)) ?_); rintro e w1 ⟨⟨A3, c3, rfl, hq⟩, h⟩; have H1 := Aside0.mk ((HAL.out _ _ (HAL.out _ _ (Below.refl _ _))).trans (h.mono (HAL.out _ _ (HAL.out _ _ (Below.refl _ _))).size)); have HR1 := Aside0.mk (row_on h (row_on ((Below.refl _ _).alloc (Nat.le_refl _) _) HROW.out)); have HQ := Aside0.mk hq; clear h hq))
 have hcv := bt_string (HQ.out w1 (HBT.out.on H1.out)).1
 go_upto_region 3 with (first | (go_at_call 85; (with_reducible refine Calls.mono (HPRE.out _) ?_); rintro e w2 ⟨rfl, rfl⟩))
 clear hcv
 have hpost : ∀ W, Below w.heap.size w W → W.heap[w.heap.size]? = some (.cells #[.bool np, .string al, .string ad] 43 (0, 0)) → True := fun _ _ _ => trivial
 clear hpost
 by_cases hall : ended = true ∧ begun = true
 ·obtain ⟨rfl, rfl⟩ := hall
  go_wp2_with (first | (go_at_call 86; (with_reducible refine Calls.mono (HPAR.out _ H1.out) ?_); rintro e w3 ⟨rfl, h⟩; have H3 := Aside0.mk (H1.out.trans (h.mono H1.out.size)); have HR3 := Aside0.mk (row_on h HR1.out); clear h; obtain ⟨d0, d1, d2, e0, e1, e2⟩ := cells3 HR3.out))
  refine bodyPost_ret (v := .tuple #[.agg #[.bool np, .string al, .string ad], .slice A3 rest.length c3, .bool sm]) ?_ rfl ⟨⟨po.getD V.noPath, rest, A3, c3, sm, ?_, HFIN.out _ (by cases sm <;> rfl), HCL.out.2.1, (fun _ => by have := HCL.out.2.2 (by trivial); omega), fun w0 h0 => (HQ.out w0 h0).2⟩, ?_⟩
  ·exact results_ctt (by rfl) _ _ w.heap.size 43 _ (0, 0) _ rfl (row3 (row3 HR3.out)) Tryz.underlying43 rfl (by kernel_rfl) _ _ rfl (by first | rfl | (simp; done))
  ·have := HPO.out
   simp only [Prod.mk.injEq] at this
   rw [this.1, this.2.1, this.2.2]
  ·exact (((((H3.out.setCell (Nat.le_refl _) _).setCell (Nat.le_refl _) _).setCell (Nat.le_refl _) _).setCell (Nat.le_refl _) _).setCell (Nat.le_refl _) _).setCell (Nat.le_refl _) _
 ·have hcase : ended = false ∨ (ended = true ∧ begun = false) := by cases ended <;> cases begun <;> simp_all
  clear hall
  rcases hcase with rfl | ⟨rfl, rfl⟩
  all_goals
   go_wp2_with (first | (go_at_call 86; (with_reducible refine Calls.mono (HPAR.out _ H1.out) ?_); rintro e w3 ⟨rfl, h⟩; have H3 := Aside0.mk (H1.out.trans (h.mono H1.out.size)); have HR3 := Aside0.mk (row_on h HR1.out); clear h; obtain ⟨d0, d1, d2, e0, e1, e2⟩ := cells3 HR3.out))
   refine bodyPost_ret (v := .tuple #[.agg #[.bool np, .string al, .string ad], .slice A3 rest.length c3, .bool false]) ?_ rfl ⟨⟨po.getD V.noPath, rest, A3, c3, false, ?_, HFIN.out _ (by simp), HCL.out.2.1, (fun h => by cases h), fun w0 h0 => (HQ.out w0 h0).2⟩, ?_⟩
   ·exact results_ctt (by rfl) _ _ w.heap.size 43 _ (0, 0) _ rfl (row3 (row3 HR3.out)) Tryz.underlying43 rfl (by kernel_rfl) _ _ rfl rfl
   ·have := HPO.out
    simp only [Prod.mk.injEq] at this
    rw [this.1, this.2.1, this.2.2]
   ·exact (((((H3.out.setCell (Nat.le_refl _) _).setCell (Nat.le_refl _) _).setCell (Nat.le_refl _) _).setCell (Nat.le_refl _) _).setCell (Nat.le_refl _) _).setCell (Nat.le_refl _) _
end Go.Proofs.YtpfmnkpmidjfjaaGreatDoor
