/- Texts of this seat, one behind the other: the plain law, the walks. -/
import Derived.Test.YtpfmnkpmidjfjaaGreatDoorProg
import Derived.WalkKit
import Derived.WalkLawsBesides
import Derived.Outline
import Derived.LoopTactic
import Derived.Lib.Hide
import Derived.Deep.QuietTactic
import Derived.BigQuiet
import Derived.Deep.LoopGhost
import Derived.Deep.DeepCutAuto
import Derived.Deep.CutBlock
import Derived.Deep.RegionHeld3
import Derived.Deep.RegionWith
import Derived.Deep.WholeRow
import Derived.Laws.Rows
import Derived.Laws.Tables
import Derived.Laws.ResultCell
import Derived.StillTailTactics
import Derived.Deep.DeepMust
import Derived.IntWalk
import Derived.KernelRfl
import Derived.Test.YtpfmnkpmidjfjaaGreatDoorEXa
import Derived.RegionTactic
import Derived.Lib.SlBytesConst
import Derived.WalkSpells
import Derived.Deep.Slices
import Derived.WideShapes
import Derived.SizedLaws
import Derived.ChangeArms
import Derived.Laws.BitsLemmas
import Derived.Laws.DeepStrings4
import Derived.Test.YtpfmnkpmidjfjaaGreatDoorEMa
import Derived.Test.YtpfmnkpmidjfjaaGreatDoorEMb
/- What bundle's head answers. -/
namespace Go.Proofs.YtpfmnkpmidjfjaaGreatDoor
open Go.RowKit Go.Lib
open Go.Proofs.YtpfmnkpmidjfjaaGreatDoorW.PrintWords
set_option linter.unusedVariables false
set_option linter.unusedSimpArgs false
theorem row5 {w : World} {g t : Nat} {fr : Nat × Nat} {x0 x1 x2 x3 x4 a0 a1 a2 a3 a4 : Value} (h : w.heap[g]? = some (.cells #[x0, x1, x2, x3, x4] t fr)) : (((((w.setCell ⟨g, 0, none⟩ a0).setCell ⟨g, 1, none⟩ a1).setCell ⟨g, 2, none⟩ a2).setCell ⟨g, 3, none⟩ a3).setCell ⟨g, 4, none⟩ a4).heap[g]? = some (.cells #[a0, a1, a2, a3, a4] t fr) := by
 have h1 := setCell_row _ g 0 _ _ _ a0 h
 have h2 := setCell_row _ g 1 _ _ _ a1 h1
 have h3 := setCell_row _ g 2 _ _ _ a2 h2
 have h4 := setCell_row _ g 3 _ _ _ a3 h3
 have h5 := setCell_row _ g 4 _ _ _ a4 h4
 exact h5
theorem heap_drew' (w : World) : w.drew.heap = w.heap := rfl
theorem row5d {w : World} {g t : Nat} {fr : Nat × Nat} {x0 x1 x2 x3 x4 a0 a1 a2 a3 a4 : Value} (h : w.heap[g]? = some (.cells #[x0, x1, x2, x3, x4] t fr)) : (((((w.setCell ⟨g, 0, none⟩ a0).setCell ⟨g, 1, none⟩ a1).setCell ⟨g, 2, none⟩ a2).setCell ⟨g, 3, none⟩ a3).setCell ⟨g, 4, none⟩ a4).drew.heap[g]? = some (.cells #[a0, a1, a2, a3, a4] t fr) := by
 rw [heap_drew']
 exact row5 h
theorem cells5 {w : World} {g t : Nat} {x0 x1 x2 x3 x4 : Value} (h : w.heap[g]? = some (.cells #[x0, x1, x2, x3, x4] t (0, 0))) :
  (w.cell? ⟨g, 0, none⟩ = some x0 ∧ w.cell? ⟨g, 1, none⟩ = some x1 ∧ w.cell? ⟨g, 2, none⟩ = some x2 ∧ w.cell? ⟨g, 3, none⟩ = some x3 ∧ w.cell? ⟨g, 4, none⟩ = some x4) ∧ (w.frozen? ⟨g, 0, none⟩ = false ∧ w.frozen? ⟨g, 1, none⟩ = false ∧ w.frozen? ⟨g, 2, none⟩ = false ∧ w.frozen? ⟨g, 3, none⟩ = false ∧ w.frozen? ⟨g, 4, none⟩ = false) := by
 refine ⟨⟨?_, ?_, ?_, ?_, ?_⟩, unfroz h _, unfroz h _, unfroz h _, unfroz h _, unfroz h _⟩ <;> (rw [cell_of_row w g _ _ _ _ h]; rfl)
theorem set5 {w : World} {g t : Nat} {x0 x1 x2 x3 x4 : Int} (h : w.heap[g]? = some (.cells #[.int .i64 x0, .int .i64 x1, .int .i64 x2, .int .i64 x3, .int .i64 x4] t (0, 0))) (n : Nat) (hn : n < 5) (v : Int) :
  ∃ y0 y1 y2 y3 y4 : Int, (w.setCell ⟨g, n, none⟩ (.int .i64 v)).heap[g]? = some (.cells #[.int .i64 y0, .int .i64 y1, .int .i64 y2, .int .i64 y3, .int .i64 y4] t (0, 0)) ∧ [y0, y1, y2, y3, y4].take (n + 1) = [x0, x1, x2, x3, x4].take n ++ [v] := by
 have h1 := setCell_row _ g n _ _ _ (Value.int .i64 v) h
 match n, hn with
 | 0, _ => exact ⟨v, x1, x2, x3, x4, h1, rfl⟩
 | 1, _ => exact ⟨x0, v, x2, x3, x4, h1, rfl⟩
 | 2, _ => exact ⟨x0, x1, v, x3, x4, h1, rfl⟩
 | 3, _ => exact ⟨x0, x1, x2, v, x4, h1, rfl⟩
 | 4, _ => exact ⟨x0, x1, x2, x3, v, h1, rfl⟩
theorem numbers_snoc (x : B.Bs) : ∀ l : List B.Bs, B.numbers (l ++ [x]) = match B.numbers l with
  | none => none
  | some vs => match B.number x with
   | none => none
   | some v => some (vs ++ [v])
 | [] => by
  show B.numbers [x] = _
  unfold B.numbers
  cases hx : B.number x with
  | none => rfl
  | some v => rfl
 | y :: l => by
  rw [List.cons_append, B.numbers, B.numbers, numbers_snoc x l]
  cases B.number y with
  | none => rfl
  | some v =>
   cases B.numbers l with
   | none => rfl
   | some vs =>
    cases B.number x with
    | none => rfl
    | some u => rfl
theorem numbers_none {x : B.Bs} (h : B.number x = none) : ∀ l : List B.Bs, x ∈ l → B.numbers l = none
 | y :: l, hm => by
  unfold B.numbers
  rcases List.mem_cons.1 hm with rfl | hm
  ·rw [h]
  ·cases B.number y with
   | none => rfl
   | some v => rw [numbers_none h l hm]
theorem headOf_eq {t line rest : B.Bs} {ended : Bool} (h : cutAll t = (line, rest, ended)) : B.headOf t = if ended = true ∧ (V.splitOn 32 line).length = 6 ∧ (V.splitOn 32 line).getD 0 [] = B.wBundle then (match B.numbers ((V.splitOn 32 line).drop 1) with
  | none => none
  | some vs => if vs.getD 0 0 ≤ 1 ∧ vs.getD 3 0 = rest.length then some (vs, rest) else none) else none := by
 unfold B.headOf
 unfold cutAll at h
 cases hc : B.cut t with
 | none =>
  rw [hc] at h
  simp only [Prod.mk.injEq] at h
  rw [if_neg (fun h' => by rw [← h.2.2] at h'; exact absurd h'.1 (by decide))]
 | some p =>
  obtain ⟨a, r⟩ := p
  rw [hc] at h
  simp only [Prod.mk.injEq] at h
  obtain ⟨rfl, rfl, rfl⟩ := h
  simp only
  cases hs : V.splitOn 32 a with
  | nil => rw [if_neg (by simp)]
  | cons x ws =>
   simp only
   by_cases hx : ws.length = 5 ∧ x = B.wBundle
   ·rw [if_pos hx, if_pos ⟨trivial, by simp [hx.1], by simpa using hx.2⟩]
    rfl
   ·rw [if_neg hx, if_neg]
    intro h'
    exact hx ⟨by have := h'.2.1; simpa using this, by have := h'.2.2; simpa using this⟩
def headOk (t : B.Bs) (vs : List Int) (r : B.Bs) (is : Bool) : Prop := (is = true ∧ B.headOf t = some (vs, r)) ∨ (is = false ∧ B.headOf t = none)
def headPost (A : Option Addr) (c : Nat) (t : B.Bs) (e : Ending) : Prop := ∃ x0 x1 x2 x3 x4 r A' c' is, e = .returned (.tuple #[.agg #[.int .i64 x0, .int .i64 x1, .int .i64 x2, .int .i64 x3, .int .i64 x4], .slice A' r.length c', .bool is]) ∧ headOk t [x0, x1, x2, x3, x4] r is ∧ r.length ≤ t.length ∧ ∀ w0, Bt w0 A c t → Bt w0 A' c' r
theorem split_cells {ls : List B.Bs} {w : World} {g t : Nat} {fr : Nat × Nat} (h : w.heap[g]? = some (.cells ((ls.map fun l => Value.string (str l))).toArray t fr)) (n : Nat) (hn : n < ls.length) : w.cell? ⟨g, n, none⟩ = some (.string (str (ls.getD n []))) := by
 rw [cell_of_row w g _ _ _ _ h, List.getElem?_toArray, List.getElem?_map, List.getElem?_eq_getElem hn, List.getD_eq_getElem?_getD, List.getElem?_eq_getElem hn]
 rfl
set_option maxRecDepth 100000 in
set_option maxHeartbeats 8000000 in
theorem head_any {A : Option Addr} {c : Nat} {t : B.Bs} (w : World) (hb : Bt w A c t) (hl : t.length ≤ 100000) (hv : Vars w) :
  Calls Tryz.prog 34 #[.slice A t.length c] w fun e w' => headPost A c t e ∧ Below w.heap.size w w' := by
 have HBT := Aside0.mk hb
 have HV := Aside0.mk hv
 obtain ⟨line, rest, ended, hca⟩ : ∃ a r e, cutAll t = (a, r, e) := ⟨_, _, _, rfl⟩
 have hho := headOf_eq hca
 have hcl := cutAll_len t
 rw [hca] at hcl
 simp only at hcl
 obtain ⟨WS, hWS⟩ : ∃ WS, WS = V.splitOn 32 line := ⟨_, rfl⟩
 rw [← hWS] at hho
 have HHO := Aside0.mk hho
 have hcon : ∀ W A2 c2, Below w.heap.size w W → Bt W A2 c2 [13, 10] → Calls Tryz.prog 57 #[.slice A t.length c, .slice A2 2 c2] W fun e w' => (∃ A' c', e = .returned (.tuple #[.slice A line.length c, .slice A' rest.length c', .bool ended]) ∧ ∀ w0, Bt w0 A c t → Bt w0 A c line ∧ Bt w0 A' c' rest) ∧ Below W.heap.size W w' := by
  intro W A2 c2 hW h2
  have h := cut_any (HBT.out.on hW) h2 (by omega) (HV.out.go hW)
  rw [hca] at h
  exact h
 have hspl : ∀ W, Below w.heap.size w W → Calls Tryz.prog 58 #[.string (str line), .string ⟨#[32]⟩] W fun e w' => ∃ n : Nat, n = WS.length ∧ e = .returned (.slice (some ⟨W.heap.size, 0, none⟩) n n) ∧ w' = W.alloc (.cells ((WS.map fun l => Value.string (str l))).toArray 9) := by
  intro W hW
  have h := split_any (str line) 32 W (by rw [str_size]; omega) (HV.out.go hW) ⟨#[32]⟩ rfl
  rw [lst_str, ← hWS] at h
  exact h
 have hwl : ∀ x ∈ WS, x.length ≤ 100000 := by
  intro x hx
  rw [hWS] at hx
  have := splitOn_mem 32 _ x hx
  omega
 have hlit : ∀ o p : Obj, Bt (((w.alloc o).alloc p).alloc (.cells #[.int .u8 13, .int .u8 10] 5)) (some ⟨w.heap.size + 2, 0, none⟩) 2 [13, 10] := fun o p => by
  have h := heap_alloc_new ((w.alloc o).alloc p) (.cells #[.int .u8 13, .int .u8 10] 5)
  rw [show ((w.alloc o).alloc p).heap.size = w.heap.size + 2 by simp] at h
  exact Bt.lit [13, 10] h rfl (by decide)
 have hbel : ∀ o p q : Obj, Below w.heap.size w (((w.alloc o).alloc p).alloc q) := fun o p q => (((Below.refl _ w).alloc (Nat.le_refl _) o).alloc (by simp) p).alloc (by simp; omega) q
 have hr0 : ∀ p q : Obj, (((w.alloc (.cells #[.int .i64 0, .int .i64 0, .int .i64 0, .int .i64 0, .int .i64 0] 62)).alloc p).alloc q).heap[w.heap.size]? = some (.cells #[.int .i64 0, .int .i64 0, .int .i64 0, .int .i64 0, .int .i64 0] 62 (0, 0)) := fun p q =>
  row_on ((Below.refl _ _).alloc (Nat.le_refl _) _) (row_on ((Below.refl _ _).alloc (Nat.le_refl _) _) (heap_alloc_new _ _))
 have hr1 : ∀ o q : Obj, (((w.alloc o).alloc (.cells #[.int .i64 0, .int .i64 0, .int .i64 0, .int .i64 0, .int .i64 0] 62)).alloc q).heap[w.heap.size + 1]? = some (.cells #[.int .i64 0, .int .i64 0, .int .i64 0, .int .i64 0, .int .i64 0] 62 (0, 0)) := fun o q =>
  row_on ((Below.refl _ _).alloc (Nat.le_refl _) _) (alloc_two _ _ _)
 have HCON := Aside0.mk hcon
 have HSPL := Aside0.mk hspl
 have HWL := Aside0.mk hwl
 have HLIT := Aside0.mk hlit
 have HBEL := Aside0.mk hbel
 have HR0 := Aside0.mk hr0
 have HR1 := Aside0.mk hr1
 have HCL := Aside0.mk hcl
 clear hb hv hca hho hcl hWS hcon hspl hwl hlit hbel hr0 hr1
 go_enter Tryz.func34, Tryz.ntmps34
 go_upto_region 3 with (first | (go_at_call 57; (with_reducible refine Calls.mono (HCON.out _ _ _ (HBEL.out _ _ _) (HLIT.out _ _)) ?_); rintro e w1 ⟨⟨A3, c3, rfl, hq⟩, h⟩; have H1 := Aside0.mk ((HBEL.out _ _ _).trans (h.mono (HBEL.out _ _ _).size)); have H1S := Aside0.mk (show w.heap.size + 3 ≤ w1.heap.size from (by have := h.size; simp at this; omega)); have HA := Aside0.mk (row_on h (HR0.out _ _)); have HB := Aside0.mk (row_on h (HR1.out _ _)); have HQ := Aside0.mk hq; clear h hq))
 have hcv := bt_string (HQ.out w1 (HBT.out.on H1.out)).1
 go_upto_region 4 with (first | (go_at_call 58; (with_reducible refine Calls.mono (HSPL.out _ H1.out) ?_); rintro e w2 ⟨n, hn, rfl, hw2⟩; have HN := Aside0.mk hn; have HW2 := Aside0.mk hw2; clear hn hw2))
 clear hcv
 have hb2 : Below w1.heap.size w1 w2 := by rw [HW2.out]; exact (Below.refl _ _).alloc (Nat.le_refl _) _
 have H2 := Aside0.mk (H1.out.trans (hb2.mono H1.out.size))
 have HA2 := Aside0.mk (row_on hb2 HA.out)
 have HB2 := Aside0.mk (row_on hb2 HB.out)
 have hwr : w2.heap[w1.heap.size]? = some (.cells ((WS.map fun l => Value.string (str l))).toArray 9 (0, 0)) := by rw [HW2.out]; exact heap_alloc_new _ _
 have HWR := Aside0.mk hwr
 clear hb2 hwr HW2
 obtain ⟨⟨a0, a1, a2, a3, a4⟩, f0, f1, f2, f3, f4⟩ := cells5 HA2.out
 obtain ⟨⟨b0, b1, b2, b3, b4⟩, g0, g1, g2, g3, g4⟩ := cells5 HB2.out
 by_cases hen : ended = true
 ·subst hen
  by_cases hn6 : n = 6
  ·subst hn6
   obtain ⟨x, hx⟩ : ∃ x, x = WS.getD 0 [] := ⟨_, rfl⟩
   have hlen : WS.length = 6 := HN.out.symm
   have hx0 := split_cells HWR.out 0 (by omega)
   rw [← hx] at hx0
   have hbe : ((str x).toList == [66, 85, 78, 68, 76, 69]) = decide (x = B.wBundle) := by
    have := str_eqB (str x) (str B.wBundle)
    rw [lst_str, lst_str] at this
    rw [← this, ByteArray.toList_eq (str B.wBundle)]
    rfl
   by_cases hxb : x = B.wBundle
   ·rw [decide_eq_true hxb] at hbe
    have hbn : ((str x).toList != [66, 85, 78, 68, 76, 69]) = false := by rw [bne, hbe]; rfl
    have HHD := Aside0.mk (show B.headOf t = match B.numbers (WS.drop 1) with | none => none | some vs => if vs.getD 0 0 ≤ 1 ∧ vs.getD 3 0 = rest.length then some (vs, rest) else none by rw [HHO.out, if_pos ⟨rfl, hlen, by rw [← hx]; exact hxb⟩])
    obtain ⟨ws, hws⟩ : ∃ ws, ws = WS.drop 1 := ⟨_, rfl⟩
    have hwsl : ws.length = 5 := by rw [hws, List.length_drop, hlen]
    have hwc : ∀ (W : World) (k : Nat), k < 5 → W.heap[w1.heap.size]? = some (.cells ((WS.map fun l => Value.string (str l))).toArray 9 (0, 0)) → W.cell? ⟨w1.heap.size, 1 + k, none⟩ = some (.string (str (ws.getD k []))) := by
     intro W k hk hW
     rw [split_cells hW (1 + k) (by omega), hws]
     rw [List.getD_eq_getElem?_getD, List.getD_eq_getElem?_getD, List.getElem?_drop]
    have hwl2 : ∀ x ∈ ws, x.length ≤ 100000 := fun x hx => HWL.out x (by rw [hws] at hx; exact List.mem_of_mem_drop hx)
    rw [← hws] at HHD
    have HWC := Aside0.mk hwc
    have HWL2 := Aside0.mk hwl2
    have HWSL := Aside0.mk hwsl
    clear hx hxb hlen hws hwsl hwc hwl2
    go_wp2_with (fail)
    go_loopg [41] 5 (fun gf v41 wr => ∃ (k : Nat) (x0 x1 x2 x3 x4 : Int), v41 = .int .i64 k ∧ k ≤ 5 ∧ gf + k = 5 ∧ Aside0 (B.numbers (ws.take k) = some ([x0, x1, x2, x3, x4].take k) ∧ Below w.heap.size w wr ∧ wr.heap[w.heap.size + 1]? = some (.cells #[.int .i64 x0, .int .i64 x1, .int .i64 x2, .int .i64 x3, .int .i64 x4] 62 (0, 0)) ∧ wr.heap[w.heap.size]? = some (.cells #[.int .i64 0, .int .i64 0, .int .i64 0, .int .i64 0, .int .i64 0] 62 (0, 0)) ∧ wr.heap[w1.heap.size]? = some (.cells ((WS.map fun l => Value.string (str l))).toArray 9 (0, 0))))
    case atStart => exact ⟨0, 0, 0, 0, 0, 0, rfl, by omega, by omega, ⟨rfl, H2.out, HB2.out, HA2.out, HWR.out⟩⟩
    case round =>
     obtain ⟨k, x0, x1, x2, x3, x4, rfl, hk, hg, H⟩ := hrel
     obtain ⟨wx, rfl⟩ : ∃ wz : World, wz = wr := ⟨_, rfl⟩
     clear a0 a1 a2 a3 a4 f0 f1 f2 f3 f4 b0 b1 b2 b3 b4 g0 g1 g2 g3 g4 hx0
     by_cases hlt : k < 5
     ·have hlt' : (k : Int) < 5 := by omega
      have h00 : (0 : Int) ≤ (k : Int) := by omega
      have hcell := HWC.out wx k hlt H.out.2.2.2.2
      obtain ⟨y, hy⟩ : ∃ y, y = ws.getD k [] := ⟨_, rfl⟩
      rw [← hy] at hcell
      have hym : y ∈ ws := by rw [hy]; exact getD_mem ws k (by rw [HWSL.out]; exact hlt) _
      have hnum := number_any y wx (HWL2.out y hym) (HV.out.go H.out.2.1)
      have HNUM := Aside0.mk hnum
      have HYM := Aside0.mk hym
      have HY := Aside0.mk hy
      clear hnum hym hy
      go_upto_region 10 with (first | (go_at_call 59; (with_reducible refine Calls.mono HNUM.out ?_); rintro e w5 ⟨⟨v, q, rfl, hq1, hq2⟩, h⟩; have HQ1 := Aside0.mk hq1; have HQ2 := Aside0.mk hq2; have H5 := Aside0.mk (H.out.2.1.trans (h.mono H.out.2.1.size)); have HB5 := Aside0.mk (row_on h H.out.2.2.1); have HA5 := Aside0.mk (row_on h H.out.2.2.2.1); have HW5 := Aside0.mk (row_on h H.out.2.2.2.2); clear h hq1 hq2))
      obtain ⟨⟨a0, a1, a2, a3, a4⟩, f0, f1, f2, f3, f4⟩ := cells5 HA5.out
      obtain ⟨⟨b0, b1, b2, b3, b4⟩, g0, g1, g2, g3, g4⟩ := cells5 HB5.out
      clear hcell
      cases q with
      | false =>
       have HNO := Aside0.mk (show B.headOf t = none by rw [HHD.out, numbers_none (HQ2.out rfl) ws HYM.out])
       go_wp2_with (fail)
       refine bodyPost_ret (v := .tuple #[.agg #[.int .i64 x0, .int .i64 x1, .int .i64 x2, .int .i64 x3, .int .i64 x4], .slice none 0 0, .bool false]) ?_ rfl ⟨⟨x0, x1, x2, x3, x4, [], none, 0, false, rfl, Or.inr ⟨rfl, HNO.out⟩, by simp, fun w0 _ => Bt.none _⟩, ?_⟩
       ·exact results_ctt (by rfl) _ _ w.heap.size 62 _ (0, 0) _ rfl (row5 HA5.out) Tryz.underlying62 rfl (by kernel_rfl) _ _ rfl rfl
       ·exact ((((H5.out.setCell (Nat.le_refl _) _).setCell (Nat.le_refl _) _).setCell (Nat.le_refl _) _).setCell (Nat.le_refl _) _).setCell (Nat.le_refl _) _
      | true =>
       have hck := cell5 HB5.out k hlt
       have hfk : w5.frozen? ⟨w.heap.size + 1, k, none⟩ = false := unfroz HB5.out k
       go_wp2_with (fail)
       go_roundg (gk - 1)
       case measure => omega
       case rel =>
        obtain ⟨y0, y1, y2, y3, y4, hr, ht⟩ := set5 HB5.out k hlt v
        refine ⟨k + 1, y0, y1, y2, y3, y4, by go_num, by omega, by omega, ⟨?_, H5.out.setCell (show w.heap.size ≤ w.heap.size + 1 from Nat.le_succ _) _, hr, ?_, ?_⟩⟩
        ·rw [ht, List.take_add_one, List.getElem?_eq_getElem (by rw [HWSL.out]; exact hlt), Option.toList_some, numbers_snoc, H.out.1]
         have : ws[k]'(by rw [HWSL.out]; exact hlt) = y := by
          rw [HY.out, List.getD_eq_getElem?_getD, List.getElem?_eq_getElem (by rw [HWSL.out]; exact hlt)]; rfl
         rw [this, HQ1.out (by trivial)]
        ·rw [Below.heap_setCell _ _ _ _ (by simp)]
         exact HA5.out
        ·rw [Below.heap_setCell _ _ _ _ (show w1.heap.size ≠ w.heap.size + 1 by have := H1S.out; omega)]
         exact HW5.out
     ·have hke : k = 5 := by omega
      subst hke
      have hnums : B.numbers ws = some [x0, x1, x2, x3, x4] := by
       have := H.out.1
       rw [show ws.take 5 = ws by rw [← HWSL.out, List.take_length]] at this
       exact this
      obtain ⟨⟨a0, a1, a2, a3, a4⟩, f0, f1, f2, f3, f4⟩ := cells5 H.out.2.2.2.1
      obtain ⟨⟨b0, b1, b2, b3, b4⟩, g0, g1, g2, g3, g4⟩ := cells5 H.out.2.2.1
      have HOK := Aside0.mk (show B.headOf t = if x0 ≤ 1 ∧ x3 = rest.length then some ([x0, x1, x2, x3, x4], rest) else none by rw [HHD.out, hnums]; rfl)
      clear hnums
      by_cases h0 : x0 ≤ 1
      ·by_cases h3 : x3 = (rest.length : Int)
       ·have h3' : (x3 == (rest.length : Int)) = true := beq_iff_eq.2 h3
        have HF := Aside0.mk (show headOk t [x0, x1, x2, x3, x4] rest true from Or.inl ⟨rfl, by rw [HOK.out, if_pos ⟨h0, h3⟩]⟩)
        clear h3
        go_wp2_with (fail)
        go_region_held3 (fun w' => w'.cell? ⟨w.heap.size + 1, 0, none⟩ = some (.int .i64 x0) ∧ w'.cell? ⟨w.heap.size + 1, 1, none⟩ = some (.int .i64 x1) ∧ w'.cell? ⟨w.heap.size + 1, 2, none⟩ = some (.int .i64 x2) ∧ w'.cell? ⟨w.heap.size + 1, 3, none⟩ = some (.int .i64 x3) ∧ w'.cell? ⟨w.heap.size + 1, 4, none⟩ = some (.int .i64 x4)) (first | go_keep | exact ⟨b0, b1, b2, b3, b4⟩) (fail)
        all_goals
         go_wp2_with (fail)
         refine bodyPost_ret (v := .tuple #[.agg #[.int .i64 x0, .int .i64 x1, .int .i64 x2, .int .i64 x3, .int .i64 x4], .slice A3 rest.length c3, .bool true]) ?_ rfl ⟨⟨x0, x1, x2, x3, x4, rest, A3, c3, true, rfl, HF.out, HCL.out.2.1, fun w0 h0 => (HQ.out w0 h0).2⟩, ?_⟩
         ·exact results_ctt (by rfl) _ _ w.heap.size 62 _ (0, 0) _ rfl (row5d H.out.2.2.2.1) Tryz.underlying62 rfl (by kernel_rfl) _ _ rfl (by first | rfl | (simp; done))
         ·exact (((((H.out.2.1.setCell (Nat.le_refl _) _).setCell (Nat.le_refl _) _).setCell (Nat.le_refl _) _).setCell (Nat.le_refl _) _).setCell (Nat.le_refl _) _).drew
       ·have h3' : (x3 == (rest.length : Int)) = false := beq_eq_false_iff_ne.2 h3
        have HF := Aside0.mk (show headOk t [x0, x1, x2, x3, x4] rest false from Or.inr ⟨rfl, by rw [HOK.out, if_neg (fun h => h3 h.2)]⟩)
        clear h3
        go_wp2_with (fail)
        go_region_held3 (fun w' => w'.cell? ⟨w.heap.size + 1, 0, none⟩ = some (.int .i64 x0) ∧ w'.cell? ⟨w.heap.size + 1, 1, none⟩ = some (.int .i64 x1) ∧ w'.cell? ⟨w.heap.size + 1, 2, none⟩ = some (.int .i64 x2) ∧ w'.cell? ⟨w.heap.size + 1, 3, none⟩ = some (.int .i64 x3) ∧ w'.cell? ⟨w.heap.size + 1, 4, none⟩ = some (.int .i64 x4)) (first | go_keep | exact ⟨b0, b1, b2, b3, b4⟩) (fail)
        all_goals
         go_wp2_with (fail)
         refine bodyPost_ret (v := .tuple #[.agg #[.int .i64 x0, .int .i64 x1, .int .i64 x2, .int .i64 x3, .int .i64 x4], .slice A3 rest.length c3, .bool false]) ?_ rfl ⟨⟨x0, x1, x2, x3, x4, rest, A3, c3, false, rfl, HF.out, HCL.out.2.1, fun w0 h0 => (HQ.out w0 h0).2⟩, ?_⟩
         ·exact results_ctt (by rfl) _ _ w.heap.size 62 _ (0, 0) _ rfl (row5d H.out.2.2.2.1) Tryz.underlying62 rfl (by kernel_rfl) _ _ rfl (by first | rfl | (simp; done))
         ·exact (((((H.out.2.1.setCell (Nat.le_refl _) _).setCell (Nat.le_refl _) _).setCell (Nat.le_refl _) _).setCell (Nat.le_refl _) _).setCell (Nat.le_refl _) _).drew
      ·have h0d : decide (x0 ≤ 1) = false := decide_eq_false h0
       have HF := Aside0.mk (show headOk t [x0, x1, x2, x3, x4] rest false from Or.inr ⟨rfl, by rw [HOK.out, if_neg (fun h => h0 h.1)]⟩)
       clear h0
       go_wp2_with (fail)
       refine wp_region_held_drew (S := (fun w' => w'.cell? ⟨w.heap.size + 1, 0, none⟩ = some (.int .i64 x0) ∧ w'.cell? ⟨w.heap.size + 1, 1, none⟩ = some (.int .i64 x1) ∧ w'.cell? ⟨w.heap.size + 1, 2, none⟩ = some (.int .i64 x2) ∧ w'.cell? ⟨w.heap.size + 1, 3, none⟩ = some (.int .i64 x3) ∧ w'.cell? ⟨w.heap.size + 1, 4, none⟩ = some (.int .i64 x4))) (by kernel_rfl) ?_ (fun hHeld => ?_)
       ·exact ⟨b0, b1, b2, b3, b4⟩
       refine wpAnyH_take (i := 0) (oi := _) (v := ?_) rfl (by kernel_rfl) (by kernel_rfl) (by kernel_rfl) (fun _ _ _ h => h) (Or.inl ⟨by rfl, ?_⟩) (by assumption) ?_
       case refine_2 => (intro w hSw; (try dsimp only [List.getElem_toArray, List.getElem_cons_zero, List.getElem_cons_succ] at hSw ⊢); go_simp; (try with_reducible rfl))
       try simp only [Act.put, List.getElem_toArray, List.getElem_cons_zero, List.getElem_cons_succ, List.setIfInBounds_toArray, List.set_cons_zero, List.set_cons_succ]
       refine wpAnyH_take (i := 1) (oi := _) (v := ?_) rfl (by kernel_rfl) (by kernel_rfl) (by kernel_rfl) (fun _ _ _ h => h) (Or.inl ⟨by rfl, ?_⟩) (by assumption) ?_
       case refine_2 => (intro w hSw; (try dsimp only [List.getElem_toArray, List.getElem_cons_zero, List.getElem_cons_succ] at hSw ⊢); go_simp; (try with_reducible rfl))
       try simp only [Act.put, List.getElem_toArray, List.getElem_cons_zero, List.getElem_cons_succ, List.setIfInBounds_toArray, List.set_cons_zero, List.set_cons_succ]
       refine wpAnyH_take (i := 2) (oi := _) (v := ?_) rfl (by kernel_rfl) (by kernel_rfl) (by kernel_rfl) (fun _ _ _ h => h) (Or.inl ⟨by rfl, ?_⟩) (by assumption) ?_
       case refine_2 => (intro w hSw; (try dsimp only [List.getElem_toArray, List.getElem_cons_zero, List.getElem_cons_succ] at hSw ⊢); go_simp; (try with_reducible rfl))
       try simp only [Act.put, List.getElem_toArray, List.getElem_cons_zero, List.getElem_cons_succ, List.setIfInBounds_toArray, List.set_cons_zero, List.set_cons_succ]
       refine wpAnyH_take (i := 3) (oi := _) (v := ?_) rfl (by kernel_rfl) (by kernel_rfl) (by kernel_rfl) (fun _ _ _ h => h) (Or.inl ⟨by rfl, ?_⟩) (by assumption) ?_
       case refine_2 => (intro w hSw; (try dsimp only [List.getElem_toArray, List.getElem_cons_zero, List.getElem_cons_succ] at hSw ⊢); go_simp; (try with_reducible rfl))
       try simp only [Act.put, List.getElem_toArray, List.getElem_cons_zero, List.getElem_cons_succ, List.setIfInBounds_toArray, List.set_cons_zero, List.set_cons_succ]
       refine wpAnyH_take (i := 4) (oi := _) (v := ?_) rfl (by kernel_rfl) (by kernel_rfl) (by kernel_rfl) (fun _ _ _ h => h) (Or.inl ⟨by rfl, ?_⟩) (by assumption) ?_
       case refine_2 => (intro w hSw; (try dsimp only [List.getElem_toArray, List.getElem_cons_zero, List.getElem_cons_succ] at hSw ⊢); go_simp; (try with_reducible rfl))
       try simp only [Act.put, List.getElem_toArray, List.getElem_cons_zero, List.getElem_cons_succ, List.setIfInBounds_toArray, List.set_cons_zero, List.set_cons_succ]
       refine wpAnyH_take (i := 5) (oi := _) (v := ?_) rfl (by kernel_rfl) (by kernel_rfl) (by kernel_rfl) (fun _ _ _ h => h) (Or.inl ⟨by rfl, ?_⟩) (by assumption) ?_
       case refine_2 => (intro w hSw; (try dsimp only [List.getElem_toArray, List.getElem_cons_zero, List.getElem_cons_succ] at hSw ⊢); go_simp; (try with_reducible rfl))
       try simp only [Act.put, List.getElem_toArray, List.getElem_cons_zero, List.getElem_cons_succ, List.setIfInBounds_toArray, List.set_cons_zero, List.set_cons_succ]
       refine wpAnyH_take (i := 6) (oi := _) (v := undef) rfl (by kernel_rfl) (by kernel_rfl) (by kernel_rfl) (fun _ _ _ h => h) (Or.inr ⟨by rfl, rfl⟩) (by assumption) ?_
       try simp only [Act.put, List.getElem_toArray, List.getElem_cons_zero, List.getElem_cons_succ, List.setIfInBounds_toArray, List.set_cons_zero, List.set_cons_succ]
       refine wpAnyH_take (i := 7) (oi := _) (v := undef) rfl (by kernel_rfl) (by kernel_rfl) (by kernel_rfl) (fun _ _ _ h => h) (Or.inr ⟨by rfl, rfl⟩) (by assumption) ?_
       try simp only [Act.put, List.getElem_toArray, List.getElem_cons_zero, List.getElem_cons_succ, List.setIfInBounds_toArray, List.set_cons_zero, List.set_cons_succ]
       refine wpAnyH_take (i := 8) (oi := _) (v := undef) rfl (by kernel_rfl) (by kernel_rfl) (by kernel_rfl) (fun _ _ _ h => h) (Or.inr ⟨by rfl, rfl⟩) (by assumption) ?_
       try simp only [Act.put, List.getElem_toArray, List.getElem_cons_zero, List.getElem_cons_succ, List.setIfInBounds_toArray, List.set_cons_zero, List.set_cons_succ]
       refine wpAnyH_take (i := 9) (oi := _) (v := undef) rfl (by kernel_rfl) (by kernel_rfl) (by kernel_rfl) (fun _ _ _ h => h) (Or.inr ⟨by rfl, rfl⟩) (by assumption) ?_
       try simp only [Act.put, List.getElem_toArray, List.getElem_cons_zero, List.getElem_cons_succ, List.setIfInBounds_toArray, List.set_cons_zero, List.set_cons_succ]
       refine wpAnyH_take (i := 10) (oi := _) (v := undef) rfl (by kernel_rfl) (by kernel_rfl) (by kernel_rfl) (fun _ _ _ h => h) (Or.inr ⟨by rfl, rfl⟩) (by assumption) ?_
       try simp only [Act.put, List.getElem_toArray, List.getElem_cons_zero, List.getElem_cons_succ, List.setIfInBounds_toArray, List.set_cons_zero, List.set_cons_succ]
       refine wpAnyH_take (i := 11) (oi := _) (v := ?_) rfl (by kernel_rfl) (by kernel_rfl) (by kernel_rfl) (fun _ _ _ h => h) (Or.inl ⟨by rfl, ?_⟩) (by assumption) ?_
       case refine_2 => (intro w hSw; (try dsimp only [List.getElem_toArray, List.getElem_cons_zero, List.getElem_cons_succ] at hSw ⊢); go_simp; (try with_reducible rfl))
       try simp only [Act.put, List.getElem_toArray, List.getElem_cons_zero, List.getElem_cons_succ, List.setIfInBounds_toArray, List.set_cons_zero, List.set_cons_succ]
       refine wpAnyH_ready (rs := [12]) (by kernel_rfl) (by simp) ?_
       refine AllReadyH.cons (o := _) rfl (fun K hK => ?_) AllReadyH.nil
       (try dsimp only [List.getElem_toArray, List.getElem_cons_zero, List.getElem_cons_succ])
       go_simp
       refine hK.out _ _ ?_ (fun hHeld2 => ?_)
       ·(try dsimp only); first | go_keep | exact ⟨b0, b1, b2, b3, b4⟩
       clear hK K hHeld
       try simp only [Act.put, List.getElem_toArray, List.getElem_cons_zero, List.getElem_cons_succ, List.setIfInBounds_toArray, List.set_cons_zero, List.set_cons_succ]
       refine wpAnyH_take (i := 13) (oi := _) (v := ?_) rfl (by kernel_rfl) (by kernel_rfl) (by kernel_rfl) (fun _ _ _ h => h) (Or.inl ⟨by rfl, ?_⟩) (by assumption) ?_
       case refine_2 => (intro w hSw; (try dsimp only [List.getElem_toArray, List.getElem_cons_zero, List.getElem_cons_succ] at hSw ⊢); go_simp; (try with_reducible rfl))
       try simp only [Act.put, List.getElem_toArray, List.getElem_cons_zero, List.getElem_cons_succ, List.setIfInBounds_toArray, List.set_cons_zero, List.set_cons_succ]
       refine wpAnyH_take (i := 14) (oi := _) (v := ?_) rfl (by kernel_rfl) (by kernel_rfl) (by kernel_rfl) (fun _ _ _ h => h) (Or.inl ⟨by rfl, ?_⟩) (by assumption) ?_
       case refine_2 => (intro w hSw; (try dsimp only [List.getElem_toArray, List.getElem_cons_zero, List.getElem_cons_succ] at hSw ⊢); go_simp; (try with_reducible rfl))
       try simp only [Act.put, List.getElem_toArray, List.getElem_cons_zero, List.getElem_cons_succ, List.setIfInBounds_toArray, List.set_cons_zero, List.set_cons_succ]
       refine wpAnyH_done (by kernel_rfl) ?_ _
       go_wp2_with (fail)
       refine bodyPost_ret (v := .tuple #[.agg #[.int .i64 x0, .int .i64 x1, .int .i64 x2, .int .i64 x3, .int .i64 x4], .slice A3 rest.length c3, .bool false]) ?_ rfl ⟨⟨x0, x1, x2, x3, x4, rest, A3, c3, false, rfl, HF.out, HCL.out.2.1, fun w0 h0 => (HQ.out w0 h0).2⟩, ?_⟩
       ·exact results_ctt (by rfl) _ _ w.heap.size 62 _ (0, 0) _ rfl (row5d H.out.2.2.2.1) Tryz.underlying62 rfl (by kernel_rfl) _ _ rfl (by first | rfl | (simp; done))
       ·exact (((((H.out.2.1.setCell (Nat.le_refl _) _).setCell (Nat.le_refl _) _).setCell (Nat.le_refl _) _).setCell (Nat.le_refl _) _).setCell (Nat.le_refl _) _).drew
   ·rw [decide_eq_false hxb] at hbe
    have hbn : ((str x).toList != [66, 85, 78, 68, 76, 69]) = true := by rw [bne, hbe]; rfl
    have HNO := Aside0.mk (show B.headOf t = none by rw [HHO.out, if_neg]; intro h; exact hxb (by rw [hx]; exact h.2.2))
    clear hx hxb hlen
    go_wp2_with (fail)
    refine bodyPost_ret (v := .tuple #[.agg #[.int .i64 0, .int .i64 0, .int .i64 0, .int .i64 0, .int .i64 0], .slice none 0 0, .bool false]) ?_ rfl ⟨⟨0, 0, 0, 0, 0, [], none, 0, false, rfl, Or.inr ⟨rfl, HNO.out⟩, by simp, fun w0 _ => Bt.none _⟩, ?_⟩
    ·exact results_ctt (by rfl) _ _ w.heap.size 62 _ (0, 0) _ rfl (row5 HA2.out) Tryz.underlying62 rfl (by kernel_rfl) _ _ rfl rfl
    ·exact ((((H2.out.setCell (Nat.le_refl _) _).setCell (Nat.le_refl _) _).setCell (Nat.le_refl _) _).setCell (Nat.le_refl _) _).setCell (Nat.le_refl _) _
  ·have HNO := Aside0.mk (show B.headOf t = none by rw [HHO.out, if_neg]; intro h; exact hn6 (by rw [HN.out]; exact h.2.1))
   have h6 : ((n : Int) == 6) = false := by rw [beq_eq_false_iff_ne]; omega
   have h6' : ((n : Int) != 6) = true := by rw [bne, h6]; rfl
   clear hn6
   go_wp2_with (fail)
   refine bodyPost_ret (v := .tuple #[.agg #[.int .i64 0, .int .i64 0, .int .i64 0, .int .i64 0, .int .i64 0], .slice none 0 0, .bool false]) ?_ rfl ⟨⟨0, 0, 0, 0, 0, [], none, 0, false, rfl, Or.inr ⟨rfl, HNO.out⟩, by simp, fun w0 _ => Bt.none _⟩, ?_⟩
   ·exact results_ctt (by rfl) _ _ w.heap.size 62 _ (0, 0) _ rfl (row5 HA2.out) Tryz.underlying62 rfl (by kernel_rfl) _ _ rfl rfl
   ·exact ((((H2.out.setCell (Nat.le_refl _) _).setCell (Nat.le_refl _) _).setCell (Nat.le_refl _) _).setCell (Nat.le_refl _) _).setCell (Nat.le_refl _) _
 ·have hen' : ended = false := by simpa using hen
  subst hen'
  have HNO := Aside0.mk (show B.headOf t = none by rw [HHO.out, if_neg]; intro h; exact absurd h.1 (by decide))
  clear hen
  go_wp2_with (fail)
  refine bodyPost_ret (v := .tuple #[.agg #[.int .i64 0, .int .i64 0, .int .i64 0, .int .i64 0, .int .i64 0], .slice none 0 0, .bool false]) ?_ rfl ⟨⟨0, 0, 0, 0, 0, [], none, 0, false, rfl, Or.inr ⟨rfl, HNO.out⟩, by simp, fun w0 _ => Bt.none _⟩, ?_⟩
  ·exact results_ctt (by rfl) _ _ w.heap.size 62 _ (0, 0) _ rfl (row5 HA2.out) Tryz.underlying62 rfl (by kernel_rfl) _ _ rfl rfl
  ·exact ((((H2.out.setCell (Nat.le_refl _) _).setCell (Nat.le_refl _) _).setCell (Nat.le_refl _) _).setCell (Nat.le_refl _) _).setCell (Nat.le_refl _) _
end Go.Proofs.YtpfmnkpmidjfjaaGreatDoor
/- What bundle's mail answers. -/
namespace Go.Proofs.YtpfmnkpmidjfjaaGreatDoor
open Go.RowKit Go.Lib
open Go.Proofs.YtpfmnkpmidjfjaaGreatDoorW.PrintWords
set_option linter.unusedVariables false
set_option linter.unusedSimpArgs false
theorem cells8 {w : World} {g t : Nat} {x0 x1 x2 x3 x4 x5 x6 x7 : Value} (h : w.heap[g]? = some (.cells #[x0, x1, x2, x3, x4, x5, x6, x7] t (0, 0))) :
  (w.cell? ⟨g, 0, none⟩ = some x0 ∧ w.cell? ⟨g, 1, none⟩ = some x1 ∧ w.cell? ⟨g, 2, none⟩ = some x2 ∧ w.cell? ⟨g, 3, none⟩ = some x3 ∧ w.cell? ⟨g, 4, none⟩ = some x4 ∧ w.cell? ⟨g, 5, none⟩ = some x5 ∧ w.cell? ⟨g, 6, none⟩ = some x6 ∧ w.cell? ⟨g, 7, none⟩ = some x7) ∧ (w.frozen? ⟨g, 0, none⟩ = false ∧ w.frozen? ⟨g, 1, none⟩ = false ∧ w.frozen? ⟨g, 2, none⟩ = false ∧ w.frozen? ⟨g, 3, none⟩ = false ∧ w.frozen? ⟨g, 4, none⟩ = false ∧ w.frozen? ⟨g, 5, none⟩ = false ∧ w.frozen? ⟨g, 6, none⟩ = false ∧ w.frozen? ⟨g, 7, none⟩ = false) := by
 refine ⟨⟨?_, ?_, ?_, ?_, ?_, ?_, ?_, ?_⟩, unfroz h _, unfroz h _, unfroz h _, unfroz h _, unfroz h _, unfroz h _, unfroz h _, unfroz h _⟩ <;> (rw [cell_of_row w g _ _ _ _ h]; rfl)
theorem row8_0 {w : World} {g t : Nat} {fr : Nat × Nat} {x0 x1 x2 x3 x4 x5 x6 x7 : Value} (a : Value) (h : w.heap[g]? = some (.cells #[x0, x1, x2, x3, x4, x5, x6, x7] t fr)) : (w.setCell ⟨g, 0, none⟩ a).heap[g]? = some (.cells #[a, x1, x2, x3, x4, x5, x6, x7] t fr) := setCell_row _ g 0 _ _ _ a h
theorem row8_1 {w : World} {g t : Nat} {fr : Nat × Nat} {x0 x1 x2 x3 x4 x5 x6 x7 : Value} (a : Value) (h : w.heap[g]? = some (.cells #[x0, x1, x2, x3, x4, x5, x6, x7] t fr)) : (w.setCell ⟨g, 1, none⟩ a).heap[g]? = some (.cells #[x0, a, x2, x3, x4, x5, x6, x7] t fr) := setCell_row _ g 1 _ _ _ a h
theorem row8_2 {w : World} {g t : Nat} {fr : Nat × Nat} {x0 x1 x2 x3 x4 x5 x6 x7 : Value} (a : Value) (h : w.heap[g]? = some (.cells #[x0, x1, x2, x3, x4, x5, x6, x7] t fr)) : (w.setCell ⟨g, 2, none⟩ a).heap[g]? = some (.cells #[x0, x1, a, x3, x4, x5, x6, x7] t fr) := setCell_row _ g 2 _ _ _ a h
theorem row8_3 {w : World} {g t : Nat} {fr : Nat × Nat} {x0 x1 x2 x3 x4 x5 x6 x7 : Value} (a : Value) (h : w.heap[g]? = some (.cells #[x0, x1, x2, x3, x4, x5, x6, x7] t fr)) : (w.setCell ⟨g, 3, none⟩ a).heap[g]? = some (.cells #[x0, x1, x2, a, x4, x5, x6, x7] t fr) := setCell_row _ g 3 _ _ _ a h
theorem row8_4 {w : World} {g t : Nat} {fr : Nat × Nat} {x0 x1 x2 x3 x4 x5 x6 x7 : Value} (a : Value) (h : w.heap[g]? = some (.cells #[x0, x1, x2, x3, x4, x5, x6, x7] t fr)) : (w.setCell ⟨g, 4, none⟩ a).heap[g]? = some (.cells #[x0, x1, x2, x3, a, x5, x6, x7] t fr) := setCell_row _ g 4 _ _ _ a h
theorem row8_5 {w : World} {g t : Nat} {fr : Nat × Nat} {x0 x1 x2 x3 x4 x5 x6 x7 : Value} (a : Value) (h : w.heap[g]? = some (.cells #[x0, x1, x2, x3, x4, x5, x6, x7] t fr)) : (w.setCell ⟨g, 5, none⟩ a).heap[g]? = some (.cells #[x0, x1, x2, x3, x4, a, x6, x7] t fr) := setCell_row _ g 5 _ _ _ a h
theorem row8_6 {w : World} {g t : Nat} {fr : Nat × Nat} {x0 x1 x2 x3 x4 x5 x6 x7 : Value} (a : Value) (h : w.heap[g]? = some (.cells #[x0, x1, x2, x3, x4, x5, x6, x7] t fr)) : (w.setCell ⟨g, 6, none⟩ a).heap[g]? = some (.cells #[x0, x1, x2, x3, x4, x5, a, x7] t fr) := setCell_row _ g 6 _ _ _ a h
theorem row8_7 {w : World} {g t : Nat} {fr : Nat × Nat} {x0 x1 x2 x3 x4 x5 x6 x7 : Value} (a : Value) (h : w.heap[g]? = some (.cells #[x0, x1, x2, x3, x4, x5, x6, x7] t fr)) : (w.setCell ⟨g, 7, none⟩ a).heap[g]? = some (.cells #[x0, x1, x2, x3, x4, x5, x6, a] t fr) := setCell_row _ g 7 _ _ _ a h
theorem row8_p {w : World} {g t : Nat} {fr : Nat × Nat} {x0 x1 x2 x3 x4 x5 x6 x7 a b c : Value} (h : w.heap[g]? = some (.cells #[x0, x1, x2, x3, x4, x5, x6, x7] t fr)) : (((w.setCell ⟨g, 0, none⟩ a).setCell ⟨g, 1, none⟩ b).setCell ⟨g, 2, none⟩ c).heap[g]? = some (.cells #[a, b, c, x3, x4, x5, x6, x7] t fr) := row8_2 c (row8_1 b (row8_0 a h))
theorem row8_all {w : World} {g t : Nat} {fr : Nat × Nat} {x0 x1 x2 x3 x4 x5 x6 x7 a0 a1 a2 a3 a4 a5 a6 a7 : Value} (h : w.heap[g]? = some (.cells #[x0, x1, x2, x3, x4, x5, x6, x7] t fr)) : ((((((((w.setCell ⟨g, 0, none⟩ a0).setCell ⟨g, 1, none⟩ a1).setCell ⟨g, 2, none⟩ a2).setCell ⟨g, 3, none⟩ a3).setCell ⟨g, 4, none⟩ a4).setCell ⟨g, 5, none⟩ a5).setCell ⟨g, 6, none⟩ a6).setCell ⟨g, 7, none⟩ a7).heap[g]? = some (.cells #[a0, a1, a2, a3, a4, a5, a6, a7] t fr) :=
 row8_7 a7 (row8_6 a6 (row8_5 a5 (row8_4 a4 (row8_3 a3 (row8_2 a2 (row8_1 a1 (row8_0 a0 h)))))))
theorem drew_row {W : World} {g : Nat} {o : Obj} (h : W.heap[g]? = some o) : W.drew.heap[g]? = some o := h
theorem below8 {w W : World} {g : Nat} {a0 a1 a2 a3 a4 a5 a6 a7 : Value} (h : Below w.heap.size w W) (hg : w.heap.size ≤ g) : Below w.heap.size w ((((((((W.setCell ⟨g, 0, none⟩ a0).setCell ⟨g, 1, none⟩ a1).setCell ⟨g, 2, none⟩ a2).setCell ⟨g, 3, none⟩ a3).setCell ⟨g, 4, none⟩ a4).setCell ⟨g, 5, none⟩ a5).setCell ⟨g, 6, none⟩ a6).setCell ⟨g, 7, none⟩ a7) :=
 (((((((h.setCell hg _).setCell hg _).setCell hg _).setCell hg _).setCell hg _).setCell hg _).setCell hg _).setCell hg _
theorem infoU8i : ∃ i, Tryz.prog.info? 5 = some i ∧ i.size = 1 := by
 obtain ⟨i0, hi, hzz⟩ := Option.map_eq_some_iff.1 infoU8
 simp only [Prod.mk.injEq] at hzz
 exact ⟨i0, hi, hzz.2.1⟩
theorem sl_from {A : Option Addr} {n c m : Nat} (hm : m ≤ n) (W : World) : (Instr.slice 25 (.slice A n c) (some (.int .i64 (m : Int))) none none).run Tryz.prog W = .ok (.slice (if c = m then A else A.map (fun x => x.add m)) (n - m) (c - m)) W := by
 obtain ⟨i, hi, hsz⟩ := infoU8i
 have ht := Tryz.underlying25
 have hel : Tryz.prog.elem 25 = 5 := by simp [Program.elem, ht]
 have hu : Tryz.prog.underlying 25 = some (.slice (Tryz.prog.elem 25)) := by rw [hel]; exact ht
 rw [run_slice_l W 25 A n c hu .i64 (m : Int) (Int.natCast_nonneg _) (by omega), hel]
 simp [sizeOf, typeInfo, hi, hsz, sliced, Result.andThen]
theorem infoPath : (Tryz.prog.info? 43).map (fun i => (i.zero, i.size, i.bytes)) = some (some (.agg #[.bool false, .string ⟨#[]⟩, .string ⟨#[]⟩]), 3, 40) := by kernel_rfl
theorem R_set {α : Type} {d : Kd α} {e : Nat} {w : World} {base : Nat} {v : Value} {xs : List α} (h : d.R e w base (fun _ => True) v xs) {g j t : Nat} {cells : Array Value} (u : Value) (hr : w.heap[g]? = some (.cells cells t (0, 0))) (ht : ∀ q, q ∈ e :: d.E → q ≠ t) : d.R e (w.setCell ⟨g, j, none⟩ u) base (fun _ => True) v xs :=
 Kd.R_mono (Kd.R_move (Kd.R_bound h) (fun k hk => Below.heap_setCell w ⟨g, j, none⟩ u k (fun e => by
  obtain ⟨_, _, _, q, hq, cs, hc⟩ := hk
  have e' : k = g := e
  rw [e', hr] at hc
  injection hc with hc
  injection hc with _ hc _
  exact ht q hq hc.symm))) (fun _ _ => trivial)
abbrev Ps (b : Nat) (w : World) (v : Value) (xs : List V.Path) : Prop := kPath.R 43 w b (fun _ => True) v xs
theorem kMail_mkM {w : World} {base : Nat} {m : B.Mail} {A : Option Addr} {c : Nat} {A2 : Option Addr} {c2 : Nat} (h : Ps base w (.slice A m.to.length c) m.to) (h2 : Ow base w (.slice A2 m.body.length c2) m.body) : kMail.M w base (fun _ => True) m (mcs m A c A2 c2) :=
 ⟨pcs m.frm, [_, _, _, _, _], rfl, kPath_mkM w base _ m.frm, ⟨[_], [_, _, _, _], rfl, ⟨_, rfl, h⟩, ⟨[_], [_, _, _], rfl, ⟨_, rfl, h2⟩, ⟨[_], [_, _], rfl, rfl, ⟨[_], [_], rfl, rfl, rfl⟩⟩⟩⟩⟩
def mailOk (l : B.Bs) (m : B.Mail) (r : B.Bs) (is : Bool) : Prop := (is = true ∧ B.mail l = some (m, r)) ∨ (is = false ∧ B.mail l = none)
def mailPost (A : Option Addr) (c : Nat) (l : B.Bs) (base : Nat) (e : Ending) (w' : World) : Prop := ∃ m r is A1 c1 A2 c2 A' c', e = .returned (.tuple #[.agg #[.bool m.frm.null, .string (str m.frm.loc), .string (str m.frm.dom), .slice A1 m.to.length c1, .slice A2 m.body.length c2, .bool m.quiet, .string (str m.helo), .int .i64 m.tm], .slice A' r.length c', .bool is]) ∧ mailOk l m r is ∧ kMail.M w' base (fun _ => True) m (mcs m A1 c1 A2 c2) ∧ r.length ≤ l.length ∧ ∀ w0, Bt w0 A c l → Bt w0 A' c' r
theorem noMailM (w : World) (base : Nat) : kMail.M w base (fun _ => True) B.noMail (mcs B.noMail none 0 none 0) := kMail_mkM (Kd.R_nil _ _ _ _ _) (Ow.none _ _)
theorem tos_step {k : Nat} {r r' : B.Bs} {p : V.Path} (h : B.cutLine r B.wTo = some (p, r')) : B.tos (k + 1) r = (p :: (B.tos k r').1, (B.tos k r').2) := by
 rw [B.tos, h]
theorem tos_stop {k : Nat} {r : B.Bs} (h : B.cutLine r B.wTo = none) : B.tos k r = ([], r) := by
 cases k with
 | zero => rfl
 | succ k => rw [B.tos, h]
theorem strip_le {l s : B.Bs} {n : Nat} (h : B.strip l = some (s, n)) : n ≤ l.length := by
 unfold B.strip at h
 cases hd : B.dot l with
 | none => rw [hd] at h; cases h
 | some k =>
  rw [hd] at h
  simp only at h
  have := dot_lt hd
  split at h
  ·obtain ⟨rfl, rfl⟩ := Prod.mk.inj (Option.some.inj h)
   omega
  ·cases h
theorem cutdata_any {A A2 : Option Addr} {c c2 : Nat} {l : B.Bs} {w : World} (hb : Bt w A c l) (hs : Bt w A2 c2 B.wData) :
  Calls Tryz.prog 61 #[.slice A l.length c, .slice A2 6 c2] w fun e w' => (∃ A' c', e = .returned (.tuple #[.slice A' (Lib.trimPrefix l B.wData).length c', .bool (B.wData.isPrefixOf l)]) ∧ ∀ w0, Bt w0 A c l → Bt w0 A' c' (Lib.trimPrefix l B.wData)) ∧ Below w.heap.size w w' := cutpre_any (s := B.wData) hb hs (by decide)
theorem R_set8 {α : Type} {d : Kd α} {e : Nat} {w : World} {base : Nat} {v : Value} {xs : List α} (h : d.R e w base (fun _ => True) v xs) {g t : Nat} {cells : Array Value} (a0 a1 a2 a3 a4 a5 a6 a7 : Value) (hr : w.heap[g]? = some (.cells cells t (0, 0))) (ht : ∀ q, q ∈ e :: d.E → q ≠ t) : d.R e ((((((((w.setCell ⟨g, 0, none⟩ a0).setCell ⟨g, 1, none⟩ a1).setCell ⟨g, 2, none⟩ a2).setCell ⟨g, 3, none⟩ a3).setCell ⟨g, 4, none⟩ a4).setCell ⟨g, 5, none⟩ a5).setCell ⟨g, 6, none⟩ a6).setCell ⟨g, 7, none⟩ a7) base (fun _ => True) v xs :=
 Kd.R_mono (Kd.R_move (Kd.R_bound h) (fun k hk => by
  have hne : k ≠ g := fun e' => by
   obtain ⟨_, _, _, q, hq, cs, hc⟩ := hk
   rw [e', hr] at hc
   injection hc with hc
   injection hc with _ hc _
   exact ht q hq hc.symm
  rw [Below.heap_setCell _ _ _ _ hne, Below.heap_setCell _ _ _ _ hne, Below.heap_setCell _ _ _ _ hne, Below.heap_setCell _ _ _ _ hne, Below.heap_setCell _ _ _ _ hne, Below.heap_setCell _ _ _ _ hne, Below.heap_setCell _ _ _ _ hne, Below.heap_setCell _ _ _ _ hne])) (fun _ _ => trivial)
theorem pathE : ∀ q, q ∈ 43 :: kPath.E → q ≠ 46 := by
 intro q hq
 have : kPath.E = [] := rfl
 rw [this] at hq
 simp at hq
 subst hq
 decide
theorem byteE : ∀ q, q ∈ 5 :: kb.E → q ≠ 46 := by
 intro q hq
 have : kb.E = [] := rfl
 rw [this] at hq
 simp at hq
 subst hq
 decide
theorem drop_trim {l : B.Bs} (h : B.wData.isPrefixOf l = true) : Lib.trimPrefix l B.wData = l.drop 6 := by
 rw [trim_eq, if_pos h]
 rfl
abbrev zM : Array Value := #[.bool false, .string { data := #[] }, .string { data := #[] }, .slice none 0 0, .slice none 0 0, .bool false, .string { data := #[] }, .int .i64 0]
set_option maxRecDepth 100000 in
set_option maxHeartbeats 8000000 in
theorem mail_any {A : Option Addr} {c : Nat} {l : B.Bs} (w : World) (hb : Bt w A c l) (hl : l.length ≤ 100000) (hv : Vars w) :
  Calls Tryz.prog 35 #[.slice A l.length c] w fun e w' => mailPost A c l w.heap.size e w' ∧ Below w.heap.size w w' := by
 have HBT := Aside0.mk hb
 have HV := Aside0.mk hv
 have hbx : ∀ o : Obj, Below w.heap.size w (w.alloc o) := fun o => (Below.refl _ _).alloc (Nat.le_refl _) o
 have HBX := Aside0.mk hbx
 have hrow : (w.alloc (.cells #[.bool false, .string { data := #[] }, .string { data := #[] }, .slice none 0 0, .slice none 0 0, .bool false, .string { data := #[] }, .int .i64 0] 46)).heap[w.heap.size]? = some (.cells #[.bool false, .string { data := #[] }, .string { data := #[] }, .slice none 0 0, .slice none 0 0, .bool false, .string { data := #[] }, .int .i64 0] 46 (0, 0)) := heap_alloc_new _ _
 have HROW := Aside0.mk hrow
 have hc1 : ∀ W, Below w.heap.size w W → Calls Tryz.prog 60 #[.slice A l.length c, .string { data := #[77, 65, 73, 76, 32, 70, 82, 79, 77, 58] }] W fun e w' => cutPost A c l B.wFrom e ∧ Below W.heap.size W w' := fun W hW => bcut_any B.wFrom W (HBT.out.on hW) hl (HV.out.go hW)
 have HC1 := Aside0.mk hc1
 have hlit : ∀ W : World, Bt (W.alloc (.cells #[.int .u8 68, .int .u8 65, .int .u8 84, .int .u8 65, .int .u8 13, .int .u8 10] 5 (6, 7))) (some ⟨W.heap.size, 0, none⟩) 6 B.wData := fun W => Bt.lit B.wData (heap_alloc_new _ _) rfl (by decide)
 have HLIT := Aside0.mk hlit
 have hcv := fun w => Lib.run_convert_bytes_const (P := Tryz.prog) w 25 5 #[.int .u8 68, .int .u8 65, .int .u8 84, .int .u8 65, .int .u8 13, .int .u8 10] 6 6 Tryz.underlying25 Tryz.underlying5
 clear hb hv hbx hrow hc1 hlit
 go_enter Tryz.func35, Tryz.ntmps35
 go_wp2_with (first | (go_at_call 60; (with_reducible refine Calls.mono (HC1.out _ (HBX.out _)) ?_); rintro e w1 ⟨⟨p, r, A1, c1, is, rfl, hok, hrl, hrl2, hbt⟩, h⟩; have H1 := Aside0.mk ((HBX.out _).trans (h.mono (HBX.out _).size)); have HR1 := Aside0.mk (row_on h HROW.out); have HOK := Aside0.mk hok; have HRL := Aside0.mk hrl; have HB1 := Aside0.mk hbt; clear h hok hrl hrl2 hbt; obtain ⟨⟨d0, d1, d2, d3, d4, d5, d6, d7⟩, e0, e1, e2, e3, e4, e5, e6, e7⟩ := cells8 HR1.out))
 rcases HOK.out with ⟨rfl, hcl⟩ | ⟨rfl, hcl⟩
 ·have HCL := Aside0.mk hcl
  clear hcl
  go_loopg [0] r.length (fun gf v0 wr => ∃ (ts : List V.Path) (q : B.Bs) (A0 : Option Addr) (c0 : Nat) (v3 : Value) (k : Nat), v0 = .slice A0 q.length c0 ∧ q.length ≤ gf ∧ gf ≤ r.length ∧ Aside0 (q.length ≤ k ∧ B.tos r.length r = (ts ++ (B.tos k q).1, (B.tos k q).2)) ∧ Aside0 (∀ w0, Bt w0 A c l → Bt w0 A0 c0 q) ∧ Aside0 (ts.length + q.length ≤ l.length) ∧ Aside0 (Below w.heap.size w wr ∧ wr.heap[w.heap.size]? = some (.cells #[.bool p.null, .string (str p.loc), .string (str p.dom), v3, .slice none 0 0, .bool false, .string { data := #[] }, .int .i64 0] 46 (0, 0)) ∧ Ps w.heap.size wr v3 ts))
  case atStart => exact ⟨[], r, A1, c1, .slice none 0 0, r.length, rfl, Nat.le_refl _, Nat.le_refl _, ⟨Nat.le_refl _, by simp⟩, HB1, ⟨by simpa using HRL.out⟩, ⟨((H1.out.setCell (Nat.le_refl _) _).setCell (Nat.le_refl _) _).setCell (Nat.le_refl _) _, row8_p HR1.out, Kd.R_nil _ _ _ _ _⟩⟩
  case round =>
   obtain ⟨ts, q, A0, c0, v3, k, rfl, hq, hgr, HT, HB0, HL0, H⟩ := hrel
   obtain ⟨wx, rfl⟩ : ∃ wz : World, wz = wr := ⟨_, rfl⟩
   obtain ⟨A3, c3, rfl⟩ := Kd.R_slice H.out.2.2
   clear d0 d1 d2 d3 d4 d5 d6 d7 e0 e1 e2 e3 e4 e5 e6 e7
   obtain ⟨⟨d0, d1, d2, d3, d4, d5, d6, d7⟩, e0, e1, e2, e3, e4, e5, e6, e7⟩ := cells8 H.out.2.1
   have hcc : ∀ W, Below w.heap.size w W → Calls Tryz.prog 60 #[.slice A0 q.length c0, .string { data := #[82, 67, 80, 84, 32, 84, 79, 58] }] W fun e w' => cutPost A0 c0 q B.wTo e ∧ Below W.heap.size W w' := fun W hW => bcut_any B.wTo W ((HB0.out w HBT.out).on hW) (by have := HL0.out; omega) (HV.out.go hW)
   have HCC := Aside0.mk hcc
   clear hcc
   go_upto_region 4 with (first | (go_at_call 60; (with_reducible refine Calls.mono (HCC.out _ H.out.1) ?_); rintro e w5 ⟨⟨p2, r2, A5, c5, is2, rfl, hok, hrl, hrl2, hbt⟩, h⟩; have H5 := Aside0.mk (H.out.1.trans (h.mono H.out.1.size)); have HR5 := Aside0.mk (row_on h H.out.2.1); have HP5 := Aside0.mk (Kd.R_below H.out.2.2 h); have HOK2 := Aside0.mk hok; have HRL2 := Aside0.mk hrl; have HRL3 := Aside0.mk hrl2; have HB5 := Aside0.mk hbt; clear h hok hrl hrl2 hbt d0 d1 d2 d3 d4 d5 d6 d7 e0 e1 e2 e3 e4 e5 e6 e7))
   obtain ⟨w6, hw6⟩ : ∃ w6, w6 = w5.alloc (.cells #[.bool p2.null, .string (str p2.loc), .string (str p2.dom)] 43) := ⟨_, rfl⟩
   rw [← hw6]
   have hb6 : Below w5.heap.size w5 w6 := by rw [hw6]; exact (Below.refl _ _).alloc (Nat.le_refl _) _
   have HP6 := Aside0.mk (show w6.heap[w5.heap.size]? = some (.cells #[.bool p2.null, .string (str p2.loc), .string (str p2.dom)] 43 (0, 0)) by rw [hw6]; exact heap_alloc_new _ _)
   have H6 := Aside0.mk (H5.out.trans (hb6.mono H5.out.size))
   have HR6 := Aside0.mk (row_on hb6 HR5.out)
   have HPS6 := Aside0.mk (Kd.R_below HP5.out hb6)
   clear hw6 hb6 HR5 HP5
   obtain ⟨⟨d0, d1, d2, d3, d4, d5, d6, d7⟩, e0, e1, e2, e3, e4, e5, e6, e7⟩ := cells8 HR6.out
   rcases HOK2.out with ⟨rfl, hcl2⟩ | ⟨rfl, hcl2⟩
   ·obtain ⟨f0, f1, f2, f3, f4, f5⟩ := cells3 HP6.out
    have hr2 := HRL3.out (by trivial)
    obtain ⟨k', hk'⟩ : ∃ k', k = k' + 1 := ⟨k - 1, by have := HT.out.1; omega⟩
    have HT2 := Aside0.mk (show r2.length ≤ k' ∧ B.tos r.length r = ((ts ++ [p2]) ++ (B.tos k' r2).1, (B.tos k' r2).2) by
     refine ⟨by have := HT.out.1; omega, ?_⟩
     rw [HT.out.2, hk', tos_step hcl2]
     simp)
    clear hcl2 hk'
    have hlt := HL0.out
    go_wp2_with (first | ((with_reducible refine gate_builtin (b := .append) (xs := #[.tmp 29, .tmp 31]) rfl ?_); at_builtin; refine Kd.R_append kPath (w0 := w) w.heap.size rfl (.tmp 29) (.tmp 31) 44 43 (.agg #[.bool false, .string ⟨#[]⟩, .string ⟨#[]⟩]) 40 rfl Tryz.underlying44 infoPath rfl (by decide) (by omega) (.slice A3 ts.length c3) ts p2 (pcs p2) (fun _ => True) (fun _ => False) rfl rfl (kPath_mkM _ _ _ _) (fun k hk => hk.elim) (fun _ _ => trivial) HPS6.out H6.out H6.out.size (by omega) ?_; intro v1 w7 hR7 hB7 hg7 _; have HR7 := Aside0.mk ((hg7.block w.heap.size (Array.getElem?_eq_some_iff.1 HR6.out).1 (Kd.R_ne HPS6.out HR6.out (by decide))).trans HR6.out); have HB7 := Aside0.mk hB7; obtain ⟨A7, c7, e⟩ := Kd.R_slice hR7; obtain ⟨N7, hN⟩ : ∃ N, N = (ts ++ [p2]).length := ⟨_, rfl⟩; rw [← hN] at e; subst e; have HPS7 := Aside0.mk hR7; have HN7 := Aside0.mk hN; clear hR7 hB7 hg7 hN d0 d1 d2 d3 d4 d5 d6 d7 e0 e1 e2 e3 e4 e5 e6 e7 f0 f1 f2 f3 f4 f5; obtain ⟨⟨d0, d1, d2, d3, d4, d5, d6, d7⟩, e0, e1, e2, e3, e4, e5, e6, e7⟩ := cells8 HR7.out))
    go_roundg (gk - 1)
    case measure => omega
    case rel =>
     refine ⟨ts ++ [p2], r2, A5, c5, .slice A7 N7 c7, k', rfl, by omega, by omega, HT2, ⟨fun w0 h0 => HB5.out w0 (HB0.out w0 h0)⟩, ⟨by simp; omega⟩, ⟨HB7.out.setCell (Nat.le_refl _) _, row8_3 _ HR7.out, R_set HPS7.out _ HR7.out pathE⟩⟩
   ·have HF := Aside0.mk (show B.tos r.length r = (ts, q) by rw [HT.out.2, tos_stop hcl2]; simp)
    clear hcl2
    have HML := Aside0.mk (show B.mail l = if B.wData.isPrefixOf q then (match B.strip (q.drop 6) with | none => none | some (b, n) => some (⟨p, ts, b, false, [], 0⟩, q.drop (6 + n))) else none by unfold B.mail; rw [HCL.out]; simp only; rw [HF.out]; rfl)
    have HAL := Aside0.mk (fun o : Obj => H6.out.alloc H6.out.size o)
    cases hbg : B.wData.isPrefixOf q with
    | false =>
     have HNO := Aside0.mk (show B.mail l = none by rw [HML.out, hbg]; rfl)
     have HBG := Aside0.mk hbg
     clear hbg
     go_wp2_with (first | (go_at_call 61; (with_reducible refine Calls.mono (cutdata_any ((HB0.out w HBT.out).on (HAL.out _)) (HLIT.out _)) ?_); rintro e w8 ⟨⟨A8, c8, rfl, hq⟩, h⟩; have H8 := Aside0.mk ((HAL.out _).trans (h.mono (HAL.out _).size)); have HR8 := Aside0.mk (row_on h (row_on ((Below.refl _ _).alloc (Nat.le_refl _) _) HR6.out)); clear h hq d0 d1 d2 d3 d4 d5 d6 d7 e0 e1 e2 e3 e4 e5 e6 e7; obtain ⟨⟨d0, d1, d2, d3, d4, d5, d6, d7⟩, e0, e1, e2, e3, e4, e5, e6, e7⟩ := cells8 HR8.out; rw [HBG.out]))
     refine bodyPost_ret (v := .tuple #[.agg #[.bool false, .string { data := #[] }, .string { data := #[] }, .slice none 0 0, .slice none 0 0, .bool false, .string { data := #[] }, .int .i64 0], .slice none 0 0, .bool false]) ?_ rfl ⟨⟨B.noMail, [], false, none, 0, none, 0, none, 0, rfl, Or.inr ⟨rfl, HNO.out⟩, noMailM _ _, by simp, fun w0 _ => Bt.none _⟩, ?_⟩
     ·exact results_ctt (by rfl) _ _ w.heap.size 46 _ (0, 0) _ rfl (row8_all HR8.out) Tryz.underlying46 rfl (by kernel_rfl) _ _ rfl rfl
     ·exact below8 H8.out (Nat.le_refl _)
    | true =>
     obtain ⟨q6, hq6⟩ : ∃ q6, q6 = Lib.trimPrefix q B.wData := ⟨_, rfl⟩
     have HQ6 := Aside0.mk (show q6 = q.drop 6 by rw [hq6, drop_trim hbg])
     have HQ6t := Aside0.mk hq6
     have hq6l : q6.length ≤ q.length := by rw [HQ6.out]; simp
     have HML2 := Aside0.mk (show B.mail l = match B.strip q6 with | none => none | some (b, n) => some (⟨p, ts, b, false, [], 0⟩, q6.drop n) by rw [HML.out, hbg, if_pos rfl, ← HQ6.out]; cases B.strip q6 with
      | none => rfl
      | some bn =>
       obtain ⟨b, n⟩ := bn
       simp only
       rw [HQ6.out, List.drop_drop])
     have HBG := Aside0.mk hbg
     have HQL := Aside0.mk hq6l
     clear hbg hq6 hq6l
     cases hst : B.strip q6 with
     | none =>
      have HNO := Aside0.mk (show B.mail l = none by rw [HML2.out, hst])
      obtain ⟨E, hE⟩ : ∃ E : Int, E = if (B.dot q6).isSome then 5 else 9 := ⟨_, rfl⟩
      have hE0 : (E == 0) = false := by rw [hE]; split <;> rfl
      have hE1 : (E != 0) = true := by rw [bne, hE0]; rfl
      have HSP := Aside0.mk (show ∀ W A8 c8, Below w.heap.size w W → Bt W A8 c8 q6 → Calls Tryz.prog 62 #[.slice A8 q6.length c8] W fun e w' => e = .returned (.tuple #[.slice none 0 0, .int .i64 0, .int .i64 E]) ∧ Below W.heap.size W w' from fun W A8 c8 hW h8 => (strip_any W h8 (by have := HQL.out; have := HL0.out; omega) (HV.out.go hW)).mono (fun e w' h => ⟨by have h1 := h.1; unfold stripPost at h1; rw [hst] at h1; rw [hE]; exact h1, h.2⟩))
      clear hst hE
      go_wp2_with (first | (go_at_call 61; (with_reducible refine Calls.mono (cutdata_any ((HB0.out w HBT.out).on (HAL.out _)) (HLIT.out _)) ?_); rintro e w8 ⟨⟨A8, c8, rfl, hq⟩, h⟩; have H8 := Aside0.mk ((HAL.out _).trans (h.mono (HAL.out _).size)); have HR8 := Aside0.mk (row_on h (row_on ((Below.refl _ _).alloc (Nat.le_refl _) _) HR6.out)); have HB8 := Aside0.mk (hq w (HB0.out w HBT.out)); clear h hq d0 d1 d2 d3 d4 d5 d6 d7 e0 e1 e2 e3 e4 e5 e6 e7; rw [HBG.out, ← HQ6t.out]) | (go_at_call 62; (with_reducible refine Calls.mono (HSP.out _ _ _ H8.out ((by rw [HQ6t.out]; exact HB8.out.on H8.out))) ?_); rintro e w9 ⟨rfl, h⟩; have H9 := Aside0.mk (H8.out.trans (h.mono H8.out.size)); have HR9 := Aside0.mk (row_on h HR8.out); clear h; obtain ⟨⟨d0, d1, d2, d3, d4, d5, d6, d7⟩, e0, e1, e2, e3, e4, e5, e6, e7⟩ := cells8 HR9.out))
      refine bodyPost_ret (v := .tuple #[.agg #[.bool false, .string { data := #[] }, .string { data := #[] }, .slice none 0 0, .slice none 0 0, .bool false, .string { data := #[] }, .int .i64 0], .slice none 0 0, .bool false]) ?_ rfl ⟨⟨B.noMail, [], false, none, 0, none, 0, none, 0, rfl, Or.inr ⟨rfl, HNO.out⟩, noMailM _ _, by simp, fun w0 _ => Bt.none _⟩, ?_⟩
      ·exact results_ctt (by rfl) _ _ w.heap.size 46 _ (0, 0) _ rfl (row8_all HR9.out) Tryz.underlying46 rfl (by kernel_rfl) _ _ rfl rfl
      ·exact below8 H9.out (Nat.le_refl _)
     | some bn =>
      obtain ⟨body, nx⟩ := bn
      have HYES := Aside0.mk (show B.mail l = some (⟨p, ts, body, false, [], 0⟩, q6.drop nx) by rw [HML2.out, hst])
      have hnx := strip_le hst
      have HSP := Aside0.mk (show ∀ W A8 c8, Below w.heap.size w W → Bt W A8 c8 q6 → Calls Tryz.prog 62 #[.slice A8 q6.length c8] W fun e w' => (∃ v, e = .returned (.tuple #[v, .int .i64 nx, .int .i64 0]) ∧ Ow W.heap.size w' v body) ∧ Below W.heap.size W w' from fun W A8 c8 hW h8 => (strip_any W h8 (by have := HQL.out; have := HL0.out; omega) (HV.out.go hW)).mono (fun e w' h => ⟨by have h1 := h.1; unfold stripPost at h1; rw [hst] at h1; exact h1, h.2⟩))
      obtain ⟨q9, hq9⟩ : ∃ q9, q9 = q6.drop nx := ⟨_, rfl⟩
      have hq9l : q9.length = q6.length - nx := by rw [hq9, List.length_drop]
      have HQ9 := Aside0.mk hq9
      have HNX := Aside0.mk hnx
      have HQ9l := Aside0.mk hq9l
      clear hst hq9 hnx hq9l
      go_upto_region 13 with (first | (go_at_call 61; (with_reducible refine Calls.mono (cutdata_any ((HB0.out w HBT.out).on (HAL.out _)) (HLIT.out _)) ?_); rintro e w8 ⟨⟨A8, c8, rfl, hq⟩, h⟩; have H8 := Aside0.mk ((HAL.out _).trans (h.mono (HAL.out _).size)); have HR8 := Aside0.mk (row_on h (row_on ((Below.refl _ _).alloc (Nat.le_refl _) _) HR6.out)); have HP8 := Aside0.mk (Kd.R_below (Kd.R_below HPS6.out ((Below.refl _ _).alloc (Nat.le_refl _) _)) h); have HQF := Aside0.mk (fun w0 h0 => hq w0 (HB0.out w0 h0)); clear h hq d0 d1 d2 d3 d4 d5 d6 d7 e0 e1 e2 e3 e4 e5 e6 e7; rw [HBG.out, ← HQ6t.out]; rw [← HQ6t.out] at HQF) | (go_at_call 62; (with_reducible refine Calls.mono (HSP.out _ _ _ H8.out ((HQF.out w HBT.out).on H8.out)) ?_); rintro e w9 ⟨⟨v9, rfl, ho9⟩, h⟩; have H9 := Aside0.mk (H8.out.trans (h.mono H8.out.size)); have HR9 := Aside0.mk (row_on h HR8.out); have HP9 := Aside0.mk (Kd.R_below HP8.out h); obtain ⟨A9, c9, rfl, _⟩ := Ow.bt ho9; have HO9 := Aside0.mk (ho9.low H8.out.size); clear h ho9; obtain ⟨⟨d0, d1, d2, d3, d4, d5, d6, d7⟩, e0, e1, e2, e3, e4, e5, e6, e7⟩ := cells8 HR9.out))
      obtain ⟨wb, hwb⟩ : ∃ wb, wb = w9.setCell ⟨w.heap.size, 4, none⟩ (.slice A9 body.length c9) := ⟨_, rfl⟩
      rw [← hwb]
      have HRb := Aside0.mk (show wb.heap[w.heap.size]? = some (.cells #[.bool p.null, .string (str p.loc), .string (str p.dom), .slice A3 ts.length c3, .slice A9 body.length c9, .bool false, .string { data := #[] }, .int .i64 0] 46 (0, 0)) by rw [hwb]; exact row8_4 _ HR9.out)
      have HBb := Aside0.mk (show Below w.heap.size w wb by rw [hwb]; exact H9.out.setCell (Nat.le_refl _) _)
      have HPb := Aside0.mk (show Ps w.heap.size wb (.slice A3 ts.length c3) ts by rw [hwb]; exact R_set HP9.out _ HR9.out pathE)
      have HOb := Aside0.mk (show Ow w.heap.size wb (.slice A9 body.length c9) body by rw [hwb]; exact R_set HO9.out _ HR9.out byteE)
      clear hwb d0 d1 d2 d3 d4 d5 d6 d7 e0 e1 e2 e3 e4 e5 e6 e7
      obtain ⟨⟨d0, d1, d2, d3, d4, d5, d6, d7⟩, e0, e1, e2, e3, e4, e5, e6, e7⟩ := cells8 HRb.out
      obtain ⟨A10, hA10⟩ : ∃ A10, A10 = if c8 = nx then A8 else A8.map (fun x => x.add nx) := ⟨_, rfl⟩
      have hsl : ∀ W, (Instr.slice 25 (.slice A8 q6.length c8) (some (.int .i64 (nx : Int))) none none).run Tryz.prog W = .ok (.slice A10 q9.length (c8 - nx)) W := fun W => by rw [hA10, HQ9l.out]; exact sl_from HNX.out W
      have HQ10 := Aside0.mk (show ∀ w0, Bt w0 A c l → Bt w0 A10 (c8 - nx) q9 from fun w0 h0 => by rw [hA10, HQ9.out]; exact (HQF.out w0 h0).drop nx HNX.out)
      clear hA10
      have HS8 := Aside0.mk (cells8 (drew_row (row8_all (a0 := .bool p.null) (a1 := .string (str p.loc)) (a2 := .string (str p.dom)) (a3 := .slice A3 ts.length c3) (a4 := .slice A9 body.length c9) (a5 := .bool false) (a6 := .string { data := #[] }) (a7 := .int .i64 0) HRb.out))).1
      go_region_held3 (fun w' => w'.cell? ⟨w.heap.size, 0, none⟩ = some (.bool p.null) ∧ w'.cell? ⟨w.heap.size, 1, none⟩ = some (.string (str p.loc)) ∧ w'.cell? ⟨w.heap.size, 2, none⟩ = some (.string (str p.dom)) ∧ w'.cell? ⟨w.heap.size, 3, none⟩ = some (.slice A3 ts.length c3) ∧ w'.cell? ⟨w.heap.size, 4, none⟩ = some (.slice A9 body.length c9) ∧ w'.cell? ⟨w.heap.size, 5, none⟩ = some (.bool false) ∧ w'.cell? ⟨w.heap.size, 6, none⟩ = some (.string { data := #[] }) ∧ w'.cell? ⟨w.heap.size, 7, none⟩ = some (.int .i64 0)) (first | (with_reducible exact HS8.out) | go_keep) (fail)
      go_wp2_with (fail)
      refine bodyPost_ret (v := .tuple #[.agg #[.bool p.null, .string (str p.loc), .string (str p.dom), .slice A3 ts.length c3, .slice A9 body.length c9, .bool false, .string { data := #[] }, .int .i64 0], .slice A10 q9.length (c8 - nx), .bool true]) ?_ rfl ⟨⟨⟨p, ts, body, false, [], 0⟩, q9, true, A3, c3, A9, c9, A10, c8 - nx, rfl, Or.inl ⟨rfl, by rw [HYES.out, HQ9.out]⟩, ?_, ?_, HQ10.out⟩, ?_⟩
      ·exact results_ctt (by rfl) _ _ w.heap.size 46 _ (0, 0) _ rfl (drew_row (row8_all HRb.out)) Tryz.underlying46 rfl (by kernel_rfl) _ _ rfl rfl
      ·exact kMail_mkM (Kd.R_drew (R_set8 HPb.out _ _ _ _ _ _ _ _ HRb.out pathE)) (Kd.R_drew (R_set8 HOb.out _ _ _ _ _ _ _ _ HRb.out byteE))
      ·have h1 := HQ9l.out
       have h2 := HQL.out
       have h3 := HL0.out
       omega
      ·exact (below8 HBb.out (Nat.le_refl _)).drew
 ·have HNO := Aside0.mk (show B.mail l = none by unfold B.mail; rw [hcl])
  clear hcl
  go_loopg [0] 0 (fun gf v0 wr => v0 = .slice A1 r.length c1 ∧ Aside0 (Below w.heap.size w wr ∧ ∃ x0 x1 x2, wr.heap[w.heap.size]? = some (.cells #[x0, x1, x2, .slice none 0 0, .slice none 0 0, .bool false, .string { data := #[] }, .int .i64 0] 46 (0, 0))))
  case atStart => exact ⟨rfl, ⟨((H1.out.setCell (Nat.le_refl _) _).setCell (Nat.le_refl _) _).setCell (Nat.le_refl _) _, _, _, _, row8_p HR1.out⟩⟩
  case round =>
   obtain ⟨rfl, H⟩ := hrel
   obtain ⟨wx, rfl⟩ : ∃ wz : World, wz = wr := ⟨_, rfl⟩
   obtain ⟨hbw, x0, x1, x2, hrw⟩ := H.out
   have HBW := Aside0.mk hbw
   have HRW := Aside0.mk hrw
   clear hbw hrw d0 d1 d2 d3 d4 d5 d6 d7 e0 e1 e2 e3 e4 e5 e6 e7
   go_wp2_with (first | (go_at_call 61; (with_reducible refine Calls.mono (cutdata_any ((HB1.out w HBT.out).on (HBW.out.alloc HBW.out.size _)) (HLIT.out _)) ?_); rintro e w5 ⟨⟨A6, c6, rfl, hq⟩, h⟩; have H5 := Aside0.mk ((HBW.out.alloc HBW.out.size _).trans (h.mono (HBW.out.alloc HBW.out.size _).size)); have HR5 := Aside0.mk (row_on h (row_on ((Below.refl _ _).alloc (Nat.le_refl _) _) HRW.out)); clear h hq; obtain ⟨⟨d0, d1, d2, d3, d4, d5, d6, d7⟩, e0, e1, e2, e3, e4, e5, e6, e7⟩ := cells8 HR5.out))
   refine bodyPost_ret (v := .tuple #[.agg #[.bool false, .string { data := #[] }, .string { data := #[] }, .slice none 0 0, .slice none 0 0, .bool false, .string { data := #[] }, .int .i64 0], .slice none 0 0, .bool false]) ?_ rfl ⟨⟨B.noMail, [], false, none, 0, none, 0, none, 0, rfl, Or.inr ⟨rfl, HNO.out⟩, noMailM _ _, by simp, fun w0 _ => Bt.none _⟩, ?_⟩
   ·exact results_ctt (by rfl) _ _ w.heap.size 46 _ (0, 0) _ rfl (row8_all HR5.out) Tryz.underlying46 rfl (by kernel_rfl) _ _ rfl rfl
   ·exact below8 H5.out (Nat.le_refl _)
end Go.Proofs.YtpfmnkpmidjfjaaGreatDoor
/- What bundle's Read answers. -/
namespace Go.Proofs.YtpfmnkpmidjfjaaGreatDoor
open Go.RowKit Go.Lib
open Go.Proofs.YtpfmnkpmidjfjaaGreatDoorW.PrintWords
set_option linter.unusedVariables false
set_option linter.unusedSimpArgs false
theorem pparse_fit {x : B.Bs} {p : V.Path} (h : V.pparse x = some p) : p.loc.length ≤ x.length ∧ p.dom.length ≤ x.length := by
 unfold V.pparse at h
 split at h
 ·obtain rfl := Option.some.inj h
  simp
 ·split at h
  ·cases hc : V.cutAt 64 (x.tail.dropLast) with
   | none => rw [hc] at h; cases h
   | some ab =>
    obtain ⟨a, b⟩ := ab
    rw [hc] at h
    simp only at h
    obtain ⟨h1, _⟩ := V.cutAt_some hc
    have h2 := congrArg List.length h1
    simp at h2
    split at h
    ·obtain rfl := Option.some.inj h
     simp only
     omega
    ·cases h
  ·cases h
theorem cutLine_fit {l b r : B.Bs} {p : V.Path} (h : B.cutLine l b = some (p, r)) : (p.loc.length ≤ l.length ∧ p.dom.length ≤ l.length) ∧ r.length + 2 ≤ l.length := by
 unfold B.cutLine at h
 cases hc : B.cut l with
 | none => rw [hc] at h; cases h
 | some q =>
  obtain ⟨a, r2⟩ := q
  rw [hc] at h
  simp only at h
  have hl := (cut_take hc).2.2
  split at h
  ·cases hp : V.pparse (a.drop b.length) with
   | none => rw [hp] at h; cases h
   | some p2 =>
    rw [hp] at h
    obtain ⟨rfl, rfl⟩ := Prod.mk.inj (Option.some.inj h)
    have := pparse_fit hp
    simp at this
    omega
  ·cases h
theorem tos_fit : ∀ (k : Nat) (r : B.Bs), (∀ p ∈ (B.tos k r).1, p.loc.length ≤ r.length ∧ p.dom.length ≤ r.length) ∧ (B.tos k r).1.length + (B.tos k r).2.length ≤ r.length
 | 0, r => by
  unfold B.tos
  simp
 | k + 1, r => by
  unfold B.tos
  cases hc : B.cutLine r B.wTo with
  | none => simp
  | some q =>
   obtain ⟨p, r2⟩ := q
   obtain ⟨h1, h2⟩ := cutLine_fit hc
   obtain ⟨h3, h4⟩ := tos_fit k r2
   simp only
   refine ⟨fun x hx => ?_, ?_⟩
   ·rcases List.mem_cons.1 hx with rfl | hx
    ·exact h1
    ·have := h3 x hx
     omega
   ·simp only [List.length_cons]
    omega
theorem lines_sum : ∀ (n : Nat) (l : B.Bs), l.length ≤ n → ((B.lines l).flatMap B.undot).length ≤ l.length
 | n, l, hn => by
  rw [B.lines_cut]
  cases hc : B.cut l with
  | none => simp
  | some q =>
   obtain ⟨a, r⟩ := q
   have hl := (cut_take hc).2.2
   simp only [List.flatMap_cons, List.length_append]
   cases n with
   | zero => omega
   | succ n =>
    have ih := lines_sum n r (by omega)
    have h1 := trim_len a
    rw [undot_trim, List.length_append]
    have h2 : ([13, 10] : B.Bs).length = 2 := rfl
    omega
theorem strip_fit {l s : B.Bs} {n : Nat} (h : B.strip l = some (s, n)) : s.length ≤ l.length := by
 unfold B.strip at h
 cases hd : B.dot l with
 | none => rw [hd] at h; cases h
 | some k =>
  rw [hd] at h
  simp only at h
  split at h
  ·obtain ⟨rfl, rfl⟩ := Prod.mk.inj (Option.some.inj h)
   have := lines_sum _ (l.take k) (Nat.le_refl _)
   have h2 : (l.take k).length ≤ l.length := by rw [List.length_take]; omega
   omega
  ·cases h
theorem mail_fit {l r : B.Bs} {m : B.Mail} (h : B.mail l = some (m, r)) (hl : l.length ≤ 100000) : B.Fit m ∧ r.length ≤ l.length := by
 unfold B.mail at h
 cases hc : B.cutLine l B.wFrom with
 | none => rw [hc] at h; cases h
 | some q =>
  obtain ⟨p, r1⟩ := q
  rw [hc] at h
  simp only at h
  obtain ⟨h1, h2⟩ := cutLine_fit hc
  obtain ⟨h3, h4⟩ := tos_fit r1.length r1
  split at h
  ·cases hs : B.strip ((B.tos r1.length r1).2.drop 6) with
   | none => rw [hs] at h; cases h
   | some bn =>
    obtain ⟨b, n⟩ := bn
    rw [hs] at h
    simp only at h
    obtain ⟨rfl, rfl⟩ := Prod.mk.inj (Option.some.inj h)
    have h5 := strip_fit hs
    rw [List.length_drop] at h5
    refine ⟨⟨?_, ?_, ?_, ?_, ?_⟩, ?_⟩
    ·exact ⟨by simp only; omega, by simp only; omega⟩
    ·intro x hx
     have := h3 x hx
     exact ⟨by omega, by omega⟩
    ·show (B.tos r1.length r1).1.length ≤ 100000
     omega
    ·show b.length ≤ 100000
     omega
    ·show ([] : B.Bs).length ≤ 100000
     simp
    ·rw [List.length_drop]; omega
  ·cases h
theorem mails_fit : ∀ (k : Nat) (l : B.Bs), l.length ≤ 100000 → (∀ m ∈ B.mails k l, B.Fit m) ∧ (B.mails k l).length ≤ k
 | 0, l, _ => by simp [B.mails]
 | k + 1, l, hl => by
  unfold B.mails
  cases hm : B.mail l with
  | none => simp
  | some q =>
   obtain ⟨m, r⟩ := q
   obtain ⟨h1, h2⟩ := mail_fit hm hl
   obtain ⟨h3, h4⟩ := mails_fit k r (by omega)
   simp only
   refine ⟨fun x hx => ?_, by simp; omega⟩
   rcases List.mem_cons.1 hx with rfl | hx
   ·exact h1
   ·exact h3 x hx
theorem infoMail : (Tryz.prog.info? 46).map (fun i => (i.zero, i.size, i.bytes)) = some (some (.agg #[.bool false, .string ⟨#[]⟩, .string ⟨#[]⟩, .slice none 0 0, .slice none 0 0, .bool false, .string ⟨#[]⟩, .int .i64 0]), 8, 120) := by kernel_rfl
abbrev Ns (b g : Nat) (w : World) (v : Value) (ms : List B.Mail) : Prop := kMail.N 46 w b (fun k => g < k) v ms
theorem mail_FK {W : World} {b : Nat} {m : B.Mail} {cs : List Value} (h : kMail.M W b (fun _ => True) m cs) : Kd.FK kMail W (fun k => b ≤ k) m cs :=
 Kd.FK_mono (Kd.FK_of_M (kMail.M_bound h)) (fun k hk => hk.2.1)
theorem row3_2 {w : World} {g t : Nat} {fr : Nat × Nat} {x0 x1 x2 : Value} (a : Value) (h : w.heap[g]? = some (.cells #[x0, x1, x2] t fr)) : (w.setCell ⟨g, 2, none⟩ a).heap[g]? = some (.cells #[x0, x1, a] t fr) := setCell_row _ g 2 _ _ _ a h
def readPost (t : B.Bs) (e : Ending) (w' : World) : Prop := ∃ A c, e = .returned (.tuple #[.agg #[.int .i64 (B.read t).1.origin, .int .i64 (B.read t).1.number, .slice A (B.read t).1.mails.length c], .int .i64 (B.read t).2]) ∧ Bn w' (B.read t).1 A c
theorem bn_none (w : World) : Bn w B.none0 none 0 := ⟨Nat.le_refl _, Kd.C_nil _ _⟩
set_option maxRecDepth 100000 in
set_option maxHeartbeats 8000000 in
theorem read_any {A : Option Addr} {c : Nat} {t : B.Bs} (w : World) (hb : Bt w A c t) (hl : t.length ≤ 100000) (hv : Vars w) :
  Calls Tryz.prog 15 #[.slice A t.length c] w fun e w' => readPost t e w' ∧ Below w.heap.size w w' := by
 have HBT := Aside0.mk hb
 have HV := Aside0.mk hv
 have hbx : ∀ o : Obj, Below w.heap.size w (w.alloc o) := fun o => (Below.refl _ _).alloc (Nat.le_refl _) o
 have HBX := Aside0.mk hbx
 have hrow : (w.alloc (.cells #[.int .i64 0, .int .i64 0, .slice none 0 0] 24)).heap[w.heap.size]? = some (.cells #[.int .i64 0, .int .i64 0, .slice none 0 0] 24 (0, 0)) := heap_alloc_new _ _
 have HROW := Aside0.mk hrow
 have hhd : ∀ W, Below w.heap.size w W → Calls Tryz.prog 34 #[.slice A t.length c] W fun e w' => headPost A c t e ∧ Below W.heap.size W w' := fun W hW => head_any W (HBT.out.on hW) hl (HV.out.go hW)
 have HHD := Aside0.mk hhd
 clear hb hv hbx hrow hhd
 go_enter Tryz.func15, Tryz.ntmps15
 go_upto_region 2 with (first | (go_at_call 34; (with_reducible refine Calls.mono (HHD.out _ (HBX.out _)) ?_); rintro e w1 ⟨⟨x0, x1, x2, x3, x4, r, A1, c1, is, rfl, hok, hrl, hbt⟩, h⟩; have H1 := Aside0.mk ((HBX.out _).trans (h.mono (HBX.out _).size)); have HR1 := Aside0.mk (row_on h HROW.out); have HOK := Aside0.mk hok; have HRL := Aside0.mk hrl; have HB1 := Aside0.mk (hbt w HBT.out); clear h hok hrl hbt))
 obtain ⟨w2, hw2⟩ : ∃ w2, w2 = w1.alloc (.cells #[.int .i64 x0, .int .i64 x1, .int .i64 x2, .int .i64 x3, .int .i64 x4] 62) := ⟨_, rfl⟩
 rw [← hw2]
 have hb2 : Below w1.heap.size w1 w2 := by rw [hw2]; exact (Below.refl _ _).alloc (Nat.le_refl _) _
 have HN5 := Aside0.mk (show w2.heap[w1.heap.size]? = some (.cells #[.int .i64 x0, .int .i64 x1, .int .i64 x2, .int .i64 x3, .int .i64 x4] 62 (0, 0)) by rw [hw2]; exact heap_alloc_new _ _)
 have H2 := Aside0.mk (H1.out.trans (hb2.mono H1.out.size))
 have HR2 := Aside0.mk (row_on hb2 HR1.out)
 clear hw2 hb2 HR1
 obtain ⟨a0, a1, a2, f0, f1, f2⟩ := cells3 HR2.out
 rcases HOK.out with ⟨rfl, hho⟩ | ⟨rfl, hho⟩
 ·have HHO := Aside0.mk hho
  clear hho
  go_upto_region 4 with (fail)
  obtain ⟨⟨n0, n1, n2, n3, n4⟩, _, _, _, _, _⟩ := cells5 HN5.out
  have hlg : ∀ W, Below w2.heap.size w2 W → Calls Tryz.prog 31 #[.slice A1 r.length c1] W fun e w' => e = .returned (.int .i64 ((B.long r : Nat) : Int)) ∧ Below W.heap.size W w' := fun W hW => long_any W ((HB1.out.on H2.out).on hW) (by have := HRL.out; omega)
  have HLG := Aside0.mk hlg
  clear hlg a0 a1 a2 f0 f1 f2
  go_region_held3 (fun w' => w'.cell? ⟨w1.heap.size, 4, none⟩ = some (.int .i64 x4)) (first | go_keep | exact q4) (first | (go_at_call 31; (with_reducible refine Calls.mono (HLG.out _ ?_) ?_); (first | exact Below.refl _ _ | exact (Below.refl _ _).drew); rintro e w3 ⟨rfl, h⟩; have hb3 : Below w2.heap.size w2 w3 := (by first | exact h | exact ((Below.refl _ _).drew).trans h); have HB3 := Aside0.mk hb3; obtain ⟨⟨_, _, _, _, q4⟩, _⟩ := cells5 (row_on hb3 HN5.out); clear h hb3))
  have H3 := Aside0.mk (H2.out.trans (HB3.out.mono H2.out.size))
  have HR3 := Aside0.mk (row_on HB3.out HR2.out)
  have HN3 := Aside0.mk (row_on HB3.out HN5.out)
  obtain ⟨a0, a1, a2, f0, f1, f2⟩ := cells3 HR3.out
  clear n0 n1 n2 n3 n4
  obtain ⟨⟨n0, n1, n2, n3, n4⟩, _, _, _, _, _⟩ := cells5 HN3.out
  obtain ⟨lg, hlg⟩ : ∃ lg : Int, lg = ((B.long r : Nat) : Int) := ⟨_, rfl⟩
  rw [← hlg]
  have HLGE := Aside0.mk hlg
  clear hlg
  by_cases hx4 : x4 = lg
  ·have hne : (x4 != lg) = false := by rw [hx4]; simp
   have HX4 := Aside0.mk (show x4 = ((B.long r : Nat) : Int) by rw [hx4, HLGE.out])
   clear hx4
   rw [hne]
   go_wp2_with (fail)
   obtain ⟨w4, hw4⟩ : ∃ w4, w4 = w3.alloc (.cells #[.int .i64 x0, .int .i64 x1, .slice none 0 0] 24) := ⟨_, rfl⟩
   have hb4 : Below w3.heap.size w3 w4 := by rw [hw4]; exact (Below.refl _ _).alloc (Nat.le_refl _) _
   have H4 := Aside0.mk (H3.out.trans (hb4.mono H3.out.size))
   have HR4 := Aside0.mk (row_on hb4 HR3.out)
   have HG4 := Aside0.mk (show w4.heap[w3.heap.size]? = some (.cells #[.int .i64 x0, .int .i64 x1, .slice none 0 0] 24 (0, 0)) by rw [hw4]; exact heap_alloc_new _ _)
   have HS3 := Aside0.mk (show w.heap.size < w3.heap.size from (Array.getElem?_eq_some_iff.1 HR3.out).1)
   rw [← hw4]
   clear hw4 hb4 a0 a1 a2 f0 f1 f2 n0 n1 n2 n3 n4
   go_loopg [5] 5 (fun gf v5 wr => ∃ (ms : List B.Mail) (q : B.Bs) (A0 : Option Addr) (c0 : Nat) (v7 : Value), v5 = .slice A0 q.length c0 ∧ ms.length + gf = 5 ∧ Aside0 (B.mails 5 r = ms ++ B.mails gf q ∧ q.length ≤ r.length) ∧ Aside0 (∀ w0, Bt w0 A1 c1 r → Bt w0 A0 c0 q) ∧ Aside0 (Below w.heap.size w wr ∧ w3.heap.size < wr.heap.size ∧ wr.heap[w.heap.size]? = some (.cells #[.int .i64 0, .int .i64 0, .slice none 0 0] 24 (0, 0)) ∧ wr.heap[w3.heap.size]? = some (.cells #[.int .i64 x0, .int .i64 x1, v7] 24 (0, 0)) ∧ Ns w.heap.size w3.heap.size wr v7 ms))
   case atStart => exact ⟨[], r, A1, c1, .slice none 0 0, rfl, rfl, ⟨by simp, Nat.le_refl _⟩, ⟨fun w0 h => h⟩, ⟨H4.out, (Array.getElem?_eq_some_iff.1 HG4.out).1, HR4.out, HG4.out, Kd.N_nil _ _ _ _ _⟩⟩
   case round =>
    obtain ⟨ms, q, A0, c0, v7, rfl, hg, HT, HB0, H⟩ := hrel
    obtain ⟨wx, rfl⟩ : ∃ wz : World, wz = wr := ⟨_, rfl⟩
    obtain ⟨A7, c7, rfl⟩ := Kd.N_slice H.out.2.2.2.2
    have HX := Aside0.mk H.out.1
    have HRX := Aside0.mk H.out.2.2.1
    have HGX := Aside0.mk H.out.2.2.2.1
    have HNX := Aside0.mk H.out.2.2.2.2
    obtain ⟨⟨a0, a1, a2, f0, f1, f2⟩, b0, b1, b2, g0, g1, g2⟩ := And.intro (cells3 HRX.out) (cells3 HGX.out)
    by_cases hle : ms.length ≤ 4
    ·have hleI : (ms.length : Int) ≤ 4 := by omega
     have hml : ∀ W, Below w.heap.size w W → Calls Tryz.prog 35 #[.slice A0 q.length c0] W fun e w' => mailPost A0 c0 q W.heap.size e w' ∧ Below W.heap.size W w' := fun W hW => mail_any W ((HB0.out w HB1.out).on hW) (by have := HT.out.2; have := HRL.out; omega) (HV.out.go hW)
     have HML := Aside0.mk hml
     clear hml
     go_upto_region 9 with (first | (go_at_call 35; (with_reducible refine Calls.mono (HML.out _ HX.out) ?_); rintro e w5 ⟨⟨m, r2, is2, A5, c5, A6, c6, A9, c9, rfl, hok, hM, hrl, hbt⟩, h⟩; have H5 := Aside0.mk (HX.out.trans (h.mono HX.out.size)); have HR5 := Aside0.mk (row_on h HRX.out); have HG5 := Aside0.mk (row_on h HGX.out); have HN5 := Aside0.mk (Kd.N_below HNX.out h); have HM5 := Aside0.mk (mail_FK hM); have HOK2 := Aside0.mk hok; have HRL2 := Aside0.mk hrl; have HB5 := Aside0.mk hbt; have HSZ := Aside0.mk h.size; clear h hok hM hrl hbt a0 a1 a2 f0 f1 f2 b0 b1 b2 g0 g1 g2))
     obtain ⟨w6, hw6⟩ : ∃ w6, w6 = w5.alloc (.cells #[.bool m.frm.null, .string (str m.frm.loc), .string (str m.frm.dom), .slice A5 m.to.length c5, .slice A6 m.body.length c6, .bool m.quiet, .string (str m.helo), .int .i64 m.tm] 46) := ⟨_, rfl⟩
     rw [← hw6]
     have hb6 : Below w5.heap.size w5 w6 := by rw [hw6]; exact (Below.refl _ _).alloc (Nat.le_refl _) _
     have H6 := Aside0.mk (H5.out.trans (hb6.mono H5.out.size))
     have HR6 := Aside0.mk (row_on hb6 HR5.out)
     have HG6 := Aside0.mk (row_on hb6 HG5.out)
     have HN6 := Aside0.mk (Kd.N_below HN5.out hb6)
     have HM6 := Aside0.mk (Kd.FK_below HM5.out hb6)
     have HP6 := Aside0.mk (show w6.heap[w5.heap.size]? = some (.cells #[.bool m.frm.null, .string (str m.frm.loc), .string (str m.frm.dom), .slice A5 m.to.length c5, .slice A6 m.body.length c6, .bool m.quiet, .string (str m.helo), .int .i64 m.tm] 46 (0, 0)) by rw [hw6]; exact heap_alloc_new _ _)
     clear hw6 hb6 HR5 HG5 HM5
     rcases HOK2.out with ⟨rfl, hmq⟩ | ⟨rfl, hmq⟩
     ·obtain ⟨⟨a0, a1, a2, f0, f1, f2⟩, b0, b1, b2, g0, g1, g2⟩ := And.intro (cells3 HR6.out) (cells3 HG6.out)
      obtain ⟨⟨d0, d1, d2, d3, d4, d5, d6, d7⟩, _⟩ := cells8 HP6.out
      obtain ⟨k, hk⟩ : ∃ k, gk = k + 1 := ⟨gk - 1, by omega⟩
      have HT2 := Aside0.mk (show B.mails 5 r = (ms ++ [m]) ++ B.mails k r2 ∧ r2.length ≤ r.length by
       refine ⟨?_, by have := HT.out.2; have := HRL2.out; omega⟩
       rw [HT.out.1, hk, B.mails, hmq]
       simp)
      have HSX := Aside0.mk H.out.2.1
      clear hmq
      go_wp2_with (first | ((with_reducible refine gate_builtin (b := .append) (xs := #[.tmp 48, .tmp 50]) rfl ?_); at_builtin; refine Kd.N_append kMail (w0 := w) w.heap.size rfl (.tmp 48) (.tmp 50) 22 46 (.agg #[.bool false, .string ⟨#[]⟩, .string ⟨#[]⟩, .slice none 0 0, .slice none 0 0, .bool false, .string ⟨#[]⟩, .int .i64 0]) 120 rfl Tryz.underlying22 infoMail rfl (by decide) (by omega) (.slice A7 ms.length c7) ms m (mcs m A5 c5 A6 c6) (fun k => w3.heap.size < k) (fun k => wx.heap.size ≤ k) rfl rfl HM6.out (fun k hk => ⟨Nat.lt_of_lt_of_le HSX.out hk, fun e => absurd (Kd.N_lt HNX.out k e.symm) (by omega)⟩) (fun k hk => Nat.lt_of_lt_of_le HSX.out (Nat.le_trans HSZ.out (Nat.le_trans (Nat.le_of_lt (Array.getElem?_eq_some_iff.1 HP6.out).1) hk))) HN6.out H6.out H6.out.size (by omega) ?_; intro v9 w9 hN9 hB9 hg9 _; have HR9 := Aside0.mk ((hg9.block w.heap.size (Array.getElem?_eq_some_iff.1 HR6.out).1 (Kd.N_ne HN6.out HR6.out (by decide))).trans HR6.out); have HG9 := Aside0.mk ((hg9.block w3.heap.size (Array.getElem?_eq_some_iff.1 HG6.out).1 (Kd.N_ne HN6.out HG6.out (by decide))).trans HG6.out); have HB9 := Aside0.mk hB9; obtain ⟨A10, c10, e⟩ := Kd.N_slice hN9; obtain ⟨N10, hN10⟩ : ∃ N, N = (ms ++ [m]).length := ⟨_, rfl⟩; rw [← hN10] at e; subst e; have HN9 := Aside0.mk hN9; have HS9 := Aside0.mk hg9.size; clear hN9 hB9 hg9 hN10 a0 a1 a2 f0 f1 f2 b0 b1 b2 g0 g1 g2 d0 d1 d2 d3 d4 d5 d6 d7; obtain ⟨⟨a0, a1, a2, f0, f1, f2⟩, b0, b1, b2, g0, g1, g2⟩ := And.intro (cells3 HR9.out) (cells3 HG9.out)))
      go_roundg k
      case measure => omega
      case rel =>
       refine ⟨ms ++ [m], r2, A9, c9, .slice A10 N10 c10, rfl, by simp; omega, HT2, ⟨fun w0 h0 => HB5.out w0 (HB0.out w0 h0)⟩, ⟨HB9.out.setCell (Nat.le_of_lt HS3.out) _, ?_, ?_, row3_2 _ HG9.out, ?_⟩⟩
       ·have h1 := HSX.out
        have h2 := HSZ.out
        have h3 := (Array.getElem?_eq_some_iff.1 HP6.out).1
        have h4 := HS9.out
        simp
        omega
       ·rw [Below.heap_setCell _ _ _ _ (show w.heap.size ≠ w3.heap.size from Nat.ne_of_lt HS3.out)]
        exact HR9.out
       ·exact Kd.N_far HN9.out (p := ⟨w3.heap.size, 2, none⟩) (fun k hk => by show k ≠ w3.heap.size; omega) (.slice A10 N10 c10)
     ·have HMS := Aside0.mk (show B.mails 5 r = ms by
       rw [HT.out.1]
       have : B.mails gk q = [] := by
        cases gk with
        | zero => rfl
        | succ k => rw [B.mails, hmq]
       rw [this, List.append_nil])
      clear hmq
      obtain ⟨⟨a0, a1, a2, f0, f1, f2⟩, b0, b1, b2, g0, g1, g2⟩ := And.intro (cells3 HR6.out) (cells3 HG6.out)
      obtain ⟨Y1, Y2, hY⟩ : ∃ Y1 Y2, B.bytes ⟨x0, x1, ms⟩ = (Y1, Y2) := ⟨_, _, rfl⟩
      have hmf := mails_fit 5 r (by have := HRL.out; omega)
      rw [HMS.out] at hmf
      have hby : ∀ W, Below w.heap.size w W → Ns w.heap.size w3.heap.size W (.slice A7 ms.length c7) ms → Calls Tryz.prog 13 #[.agg #[.int .i64 x0, .int .i64 x1, .slice A7 ms.length c7]] W fun e w' => (∃ A1 c1, e = .returned (.tuple #[.slice A1 Y1.length c1, .int .i64 Y2]) ∧ Fr W.heap.size w' A1 c1 Y1) ∧ Below W.heap.size W w' := by
       intro W hW hN
       obtain ⟨A', c', e, hc', hC⟩ := Kd.N_reads hN
       injection e with e1 e2 e3
       subst e1 e3
       have h := bytes_any ⟨x0, x1, ms⟩ A7 c7 W ⟨hc', hC⟩ ⟨by show ms.length ≤ 1000; have := hmf.2; omega, hmf.1⟩ (HV.out.go hW)
       rw [hY] at h
       exact h
      have HBY := Aside0.mk hby
      have HRD := Aside0.mk (show B.read t = if B.bytes ⟨x0, x1, ms⟩ = (t, 0) then (⟨x0, x1, ms⟩, 0) else (B.none0, 5) by unfold B.read; rw [HHO.out]; simp only [List.getD_cons_zero, List.getD_cons_succ]; rw [if_neg (fun h => h HX4.out)]; rw [HMS.out])
      have HY := Aside0.mk hY
      clear hby hY hmf
      by_cases hy2 : Y2 = 0
      ·subst hy2
       by_cases hy1 : Y1 = t
       ·have HYES := Aside0.mk (show B.read t = (⟨x0, x1, ms⟩, 0) by rw [HRD.out, HY.out, hy1, if_pos rfl])
        have HEQ := Aside0.mk (decide_eq_true hy1)
        clear hy1
        go_wp2_with (first | (go_at_call 13; (with_reducible refine Calls.mono (HBY.out _ H6.out HN6.out) ?_); rintro e w8 ⟨⟨A8, c8, rfl, hfr⟩, h⟩; have H8 := Aside0.mk (H6.out.trans (h.mono H6.out.size)); have HA8 := Aside0.mk (row_on h HR6.out); have HB8 := Aside0.mk (row_on h HG6.out); have HF8 := Aside0.mk hfr.bt; have HN8 := Aside0.mk (Kd.N_below HN6.out h); clear h hfr a0 a1 a2 f0 f1 f2 b0 b1 b2 g0 g1 g2) | (go_at_call 36; (with_reducible refine Calls.mono (equal_any HF8.out (HBT.out.on H8.out)) ?_); rintro e w9 ⟨rfl, h⟩; have H9 := Aside0.mk (H8.out.trans (h.mono H8.out.size)); have HA9 := Aside0.mk (row_on h HA8.out); have HB9 := Aside0.mk (row_on h HB8.out); have HN9 := Aside0.mk (Kd.N_below HN8.out h); clear h; rw [HEQ.out]; obtain ⟨⟨a0, a1, a2, f0, f1, f2⟩, b0, b1, b2, g0, g1, g2⟩ := And.intro (cells3 HA9.out) (cells3 HB9.out)))
        have hN := Kd.N_far (Kd.N_far (Kd.N_far HN9.out (p := ⟨w.heap.size, 0, none⟩) (fun k hk => by have := HS3.out; show k ≠ w.heap.size; omega) (.int .i64 x0)) (p := ⟨w.heap.size, 1, none⟩) (fun k hk => by have := HS3.out; show k ≠ w.heap.size; omega) (.int .i64 x1)) (p := ⟨w.heap.size, 2, none⟩) (fun k hk => by have := HS3.out; show k ≠ w.heap.size; omega) (.slice A7 ms.length c7)
        refine bodyPost_ret (v := .tuple #[.agg #[.int .i64 x0, .int .i64 x1, .slice A7 ms.length c7], .int .i64 0]) ?_ rfl ⟨⟨A7, c7, by rw [HYES.out], ?_⟩, ?_⟩
        ·exact results_ct (by rfl) _ _ w.heap.size 24 _ (0, 0) _ rfl (row3 HA9.out) Tryz.underlying24 rfl (by kernel_rfl) _ rfl
        ·rw [HYES.out]
         obtain ⟨A', c', e, hc', hC⟩ := Kd.N_reads hN
         injection e with e1 e2 e3
         subst e1 e3
         exact ⟨hc', hC⟩
        ·exact ((H9.out.setCell (Nat.le_refl _) _).setCell (Nat.le_refl _) _).setCell (Nat.le_refl _) _
       ·have HNO := Aside0.mk (show B.read t = (B.none0, 5) by rw [HRD.out, HY.out, if_neg]; intro h; exact hy1 (Prod.mk.inj h).1)
        have HEQ := Aside0.mk (decide_eq_false hy1)
        clear hy1
        go_wp2_with (first | (go_at_call 13; (with_reducible refine Calls.mono (HBY.out _ H6.out HN6.out) ?_); rintro e w8 ⟨⟨A8, c8, rfl, hfr⟩, h⟩; have H8 := Aside0.mk (H6.out.trans (h.mono H6.out.size)); have HA8 := Aside0.mk (row_on h HR6.out); have HF8 := Aside0.mk hfr.bt; clear h hfr a0 a1 a2 f0 f1 f2 b0 b1 b2 g0 g1 g2) | (go_at_call 36; (with_reducible refine Calls.mono (equal_any HF8.out (HBT.out.on H8.out)) ?_); rintro e w9 ⟨rfl, h⟩; have H9 := Aside0.mk (H8.out.trans (h.mono H8.out.size)); have HA9 := Aside0.mk (row_on h HA8.out); clear h; rw [HEQ.out]; obtain ⟨a0, a1, a2, f0, f1, f2⟩ := cells3 HA9.out))
        refine bodyPost_ret (v := .tuple #[.agg #[.int .i64 0, .int .i64 0, .slice none 0 0], .int .i64 5]) ?_ rfl ⟨⟨none, 0, by rw [HNO.out]; rfl, by rw [HNO.out]; exact bn_none _⟩, ?_⟩
        ·exact results_ct (by rfl) _ _ w.heap.size 24 _ (0, 0) _ rfl (row3 HA9.out) Tryz.underlying24 rfl (by kernel_rfl) _ rfl
        ·exact ((H9.out.setCell (Nat.le_refl _) _).setCell (Nat.le_refl _) _).setCell (Nat.le_refl _) _
      ·have HNO := Aside0.mk (show B.read t = (B.none0, 5) by rw [HRD.out, HY.out, if_neg]; intro h; exact hy2 (Prod.mk.inj h).2)
       have hz0 : (Y2 == 0) = false := beq_eq_false_iff_ne.2 hy2
       have hz1 : (Y2 != 0) = true := by rw [bne, hz0]; rfl
       clear hy2
       go_wp2_with (first | (go_at_call 13; (with_reducible refine Calls.mono (HBY.out _ H6.out HN6.out) ?_); rintro e w8 ⟨⟨A8, c8, rfl, hfr⟩, h⟩; have H8 := Aside0.mk (H6.out.trans (h.mono H6.out.size)); have HA8 := Aside0.mk (row_on h HR6.out); clear h hfr a0 a1 a2 f0 f1 f2 b0 b1 b2 g0 g1 g2; obtain ⟨a0, a1, a2, f0, f1, f2⟩ := cells3 HA8.out))
       refine bodyPost_ret (v := .tuple #[.agg #[.int .i64 0, .int .i64 0, .slice none 0 0], .int .i64 5]) ?_ rfl ⟨⟨none, 0, by rw [HNO.out]; rfl, by rw [HNO.out]; exact bn_none _⟩, ?_⟩
       ·exact results_ct (by rfl) _ _ w.heap.size 24 _ (0, 0) _ rfl (row3 HA8.out) Tryz.underlying24 rfl (by kernel_rfl) _ rfl
       ·exact ((H8.out.setCell (Nat.le_refl _) _).setCell (Nat.le_refl _) _).setCell (Nat.le_refl _) _
    ·have hge : ms.length = 5 := by omega
     have HMS := Aside0.mk (show B.mails 5 r = ms by
      have : gk = 0 := by omega
      rw [HT.out.1, this]
      simp [B.mails])
     have h5 : decide ((ms.length : Int) ≤ 4) = false := by simp; omega
     have h5' : 4 < (ms.length : Int) := by omega
     clear hge hle a0 a1 a2 f0 f1 f2 b0 b1 b2 g0 g1 g2
     obtain ⟨⟨a0, a1, a2, f0, f1, f2⟩, b0, b1, b2, g0, g1, g2⟩ := And.intro (cells3 HRX.out) (cells3 HGX.out)
     obtain ⟨Y1, Y2, hY⟩ : ∃ Y1 Y2, B.bytes ⟨x0, x1, ms⟩ = (Y1, Y2) := ⟨_, _, rfl⟩
     have hmf := mails_fit 5 r (by have := HRL.out; omega)
     rw [HMS.out] at hmf
     have hby : ∀ W, Below w.heap.size w W → Ns w.heap.size w3.heap.size W (.slice A7 ms.length c7) ms → Calls Tryz.prog 13 #[.agg #[.int .i64 x0, .int .i64 x1, .slice A7 ms.length c7]] W fun e w' => (∃ A1 c1, e = .returned (.tuple #[.slice A1 Y1.length c1, .int .i64 Y2]) ∧ Fr W.heap.size w' A1 c1 Y1) ∧ Below W.heap.size W w' := by
      intro W hW hN
      obtain ⟨A', c', e, hc', hC⟩ := Kd.N_reads hN
      injection e with e1 e2 e3
      subst e1 e3
      have h := bytes_any ⟨x0, x1, ms⟩ A7 c7 W ⟨hc', hC⟩ ⟨by show ms.length ≤ 1000; have := hmf.2; omega, hmf.1⟩ (HV.out.go hW)
      rw [hY] at h
      exact h
     have HBY := Aside0.mk hby
     have HRD := Aside0.mk (show B.read t = if B.bytes ⟨x0, x1, ms⟩ = (t, 0) then (⟨x0, x1, ms⟩, 0) else (B.none0, 5) by unfold B.read; rw [HHO.out]; simp only [List.getD_cons_zero, List.getD_cons_succ]; rw [if_neg (fun h => h HX4.out)]; rw [HMS.out])
     have HY := Aside0.mk hY
     clear hby hY hmf
     by_cases hy2 : Y2 = 0
     ·subst hy2
      by_cases hy1 : Y1 = t
      ·have HYES := Aside0.mk (show B.read t = (⟨x0, x1, ms⟩, 0) by rw [HRD.out, HY.out, hy1, if_pos rfl])
       have HEQ := Aside0.mk (decide_eq_true hy1)
       clear hy1
       go_wp2_with (first | (go_at_call 13; (with_reducible refine Calls.mono (HBY.out _ HX.out HNX.out) ?_); rintro e w8 ⟨⟨A8, c8, rfl, hfr⟩, h⟩; have H8 := Aside0.mk (HX.out.trans (h.mono HX.out.size)); have HA8 := Aside0.mk (row_on h HRX.out); have HB8 := Aside0.mk (row_on h HGX.out); have HF8 := Aside0.mk hfr.bt; have HN8 := Aside0.mk (Kd.N_below HNX.out h); clear h hfr a0 a1 a2 f0 f1 f2 b0 b1 b2 g0 g1 g2) | (go_at_call 36; (with_reducible refine Calls.mono (equal_any HF8.out (HBT.out.on H8.out)) ?_); rintro e w9 ⟨rfl, h⟩; have H9 := Aside0.mk (H8.out.trans (h.mono H8.out.size)); have HA9 := Aside0.mk (row_on h HA8.out); have HB9 := Aside0.mk (row_on h HB8.out); have HN9 := Aside0.mk (Kd.N_below HN8.out h); clear h; rw [HEQ.out]; obtain ⟨⟨a0, a1, a2, f0, f1, f2⟩, b0, b1, b2, g0, g1, g2⟩ := And.intro (cells3 HA9.out) (cells3 HB9.out)))
       have hN := Kd.N_far (Kd.N_far (Kd.N_far HN9.out (p := ⟨w.heap.size, 0, none⟩) (fun k hk => by have := HS3.out; show k ≠ w.heap.size; omega) (.int .i64 x0)) (p := ⟨w.heap.size, 1, none⟩) (fun k hk => by have := HS3.out; show k ≠ w.heap.size; omega) (.int .i64 x1)) (p := ⟨w.heap.size, 2, none⟩) (fun k hk => by have := HS3.out; show k ≠ w.heap.size; omega) (.slice A7 ms.length c7)
       refine bodyPost_ret (v := .tuple #[.agg #[.int .i64 x0, .int .i64 x1, .slice A7 ms.length c7], .int .i64 0]) ?_ rfl ⟨⟨A7, c7, by rw [HYES.out], ?_⟩, ?_⟩
       ·exact results_ct (by rfl) _ _ w.heap.size 24 _ (0, 0) _ rfl (row3 HA9.out) Tryz.underlying24 rfl (by kernel_rfl) _ rfl
       ·rw [HYES.out]
        obtain ⟨A', c', e, hc', hC⟩ := Kd.N_reads hN
        injection e with e1 e2 e3
        subst e1 e3
        exact ⟨hc', hC⟩
       ·exact ((H9.out.setCell (Nat.le_refl _) _).setCell (Nat.le_refl _) _).setCell (Nat.le_refl _) _
      ·have HNO := Aside0.mk (show B.read t = (B.none0, 5) by rw [HRD.out, HY.out, if_neg]; intro h; exact hy1 (Prod.mk.inj h).1)
       have HEQ := Aside0.mk (decide_eq_false hy1)
       clear hy1
       go_wp2_with (first | (go_at_call 13; (with_reducible refine Calls.mono (HBY.out _ HX.out HNX.out) ?_); rintro e w8 ⟨⟨A8, c8, rfl, hfr⟩, h⟩; have H8 := Aside0.mk (HX.out.trans (h.mono HX.out.size)); have HA8 := Aside0.mk (row_on h HRX.out); have HF8 := Aside0.mk hfr.bt; clear h hfr a0 a1 a2 f0 f1 f2 b0 b1 b2 g0 g1 g2) | (go_at_call 36; (with_reducible refine Calls.mono (equal_any HF8.out (HBT.out.on H8.out)) ?_); rintro e w9 ⟨rfl, h⟩; have H9 := Aside0.mk (H8.out.trans (h.mono H8.out.size)); have HA9 := Aside0.mk (row_on h HA8.out); clear h; rw [HEQ.out]; obtain ⟨a0, a1, a2, f0, f1, f2⟩ := cells3 HA9.out))
       refine bodyPost_ret (v := .tuple #[.agg #[.int .i64 0, .int .i64 0, .slice none 0 0], .int .i64 5]) ?_ rfl ⟨⟨none, 0, by rw [HNO.out]; rfl, by rw [HNO.out]; exact bn_none _⟩, ?_⟩
       ·exact results_ct (by rfl) _ _ w.heap.size 24 _ (0, 0) _ rfl (row3 HA9.out) Tryz.underlying24 rfl (by kernel_rfl) _ rfl
       ·exact ((H9.out.setCell (Nat.le_refl _) _).setCell (Nat.le_refl _) _).setCell (Nat.le_refl _) _
     ·have HNO := Aside0.mk (show B.read t = (B.none0, 5) by rw [HRD.out, HY.out, if_neg]; intro h; exact hy2 (Prod.mk.inj h).2)
      have hz0 : (Y2 == 0) = false := beq_eq_false_iff_ne.2 hy2
      have hz1 : (Y2 != 0) = true := by rw [bne, hz0]; rfl
      clear hy2
      go_wp2_with (first | (go_at_call 13; (with_reducible refine Calls.mono (HBY.out _ HX.out HNX.out) ?_); rintro e w8 ⟨⟨A8, c8, rfl, hfr⟩, h⟩; have H8 := Aside0.mk (HX.out.trans (h.mono HX.out.size)); have HA8 := Aside0.mk (row_on h HRX.out); clear h hfr a0 a1 a2 f0 f1 f2 b0 b1 b2 g0 g1 g2; obtain ⟨a0, a1, a2, f0, f1, f2⟩ := cells3 HA8.out))
      refine bodyPost_ret (v := .tuple #[.agg #[.int .i64 0, .int .i64 0, .slice none 0 0], .int .i64 5]) ?_ rfl ⟨⟨none, 0, by rw [HNO.out]; rfl, by rw [HNO.out]; exact bn_none _⟩, ?_⟩
      ·exact results_ct (by rfl) _ _ w.heap.size 24 _ (0, 0) _ rfl (row3 HA8.out) Tryz.underlying24 rfl (by kernel_rfl) _ rfl
      ·exact ((H8.out.setCell (Nat.le_refl _) _).setCell (Nat.le_refl _) _).setCell (Nat.le_refl _) _
  ·have hne : (x4 != lg) = true := by simpa using hx4
   have HNO := Aside0.mk (show B.read t = (B.none0, 6) by unfold B.read; rw [HHO.out]; simp only [List.getD_cons_zero, List.getD_cons_succ]; rw [if_pos]; rw [← HLGE.out]; exact hx4)
   clear hx4
   go_wp2_with (fail)
   refine bodyPost_ret (v := .tuple #[.agg #[.int .i64 0, .int .i64 0, .slice none 0 0], .int .i64 6]) ?_ rfl ⟨⟨none, 0, by rw [HNO.out]; rfl, by rw [HNO.out]; exact bn_none _⟩, ?_⟩
   ·exact results_ct (by rfl) _ _ w.heap.size 24 _ (0, 0) _ rfl (row3 HR3.out) Tryz.underlying24 rfl (by kernel_rfl) _ rfl
   ·exact ((H3.out.setCell (Nat.le_refl _) _).setCell (Nat.le_refl _) _).setCell (Nat.le_refl _) _
 ·have HNO := Aside0.mk (show B.read t = (B.none0, 5) by unfold B.read; rw [hho])
  clear hho
  go_wp2_with (fail)
  refine bodyPost_ret (v := .tuple #[.agg #[.int .i64 0, .int .i64 0, .slice none 0 0], .int .i64 5]) ?_ rfl ⟨⟨none, 0, by rw [HNO.out]; rfl, by rw [HNO.out]; exact bn_none _⟩, ?_⟩
  ·exact results_ct (by rfl) _ _ w.heap.size 24 _ (0, 0) _ rfl (row3 HR2.out) Tryz.underlying24 rfl (by kernel_rfl) _ rfl
  ·exact ((H2.out.setCell (Nat.le_refl _) _).setCell (Nat.le_refl _) _).setCell (Nat.le_refl _) _
end Go.Proofs.YtpfmnkpmidjfjaaGreatDoor
/- What slices.Clone of mailboxes and bundle's Plain answer. -/
namespace Go.Proofs.YtpfmnkpmidjfjaaGreatDoor
open Go.RowKit Go.Lib
open Go.Proofs.YtpfmnkpmidjfjaaGreatDoorW.PrintWords
set_option linter.unusedVariables false
set_option linter.unusedSimpArgs false
theorem ps_empty (w : World) (b : Nat) (hb : b ≤ w.heap.size) : Ps b (w.alloc (.cells #[] 43)) (.slice (some ⟨w.heap.size, 0, none⟩) 0 0) [] := by
 refine ⟨fun _ _ => trivial, [], ?_, ⟨rfl, fun j x h => by simp at h⟩⟩
 refine ⟨rfl, Or.inr ⟨w.heap.size, 0, #[], rfl, hb, heap_alloc_new _ _, Nat.le_refl _, Nat.zero_le _, rfl, rfl⟩⟩
set_option maxRecDepth 100000 in
set_option maxHeartbeats 1000000 in
theorem clonePaths_any (xs : List V.Path) (A : Option Addr) (c : Nat) (w : World) (hx : kPath.C w A xs.length xs) (hn : xs.length ≤ 100000) :
  Calls Tryz.prog 67 #[.slice A xs.length c] w fun e w' => (∃ A' c', e = .returned (.slice A' xs.length c') ∧ Ps w.heap.size w' (.slice A' xs.length c') xs) ∧ Below w.heap.size w w' := by
 have HX := Aside0.mk hx
 clear hx
 cases A with
 | none =>
  have hl : xs = [] := by
   cases xs with
   | nil => rfl
   | cons x t =>
    obtain ⟨ad, e, _⟩ := HX.out.2.2 (by simp)
    cases e
  subst hl
  have hq := Lib.run_eql_slice_nil (P := Tryz.prog)
  go_enter Tryz.func67, Tryz.ntmps67
  go_wp2_with (fail)
  go_ret
  exact ⟨⟨none, 0, rfl, Kd.R_nil _ _ _ _ _⟩, Below.refl _ _⟩
 | some ad =>
  have hq := Lib.run_eql_slice_nil (P := Tryz.prog)
  go_enter Tryz.func67, Tryz.ntmps67
  go_wp2_with (first | ((with_reducible refine gate_builtin (b := .append) (xs := #[.tmp 5, .tmp 6]) rfl ?_); at_builtin; refine Kd.R_append_rows kPath (w0 := w) w.heap.size rfl (.tmp 5) (.tmp 6) 44 43 (.agg #[.bool false, .string ⟨#[]⟩, .string ⟨#[]⟩]) 40 rfl Tryz.underlying44 infoPath rfl (by decide) (by omega) (.slice (some ⟨w.heap.size, 0, none⟩) 0 0) [] xs (some ad) xs.length c (fun _ => True) (fun _ => False) rfl rfl (ps_empty w _ (Nat.le_refl _)) (Kd.C_alloc HX.out _) (fun x cs h => by obtain rfl := kPath_open h; exact kPath_mkM _ _ _ _) (fun _ h => h.elim) (fun _ _ => trivial) ((Below.refl _ _).alloc (Nat.le_refl _) _) (by simp) (by simp; omega) ?_; intro v1 w1 h1 h2 _ _; have H1 := Aside0.mk h1; have H2 := Aside0.mk h2; clear h1 h2))
  go_ret
  obtain ⟨A', c', e⟩ := Kd.R_slice H1.out
  have h1 := H1.out
  rw [List.nil_append] at e h1
  exact ⟨⟨A', c', by rw [← e]; rfl, by rw [← e]; exact h1⟩, H2.out⟩
abbrev Nm (b : Nat) (w : World) (v : Value) (ms : List B.Mail) : Prop := kMail.N 46 w b (fun _ => True) v ms
theorem clone_at {A : Option Addr} {c : Nat} {l : B.Bs} {w : World} (hb : Bt w A c l) (hl : l.length ≤ 1000000) :
  Calls Tryz.prog 68 #[.slice A l.length c] w fun e w' => (∃ A' c', e = .returned (.slice A' l.length c') ∧ Ow w.heap.size w' (.slice A' l.length c') l) ∧ Below w.heap.size w w' := by
 refine (clone_any hb hl).mono ?_
 rintro e w' ⟨⟨v, rfl, h⟩, h2⟩
 obtain ⟨A', c', rfl, _⟩ := h.bt
 exact ⟨⟨A', c', rfl, h⟩, h2⟩
theorem map_take {α β : Type} (f : α → β) (l : List α) (n : Nat) (hn : n < l.length) (d : α) : (l.take (n + 1)).map f = (l.take n).map f ++ [f (l.getD n d)] := by
 rw [List.take_add_one, List.map_append, List.getElem?_eq_getElem hn, List.getD_eq_getElem?_getD, List.getElem?_eq_getElem hn]
 rfl
set_option maxRecDepth 100000 in
set_option maxHeartbeats 4000000 in
theorem bplain_any (ms : List B.Mail) (A : Option Addr) (c : Nat) (w : World) (hx : kMail.C w A ms.length ms) (hn : ms.length ≤ 1000) (hf : ∀ m ∈ ms, B.Fit m) :
  Calls Tryz.prog 41 #[.slice A ms.length c] w fun e w' => (∃ A' c', e = .returned (.slice A' ms.length c') ∧ Nm w.heap.size w' (.slice A' ms.length c') (ms.map B.plain)) ∧ Below w.heap.size w w' := by
 have HX := Aside0.mk hx
 have HF := Aside0.mk hf
 clear hx hf
 go_enter Tryz.func41, Tryz.ntmps41
 go_wp2_with (fail)
 go_loopg [3, 8] ms.length (fun gf v3 v8 wr => ∃ (n : Nat), v8 = .int .i64 n ∧ n ≤ ms.length ∧ gf + n = ms.length ∧ Aside0 (Nm w.heap.size wr v3 ((ms.take n).map B.plain) ∧ Below w.heap.size w wr))
 case atStart => exact ⟨0, rfl, by omega, by omega, ⟨Kd.N_nil _ _ _ _ _, Below.refl _ _⟩⟩
 case round =>
  obtain ⟨n, rfl, hn2, hg, H⟩ := hrel
  obtain ⟨wx, rfl⟩ : ∃ wz : World, wz = wr := ⟨_, rfl⟩
  obtain ⟨out, hout⟩ : ∃ out, out = (ms.take n).map B.plain := ⟨_, rfl⟩
  rw [← hout] at H
  have hol : out.length = n := by rw [hout, List.length_map, List.length_take]; omega
  have HOUT := Aside0.mk hout
  have HOL := Aside0.mk hol
  obtain ⟨A3, c3, e3⟩ := Kd.N_slice H.out.1
  rw [hol] at e3
  subst e3
  clear hout hol
  by_cases hlt : n < ms.length
  ·obtain ⟨m, hm⟩ : ∃ m, m = ms.getD n B.noMail := ⟨_, rfl⟩
   obtain ⟨ad, A1, c1, A2, c2, rfl, hmc, hml⟩ := mail_at HX.out n hlt m hm
   obtain ⟨q0, q1, q2, q3, q4, q5, q6, q7⟩ := hmc.on H.out.2
   have hlt' : (n : Int) < (ms.length : Int) := by omega
   have h0 : (0 : Int) ≤ (n : Int) := by omega
   have hfx : B.Fit m := HF.out _ (by rw [hm]; exact getD_mem ms n hlt _)
   have hft := map_take B.plain ms n hlt B.noMail
   rw [← hm, ← HOUT.out] at hft
   have HFX := Aside0.mk hfx
   have HML := Aside0.mk hml
   have HFT := Aside0.mk hft
   clear hm hmc hml hft hfx
   go_upto_region 5 with (fail)
   obtain ⟨w1, hw1⟩ : ∃ w1, w1 = wx.alloc (.cells #[.bool m.frm.null, .string (str m.frm.loc), .string (str m.frm.dom), .slice A1 m.to.length c1, .slice A2 m.body.length c2, .bool m.quiet, .string (str m.helo), .int .i64 m.tm] 46) := ⟨_, rfl⟩
   rw [← hw1]
   have hb1 : Below wx.heap.size wx w1 := by rw [hw1]; exact (Below.refl _ _).alloc (Nat.le_refl _) _
   have H1 := Aside0.mk (H.out.2.trans (hb1.mono H.out.2.size))
   have HR1 := Aside0.mk (show w1.heap[wx.heap.size]? = some (.cells #[.bool m.frm.null, .string (str m.frm.loc), .string (str m.frm.dom), .slice A1 m.to.length c1, .slice A2 m.body.length c2, .bool m.quiet, .string (str m.helo), .int .i64 m.tm] 46 (0, 0)) by rw [hw1]; exact heap_alloc_new _ _)
   have HN1 := Aside0.mk (Kd.N_below H.out.1 hb1)
   clear hw1 hb1 q0 q1 q2 q3 q4 q5 q6 q7
   obtain ⟨⟨d0, d1, d2, d3, d4, d5, d6, d7⟩, _⟩ := cells8 HR1.out
   have hcp : ∀ W, Below w1.heap.size w1 W → Calls Tryz.prog 67 #[.slice A1 m.to.length c1] W fun e w' => (∃ A' c', e = .returned (.slice A' m.to.length c') ∧ Ps w1.heap.size w' (.slice A' m.to.length c') m.to) ∧ Below W.heap.size W w' := fun W hW => (clonePaths_any m.to A1 c1 W (Kd.C_below (Kd.C_below HML.out.tos H1.out) hW) HFX.out.n).mono (fun e w' h => by
    obtain ⟨⟨A', c', rfl, h1⟩, h2⟩ := h
    exact ⟨⟨A', c', rfl, Kd.R_lower h1 hW.size⟩, h2⟩)
   have hcb : ∀ W, Below w1.heap.size w1 W → Calls Tryz.prog 68 #[.slice A2 m.body.length c2] W fun e w' => (∃ A' c', e = .returned (.slice A' m.body.length c') ∧ Ow w1.heap.size w' (.slice A' m.body.length c') m.body) ∧ Below W.heap.size W w' := fun W hW => (clone_at ((HML.out.body.on H1.out).on hW) (by have := HFX.out.body; omega)).mono (fun e w' h => by
    obtain ⟨⟨A', c', rfl, h1⟩, h2⟩ := h
    exact ⟨⟨A', c', rfl, h1.low hW.size⟩, h2⟩)
   have HCP := Aside0.mk hcp
   have HCB := Aside0.mk hcb
   have HW := Aside0.mk (Below.refl w1.heap.size w1)
   clear hcp hcb
   go_region_held3 (fun w' => w'.cell? ⟨wx.heap.size, 0, none⟩ = some (.bool m.frm.null) ∧ w'.cell? ⟨wx.heap.size, 1, none⟩ = some (.string (str m.frm.loc)) ∧ w'.cell? ⟨wx.heap.size, 2, none⟩ = some (.string (str m.frm.dom)) ∧ w'.cell? ⟨wx.heap.size, 3, none⟩ = some (.slice A1 m.to.length c1) ∧ w'.cell? ⟨wx.heap.size, 4, none⟩ = some (.slice A2 m.body.length c2)) (first | go_keep | exact HQ.out) (first | (go_at_call 67; (with_reducible refine Calls.mono (HCP.out _ ?_) ?_); (first | exact HW.out | exact HW.out.drew); rintro e wp ⟨⟨At, ct, rfl, hp⟩, h⟩; have hw := (by first | exact HW.out.trans (h.mono HW.out.size) | exact HW.out.drew.trans (h.mono HW.out.size) : Below w1.heap.size w1 wp); (try have HBo := Aside0.mk (HBo.out.on (by first | exact h | exact ((Below.refl _ _).drew).trans h))); have HTo := Aside0.mk hp; clear HW; have HW := Aside0.mk hw; have HQ := Aside0.mk (let ⟨⟨a, b, c, d, e, _⟩, _⟩ := cells8 (row_on hw HR1.out); And.intro a (And.intro b (And.intro c (And.intro d e)))); clear h hw hp) | (go_at_call 68; (with_reducible refine Calls.mono (HCB.out _ ?_) ?_); (first | exact HW.out | exact HW.out.drew); rintro e wp ⟨⟨Ab, cb, rfl, hp⟩, h⟩; have hw := (by first | exact HW.out.trans (h.mono HW.out.size) | exact HW.out.drew.trans (h.mono HW.out.size) : Below w1.heap.size w1 wp); (try have HTo := Aside0.mk (Kd.R_below HTo.out (by first | exact h | exact ((Below.refl _ _).drew).trans h))); have HBo := Aside0.mk hp; clear HW; have HW := Aside0.mk hw; have HQ := Aside0.mk (let ⟨⟨a, b, c, d, e, _⟩, _⟩ := cells8 (row_on hw HR1.out); And.intro a (And.intro b (And.intro c (And.intro d e)))); clear h hw hp) | (refine Kd.N_append_step kMail (w0 := w) w.heap.size (by rfl) (.tmp 12) (.tmp 22) 22 46 (.agg #[.bool false, .string ⟨#[]⟩, .string ⟨#[]⟩, .slice none 0 0, .slice none 0 0, .bool false, .string ⟨#[]⟩, .int .i64 0]) 120 (by rfl) Tryz.underlying22 infoMail rfl (by decide) (by omega) (.slice A3 n c3) out (B.plain m) (mcs (B.plain m) At ct Ab cb) (fun _ => True) (fun k => w1.heap.size ≤ k) (by rfl) (by rfl) (mail_FK (m := B.plain m) (kMail_mkM (m := B.plain m) HTo.out HBo.out)) (fun k hk => ⟨trivial, fun e => absurd (Kd.N_lt HN1.out k e.symm) (by omega)⟩) (fun _ _ => trivial) (Kd.N_below HN1.out HW.out) (H1.out.trans (HW.out.mono H1.out.size)) (Nat.le_trans H1.out.size HW.out.size) (by have := HOL.out; omega) ?_; intro v9 w9 hN9 hB9 hg9 _; obtain ⟨A9, c9, e9⟩ := Kd.N_slice hN9; obtain ⟨N9, hN9l⟩ : ∃ N, N = (out ++ [B.plain m]).length := ⟨_, rfl⟩; rw [← hN9l] at e9; subst e9; have HN9 := Aside0.mk hN9; have HB9 := Aside0.mk hB9; have hr9 := (hg9.block wx.heap.size (Array.getElem?_eq_some_iff.1 (row_on HW.out HR1.out)).1 (fun e => absurd (Kd.N_lt H.out.1 _ e.symm) (Nat.lt_irrefl _))).trans (row_on HW.out HR1.out); have HQ := Aside0.mk (let ⟨⟨a, b, c, d, e, _⟩, _⟩ := cells8 hr9; And.intro a (And.intro b (And.intro c (And.intro d e)))); clear hN9 hB9 hg9 hr9 hN9l))
   all_goals
    go_wp2_with (fail)
    go_roundg (gk - 1)
    case measure => omega
    case rel => exact ⟨n + 1, by go_num, by omega, by omega, ⟨by rw [HFT.out]; exact HN9.out, HB9.out⟩⟩
  ·have hne : n = ms.length := by omega
   have t1 : decide ((n : Int) < (ms.length : Int)) = false := by simp; omega
   have t2 : decide (n < ms.length) = false := by simp; omega
   have ho : out = ms.map B.plain := by rw [HOUT.out, hne, List.take_length]
   have HO := Aside0.mk ho
   have HNE := Aside0.mk hne
   clear hne ho
   go_wp2_with (fail)
   go_ret
   refine ⟨⟨A3, c3, by rw [← HNE.out]; rfl, ?_⟩, H.out.2⟩
   rw [← HO.out, ← HNE.out]
   exact H.out.1
end Go.Proofs.YtpfmnkpmidjfjaaGreatDoor
/- What bundle's Pack answers. -/
namespace Go.Proofs.YtpfmnkpmidjfjaaGreatDoor
open Go.RowKit Go.Lib
open Go.Proofs.YtpfmnkpmidjfjaaGreatDoorW.PrintWords Go.Proofs.YtpfmnkpmidjfjaaGreatDoorW.PrintLast Go.Proofs.YtpfmnkpmidjfjaaGreatDoorW.PrintMore
attribute [local go_sem] min2_int min_two
set_option linter.unusedVariables false
set_option linter.unusedSimpArgs false
theorem plain_fit {m : B.Mail} (h : B.Fit m) : B.Fit (B.plain m) := ⟨h.frm, h.tos, h.n, h.body, by show ([] : B.Bs).length ≤ 100000; simp⟩
theorem mail_take {w : World} {A : Option Addr} {l : List B.Mail} (h : kMail.C w A l.length l) (k : Nat) (hk : k ≤ l.length) : kMail.C w A (l.take k).length (l.take k) := Kd.C_take h hk
set_option maxRecDepth 100000 in
set_option maxHeartbeats 4000000 in
theorem pack_any (l : List B.Mail) (A : Option Addr) (c : Nat) (o k : Int) (w : World) (hx : kMail.C w A l.length l) (hc : l.length ≤ c) (hn : l.length ≤ 1000) (hf : ∀ m ∈ l, B.Fit m) (hv : Vars w) :
  Calls Tryz.prog 17 #[.slice A l.length c, .int .i64 o, .int .i64 k] w fun e w' => e = .returned (.tuple #[.int .i64 ((B.pack l o k : Nat) : Int), .int .i64 (if B.pack l o k = 0 then 9 else 0)]) ∧ Below w.heap.size w w' := by
 have HX := Aside0.mk hx
 have HF := Aside0.mk hf
 have HV := Aside0.mk hv
 obtain ⟨T, hT⟩ : ∃ T, T = B.pack l o k := ⟨_, rfl⟩
 rw [← hT]
 have HT := Aside0.mk hT
 obtain ⟨E, hE⟩ : ∃ E : Int, E = if T = 0 then 9 else 0 := ⟨_, rfl⟩
 rw [← hE]
 have HE := Aside0.mk hE
 clear hx hf hv hT hE
 obtain ⟨N, hN⟩ : ∃ N, N = min l.length 4 := ⟨_, rfl⟩
 have hN4 : N ≤ 4 ∧ N ≤ l.length := by omega
 have HTN := Aside0.mk (show T = B.packGo l o k N by rw [HT.out, hN]; rfl)
 obtain ⟨hN1, hN2⟩ := hN4
 have hsplit : (4 < (l.length : Int) ∧ N = 4) ∨ ((l.length : Int) ≤ 4 ∧ N = l.length) := by omega
 clear hN
 rcases hsplit with ⟨h4, hNe⟩ | ⟨h4, hNe⟩
 all_goals
  have HNE := Aside0.mk hNe
  clear hNe
  go_enter Tryz.func17, Tryz.ntmps17
  go_wp2_with (fail)
  go_loopg [6] N (fun gf v6 wr => v6 = .int .i64 (gf : Int) ∧ gf ≤ N ∧ Aside0 (T = B.packGo l o k gf ∧ Below w.heap.size w wr))
  case atStart => exact ⟨by rw [HNE.out] <;> rfl, Nat.le_refl _, ⟨HTN.out, Below.refl _ _⟩⟩
  case round =>
   obtain ⟨rfl, hgN, H⟩ := hrel
   obtain ⟨wx, rfl⟩ : ∃ wz : World, wz = wr := ⟨_, rfl⟩
   obtain ⟨j, hj⟩ : ∃ j, j = gk := ⟨_, rfl⟩
   rw [← hj]
   rw [← hj] at H hgN
   have HJ := Aside0.mk hj
   clear hj
   by_cases hpos : 0 < j
   ·have hposI : 0 < (j : Int) := by omega
    obtain ⟨lk, hlk⟩ : ∃ lk, lk = l.take j := ⟨_, rfl⟩
    have hlkl : lk.length = j := by rw [hlk, List.length_take]; omega
    have hfk : ∀ m ∈ lk, B.Fit m := fun m hm => HF.out m (by rw [hlk] at hm; exact List.mem_of_mem_take hm)
    have hpl : ∀ W, Below w.heap.size w W → Calls Tryz.prog 41 #[.slice A j c] W fun e w' => (∃ A' c', e = .returned (.slice A' j c') ∧ Nm W.heap.size w' (.slice A' j c') (lk.map B.plain)) ∧ Below W.heap.size W w' := by
     intro W hW
     have h := bplain_any lk A c W (by rw [hlk]; exact mail_take (Kd.C_below HX.out hW) j (by omega)) (by omega) hfk
     rw [hlkl] at h
     exact h
    have HPL := Aside0.mk hpl
    obtain ⟨Y1, Y2, hY⟩ : ∃ Y1 Y2, B.bytes ⟨o, k, lk.map B.plain⟩ = (Y1, Y2) := ⟨_, _, rfl⟩
    have hby : ∀ W A' c', Below w.heap.size w W → Nm wx.heap.size W (.slice A' j c') (lk.map B.plain) → Calls Tryz.prog 13 #[.agg #[.int .i64 o, .int .i64 k, .slice A' j c']] W fun e w' => (∃ A1 c1, e = .returned (.tuple #[.slice A1 Y1.length c1, .int .i64 Y2])) ∧ Below W.heap.size W w' := by
     intro W A' c' hW hN
     have hml : (lk.map B.plain).length = j := by rw [List.length_map, hlkl]
     obtain ⟨A2, c2, e, hc', hC⟩ := Kd.N_reads hN
     injection e with e1 e2 e3
     subst e1 e3
     have h := bytes_any ⟨o, k, lk.map B.plain⟩ A' c' W ⟨hc', hC⟩ ⟨by show (lk.map B.plain).length ≤ 1000; omega, fun m hm => by obtain ⟨m', hm', rfl⟩ := List.mem_map.1 hm; exact plain_fit (hfk m' hm')⟩ (HV.out.go hW)
     rw [hY] at h
     simp only at h
     rw [hml] at h
     exact h.mono (fun e w' h => ⟨by obtain ⟨A1, c1, h1, _⟩ := h.1; exact ⟨A1, c1, h1⟩, h.2⟩)
    have HBY := Aside0.mk hby
    have hgo : B.packGo l o k j = if Y2 = 0 then j else B.packGo l o k (j - 1) := by
     obtain ⟨i, rfl⟩ : ∃ i, j = i + 1 := ⟨j - 1, by omega⟩
     rw [B.packGo, ← hlk, hY]
     rfl
    have HGO := Aside0.mk hgo
    have hjc : (j : Int) ≤ (c : Int) := by omega
    have hj0 : (0 : Int) ≤ (j : Int) := by omega
    clear hlk hlkl hfk hpl hY hby hgo
    by_cases hy : Y2 = 0
    ·subst hy
     have HTF := Aside0.mk (show T = j by rw [H.out.1, HGO.out, if_pos rfl])
     have HTP := Aside0.mk (show ¬ T = 0 by rw [HTF.out]; omega)
     go_wp2_with (first | (go_at_call 41; (with_reducible refine Calls.mono (HPL.out _ H.out.2) ?_); rintro e w1 ⟨⟨A1, c1, rfl, hN⟩, h⟩; have H1 := Aside0.mk (H.out.2.trans (h.mono H.out.2.size)); have HN1 := Aside0.mk hN; clear h hN) | (go_at_call 13; (with_reducible refine Calls.mono (HBY.out _ _ _ H1.out HN1.out) ?_); rintro e w2 ⟨⟨A2, c2, rfl⟩, h⟩; have H2 := Aside0.mk (H1.out.trans (h.mono H1.out.size)); clear h))
     go_ret2
     exact ⟨by rw [HE.out, if_neg HTP.out, HTF.out]; rfl, H2.out⟩
    ·have hy0 : (Y2 == 0) = false := beq_eq_false_iff_ne.2 hy
     have hy1 : (Y2 != 0) = true := by rw [bne, hy0]; rfl
     have HTF := Aside0.mk (show T = B.packGo l o k (j - 1) by rw [H.out.1, HGO.out, if_neg hy])
     clear hy
     go_wp2_with (first | (go_at_call 41; (with_reducible refine Calls.mono (HPL.out _ H.out.2) ?_); rintro e w1 ⟨⟨A1, c1, rfl, hN⟩, h⟩; have H1 := Aside0.mk (H.out.2.trans (h.mono H.out.2.size)); have HN1 := Aside0.mk hN; clear h hN) | (go_at_call 13; (with_reducible refine Calls.mono (HBY.out _ _ _ H1.out HN1.out) ?_); rintro e w2 ⟨⟨A2, c2, rfl⟩, h⟩; have H2 := Aside0.mk (H1.out.trans (h.mono H1.out.size)); clear h))
     go_roundg (j - 1)
     case measure => have := HJ.out; omega
     case rel => exact ⟨by congr 1; omega, by omega, ⟨HTF.out, H2.out⟩⟩
   ·have hj0 : j = 0 := by omega
    subst hj0
    have HTF := Aside0.mk (show T = 0 by rw [H.out.1]; rfl)
    go_wp2_with (fail)
    go_ret2
    exact ⟨by rw [HE.out, if_pos HTF.out, HTF.out]; rfl, H.out.2⟩
end Go.Proofs.YtpfmnkpmidjfjaaGreatDoor
/- What wherrykeep's Bytes, Path, Paths, Mail and Bundle answer. -/
namespace Go.Proofs.YtpfmnkpmidjfjaaGreatDoor
open Go.RowKit Go.Lib
open Go.Proofs.YtpfmnkpmidjfjaaGreatDoorW.PrintWords
set_option linter.unusedVariables false
set_option linter.unusedSimpArgs false
theorem take_eq {α : Type} [DecidableEq α] (a b : List α) (n : Nat) (ha : n < a.length) (hb : n < b.length) (d : α) (h : a.take n = b.take n) : a.take (n + 1) = b.take (n + 1) ↔ a.getD n d = b.getD n d := by
 rw [List.take_add_one (l := a), List.take_add_one (l := b), h, List.getElem?_eq_getElem ha, List.getElem?_eq_getElem hb, List.getD_eq_getElem?_getD, List.getD_eq_getElem?_getD, List.getElem?_eq_getElem ha, List.getElem?_eq_getElem hb]
 show List.take n b ++ [a[n]] = List.take n b ++ [b[n]] ↔ a[n] = b[n]
 exact ⟨fun e => (List.cons.inj (List.append_cancel_left e)).1, fun e => by rw [e]⟩
set_option maxRecDepth 100000 in
set_option maxHeartbeats 1000000 in
theorem kbytes_any {A A2 : Option Addr} {c c2 : Nat} {l s : B.Bs} {w : World} (hb : Bt w A c l) (hs : Bt w A2 c2 s) (hl : l.length ≤ 1000000) (hsl : s.length ≤ 1000000) :
  Calls Tryz.prog 21 #[.slice A l.length c, .slice A2 s.length c2] w fun e w' => e = .returned (.bool (decide (l = s))) ∧ Below w.heap.size w w' := by
 have HB := Aside0.mk hb
 have HS := Aside0.mk hs
 obtain ⟨T, hT⟩ : ∃ T, T = decide (l = s) := ⟨_, rfl⟩
 rw [← hT]
 have HT := Aside0.mk hT
 clear hb hs hT
 by_cases hln : l.length = s.length
 ·have hne : ((l.length : Int) != (s.length : Int)) = false := by rw [hln]; simp
  have hne2 : (l.length != s.length) = false := by rw [hln]; simp
  have HLN := Aside0.mk hln
  clear hln
  go_enter Tryz.func21, Tryz.ntmps21
  go_wp2_with (fail)
  go_loopg [5] l.length (fun gf v5 wr => ∃ n : Nat, v5 = .int .i64 n ∧ n ≤ l.length ∧ gf + n = l.length ∧ Aside0 (l.take n = s.take n ∧ Below w.heap.size w wr))
  case atStart => exact ⟨0, rfl, by omega, by omega, ⟨rfl, Below.refl _ _⟩⟩
  case round =>
   obtain ⟨n, rfl, hn, hg, H⟩ := hrel
   obtain ⟨wx, rfl⟩ : ∃ wz : World, wz = wr := ⟨_, rfl⟩
   by_cases hlt : n < l.length
   ·have hlt' : (n : Int) < (l.length : Int) := by omega
    have hlt2 : (n : Int) < (s.length : Int) := by have := HLN.out; omega
    have h00 : (0 : Int) ≤ (n : Int) := by omega
    obtain ⟨a1, rfl, hc1⟩ := HB.out.cells (by omega)
    obtain ⟨a2, rfl, hc2⟩ := HS.out.cells (by have := HLN.out; omega)
    have g1 := cell_up H.out.2 (hc1 n hlt)
    have g2 := cell_up H.out.2 (hc2 n (by have := HLN.out; omega))
    rw [nb_getD l n hlt] at g1
    rw [nb_getD s n (by have := HLN.out; omega)] at g2
    have HTK := Aside0.mk (take_eq l s n hlt (by have := HLN.out; omega) 0 H.out.1)
    obtain ⟨x, hx⟩ : ∃ x : UInt8, x = l.getD n 0 := ⟨_, rfl⟩
    obtain ⟨y, hy⟩ : ∃ y : UInt8, y = s.getD n 0 := ⟨_, rfl⟩
    rw [← hx] at g1 HTK
    rw [← hy] at g2 HTK
    clear hc1 hc2 hx hy hlt
    by_cases hxy : x = y
    ·have hne3 : ((x.toNat : Int) != (y.toNat : Int)) = false := by rw [hxy]; simp
     have HTK2 := Aside0.mk (HTK.out.2 hxy)
     clear hxy
     go_wp2_with (fail)
     go_quiet (fail)
     go_wp2_with (fail)
     go_roundg (gk - 1)
     case measure => omega
     case rel => exact ⟨n + 1, by go_num, by omega, by omega, ⟨HTK2.out, below_drewN' H.out.2 _⟩⟩
    ·have hne3 : ((x.toNat : Int) != (y.toNat : Int)) = true := by
      rw [bne_iff_ne]
      intro h
      exact hxy (UInt8.toNat_inj.1 (by omega))
     have HTF := Aside0.mk (show T = false by
      rw [HT.out, decide_eq_false_iff_not]
      intro h
      exact hxy (HTK.out.1 (by rw [h])))
     clear hxy
     go_wp2_with (fail)
     go_quiet (fail)
     go_wp2_with (fail)
     go_ret
     exact ⟨by rw [HTF.out]; rfl, below_drewN' H.out.2 _⟩
   ·have hne4 : n = l.length := by omega
    have HTT := Aside0.mk (show T = true by
     rw [HT.out, decide_eq_true_eq]
     have h := H.out.1
     rw [hne4, List.take_length, HLN.out, List.take_length] at h
     exact h)
    have t1 : decide ((n : Int) < (l.length : Int)) = false := by simp; omega
    have t2 : decide (n < l.length) = false := by simp; omega
    clear hne4
    go_wp2_with (fail)
    go_ret
    exact ⟨by rw [HTT.out]; rfl, H.out.2⟩
 ·have hne : ((l.length : Int) != (s.length : Int)) = true := by rw [bne_iff_ne]; omega
  have hne2 : (l.length != s.length) = true := by rw [bne_iff_ne]; exact hln
  have HTF := Aside0.mk (show T = false by rw [HT.out, decide_eq_false_iff_not]; intro h; exact hln (by rw [h]))
  clear hln
  go_enter Tryz.func21, Tryz.ntmps21
  go_wp2_with (fail)
  go_ret
  exact ⟨by rw [HTF.out]; rfl, Below.refl _ _⟩
theorem path_eq (p q : V.Path) : decide (p = q) = ((p.null == q.null) && (decide (p.loc = q.loc) && decide (p.dom = q.dom))) := by
 obtain ⟨a, b, c⟩ := p
 obtain ⟨d, e, f⟩ := q
 rw [Bool.eq_iff_iff]
 simp
theorem str_eq' (a b : V.Bs) : ((str a).toList == (str b).toList) = decide (a = b) := by rw [str_eqB, lst_str, lst_str]
set_option maxRecDepth 100000 in
set_option maxHeartbeats 1000000 in
theorem kpath_any (p q : V.Path) (w : World) :
  Calls Tryz.prog 47 #[.agg #[.bool p.null, .string (str p.loc), .string (str p.dom)], .agg #[.bool q.null, .string (str q.loc), .string (str q.dom)]] w fun e w' => e = .returned (.bool (decide (p = q))) ∧ Below w.heap.size w w' := by
 obtain ⟨T, hT⟩ : ∃ T, T = decide (p = q) := ⟨_, rfl⟩
 rw [← hT]
 rw [path_eq] at hT
 have e1 := str_eq' p.loc q.loc
 have e2 := str_eq' p.dom q.dom
 obtain ⟨b1, hb1⟩ : ∃ b, b = (p.null == q.null) := ⟨_, rfl⟩
 obtain ⟨b2, hb2⟩ : ∃ b, b = decide (p.loc = q.loc) := ⟨_, rfl⟩
 obtain ⟨b3, hb3⟩ : ∃ b, b = decide (p.dom = q.dom) := ⟨_, rfl⟩
 rw [← hb1, ← hb2, ← hb3] at hT
 rw [← hb2] at e1
 rw [← hb3] at e2
 have e0 := hb1.symm
 have HT := Aside0.mk hT
 have hbel : ∀ o1 o2, Below w.heap.size w ((w.alloc o1).alloc o2) := fun o1 o2 => ((Below.refl _ _).alloc (Nat.le_refl _) _).alloc (by simp) _
 have HBL := Aside0.mk hbel
 obtain ⟨pn, pl, pd⟩ := p
 obtain ⟨qn, ql, qd⟩ := q
 simp only at e0 e1 e2 ⊢
 obtain ⟨L1, hL1⟩ : ∃ x, x = str pl := ⟨_, rfl⟩
 obtain ⟨L2, hL2⟩ : ∃ x, x = str ql := ⟨_, rfl⟩
 obtain ⟨D1, hD1⟩ : ∃ x, x = str pd := ⟨_, rfl⟩
 obtain ⟨D2, hD2⟩ : ∃ x, x = str qd := ⟨_, rfl⟩
 rw [← hL1, ← hL2] at e1
 rw [← hD1, ← hD2] at e2
 rw [← hL1, ← hL2, ← hD1, ← hD2]
 clear hT hbel hb1 hb2 hb3 hL1 hL2 hD1 hD2
 cases b1 with
 | false =>
  go_enter Tryz.func47, Tryz.ntmps47
  go_wp2_with (fail)
  go_ret
  exact ⟨by rw [HT.out]; rfl, HBL.out _ _⟩
 | true =>
  cases b2 with
  | false =>
   go_enter Tryz.func47, Tryz.ntmps47
   go_wp2_with (fail)
   go_ret
   exact ⟨by rw [HT.out]; rfl, HBL.out _ _⟩
  | true =>
   go_enter Tryz.func47, Tryz.ntmps47
   go_wp2_with (fail)
   go_ret
   exact ⟨by rw [HT.out]; rfl, HBL.out _ _⟩
set_option maxRecDepth 100000 in
set_option maxHeartbeats 1000000 in
theorem kpaths_any (l s : List V.Path) {A A2 : Option Addr} {c c2 : Nat} {w : World} (hb : kPath.C w A l.length l) (hs : kPath.C w A2 s.length s) (hl : l.length ≤ 1000000) (hsl : s.length ≤ 1000000) :
  Calls Tryz.prog 48 #[.slice A l.length c, .slice A2 s.length c2] w fun e w' => e = .returned (.bool (decide (l = s))) ∧ Below w.heap.size w w' := by
 have HB := Aside0.mk hb
 have HS := Aside0.mk hs
 obtain ⟨T, hT⟩ : ∃ T, T = decide (l = s) := ⟨_, rfl⟩
 rw [← hT]
 have HT := Aside0.mk hT
 clear hb hs hT
 by_cases hln : l.length = s.length
 ·have hne : ((l.length : Int) != (s.length : Int)) = false := by rw [hln]; simp
  have hne2 : (l.length != s.length) = false := by rw [hln]; simp
  have HLN := Aside0.mk hln
  clear hln
  go_enter Tryz.func48, Tryz.ntmps48
  go_wp2_with (fail)
  go_loopg [5] l.length (fun gf v5 wr => ∃ n : Nat, v5 = .int .i64 n ∧ n ≤ l.length ∧ gf + n = l.length ∧ Aside0 (l.take n = s.take n ∧ Below w.heap.size w wr))
  case atStart => exact ⟨0, rfl, by omega, by omega, ⟨rfl, Below.refl _ _⟩⟩
  case round =>
   obtain ⟨n, rfl, hn, hg, H⟩ := hrel
   obtain ⟨wx, rfl⟩ : ∃ wz : World, wz = wr := ⟨_, rfl⟩
   by_cases hlt : n < l.length
   ·have hlt' : (n : Int) < (l.length : Int) := by omega
    have hlt2 : (n : Int) < (s.length : Int) := by have := HLN.out; omega
    have h00 : (0 : Int) ≤ (n : Int) := by omega
    obtain ⟨x, hx⟩ : ∃ x, x = l.getD n V.noPath := ⟨_, rfl⟩
    obtain ⟨y, hy⟩ : ∃ y, y = s.getD n V.noPath := ⟨_, rfl⟩
    obtain ⟨a1, rfl, i0, i1, i2⟩ := path_at HB.out n hlt x hx
    obtain ⟨a2, rfl, j0, j1, j2⟩ := path_at HS.out n (by have := HLN.out; omega) y hy
    have HTK := Aside0.mk (take_eq l s n hlt (by have := HLN.out; omega) V.noPath H.out.1)
    rw [← hx, ← hy] at HTK
    have k0 := cell_up H.out.2 i0
    have k1 := cell_up H.out.2 i1
    have k2 := cell_up H.out.2 i2
    have m0 := cell_up H.out.2 j0
    have m1 := cell_up H.out.2 j1
    have m2 := cell_up H.out.2 j2
    have HC := Aside0.mk (And.intro k0 (And.intro k1 (And.intro k2 (And.intro m0 (And.intro m1 m2)))))
    have HK := Aside0.mk (kpath_any x y)
    obtain ⟨D, hD⟩ : ∃ D, D = decide (x = y) := ⟨_, rfl⟩
    rw [← hD] at HK
    have HD := Aside0.mk hD
    clear hx hy hlt i0 i1 i2 j0 j1 j2 hD
    go_wp2_with (fail)
    go_region_held3 (fun w' => w'.cell? (a1.add (n * 3)) = some (.bool x.null) ∧ w'.cell? ⟨(a1.add (n * 3)).block, (a1.add (n * 3)).off + 1, none⟩ = some (.string (str x.loc)) ∧ w'.cell? ⟨(a1.add (n * 3)).block, (a1.add (n * 3)).off + 2, none⟩ = some (.string (str x.dom)) ∧ w'.cell? (a2.add (n * 3)) = some (.bool y.null) ∧ w'.cell? ⟨(a2.add (n * 3)).block, (a2.add (n * 3)).off + 1, none⟩ = some (.string (str y.loc)) ∧ w'.cell? ⟨(a2.add (n * 3)).block, (a2.add (n * 3)).off + 2, none⟩ = some (.string (str y.dom))) (first | (with_reducible exact HQ.out) | go_keep) (first | (go_at_call 47; (with_reducible refine Calls.mono (HK.out _) ?_); rintro e w1 ⟨rfl, h⟩; have hw : Below wx.heap.size wx w1 := (by first | exact h | exact ((Below.refl _ _).drew).trans h); have HW := Aside0.mk hw; have HQ := Aside0.mk (And.intro (cell_up hw HC.out.1) (And.intro (cell_up hw HC.out.2.1) (And.intro (cell_up hw HC.out.2.2.1) (And.intro (cell_up hw HC.out.2.2.2.1) (And.intro (cell_up hw HC.out.2.2.2.2.1) (cell_up hw HC.out.2.2.2.2.2)))))); clear h hw))
    cases D with
    | true =>
     have HTK2 := Aside0.mk (HTK.out.2 (of_decide_eq_true HD.out.symm))
     go_wp2_with (fail)
     go_roundg (gk - 1)
     case measure => omega
     case rel => exact ⟨n + 1, by go_num, by omega, by omega, ⟨HTK2.out, H.out.2.trans (HW.out.mono H.out.2.size)⟩⟩
    | false =>
     have HTF := Aside0.mk (show T = false by
      rw [HT.out, decide_eq_false_iff_not]
      intro h
      exact (of_decide_eq_false HD.out.symm) (HTK.out.1 (by rw [h])))
     go_wp2_with (fail)
     go_ret
     exact ⟨by rw [HTF.out]; rfl, H.out.2.trans (HW.out.mono H.out.2.size)⟩
   ·have hne4 : n = l.length := by omega
    have HTT := Aside0.mk (show T = true by
     rw [HT.out, decide_eq_true_eq]
     have h := H.out.1
     rw [hne4, List.take_length, HLN.out, List.take_length] at h
     exact h)
    have t1 : decide ((n : Int) < (l.length : Int)) = false := by simp; omega
    have t2 : decide (n < l.length) = false := by simp; omega
    clear hne4
    go_wp2_with (fail)
    go_ret
    exact ⟨by rw [HTT.out]; rfl, H.out.2⟩
 ·have hne : ((l.length : Int) != (s.length : Int)) = true := by rw [bne_iff_ne]; omega
  have hne2 : (l.length != s.length) = true := by rw [bne_iff_ne]; exact hln
  have HTF := Aside0.mk (show T = false by rw [HT.out, decide_eq_false_iff_not]; intro h; exact hln (by rw [h]))
  clear hln
  go_enter Tryz.func48, Tryz.ntmps48
  go_wp2_with (fail)
  go_ret
  exact ⟨by rw [HTF.out]; rfl, Below.refl _ _⟩
end Go.Proofs.YtpfmnkpmidjfjaaGreatDoor
/- What wherrykeep's Mail and Bundle answer. -/
namespace Go.Proofs.YtpfmnkpmidjfjaaGreatDoor
open Go.RowKit Go.Lib
open Go.Proofs.YtpfmnkpmidjfjaaGreatDoorW.PrintWords
set_option linter.unusedVariables false
set_option linter.unusedSimpArgs false
theorem mail_eq (m n : B.Mail) : decide (m = n) = (decide (m.frm = n.frm) && (decide (m.to = n.to) && (decide (m.body = n.body) && ((m.quiet == n.quiet) && (decide (m.helo = n.helo) && (m.tm == n.tm)))))) := by
 obtain ⟨a, b, c, d, e, f⟩ := m
 obtain ⟨a2, b2, c2, d2, e2, f2⟩ := n
 rw [Bool.eq_iff_iff]
 simp
set_option maxRecDepth 100000 in
set_option maxHeartbeats 4000000 in
theorem kmail_any (m n : B.Mail) (A : Option Addr) (c : Nat) (A2 : Option Addr) (c2 : Nat) (A3 : Option Addr) (c3 : Nat) (A4 : Option Addr) (c4 : Nat) (w : World) (h : Ml w m A c A2 c2) (h' : Ml w n A3 c3 A4 c4) (hf : B.Fit m) (hf' : B.Fit n) :
  Calls Tryz.prog 23 #[.agg #[.bool m.frm.null, .string (str m.frm.loc), .string (str m.frm.dom), .slice A m.to.length c, .slice A2 m.body.length c2, .bool m.quiet, .string (str m.helo), .int .i64 m.tm], .agg #[.bool n.frm.null, .string (str n.frm.loc), .string (str n.frm.dom), .slice A3 n.to.length c3, .slice A4 n.body.length c4, .bool n.quiet, .string (str n.helo), .int .i64 n.tm]] w fun e w' => e = .returned (.bool (decide (m = n))) ∧ Below w.heap.size w w' := by
 obtain ⟨T, hT⟩ : ∃ T, T = decide (m = n) := ⟨_, rfl⟩
 rw [← hT]
 rw [mail_eq] at hT
 have e5 := str_eq' m.helo n.helo
 obtain ⟨b1, hb1⟩ : ∃ b, b = decide (m.frm = n.frm) := ⟨_, rfl⟩
 obtain ⟨b2, hb2⟩ : ∃ b, b = decide (m.to = n.to) := ⟨_, rfl⟩
 obtain ⟨b3, hb3⟩ : ∃ b, b = decide (m.body = n.body) := ⟨_, rfl⟩
 obtain ⟨b4, hb4⟩ : ∃ b, b = (m.quiet == n.quiet) := ⟨_, rfl⟩
 obtain ⟨b5, hb5⟩ : ∃ b, b = decide (m.helo = n.helo) := ⟨_, rfl⟩
 obtain ⟨b6, hb6⟩ : ∃ b, b = (m.tm == n.tm) := ⟨_, rfl⟩
 rw [← hb1, ← hb2, ← hb3, ← hb4, ← hb5, ← hb6] at hT
 rw [← hb5] at e5
 have e4 := hb4.symm
 have e6 := hb6.symm
 have HT := Aside0.mk hT
 have hkp : ∀ W, Calls Tryz.prog 47 #[.agg #[.bool m.frm.null, .string (str m.frm.loc), .string (str m.frm.dom)], .agg #[.bool n.frm.null, .string (str n.frm.loc), .string (str n.frm.dom)]] W fun e w' => e = .returned (.bool b1) ∧ Below W.heap.size W w' := fun W => by rw [hb1]; exact kpath_any m.frm n.frm W
 have hks : ∀ W, Below w.heap.size w W → Calls Tryz.prog 48 #[.slice A m.to.length c, .slice A3 n.to.length c3] W fun e w' => e = .returned (.bool b2) ∧ Below W.heap.size W w' := fun W hW => by rw [hb2]; exact kpaths_any m.to n.to (h.on hW).tos (h'.on hW).tos (by have := hf.n; omega) (by have := hf'.n; omega)
 have hkb : ∀ W, Below w.heap.size w W → Calls Tryz.prog 21 #[.slice A2 m.body.length c2, .slice A4 n.body.length c4] W fun e w' => e = .returned (.bool b3) ∧ Below W.heap.size W w' := fun W hW => by rw [hb3]; exact kbytes_any (h.on hW).body (h'.on hW).body (by have := hf.body; omega) (by have := hf'.body; omega)
 have HKP := Aside0.mk hkp
 have HKS := Aside0.mk hks
 have HKB := Aside0.mk hkb
 have hbl : ∀ o1 o2, Below w.heap.size w ((w.alloc o1).alloc o2) := fun o1 o2 => ((Below.refl _ _).alloc (Nat.le_refl _) _).alloc (by simp) _
 have HBL := Aside0.mk hbl
 have hr1 : ∀ o2, ((w.alloc (.cells #[.bool m.frm.null, .string (str m.frm.loc), .string (str m.frm.dom), .slice A m.to.length c, .slice A2 m.body.length c2, .bool m.quiet, .string (str m.helo), .int .i64 m.tm] 46)).alloc o2).heap[w.heap.size]? = some (.cells #[.bool m.frm.null, .string (str m.frm.loc), .string (str m.frm.dom), .slice A m.to.length c, .slice A2 m.body.length c2, .bool m.quiet, .string (str m.helo), .int .i64 m.tm] 46 (0, 0)) := fun o2 => row_on ((Below.refl _ _).alloc (Nat.le_refl _) _) (heap_alloc_new _ _)
 have hr2 : ∀ o1, ((w.alloc o1).alloc (.cells #[.bool n.frm.null, .string (str n.frm.loc), .string (str n.frm.dom), .slice A3 n.to.length c3, .slice A4 n.body.length c4, .bool n.quiet, .string (str n.helo), .int .i64 n.tm] 46)).heap[w.heap.size + 1]? = some (.cells #[.bool n.frm.null, .string (str n.frm.loc), .string (str n.frm.dom), .slice A3 n.to.length c3, .slice A4 n.body.length c4, .bool n.quiet, .string (str n.helo), .int .i64 n.tm] 46 (0, 0)) := fun o1 => alloc_two _ _ _
 have HR1 := Aside0.mk hr1
 have HR2 := Aside0.mk hr2
 clear hT hkp hks hkb hbl hr1 hr2 hb1 hb2 hb3 hb4 hb5 hb6 h h' hf hf'
 cases b1 with
 | false =>
  go_enter Tryz.func23, Tryz.ntmps23
  go_wp2_with (first | (go_at_call 47; (with_reducible refine Calls.mono (HKP.out _) ?_); rintro r w1 ⟨rfl, h⟩; have H1 := Aside0.mk ((HBL.out _ _).trans (h.mono (HBL.out _ _).size)); have HA1 := Aside0.mk (row_on h (HR1.out _)); have HB1 := Aside0.mk (row_on h (HR2.out _)); clear h; obtain ⟨⟨x0, x1, x2, x3, x4, x5, x6, x7⟩, _⟩ := cells8 HA1.out; obtain ⟨⟨y0, y1, y2, y3, y4, y5, y6, y7⟩, _⟩ := cells8 HB1.out))
  go_ret
  exact ⟨by rw [HT.out]; rfl, H1.out⟩
 | true =>
  cases b2 with
  | false =>
   go_enter Tryz.func23, Tryz.ntmps23
   go_wp2_with (first | (go_at_call 47; (with_reducible refine Calls.mono (HKP.out _) ?_); rintro r w1 ⟨rfl, h⟩; have H1 := Aside0.mk ((HBL.out _ _).trans (h.mono (HBL.out _ _).size)); have HA1 := Aside0.mk (row_on h (HR1.out _)); have HB1 := Aside0.mk (row_on h (HR2.out _)); clear h; obtain ⟨⟨x0, x1, x2, x3, x4, x5, x6, x7⟩, _⟩ := cells8 HA1.out; obtain ⟨⟨y0, y1, y2, y3, y4, y5, y6, y7⟩, _⟩ := cells8 HB1.out) | (go_at_call 48; (with_reducible refine Calls.mono (HKS.out _ H1.out) ?_); rintro r w2 ⟨rfl, h⟩; have H2 := Aside0.mk (H1.out.trans (h.mono H1.out.size)); have HA2 := Aside0.mk (row_on h HA1.out); have HB2 := Aside0.mk (row_on h HB1.out); clear h x0 x1 x2 x3 x4 x5 x6 x7 y0 y1 y2 y3 y4 y5 y6 y7; obtain ⟨⟨x0, x1, x2, x3, x4, x5, x6, x7⟩, _⟩ := cells8 HA2.out; obtain ⟨⟨y0, y1, y2, y3, y4, y5, y6, y7⟩, _⟩ := cells8 HB2.out))
   go_ret
   exact ⟨by rw [HT.out]; rfl, H2.out⟩
  | true =>
   cases b3 with
   | false =>
    go_enter Tryz.func23, Tryz.ntmps23
    go_wp2_with (first | (go_at_call 47; (with_reducible refine Calls.mono (HKP.out _) ?_); rintro r w1 ⟨rfl, h⟩; have H1 := Aside0.mk ((HBL.out _ _).trans (h.mono (HBL.out _ _).size)); have HA1 := Aside0.mk (row_on h (HR1.out _)); have HB1 := Aside0.mk (row_on h (HR2.out _)); clear h; obtain ⟨⟨x0, x1, x2, x3, x4, x5, x6, x7⟩, _⟩ := cells8 HA1.out; obtain ⟨⟨y0, y1, y2, y3, y4, y5, y6, y7⟩, _⟩ := cells8 HB1.out) | (go_at_call 48; (with_reducible refine Calls.mono (HKS.out _ H1.out) ?_); rintro r w2 ⟨rfl, h⟩; have H2 := Aside0.mk (H1.out.trans (h.mono H1.out.size)); have HA2 := Aside0.mk (row_on h HA1.out); have HB2 := Aside0.mk (row_on h HB1.out); clear h x0 x1 x2 x3 x4 x5 x6 x7 y0 y1 y2 y3 y4 y5 y6 y7; obtain ⟨⟨x0, x1, x2, x3, x4, x5, x6, x7⟩, _⟩ := cells8 HA2.out; obtain ⟨⟨y0, y1, y2, y3, y4, y5, y6, y7⟩, _⟩ := cells8 HB2.out) | (go_at_call 21; (with_reducible refine Calls.mono (HKB.out _ H2.out) ?_); rintro r w3 ⟨rfl, h⟩; have H3 := Aside0.mk (H2.out.trans (h.mono H2.out.size)); have HA3 := Aside0.mk (row_on h HA2.out); have HB3 := Aside0.mk (row_on h HB2.out); clear h x0 x1 x2 x3 x4 x5 x6 x7 y0 y1 y2 y3 y4 y5 y6 y7; obtain ⟨⟨x0, x1, x2, x3, x4, x5, x6, x7⟩, _⟩ := cells8 HA3.out; obtain ⟨⟨y0, y1, y2, y3, y4, y5, y6, y7⟩, _⟩ := cells8 HB3.out))
    go_ret
    exact ⟨by rw [HT.out]; rfl, H3.out⟩
   | true =>
    cases b4 with
    | false =>
     go_enter Tryz.func23, Tryz.ntmps23
     go_wp2_with (first | (go_at_call 47; (with_reducible refine Calls.mono (HKP.out _) ?_); rintro r w1 ⟨rfl, h⟩; have H1 := Aside0.mk ((HBL.out _ _).trans (h.mono (HBL.out _ _).size)); have HA1 := Aside0.mk (row_on h (HR1.out _)); have HB1 := Aside0.mk (row_on h (HR2.out _)); clear h; obtain ⟨⟨x0, x1, x2, x3, x4, x5, x6, x7⟩, _⟩ := cells8 HA1.out; obtain ⟨⟨y0, y1, y2, y3, y4, y5, y6, y7⟩, _⟩ := cells8 HB1.out) | (go_at_call 48; (with_reducible refine Calls.mono (HKS.out _ H1.out) ?_); rintro r w2 ⟨rfl, h⟩; have H2 := Aside0.mk (H1.out.trans (h.mono H1.out.size)); have HA2 := Aside0.mk (row_on h HA1.out); have HB2 := Aside0.mk (row_on h HB1.out); clear h x0 x1 x2 x3 x4 x5 x6 x7 y0 y1 y2 y3 y4 y5 y6 y7; obtain ⟨⟨x0, x1, x2, x3, x4, x5, x6, x7⟩, _⟩ := cells8 HA2.out; obtain ⟨⟨y0, y1, y2, y3, y4, y5, y6, y7⟩, _⟩ := cells8 HB2.out) | (go_at_call 21; (with_reducible refine Calls.mono (HKB.out _ H2.out) ?_); rintro r w3 ⟨rfl, h⟩; have H3 := Aside0.mk (H2.out.trans (h.mono H2.out.size)); have HA3 := Aside0.mk (row_on h HA2.out); have HB3 := Aside0.mk (row_on h HB2.out); clear h x0 x1 x2 x3 x4 x5 x6 x7 y0 y1 y2 y3 y4 y5 y6 y7; obtain ⟨⟨x0, x1, x2, x3, x4, x5, x6, x7⟩, _⟩ := cells8 HA3.out; obtain ⟨⟨y0, y1, y2, y3, y4, y5, y6, y7⟩, _⟩ := cells8 HB3.out))
     go_ret
     exact ⟨by rw [HT.out]; rfl, H3.out⟩
    | true =>
     cases b5 with
     | false =>
      go_enter Tryz.func23, Tryz.ntmps23
      go_wp2_with (first | (go_at_call 47; (with_reducible refine Calls.mono (HKP.out _) ?_); rintro r w1 ⟨rfl, h⟩; have H1 := Aside0.mk ((HBL.out _ _).trans (h.mono (HBL.out _ _).size)); have HA1 := Aside0.mk (row_on h (HR1.out _)); have HB1 := Aside0.mk (row_on h (HR2.out _)); clear h; obtain ⟨⟨x0, x1, x2, x3, x4, x5, x6, x7⟩, _⟩ := cells8 HA1.out; obtain ⟨⟨y0, y1, y2, y3, y4, y5, y6, y7⟩, _⟩ := cells8 HB1.out) | (go_at_call 48; (with_reducible refine Calls.mono (HKS.out _ H1.out) ?_); rintro r w2 ⟨rfl, h⟩; have H2 := Aside0.mk (H1.out.trans (h.mono H1.out.size)); have HA2 := Aside0.mk (row_on h HA1.out); have HB2 := Aside0.mk (row_on h HB1.out); clear h x0 x1 x2 x3 x4 x5 x6 x7 y0 y1 y2 y3 y4 y5 y6 y7; obtain ⟨⟨x0, x1, x2, x3, x4, x5, x6, x7⟩, _⟩ := cells8 HA2.out; obtain ⟨⟨y0, y1, y2, y3, y4, y5, y6, y7⟩, _⟩ := cells8 HB2.out) | (go_at_call 21; (with_reducible refine Calls.mono (HKB.out _ H2.out) ?_); rintro r w3 ⟨rfl, h⟩; have H3 := Aside0.mk (H2.out.trans (h.mono H2.out.size)); have HA3 := Aside0.mk (row_on h HA2.out); have HB3 := Aside0.mk (row_on h HB2.out); clear h x0 x1 x2 x3 x4 x5 x6 x7 y0 y1 y2 y3 y4 y5 y6 y7; obtain ⟨⟨x0, x1, x2, x3, x4, x5, x6, x7⟩, _⟩ := cells8 HA3.out; obtain ⟨⟨y0, y1, y2, y3, y4, y5, y6, y7⟩, _⟩ := cells8 HB3.out))
      go_ret
      exact ⟨by rw [HT.out]; rfl, H3.out⟩
     | true =>
      go_enter Tryz.func23, Tryz.ntmps23
      go_wp2_with (first | (go_at_call 47; (with_reducible refine Calls.mono (HKP.out _) ?_); rintro r w1 ⟨rfl, h⟩; have H1 := Aside0.mk ((HBL.out _ _).trans (h.mono (HBL.out _ _).size)); have HA1 := Aside0.mk (row_on h (HR1.out _)); have HB1 := Aside0.mk (row_on h (HR2.out _)); clear h; obtain ⟨⟨x0, x1, x2, x3, x4, x5, x6, x7⟩, _⟩ := cells8 HA1.out; obtain ⟨⟨y0, y1, y2, y3, y4, y5, y6, y7⟩, _⟩ := cells8 HB1.out) | (go_at_call 48; (with_reducible refine Calls.mono (HKS.out _ H1.out) ?_); rintro r w2 ⟨rfl, h⟩; have H2 := Aside0.mk (H1.out.trans (h.mono H1.out.size)); have HA2 := Aside0.mk (row_on h HA1.out); have HB2 := Aside0.mk (row_on h HB1.out); clear h x0 x1 x2 x3 x4 x5 x6 x7 y0 y1 y2 y3 y4 y5 y6 y7; obtain ⟨⟨x0, x1, x2, x3, x4, x5, x6, x7⟩, _⟩ := cells8 HA2.out; obtain ⟨⟨y0, y1, y2, y3, y4, y5, y6, y7⟩, _⟩ := cells8 HB2.out) | (go_at_call 21; (with_reducible refine Calls.mono (HKB.out _ H2.out) ?_); rintro r w3 ⟨rfl, h⟩; have H3 := Aside0.mk (H2.out.trans (h.mono H2.out.size)); have HA3 := Aside0.mk (row_on h HA2.out); have HB3 := Aside0.mk (row_on h HB2.out); clear h x0 x1 x2 x3 x4 x5 x6 x7 y0 y1 y2 y3 y4 y5 y6 y7; obtain ⟨⟨x0, x1, x2, x3, x4, x5, x6, x7⟩, _⟩ := cells8 HA3.out; obtain ⟨⟨y0, y1, y2, y3, y4, y5, y6, y7⟩, _⟩ := cells8 HB3.out))
      go_ret
      exact ⟨by rw [HT.out]; rfl, H3.out⟩
theorem bundle_eq (b d : B.Bundle) : decide (b = d) = (decide (b.origin = d.origin) && (decide (b.number = d.number) && decide (b.mails = d.mails))) := by
 obtain ⟨a, k, l⟩ := b
 obtain ⟨a2, k2, l2⟩ := d
 rw [Bool.eq_iff_iff]
 simp
set_option maxRecDepth 100000 in
set_option maxHeartbeats 4000000 in
theorem kbundle_any (b d : B.Bundle) (A : Option Addr) (c : Nat) (A' : Option Addr) (c' : Nat) (w : World) (hb : Bn w b A c) (hd : Bn w d A' c') (hf : B.FitB b) (hf' : B.FitB d) :
  Calls Tryz.prog 22 #[.agg #[.int .i64 b.origin, .int .i64 b.number, .slice A b.mails.length c], .agg #[.int .i64 d.origin, .int .i64 d.number, .slice A' d.mails.length c']] w fun e w' => e = .returned (.bool (decide (b = d))) ∧ Below w.heap.size w w' := by
 obtain ⟨T, hT⟩ : ∃ T, T = decide (b = d) := ⟨_, rfl⟩
 rw [← hT]
 rw [bundle_eq] at hT
 have HT := Aside0.mk hT
 have HB := Aside0.mk hb
 have HD := Aside0.mk hd
 have HF := Aside0.mk hf
 have HF' := Aside0.mk hf'
 have hbl : ∀ o1 o2, Below w.heap.size w ((w.alloc o1).alloc o2) := fun o1 o2 => ((Below.refl _ _).alloc (Nat.le_refl _) _).alloc (by simp) _
 have HBL := Aside0.mk hbl
 clear hT hb hd hf hf' hbl
 by_cases h1 : b.origin = d.origin
 ·have n1 : (b.origin != d.origin) = false := by rw [h1]; simp
  by_cases h2 : b.number = d.number
  ·have n2 : (b.number != d.number) = false := by rw [h2]; simp
   by_cases h3 : b.mails.length = d.mails.length
   ·have n3 : ((b.mails.length : Int) != (d.mails.length : Int)) = false := by rw [h3]; simp
    have n3' : (b.mails.length != d.mails.length) = false := by rw [h3]; simp
    have HT2 := Aside0.mk (show T = decide (b.mails = d.mails) by rw [HT.out, decide_eq_true h1, decide_eq_true h2]; rfl)
    have HLN := Aside0.mk h3
    have hr1 : ∀ o2, ((w.alloc (.cells #[.int .i64 b.origin, .int .i64 b.number, .slice A b.mails.length c] 24)).alloc o2).heap[w.heap.size]? = some (.cells #[.int .i64 b.origin, .int .i64 b.number, .slice A b.mails.length c] 24 (0, 0)) := fun o2 => row_on ((Below.refl _ _).alloc (Nat.le_refl _) _) (heap_alloc_new _ _)
    have hr2 : ∀ o1, ((w.alloc o1).alloc (.cells #[.int .i64 d.origin, .int .i64 d.number, .slice A' d.mails.length c'] 24)).heap[w.heap.size + 1]? = some (.cells #[.int .i64 d.origin, .int .i64 d.number, .slice A' d.mails.length c'] 24 (0, 0)) := fun o1 => alloc_two _ _ _
    have HR1 := Aside0.mk hr1
    have HR2 := Aside0.mk hr2
    clear h1 h2 h3 hr1 hr2
    go_enter Tryz.func22, Tryz.ntmps22
    go_wp2_with (fail)
    go_loopg [5] b.mails.length (fun gf v5 wr => ∃ n : Nat, v5 = .int .i64 n ∧ n ≤ b.mails.length ∧ gf + n = b.mails.length ∧ Aside0 (b.mails.take n = d.mails.take n ∧ Below w.heap.size w wr ∧ wr.heap[w.heap.size]? = some (.cells #[.int .i64 b.origin, .int .i64 b.number, .slice A b.mails.length c] 24 (0, 0)) ∧ wr.heap[w.heap.size + 1]? = some (.cells #[.int .i64 d.origin, .int .i64 d.number, .slice A' d.mails.length c'] 24 (0, 0))))
    case atStart => exact ⟨0, rfl, by omega, by omega, ⟨rfl, HBL.out _ _, HR1.out _, HR2.out _⟩⟩
    case round =>
     obtain ⟨n, rfl, hn, hg, H⟩ := hrel
     obtain ⟨wx, rfl⟩ : ∃ wz : World, wz = wr := ⟨_, rfl⟩
     obtain ⟨f0, f1, f2, _, _, _⟩ := cells3 H.out.2.2.1
     obtain ⟨g0, g1, g2, _, _, _⟩ := cells3 H.out.2.2.2
     by_cases hlt : n < b.mails.length
     ·have hlt' : (n : Int) < (b.mails.length : Int) := by omega
      have hlt2 : (n : Int) < (d.mails.length : Int) := by have := HLN.out; omega
      have h00 : (0 : Int) ≤ (n : Int) := by omega
      have hbn : b.mails.length ≤ 1000 := HF.out.n
      obtain ⟨x, hx⟩ : ∃ x, x = b.mails.getD n B.noMail := ⟨_, rfl⟩
      obtain ⟨y, hy⟩ : ∃ y, y = d.mails.getD n B.noMail := ⟨_, rfl⟩
      obtain ⟨a1, A1, c1, A2, c2, rfl, hmx, hlx⟩ := mail_at HB.out.rd n hlt x hx
      obtain ⟨a2, A3, c3, A4, c4, rfl, hmy, hly⟩ := mail_at HD.out.rd n (by have := HLN.out; omega) y hy
      have HTK := Aside0.mk (take_eq b.mails d.mails n hlt (by have := HLN.out; omega) B.noMail H.out.1)
      rw [← hx, ← hy] at HTK
      have hfx : B.Fit x := HF.out.ms _ (by rw [hx]; exact getD_mem b.mails n hlt _)
      have hfy : B.Fit y := HF'.out.ms _ (by rw [hy]; exact getD_mem d.mails n (by have := HLN.out; omega) _)
      obtain ⟨k0, k1, k2, k3, k4, k5, k6, k7⟩ := hmx.on H.out.2.1
      obtain ⟨m0, m1, m2, m3, m4, m5, m6, m7⟩ := hmy.on H.out.2.1
      have HC := Aside0.mk (And.intro (f2) (And.intro (g2) (And.intro (k0) (And.intro (k1) (And.intro (k2) (And.intro (k3) (And.intro (k4) (And.intro (k5) (And.intro (k6) (And.intro (k7) (And.intro (m0) (And.intro (m1) (And.intro (m2) (And.intro (m3) (And.intro (m4) (And.intro (m5) (And.intro (m6) (m7))))))))))))))))))
      obtain ⟨D, hD⟩ : ∃ D, D = decide (x = y) := ⟨_, rfl⟩
      have hk : ∀ W, Below wx.heap.size wx W → Calls Tryz.prog 23 #[.agg #[.bool x.frm.null, .string (str x.frm.loc), .string (str x.frm.dom), .slice A1 x.to.length c1, .slice A2 x.body.length c2, .bool x.quiet, .string (str x.helo), .int .i64 x.tm], .agg #[.bool y.frm.null, .string (str y.frm.loc), .string (str y.frm.dom), .slice A3 y.to.length c3, .slice A4 y.body.length c4, .bool y.quiet, .string (str y.helo), .int .i64 y.tm]] W fun e w' => e = .returned (.bool D) ∧ Below W.heap.size W w' := fun W hW => by rw [hD]; exact kmail_any x y A1 c1 A2 c2 A3 c3 A4 c4 W ((hlx.on H.out.2.1).on hW) ((hly.on H.out.2.1).on hW) hfx hfy
      have HK := Aside0.mk hk
      have HD2 := Aside0.mk hD
      clear hx hy hlt hmx hmy hlx hly hfx hfy hD hk
      go_wp2_with (fail)
      go_region_held3 (fun w' => w'.cell? ⟨w.heap.size, 2, none⟩ = some (.slice (some a1) b.mails.length c) ∧ w'.cell? ⟨w.heap.size + 1, 2, none⟩ = some (.slice (some a2) d.mails.length c') ∧ w'.cell? (a1.add (n * 8)) = some (.bool x.frm.null) ∧ w'.cell? ⟨(a1.add (n * 8)).block, (a1.add (n * 8)).off + 1, none⟩ = some (.string (str x.frm.loc)) ∧ w'.cell? ⟨(a1.add (n * 8)).block, (a1.add (n * 8)).off + 2, none⟩ = some (.string (str x.frm.dom)) ∧ w'.cell? ⟨(a1.add (n * 8)).block, (a1.add (n * 8)).off + 3, none⟩ = some (.slice A1 x.to.length c1) ∧ w'.cell? ⟨(a1.add (n * 8)).block, (a1.add (n * 8)).off + 4, none⟩ = some (.slice A2 x.body.length c2) ∧ w'.cell? ⟨(a1.add (n * 8)).block, (a1.add (n * 8)).off + 5, none⟩ = some (.bool x.quiet) ∧ w'.cell? ⟨(a1.add (n * 8)).block, (a1.add (n * 8)).off + 6, none⟩ = some (.string (str x.helo)) ∧ w'.cell? ⟨(a1.add (n * 8)).block, (a1.add (n * 8)).off + 7, none⟩ = some (.int .i64 x.tm) ∧ w'.cell? (a2.add (n * 8)) = some (.bool y.frm.null) ∧ w'.cell? ⟨(a2.add (n * 8)).block, (a2.add (n * 8)).off + 1, none⟩ = some (.string (str y.frm.loc)) ∧ w'.cell? ⟨(a2.add (n * 8)).block, (a2.add (n * 8)).off + 2, none⟩ = some (.string (str y.frm.dom)) ∧ w'.cell? ⟨(a2.add (n * 8)).block, (a2.add (n * 8)).off + 3, none⟩ = some (.slice A3 y.to.length c3) ∧ w'.cell? ⟨(a2.add (n * 8)).block, (a2.add (n * 8)).off + 4, none⟩ = some (.slice A4 y.body.length c4) ∧ w'.cell? ⟨(a2.add (n * 8)).block, (a2.add (n * 8)).off + 5, none⟩ = some (.bool y.quiet) ∧ w'.cell? ⟨(a2.add (n * 8)).block, (a2.add (n * 8)).off + 6, none⟩ = some (.string (str y.helo)) ∧ w'.cell? ⟨(a2.add (n * 8)).block, (a2.add (n * 8)).off + 7, none⟩ = some (.int .i64 y.tm)) (first | (with_reducible exact HQ.out) | go_keep) (first | (go_at_call 23; (with_reducible refine Calls.mono (HK.out _ ?_) ?_); (first | exact Below.refl _ _ | exact (Below.refl _ _).drew); rintro e w1 ⟨rfl, h⟩; have hw : Below wx.heap.size wx w1 := (by first | exact h | exact ((Below.refl _ _).drew).trans h); have HW := Aside0.mk hw; have HQ := Aside0.mk (And.intro (cell_up hw HC.out.1) (And.intro (cell_up hw HC.out.2.1) (And.intro (cell_up hw HC.out.2.2.1) (And.intro (cell_up hw HC.out.2.2.2.1) (And.intro (cell_up hw HC.out.2.2.2.2.1) (And.intro (cell_up hw HC.out.2.2.2.2.2.1) (And.intro (cell_up hw HC.out.2.2.2.2.2.2.1) (And.intro (cell_up hw HC.out.2.2.2.2.2.2.2.1) (And.intro (cell_up hw HC.out.2.2.2.2.2.2.2.2.1) (And.intro (cell_up hw HC.out.2.2.2.2.2.2.2.2.2.1) (And.intro (cell_up hw HC.out.2.2.2.2.2.2.2.2.2.2.1) (And.intro (cell_up hw HC.out.2.2.2.2.2.2.2.2.2.2.2.1) (And.intro (cell_up hw HC.out.2.2.2.2.2.2.2.2.2.2.2.2.1) (And.intro (cell_up hw HC.out.2.2.2.2.2.2.2.2.2.2.2.2.2.1) (And.intro (cell_up hw HC.out.2.2.2.2.2.2.2.2.2.2.2.2.2.2.1) (And.intro (cell_up hw HC.out.2.2.2.2.2.2.2.2.2.2.2.2.2.2.2.1) (And.intro (cell_up hw HC.out.2.2.2.2.2.2.2.2.2.2.2.2.2.2.2.2.1) (cell_up hw HC.out.2.2.2.2.2.2.2.2.2.2.2.2.2.2.2.2.2)))))))))))))))))); clear h hw))
      have HA1 := Aside0.mk (row_on HW.out H.out.2.2.1)
      have HB1 := Aside0.mk (row_on HW.out H.out.2.2.2)
      cases D with
      | true =>
       have HTK2 := Aside0.mk (HTK.out.2 (of_decide_eq_true HD2.out.symm))
       go_wp2_with (fail)
       go_roundg (gk - 1)
       case measure => omega
       case rel => exact ⟨n + 1, by go_num, by omega, by omega, ⟨HTK2.out, H.out.2.1.trans (HW.out.mono H.out.2.1.size), HA1.out, HB1.out⟩⟩
      | false =>
       have HTF := Aside0.mk (show T = false by
        rw [HT2.out, decide_eq_false_iff_not]
        intro h
        exact (of_decide_eq_false HD2.out.symm) (HTK.out.1 (by rw [h])))
       go_wp2_with (fail)
       go_ret
       exact ⟨by rw [HTF.out]; rfl, H.out.2.1.trans (HW.out.mono H.out.2.1.size)⟩
     ·have hne4 : n = b.mails.length := by omega
      have HTT := Aside0.mk (show T = true by
       rw [HT2.out, decide_eq_true_eq]
       have h := H.out.1
       rw [hne4, List.take_length, HLN.out, List.take_length] at h
       exact h)
      have t1 : decide ((n : Int) < (b.mails.length : Int)) = false := by simp; omega
      have t2 : decide (n < b.mails.length) = false := by simp; omega
      clear hne4
      go_wp2_with (fail)
      go_ret
      exact ⟨by rw [HTT.out]; rfl, H.out.2.1⟩
   ·have n3 : ((b.mails.length : Int) != (d.mails.length : Int)) = true := by rw [bne_iff_ne]; omega
    have n3' : (b.mails.length != d.mails.length) = true := by rw [bne_iff_ne]; exact h3
    have HTF := Aside0.mk (show T = false by rw [HT.out, decide_eq_false (fun h => h3 (congrArg List.length h) : ¬ b.mails = d.mails)]; simp)
    clear h1 h2 h3
    go_enter Tryz.func22, Tryz.ntmps22
    go_wp2_with (fail)
    go_ret
    exact ⟨by rw [HTF.out]; rfl, HBL.out _ _⟩
  ·have n2 : (b.number != d.number) = true := by rw [bne_iff_ne]; exact h2
   have HTF := Aside0.mk (show T = false by rw [HT.out, decide_eq_false h2]; simp)
   clear h1 h2
   go_enter Tryz.func22, Tryz.ntmps22
   go_wp2_with (fail)
   go_ret
   exact ⟨by rw [HTF.out]; rfl, HBL.out _ _⟩
 ·have n1 : (b.origin != d.origin) = true := by rw [bne_iff_ne]; exact h1
  have HTF := Aside0.mk (show T = false by rw [HT.out, decide_eq_false h1]; simp)
  clear h1
  go_enter Tryz.func22, Tryz.ntmps22
  go_wp2_with (fail)
  go_ret
  exact ⟨by rw [HTF.out]; rfl, HBL.out _ _⟩
end Go.Proofs.YtpfmnkpmidjfjaaGreatDoor
/- What the laws' Heavy answers. -/
namespace Go.Proofs.YtpfmnkpmidjfjaaGreatDoor
open Go.RowKit Go.Lib
open Go.Proofs.YtpfmnkpmidjfjaaGreatDoorW.PrintWords
set_option linter.unusedVariables false
set_option linter.unusedSimpArgs false
def B.reachP (p : V.Path) : Prop := p.loc.length ≤ 140737488351232 ∧ p.dom.length ≤ 140737488351232
structure B.Reach (m : B.Mail) : Prop where
 frm : B.reachP m.frm
 tos : ∀ p ∈ m.to, B.reachP p
 n : m.to.length ≤ 140737488351232
 body : m.body.length ≤ 140737488351232
 helo : m.helo.length ≤ 140737488351232
structure B.Light (N : Nat) (m : B.Mail) : Prop where
 frm : m.frm.loc.length ≤ N ∧ m.frm.dom.length ≤ N
 tos : ∀ p ∈ m.to, p.loc.length ≤ N ∧ p.dom.length ≤ N
 n : m.to.length ≤ 40
 body : m.body.length ≤ N
 helo : m.helo.length ≤ N
theorem B.Light.mono {N M : Nat} {m : B.Mail} (h : B.Light N m) (hN : N ≤ M) : B.Light M m :=
 ⟨⟨Nat.le_trans h.frm.1 hN, Nat.le_trans h.frm.2 hN⟩, fun p hp => ⟨Nat.le_trans (h.tos p hp).1 hN, Nat.le_trans (h.tos p hp).2 hN⟩, h.n, Nat.le_trans h.body hN, Nat.le_trans h.helo hN⟩
theorem B.Light.fit {N : Nat} {m : B.Mail} (h : B.Light N m) (hN : N ≤ 100000) : B.Fit m :=
 ⟨⟨Nat.le_trans h.frm.1 hN, Nat.le_trans h.frm.2 hN⟩, fun p hp => ⟨Nat.le_trans (h.tos p hp).1 hN, Nat.le_trans (h.tos p hp).2 hN⟩, by have := h.n; omega, Nat.le_trans h.body hN, Nat.le_trans h.helo hN⟩
theorem sum_ok {N b S : Nat} (h : S = N + b) (hS : S ≤ 9000000000000000000) : IntKind.i64.wrap ((N : Int) + (b : Int)) = (S : Int) := by
 rw [IntWalk.i64_in _ (by omega)]
 omega
theorem take_mem {α : Type} {l : List α} {n : Nat} (hn : n < l.length) (d : α) {P : α → Prop} (h : ∀ x ∈ l.take n, P x) (hx : P (l.getD n d)) : ∀ x ∈ l.take (n + 1), P x := by
 intro x hm
 rw [List.take_add_one, List.getElem?_eq_getElem hn] at hm
 rcases List.mem_append.1 hm with hm | hm
 ·exact h x hm
 ·rw [List.getD_eq_getElem?_getD, List.getElem?_eq_getElem hn] at hx
  simp at hm hx
  rw [hm]; exact hx
set_option maxRecDepth 100000 in
set_option maxHeartbeats 4000000 in
theorem heavy_any (ms : List B.Mail) (A : Option Addr) (c : Nat) (w : World) (hx : kMail.C w A ms.length ms) (hn : ms.length ≤ 140737488351232) (hf : ∀ m ∈ ms, B.Reach m) :
  Calls Tryz.prog 10 #[.slice A ms.length c] w fun e w' => (∃ r : Bool, e = .returned (.bool r) ∧ (r = false → ms.length ≤ 20 ∧ ∀ m ∈ ms, B.Light 20000 m)) ∧ Below w.heap.size w w' := by
 have HX := Aside0.mk hx
 have HF := Aside0.mk hf
 clear hx hf
 by_cases h20 : ms.length ≤ 20
 ·have h20I : (ms.length : Int) ≤ 20 := by omega
  go_enter Tryz.func10, Tryz.ntmps10
  go_wp2_with (fail)
  go_loopg [3, 4] ms.length (fun gf v3 v4 wr => ∃ n N : Nat, v3 = .int .i64 N ∧ v4 = .int .i64 n ∧ n ≤ ms.length ∧ gf + n = ms.length ∧ N ≤ n * 20000000000000000 ∧ Aside0 ((∀ m ∈ ms.take n, B.Light N m) ∧ Below w.heap.size w wr))
  case atStart => exact ⟨0, 0, rfl, rfl, by omega, by omega, by omega, ⟨(fun m hm => by simp at hm), Below.refl _ _⟩⟩
  case round =>
   obtain ⟨n, N, rfl, rfl, hn2, hg, hN, H⟩ := hrel
   obtain ⟨wx, rfl⟩ : ∃ wz : World, wz = wr := ⟨_, rfl⟩
   obtain ⟨go, rfl⟩ : ∃ z : Nat, z = gk := ⟨_, rfl⟩
   by_cases hlt : n < ms.length
   ·obtain ⟨m, hm⟩ : ∃ m, m = ms.getD n B.noMail := ⟨_, rfl⟩
    obtain ⟨ad, A1, c1, A2, c2, rfl, hmc, hml⟩ := mail_at HX.out n hlt m hm
    have hmx := hmc.on H.out.2
    obtain ⟨q0, q1, q2, q3, q4, q5, q6, q7⟩ := hmx
    have hlt' : (n : Int) < (ms.length : Int) := by omega
    have h00 : (0 : Int) ≤ (n : Int) := by omega
    have hr : B.Reach m := HF.out _ (by rw [hm]; exact getD_mem ms n hlt _)
    have z1 := str_size m.helo
    have z2 := str_size m.frm.loc
    have z3 := str_size m.frm.dom
    have r1 := hr.body
    have r2 := hr.helo
    have r3 := hr.frm.1
    have r4 := hr.frm.2
    have r5 := hr.n
    obtain ⟨S1, hS1⟩ : ∃ S, S = N + m.body.length := ⟨_, rfl⟩
    obtain ⟨S2, hS2⟩ : ∃ S, S = S1 + m.helo.length := ⟨_, rfl⟩
    obtain ⟨S3, hS3⟩ : ∃ S, S = S2 + m.frm.loc.length := ⟨_, rfl⟩
    obtain ⟨S4, hS4⟩ : ∃ S, S = S3 + m.frm.dom.length := ⟨_, rfl⟩
    have u1 := sum_ok hS1 (by omega)
    have u2 := sum_ok hS2 (by omega)
    have u3 := sum_ok hS3 (by omega)
    have u4 := sum_ok hS4 (by omega)
    have HS := Aside0.mk (show N ≤ S4 ∧ m.body.length ≤ S4 ∧ m.helo.length ≤ S4 ∧ m.frm.loc.length ≤ S4 ∧ m.frm.dom.length ≤ S4 ∧ S4 ≤ N + 600000000000000 by omega)
    have HML := Aside0.mk hml
    have HMC := Aside0.mk hmc
    have HR := Aside0.mk hr
    have HM := Aside0.mk hm
    clear hm hml hmc hr hS1 hS2 hS3 hS4
    go_wp2_with (fail)
    go_quiet (fail)
    clear u1 u2 u3 u4 z1 z2 z3
    by_cases h40 : m.to.length ≤ 40
    ·have h40I : (m.to.length : Int) ≤ 40 := by omega
     clear q0 q1 q2 q3 q4 q5 q6 q7
     have hmx2 := HMC.out.on H.out.2
     obtain ⟨q0, q1, q2, q3, q4, q5, q6, q7⟩ := hmx2
     go_wp2_with (fail)
     have HSN := HS.out
     obtain ⟨s0, s1, s2, s3, s4, s5⟩ := HSN
     go_loopg [3, 5] m.to.length (fun gf v3 v5 wr => ∃ k N2 : Nat, v3 = .int .i64 N2 ∧ v5 = .int .i64 k ∧ k ≤ m.to.length ∧ gf + k = m.to.length ∧ S4 ≤ N2 ∧ N2 ≤ S4 + k * 300000000000000 ∧ Aside0 ((∀ p ∈ m.to.take k, p.loc.length ≤ N2 ∧ p.dom.length ≤ N2) ∧ Below w.heap.size w wr))
     case atStart => exact ⟨0, S4, rfl, rfl, by omega, by omega, by omega, by omega, ⟨(fun m hm => by simp at hm), below_drewN' H.out.2 _⟩⟩
     case round =>
      obtain ⟨k, N2, rfl, rfl, hk, hgk, hN2, hN3, H2⟩ := hrel
      obtain ⟨wy, rfl⟩ : ∃ wz : World, wz = wr := ⟨_, rfl⟩
      clear q0 q1 q2 q3 q4 q5 q6 q7
      have hmx3 := HMC.out.on H2.out.2
      obtain ⟨q0, q1, q2, q3, q4, q5, q6, q7⟩ := hmx3
      by_cases hkl : k < m.to.length
      ·obtain ⟨p, hp⟩ : ∃ p, p = m.to.getD k V.noPath := ⟨_, rfl⟩
       obtain ⟨a1, rfl, i0, i1, i2⟩ := path_at HML.out.tos k hkl p hp
       have j0 := cell_up H2.out.2 i0
       have j1 := cell_up H2.out.2 i1
       have j2 := cell_up H2.out.2 i2
       have hkl' : (k : Int) < (m.to.length : Int) := by omega
       have hk0 : (0 : Int) ≤ (k : Int) := by omega
       have hrp : B.reachP p := HR.out.tos _ (by rw [hp]; exact getD_mem m.to k hkl _)
       have p1 := hrp.1
       have p2 := hrp.2
       have z1 := str_size p.loc
       have z2 := str_size p.dom
       obtain ⟨M1, hM1⟩ : ∃ S, S = N2 + p.loc.length := ⟨_, rfl⟩
       obtain ⟨M2, hM2⟩ : ∃ S, S = M1 + p.dom.length := ⟨_, rfl⟩
       have hbig : M2 ≤ 9000000000000000000 := by omega
       have u1 := sum_ok hM1 (by omega)
       have u2 := sum_ok hM2 (by omega)
       have HM2 := Aside0.mk (show N2 ≤ M2 ∧ p.loc.length ≤ M2 ∧ p.dom.length ≤ M2 ∧ M2 ≤ N2 + 300000000000000 by omega)
       have HP := Aside0.mk hp
       have HKL := Aside0.mk hkl
       clear hp i0 i1 i2 hrp hM1 hM2 hbig hkl
       go_wp2_with (fail)
       go_quiet (fail)
       clear u1 u2 z1 z2
       go_wp2_with (fail)
       go_roundg (gk - 1)
       case measure => omega
       case rel =>
        obtain ⟨t1, t2, t3, t4⟩ := HM2.out
        refine ⟨k + 1, M2, rfl, by go_num, by omega, by omega, by omega, by omega, ⟨?_, below_drewN' H2.out.2 _⟩⟩
        exact take_mem HKL.out V.noPath (fun x hx => ⟨Nat.le_trans (H2.out.1 x hx).1 t1, Nat.le_trans (H2.out.1 x hx).2 t1⟩) (by rw [← HP.out]; exact ⟨t2, t3⟩)
      ·have hke : k = m.to.length := by omega
       have t1 : decide ((k : Int) < (m.to.length : Int)) = false := by simp; omega
       have t2 : decide (k < m.to.length) = false := by simp; omega
       have hall : ∀ p ∈ m.to, p.loc.length ≤ N2 ∧ p.dom.length ≤ N2 := by
        have := H2.out.1
        rw [hke, List.take_length] at this
        exact this
       have HL := Aside0.mk (show B.Light N2 m from ⟨⟨by omega, by omega⟩, hall, h40, by omega, by omega⟩)
       clear hall
       go_wp2_with (fail)
       go_roundg (go - 1)
       case measure => omega
       case rel =>
        refine ⟨n + 1, N2, rfl, by go_num, by omega, by omega, by omega, ⟨?_, H2.out.2⟩⟩
        exact take_mem hlt B.noMail (fun x hx => (H.out.1 x hx).mono (by omega)) (by rw [← HM.out]; exact HL.out)
    ·have h40I : 40 < (m.to.length : Int) := by omega
     clear q0 q1 q2 q3 q4 q5 q6 q7
     have hmx2 := HMC.out.on H.out.2
     obtain ⟨q0, q1, q2, q3, q4, q5, q6, q7⟩ := hmx2
     clear h40
     go_wp2_with (fail)
     go_ret
     exact ⟨⟨true, rfl, fun h => by cases h⟩, below_drewN' H.out.2 _⟩
   ·have hne : n = ms.length := by omega
    have t1 : decide ((n : Int) < (ms.length : Int)) = false := by simp; omega
    have t2 : decide (n < ms.length) = false := by simp; omega
    have hall : ∀ m ∈ ms, B.Light N m := by
     have := H.out.1
     rw [hne, List.take_length] at this
     exact this
    have HALL := Aside0.mk hall
    clear hall
    go_wp2_with (fail)
    go_ret
    refine ⟨⟨decide ((20000 : Int) < (N : Int)), rfl, fun h => ⟨h20, fun m hm => (HALL.out m hm).mono ?_⟩⟩, H.out.2⟩
    have := of_decide_eq_false h
    omega
 ·have h20I : 20 < (ms.length : Int) := by omega
  clear h20
  go_enter Tryz.func10, Tryz.ntmps10
  go_wp2_with (fail)
  go_ret
  exact ⟨⟨true, rfl, fun h => by cases h⟩, Below.refl _ _⟩
end Go.Proofs.YtpfmnkpmidjfjaaGreatDoor
/- What the laws' wakes answers. -/
namespace Go.Proofs.YtpfmnkpmidjfjaaGreatDoor
open Go.RowKit Go.Lib
open Go.Proofs.YtpfmnkpmidjfjaaGreatDoorW.PrintWords
set_option linter.unusedVariables false
set_option linter.unusedSimpArgs false
theorem C_one {α : Type} (d : Kd α) {w : World} {g t : Nat} {fr : Nat × Nat} {x : α} {cs : Array Value} (h : w.heap[g]? = some (.cells cs t fr)) (hk : d.K w x cs.toList) : d.C w (some ⟨g, 0, none⟩) 1 [x] := by
 refine ⟨rfl, by omega, fun _ => ⟨_, rfl, fun j p hp => ?_⟩⟩
 cases j with
 | succ j => simp at hp
 | zero =>
  obtain rfl : x = p := by simpa using hp
  refine ⟨cs.toList, d.K_len hk, hk, fun i u hu => ?_⟩
  rw [Nat.zero_mul, Nat.zero_add, add_zero', cell_of_row w g i cs t fr h]
  rw [← Array.getElem?_toList]
  exact hu
def wakeM : B.Mail := ⟨⟨true, [], []⟩, [⟨false, [97], [98]⟩], [], false, [], 0⟩
theorem wakeB_eq : B.wakeB = ⟨0, 1, [wakeM]⟩ := rfl
theorem wake_fit : B.Fit wakeM := ⟨⟨by simp [wakeM], by simp [wakeM]⟩, (fun p hp => by simp [wakeM] at hp; subst hp; exact ⟨by simp, by simp⟩), by simp [wakeM], by simp [wakeM], by simp [wakeM]⟩
set_option maxRecDepth 100000 in
set_option maxHeartbeats 4000000 in
theorem wakes_any (w : World) (hv : Vars w) :
  Calls Tryz.prog 25 #[] w fun e w' => e = .returned (.bool true) ∧ Below w.heap.size w w' := by
 have HV := Aside0.mk hv
 obtain ⟨X, hX⟩ : ∃ X, X = (B.bytes B.wakeB).1 := ⟨_, rfl⟩
 have hby := B.wake_bytes
 have hbb : B.bytes B.wakeB = (X, 0) := by rw [hX]; exact Prod.ext rfl hby.1
 have hrd := B.wake_read
 have hpk := B.wake_pack
 have hxl := B.bytes_len B.wakeB
 rw [← hX] at hby hrd hxl
 obtain ⟨w3, hw3⟩ : ∃ w3, w3 = ((w.alloc (.cells #[.bool false, .string ⟨#[97]⟩, .string ⟨#[98]⟩] 43)).alloc (.cells #[.bool true, .string ⟨#[]⟩, .string ⟨#[]⟩, .slice (some ⟨w.heap.size, 0, none⟩) 1 1, .slice none 0 0, .bool false, .string ⟨#[]⟩, .int .i64 0] 46)).alloc (.cells #[.int .i64 0, .int .i64 1, .slice (some ⟨w.heap.size + 1, 0, none⟩) 1 1] 24) := ⟨_, rfl⟩
 have h3 : Below w.heap.size w w3 := by rw [hw3]; exact (((Below.refl _ w).alloc (Nat.le_refl _) _).alloc (by simp) _).alloc (by simp; omega) _
 have hr3 : w3.heap[w.heap.size + 1 + 1]? = some (.cells #[.int .i64 0, .int .i64 1, .slice (some ⟨w.heap.size + 1, 0, none⟩) 1 1] 24 (0, 0)) := by
  rw [hw3]
  have := heap_alloc_new ((w.alloc (.cells #[.bool false, .string ⟨#[97]⟩, .string ⟨#[98]⟩] 43)).alloc (.cells #[.bool true, .string ⟨#[]⟩, .string ⟨#[]⟩, .slice (some ⟨w.heap.size, 0, none⟩) 1 1, .slice none 0 0, .bool false, .string ⟨#[]⟩, .int .i64 0] 46)) (.cells #[.int .i64 0, .int .i64 1, .slice (some ⟨w.heap.size + 1, 0, none⟩) 1 1] 24)
  rw [show ((w.alloc (.cells #[.bool false, .string ⟨#[97]⟩, .string ⟨#[98]⟩] 43)).alloc (.cells #[.bool true, .string ⟨#[]⟩, .string ⟨#[]⟩, .slice (some ⟨w.heap.size, 0, none⟩) 1 1, .slice none 0 0, .bool false, .string ⟨#[]⟩, .int .i64 0] 46)).heap.size = w.heap.size + 1 + 1 by simp] at this
  exact this
 have hr2 : w3.heap[w.heap.size + 1]? = some (.cells #[.bool true, .string ⟨#[]⟩, .string ⟨#[]⟩, .slice (some ⟨w.heap.size, 0, none⟩) 1 1, .slice none 0 0, .bool false, .string ⟨#[]⟩, .int .i64 0] 46 (0, 0)) := by
  rw [hw3]
  exact row_on ((Below.refl _ _).alloc (Nat.le_refl _) _) (alloc_two _ _ _)
 have hr1 : w3.heap[w.heap.size]? = some (.cells #[.bool false, .string ⟨#[97]⟩, .string ⟨#[98]⟩] 43 (0, 0)) := by
  rw [hw3]
  exact row_on ((Below.refl _ _).alloc (Nat.le_refl _) _) (row_on ((Below.refl _ _).alloc (Nat.le_refl _) _) (heap_alloc_new _ _))
 have hp1 : kPath.C w3 (some ⟨w.heap.size, 0, none⟩) 1 [⟨false, [97], [98]⟩] := C_one kPath hr1 (kPath_mk w3 ⟨false, [97], [98]⟩)
 have hm1 : kMail.C w3 (some ⟨w.heap.size + 1, 0, none⟩) 1 [wakeM] := C_one kMail hr2 (kMail_mk (m := wakeM) (A := some ⟨w.heap.size, 0, none⟩) (c := 1) (A2 := none) (c2 := 0) ⟨Nat.le_refl _, hp1, Bt.none _⟩)
 have hbn : Bn w3 B.wakeB (some ⟨w.heap.size + 1, 0, none⟩) 1 := ⟨Nat.le_refl _, hm1⟩
 have hfb : B.FitB B.wakeB := ⟨by decide, fun m hm => by rw [wakeB_eq] at hm; simp at hm; subst hm; exact wake_fit⟩
 have hcb : Calls Tryz.prog 13 #[.agg #[.int .i64 0, .int .i64 1, .slice (some ⟨w.heap.size + 1, 0, none⟩) 1 1]] w3 fun e w' => (∃ A1 c1, e = .returned (.tuple #[.slice A1 X.length c1, .int .i64 0]) ∧ Fr w3.heap.size w' A1 c1 X) ∧ Below w3.heap.size w3 w' := by
  have h := bytes_any B.wakeB _ 1 w3 hbn hfb (HV.out.go h3)
  rw [hbb] at h
  exact h
 have hcr : ∀ W A1 c1, Below w3.heap.size w3 W → Bt W A1 c1 X → Calls Tryz.prog 15 #[.slice A1 X.length c1] W fun e w' => (∃ A c, e = .returned (.tuple #[.agg #[.int .i64 0, .int .i64 1, .slice A 1 c], .int .i64 0]) ∧ Bn w' B.wakeB A c) ∧ Below W.heap.size W w' := by
  intro W A1 c1 hW hB
  refine (read_any W hB (by omega) (HV.out.go (h3.trans (hW.mono h3.size)))).mono ?_
  rintro e w' ⟨h, h2⟩
  unfold readPost at h
  rw [hrd] at h
  exact ⟨h, h2⟩
 have hcp : ∀ W, Below w3.heap.size w3 W → Calls Tryz.prog 17 #[.slice (some ⟨w.heap.size + 1, 0, none⟩) 1 1, .int .i64 0, .int .i64 1] W fun e w' => e = .returned (.tuple #[.int .i64 1, .int .i64 0]) ∧ Below W.heap.size W w' := by
  intro W hW
  have h := pack_any B.wakeB.mails (some ⟨w.heap.size + 1, 0, none⟩) 1 0 1 W (Kd.C_below hbn.rd hW) (Nat.le_refl _) (by decide) hfb.ms (HV.out.go (h3.trans (hW.mono h3.size)))
  rw [hpk] at h
  exact h
 have hck : ∀ W A c, Below w3.heap.size w3 W → Bn W B.wakeB A c → Calls Tryz.prog 22 #[.agg #[.int .i64 0, .int .i64 1, .slice A 1 c], .agg #[.int .i64 0, .int .i64 1, .slice (some ⟨w.heap.size + 1, 0, none⟩) 1 1]] W fun e w' => e = .returned (.bool true) ∧ Below W.heap.size W w' := by
  intro W A c hW hB
  have h := kbundle_any B.wakeB B.wakeB A c (some ⟨w.heap.size + 1, 0, none⟩) 1 W hB (hbn.on hW) hfb hfb
  rw [decide_eq_true (rfl : B.wakeB = B.wakeB)] at h
  exact h
 obtain ⟨V, hV⟩ : ∃ V : ByteArray, V = str (X.take 14) := ⟨_, rfl⟩
 have hve : (V.toList == [66, 85, 78, 68, 76, 69, 32, 48, 32, 49, 32, 49, 32, 52]) = true := by
  rw [hV, hby.2.1, ByteArray.toList_eq]
  rfl
 have hcv : ∀ W A c, Bt W A c X → (convert 25 9 (.slice A 14 c)).run Tryz.prog W = .ok (.string V) W := by
  intro W A c hB
  have h := bt_string (hB.take 14 (by have := hby.2.2; omega))
  rw [← hV] at h
  rw [show (X.take 14).length = 14 by rw [List.length_take]; have := hby.2.2; omega] at h
  exact h
 have hlen := hby.2.2
 have hlenI : (14 : Int) < (X.length : Int) := by omega
 have HCB := Aside0.mk hcb
 have HCR := Aside0.mk hcr
 have HCP := Aside0.mk hcp
 have HCK := Aside0.mk hck
 have HCV := Aside0.mk hcv
 have H3 := Aside0.mk h3
 have HR3 := Aside0.mk hr3
 have HW3 := Aside0.mk hw3
 clear hv hX hby hbb hrd hpk hxl hw3 h3 hr3 hr2 hr1 hp1 hm1 hbn hfb hcb hcr hcp hck hV hcv
 go_enter Tryz.func25, Tryz.ntmps25
 go_upto_region 2 with (fail)
 rw [← HW3.out]
 obtain ⟨b0, b1, b2, g0, g1, g2⟩ := cells3 HR3.out
 go_upto_region 4 with (first | (go_at_call 13; (with_reducible refine Calls.mono HCB.out ?_); rintro e w4 ⟨⟨A4, c4, rfl, hf⟩, h⟩; have H4 := Aside0.mk h; have HF4 := Aside0.mk hf.bt; have HR4 := Aside0.mk (row_on h HR3.out); clear h hf b0 b1 b2 g0 g1 g2; obtain ⟨b0, b1, b2, g0, g1, g2⟩ := cells3 HR4.out) | (go_at_call 15; (with_reducible refine Calls.mono (HCR.out _ _ _ H4.out HF4.out) ?_); rintro e w5 ⟨⟨A5, c5, rfl, hbn⟩, h⟩; have H5 := Aside0.mk (H4.out.trans (h.mono H4.out.size)); have HF5 := Aside0.mk (HF4.out.on h); have HB5 := Aside0.mk hbn; have HR5 := Aside0.mk (row_on h HR4.out); clear h hbn b0 b1 b2 g0 g1 g2))
 obtain ⟨w6, hw6⟩ : ∃ w6, w6 = w5.alloc (.cells #[.int .i64 0, .int .i64 1, .slice A5 1 c5] 24) := ⟨_, rfl⟩
 rw [← hw6]
 have hb6 : Below w5.heap.size w5 w6 := by rw [hw6]; exact (Below.refl _ _).alloc (Nat.le_refl _) _
 have H6 := Aside0.mk (H5.out.trans (hb6.mono H5.out.size))
 have HR6 := Aside0.mk (row_on hb6 HR5.out)
 have HX6 := Aside0.mk (show w6.heap[w5.heap.size]? = some (.cells #[.int .i64 0, .int .i64 1, .slice A5 1 c5] 24 (0, 0)) by rw [hw6]; exact heap_alloc_new _ _)
 have HF6 := Aside0.mk (HF5.out.on hb6)
 have HB6 := Aside0.mk (HB5.out.on hb6)
 have hcap := HF5.out.cap
 have hcap14 : (14 : Int) ≤ (c4 : Int) := by omega
 clear hw6 hb6 hcap
 obtain ⟨b0, b1, b2, g0, g1, g2⟩ := cells3 HR6.out
 go_wp2_with (first | (go_at_call 17; (with_reducible refine Calls.mono (HCP.out _ H6.out) ?_); rintro e w7 ⟨rfl, h⟩; have H7 := Aside0.mk (H6.out.trans (h.mono H6.out.size)); have HR7 := Aside0.mk (row_on h HR6.out); have HX7 := Aside0.mk (row_on h HX6.out); have HF7 := Aside0.mk (HF6.out.on h); have HB7 := Aside0.mk (HB6.out.on h); clear h b0 b1 b2 g0 g1 g2; obtain ⟨b0, b1, b2, g0, g1, g2⟩ := cells3 HR7.out; obtain ⟨d0, d1, d2, e0, e1, e2⟩ := cells3 HX7.out) | (go_at_call 22; (with_reducible refine Calls.mono (HCK.out _ _ _ H7.out HB7.out) ?_); rintro e w8 ⟨rfl, h⟩; have H8 := Aside0.mk (H7.out.trans (h.mono H7.out.size)); have hcv := HCV.out w8 A4 c4 (HF7.out.on h); clear h))
 go_ret
 exact ⟨rfl, H3.out.trans (H8.out.mono H3.out.size)⟩
end Go.Proofs.YtpfmnkpmidjfjaaGreatDoor
/- BundleBack, walked. -/
namespace Go.Proofs.YtpfmnkpmidjfjaaGreatDoor
open Go.RowKit Go.Lib
open Go.Proofs.YtpfmnkpmidjfjaaGreatDoorW.PrintWords
set_option linter.unusedVariables false
set_option linter.unusedSimpArgs false
theorem read_fit {t : B.Bs} (ht : t.length ≤ 100000) : B.FitB (B.read t).1 := by
 unfold B.read
 cases hh : B.headOf t with
 | none => exact ⟨by show ([] : List B.Mail).length ≤ 1000; simp, fun m hm => by cases hm⟩
 | some p =>
  obtain ⟨vs, c⟩ := p
  have hc : c.length ≤ 100000 := by
   unfold B.headOf at hh
   cases hq : B.cut t with
   | none => rw [hq] at hh; cases hh
   | some q =>
    obtain ⟨a, r⟩ := q
    have := (cut_take hq).2.2
    rw [hq] at hh
    simp only at hh
    cases hs : V.splitOn 32 a with
    | nil => rw [hs] at hh; cases hh
    | cons x ws =>
     rw [hs] at hh
     simp only at hh
     split at hh
     ·cases hn : B.numbers ws with
      | none => rw [hn] at hh; cases hh
      | some us =>
       rw [hn] at hh
       simp only at hh
       split at hh
       ·have e := (Prod.mk.inj (Option.some.inj hh)).2
        rw [← e]
        omega
       ·cases hh
     ·cases hh
  simp only
  have hm := mails_fit 5 c hc
  split
  ·exact ⟨by show ([] : List B.Mail).length ≤ 1000; simp, fun m hm => by cases hm⟩
  ·split
   ·exact ⟨by show (B.mails 5 c).length ≤ 1000; have := hm.2; omega, hm.1⟩
   ·exact ⟨by show ([] : List B.Mail).length ≤ 1000; simp, fun m hm => by cases hm⟩
structure B.ReachB (b : B.Bundle) : Prop where
 n : b.mails.length ≤ 140737488351232
 ms : ∀ m ∈ b.mails, B.Reach m
theorem heavy_fit {b : B.Bundle} (h : b.mails.length ≤ 20 ∧ ∀ m ∈ b.mails, B.Light 20000 m) : B.FitB b := ⟨by have := h.1; omega, fun m hm => (h.2 m hm).fit (by decide)⟩
end Go.Proofs.YtpfmnkpmidjfjaaGreatDoor
/- Arguments that are bundles, mails, bytes: opened to the values' own types. -/
namespace Go.Proofs.YtpfmnkpmidjfjaaGreatDoor
open Go.RowKit Go.Proofs.YtpfmnkpmidjfjaaGreatDoorW.PrintWords
set_option linter.unusedVariables false
set_option linter.unusedSimpArgs false
section
variable {H : Type} {α β : Type} (enc : TypeId × Value → H) (P : Program) (w : World) (base : Nat) (spare : Nat → Bool) (held : Bool)
def Opens (d : Kd α) (G : α → Prop) (t : TypeId) : Prop := ∀ fuel cs x, DataW.trod enc P w base spare held fuel t cs = some x → (∀ n ∈ x.1.weights P t, n ≤ reachBytes) → ∃ y, d.K w y cs ∧ G y
def OpensF (d : Kd α) (G : α → Prop) (o : Nat) (fs : List Field) : Prop := ∀ n cs, cs.length = d.sz → (∀ f ∈ fs, ∃ y, DataW.trod enc P w base spare held n f.type ((cs.drop (f.offset - o)).take (P.cellsOf f.type)) = some y ∧ ∀ n ∈ y.1.weights P f.type, n ≤ reachBytes) → ∃ y, d.K w y cs ∧ G y
def OkA {α : Type} : α → Prop := fun _ => True
def OkI (k : IntKind) (n : Int) : Prop := (Lit.int k n).wf = true
def OkS (s : ByteArray) : Prop := s.size ≤ 140737488351232
def OkL {α : Type} (G : α → Prop) (l : List α) : Prop := l.length ≤ 140737488351232 ∧ ∀ z ∈ l, G z
def OkP {α β : Type} (G : α → Prop) (K : β → Prop) (x : α × β) : Prop := G x.1 ∧ K x.2
theorem weightsAll_mem {e : TypeId} {l : List (DataW H)} {d : DataW H} (hd : d ∈ l) {n : Nat} (hn : n ∈ d.weights P e) : n ∈ DataW.weightsAll P e l := by
 induction l with
 | nil => cases hd
 | cons a l ih =>
  simp only [DataW.weightsAll, List.mem_append]
  rcases List.mem_cons.1 hd with rfl | h
  ·exact .inl hn
  ·exact .inr (ih h)
variable {enc P w base spare held}
theorem opens_int {k : IntKind} {t : TypeId} (ht : P.underlying t = some (.int k)) : Opens enc P w base spare held (Kd.int k) (OkI k) t := fun fuel cs x h _ => by
 obtain ⟨n, rfl, _, hw⟩ := DataW.trod_int ht h
 exact ⟨n, rfl, hw⟩
theorem opens_bool {t : TypeId} (ht : P.underlying t = some .bool) : Opens enc P w base spare held Kd.bool OkA t := fun fuel cs x h _ => by
 obtain ⟨n, rfl, _⟩ := DataW.trod_bool ht h
 exact ⟨n, rfl, trivial⟩
theorem opens_string {t : TypeId} (ht : P.underlying t = some .string) : Opens enc P w base spare held Kd.string OkS t := fun fuel cs x h hw => by
 obtain ⟨n, rfl, rfl, _⟩ := DataW.trod_string ht h
 have := hw n.data.toList.length (by simp [DataW.weights])
 exact ⟨n, rfl, by rw [Array.length_toList] at this; exact this⟩
theorem opens_C {d : Kd α} {G : α → Prop} {t e : TypeId} (ht : P.underlying t = some (.slice e)) (hsz : P.cellsOf e = d.sz) (hby : 1 ≤ P.bytesOf e) (hd : Opens enc P w base spare held d G e) (fuel : Nat) (cs : List Value) (x : DataW H × List MemPlace) (h : DataW.trod enc P w base spare held fuel t cs = some x) (hw : ∀ n ∈ x.1.weights P t, n ≤ reachBytes) : ∃ (y : List α) (A : Option Addr) (c : Nat), cs = [.slice A y.length c] ∧ y.length ≤ c ∧ (A = none → c = 0) ∧ d.C w A y.length y ∧ OkL G y := by
 rcases Go.Deep.open_slice ht h with ⟨rfl, rfl⟩ | ⟨a, len, cap, m, n, D, Pl, rfl, hb, hl, hm, hmm, rfl, hi⟩
 ·exact ⟨[], none, 0, rfl, Nat.le_refl 0, fun _ => rfl, Kd.C_nil d w, Nat.zero_le _, fun z hz => by cases hz⟩
 ·have hlm : len ≤ m := by rw [hmm]; split <;> omega
  have hk : ∀ i, ∃ y : Option α, i < len → ∃ z cs', y = some z ∧ w.cells? base (a.add (i * P.cellsOf e)) (P.cellsOf e) = some cs' ∧ d.K w z cs' ∧ G z := by
   intro i
   by_cases hil : i < len
   ·obtain ⟨cs', h1, h2⟩ := hi i (by omega)
    obtain ⟨z, hz, hg⟩ := hd _ _ _ h2 (fun n hn => hw n (by
     simp only [DataW.weights, ht, List.mem_cons, List.mem_append]
     exact .inr (.inl (weightsAll_mem P (d := D i) (List.mem_map.2 ⟨i, List.mem_range.2 hil, rfl⟩) hn))))
    exact ⟨some z, fun _ => ⟨z, cs', rfl, h1, hz, hg⟩⟩
   ·exact ⟨none, fun hh => absurd hh hil⟩
  obtain ⟨f, hf⟩ := Classical.axiomOfChoice hk
  have hall : ∀ i, i < len → ∃ z cs', f i = some z ∧ w.cells? base (a.add (i * P.cellsOf e)) (P.cellsOf e) = some cs' ∧ d.K w z cs' ∧ G z := hf
  have hlen : ((List.range len).filterMap f).length = len ∧ ∀ i, i < len → ((List.range len).filterMap f)[i]? = f i := by
   have key : ∀ m, m ≤ len → ((List.range m).filterMap f).length = m ∧ ∀ i, i < m → ((List.range m).filterMap f)[i]? = f i := by
    intro m
    induction m with
    | zero => intro _; exact ⟨rfl, fun i hi => absurd hi (by omega)⟩
    | succ m ih =>
     intro hm
     obtain ⟨i1, i2⟩ := ih (by omega)
     obtain ⟨z, cs', hz, _⟩ := hall m (by omega)
     have e : (List.range (m + 1)).filterMap f = (List.range m).filterMap f ++ [z] := by
      rw [List.range_succ, List.filterMap_append]
      simp [hz]
     rw [e]
     refine ⟨by simp [i1], fun i hi => ?_⟩
     by_cases him : i < m
     ·rw [List.getElem?_append_left (by omega)]; exact i2 i him
     ·obtain rfl : i = m := by omega
      rw [List.getElem?_append_right (by omega), i1, Nat.sub_self, hz]; rfl
   exact key len (Nat.le_refl _)
  obtain ⟨l1, l2⟩ := hlen
  have hlen47 : len ≤ 140737488351232 := by
   have h1 := hw _ (by simp only [DataW.weights, ht]; exact List.mem_cons_self)
   rw [List.length_map, List.length_range, List.length_map, List.length_range] at h1
   have h2 : len * 1 ≤ (len + (m - len)) * P.bytesOf e := Nat.mul_le_mul (Nat.le_add_right _ _) hby
   unfold reachBytes at h1
   omega
  refine ⟨(List.range len).filterMap f, some a, cap, by rw [l1], by rw [l1]; exact hl, (fun hh => by cases hh), ⟨rfl, by rw [l1]; unfold maxLen at hm; omega, fun _ => ⟨a, rfl, fun j p hp => ?_⟩⟩, by rw [l1]; exact hlen47, fun z hz => ?_⟩
  ·have hj : j < len := by
    have := (List.getElem?_eq_some_iff.1 hp).1
    omega
   obtain ⟨z, cs', hz, hc, hK, _⟩ := hall j hj
   have hpz : p = z := by rw [l2 j hj, hz] at hp; injection hp with hp; exact hp.symm
   subst hpz
   obtain ⟨_, hcl, hat⟩ := World.cells?_some hc
   refine ⟨cs', by rw [hcl, hsz], hK, fun i u hu => ?_⟩
   have hil := (List.getElem?_eq_some_iff.1 hu).1
   rw [← Go.Deep.add_add, ← hsz, hat i (by omega), hu]
  ·obtain ⟨j, hj, he⟩ := List.getElem_of_mem hz
   rw [l1] at hj
   obtain ⟨z', cs', hz', _, _, hg⟩ := hall j hj
   have h3 := l2 j hj
   rw [List.getElem?_eq_getElem (by rw [l1]; exact hj), he, hz'] at h3
   injection h3 with h3
   rw [h3]
   exact hg
theorem opens_slice {d : Kd α} {G : α → Prop} {t e : TypeId} (ht : P.underlying t = some (.slice e)) (hsz : P.cellsOf e = d.sz) (hby : 1 ≤ P.bytesOf e) (hd : Opens enc P w base spare held d G e) : Opens enc P w base spare held (Kd.slice e d) (OkL G) t := fun fuel cs x h hw => by
 obtain ⟨y, A, c, rfl, hl, _, hC, hG⟩ := opens_C ht hsz hby hd fuel cs x h hw
 exact ⟨y, ⟨A, c, rfl, hl, hC⟩, hG⟩
theorem opensF_one {d : Kd α} {G : α → Prop} {o : Nat} {f : Field} (ho : f.offset = o) (hsz : P.cellsOf f.type = d.sz) (hd : Opens enc P w base spare held d G f.type) : OpensF enc P w base spare held d G o [f] := fun n cs hl h => by
 obtain ⟨y, hy, hw⟩ := h f (by simp)
 rw [ho, Nat.sub_self, List.drop_zero, hsz, ← hl, List.take_length] at hy
 exact hd _ _ _ hy hw
theorem opensF_pair {a : Kd α} {b : Kd β} {G : α → Prop} {K : β → Prop} {o : Nat} {f : Field} {fs : List Field} (ho : f.offset = o) (hsz : P.cellsOf f.type = a.sz) (ha : Opens enc P w base spare held a G f.type) (hfs : ∀ g ∈ fs, o + a.sz ≤ g.offset) (hb : OpensF enc P w base spare held b K (o + a.sz) fs) : OpensF enc P w base spare held (Kd.pair a b) (OkP G K) o (f :: fs) := fun n cs hl h => by
 have hl' : cs.length = a.sz + b.sz := hl
 obtain ⟨y, hy, hw⟩ := h f (by simp)
 rw [ho, Nat.sub_self, List.drop_zero, hsz] at hy
 obtain ⟨x, hx, hgx⟩ := ha _ _ _ hy hw
 obtain ⟨z, hz, hgz⟩ := hb n (cs.drop a.sz) (by rw [List.length_drop]; omega) (fun g hg => by
  obtain ⟨y, hy, hw⟩ := h g (by simp [hg])
  have := hfs g hg
  exact ⟨y, by rw [List.drop_drop, show a.sz + (g.offset - (o + a.sz)) = g.offset - o by omega]; exact hy, hw⟩)
 exact ⟨(x, z), ⟨cs.take a.sz, cs.drop a.sz, (List.take_append_drop _ _).symm, hx, hz⟩, hgx, hgz⟩
theorem opens_struct {d : Kd α} {G : α → Prop} {t : TypeId} {fs : Array Field} (f : β → α) (hf : ∀ y, ∃ x, f x = y) (ht : P.underlying t = some (.struct fs)) (hsz : P.cellsOf t = d.sz) (hd : OpensF enc P w base spare held d G 0 fs.toList) : Opens enc P w base spare held (Kd.iso d f) (fun x => G (f x)) t := fun fuel cs x h hw => by
 obtain ⟨xs, n, _, rfl, hl, hlen, hg⟩ := DataW.trod_struct ht h
 obtain ⟨y, hy, hgy⟩ := hd n cs (by rw [hl, hsz]) (fun g hg' => by
  obtain ⟨i, hi, he⟩ := List.getElem_of_mem hg'
  have h1 : fs[i]? = some g := by rw [← he]; simp at hi; simp [hi]
  have h2 := hg i g h1
  have hlt : i < xs.length := by rw [hlen]; simpa using hi
  rw [List.getElem?_eq_getElem hlt] at h2
  refine ⟨_, by rw [Nat.sub_zero]; exact h2, fun n hn => hw n ?_⟩
  simp only [DataW.weights, ht]
  exact DataW.weights_mem_each (j := i) (t := g.type) (d := xs[i].1) (by simp at hi; rw [List.getElem?_map]; simp [hi, ← he]) (by rw [List.getElem?_map, List.getElem?_eq_getElem hlt]; rfl) n hn)
 obtain ⟨x, rfl⟩ := hf y
 exact ⟨x, hy, hgy⟩
end
theorem cells_int : Tryz.prog.cellsOf 3 = 1 := by kernel_rfl
theorem cells_byte : Tryz.prog.cellsOf 5 = 1 := by kernel_rfl
theorem cells_bool : Tryz.prog.cellsOf 4 = 1 := by kernel_rfl
theorem cells_string : Tryz.prog.cellsOf 9 = 1 := by kernel_rfl
theorem cells_path : Tryz.prog.cellsOf 43 = 3 := by kernel_rfl
theorem cells_paths : Tryz.prog.cellsOf 44 = 1 := by kernel_rfl
theorem cells_bytes : Tryz.prog.cellsOf 25 = 1 := by kernel_rfl
theorem cells_mail : Tryz.prog.cellsOf 46 = 8 := by kernel_rfl
theorem cells_mails : Tryz.prog.cellsOf 22 = 1 := by kernel_rfl
theorem cells_bundle : Tryz.prog.cellsOf 24 = 3 := by kernel_rfl
theorem bytes_byte : 1 ≤ Tryz.prog.bytesOf 5 := of_decide_eq_true (by kernel_rfl)
theorem bytes_path : 1 ≤ Tryz.prog.bytesOf 43 := of_decide_eq_true (by kernel_rfl)
theorem bytes_mail : 1 ≤ Tryz.prog.bytesOf 46 := of_decide_eq_true (by kernel_rfl)
theorem u8_wf {x : Int} (h : OkI .u8 x) : 0 ≤ x ∧ x < 256 := by
 unfold OkI Lit.wf at h
 simp [IntKind.min, IntKind.max, IntKind.signed, IntKind.bits] at h
 omega
theorem nb_of {l : List Int} (h : ∀ x ∈ l, 0 ≤ x ∧ x < 256) : ∃ s : B.Bs, nb s = l := by
 refine ⟨Lib.bytesOf l, ?_⟩
 unfold nb Lib.bytesOf
 rw [List.map_map]
 refine (List.map_congr_left (fun x hx => ?_)).trans (List.map_id l)
 have := h x hx
 simp
 omega
def OkB (l : B.Bs) : Prop := l.length ≤ 140737488351232
def OkPath (x : V.Path) : Prop := OkP OkA (OkP OkB OkB) (x.null, x.loc, x.dom)
def OkMail (m : B.Mail) : Prop := OkP OkPath (OkP (OkL OkPath) (OkP OkB (OkP OkA (OkP OkB (OkI .i64))))) (m.frm, m.to, m.body, m.quiet, m.helo, m.tm)
section
variable {H : Type} {enc : TypeId × Value → H} {w : World} {base : Nat} {spare : Nat → Bool} {held : Bool}
theorem opens_str : Opens enc Tryz.prog w base spare held kStr OkB 9 := fun fuel cs x h hw => by
 obtain ⟨y, hy, hg⟩ := opens_string Tryz.underlying9 fuel cs x h hw
 refine ⟨lst y, ?_, ?_⟩
 ·show Kd.string.K w (str (lst y)) cs
  rw [str_lst]; exact hy
 ·unfold OkB lst
  unfold OkS at hg
  rw [Array.length_toList]; exact hg
theorem opens_Bt (fuel : Nat) (cs : List Value) (x : DataW H × List MemPlace) (h : DataW.trod enc Tryz.prog w base spare held fuel 25 cs = some x) (hw : ∀ n ∈ x.1.weights Tryz.prog 25, n ≤ reachBytes) : ∃ (l : B.Bs) (A : Option Addr) (c : Nat), cs = [.slice A l.length c] ∧ Bt w A c l ∧ OkB l := by
 obtain ⟨y, A, c, rfl, hl, hn, hC, hG⟩ := opens_C Tryz.underlying25 cells_byte bytes_byte (opens_int Tryz.underlying5) fuel cs x h hw
 obtain ⟨l, rfl⟩ := nb_of (fun x hx => u8_wf (hG.2 x hx))
 have h1 := nb_length l
 rw [h1] at hl
 have h2 := hG.1
 rw [h1] at h2
 exact ⟨l, A, c, by rw [h1], ⟨hC, hl, hn⟩, h2⟩
theorem opens_B : Opens enc Tryz.prog w base spare held kB OkB 25 := fun fuel cs x h hw => by
 obtain ⟨l, A, c, h1, h2, h3⟩ := opens_Bt fuel cs x h hw
 exact ⟨l, ⟨A, c, h1, h2⟩, h3⟩
theorem opens_path : Opens enc Tryz.prog w base spare held kPath OkPath 43 :=
 opens_struct _ (fun y => ⟨⟨y.1, y.2.1, y.2.2⟩, rfl⟩) Tryz.underlying43 cells_path (opensF_pair rfl cells_bool (opens_bool Tryz.underlying4) (by decide) (opensF_pair rfl cells_string opens_str (by decide) (opensF_one rfl cells_string opens_str)))
theorem opens_mail : Opens enc Tryz.prog w base spare held kMail OkMail 46 :=
 opens_struct _ (fun y => ⟨⟨y.1, y.2.1, y.2.2.1, y.2.2.2.1, y.2.2.2.2.1, y.2.2.2.2.2⟩, rfl⟩) Tryz.underlying46 cells_mail (opensF_pair rfl cells_path opens_path (by decide) (opensF_pair rfl cells_paths (opens_slice Tryz.underlying44 cells_path bytes_path opens_path) (by decide) (opensF_pair rfl cells_bytes opens_B (by decide) (opensF_pair rfl cells_bool (opens_bool Tryz.underlying4) (by decide) (opensF_pair rfl cells_string opens_str (by decide) (opensF_one rfl cells_int (opens_int Tryz.underlying3)))))))
theorem OkPath.reach {p : V.Path} (h : OkPath p) : B.reachP p := ⟨h.2.1, h.2.2⟩
theorem OkMail.reach {m : B.Mail} (h : OkMail m) : B.Reach m := ⟨h.1.reach, fun p hp => (h.2.1.2 p hp).reach, h.2.1.1, h.2.2.1, h.2.2.2.2.1⟩
def kBundle : Kd (Int × Int × List B.Mail) := Kd.pair (Kd.int .i64) (Kd.pair (Kd.int .i64) (Kd.slice 46 kMail))
theorem opens_bundle : Opens enc Tryz.prog w base spare held (Kd.iso kBundle (fun b : B.Bundle => (b.origin, b.number, b.mails))) (fun b => OkP (OkI .i64) (OkP (OkI .i64) (OkL OkMail)) (b.origin, b.number, b.mails)) 24 :=
 opens_struct _ (fun y => ⟨⟨y.1, y.2.1, y.2.2⟩, rfl⟩) Tryz.underlying24 cells_bundle (opensF_pair rfl cells_int (opens_int Tryz.underlying3) (by decide) (opensF_pair rfl cells_int (opens_int Tryz.underlying3) (by decide) (opensF_one rfl cells_mails (opens_slice Tryz.underlying22 cells_mail bytes_mail opens_mail))))
set_option maxRecDepth 100000 in
theorem open_bytes {r : Reach} {b0 : Nat} {v : Value} {d : DataW H} {p : List MemPlace} {ts : List TypeId} {ds : List (DataW H)} {j : Nat} (hsz : (DataW.weightsEach Tryz.prog ts ds).all (· ≤ reachBytes) = true) (hts : ts[j]? = some 25) (hds : ds[j]? = some d) (hv : Value.okWide Tryz.prog w r b0 25 v) (h : DataW.Trod enc Tryz.prog w base spare held 25 v d p) : ∃ (x : B.Bs) (A : Option Addr) (c : Nat), v = .slice A x.length c ∧ Bt w A c x ∧ OkB x := by
 obtain ⟨a, len, cap, rfl⟩ := Go.WideShapes.okWide_slice Tryz.underlying25 hv
 obtain ⟨fuel, hf⟩ := h
 obtain ⟨y, A, c, hy, hB, hG⟩ := opens_Bt _ _ _ hf (fun n hn => by simpa using List.all_eq_true.1 hsz n (DataW.weights_mem_each hts hds n hn))
 exact ⟨y, A, c, by simpa [Value.cells] using hy, hB, hG⟩
set_option maxRecDepth 100000 in
theorem open_mails {r : Reach} {b0 : Nat} {v : Value} {d : DataW H} {p : List MemPlace} {ts : List TypeId} {ds : List (DataW H)} {j : Nat} (hsz : (DataW.weightsEach Tryz.prog ts ds).all (· ≤ reachBytes) = true) (hts : ts[j]? = some 22) (hds : ds[j]? = some d) (hv : Value.okWide Tryz.prog w r b0 22 v) (h : DataW.Trod enc Tryz.prog w base spare held 22 v d p) : ∃ (x : List B.Mail) (A : Option Addr) (c : Nat), v = .slice A x.length c ∧ x.length ≤ c ∧ (A = none → c = 0) ∧ kMail.C w A x.length x ∧ x.length ≤ 140737488351232 ∧ (∀ m ∈ x, B.Reach m) := by
 obtain ⟨a, len, cap, rfl⟩ := Go.WideShapes.okWide_slice Tryz.underlying22 hv
 obtain ⟨fuel, hf⟩ := h
 obtain ⟨y, A, c, hy, hl, hn, hC, hG⟩ := opens_C Tryz.underlying22 cells_mail bytes_mail opens_mail _ _ _ hf (fun n hn => by simpa using List.all_eq_true.1 hsz n (DataW.weights_mem_each hts hds n hn))
 exact ⟨y, A, c, by simpa [Value.cells] using hy, hl, hn, hC, hG.1, fun m hm => (hG.2 m hm).reach⟩
set_option maxRecDepth 100000 in
theorem open_bundle {r : Reach} {b0 : Nat} {v : Value} {d : DataW H} {p : List MemPlace} {ts : List TypeId} {ds : List (DataW H)} {j : Nat} (hsz : (DataW.weightsEach Tryz.prog ts ds).all (· ≤ reachBytes) = true) (hts : ts[j]? = some 24) (hds : ds[j]? = some d) (hv : Value.okWide Tryz.prog w r b0 24 v) (h : DataW.Trod enc Tryz.prog w base spare held 24 v d p) : ∃ (b : B.Bundle) (A : Option Addr) (c : Nat), v = .agg #[.int .i64 b.origin, .int .i64 b.number, .slice A b.mails.length c] ∧ Bn w b A c ∧ B.ReachB b ∧ OkI .i64 b.origin ∧ OkI .i64 b.number := by
 obtain ⟨cs, rfl, _⟩ := Go.WideShapes.okWide_struct Tryz.underlying24 hv
 obtain ⟨fuel, hf⟩ := h
 obtain ⟨y, hy, hg⟩ := opens_bundle _ _ _ hf (fun n hn => by simpa using List.all_eq_true.1 hsz n (DataW.weights_mem_each hts hds n hn))
 obtain ⟨_, _, e1, rfl, _, _, rfl, rfl, A, c, rfl, hc, hC⟩ := hy
 refine ⟨y, A, c, ?_, ⟨hc, hC⟩, ⟨hg.2.2.1, fun m hm => (hg.2.2.2 m hm).reach⟩, hg.1, hg.2.1⟩
 congr 1
 apply Array.toList_inj.1
 simpa [Value.cells] using e1
end
end Go.Proofs.YtpfmnkpmidjfjaaGreatDoor
/- What keep's Twin, TwinPaths and the reference's Plain answer. -/
namespace Go.Proofs.YtpfmnkpmidjfjaaGreatDoor
open Go.RowKit Go.Lib
open Go.Proofs.YtpfmnkpmidjfjaaGreatDoorW.PrintWords
set_option linter.unusedVariables false
set_option linter.unusedSimpArgs false
theorem results_c {P : Program} {fn : Func} {p : Tmp} {ty : TypeId} (h : fn.results = #[.cell p ty]) (tmps : Array Value) (w : World) (g : Nat) (t : TypeId) (cs : Array Value) (fr : Nat × Nat) (d : TypeDesc)
  (hp : tmps.getD p undef = .pointer (some ⟨g, 0, none⟩)) (hg : w.heap[g]? = some (.cells cs t fr))
  (hu : P.underlying ty = some d) (hd : (match d with | .struct _ | .array _ _ => true | _ => false) = true) (hi : (P.info? ty).map (·.size) = some cs.size) :
  (results fn tmps).run P w = .ok (.agg cs) w := by
 have hp' : tmps[p]?.getD undef = .pointer (some ⟨g, 0, none⟩) := by simpa using hp
 simp only [results, h]
 simp [Sem.run_bind, Result.andThen, hp', asAddr, run_loadVar_row w g t ty cs fr d hg hu hd hi]
set_option maxRecDepth 100000 in
set_option maxHeartbeats 1000000 in
theorem twin_any {A : Option Addr} {c : Nat} {l : B.Bs} {w : World} (hb : Bt w A c l) (hl : l.length ≤ 1000000) :
  Calls Tryz.prog 12 #[.slice A l.length c] w fun e w' => (∃ A' c', e = .returned (.slice A' l.length c') ∧ Ow w.heap.size w' (.slice A' l.length c') l) ∧ Below w.heap.size w w' := by
 have HB := Aside0.mk hb
 clear hb
 go_enter Tryz.func12, Tryz.ntmps12
 go_wp2_with (first | ((with_reducible refine gate_builtin (b := .append) (xs := #[.tmp 4, .tmp 5]) rfl ?_); at_builtin; refine Kd.R_append_rows kb (w0 := w) w.heap.size rfl (.tmp 4) (.tmp 5) 25 5 (.int .u8 0) 1 rfl Tryz.underlying25 infoU8 rfl (by decide) (by omega) (.slice none 0 0) [] (nb l) A (nb l).length c (fun _ => True) (fun _ => False) rfl (by rw [nb_length]; rfl) (Kd.R_nil _ _ _ _ _) HB.out.rd (fun _ _ h => h) (fun _ h => h.elim) (fun _ _ => trivial) (Below.refl _ _) (Nat.le_refl _) (by have := nb_length l; simp; omega) ?_; intro v1 w1 h1 h2 _ _; have H1 := Aside0.mk h1; have H2 := Aside0.mk h2; clear h1 h2))
 go_ret
 have h1 := H1.out
 rw [List.nil_append] at h1
 have ho : Ow w.heap.size w1 v1 l := h1
 obtain ⟨A', c', e, _⟩ := ho.bt
 exact ⟨⟨A', c', by rw [← e]; rfl, by rw [← e]; exact ho⟩, H2.out⟩
set_option maxRecDepth 100000 in
set_option maxHeartbeats 1000000 in
theorem twinPaths_any (xs : List V.Path) (A : Option Addr) (c : Nat) (w : World) (hx : kPath.C w A xs.length xs) (hn : xs.length ≤ 100000) :
  Calls Tryz.prog 49 #[.slice A xs.length c] w fun e w' => (∃ A' c', e = .returned (.slice A' xs.length c') ∧ Ps w.heap.size w' (.slice A' xs.length c') xs) ∧ Below w.heap.size w w' := by
 have HX := Aside0.mk hx
 clear hx
 go_enter Tryz.func49, Tryz.ntmps49
 go_wp2_with (first | ((with_reducible refine gate_builtin (b := .append) (xs := #[.tmp 4, .tmp 5]) rfl ?_); at_builtin; refine Kd.R_append_rows kPath (w0 := w) w.heap.size rfl (.tmp 4) (.tmp 5) 44 43 (.agg #[.bool false, .string ⟨#[]⟩, .string ⟨#[]⟩]) 40 rfl Tryz.underlying44 infoPath rfl (by decide) (by omega) (.slice none 0 0) [] xs A xs.length c (fun _ => True) (fun _ => False) rfl rfl (Kd.R_nil _ _ _ _ _) HX.out (fun x cs h => by obtain rfl := kPath_open h; exact kPath_mkM _ _ _ _) (fun _ h => h.elim) (fun _ _ => trivial) (Below.refl _ _) (Nat.le_refl _) (by simp; omega) ?_; intro v1 w1 h1 h2 _ _; have H1 := Aside0.mk h1; have H2 := Aside0.mk h2; clear h1 h2))
 go_ret
 obtain ⟨A', c', e⟩ := Kd.R_slice H1.out
 have h1 := H1.out
 rw [List.nil_append] at e h1
 exact ⟨⟨A', c', by rw [← e]; rfl, by rw [← e]; exact h1⟩, H2.out⟩
set_option maxRecDepth 100000 in
set_option maxHeartbeats 4000000 in
theorem rplain_any (m : B.Mail) (A1 : Option Addr) (c1 : Nat) (A2 : Option Addr) (c2 : Nat) (w : World) (hm : Ml w m A1 c1 A2 c2) (hf : B.Fit m) :
  Calls Tryz.prog 26 #[.agg #[.bool m.frm.null, .string (str m.frm.loc), .string (str m.frm.dom), .slice A1 m.to.length c1, .slice A2 m.body.length c2, .bool m.quiet, .string (str m.helo), .int .i64 m.tm]] w fun e w' => (∃ A c A' c', e = .returned (.agg #[.bool m.frm.null, .string (str m.frm.loc), .string (str m.frm.dom), .slice A m.to.length c, .slice A' m.body.length c', .bool false, .string { data := #[] }, .int .i64 0]) ∧ Ps w.heap.size w' (.slice A m.to.length c) m.to ∧ Ow w.heap.size w' (.slice A' m.body.length c') m.body) ∧ Below w.heap.size w w' := by
 have HM := Aside0.mk hm
 have HF := Aside0.mk hf
 clear hm hf
 go_enter Tryz.func26, Tryz.ntmps26
 go_upto_region 1 with (fail)
 obtain ⟨w0, hw0⟩ : ∃ w0, w0 = w.alloc (.cells #[.bool m.frm.null, .string (str m.frm.loc), .string (str m.frm.dom), .slice A1 m.to.length c1, .slice A2 m.body.length c2, .bool m.quiet, .string (str m.helo), .int .i64 m.tm] 46) := ⟨_, rfl⟩
 obtain ⟨w1, hw1⟩ : ∃ w1, w1 = w0.alloc (.cells #[.bool false, .string { data := #[] }, .string { data := #[] }, .slice none 0 0, .slice none 0 0, .bool false, .string { data := #[] }, .int .i64 0] 46) := ⟨_, rfl⟩
 have hs0 : w0.heap.size = w.heap.size + 1 := by rw [hw0]; exact Array.size_push _
 rw [← hw0, ← hw1]
 have hb0 : Below w.heap.size w w0 := by rw [hw0]; exact (Below.refl _ _).alloc (Nat.le_refl _) _
 have hb1 : Below w0.heap.size w0 w1 := by rw [hw1]; exact (Below.refl _ _).alloc (Nat.le_refl _) _
 have HR0 := Aside0.mk (show w1.heap[w.heap.size]? = some (.cells #[.bool m.frm.null, .string (str m.frm.loc), .string (str m.frm.dom), .slice A1 m.to.length c1, .slice A2 m.body.length c2, .bool m.quiet, .string (str m.helo), .int .i64 m.tm] 46 (0, 0)) from row_on hb1 (by rw [hw0]; exact heap_alloc_new _ _))
 have HZ1 := Aside0.mk (show w1.heap[w.heap.size + 1]? = some (.cells #[.bool false, .string { data := #[] }, .string { data := #[] }, .slice none 0 0, .slice none 0 0, .bool false, .string { data := #[] }, .int .i64 0] 46 (0, 0)) by rw [← hs0, hw1]; exact heap_alloc_new _ _)
 have H1 := Aside0.mk (hb0.trans (hb1.mono hb0.size))
 clear hw0 hw1 hs0 hb0 hb1
 obtain ⟨⟨d0, d1, d2, d3, d4, d5, d6, d7⟩, _⟩ := cells8 HR0.out
 obtain ⟨⟨z0, z1, z2, z3, z4, z5, z6, z7⟩, y0, y1, y2, y3, y4, y5, y6, y7⟩ := cells8 HZ1.out
 have hcp : ∀ W, Below w1.heap.size w1 W → Calls Tryz.prog 49 #[.slice A1 m.to.length c1] W fun e w' => (∃ A' c', e = .returned (.slice A' m.to.length c') ∧ Ps w1.heap.size w' (.slice A' m.to.length c') m.to) ∧ Below W.heap.size W w' := fun W hW => (twinPaths_any m.to A1 c1 W (Kd.C_below (Kd.C_below HM.out.tos H1.out) hW) HF.out.n).mono (fun e w' h => by
  obtain ⟨⟨A', c', rfl, h1⟩, h2⟩ := h
  exact ⟨⟨A', c', rfl, Kd.R_lower h1 hW.size⟩, h2⟩)
 have hcb : ∀ W, Below w1.heap.size w1 W → Calls Tryz.prog 12 #[.slice A2 m.body.length c2] W fun e w' => (∃ A' c', e = .returned (.slice A' m.body.length c') ∧ Ow w1.heap.size w' (.slice A' m.body.length c') m.body) ∧ Below W.heap.size W w' := fun W hW => (twin_any ((HM.out.body.on H1.out).on hW) (by have := HF.out.body; omega)).mono (fun e w' h => by
  obtain ⟨⟨A', c', rfl, h1⟩, h2⟩ := h
  exact ⟨⟨A', c', rfl, h1.low hW.size⟩, h2⟩)
 have HCP := Aside0.mk hcp
 have HCB := Aside0.mk hcb
 have HW := Aside0.mk (Below.refl w1.heap.size w1)
 clear hcp hcb
 go_region_held3 (fun w' => w'.cell? ⟨w.heap.size, 0, none⟩ = some (.bool m.frm.null) ∧ w'.cell? ⟨w.heap.size, 1, none⟩ = some (.string (str m.frm.loc)) ∧ w'.cell? ⟨w.heap.size, 2, none⟩ = some (.string (str m.frm.dom)) ∧ w'.cell? ⟨w.heap.size, 3, none⟩ = some (.slice A1 m.to.length c1) ∧ w'.cell? ⟨w.heap.size, 4, none⟩ = some (.slice A2 m.body.length c2)) (first | (with_reducible exact HQ.out) | go_keep) (first | (go_at_call 49; (with_reducible refine Calls.mono (HCP.out _ ?_) ?_); (first | exact HW.out | exact HW.out.drew); rintro e wp ⟨⟨At, ct, rfl, hp⟩, h⟩; have hw := (by first | exact HW.out.trans (h.mono HW.out.size) | exact HW.out.drew.trans (h.mono HW.out.size) : Below w1.heap.size w1 wp); (try have HBo := Aside0.mk (HBo.out.on (by first | exact h | exact ((Below.refl _ _).drew).trans h))); have HTo := Aside0.mk hp; clear HW; have HW := Aside0.mk hw; have HQ := Aside0.mk (let ⟨⟨a, b, c, d, e, _⟩, _⟩ := cells8 (row_on hw HR0.out); And.intro a (And.intro b (And.intro c (And.intro d e)))); (try clear z0 z1 z2 z3 z4 z5 z6 z7 y0 y1 y2 y3 y4 y5 y6 y7); obtain ⟨⟨z0, z1, z2, z3, z4, z5, z6, z7⟩, y0, y1, y2, y3, y4, y5, y6, y7⟩ := cells8 (row_on hw HZ1.out); have HZ := Aside0.mk (row_on hw HZ1.out); clear h hw hp) | (go_at_call 12; (with_reducible refine Calls.mono (HCB.out _ ?_) ?_); (first | exact HW.out | exact HW.out.drew); rintro e wp ⟨⟨Ab, cb, rfl, hp⟩, h⟩; have hw := (by first | exact HW.out.trans (h.mono HW.out.size) | exact HW.out.drew.trans (h.mono HW.out.size) : Below w1.heap.size w1 wp); (try have HTo := Aside0.mk (Kd.R_below HTo.out (by first | exact h | exact ((Below.refl _ _).drew).trans h))); have HBo := Aside0.mk hp; clear HW; have HW := Aside0.mk hw; have HQ := Aside0.mk (let ⟨⟨a, b, c, d, e, _⟩, _⟩ := cells8 (row_on hw HR0.out); And.intro a (And.intro b (And.intro c (And.intro d e)))); (try clear z0 z1 z2 z3 z4 z5 z6 z7 y0 y1 y2 y3 y4 y5 y6 y7); obtain ⟨⟨z0, z1, z2, z3, z4, z5, z6, z7⟩, y0, y1, y2, y3, y4, y5, y6, y7⟩ := cells8 (row_on hw HZ1.out); have HZ := Aside0.mk (row_on hw HZ1.out); clear h hw hp))
 all_goals
  go_wp2_with (fail)
  refine bodyPost_ret (v := .agg #[.bool m.frm.null, .string (str m.frm.loc), .string (str m.frm.dom), .slice At m.to.length ct, .slice Ab m.body.length cb, .bool false, .string { data := #[] }, .int .i64 0]) ?_ rfl ⟨⟨At, ct, Ab, cb, rfl, ?_, ?_⟩, ?_⟩
  ·exact results_c (by rfl) _ _ (w.heap.size + 1) 46 _ (0, 0) _ rfl (row8_all HZ.out) Tryz.underlying46 rfl (by kernel_rfl)
  ·exact Kd.R_lower (R_set8 HTo.out _ _ _ _ _ _ _ _ HZ.out pathE) H1.out.size
  ·exact (show Ow w.heap.size _ _ _ from Kd.R_lower (R_set8 HBo.out _ _ _ _ _ _ _ _ HZ.out byteE) H1.out.size)
  ·exact below8 (H1.out.trans (HW.out.mono H1.out.size)) (by omega)
end Go.Proofs.YtpfmnkpmidjfjaaGreatDoor
/- What keep's TwinMail and TwinMails answer. -/
namespace Go.Proofs.YtpfmnkpmidjfjaaGreatDoor
open Go.RowKit Go.Lib
open Go.Proofs.YtpfmnkpmidjfjaaGreatDoorW.PrintWords
set_option linter.unusedVariables false
set_option linter.unusedSimpArgs false
set_option maxRecDepth 100000 in
set_option maxHeartbeats 4000000 in
theorem twinMail_any (m : B.Mail) (A1 : Option Addr) (c1 : Nat) (A2 : Option Addr) (c2 : Nat) (w : World) (hm : Ml w m A1 c1 A2 c2) (hf : B.Fit m) :
  Calls Tryz.prog 29 #[.agg #[.bool m.frm.null, .string (str m.frm.loc), .string (str m.frm.dom), .slice A1 m.to.length c1, .slice A2 m.body.length c2, .bool m.quiet, .string (str m.helo), .int .i64 m.tm]] w fun e w' => (∃ A c A' c', e = .returned (.agg #[.bool m.frm.null, .string (str m.frm.loc), .string (str m.frm.dom), .slice A m.to.length c, .slice A' m.body.length c', .bool m.quiet, .string (str m.helo), .int .i64 m.tm]) ∧ Ps w.heap.size w' (.slice A m.to.length c) m.to ∧ Ow w.heap.size w' (.slice A' m.body.length c') m.body) ∧ Below w.heap.size w w' := by
 have HM := Aside0.mk hm
 have HF := Aside0.mk hf
 clear hm hf
 go_enter Tryz.func29, Tryz.ntmps29
 go_upto_region 1 with (fail)
 obtain ⟨w0, hw0⟩ : ∃ w0, w0 = w.alloc (.cells #[.bool m.frm.null, .string (str m.frm.loc), .string (str m.frm.dom), .slice A1 m.to.length c1, .slice A2 m.body.length c2, .bool m.quiet, .string (str m.helo), .int .i64 m.tm] 46) := ⟨_, rfl⟩
 obtain ⟨w1, hw1⟩ : ∃ w1, w1 = w0.alloc (.cells #[.bool false, .string { data := #[] }, .string { data := #[] }, .slice none 0 0, .slice none 0 0, .bool false, .string { data := #[] }, .int .i64 0] 46) := ⟨_, rfl⟩
 have hs0 : w0.heap.size = w.heap.size + 1 := by rw [hw0]; exact Array.size_push _
 rw [← hw0, ← hw1]
 have hb0 : Below w.heap.size w w0 := by rw [hw0]; exact (Below.refl _ _).alloc (Nat.le_refl _) _
 have hb1 : Below w0.heap.size w0 w1 := by rw [hw1]; exact (Below.refl _ _).alloc (Nat.le_refl _) _
 have HR1 := Aside0.mk (show w1.heap[w.heap.size]? = some (.cells #[.bool m.frm.null, .string (str m.frm.loc), .string (str m.frm.dom), .slice A1 m.to.length c1, .slice A2 m.body.length c2, .bool m.quiet, .string (str m.helo), .int .i64 m.tm] 46 (0, 0)) from row_on hb1 (by rw [hw0]; exact heap_alloc_new _ _))
 have HR := Aside0.mk HR1.out
 have HZ1 := Aside0.mk (show w1.heap[w.heap.size + 1]? = some (.cells #[.bool false, .string { data := #[] }, .string { data := #[] }, .slice none 0 0, .slice none 0 0, .bool false, .string { data := #[] }, .int .i64 0] 46 (0, 0)) by rw [← hs0, hw1]; exact heap_alloc_new _ _)
 have H1 := Aside0.mk (hb0.trans (hb1.mono hb0.size))
 clear hw0 hw1 hs0 hb0 hb1
 obtain ⟨⟨d0, d1, d2, d3, d4, d5, d6, d7⟩, y0, y1, y2, y3, y4, y5, y6, y7⟩ := cells8 HR1.out
 have hcp : ∀ W, Below w1.heap.size w1 W → Calls Tryz.prog 49 #[.slice A1 m.to.length c1] W fun e w' => (∃ A' c', e = .returned (.slice A' m.to.length c') ∧ Ps w1.heap.size w' (.slice A' m.to.length c') m.to) ∧ Below W.heap.size W w' := fun W hW => (twinPaths_any m.to A1 c1 W (Kd.C_below (Kd.C_below HM.out.tos H1.out) hW) HF.out.n).mono (fun e w' h => by
  obtain ⟨⟨A', c', rfl, h1⟩, h2⟩ := h
  exact ⟨⟨A', c', rfl, Kd.R_lower h1 hW.size⟩, h2⟩)
 have hcb : ∀ W, Below w1.heap.size w1 W → Calls Tryz.prog 12 #[.slice A2 m.body.length c2] W fun e w' => (∃ A' c', e = .returned (.slice A' m.body.length c') ∧ Ow w1.heap.size w' (.slice A' m.body.length c') m.body) ∧ Below W.heap.size W w' := fun W hW => (twin_any ((HM.out.body.on H1.out).on hW) (by have := HF.out.body; omega)).mono (fun e w' h => by
  obtain ⟨⟨A', c', rfl, h1⟩, h2⟩ := h
  exact ⟨⟨A', c', rfl, h1.low hW.size⟩, h2⟩)
 have HCP := Aside0.mk hcp
 have HCB := Aside0.mk hcb
 have HW := Aside0.mk (Below.refl w1.heap.size w1)
 clear hcp hcb
 refine wp_region_held_drew (S := fun _ => True) (by kernel_rfl) trivial (fun hHeld => ?_)
 refine wpAnyH_take (i := 0) (oi := _) (v := ?_) rfl (by kernel_rfl) (by kernel_rfl) (by kernel_rfl) (fun _ _ _ h => h) (Or.inl ⟨by rfl, ?_⟩) (by assumption) ?_
 case refine_2 => (intro w hSw; (try dsimp only [List.getElem_toArray, List.getElem_cons_zero, List.getElem_cons_succ] at hSw ⊢); go_simp; (try with_reducible rfl))
 try simp only [Act.put, List.getElem_toArray, List.getElem_cons_zero, List.getElem_cons_succ, List.setIfInBounds_toArray, List.set_cons_zero, List.set_cons_succ]
 refine wpAnyH_take (i := 3) (oi := _) (v := ?_) rfl (by kernel_rfl) (by kernel_rfl) (by kernel_rfl) (fun _ _ _ h => h) (Or.inl ⟨by rfl, ?_⟩) (by assumption) ?_
 case refine_2 => (intro w hSw; (try dsimp only [List.getElem_toArray, List.getElem_cons_zero, List.getElem_cons_succ] at hSw ⊢); go_simp; (try with_reducible rfl))
 try simp only [Act.put, List.getElem_toArray, List.getElem_cons_zero, List.getElem_cons_succ, List.setIfInBounds_toArray, List.set_cons_zero, List.set_cons_succ]
 refine wpAnyH_ready (rs := [1, 4]) (by kernel_rfl) (by simp) ?_
 refine (AllReadyH.cons (o := _) (by simp only [List.getElem?_toArray, List.getElem?_cons_zero, List.getElem?_cons_succ]; rfl) (fun K hK => ?_) (AllReadyH.cons (o := _) (by simp only [List.getElem?_toArray, List.getElem?_cons_zero, List.getElem?_cons_succ]; rfl) (fun K hK => ?_) AllReadyH.nil))
 ·skip
  go_simp
  refine hK.out _ _ trivial (fun hHeld2 => ?_)
  clear hK K hHeld
  have hHeld := hHeld2
  clear hHeld2
  try simp only [Act.put, List.getElem_toArray, List.getElem_cons_zero, List.getElem_cons_succ, List.setIfInBounds_toArray, List.set_cons_zero, List.set_cons_succ]
  refine wpAnyH_ready (rs := [2, 4]) (by kernel_rfl) (by simp) ?_
  refine (AllReadyH.cons (o := _) (by simp only [List.getElem?_toArray, List.getElem?_cons_zero, List.getElem?_cons_succ]; rfl) (fun K hK => ?_) (AllReadyH.cons (o := _) (by simp only [List.getElem?_toArray, List.getElem?_cons_zero, List.getElem?_cons_succ]; rfl) (fun K hK => ?_) AllReadyH.nil))
  ·skip
   go_simp
   go_at_call 49
   (with_reducible refine Calls.mono (HCP.out _ ?_) ?_)
   ·(first | exact HW.out | exact HW.out.drew)
   rintro e wp ⟨⟨At, ct, rfl, hp⟩, h⟩
   have hw := (by first | exact HW.out.trans (h.mono HW.out.size) | exact HW.out.drew.trans (h.mono HW.out.size) : Below w1.heap.size w1 wp)
   have hrn := row_on hw HR1.out
   have HTo := Aside0.mk hp
   clear HW HR
   have HW := Aside0.mk hw
   have HR := Aside0.mk hrn
   (try clear d0 d1 d2 d3 d4 d5 d6 d7 y0 y1 y2 y3 y4 y5 y6 y7)
   obtain ⟨⟨d0, d1, d2, d3, d4, d5, d6, d7⟩, y0, y1, y2, y3, y4, y5, y6, y7⟩ := cells8 HR.out
   clear h hw hp hrn
   go_wp2_with (fail)
   refine hK.out _ _ trivial (fun hHeld2 => ?_)
   clear hK K hHeld
   have hHeld := hHeld2
   clear hHeld2
   try simp only [Act.put, List.getElem_toArray, List.getElem_cons_zero, List.getElem_cons_succ, List.setIfInBounds_toArray, List.set_cons_zero, List.set_cons_succ]
   refine wpAnyH_ready (rs := [4]) (by kernel_rfl) (by simp) ?_
   refine (AllReadyH.cons (o := _) (by simp only [List.getElem?_toArray, List.getElem?_cons_zero, List.getElem?_cons_succ]; rfl) (fun K hK => ?_) AllReadyH.nil)
   go_simp
   refine hK.out _ _ trivial (fun hHeld2 => ?_)
   clear hK K hHeld
   have hHeld := hHeld2
   clear hHeld2
   try simp only [Act.put, List.getElem_toArray, List.getElem_cons_zero, List.getElem_cons_succ, List.setIfInBounds_toArray, List.set_cons_zero, List.set_cons_succ]
   refine wpAnyH_take (i := 6) (oi := _) (v := ?_) rfl (by kernel_rfl) (by kernel_rfl) (by kernel_rfl) (fun _ _ _ h => h) (Or.inl ⟨by rfl, ?_⟩) (by assumption) ?_
   case refine_2 => (intro w hSw; (try dsimp only [List.getElem_toArray, List.getElem_cons_zero, List.getElem_cons_succ] at hSw ⊢); go_simp; (try with_reducible rfl))
   try simp only [Act.put, List.getElem_toArray, List.getElem_cons_zero, List.getElem_cons_succ, List.setIfInBounds_toArray, List.set_cons_zero, List.set_cons_succ]
   refine wpAnyH_ready (rs := [5]) (by kernel_rfl) (by simp) ?_
   refine (AllReadyH.cons (o := _) (by simp only [List.getElem?_toArray, List.getElem?_cons_zero, List.getElem?_cons_succ]; rfl) (fun K hK => ?_) AllReadyH.nil)
   go_simp
   go_at_call 12
   (with_reducible refine Calls.mono (HCB.out _ ?_) ?_)
   ·(first | exact HW.out | exact HW.out.drew)
   rintro e wp ⟨⟨Ab, cb, rfl, hp⟩, h⟩
   have hw := (by first | exact HW.out.trans (h.mono HW.out.size) | exact HW.out.drew.trans (h.mono HW.out.size) : Below w1.heap.size w1 wp)
   have hrn := row_on hw HR1.out
   have HTo := Aside0.mk (Kd.R_below HTo.out (by first | exact h | exact ((Below.refl _ _).drew).trans h))
   have HBo := Aside0.mk hp
   clear HW HR
   have HW := Aside0.mk hw
   have HR := Aside0.mk hrn
   (try clear d0 d1 d2 d3 d4 d5 d6 d7 y0 y1 y2 y3 y4 y5 y6 y7)
   obtain ⟨⟨d0, d1, d2, d3, d4, d5, d6, d7⟩, y0, y1, y2, y3, y4, y5, y6, y7⟩ := cells8 HR.out
   clear h hw hp hrn
   go_wp2_with (fail)
   refine hK.out _ _ trivial (fun hHeld2 => ?_)
   clear hK K hHeld
   have hHeld := hHeld2
   clear hHeld2
   try simp only [Act.put, List.getElem_toArray, List.getElem_cons_zero, List.getElem_cons_succ, List.setIfInBounds_toArray, List.set_cons_zero, List.set_cons_succ]
   refine wpAnyH_ready (rs := [7]) (by kernel_rfl) (by simp) ?_
   refine (AllReadyH.cons (o := _) (by simp only [List.getElem?_toArray, List.getElem?_cons_zero, List.getElem?_cons_succ]; rfl) (fun K hK => ?_) AllReadyH.nil)
   go_simp
   refine hK.out _ _ trivial (fun hHeld2 => ?_)
   clear hK K hHeld
   have hHeld := hHeld2
   clear hHeld2
   try simp only [Act.put, List.getElem_toArray, List.getElem_cons_zero, List.getElem_cons_succ, List.setIfInBounds_toArray, List.set_cons_zero, List.set_cons_succ]
   obtain ⟨wa, hwa⟩ : ∃ wa, wa = wp.setCell ⟨w.heap.size, 3, none⟩ (.slice At m.to.length ct) := ⟨_, rfl⟩
   rw [← hwa]
   have HRa := Aside0.mk (show wa.heap[w.heap.size]? = some (.cells #[.bool m.frm.null, .string (str m.frm.loc), .string (str m.frm.dom), .slice At m.to.length ct, .slice A2 m.body.length c2, .bool m.quiet, .string (str m.helo), .int .i64 m.tm] 46 (0, 0)) by rw [hwa]; exact row8_3 _ HR.out)
   have HTa := Aside0.mk (show Ps w1.heap.size wa (.slice At m.to.length ct) m.to by rw [hwa]; exact R_set HTo.out _ HR.out pathE)
   have HBa := Aside0.mk (show Ow w1.heap.size wa (.slice Ab m.body.length cb) m.body by rw [hwa]; exact R_set HBo.out _ HR.out byteE)
   have HWa := Aside0.mk (show Below w.heap.size w wa by rw [hwa]; exact (H1.out.trans (HW.out.mono H1.out.size)).setCell (Nat.le_refl _) _)
   have HZa := Aside0.mk (show wa.heap[w.heap.size + 1]? = some (.cells #[.bool false, .string { data := #[] }, .string { data := #[] }, .slice none 0 0, .slice none 0 0, .bool false, .string { data := #[] }, .int .i64 0] 46 (0, 0)) by rw [hwa]; exact (Below.heap_setCell _ _ _ _ (by simp)).trans (row_on HW.out HZ1.out))
   clear hwa
   (try clear d0 d1 d2 d3 d4 d5 d6 d7 y0 y1 y2 y3 y4 y5 y6 y7)
   obtain ⟨⟨d0, d1, d2, d3, d4, d5, d6, d7⟩, y0, y1, y2, y3, y4, y5, y6, y7⟩ := cells8 HRa.out
   refine wpAnyH_take (i := 8) (oi := _) (v := ?_) rfl (by kernel_rfl) (by kernel_rfl) (by kernel_rfl) (fun _ _ _ h => h) (Or.inl ⟨by rfl, ?_⟩) (by assumption) ?_
   case refine_2 => (intro w hSw; (try dsimp only [List.getElem_toArray, List.getElem_cons_zero, List.getElem_cons_succ] at hSw ⊢); go_simp; (try with_reducible rfl))
   try simp only [Act.put, List.getElem_toArray, List.getElem_cons_zero, List.getElem_cons_succ, List.setIfInBounds_toArray, List.set_cons_zero, List.set_cons_succ]
   refine wpAnyH_ready (rs := [9]) (by kernel_rfl) (by simp) ?_
   refine (AllReadyH.cons (o := _) (by simp only [List.getElem?_toArray, List.getElem?_cons_zero, List.getElem?_cons_succ]; rfl) (fun K hK => ?_) AllReadyH.nil)
   go_simp
   refine hK.out _ _ trivial (fun hHeld2 => ?_)
   clear hK K hHeld
   have hHeld := hHeld2
   clear hHeld2
   try simp only [Act.put, List.getElem_toArray, List.getElem_cons_zero, List.getElem_cons_succ, List.setIfInBounds_toArray, List.set_cons_zero, List.set_cons_succ]
   obtain ⟨wb, hwb⟩ : ∃ wb, wb = wa.setCell ⟨w.heap.size, 4, none⟩ (.slice Ab m.body.length cb) := ⟨_, rfl⟩
   rw [← hwb]
   have HRb := Aside0.mk (show wb.heap[w.heap.size]? = some (.cells #[.bool m.frm.null, .string (str m.frm.loc), .string (str m.frm.dom), .slice At m.to.length ct, .slice Ab m.body.length cb, .bool m.quiet, .string (str m.helo), .int .i64 m.tm] 46 (0, 0)) by rw [hwb]; exact row8_4 _ HRa.out)
   have HTb := Aside0.mk (show Ps w1.heap.size wb (.slice At m.to.length ct) m.to by rw [hwb]; exact R_set HTa.out _ HRa.out pathE)
   have HBb := Aside0.mk (show Ow w1.heap.size wb (.slice Ab m.body.length cb) m.body by rw [hwb]; exact R_set HBa.out _ HRa.out byteE)
   have HWb := Aside0.mk (show Below w.heap.size w wb by rw [hwb]; exact HWa.out.setCell (Nat.le_refl _) _)
   have HZb := Aside0.mk (show wb.heap[w.heap.size + 1]? = some (.cells #[.bool false, .string { data := #[] }, .string { data := #[] }, .slice none 0 0, .slice none 0 0, .bool false, .string { data := #[] }, .int .i64 0] 46 (0, 0)) by rw [hwb]; exact (Below.heap_setCell _ _ _ _ (by simp)).trans HZa.out)
   clear hwb
   (try clear d0 d1 d2 d3 d4 d5 d6 d7 y0 y1 y2 y3 y4 y5 y6 y7)
   obtain ⟨⟨d0, d1, d2, d3, d4, d5, d6, d7⟩, y0, y1, y2, y3, y4, y5, y6, y7⟩ := cells8 HRb.out
   obtain ⟨⟨z0, z1, z2, z3, z4, z5, z6, z7⟩, v0, v1, v2, v3, v4, v5, v6, v7⟩ := cells8 HZb.out
   refine wpAnyH_done (by kernel_rfl) ?_ _
   go_wp2_with (fail)
   refine bodyPost_ret (v := .agg #[.bool m.frm.null, .string (str m.frm.loc), .string (str m.frm.dom), .slice At m.to.length ct, .slice Ab m.body.length cb, .bool m.quiet, .string (str m.helo), .int .i64 m.tm]) ?_ rfl ⟨⟨At, ct, Ab, cb, rfl, ?_, ?_⟩, ?_⟩
   ·exact results_c (by rfl) _ _ (w.heap.size + 1) 46 _ (0, 0) _ rfl (row8_all HZb.out) Tryz.underlying46 rfl (by kernel_rfl)
   ·exact Kd.R_lower (R_set8 HTb.out _ _ _ _ _ _ _ _ HZb.out pathE) H1.out.size
   ·exact (show Ow w.heap.size _ _ _ from Kd.R_lower (R_set8 HBb.out _ _ _ _ _ _ _ _ HZb.out byteE) H1.out.size)
   ·exact below8 HWb.out (by omega)
  ·skip
   go_simp
   refine hK.out _ _ trivial (fun hHeld2 => ?_)
   clear hK K hHeld
   have hHeld := hHeld2
   clear hHeld2
   try simp only [Act.put, List.getElem_toArray, List.getElem_cons_zero, List.getElem_cons_succ, List.setIfInBounds_toArray, List.set_cons_zero, List.set_cons_succ]
   refine wpAnyH_ready (rs := [2]) (by kernel_rfl) (by simp) ?_
   refine (AllReadyH.cons (o := _) (by simp only [List.getElem?_toArray, List.getElem?_cons_zero, List.getElem?_cons_succ]; rfl) (fun K hK => ?_) AllReadyH.nil)
   go_simp
   go_at_call 49
   (with_reducible refine Calls.mono (HCP.out _ ?_) ?_)
   ·(first | exact HW.out | exact HW.out.drew)
   rintro e wp ⟨⟨At, ct, rfl, hp⟩, h⟩
   have hw := (by first | exact HW.out.trans (h.mono HW.out.size) | exact HW.out.drew.trans (h.mono HW.out.size) : Below w1.heap.size w1 wp)
   have hrn := row_on hw HR1.out
   have HTo := Aside0.mk hp
   clear HW HR
   have HW := Aside0.mk hw
   have HR := Aside0.mk hrn
   (try clear d0 d1 d2 d3 d4 d5 d6 d7 y0 y1 y2 y3 y4 y5 y6 y7)
   obtain ⟨⟨d0, d1, d2, d3, d4, d5, d6, d7⟩, y0, y1, y2, y3, y4, y5, y6, y7⟩ := cells8 HR.out
   clear h hw hp hrn
   go_wp2_with (fail)
   refine hK.out _ _ trivial (fun hHeld2 => ?_)
   clear hK K hHeld
   have hHeld := hHeld2
   clear hHeld2
   try simp only [Act.put, List.getElem_toArray, List.getElem_cons_zero, List.getElem_cons_succ, List.setIfInBounds_toArray, List.set_cons_zero, List.set_cons_succ]
   refine wpAnyH_take (i := 6) (oi := _) (v := ?_) rfl (by kernel_rfl) (by kernel_rfl) (by kernel_rfl) (fun _ _ _ h => h) (Or.inl ⟨by rfl, ?_⟩) (by assumption) ?_
   case refine_2 => (intro w hSw; (try dsimp only [List.getElem_toArray, List.getElem_cons_zero, List.getElem_cons_succ] at hSw ⊢); go_simp; (try with_reducible rfl))
   try simp only [Act.put, List.getElem_toArray, List.getElem_cons_zero, List.getElem_cons_succ, List.setIfInBounds_toArray, List.set_cons_zero, List.set_cons_succ]
   refine wpAnyH_ready (rs := [5]) (by kernel_rfl) (by simp) ?_
   refine (AllReadyH.cons (o := _) (by simp only [List.getElem?_toArray, List.getElem?_cons_zero, List.getElem?_cons_succ]; rfl) (fun K hK => ?_) AllReadyH.nil)
   go_simp
   go_at_call 12
   (with_reducible refine Calls.mono (HCB.out _ ?_) ?_)
   ·(first | exact HW.out | exact HW.out.drew)
   rintro e wp ⟨⟨Ab, cb, rfl, hp⟩, h⟩
   have hw := (by first | exact HW.out.trans (h.mono HW.out.size) | exact HW.out.drew.trans (h.mono HW.out.size) : Below w1.heap.size w1 wp)
   have hrn := row_on hw HR1.out
   have HTo := Aside0.mk (Kd.R_below HTo.out (by first | exact h | exact ((Below.refl _ _).drew).trans h))
   have HBo := Aside0.mk hp
   clear HW HR
   have HW := Aside0.mk hw
   have HR := Aside0.mk hrn
   (try clear d0 d1 d2 d3 d4 d5 d6 d7 y0 y1 y2 y3 y4 y5 y6 y7)
   obtain ⟨⟨d0, d1, d2, d3, d4, d5, d6, d7⟩, y0, y1, y2, y3, y4, y5, y6, y7⟩ := cells8 HR.out
   clear h hw hp hrn
   go_wp2_with (fail)
   refine hK.out _ _ trivial (fun hHeld2 => ?_)
   clear hK K hHeld
   have hHeld := hHeld2
   clear hHeld2
   try simp only [Act.put, List.getElem_toArray, List.getElem_cons_zero, List.getElem_cons_succ, List.setIfInBounds_toArray, List.set_cons_zero, List.set_cons_succ]
   refine wpAnyH_ready (rs := [7]) (by kernel_rfl) (by simp) ?_
   refine (AllReadyH.cons (o := _) (by simp only [List.getElem?_toArray, List.getElem?_cons_zero, List.getElem?_cons_succ]; rfl) (fun K hK => ?_) AllReadyH.nil)
   go_simp
   refine hK.out _ _ trivial (fun hHeld2 => ?_)
   clear hK K hHeld
   have hHeld := hHeld2
   clear hHeld2
   try simp only [Act.put, List.getElem_toArray, List.getElem_cons_zero, List.getElem_cons_succ, List.setIfInBounds_toArray, List.set_cons_zero, List.set_cons_succ]
   obtain ⟨wa, hwa⟩ : ∃ wa, wa = wp.setCell ⟨w.heap.size, 3, none⟩ (.slice At m.to.length ct) := ⟨_, rfl⟩
   rw [← hwa]
   have HRa := Aside0.mk (show wa.heap[w.heap.size]? = some (.cells #[.bool m.frm.null, .string (str m.frm.loc), .string (str m.frm.dom), .slice At m.to.length ct, .slice A2 m.body.length c2, .bool m.quiet, .string (str m.helo), .int .i64 m.tm] 46 (0, 0)) by rw [hwa]; exact row8_3 _ HR.out)
   have HTa := Aside0.mk (show Ps w1.heap.size wa (.slice At m.to.length ct) m.to by rw [hwa]; exact R_set HTo.out _ HR.out pathE)
   have HBa := Aside0.mk (show Ow w1.heap.size wa (.slice Ab m.body.length cb) m.body by rw [hwa]; exact R_set HBo.out _ HR.out byteE)
   have HWa := Aside0.mk (show Below w.heap.size w wa by rw [hwa]; exact (H1.out.trans (HW.out.mono H1.out.size)).setCell (Nat.le_refl _) _)
   have HZa := Aside0.mk (show wa.heap[w.heap.size + 1]? = some (.cells #[.bool false, .string { data := #[] }, .string { data := #[] }, .slice none 0 0, .slice none 0 0, .bool false, .string { data := #[] }, .int .i64 0] 46 (0, 0)) by rw [hwa]; exact (Below.heap_setCell _ _ _ _ (by simp)).trans (row_on HW.out HZ1.out))
   clear hwa
   (try clear d0 d1 d2 d3 d4 d5 d6 d7 y0 y1 y2 y3 y4 y5 y6 y7)
   obtain ⟨⟨d0, d1, d2, d3, d4, d5, d6, d7⟩, y0, y1, y2, y3, y4, y5, y6, y7⟩ := cells8 HRa.out
   refine wpAnyH_take (i := 8) (oi := _) (v := ?_) rfl (by kernel_rfl) (by kernel_rfl) (by kernel_rfl) (fun _ _ _ h => h) (Or.inl ⟨by rfl, ?_⟩) (by assumption) ?_
   case refine_2 => (intro w hSw; (try dsimp only [List.getElem_toArray, List.getElem_cons_zero, List.getElem_cons_succ] at hSw ⊢); go_simp; (try with_reducible rfl))
   try simp only [Act.put, List.getElem_toArray, List.getElem_cons_zero, List.getElem_cons_succ, List.setIfInBounds_toArray, List.set_cons_zero, List.set_cons_succ]
   refine wpAnyH_ready (rs := [9]) (by kernel_rfl) (by simp) ?_
   refine (AllReadyH.cons (o := _) (by simp only [List.getElem?_toArray, List.getElem?_cons_zero, List.getElem?_cons_succ]; rfl) (fun K hK => ?_) AllReadyH.nil)
   go_simp
   refine hK.out _ _ trivial (fun hHeld2 => ?_)
   clear hK K hHeld
   have hHeld := hHeld2
   clear hHeld2
   try simp only [Act.put, List.getElem_toArray, List.getElem_cons_zero, List.getElem_cons_succ, List.setIfInBounds_toArray, List.set_cons_zero, List.set_cons_succ]
   obtain ⟨wb, hwb⟩ : ∃ wb, wb = wa.setCell ⟨w.heap.size, 4, none⟩ (.slice Ab m.body.length cb) := ⟨_, rfl⟩
   rw [← hwb]
   have HRb := Aside0.mk (show wb.heap[w.heap.size]? = some (.cells #[.bool m.frm.null, .string (str m.frm.loc), .string (str m.frm.dom), .slice At m.to.length ct, .slice Ab m.body.length cb, .bool m.quiet, .string (str m.helo), .int .i64 m.tm] 46 (0, 0)) by rw [hwb]; exact row8_4 _ HRa.out)
   have HTb := Aside0.mk (show Ps w1.heap.size wb (.slice At m.to.length ct) m.to by rw [hwb]; exact R_set HTa.out _ HRa.out pathE)
   have HBb := Aside0.mk (show Ow w1.heap.size wb (.slice Ab m.body.length cb) m.body by rw [hwb]; exact R_set HBa.out _ HRa.out byteE)
   have HWb := Aside0.mk (show Below w.heap.size w wb by rw [hwb]; exact HWa.out.setCell (Nat.le_refl _) _)
   have HZb := Aside0.mk (show wb.heap[w.heap.size + 1]? = some (.cells #[.bool false, .string { data := #[] }, .string { data := #[] }, .slice none 0 0, .slice none 0 0, .bool false, .string { data := #[] }, .int .i64 0] 46 (0, 0)) by rw [hwb]; exact (Below.heap_setCell _ _ _ _ (by simp)).trans HZa.out)
   clear hwb
   (try clear d0 d1 d2 d3 d4 d5 d6 d7 y0 y1 y2 y3 y4 y5 y6 y7)
   obtain ⟨⟨d0, d1, d2, d3, d4, d5, d6, d7⟩, y0, y1, y2, y3, y4, y5, y6, y7⟩ := cells8 HRb.out
   obtain ⟨⟨z0, z1, z2, z3, z4, z5, z6, z7⟩, v0, v1, v2, v3, v4, v5, v6, v7⟩ := cells8 HZb.out
   refine wpAnyH_done (by kernel_rfl) ?_ _
   go_wp2_with (fail)
   refine bodyPost_ret (v := .agg #[.bool m.frm.null, .string (str m.frm.loc), .string (str m.frm.dom), .slice At m.to.length ct, .slice Ab m.body.length cb, .bool m.quiet, .string (str m.helo), .int .i64 m.tm]) ?_ rfl ⟨⟨At, ct, Ab, cb, rfl, ?_, ?_⟩, ?_⟩
   ·exact results_c (by rfl) _ _ (w.heap.size + 1) 46 _ (0, 0) _ rfl (row8_all HZb.out) Tryz.underlying46 rfl (by kernel_rfl)
   ·exact Kd.R_lower (R_set8 HTb.out _ _ _ _ _ _ _ _ HZb.out pathE) H1.out.size
   ·exact (show Ow w.heap.size _ _ _ from Kd.R_lower (R_set8 HBb.out _ _ _ _ _ _ _ _ HZb.out byteE) H1.out.size)
   ·exact below8 HWb.out (by omega)
 ·skip
  go_simp
  refine hK.out _ _ trivial (fun hHeld2 => ?_)
  clear hK K hHeld
  have hHeld := hHeld2
  clear hHeld2
  try simp only [Act.put, List.getElem_toArray, List.getElem_cons_zero, List.getElem_cons_succ, List.setIfInBounds_toArray, List.set_cons_zero, List.set_cons_succ]
  refine wpAnyH_ready (rs := [1]) (by kernel_rfl) (by simp) ?_
  refine (AllReadyH.cons (o := _) (by simp only [List.getElem?_toArray, List.getElem?_cons_zero, List.getElem?_cons_succ]; rfl) (fun K hK => ?_) AllReadyH.nil)
  go_simp
  refine hK.out _ _ trivial (fun hHeld2 => ?_)
  clear hK K hHeld
  have hHeld := hHeld2
  clear hHeld2
  try simp only [Act.put, List.getElem_toArray, List.getElem_cons_zero, List.getElem_cons_succ, List.setIfInBounds_toArray, List.set_cons_zero, List.set_cons_succ]
  refine wpAnyH_ready (rs := [2]) (by kernel_rfl) (by simp) ?_
  refine (AllReadyH.cons (o := _) (by simp only [List.getElem?_toArray, List.getElem?_cons_zero, List.getElem?_cons_succ]; rfl) (fun K hK => ?_) AllReadyH.nil)
  go_simp
  go_at_call 49
  (with_reducible refine Calls.mono (HCP.out _ ?_) ?_)
  ·(first | exact HW.out | exact HW.out.drew)
  rintro e wp ⟨⟨At, ct, rfl, hp⟩, h⟩
  have hw := (by first | exact HW.out.trans (h.mono HW.out.size) | exact HW.out.drew.trans (h.mono HW.out.size) : Below w1.heap.size w1 wp)
  have hrn := row_on hw HR1.out
  have HTo := Aside0.mk hp
  clear HW HR
  have HW := Aside0.mk hw
  have HR := Aside0.mk hrn
  (try clear d0 d1 d2 d3 d4 d5 d6 d7 y0 y1 y2 y3 y4 y5 y6 y7)
  obtain ⟨⟨d0, d1, d2, d3, d4, d5, d6, d7⟩, y0, y1, y2, y3, y4, y5, y6, y7⟩ := cells8 HR.out
  clear h hw hp hrn
  go_wp2_with (fail)
  refine hK.out _ _ trivial (fun hHeld2 => ?_)
  clear hK K hHeld
  have hHeld := hHeld2
  clear hHeld2
  try simp only [Act.put, List.getElem_toArray, List.getElem_cons_zero, List.getElem_cons_succ, List.setIfInBounds_toArray, List.set_cons_zero, List.set_cons_succ]
  refine wpAnyH_take (i := 6) (oi := _) (v := ?_) rfl (by kernel_rfl) (by kernel_rfl) (by kernel_rfl) (fun _ _ _ h => h) (Or.inl ⟨by rfl, ?_⟩) (by assumption) ?_
  case refine_2 => (intro w hSw; (try dsimp only [List.getElem_toArray, List.getElem_cons_zero, List.getElem_cons_succ] at hSw ⊢); go_simp; (try with_reducible rfl))
  try simp only [Act.put, List.getElem_toArray, List.getElem_cons_zero, List.getElem_cons_succ, List.setIfInBounds_toArray, List.set_cons_zero, List.set_cons_succ]
  refine wpAnyH_ready (rs := [5]) (by kernel_rfl) (by simp) ?_
  refine (AllReadyH.cons (o := _) (by simp only [List.getElem?_toArray, List.getElem?_cons_zero, List.getElem?_cons_succ]; rfl) (fun K hK => ?_) AllReadyH.nil)
  go_simp
  go_at_call 12
  (with_reducible refine Calls.mono (HCB.out _ ?_) ?_)
  ·(first | exact HW.out | exact HW.out.drew)
  rintro e wp ⟨⟨Ab, cb, rfl, hp⟩, h⟩
  have hw := (by first | exact HW.out.trans (h.mono HW.out.size) | exact HW.out.drew.trans (h.mono HW.out.size) : Below w1.heap.size w1 wp)
  have hrn := row_on hw HR1.out
  have HTo := Aside0.mk (Kd.R_below HTo.out (by first | exact h | exact ((Below.refl _ _).drew).trans h))
  have HBo := Aside0.mk hp
  clear HW HR
  have HW := Aside0.mk hw
  have HR := Aside0.mk hrn
  (try clear d0 d1 d2 d3 d4 d5 d6 d7 y0 y1 y2 y3 y4 y5 y6 y7)
  obtain ⟨⟨d0, d1, d2, d3, d4, d5, d6, d7⟩, y0, y1, y2, y3, y4, y5, y6, y7⟩ := cells8 HR.out
  clear h hw hp hrn
  go_wp2_with (fail)
  refine hK.out _ _ trivial (fun hHeld2 => ?_)
  clear hK K hHeld
  have hHeld := hHeld2
  clear hHeld2
  try simp only [Act.put, List.getElem_toArray, List.getElem_cons_zero, List.getElem_cons_succ, List.setIfInBounds_toArray, List.set_cons_zero, List.set_cons_succ]
  refine wpAnyH_ready (rs := [7]) (by kernel_rfl) (by simp) ?_
  refine (AllReadyH.cons (o := _) (by simp only [List.getElem?_toArray, List.getElem?_cons_zero, List.getElem?_cons_succ]; rfl) (fun K hK => ?_) AllReadyH.nil)
  go_simp
  refine hK.out _ _ trivial (fun hHeld2 => ?_)
  clear hK K hHeld
  have hHeld := hHeld2
  clear hHeld2
  try simp only [Act.put, List.getElem_toArray, List.getElem_cons_zero, List.getElem_cons_succ, List.setIfInBounds_toArray, List.set_cons_zero, List.set_cons_succ]
  obtain ⟨wa, hwa⟩ : ∃ wa, wa = wp.setCell ⟨w.heap.size, 3, none⟩ (.slice At m.to.length ct) := ⟨_, rfl⟩
  rw [← hwa]
  have HRa := Aside0.mk (show wa.heap[w.heap.size]? = some (.cells #[.bool m.frm.null, .string (str m.frm.loc), .string (str m.frm.dom), .slice At m.to.length ct, .slice A2 m.body.length c2, .bool m.quiet, .string (str m.helo), .int .i64 m.tm] 46 (0, 0)) by rw [hwa]; exact row8_3 _ HR.out)
  have HTa := Aside0.mk (show Ps w1.heap.size wa (.slice At m.to.length ct) m.to by rw [hwa]; exact R_set HTo.out _ HR.out pathE)
  have HBa := Aside0.mk (show Ow w1.heap.size wa (.slice Ab m.body.length cb) m.body by rw [hwa]; exact R_set HBo.out _ HR.out byteE)
  have HWa := Aside0.mk (show Below w.heap.size w wa by rw [hwa]; exact (H1.out.trans (HW.out.mono H1.out.size)).setCell (Nat.le_refl _) _)
  have HZa := Aside0.mk (show wa.heap[w.heap.size + 1]? = some (.cells #[.bool false, .string { data := #[] }, .string { data := #[] }, .slice none 0 0, .slice none 0 0, .bool false, .string { data := #[] }, .int .i64 0] 46 (0, 0)) by rw [hwa]; exact (Below.heap_setCell _ _ _ _ (by simp)).trans (row_on HW.out HZ1.out))
  clear hwa
  (try clear d0 d1 d2 d3 d4 d5 d6 d7 y0 y1 y2 y3 y4 y5 y6 y7)
  obtain ⟨⟨d0, d1, d2, d3, d4, d5, d6, d7⟩, y0, y1, y2, y3, y4, y5, y6, y7⟩ := cells8 HRa.out
  refine wpAnyH_take (i := 8) (oi := _) (v := ?_) rfl (by kernel_rfl) (by kernel_rfl) (by kernel_rfl) (fun _ _ _ h => h) (Or.inl ⟨by rfl, ?_⟩) (by assumption) ?_
  case refine_2 => (intro w hSw; (try dsimp only [List.getElem_toArray, List.getElem_cons_zero, List.getElem_cons_succ] at hSw ⊢); go_simp; (try with_reducible rfl))
  try simp only [Act.put, List.getElem_toArray, List.getElem_cons_zero, List.getElem_cons_succ, List.setIfInBounds_toArray, List.set_cons_zero, List.set_cons_succ]
  refine wpAnyH_ready (rs := [9]) (by kernel_rfl) (by simp) ?_
  refine (AllReadyH.cons (o := _) (by simp only [List.getElem?_toArray, List.getElem?_cons_zero, List.getElem?_cons_succ]; rfl) (fun K hK => ?_) AllReadyH.nil)
  go_simp
  refine hK.out _ _ trivial (fun hHeld2 => ?_)
  clear hK K hHeld
  have hHeld := hHeld2
  clear hHeld2
  try simp only [Act.put, List.getElem_toArray, List.getElem_cons_zero, List.getElem_cons_succ, List.setIfInBounds_toArray, List.set_cons_zero, List.set_cons_succ]
  obtain ⟨wb, hwb⟩ : ∃ wb, wb = wa.setCell ⟨w.heap.size, 4, none⟩ (.slice Ab m.body.length cb) := ⟨_, rfl⟩
  rw [← hwb]
  have HRb := Aside0.mk (show wb.heap[w.heap.size]? = some (.cells #[.bool m.frm.null, .string (str m.frm.loc), .string (str m.frm.dom), .slice At m.to.length ct, .slice Ab m.body.length cb, .bool m.quiet, .string (str m.helo), .int .i64 m.tm] 46 (0, 0)) by rw [hwb]; exact row8_4 _ HRa.out)
  have HTb := Aside0.mk (show Ps w1.heap.size wb (.slice At m.to.length ct) m.to by rw [hwb]; exact R_set HTa.out _ HRa.out pathE)
  have HBb := Aside0.mk (show Ow w1.heap.size wb (.slice Ab m.body.length cb) m.body by rw [hwb]; exact R_set HBa.out _ HRa.out byteE)
  have HWb := Aside0.mk (show Below w.heap.size w wb by rw [hwb]; exact HWa.out.setCell (Nat.le_refl _) _)
  have HZb := Aside0.mk (show wb.heap[w.heap.size + 1]? = some (.cells #[.bool false, .string { data := #[] }, .string { data := #[] }, .slice none 0 0, .slice none 0 0, .bool false, .string { data := #[] }, .int .i64 0] 46 (0, 0)) by rw [hwb]; exact (Below.heap_setCell _ _ _ _ (by simp)).trans HZa.out)
  clear hwb
  (try clear d0 d1 d2 d3 d4 d5 d6 d7 y0 y1 y2 y3 y4 y5 y6 y7)
  obtain ⟨⟨d0, d1, d2, d3, d4, d5, d6, d7⟩, y0, y1, y2, y3, y4, y5, y6, y7⟩ := cells8 HRb.out
  obtain ⟨⟨z0, z1, z2, z3, z4, z5, z6, z7⟩, v0, v1, v2, v3, v4, v5, v6, v7⟩ := cells8 HZb.out
  refine wpAnyH_done (by kernel_rfl) ?_ _
  go_wp2_with (fail)
  refine bodyPost_ret (v := .agg #[.bool m.frm.null, .string (str m.frm.loc), .string (str m.frm.dom), .slice At m.to.length ct, .slice Ab m.body.length cb, .bool m.quiet, .string (str m.helo), .int .i64 m.tm]) ?_ rfl ⟨⟨At, ct, Ab, cb, rfl, ?_, ?_⟩, ?_⟩
  ·exact results_c (by rfl) _ _ (w.heap.size + 1) 46 _ (0, 0) _ rfl (row8_all HZb.out) Tryz.underlying46 rfl (by kernel_rfl)
  ·exact Kd.R_lower (R_set8 HTb.out _ _ _ _ _ _ _ _ HZb.out pathE) H1.out.size
  ·exact (show Ow w.heap.size _ _ _ from Kd.R_lower (R_set8 HBb.out _ _ _ _ _ _ _ _ HZb.out byteE) H1.out.size)
  ·exact below8 HWb.out (by omega)
abbrev Nb (b : Nat) (w : World) (v : Value) (ms : List B.Mail) : Prop := kMail.N 46 w b (fun k => b ≤ k) v ms
set_option maxRecDepth 100000 in
set_option maxHeartbeats 4000000 in
theorem twinMails_any (ms : List B.Mail) (A : Option Addr) (c : Nat) (w : World) (hx : kMail.C w A ms.length ms) (hn : ms.length ≤ 1000) (hf : ∀ m ∈ ms, B.Fit m) :
  Calls Tryz.prog 11 #[.slice A ms.length c] w fun e w' => (∃ A' c', e = .returned (.slice A' ms.length c') ∧ Nb w.heap.size w' (.slice A' ms.length c') ms) ∧ Below w.heap.size w w' := by
 have HX := Aside0.mk hx
 have HF := Aside0.mk hf
 clear hx hf
 go_enter Tryz.func11, Tryz.ntmps11
 go_wp2_with (fail)
 go_loopg [3, 4] ms.length (fun gf v3 v4 wr => ∃ (n : Nat), v4 = .int .i64 n ∧ n ≤ ms.length ∧ gf + n = ms.length ∧ Aside0 (Nb w.heap.size wr v3 (ms.take n) ∧ Below w.heap.size w wr))
 case atStart => exact ⟨0, rfl, by omega, by omega, ⟨Kd.N_nil _ _ _ _ _, Below.refl _ _⟩⟩
 case round =>
  obtain ⟨n, rfl, hn2, hg, H⟩ := hrel
  obtain ⟨wx, rfl⟩ : ∃ wz : World, wz = wr := ⟨_, rfl⟩
  obtain ⟨out, hout⟩ : ∃ out, out = ms.take n := ⟨_, rfl⟩
  rw [← hout] at H
  have hol : out.length = n := by rw [hout, List.length_take]; omega
  have HOUT := Aside0.mk hout
  have HOL := Aside0.mk hol
  obtain ⟨A3, c3, e3⟩ := Kd.N_slice H.out.1
  rw [hol] at e3
  subst e3
  clear hout hol
  by_cases hlt : n < ms.length
  ·obtain ⟨m, hm⟩ : ∃ m, m = ms.getD n B.noMail := ⟨_, rfl⟩
   obtain ⟨ad, A1, c1, A2, c2, rfl, hmc, hml⟩ := mail_at HX.out n hlt m hm
   obtain ⟨q0, q1, q2, q3, q4, q5, q6, q7⟩ := hmc.on H.out.2
   have hlt' : (n : Int) < (ms.length : Int) := by omega
   have h0 : (0 : Int) ≤ (n : Int) := by omega
   have hfx : B.Fit m := HF.out _ (by rw [hm]; exact getD_mem ms n hlt _)
   have hft := map_take (fun m => m) ms n hlt B.noMail
   rw [List.map_id', List.map_id', ← hm, ← HOUT.out] at hft
   have HFX := Aside0.mk hfx
   have HML := Aside0.mk hml
   have HFT := Aside0.mk hft
   clear hm hmc hml hft hfx
   have htm := twinMail_any m A1 c1 A2 c2 wx (HML.out.on H.out.2) HFX.out
   have HTM := Aside0.mk htm
   clear htm
   go_wp2_with (first | (go_at_call 29; (with_reducible refine Calls.mono HTM.out ?_); rintro e w1 ⟨⟨At, ct, Ab, cb, rfl, hTo, hBo⟩, h⟩; have HTo := Aside0.mk hTo; have HBo := Aside0.mk hBo; have HW := Aside0.mk h; clear hTo hBo h) | ((with_reducible refine gate_builtin (b := .append) (xs := #[.tmp 11, .tmp 17]) rfl ?_); at_builtin; refine Kd.N_append kMail (w0 := w) w.heap.size rfl (.tmp 11) (.tmp 17) 22 46 (.agg #[.bool false, .string ⟨#[]⟩, .string ⟨#[]⟩, .slice none 0 0, .slice none 0 0, .bool false, .string ⟨#[]⟩, .int .i64 0]) 120 (by rfl) Tryz.underlying22 infoMail rfl (by decide) (by omega) (.slice A3 n c3) out m (mcs m At ct Ab cb) (fun k => w.heap.size ≤ k) (fun k => wx.heap.size ≤ k) (by rfl) (by rfl) (mail_FK (m := m) (kMail_mkM (m := m) HTo.out HBo.out)) (fun k hk => ⟨Nat.le_trans H.out.2.size hk, fun e => absurd (Kd.N_lt H.out.1 k e.symm) (by omega)⟩) (fun k hk => Nat.le_trans H.out.2.size (Nat.le_trans HW.out.size hk)) (Kd.N_below H.out.1 HW.out) (H.out.2.trans (HW.out.mono H.out.2.size)) (Nat.le_trans H.out.2.size HW.out.size) (by have := HOL.out; omega) ?_; intro v9 w9 hN9 hB9 hg9 _; obtain ⟨A9, c9, e9⟩ := Kd.N_slice hN9; obtain ⟨N9, hN9l⟩ : ∃ N, N = (out ++ [m]).length := ⟨_, rfl⟩; rw [← hN9l] at e9; subst e9; have HN9 := Aside0.mk hN9; have HB9 := Aside0.mk hB9; clear hN9 hB9 hg9 hN9l))
   go_roundg (gk - 1)
   case measure => omega
   case rel => exact ⟨n + 1, by go_num, by omega, by omega, ⟨by rw [HFT.out]; exact HN9.out, HB9.out⟩⟩
  ·have hne : n = ms.length := by omega
   have t1 : decide ((n : Int) < (ms.length : Int)) = false := by simp; omega
   have t2 : decide (n < ms.length) = false := by simp; omega
   have ho : out = ms := by rw [HOUT.out, hne, List.take_length]
   have HO := Aside0.mk ho
   have HNE := Aside0.mk hne
   clear hne ho
   go_wp2_with (fail)
   go_ret
   refine ⟨⟨A3, c3, by rw [← HNE.out]; rfl, ?_⟩, H.out.2⟩
   have h1 := H.out.1
   rw [HO.out, HNE.out] at h1
   exact h1
end Go.Proofs.YtpfmnkpmidjfjaaGreatDoor
/- The reference's Carry (32 bits) and Long: walks. -/
namespace Go.Proofs.YtpfmnkpmidjfjaaGreatDoor
open Go.RowKit Go.Lib
open Go.Proofs.YtpfmnkpmidjfjaaGreatDoorW.PrintWords
set_option linter.unusedVariables false
set_option linter.unusedSimpArgs false
def rst (r c : Nat) : Nat → Nat
 | 0 => r
 | k + 1 => if (rst r c k) % 2 = (c / 2 ^ k) % 2 then rst r c k / 2 else (rst r c k / 2) ^^^ B.dv
theorem rst_shs (r c : Nat) : ∀ k, rst r c k = B.shs k (r ^^^ c) ^^^ (c / 2 ^ k)
 | 0 => by
  rw [rst, B.shs, Nat.pow_zero, Nat.div_one, Nat.xor_assoc, Nat.xor_self, Nat.xor_zero]
 | k + 1 => by
  have ih := rst_shs r c k
  obtain ⟨v, hv⟩ : ∃ v, v = B.shs k (r ^^^ c) := ⟨_, rfl⟩
  obtain ⟨d, hd⟩ : ∃ d, d = c / 2 ^ k := ⟨_, rfl⟩
  rw [← hv, ← hd] at ih
  have hd2 : c / 2 ^ (k + 1) = d / 2 := by rw [hd, Nat.pow_succ, Nat.div_div_eq_div_mul]
  rw [rst, ← hd, ih, B.shs, ← hv, hd2, B.xor_half, B.xor_bit0]
  unfold B.sh B.bit
  by_cases h : v % 2 = 1
  ·rw [if_neg (by omega), if_pos h, Nat.xor_assoc, Nat.xor_assoc, Nat.xor_comm (d / 2)]
  ·rw [if_pos (by omega), if_neg h]
theorem rst_step (r : Nat) (c : UInt8) : rst r c.toNat 8 = B.step B.dv r c := by
 rw [rst_shs, B.step_shs]
 have h : c.toNat / 2 ^ 8 = 0 := Nat.div_eq_of_lt c.toNat_lt
 rw [h, Nat.xor_zero]
theorem rst_lt (r c : Nat) (h : r < 4294967296) : ∀ k, rst r c k < 4294967296
 | 0 => h
 | k + 1 => by
  have ih := rst_lt r c h k
  rw [rst]
  split
  ·omega
  ·exact Nat.xor_lt_two_pow (n := 32) (by have : (2 : Nat) ^ 32 = 4294967296 := rfl; omega) (by decide)
theorem and_one (x : Nat) (h : x < 4294967296) : bits .and .i64 (x : Int) 1 = ((x % 2 : Nat) : Int) := by
 have h2 := (bits_nat .i64 32 (by decide) (fun n h0 h1 => IntWalk.i64_in n (by omega)) x 1 (by have : (2 : Nat) ^ 32 = 4294967296 := rfl; omega) (by decide)).1
 rw [show (bits .and .i64 (x : Int) 1) = ((x &&& 1 : Nat) : Int) from h2, Nat.and_one_is_mod]
theorem xor_nat (x y : Nat) (h : x < 4294967296) (h2 : y < 4294967296) : bits .xor .i64 (x : Int) (y : Int) = ((x ^^^ y : Nat) : Int) := by
 have e32 : (2 : Nat) ^ 32 = 4294967296 := rfl
 have e64 : (2 : Nat) ^ 64 = 18446744073709551616 := rfl
 have ha : x % 2 ^ 64 = x := Nat.mod_eq_of_lt (by omega)
 have hb : y % 2 ^ 64 = y := Nat.mod_eq_of_lt (by omega)
 have hz := Nat.xor_lt_two_pow (n := 32) (x := x) (y := y) (by omega) (by omega)
 have e : (BitVec.ofInt 64 (x : Int) ^^^ BitVec.ofInt 64 (y : Int)).toNat = x ^^^ y := by rw [BitVec.toNat_xor, BitVec.ofInt_natCast, BitVec.ofInt_natCast, BitVec.toNat_ofNat, BitVec.toNat_ofNat, ha, hb]
 show IntKind.i64.wrap ((BitVec.ofInt 64 (x : Int) ^^^ BitVec.ofInt 64 (y : Int)).toNat : Int) = _
 rw [e]
 generalize x ^^^ y = z at hz
 exact IntWalk.i64_in _ (by omega)
set_option maxRecDepth 100000 in
set_option maxHeartbeats 1000000 in
theorem carry_any {A : Option Addr} {c : Nat} {l : B.Bs} {w : World} (hb : Bt w A c l) (hl : l.length ≤ 100000000000000) :
  Calls Tryz.prog 50 #[.slice A l.length c, .int .i64 32, .int .i64 3988292384] w fun e w' => e = .returned (.int .i64 ((B.long l : Nat) : Int)) ∧ Below w.heap.size w w' := by
 obtain ⟨T, hT⟩ : ∃ T, T = B.long l := ⟨_, rfl⟩
 rw [← hT]
 have HT := Aside0.mk hT
 have HB := Aside0.mk hb
 clear hT hb
 go_enter Tryz.func50, Tryz.ntmps50
 go_wp2_with (fail)
 go_loopg [7, 8] l.length (fun gf v7 v8 wr => ∃ (i r : Nat), v7 = .int .i64 (r : Int) ∧ v8 = .int .i64 (i : Int) ∧ i ≤ l.length ∧ gf + i = l.length ∧ Aside0 (r = (l.take i).foldl (B.step B.dv) 4294967295 ∧ r < 4294967296) ∧ wr = w)
 case atStart => exact ⟨0, 4294967295, rfl, rfl, by omega, by omega, ⟨rfl, by omega⟩, rfl⟩
 case round =>
  obtain ⟨i, r, rfl, rfl, hi, hg, H, rfl⟩ := hrel
  obtain ⟨wx, rfl⟩ : ∃ wz : World, wz = wr := ⟨_, rfl⟩
  obtain ⟨go, rfl⟩ : ∃ z : Nat, z = gk := ⟨_, rfl⟩
  have h00 : (0 : Int) ≤ (i : Int) := by omega
  by_cases hlt : i < l.length
  ·have hltI : (i : Int) < (l.length : Int) := by omega
   obtain ⟨ad, rfl, hcell⟩ := HB.out.cells (by omega)
   have g1 := hcell i hlt
   rw [nb_getD l i hlt] at g1
   obtain ⟨x, hx⟩ : ∃ x : UInt8, x = l.getD i 0 := ⟨_, rfl⟩
   rw [← hx] at g1
   have HX := Aside0.mk hx
   have hxlt := x.toNat_lt
   clear hx hcell
   have hfold : (l.take (i + 1)).foldl (B.step B.dv) 4294967295 = B.step B.dv r x := by
    rw [HX.out, List.take_add_one, List.foldl_append, ← H.out.1, List.getElem?_eq_getElem hlt, List.getD_eq_getElem?_getD, List.getElem?_eq_getElem hlt]
    rfl
   have HFOLD := Aside0.mk hfold
   have hr0 := H.out.2
   clear hfold
   go_wp2_with (fail)
   go_loopg [7, 9] 8 (fun gf v7 v9 wr => ∃ (k s : Nat), v7 = .int .i64 (s : Int) ∧ v9 = .int .i64 (k : Int) ∧ k ≤ 8 ∧ gf + k = 8 ∧ Aside0 (s = rst r x.toNat k) ∧ wr = wx)
   case atStart => exact ⟨0, r, rfl, rfl, by omega, by omega, ⟨rfl⟩, rfl⟩
   case round =>
    obtain ⟨k, s, rfl, rfl, hk, hgk, HS, rfl⟩ := hrel
    obtain ⟨wy, rfl⟩ : ∃ wz : World, wz = wr := ⟨_, rfl⟩
    obtain ⟨gi, rfl⟩ : ∃ z : Nat, z = gk := ⟨_, rfl⟩
    have h0k : (0 : Int) ≤ (k : Int) := by omega
    have hs : s < 4294967296 := by rw [HS.out]; exact rst_lt r x.toNat hr0 k
    have hsI : (s : Int) < 4294967296 := by omega
    have h0s : (0 : Int) ≤ (s : Int) := by omega
    by_cases hk8 : k < 8
    ·have hk8I : (k : Int) < 8 := by omega
     obtain ⟨d, hd⟩ : ∃ d, d = x.toNat / 2 ^ k := ⟨_, rfl⟩
     have hdI : (x.toNat : Int) / 2 ^ k = (d : Int) := by rw [hd]; simp
     have hd2 : d < 256 := by have := Nat.div_le_self x.toNat (2 ^ k); omega
     have hd2I : (d : Int) < 256 := by omega
     have h0d : (0 : Int) ≤ (d : Int) := by omega
     have ha1 := and_one s hs
     have ha2 := and_one d (by omega)
     obtain ⟨lo, hlo⟩ : ∃ lo, lo = s % 2 := ⟨_, rfl⟩
     obtain ⟨cb, hcb⟩ : ∃ cb, cb = d % 2 := ⟨_, rfl⟩
     rw [← hlo] at ha1
     rw [← hcb] at ha2
     obtain ⟨h, hh⟩ : ∃ h, h = s / 2 := ⟨_, rfl⟩
     have hhI : (s : Int) / 2 = (h : Int) := by omega
     have hx2 := xor_nat h B.dv (by omega) (by decide)
     have hx3 : bits .xor .i64 (h : Int) 3988292384 = ((h ^^^ B.dv : Nat) : Int) := hx2
     have HLO := Aside0.mk hlo
     have HCB := Aside0.mk hcb
     have HH := Aside0.mk hh
     have HD := Aside0.mk hd
     clear hlo hcb hh hd hx2 hs
     by_cases hc : lo = cb
     ·have hne : ((lo : Int) != (cb : Int)) = false := by rw [hc]; simp
      have HN := Aside0.mk (show h = rst r x.toNat (k + 1) by
       rw [rst, ← HS.out, ← HD.out, if_pos (by rw [← HLO.out, ← HCB.out]; exact hc)]
       exact HH.out)
      clear hc
      go_wp2_with (fail)
      go_roundg (gi - 1)
      case measure => omega
      case rel => exact ⟨k + 1, h, rfl, by go_num, by omega, by omega, ⟨HN.out⟩, rfl⟩
     ·have hne : ((lo : Int) != (cb : Int)) = true := by rw [bne_iff_ne]; omega
      have HN := Aside0.mk (show (h ^^^ B.dv) = rst r x.toNat (k + 1) by
       rw [rst, ← HS.out, ← HD.out, if_neg (by rw [← HLO.out, ← HCB.out]; exact hc)]
       rw [HH.out])
      clear hc
      go_wp2_with (fail)
      go_roundg (gi - 1)
      case measure => omega
      case rel => exact ⟨k + 1, h ^^^ B.dv, rfl, by go_num, by omega, by omega, ⟨HN.out⟩, rfl⟩
    ·obtain rfl : k = 8 := by omega
     have hst : s = B.step B.dv r x := by rw [HS.out, rst_step]
     have HST := Aside0.mk hst
     clear hst
     go_wp2_with (fail)
     go_roundg (go - 1)
     case measure => omega
     case rel => exact ⟨i + 1, s, rfl, by go_num, by omega, by omega, ⟨by rw [HFOLD.out]; exact HST.out, by omega⟩, rfl⟩
  ·have hne : i = l.length := by omega
   have hr0 := H.out.2
   have hr0I : (r : Int) < 4294967296 := by omega
   have h0r : (0 : Int) ≤ (r : Int) := by omega
   have t1 : decide ((i : Int) < (l.length : Int)) = false := by simp; omega
   have t2 : decide (i < l.length) = false := by simp; omega
   have hx2 := xor_nat r 4294967295 hr0 (by omega)
   have hx3 : bits .xor .i64 (r : Int) 4294967295 = ((r ^^^ 4294967295 : Nat) : Int) := hx2
   have hTT := Aside0.mk (show r ^^^ 4294967295 = T by
    rw [HT.out, B.long, H.out.1, hne, List.take_length])
   clear hx2 hne
   go_wp2_with (fail)
   go_ret
   exact ⟨by rw [hTT.out]; rfl, Below.refl _ _⟩
set_option maxRecDepth 100000 in
theorem rlong_any {A : Option Addr} {c : Nat} {l : B.Bs} {w : World} (hb : Bt w A c l) (hl : l.length ≤ 100000000000000) :
  Calls Tryz.prog 28 #[.slice A l.length c] w fun e w' => e = .returned (.int .i64 ((B.long l : Nat) : Int)) ∧ Below w.heap.size w w' := by
 have HC := Aside0.mk (carry_any hb hl)
 clear hb
 go_enter Tryz.func28, Tryz.ntmps28
 go_wp2_with (first | (go_at_call 50; (with_reducible refine Calls.mono HC.out ?_); rintro e w1 ⟨rfl, h⟩; have H1 := Aside0.mk h; clear h))
 go_ret
 exact ⟨rfl, H1.out⟩
end Go.Proofs.YtpfmnkpmidjfjaaGreatDoor
/- The reference's Text and Digits: walks. -/
namespace Go.Proofs.YtpfmnkpmidjfjaaGreatDoor
open Go.RowKit Go.Lib
open Go.Proofs.YtpfmnkpmidjfjaaGreatDoorW.PrintWords Go.Proofs.YtpfmnkpmidjfjaaGreatDoorW.PrintLast Go.Proofs.YtpfmnkpmidjfjaaGreatDoorW.PrintMore
set_option linter.unusedVariables false
set_option linter.unusedSimpArgs false
def V.rtext (p : V.Path) : V.Bs := if p.null then [60, 62] else 60 :: p.loc ++ 64 :: p.dom ++ [62]
set_option maxRecDepth 100000 in
set_option maxHeartbeats 1000000 in
theorem rtext_any (p : V.Path) (w : World) (ha : p.loc.length ≤ 100000) (hb : p.dom.length ≤ 100000) :
  Calls Tryz.prog 55 #[.agg #[.bool p.null, .string (str p.loc), .string (str p.dom)]] w fun e w' => e = .returned (.string (str (V.rtext p))) ∧ Below w.heap.size w w' := by
 obtain ⟨n, l, d⟩ := p
 simp only at ha hb ⊢
 obtain ⟨X, hX⟩ : ∃ X, X = str (V.rtext ⟨n, l, d⟩) := ⟨_, rfl⟩
 rw [← hX]
 unfold V.rtext at hX
 obtain ⟨a, hA⟩ : ∃ a, a = str l := ⟨_, rfl⟩
 obtain ⟨b, hB⟩ : ∃ b, b = str d := ⟨_, rfl⟩
 rw [← hA, ← hB]
 have hsa : a.size ≤ 100000 := by rw [hA, str_size]; exact ha
 have hsb : b.size ≤ 100000 := by rw [hB, str_size]; exact hb
 obtain ⟨C1, hC1⟩ : ∃ C, C = (⟨#[60]⟩ : ByteArray) ++ a := ⟨_, rfl⟩
 obtain ⟨C2, hC2⟩ : ∃ C, C = C1 ++ (⟨#[64]⟩ : ByteArray) := ⟨_, rfl⟩
 obtain ⟨C3, hC3⟩ : ∃ C, C = C2 ++ b := ⟨_, rfl⟩
 obtain ⟨C4, hC4⟩ : ∃ C, C = C3 ++ (⟨#[62]⟩ : ByteArray) := ⟨_, rfl⟩
 have s1 : C1.size = 1 + a.size := by rw [hC1, ByteArray.size_append]; rfl
 have s2 : C2.size = C1.size + 1 := by rw [hC2, ByteArray.size_append]; rfl
 have s3 : C3.size = C2.size + b.size := by rw [hC3, ByteArray.size_append]
 have hcat1 := cat_run _ _ C1 hC1 (by decide) (by omega)
 have hcat2 := cat_run _ _ C2 hC2 (by omega) (by decide)
 have hcat3 := cat_run _ _ C3 hC3 (by omega) (by omega)
 have hcat4 := cat_run _ _ C4 hC4 (by omega) (by decide)
 have hC : C4 = str (60 :: l ++ 64 :: d ++ [62]) := by
  rw [← str_lst C4, hC4, hC3, hC2, hC1, hA, hB]
  simp only [lst_append, lst_str]
  congr 1
  simp [lst]
 have HCC := Aside0.mk hC
 clear hC1 hC2 hC3 hC4 s1 s2 s3 hC hA hB ha hb hsa hsb
 go_enter Tryz.func55, Tryz.ntmps55
 cases n with
 | true =>
  simp only [if_true] at hX
  have HX := Aside0.mk hX
  clear hX
  go_wp2_with (fail)
  go_ret
  exact ⟨by rw [HX.out]; rfl, (Below.refl _ w).alloc (Nat.le_refl _) _⟩
 | false =>
  simp only [Bool.false_eq_true, if_false] at hX
  have HX := Aside0.mk hX
  clear hX
  go_wp2_with (fail)
  go_ret
  exact ⟨by rw [HX.out, ← HCC.out]; rfl, (Below.refl _ w).alloc (Nat.le_refl _) _⟩
theorem dig_slice (M : Nat) (hM : M ≤ 9) (w : World) : (Instr.slice 9 (.string ⟨#[48, 49, 50, 51, 52, 53, 54, 55, 56, 57]⟩) (some (.int .i64 (M : Int))) (some (.int .i64 ((M : Int) + 1))) none).run Tryz.prog w = .ok (.string (str [UInt8.ofNat (48 + M)])) w := by
 rw [run_slice_string_if w 9 _ .i64 .i64 (M : Int) ((M : Int) + 1) Tryz.underlying9, if_pos ⟨by omega, by show (M : Int) + 1 ≤ 10; omega⟩, if_pos ⟨by omega, by omega⟩]
 have h : ∀ M : Nat, M ≤ 9 → (⟨#[48, 49, 50, 51, 52, 53, 54, 55, 56, 57]⟩ : ByteArray).extract (M : Int).toNat ((M : Int) + 1).toNat = str [UInt8.ofNat (48 + M)] := by decide
 rw [h M hM]
theorem digits_len (N : Nat) : ∀ k, N < 10 ^ (k + 1) → (Lib.decDigits N).length ≤ k + 1 := by
 induction N using Nat.strongRecOn with
 | _ N ih =>
  intro k hk
  rw [Lib.decDigits]
  split
  ·simp
  ·rename_i h
   cases k with
   | zero => omega
   | succ k =>
    have := ih (N / 10) (by omega) k (by rw [Nat.pow_succ] at hk; omega)
    rw [List.length_append, List.length_singleton]
    omega
set_option maxRecDepth 100000 in
set_option maxHeartbeats 1000000 in
theorem digits_any (N : Nat) (hN : N < 1000000000000000) (w : World) :
  Calls Tryz.prog 27 #[.int .i64 (N : Int)] w fun e w' => e = .returned (.string (str (Lib.decDigits N))) ∧ Below w.heap.size w w' := by
 obtain ⟨X, hX⟩ : ∃ X, X = str (Lib.decDigits N) := ⟨_, rfl⟩
 rw [← hX]
 have HX := Aside0.mk hX
 clear hX
 go_enter Tryz.func27, Tryz.ntmps27
 go_wp2_with (fail)
 go_loopg [0, 3] (N + 1) (fun g v0 v3 wr => ∃ (M : Nat) (S : V.Bs) (C : ByteArray), M + 1 ≤ g ∧ v0 = .int .i64 M ∧ v3 = .string C ∧ C.size ≤ 100 ∧ M < 1000000000000000 ∧ Aside0 (C = str S ∧ Lib.decDigits M ++ S = Lib.decDigits N ∧ S.length + (Lib.decDigits M).length ≤ 15) ∧ wr = w)
 case atStart =>
  have hl := digits_len N 14 (by omega)
  exact ⟨N, [], _, by omega, rfl, rfl, by decide, hN, ⟨rfl, List.append_nil _, by simpa using hl⟩, rfl⟩
 case round =>
  obtain ⟨M, S, C, hg, rfl, rfl, hC, hM, H, rfl⟩ := hrel
  obtain ⟨wx, rfl⟩ : ∃ wz : World, wz = wr := ⟨_, rfl⟩
  by_cases h9 : 9 < M
  ·have h9' : (9 : Int) < (M : Int) := by omega
   have hr : Int.tmod (M : Int) 10 = ((M % 10 : Nat) : Int) := by rw [Int.tmod_eq_emod_of_nonneg (by omega)]; omega
   have hq : Int.tdiv (M : Int) 10 = ((M / 10 : Nat) : Int) := by rw [Int.tdiv_eq_ediv_of_nonneg (by omega)]; omega
   have hw : wrap64 (((M % 10 : Nat) : Int) + 1) = ((M % 10 : Nat) : Int) + 1 := by unfold wrap64; omega
   have hw2 : wrap64 ((M / 10 : Nat) : Int) = ((M / 10 : Nat) : Int) := by unfold wrap64; omega
   have hsl := dig_slice (M % 10) (by omega)
   obtain ⟨r, hr'⟩ : ∃ r : Nat, r = M % 10 := ⟨_, rfl⟩
   obtain ⟨qq, hq'⟩ : ∃ r : Nat, r = M / 10 := ⟨_, rfl⟩
   rw [← hr'] at hr hw hsl
   rw [← hq'] at hq hw2
   obtain ⟨D, hD⟩ : ∃ D, D = str [UInt8.ofNat (48 + r)] := ⟨_, rfl⟩
   rw [← hD] at hsl
   obtain ⟨E, hE⟩ : ∃ E, E = D ++ C := ⟨_, rfl⟩
   have hcat := cat_run D C E hE (by rw [hD, str_size]; simp) (by omega)
   have hES : E = str (UInt8.ofNat (48 + r) :: S) := by
    rw [hE, hD, H.out.1, ← str_append]; rfl
   have hdd : Lib.decDigits M = Lib.decDigits qq ++ [UInt8.ofNat (48 + r)] := by
    rw [Lib.decDigits, dif_neg (by omega), hq', hr']
   have HES := Aside0.mk hES
   have HDD := Aside0.mk hdd
   have HQ := Aside0.mk hq'
   clear hD hE hES hdd hr' hq'
   go_wp2_with (fail)
   go_roundg (gk - 1)
   case measure => have := HQ.out; omega
   case rel =>
    have hqq := HQ.out
    obtain ⟨h1, h2, h3⟩ := H.out
    rw [HDD.out] at h2 h3
    rw [List.length_append, List.length_singleton] at h3
    refine ⟨qq, UInt8.ofNat (48 + r) :: S, E, by omega, ?_, rfl, by rw [HES.out, str_size, List.length_cons]; omega, by omega, ⟨HES.out, by rw [← h2]; simp, by rw [List.length_cons]; omega⟩, rfl⟩
    refine congrArg (Value.int .i64) ?_
    first | rfl | (unfold wrap64; omega) | (simp; unfold wrap64; omega)
  ·have h9' : decide ((9 : Int) < (M : Int)) = false := by simp; omega
   have h92 : decide (9 < M) = false := by simp; omega
   have hw : wrap64 ((M : Int) + 1) = (M : Int) + 1 := by unfold wrap64; omega
   have hsl := dig_slice M (by omega)
   obtain ⟨D, hD⟩ : ∃ D, D = str [UInt8.ofNat (48 + M)] := ⟨_, rfl⟩
   rw [← hD] at hsl
   obtain ⟨E, hE⟩ : ∃ E, E = D ++ C := ⟨_, rfl⟩
   have hcat := cat_run D C E hE (by rw [hD, str_size]; simp) (by omega)
   have hES : E = str (Lib.decDigits N) := by
    rw [hE, hD, H.out.1, ← str_append, ← H.out.2.1, Lib.decDigits, dif_pos (by omega)]
   have HES := Aside0.mk hES
   clear hD hE hES
   go_wp2_with (fail)
   go_ret
   exact ⟨by rw [HX.out, ← HES.out]; rfl, Below.refl _ _⟩
end Go.Proofs.YtpfmnkpmidjfjaaGreatDoor
