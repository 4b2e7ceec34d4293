/- A record in memory of its own: package wherrykeep's TwinRec and TwinRecs. -/
import Derived.Test.YtbkfdejcmimhgaaProg
import Derived.WalkKit
import Derived.WalkLawsBesides
import Derived.Outline
import Derived.LoopTactic
import Derived.Lib.Hide
import Derived.Deep.QuietTactic
import Derived.BigQuiet
import Derived.Deep.LoopGhost
import Derived.Deep.DeepCutAuto
import Derived.Deep.CutBlock
import Derived.Deep.RegionHeld3
import Derived.Deep.RegionWith
import Derived.Deep.WholeRow
import Derived.Laws.Rows
import Derived.Laws.Tables
import Derived.Laws.ResultCell
import Derived.StillTailTactics
import Derived.Deep.DeepMust
import Derived.IntWalk
import Derived.KernelRfl
import Derived.Test.YtbkfdejcmimhgaaVa
import Derived.RegionTactic
import Derived.Deep.MidRow
import Derived.Test.YtbkfdejcmimhgaaVd
import Derived.Test.YtbkfdejcmimhgaaDiC
namespace Go.Proofs.Ytbkfdejcmimhgaa
open Go.RowKit Go.Proofs.YtbkfdejcmimhgaaW.PrintWords Go.Proofs.Ytbkfdejcmimhgaa.PDiaryExact
set_option linter.unusedVariables false
set_option linter.unusedSimpArgs false
theorem load_mid_ {P : Program} {ops : Array Oper} {Q : Exit → Act → World → Prop} {o : Oper} {d' : Option Tmp} {a : Act} {w : World} {K : Act → World → Prop} (hw : Region.wanted o (yielded ops a.tmps) = true) (hN : o.dst = d') (ty : TypeId) (x : Operand) (ho : o.op = .load ty x)
    (b j : Nat) (hx : a.eval x = .pointer (some ⟨b, j, none⟩)) (cs : List Value) (d : TypeDesc) (hc : w.rangeAt b j cs)
    (hu : P.underlying ty = some d) (hd : d.isRow = true) (hi : (P.info? ty).map (·.size) = some cs.length)
    (h : K (a.put d' (.agg cs.toArray)) w) : Facts.OpDo P ops Q o d' a w K := by
  refine ⟨?_⟩
  rw [if_pos hw]
  exact wp_load_mid ty x ho b j hx cs d hc hu hd hi (by rw [hN]; exact h)
theorem store_mid_ {P : Program} {ops : Array Oper} {Q : Exit → Act → World → Prop} {o : Oper} {a : Act} {w : World} {K : Act → World → Prop} (hw : Region.wanted o (yielded ops a.tmps) = true) (hN : o.dst = none) (ty : TypeId) (x y : Operand) (ho : o.op = .store ty x y)
    (b j : Nat) (cells : Array Value) (hx : a.eval x = .pointer (some ⟨b, j, none⟩)) (hy : a.eval y = .agg cells)
    (ht : w.there b j cells.size) (hi : (P.info? ty).map (·.size) = some cells.size) (h1 : cells.all (·.oneCell') = true)
    (h : K a (w.setCells b j cells.toList)) : Facts.OpDo P ops Q o o.dst a w K := by
  refine ⟨?_⟩
  rw [if_pos hw]
  exact wp_store_mid ty x y ho b j cells hx hy ht hi h1 (by rw [hN]; exact h)
/-- The rows of a mail's cells. -/
def mc (m : S36) (v3 v4 : Value) : Array Value := #[.bool m.f0.f0, .string m.f0.f1, .string m.f0.f2, v3, v4, .bool m.f3, .string m.f4, .int .i64 m.f5]
def Tk (B0 b : Nat) (m : S36) (sT sB sI sD : Value) (lI lD : List Int) : Nat → Value → World → Prop
  | 0, v, _ => v = .pointer (some ⟨b, 1, none⟩)
  | 1, v, _ => v = .agg (mc m sT sB)
  | 2, v, w => ∃ v3 v4, v = .agg (mc m v3 v4) ∧ Vw k32 (fun k => B0 ≤ k) w v3 m.f1 ∧ Vz (fun k => B0 ≤ k) w v4 m.f2
  | 3, v, _ => v = .pointer (some ⟨b, 10, none⟩)
  | 4, v, _ => v = sI
  | 5, v, w => Vw (Kd.int .i64) (fun k => B0 ≤ k) w v lI
  | 6, v, _ => v = .pointer (some ⟨b, 14, none⟩)
  | 7, v, _ => v = sD
  | 8, v, w => Vz (fun k => B0 ≤ k) w v lD
  | 9, v, _ => v = .pointer (some ⟨b, 1, none⟩)
  | _, _, _ => True
theorem Tk.stab (B0 b : Nat) (m : S36) (sT sB sI sD : Value) (lI lD : List Int) : ∀ i v w1 w2, Tk B0 b m sT sB sI sD lI lD i v w1 → Below w1.heap.size w1 w2 → Tk B0 b m sT sB sI sD lI lD i v w2
  | 0, _, _, _, h, _ => h
  | 1, _, _, _, h, _ => h
  | 2, _, _, _, h, hb => by
    obtain ⟨v3, v4, e, h3, h4⟩ := h
    exact ⟨v3, v4, e, V_below h3 hb, Vz.below h4 hb⟩
  | 3, _, _, _, h, _ => h
  | 4, _, _, _, h, _ => h
  | 5, _, _, _, h, hb => V_below h hb
  | 6, _, _, _, h, _ => h
  | 7, _, _, _, h, _ => h
  | 8, _, _, _, h, hb => Vz.below h hb
  | 9, _, _, _, h, _ => h
  | _ + 10, _, _, _, _, _ => trivial
theorem row_range {W : World} {b : Nat} {x : S39} {v4 v5 v10 v14 : Value} (h : W.heap[b]? = some (.cells (rc x v4 v5 v10 v14) 39 (0, 0))) : W.rangeAt b 1 (mc x.f1 v4 v5).toList := fun j v hv => by
  refine rc_cell h (1 + j) v ?_
  match j, hv with
  | 0, hv => exact hv
  | 1, hv => exact hv
  | 2, hv => exact hv
  | 3, hv => exact hv
  | 4, hv => exact hv
  | 5, hv => exact hv
  | 6, hv => exact hv
  | 7, hv => exact hv
  | n + 8, hv => simp [mc] at hv
theorem row_there {W : World} {b : Nat} {x : S39} {v4 v5 v10 v14 : Value} (h : W.heap[b]? = some (.cells (rc x v4 v5 v10 v14) 39 (0, 0))) : W.there b 1 8 := fun j hj => by
  refine ⟨?_, frozen_of_row _ _ _ _ _ h⟩
  have hs : (rc x v4 v5 v10 v14)[1 + j]? = some ((rc x v4 v5 v10 v14)[1 + j]'(by show 1 + j < 15; omega)) := Array.getElem?_eq_getElem _
  rw [rc_cell h (1 + j) _ hs]
  rfl
theorem setCells_other (b : Nat) : ∀ (vs : List Value) (o : Nat) (w : World) (k : Nat), k ≠ b → (w.setCells b o vs).heap[k]? = w.heap[k]?
  | [], _, _, _, _ => rfl
  | v :: r, o, w, k, h => by
    rw [World.setCells, setCells_other b r (o + 1) _ k h, heap_setCell_other _ _ _ _ (by exact h)]
theorem setCells_below (b B : Nat) (hb : B ≤ b) : ∀ (vs : List Value) (o : Nat) (w0 w : World), Below B w0 w → Below B w0 (w.setCells b o vs)
  | [], _, _, _, h => h
  | v :: r, o, w0, w, h => by
    rw [World.setCells]
    exact setCells_below b B hb r (o + 1) w0 _ (h.setCell (p := ⟨b, o, none⟩) hb _)
theorem setCells_size (b : Nat) : ∀ (vs : List Value) (o : Nat) (w : World), (w.setCells b o vs).heap.size = w.heap.size
  | [], _, _ => rfl
  | v :: r, o, w => by
    rw [World.setCells, setCells_size b r (o + 1)]
    simp [World.setCell]
theorem mail_set {W : World} {b : Nat} {x : S39} {v4 v5 v10 v14 u4 u5 : Value} (h : W.heap[b]? = some (.cells (rc x v4 v5 v10 v14) 39 (0, 0))) : (W.setCells b 1 (mc x.f1 u4 u5).toList).heap[b]? = some (.cells (rc x u4 u5 v10 v14) 39 (0, 0)) := by
  have h1 := heap_setCell_same W b 1 _ _ (.bool x.f1.f0.f0) h
  have h2 := heap_setCell_same _ b 2 _ _ (.string x.f1.f0.f1) h1
  have h3 := heap_setCell_same _ b 3 _ _ (.string x.f1.f0.f2) h2
  have h4 := heap_setCell_same _ b 4 _ _ u4 h3
  have h5 := heap_setCell_same _ b 5 _ _ u5 h4
  have h6 := heap_setCell_same _ b 6 _ _ (.bool x.f1.f3) h5
  have h7 := heap_setCell_same _ b 7 _ _ (.string x.f1.f4) h6
  have h8 := heap_setCell_same _ b 8 _ _ (.int .i64 x.f1.f5) h7
  have e : (mc x.f1 u4 u5).toList = [.bool x.f1.f0.f0, .string x.f1.f0.f1, .string x.f1.f0.f2, u4, u5, .bool x.f1.f3, .string x.f1.f4, .int .i64 x.f1.f5] := rfl
  rw [e]
  simp only [World.setCells]
  rw [h8]
  simp only [rc, List.setIfInBounds_toArray, List.set_cons_zero, List.set_cons_succ]
theorem twinMail_any (m : S36) (A3 : Option Addr) (c3 : Nat) (A4 : Option Addr) (c4 : Nat) (W : World) (h3 : k32.C W A3 m.f1.length m.f1) (l3 : m.f1.length ≤ c3) (h4 : (Kd.int .u8).C W A4 m.f2.length m.f2) (l4 : m.f2.length ≤ c4) (n3 : m.f1.length ≤ 1000000) (n4 : m.f2.length ≤ 1000000) :
    Calls Try.prog 57 #[.agg (mc m (.slice A3 m.f1.length c3) (.slice A4 m.f2.length c4))] W fun e w' => ∃ v3 v4 : Value, e = .returned (.agg (mc m v3 v4)) ∧ Kd.R k32 32 w' W.heap.size (fun _ => True) v3 m.f1 ∧ Kd.R (Kd.int .u8) 5 w' W.heap.size (fun _ => True) v4 m.f2 ∧ Below W.heap.size W w' := by
  refine wherrykeep_TwinMail.calls m.f0.f0 m.f0.f1 m.f0.f2 A3 c3 m.f1 A4 c4 m.f2 m.f3 m.f4 m.f5 m.f0.f0 m.f0.f1 m.f0.f2 m.f1 m.f2 m.f3 m.f4 m.f5 W h3 l3 h4 l4 ?_
  unfold wherrykeep_TwinMail.f wherrykeep_TwinPaths.f wherrykeep_Twin.f
  rw [if_pos (by simp; omega), Option.bind_some, if_pos (by simp; omega), Option.bind_some]
  rfl
theorem twinI_any (A : Option Addr) (c : Nat) (l : List Int) (W : World) (h : (Kd.int .i64).C W A l.length l) (hc : l.length ≤ c) (hl : l.length ≤ 1000000) : Calls Try.prog 58 #[.slice A l.length c] W fun e w' => ∃ v : Value, e = .returned v ∧ Kd.R (Kd.int .i64) 3 w' W.heap.size (fun _ => True) v l ∧ Below W.heap.size W w' := by
  refine wherrykeep_TwinInts.calls A c l l W h hc ?_
  unfold wherrykeep_TwinInts.f
  rw [if_pos (by simp; omega)]
  rfl
theorem twinB_any (A : Option Addr) (c : Nat) (l : List Int) (W : World) (h : (Kd.int .u8).C W A l.length l) (hc : l.length ≤ c) (hl : l.length ≤ 1000000) : Calls Try.prog 59 #[.slice A l.length c] W fun e w' => ∃ v : Value, e = .returned v ∧ Kd.R (Kd.int .u8) 5 w' W.heap.size (fun _ => True) v l ∧ Below W.heap.size W w' := by
  refine wherrykeep_Twin.calls A c l l W h hc ?_
  unfold wherrykeep_Twin.f
  rw [if_pos (by simp; omega)]
  rfl
set_option maxRecDepth 100000 in
set_option maxHeartbeats 4000000 in
theorem rtwinb_any (x : S39) (cs : List Value) (w : World) (hK : k39.K w x cs) (n1 : x.f1.f1.length ≤ 1000000) (n2 : x.f1.f2.length ≤ 1000000) (n3 : x.f3.length ≤ 1000000) (n4 : x.f7.length ≤ 1000000) :
    Calls Try.prog 44 #[.agg cs.toArray] w fun e w' => ∃ cs', e = .returned (.agg cs'.toArray) ∧ Kd.FK (k39b (fun k => w.heap.size ≤ k)) w' (fun k => w.heap.size ≤ k) x cs' ∧ Below w.heap.size w w' := by
  obtain ⟨A4, c4, A5, c5, A10, c10, A14, c14, rfl, l4, g4, l5, g5, l10, g10, l14, g14⟩ := k39_open hK
  obtain ⟨W1, hW1⟩ : ∃ W1, W1 = (w.alloc (.cells (rc x (.slice A4 x.f1.f1.length c4) (.slice A5 x.f1.f2.length c5) (.slice A10 x.f3.length c10) (.slice A14 x.f7.length c14)) 39)).alloc (.cells (rc z39 (.slice none 0 0) (.slice none 0 0) (.slice none 0 0) (.slice none 0 0)) 39) := ⟨_, rfl⟩
  have hb1 : W1.heap[w.heap.size]? = some (.cells (rc x (.slice A4 x.f1.f1.length c4) (.slice A5 x.f1.f2.length c5) (.slice A10 x.f3.length c10) (.slice A14 x.f7.length c14)) 39 (0, 0)) := by rw [hW1]; exact heap_alloc2_old _ _ _
  have hb2 : W1.heap[w.heap.size + 1]? = some (.cells (rc z39 (.slice none 0 0) (.slice none 0 0) (.slice none 0 0) (.slice none 0 0)) 39 (0, 0)) := by rw [hW1]; exact heap_alloc2_new _ _ _
  have hbw : Below w.heap.size w W1 := by rw [hW1]; exact ((Below.refl _ _).alloc (Nat.le_refl _) _).alloc (by simp) _
  have hsz : w.heap.size + 2 ≤ W1.heap.size := by rw [hW1]; simp
  have G4 := Aside0.mk (Kd.C_below g4 hbw)
  have G5 := Aside0.mk (Kd.C_below g5 hbw)
  have G10 := Aside0.mk (Kd.C_below g10 hbw)
  have G14 := Aside0.mk (Kd.C_below g14 hbw)
  have HB1 := Aside0.mk hb1
  have HB2 := Aside0.mk hb2
  have HBW := Aside0.mk hbw
  have K10 := Aside0.mk g10
  have K14 := Aside0.mk g14
  clear hK g4 g5 g10 g14 hb1 hb2 hbw
  go_enter Try.func44, Try.ntmps44
  go_upto_region 1 with (fail)
  have hst : ∀ Z : World, Z = (w.alloc (.cells #[.int .i64 x.f0, .bool x.f1.f0.f0, .string x.f1.f0.f1, .string x.f1.f0.f2, .slice A4 x.f1.f1.length c4, .slice A5 x.f1.f2.length c5, .bool x.f1.f3, .string x.f1.f4, .int .i64 x.f1.f5, .int .i64 x.f2, .slice A10 x.f3.length c10, .int .i64 x.f4, .int .i64 x.f5, .int .i64 x.f6, .slice A14 x.f7.length c14] 39)).alloc (.cells #[.int .i64 0, .bool false, .string ⟨#[]⟩, .string ⟨#[]⟩, .slice none 0 0, .slice none 0 0, .bool false, .string ⟨#[]⟩, .int .i64 0, .int .i64 0, .slice none 0 0, .int .i64 0, .int .i64 0, .int .i64 0, .slice none 0 0] 39) → Z = W1 := fun Z hZ => by rw [hZ, hW1]; rfl
  rw [hst _ rfl]
  clear hst hW1
  refine Facts.region_any (n := 5 + 10) #[false, false, false, false, false, false, false, false, false, false, false, false, false, false, false] (by kernel_rfl) rfl (by kernel_rfl) (fun W0 hW0 hB0 => ?_)
  have hB1 : Below W1.heap.size W1 W0 := hB0 _
  clear hW0 hB0
  refine Facts.wpAny_eval [(0, some 3), (1, some 4), (2, some 5), (3, some 6), (4, some 7), (5, some 8), (6, some 9), (7, some 10), (8, some 11), (9, some 12)] _ #[true, true, true, true, true, true, true, true, true, true, false, false, false, false, false] (by kernel_rfl) 5 _ _ (fun w1 w2 => Below w1.heap.size w1 w2) (Tk (w.heap.size + 2) w.heap.size x.f1 (.slice A4 x.f1.f1.length c4) (.slice A5 x.f1.f2.length c5) (.slice A10 x.f3.length c10) (.slice A14 x.f7.length c14) x.f3 x.f7) Facts.below_refl Facts.below_tr (Tk.stab _ _ _ _ _ _ _ _ _) ?hop ?H (fun _ => undef) (by kernel_rfl)
  case hop =>
    intro y hx o ho V W hR hpre K hK
    have hW : Below W1.heap.size W1 W := hB1.trans (hR.mono hB1.size)
    simp only [List.mem_cons, List.not_mem_nil, or_false] at hx
    rcases hx with rfl | rfl | rfl | rfl | rfl | rfl | rfl | rfl | rfl | rfl
    · obtain rfl := Option.some.inj ho
      refine Facts.OpDo.value (by kernel_rfl) rfl (v := (.pointer (some ⟨w.heap.size, 1, none⟩))) (w1 := W) ?_ ?_
      · simp only [Facts.acE, Act.put, List.setIfInBounds_toArray, List.set_cons_zero, List.set_cons_succ]
        go_simp
      · exact hK _ _ rfl (Below.refl _ _)
    · obtain rfl := Option.some.inj ho
      have fp : V 0 = (.pointer (some ⟨w.heap.size, 1, none⟩)) := hpre { on := 0, ground := .data } (by simp) rfl rfl
      refine load_mid_ (by kernel_rfl) rfl 36 (.tmp 3) rfl w.heap.size 1 (by simp only [Facts.acE, fp, Act.put, List.setIfInBounds_toArray, List.set_cons_zero, List.set_cons_succ]; rfl) (mc x.f1 (.slice A4 x.f1.f1.length c4) (.slice A5 x.f1.f2.length c5)).toList _ (row_range (keep_blk HB1.out hW)) Try.underlying36 rfl (by kernel_rfl) ?_
      exact hK _ _ rfl (Below.refl _ _)
    · obtain rfl := Option.some.inj ho
      have fp1 : V 1 = .agg (mc x.f1 (.slice A4 x.f1.f1.length c4) (.slice A5 x.f1.f2.length c5)) := hpre { on := 1, ground := .data } (by simp) rfl rfl
      refine Facts.OpDo.goes Try.func57 (by kernel_rfl) rfl #[V 1] (by kernel_rfl) rfl rfl (by kernel_rfl) ?_
      rw [fp1]
      refine (twinMail_any x.f1 A4 c4 A5 c5 W (Kd.C_below G4.out hW) l4 (Kd.C_below G5.out hW) l5 n1 n2).mono ?_
      rintro e w' ⟨v3, v4, rfl, hr3, hr4, hb'⟩
      exact ⟨_, rfl, hK _ _ ⟨v3, v4, rfl, R_new hr3 (by have := hW.size; omega), R_newz hr4 (by have := hW.size; omega)⟩ hb'⟩
    · obtain rfl := Option.some.inj ho
      refine Facts.OpDo.value (by kernel_rfl) rfl (v := (.pointer (some ⟨w.heap.size, 10, none⟩))) (w1 := W) ?_ ?_
      · simp only [Facts.acE, Act.put, List.setIfInBounds_toArray, List.set_cons_zero, List.set_cons_succ]
        go_simp
      · exact hK _ _ rfl (Below.refl _ _)
    · obtain rfl := Option.some.inj ho
      have fp : V 3 = (.pointer (some ⟨w.heap.size, 10, none⟩)) := hpre { on := 3, ground := .data } (by simp) rfl rfl
      have hc := rc_cell (keep_blk HB1.out hW) 10 (.slice A10 x.f3.length c10) rfl
      refine Facts.OpDo.value (by kernel_rfl) rfl (v := (.slice A10 x.f3.length c10)) (w1 := W) ?_ ?_
      · simp only [Facts.acE, fp, Act.put, List.setIfInBounds_toArray, List.set_cons_zero, List.set_cons_succ]
        go_simp
      · exact hK _ _ rfl (Below.refl _ _)
    · obtain rfl := Option.some.inj ho
      have fp4 : V 4 = (.slice A10 x.f3.length c10) := hpre { on := 4, ground := .data } (by simp) rfl rfl
      refine Facts.OpDo.goes Try.func58 (by kernel_rfl) rfl #[V 4] (by kernel_rfl) rfl rfl (by kernel_rfl) ?_
      rw [fp4]
      refine (twinI_any A10 c10 x.f3 W (Kd.C_below G10.out hW) l10 n3).mono ?_
      rintro e w' ⟨v, rfl, hr, hb'⟩
      exact ⟨_, rfl, hK _ _ (R_new hr (by have := hW.size; omega)) hb'⟩
    · obtain rfl := Option.some.inj ho
      refine Facts.OpDo.value (by kernel_rfl) rfl (v := (.pointer (some ⟨w.heap.size, 14, none⟩))) (w1 := W) ?_ ?_
      · simp only [Facts.acE, Act.put, List.setIfInBounds_toArray, List.set_cons_zero, List.set_cons_succ]
        go_simp
      · exact hK _ _ rfl (Below.refl _ _)
    · obtain rfl := Option.some.inj ho
      have fp : V 6 = (.pointer (some ⟨w.heap.size, 14, none⟩)) := hpre { on := 6, ground := .data } (by simp) rfl rfl
      have hc := rc_cell (keep_blk HB1.out hW) 14 (.slice A14 x.f7.length c14) rfl
      refine Facts.OpDo.value (by kernel_rfl) rfl (v := (.slice A14 x.f7.length c14)) (w1 := W) ?_ ?_
      · simp only [Facts.acE, fp, Act.put, List.setIfInBounds_toArray, List.set_cons_zero, List.set_cons_succ]
        go_simp
      · exact hK _ _ rfl (Below.refl _ _)
    · obtain rfl := Option.some.inj ho
      have fp7 : V 7 = (.slice A14 x.f7.length c14) := hpre { on := 7, ground := .data } (by simp) rfl rfl
      refine Facts.OpDo.goes Try.func59 (by kernel_rfl) rfl #[V 7] (by kernel_rfl) rfl rfl (by kernel_rfl) ?_
      rw [fp7]
      refine (twinB_any A14 c14 x.f7 W (Kd.C_below G14.out hW) l14 n4).mono ?_
      rintro e w' ⟨v, rfl, hr, hb'⟩
      exact ⟨_, rfl, hK _ _ (R_newz hr (by have := hW.size; omega)) hb'⟩
    · obtain rfl := Option.some.inj ho
      refine Facts.OpDo.value (by kernel_rfl) rfl (v := (.pointer (some ⟨w.heap.size, 1, none⟩))) (w1 := W) ?_ ?_
      · simp only [Facts.acE, Act.put, List.setIfInBounds_toArray, List.set_cons_zero, List.set_cons_succ]
        go_simp
      · exact hK _ _ rfl (Below.refl _ _)
  case H =>
    intro V W hR hΦ
    have f0 := hΦ (0, some 3) (by simp)
    have f1 := hΦ (1, some 4) (by simp)
    have f2 := hΦ (2, some 5) (by simp)
    have f3 := hΦ (3, some 6) (by simp)
    have f4 := hΦ (4, some 7) (by simp)
    have f5 := hΦ (5, some 8) (by simp)
    have f6 := hΦ (6, some 9) (by simp)
    have f7 := hΦ (7, some 10) (by simp)
    have f8 := hΦ (8, some 11) (by simp)
    have f9 := hΦ (9, some 12) (by simp)
    clear hΦ
    simp only [Tk] at f0 f1 f2 f3 f4 f5 f6 f7 f8 f9
    have hW : Below W1.heap.size W1 W := hB1.trans (hR.mono hB1.size)
    clear hR
    obtain ⟨v3, v4, f2, ⟨T4, d4, rfl, m4, F4⟩, ⟨T5, d5, rfl, m5, F5, O5⟩⟩ := f2
    obtain ⟨T10, d10, f5, m10, F10⟩ := f5
    obtain ⟨T14, d14, f8, m14, F14, O14⟩ := f8
    simp only [Facts.acE, f0, f1, f2, f3, f4, f5, f6, f7, f8, f9, Act.put, List.setIfInBounds_toArray, List.set_cons_zero, List.set_cons_succ]
    clear f0 f1 f2 f3 f4 f5 f6 f7 f8 f9 V
    have hbk := keep_blk HB1.out hW
    have hbk2 := keep_blk HB2.out hW
    refine Facts.wpAny_one (i := 10) #[true, true, true, true, true, true, true, true, true, true, true, false, false, false, false] rfl (by kernel_rfl) rfl (fun K hK => ?_)
    refine store_mid_ (by kernel_rfl) rfl 36 (.tmp 12) (.tmp 5) rfl w.heap.size 1 (mc x.f1 (.slice T4 x.f1.f1.length d4) (.slice T5 x.f1.f2.length d5)) rfl rfl (row_there hbk) (by kernel_rfl) (by simp [mc, Value.oneCell']) (hK _ _ ?_)
    clear hK K
    obtain ⟨WX, hWX⟩ : ∃ WX, WX = (W.setCells w.heap.size 1 (mc x.f1 (.slice T4 x.f1.f1.length d4) (.slice T5 x.f1.f2.length d5)).toList) := ⟨_, rfl⟩
    rw [← hWX]
    have hbx : WX.heap[w.heap.size]? = some (.cells (rc x (.slice T4 x.f1.f1.length d4) (.slice T5 x.f1.f2.length d5) (.slice A10 x.f3.length c10) (.slice A14 x.f7.length c14)) 39 (0, 0)) := by rw [hWX]; exact mail_set hbk
    have stX : ∀ k, k ≠ w.heap.size → WX.heap[k]? = W.heap[k]? := fun k hk => by rw [hWX]; exact setCells_other _ _ _ _ _ hk
    have hbx2 : WX.heap[w.heap.size + 1]? = _ := (stX _ (by omega)).trans hbk2
    have hbwX : Below w.heap.size w WX := by rw [hWX]; exact setCells_below _ _ (Nat.le_refl _) _ _ _ _ (HBW.out.trans (hW.mono (by omega)))
    clear hWX hbk hbk2
    have q10 : WX.cell? ⟨w.heap.size, 10, none⟩ = some (.slice A10 x.f3.length c10) := rc_cell hbx 10 _ rfl
    have q10f : WX.frozen? ⟨w.heap.size, 10, none⟩ = false := frozen_of_row _ _ _ _ _ hbx
    have hby := heap_setCell_same WX w.heap.size 10 _ _ (.slice T10 x.f3.length d10) hbx
    have hby2 := (heap_setCell_other WX ⟨w.heap.size, 10, none⟩ (w.heap.size + 1) (.slice T10 x.f3.length d10) (by simp)).trans hbx2
    have q14 : (WX.setCell ⟨w.heap.size, 10, none⟩ (.slice T10 x.f3.length d10)).cell? ⟨w.heap.size, 14, none⟩ = some (.slice A14 x.f7.length c14) := rc_cell hby 14 _ rfl
    have q14f : (WX.setCell ⟨w.heap.size, 10, none⟩ (.slice T10 x.f3.length d10)).frozen? ⟨w.heap.size, 14, none⟩ = false := frozen_of_row _ _ _ _ _ hby
    have hbz := heap_setCell_same _ w.heap.size 14 _ _ (.slice T14 x.f7.length d14) hby
    have hbz2 := (heap_setCell_other (WX.setCell ⟨w.heap.size, 10, none⟩ (.slice T10 x.f3.length d10)) ⟨w.heap.size, 14, none⟩ (w.heap.size + 1) (.slice T14 x.f7.length d14) (by simp)).trans hby2
    have HBZ := Aside0.mk hbz
    have HBZ2 := Aside0.mk hbz2
    clear hbx hbx2 hby hby2 hbz hbz2
    refine Facts.wpAny_one (i := 11) #[true, true, true, true, true, true, true, true, true, true, true, true, false, false, false] rfl (by kernel_rfl) rfl (fun K hK => ?_)
    refine Facts.OpDo.value (by kernel_rfl) rfl (d := some 13) (v := (.pointer (some ⟨w.heap.size, 10, none⟩))) (w1 := WX) (by go_simp) (hK _ _ ?_)
    clear hK K
    simp only [Act.put, List.setIfInBounds_toArray, List.set_cons_zero, List.set_cons_succ]
    refine Facts.wpAny_one (i := 12) #[true, true, true, true, true, true, true, true, true, true, true, true, true, false, false] rfl (by kernel_rfl) rfl (fun K hK => ?_)
    refine Facts.OpDo.skip (by kernel_rfl) rfl (w1 := WX.setCell ⟨w.heap.size, 10, none⟩ (.slice T10 x.f3.length d10)) (by go_simp) (hK _ _ ?_)
    clear hK K
    refine Facts.wpAny_one (i := 13) #[true, true, true, true, true, true, true, true, true, true, true, true, true, true, false] rfl (by kernel_rfl) rfl (fun K hK => ?_)
    refine Facts.OpDo.value (by kernel_rfl) rfl (d := some 14) (v := (.pointer (some ⟨w.heap.size, 14, none⟩))) (w1 := WX.setCell ⟨w.heap.size, 10, none⟩ (.slice T10 x.f3.length d10)) (by go_simp) (hK _ _ ?_)
    clear hK K
    simp only [Act.put, List.setIfInBounds_toArray, List.set_cons_zero, List.set_cons_succ]
    refine Facts.wpAny_one (i := 14) #[true, true, true, true, true, true, true, true, true, true, true, true, true, true, true] rfl (by kernel_rfl) rfl (fun K hK => ?_)
    refine Facts.OpDo.skip (by kernel_rfl) rfl (w1 := (WX.setCell ⟨w.heap.size, 10, none⟩ (.slice T10 x.f3.length d10)).setCell ⟨w.heap.size, 14, none⟩ (.slice T14 x.f7.length d14)) (by go_simp) (hK _ _ ?_)
    clear hK K
    refine Facts.wpAny_done (by kernel_rfl) ?_
    obtain ⟨W3, hW3⟩ : ∃ W3, W3 = (WX.setCell ⟨w.heap.size, 10, none⟩ (.slice T10 x.f3.length d10)).setCell ⟨w.heap.size, 14, none⟩ (.slice T14 x.f7.length d14) := ⟨_, rfl⟩
    rw [← hW3] at HBZ HBZ2 ⊢
    have hbw3 : Below w.heap.size w W3 := by
      rw [hW3]
      exact (hbwX.setCell (p := ⟨w.heap.size, 10, none⟩) (Nat.le_refl _) _).setCell (p := ⟨w.heap.size, 14, none⟩) (Nat.le_refl _) _
    have st : ∀ k, w.heap.size + 2 ≤ k → W3.heap[k]? = W.heap[k]? := fun k hk => by rw [hW3, heap_setCell_other _ _ _ _ (by simp; omega), heap_setCell_other _ _ _ _ (by simp; omega), stX _ (by omega)]
    have E4 : Kd.F k32 W3 (fun k => w.heap.size + 2 ≤ k) T4 x.f1.f1.length x.f1.f1 := Kd.F_step F4 (fun k hk _ => st k hk)
    have E5 : Kd.F (Kd.int .u8) W3 (fun k => w.heap.size + 2 ≤ k) T5 x.f1.f2.length x.f1.f2 := Kd.F_step F5 (fun k hk _ => st k hk)
    have E10 : Kd.F (Kd.int .i64) W3 (fun k => w.heap.size + 2 ≤ k) T10 x.f3.length x.f3 := Kd.F_step F10 (fun k hk _ => st k hk)
    have E14 : Kd.F (Kd.int .u8) W3 (fun k => w.heap.size + 2 ≤ k) T14 x.f7.length x.f7 := Kd.F_step F14 (fun k hk _ => st k hk)
    have hO : OBc W3 (fun k => w.heap.size + 2 ≤ k) (rc x (.slice T4 x.f1.f1.length d4) (.slice T5 x.f1.f2.length d5) (.slice T10 x.f3.length d10) (.slice T14 x.f7.length d14)).toList := ⟨T5, _, d5, T14, _, d14, rfl, rfl, O5.keep (fun k hk _ => st k hk), O14.keep (fun k hk _ => st k hk)⟩
    have hFK := k39_mkF W3 (fun k => w.heap.size + 2 ≤ k) x m4 E4 m5 E5 m10 E10 m14 E14
    obtain ⟨oA, hoA⟩ : ∃ oA, oA = rc x (.slice T4 x.f1.f1.length d4) (.slice T5 x.f1.f2.length d5) (.slice T10 x.f3.length d10) (.slice T14 x.f7.length d14) := ⟨_, rfl⟩
    have hrow : W3.heap[w.heap.size]? = some (.cells oA 39 (0, 0)) := by rw [HBZ.out, hoA]; rfl
    have hFK2 : Kd.FK (k39b (fun k => w.heap.size + 2 ≤ k)) W3 (fun k => w.heap.size + 2 ≤ k) x oA.toList := by rw [hoA]; exact FK_b hFK (fun _ hk => hk) hO
    have hos : oA.size = 15 := by rw [hoA]; rfl
    have hone : (oA.all fun z => z.oneCell') = true := by rw [hoA]; simp [rc, Value.oneCell']
    have hi39 : (Try.prog.info? 39).map (·.size) = some oA.size := by rw [hos]; kernel_rfl
    clear hFK hO O5 O14 hoA E4 E5 E10 E14 st stX hW3 q10 q10f q14 q14f
    have HROW := Aside0.mk hrow
    have HROW2 := Aside0.mk HBZ2.out
    have HI := Aside0.mk hi39
    have HON := Aside0.mk hone
    have HOS := Aside0.mk hos
    have HFK := Aside0.mk hFK2
    have HBW3 := Aside0.mk hbw3
    clear hrow hi39 hone hos hFK2 hbw3
    go_wp2_with (first | ((with_reducible refine gate_dst (N := 15) rfl ?_); refine wpList_load_row rfl 39 _ rfl w.heap.size rfl 39 oA (0, 0) _ HROW.out Try.underlying39 rfl HI.out ?_) | ((with_reducible refine gate_store (p := 2) rfl ?_); refine wpList_store_row rfl 39 _ _ rfl (w.heap.size + 1) oA rfl rfl 39 _ HROW2.out HI.out (by rw [HOS.out]; rfl) HON.out ?_))
    refine bodyPost_ret (v := .agg oA) ?_ rfl ⟨oA.toList, by simp, ?_, ?_⟩
    · exact results_cell_row (by rfl) _ _ (w.heap.size + 1) 39 _ (0, 0) _ rfl (setRow_heap _ _ _ _ _ _ HROW2.out) Try.underlying39 rfl HI.out
    · exact FK_bmono (Kd.FK_mono (Kd.FK_step HFK.out (fun k hk _ => setRow_other _ _ _ _ (by omega))) (fun k hk => by omega)) (fun k hk => by omega)
    · exact Facts.below_setRow HBW3.out (by omega) _
theorem rtwin_any (x : S39) (cs : List Value) (w : World) (hK : k39.K w x cs) (n1 : x.f1.f1.length ≤ 1000000) (n2 : x.f1.f2.length ≤ 1000000) (n3 : x.f3.length ≤ 1000000) (n4 : x.f7.length ≤ 1000000) :
    Calls Try.prog 44 #[.agg cs.toArray] w fun e w' => ∃ cs', e = .returned (.agg cs'.toArray) ∧ Kd.FK k39 w' (fun k => w.heap.size ≤ k) x cs' ∧ Below w.heap.size w w' := by
  refine (rtwinb_any x cs w hK n1 n2 n3 n4).mono ?_
  rintro e w' ⟨cs', he, hf, hb⟩
  exact ⟨cs', he, FK_of_b hf, hb⟩
set_option maxRecDepth 100000 in
set_option maxHeartbeats 2000000 in
theorem rtwinsb_any (A : Option Addr) (c : Nat) (l : List S39) (w : World) (hr : k39.C w A l.length l) (hL : Lites l) (hl : l.length ≤ 1000000) :
    Calls Try.prog 27 #[.slice A l.length c] w fun e w' => ∃ v, e = .returned v ∧ Kd.N (k39b (fun k => w.heap.size ≤ k)) 39 w' w.heap.size (fun k => w.heap.size ≤ k) v l ∧ Below w.heap.size w w' := by
  have HR := Aside0.mk hr
  have HL := Aside0.mk hL
  clear hr hL
  go_enter Try.func27, Try.ntmps27
  go_wp2_with (fail)
  go_loopg [3, 4] l.length (fun g v3 v4 wr => ∃ n : Nat, n ≤ l.length ∧ g + n = l.length ∧ v4 = .int .i64 n ∧ Aside0 (Kd.N (k39b (fun k => w.heap.size ≤ k)) 39 wr w.heap.size (fun k => w.heap.size ≤ k) v3 (l.take n)) ∧ Aside0 (Below w.heap.size w wr))
  case atStart => exact ⟨0, by omega, by omega, rfl, ⟨Kd.N_nil _ _ _ _ _⟩, ⟨Below.refl _ _⟩⟩
  case round =>
  obtain ⟨n, hn, hg, rfl, HN, HB⟩ := hrel
  obtain ⟨A3, c3, rfl, hc3, _⟩ := Kd.N_reads HN.out
  have hlen : (l.take n).length = n := by rw [List.length_take]; omega
  rw [hlen] at HN hc3 ⊢
  by_cases hlt : n < l.length
  · have hlt' : (n : Int) < (l.length : Int) := by omega
    obtain ⟨ad, A4, c4, A5, c5, A10, c10, A14, c14, rfl, q0, q1, q2, q3, q4, q5, q6, q7, q8, q9, q10, q11, q12, q13, q14, l4, g4, l5, g5, l10, g10, l14, g14⟩ := at_T39 (Kd.C_below HR.out HB.out) n (by omega) (by omega)
    have ex : rd_T39 l n = l.getD n z39 := rfl
    have hLx : Lite (rd_T39 l n) := by rw [ex]; exact HL.out.getD n hlt
    have htk : l.take (n + 1) = l.take n ++ [rd_T39 l n] := by
      rw [ex, List.take_succ_eq_append_getElem hlt]; simp [List.getD_eq_getElem?_getD, hlt]
    clear ex
    simp only [Int.toNat_natCast] at q0 q1 q2 q3 q4 q5 q6 q7 q8 q9 q10 q11 q12 q13 q14
    generalize rd_T39 l n = x at *
    have HTK := Aside0.mk htk
    have HLX := Aside0.mk hLx
    have hKx := fun (W : World) (hW : Below wr.heap.size wr W) => k39_mk W x l4 (Kd.C_below g4 hW) l5 (Kd.C_below g5 hW) l10 (Kd.C_below g10 hW) l14 (Kd.C_below g14 hW)
    have HKX := Aside0.mk hKx
    clear htk hLx hKx g4 g5 g10 g14 l4 l5 l10 l14
    have HBA := Aside0.mk (Below.refl wr.heap.size wr)
    have hn3 : (l.take n).length ≤ 1000000 := by rw [List.length_take]; omega
    have HN3 := Aside0.mk hn3
    clear hn3
    go_wp2_with (first | (go_at_call 44; refine (rtwinb_any x _ wr (HKX.out wr HBA.out) HLX.out.1 HLX.out.2.1 HLX.out.2.2.1 HLX.out.2.2.2).mono ?_; rintro e w1 ⟨cs', rfl, hf, hb1⟩; obtain ⟨T4, d4, T5, d5, T10, d10, T14, d14, rfl, _, _, _, _, _, _, _, _⟩ := k39_openF (FK_of_b hf); have HF := Aside0.mk (FK_bmono hf (S' := fun k => w.heap.size ≤ k) (fun k hk => by have h1 := HB.out.size; omega)); have HB1 := Aside0.mk hb1; clear hf hb1) | ((with_reducible refine gate_builtin (b := .append) (xs := #[.tmp 11, .tmp 17]) rfl ?_); at_builtin; refine Kd.N_append (k39b (fun k => w.heap.size ≤ k)) (w0 := w) w.heap.size rfl (.tmp 11) (.tmp 17) 22 39 (.agg #[.int .i64 0, .bool false, .string ⟨#[]⟩, .string ⟨#[]⟩, .slice none 0 0, .slice none 0 0, .bool false, .string ⟨#[]⟩, .int .i64 0, .int .i64 0, .slice none 0 0, .int .i64 0, .int .i64 0, .int .i64 0, .slice none 0 0]) 208 rfl Try.underlying22 info39 rfl (show 0 < 15 by decide) (by omega) (.slice A3 n c3) (l.take n) x _ (fun k => w.heap.size ≤ k) (fun k => wr.heap.size ≤ k) ?s1 rfl HF.out ?s2 ?s3 ?s4 ?s5 ?s6 ?s7 ?_))
    case s1 => rfl
    case s2 =>
      intro k hk
      have h2 := HB.out.size
      have h3 := HN.out
      refine ⟨by omega, fun he => ?_⟩
      have := Kd.N_lt h3 k he.symm
      omega
    case s3 => intro k hk; have h1 := HB.out.size; have h2 := HBA.out.size; have h3 := HB1.out.size; omega
    case s4 => exact Kd.N_below HN.out (HBA.out.trans (HB1.out.mono HBA.out.size))
    case s5 => exact HB.out.trans ((HBA.out.trans (HB1.out.mono HBA.out.size)).mono HB.out.size)
    case s6 => have h1 := HB.out.size; have h2 := HBA.out.size; have h3 := HB1.out.size; omega
    case s7 => have := HN3.out; omega
    intro v2 w2 h1 h2 h3 h4
    have HN2 := Aside0.mk h1
    have HB2 := Aside0.mk h2
    clear h1 h2 h3 h4
    go_wp2_with (fail)
    go_roundg (gk - 1)
    case measure => omega
    case rel => exact ⟨n + 1, by omega, by omega, by go_num, ⟨by rw [HTK.out]; exact HN2.out⟩, HB2⟩
  · have he : n = l.length := by omega
    have HN' : Aside0 (Kd.N (k39b (fun k => w.heap.size ≤ k)) 39 wr w.heap.size (fun k => w.heap.size ≤ k) (.slice A3 n c3) l) := ⟨by have h := HN.out; rw [show l.take n = l from List.take_of_length_le (by omega)] at h; exact h⟩
    have hlt' : ¬ (n : Int) < (l.length : Int) := by omega
    clear he hlen
    go_wp2_with (fail)
    go_ret
    exact ⟨_, rfl, HN'.out, HB.out⟩
theorem rtwins_any (A : Option Addr) (c : Nat) (l : List S39) (w : World) (hr : k39.C w A l.length l) (hL : Lites l) (hl : l.length ≤ 1000000) :
    Calls Try.prog 27 #[.slice A l.length c] w fun e w' => ∃ v, e = .returned v ∧ Kd.N k39 39 w' w.heap.size (fun k => w.heap.size ≤ k) v l ∧ Below w.heap.size w w' := by
  refine (rtwinsb_any A c l w hr hL hl).mono ?_
  rintro e w' ⟨v, he, hN, hb⟩
  exact ⟨v, he, N_of_b hN, hb⟩
end Go.Proofs.Ytbkfdejcmimhgaa
