/- A record in memory of its own: package diary's Twin. -/
import Derived.Test.YtbkfdejcmimhgaaProg
import Derived.WalkKit
import Derived.WalkLawsBesides
import Derived.Outline
import Derived.LoopTactic
import Derived.Lib.Hide
import Derived.Deep.QuietTactic
import Derived.BigQuiet
import Derived.Deep.LoopGhost
import Derived.Deep.DeepCutAuto
import Derived.Deep.CutBlock
import Derived.Deep.RegionHeld3
import Derived.Deep.RegionWith
import Derived.Deep.WholeRow
import Derived.Laws.Rows
import Derived.Laws.Tables
import Derived.Laws.ResultCell
import Derived.StillTailTactics
import Derived.Deep.DeepMust
import Derived.IntWalk
import Derived.KernelRfl
import Derived.Test.YtbkfdejcmimhgaaVa
import Derived.RegionTactic
import Derived.Test.YtbkfdejcmimhgaaDiA
import Derived.Test.YtbkfdejcmimhgaaFacts
namespace Go.Proofs.Ytbkfdejcmimhgaa
open Go.RowKit Go.Proofs.YtbkfdejcmimhgaaW.PrintWords Go.Proofs.Ytbkfdejcmimhgaa.PDiaryExact
set_option linter.unusedVariables false
set_option linter.unusedSimpArgs false
/-- A row that is only read, told by its value; what it leads to lies in ok. -/
def Vw {α : Type} (d : Kd α) (ok : Nat → Prop) (W : World) (v : Value) (xs : List α) : Prop := ∃ A c, v = .slice A xs.length c ∧ xs.length ≤ c ∧ Kd.F d W ok A xs.length xs
theorem V_below {α : Type} {d : Kd α} {ok : Nat → Prop} {v : Value} {xs : List α} {w w1 : World} (h : Vw d ok w v xs) (hb : Below w.heap.size w w1) : Vw d ok w1 v xs := by
  obtain ⟨A, c, hv, hl, hf⟩ := h
  exact ⟨A, c, hv, hl, Kd.F_step hf (fun k _ hk => hb.block k hk)⟩
theorem R_new {α : Type} {d : Kd α} {e B B0 : Nat} {v : Value} {xs : List α} {w : World} (h : d.R e w B (fun _ => True) v xs) (hB : B0 ≤ B) : Vw d (fun k => B0 ≤ k) w v xs :=
  Kd.R_V (e := e) (base' := 0) (Kd.R_mono (Kd.R_bound h) (fun k hk => Nat.le_trans hB hk.2.1))
/-- A record's cells. -/
def rc (x : S39) (v4 v5 v10 v14 : Value) : Array Value := #[.int .i64 x.f0, .bool x.f1.f0.f0, .string x.f1.f0.f1, .string x.f1.f0.f2, v4, v5, .bool x.f1.f3, .string x.f1.f4, .int .i64 x.f1.f5, .int .i64 x.f2, v10, .int .i64 x.f4, .int .i64 x.f5, .int .i64 x.f6, v14]
theorem keep_blk {w w' : World} {b : Nat} {o : Obj} (h : w.heap[b]? = some o) (hb : Below w.heap.size w w') : w'.heap[b]? = some o := by
  rw [hb.block b ?_]
  · exact h
  · rcases Nat.lt_or_ge b w.heap.size with h' | h'
    · exact h'
    · rw [Array.getElem?_eq_none h'] at h; cases h
theorem rc_cell {W : World} {b : Nat} {cs : Array Value} {t : TypeId} (h : W.heap[b]? = some (.cells cs t (0, 0))) (j : Nat) (v : Value) (hj : cs[j]? = some v) : W.cell? ⟨b, j, none⟩ = some v := by
  rw [cell_of_row W b _ _ _ _ h]; exact hj
/-- The first n of A are bytes in a row of S. -/
def OBs (W : World) (S : Nat → Prop) (A : Option Addr) (n : Nat) : Prop := n = 0 ∨ ∃ (b : Nat) (cells : Array Value), A = some ⟨b, 0, none⟩ ∧ S b ∧ W.heap[b]? = some (.cells cells 5 (0, 0)) ∧ ∀ j, j < n → ∃ z : Int, cells[j]? = some (.int .u8 z)
theorem OBs.keep {W W1 : World} {S : Nat → Prop} {A : Option Addr} {n : Nat} (h : OBs W S A n) (hk : ∀ k, S k → k < W.heap.size → W1.heap[k]? = W.heap[k]?) : OBs W1 S A n := by
  rcases h with h | ⟨b, cells, e, hS, hh, hc⟩
  · exact .inl h
  · exact .inr ⟨b, cells, e, hS, (hk b hS (Array.getElem?_eq_some_iff.1 hh).1).trans hh, hc⟩
theorem OBs.below {W W1 : World} {S : Nat → Prop} {A : Option Addr} {n : Nat} (h : OBs W S A n) (hb : Below W.heap.size W W1) : OBs W1 S A n := h.keep (fun k _ hlt => hb.block k hlt)
theorem OBs.mono {W : World} {S S' : Nat → Prop} {A : Option Addr} {n : Nat} (h : OBs W S A n) (hs : ∀ k, S k → k < W.heap.size → S' k) : OBs W S' A n := by
  rcases h with h | ⟨b, cells, e, hS, hh, hc⟩
  · exact .inl h
  · exact .inr ⟨b, cells, e, hs b hS (Array.getElem?_eq_some_iff.1 hh).1, hh, hc⟩
/-- A record's cells whose rows of bytes lie so. -/
def OBc (W : World) (S : Nat → Prop) (cs : List Value) : Prop := ∃ A5 n5 c5 A14 n14 c14, cs[5]? = some (.slice A5 n5 c5) ∧ cs[14]? = some (.slice A14 n14 c14) ∧ OBs W S A5 n5 ∧ OBs W S A14 n14
theorem OBc.keep {W W1 : World} {S : Nat → Prop} {cs : List Value} (h : OBc W S cs) (hk : ∀ k, S k → k < W.heap.size → W1.heap[k]? = W.heap[k]?) : OBc W1 S cs := by
  obtain ⟨A5, n5, c5, A14, n14, c14, e5, e14, h5, h14⟩ := h
  exact ⟨A5, n5, c5, A14, n14, c14, e5, e14, h5.keep hk, h14.keep hk⟩
theorem OBc.mono {W : World} {S S' : Nat → Prop} {cs : List Value} (h : OBc W S cs) (hs : ∀ k, S k → S' k) : OBc W S' cs := by
  obtain ⟨A5, n5, c5, A14, n14, c14, e5, e14, h5, h14⟩ := h
  exact ⟨A5, n5, c5, A14, n14, c14, e5, e14, h5.mono (fun k hk _ => hs k hk), h14.mono (fun k hk _ => hs k hk)⟩
/-- Records whose rows of bytes are rows of S: they may be written over. -/
def k39b (S : Nat → Prop) : Kd S39 where
  sz := k39.sz
  E := k39.E
  K := fun W x cs => k39.K W x cs ∧ OBc W S cs
  M := fun _ _ _ _ _ => False
  K_len := fun h => k39.K_len h.1
  K_one := fun h => k39.K_one h.1
  K_below := fun hb h => ⟨k39.K_below hb h.1, h.2.keep (fun k _ hlt => hb.block k hlt)⟩
  K_of_M := fun h => h.elim
  M_mono := fun _ h => h.elim
  M_bound := fun h => h.elim
  M_move := fun _ h => h.elim
  M_lower := fun _ h => h.elim
theorem FK_b {W : World} {S ok : Nat → Prop} {x : S39} {cs : List Value} (h : Kd.FK k39 W ok x cs) (hS : ∀ k, S k → ok k) (hO : OBc W S cs) : Kd.FK (k39b S) W ok x cs := fun W' hW => ⟨h W' hW, hO.keep (fun k hk hlt => hW k (hS k hk) hlt)⟩
theorem FK_bmono {W : World} {S S' ok : Nat → Prop} {x : S39} {cs : List Value} (h : Kd.FK (k39b S) W ok x cs) (hS : ∀ k, S k → S' k) : Kd.FK (k39b S') W ok x cs := fun W' hW => ⟨(h W' hW).1, (h W' hW).2.mono hS⟩
theorem FK_of_b {W : World} {S ok : Nat → Prop} {x : S39} {cs : List Value} (h : Kd.FK (k39b S) W ok x cs) : Kd.FK k39 W ok x cs := fun W' hW => (h W' hW).1
theorem N_of_b {W : World} {S ok : Nat → Prop} {e base : Nat} {v : Value} {xs : List S39} (h : Kd.N (k39b S) e W base ok v xs) : Kd.N k39 e W base ok v xs := by
  obtain ⟨h0, rows, hl, hR, hf⟩ := h
  exact ⟨h0, rows, hl, hR, fun j x c hx hc => FK_of_b (hf j x c hx hc)⟩
/-- A row of bytes of one's own. -/
def Vz (ok : Nat → Prop) (W : World) (v : Value) (xs : List Int) : Prop := ∃ A c, v = .slice A xs.length c ∧ xs.length ≤ c ∧ Kd.F (Kd.int .u8) W ok A xs.length xs ∧ OBs W ok A xs.length
theorem Vz.below {ok : Nat → Prop} {v : Value} {xs : List Int} {w w1 : World} (h : Vz ok w v xs) (hb : Below w.heap.size w w1) : Vz ok w1 v xs := by
  obtain ⟨A, c, hv, hl, hf, ho⟩ := h
  exact ⟨A, c, hv, hl, Kd.F_step hf (fun k _ hk => hb.block k hk), ho.below hb⟩
theorem R_newz {B B0 : Nat} {v : Value} {xs : List Int} {w : World} (h : (Kd.int .u8).R 5 w B (fun _ => True) v xs) (hB : B0 ≤ B) : Vz (fun k => B0 ≤ k) w v xs := by
  obtain ⟨A, c, rfl, hl, hf⟩ := R_new h hB
  refine ⟨A, c, rfl, hl, hf, ?_⟩
  by_cases hp : 0 < xs.length
  · obtain ⟨g, cap, e, hb, hlt, cells, hc⟩ := Kd.R_form h hp
    injection e with e1 e2 e3
    subst e1
    refine .inr ⟨g, cells, rfl, Nat.le_trans hB hb, hc, fun j hj => ?_⟩
    obtain ⟨ad, cs, ea, hl1, hK, hcc⟩ := Kd.C_get (Kd.F_now hf) 0 (j : Int) (by omega) (by omega)
    injection ea with ea
    subst ea
    have hK2 : cs = [Value.int .u8 (xs.getD (j : Int).toNat 0)] := hK
    have := hcc 0 (.int .u8 (xs.getD (j : Int).toNat 0)) (by rw [hK2]; rfl)
    rw [show (⟨g, 0, none⟩ : Addr).add ((j : Int).toNat * (Kd.int .u8).sz + 0) = ⟨g, j, none⟩ from by rw [show (Kd.int .u8).sz = 1 from rfl]; simp [Addr.add]; exact fun e => e.symm, cell_of_row w g _ _ _ _ hc] at this
    exact ⟨_, this⟩
  · exact .inl (by omega)
def Tw1 (B0 b : Nat) (sT sB : Value) (lT : List S32) (lB : List Int) : Nat → Value → World → Prop
  | 0, v, _ => v = .pointer (some ⟨b, 1, none⟩)
  | 1, v, _ => v = .pointer (some ⟨b, 4, none⟩)
  | 2, v, _ => v = sT
  | 3, v, w => Vw k32 (fun k => B0 ≤ k) w v lT
  | 4, v, _ => v = .pointer (some ⟨b, 1, none⟩)
  | 5, v, _ => v = .pointer (some ⟨b, 5, none⟩)
  | 6, v, _ => v = sB
  | 7, v, w => Vz (fun k => B0 ≤ k) w v lB
  | 8, v, _ => v = .pointer (some ⟨b, 1, none⟩)
  | 9, v, _ => v = .pointer (some ⟨b, 4, none⟩)
  | _, _, _ => True
theorem Tw1.stab (B0 b : Nat) (sT sB : Value) (lT : List S32) (lB : List Int) : ∀ i v w1 w2, Tw1 B0 b sT sB lT lB i v w1 → Below w1.heap.size w1 w2 → Tw1 B0 b sT sB lT lB i v w2
  | 0, _, _, _, h, _ => h
  | 1, _, _, _, h, _ => h
  | 2, _, _, _, h, _ => h
  | 3, _, _, _, h, hb => V_below h hb
  | 4, _, _, _, h, _ => h
  | 5, _, _, _, h, _ => h
  | 6, _, _, _, h, _ => h
  | 7, _, _, _, h, hb => Vz.below h hb
  | 8, _, _, _, h, _ => h
  | 9, _, _, _, h, _ => h
  | _ + 10, _, _, _, _, _ => trivial
def Tw2 (B0 b : Nat) (sI sD : Value) (lI lD : List Int) : Nat → Value → World → Prop
  | 0, v, _ => v = .pointer (some ⟨b, 10, none⟩)
  | 1, v, _ => v = sI
  | 2, v, w => Vw (Kd.int .i64) (fun k => B0 ≤ k) w v lI
  | 3, v, _ => v = .pointer (some ⟨b, 14, none⟩)
  | 4, v, _ => v = sD
  | 5, v, w => Vz (fun k => B0 ≤ k) w v lD
  | 6, v, _ => v = .pointer (some ⟨b, 10, none⟩)
  | _, _, _ => True
theorem Tw2.stab (B0 b : Nat) (sI sD : Value) (lI lD : List Int) : ∀ i v w1 w2, Tw2 B0 b sI sD lI lD i v w1 → Below w1.heap.size w1 w2 → Tw2 B0 b sI sD lI lD i v w2
  | 0, _, _, _, h, _ => h
  | 1, _, _, _, h, _ => h
  | 2, _, _, _, h, hb => V_below h hb
  | 3, _, _, _, h, _ => h
  | 4, _, _, _, h, _ => h
  | 5, _, _, _, h, hb => Vz.below h hb
  | 6, _, _, _, h, _ => h
  | _ + 7, _, _, _, _, _ => trivial
set_option maxRecDepth 100000 in
set_option maxHeartbeats 2000000 in
theorem dtwinb_any (x : S39) (cs : List Value) (w : World) (hK : k39.K w x cs) (n1 : x.f1.f1.length ≤ 1000000) (n2 : x.f1.f2.length ≤ 1000000) (n3 : x.f3.length ≤ 1000000) (n4 : x.f7.length ≤ 1000000) :
    Calls Try.prog 39 #[.agg cs.toArray] w fun e w' => ∃ cs', e = .returned (.agg cs'.toArray) ∧ Kd.FK (k39b (fun k => w.heap.size ≤ k)) w' (fun k => w.heap.size ≤ k) x cs' ∧ Below w.heap.size w w' := by
  obtain ⟨A4, c4, A5, c5, A10, c10, A14, c14, rfl, l4, g4, l5, g5, l10, g10, l14, g14⟩ := k39_open hK
  obtain ⟨W1, hW1⟩ : ∃ W1, W1 = (w.alloc (.cells (rc x (.slice A4 x.f1.f1.length c4) (.slice A5 x.f1.f2.length c5) (.slice A10 x.f3.length c10) (.slice A14 x.f7.length c14)) 39)).alloc (.cells (rc z39 (.slice none 0 0) (.slice none 0 0) (.slice none 0 0) (.slice none 0 0)) 39) := ⟨_, rfl⟩
  have hb1 : W1.heap[w.heap.size]? = some (.cells (rc x (.slice A4 x.f1.f1.length c4) (.slice A5 x.f1.f2.length c5) (.slice A10 x.f3.length c10) (.slice A14 x.f7.length c14)) 39 (0, 0)) := by rw [hW1]; exact heap_alloc2_old _ _ _
  have hb2 : W1.heap[w.heap.size + 1]? = some (.cells (rc z39 (.slice none 0 0) (.slice none 0 0) (.slice none 0 0) (.slice none 0 0)) 39 (0, 0)) := by rw [hW1]; exact heap_alloc2_new _ _ _
  have hbw : Below w.heap.size w W1 := by rw [hW1]; exact ((Below.refl _ _).alloc (Nat.le_refl _) _).alloc (by simp) _
  have hsz : w.heap.size + 2 ≤ W1.heap.size := by rw [hW1]; simp
  have G4 := Aside0.mk (Kd.C_below g4 hbw)
  have G5 := Aside0.mk (Kd.C_below g5 hbw)
  have G10 := Aside0.mk (Kd.C_below g10 hbw)
  have G14 := Aside0.mk (Kd.C_below g14 hbw)
  have HB1 := Aside0.mk hb1
  have HB2 := Aside0.mk hb2
  have HBW := Aside0.mk hbw
  have K10 := Aside0.mk g10
  have K14 := Aside0.mk g14
  clear hK g4 g5 g10 g14 hb1 hb2 hbw
  go_enter Try.func39, Try.ntmps39
  go_upto_region 1 with (fail)
  have hst : ∀ Z : World, Z = (w.alloc (.cells #[.int .i64 x.f0, .bool x.f1.f0.f0, .string x.f1.f0.f1, .string x.f1.f0.f2, .slice A4 x.f1.f1.length c4, .slice A5 x.f1.f2.length c5, .bool x.f1.f3, .string x.f1.f4, .int .i64 x.f1.f5, .int .i64 x.f2, .slice A10 x.f3.length c10, .int .i64 x.f4, .int .i64 x.f5, .int .i64 x.f6, .slice A14 x.f7.length c14] 39)).alloc (.cells #[.int .i64 0, .bool false, .string ⟨#[]⟩, .string ⟨#[]⟩, .slice none 0 0, .slice none 0 0, .bool false, .string ⟨#[]⟩, .int .i64 0, .int .i64 0, .slice none 0 0, .int .i64 0, .int .i64 0, .int .i64 0, .slice none 0 0] 39) → Z = W1 := fun Z hZ => by rw [hZ, hW1]; rfl
  rw [hst _ rfl]
  clear hst hW1
  refine Facts.region_any (n := 4 + 10) #[false, false, false, false, false, false, false, false, false, false, false, false, false, false] (by kernel_rfl) rfl (by kernel_rfl) (fun W0 hW0 hB0 => ?_)
  have hB1 : Below W1.heap.size W1 W0 := hB0 _
  clear hW0 hB0
  refine Facts.wpAny_eval [(0, some 3), (1, some 4), (2, some 5), (3, some 6), (4, some 7), (5, some 8), (6, some 9), (7, some 10), (8, some 11), (9, some 12)] _ #[true, true, true, true, true, true, true, true, true, true, false, false, false, false] (by kernel_rfl) 4 _ _ (fun w1 w2 => Below w1.heap.size w1 w2) (Tw1 (w.heap.size + 2) w.heap.size (.slice A4 x.f1.f1.length c4) (.slice A5 x.f1.f2.length c5) x.f1.f1 x.f1.f2) Facts.below_refl Facts.below_tr (Tw1.stab _ _ _ _ _ _) ?hop ?H (fun _ => undef) (by kernel_rfl)
  case hop =>
    intro y hx o ho V W hR hpre K hK
    have hW : Below W1.heap.size W1 W := hB1.trans (hR.mono hB1.size)
    simp only [List.mem_cons, List.not_mem_nil, or_false] at hx
    rcases hx with rfl | rfl | rfl | rfl | rfl | rfl | rfl | rfl | rfl | rfl
    · obtain rfl := Option.some.inj ho
      refine Facts.OpDo.value (by kernel_rfl) rfl (v := (.pointer (some ⟨w.heap.size, 1, none⟩))) (w1 := W) ?_ ?_
      · simp only [Facts.acE, Act.put, List.setIfInBounds_toArray, List.set_cons_zero, List.set_cons_succ]
        go_simp
      · exact hK _ _ rfl (Below.refl _ _)
    · obtain rfl := Option.some.inj ho
      have fp : V 0 = (.pointer (some ⟨w.heap.size, 1, none⟩)) := hpre { on := 0, ground := .data } (by simp) rfl rfl
      refine Facts.OpDo.value (by kernel_rfl) rfl (v := (.pointer (some ⟨w.heap.size, 4, none⟩))) (w1 := W) ?_ ?_
      · simp only [Facts.acE, fp, Act.put, List.setIfInBounds_toArray, List.set_cons_zero, List.set_cons_succ]
        go_simp
      · exact hK _ _ rfl (Below.refl _ _)
    · obtain rfl := Option.some.inj ho
      have fp : V 1 = (.pointer (some ⟨w.heap.size, 4, none⟩)) := hpre { on := 1, ground := .data } (by simp) rfl rfl
      have hc := rc_cell (keep_blk HB1.out hW) 4 (.slice A4 x.f1.f1.length c4) rfl
      refine Facts.OpDo.value (by kernel_rfl) rfl (v := (.slice A4 x.f1.f1.length c4)) (w1 := W) ?_ ?_
      · simp only [Facts.acE, fp, Act.put, List.setIfInBounds_toArray, List.set_cons_zero, List.set_cons_succ]
        go_simp
      · exact hK _ _ rfl (Below.refl _ _)
    · obtain rfl := Option.some.inj ho
      have fp2 : V 2 = (.slice A4 x.f1.f1.length c4) := hpre { on := 2, ground := .data } (by simp) rfl rfl
      refine Facts.OpDo.goes Try.func51 (by kernel_rfl) rfl #[V 2] (by kernel_rfl) rfl rfl (by kernel_rfl) ?_
      rw [fp2]
      refine (cloneP_any A4 c4 x.f1.f1 W (Kd.C_below G4.out hW) n1).mono ?_
      rintro e w' ⟨v, rfl, hr, hb'⟩
      exact ⟨_, rfl, hK _ _ (R_new hr (by have := hW.size; omega)) hb'⟩
    · obtain rfl := Option.some.inj ho
      refine Facts.OpDo.value (by kernel_rfl) rfl (v := (.pointer (some ⟨w.heap.size, 1, none⟩))) (w1 := W) ?_ ?_
      · simp only [Facts.acE, Act.put, List.setIfInBounds_toArray, List.set_cons_zero, List.set_cons_succ]
        go_simp
      · exact hK _ _ rfl (Below.refl _ _)
    · obtain rfl := Option.some.inj ho
      have fp : V 4 = (.pointer (some ⟨w.heap.size, 1, none⟩)) := hpre { on := 4, ground := .data } (by simp) rfl rfl
      refine Facts.OpDo.value (by kernel_rfl) rfl (v := (.pointer (some ⟨w.heap.size, 5, none⟩))) (w1 := W) ?_ ?_
      · simp only [Facts.acE, fp, Act.put, List.setIfInBounds_toArray, List.set_cons_zero, List.set_cons_succ]
        go_simp
      · exact hK _ _ rfl (Below.refl _ _)
    · obtain rfl := Option.some.inj ho
      have fp : V 5 = (.pointer (some ⟨w.heap.size, 5, none⟩)) := hpre { on := 5, ground := .data } (by simp) rfl rfl
      have hc := rc_cell (keep_blk HB1.out hW) 5 (.slice A5 x.f1.f2.length c5) rfl
      refine Facts.OpDo.value (by kernel_rfl) rfl (v := (.slice A5 x.f1.f2.length c5)) (w1 := W) ?_ ?_
      · simp only [Facts.acE, fp, Act.put, List.setIfInBounds_toArray, List.set_cons_zero, List.set_cons_succ]
        go_simp
      · exact hK _ _ rfl (Below.refl _ _)
    · obtain rfl := Option.some.inj ho
      have fp6 : V 6 = (.slice A5 x.f1.f2.length c5) := hpre { on := 6, ground := .data } (by simp) rfl rfl
      refine Facts.OpDo.goes Try.func52 (by kernel_rfl) rfl #[V 6] (by kernel_rfl) rfl rfl (by kernel_rfl) ?_
      rw [fp6]
      refine (cloneB_any A5 c5 x.f1.f2 W (Kd.C_below G5.out hW) n2).mono ?_
      rintro e w' ⟨v, rfl, hr, hb'⟩
      exact ⟨_, rfl, hK _ _ (R_newz hr (by have := hW.size; omega)) hb'⟩
    · obtain rfl := Option.some.inj ho
      refine Facts.OpDo.value (by kernel_rfl) rfl (v := (.pointer (some ⟨w.heap.size, 1, none⟩))) (w1 := W) ?_ ?_
      · simp only [Facts.acE, Act.put, List.setIfInBounds_toArray, List.set_cons_zero, List.set_cons_succ]
        go_simp
      · exact hK _ _ rfl (Below.refl _ _)
    · obtain rfl := Option.some.inj ho
      have fp : V 8 = (.pointer (some ⟨w.heap.size, 1, none⟩)) := hpre { on := 8, ground := .data } (by simp) rfl rfl
      refine Facts.OpDo.value (by kernel_rfl) rfl (v := (.pointer (some ⟨w.heap.size, 4, none⟩))) (w1 := W) ?_ ?_
      · simp only [Facts.acE, fp, Act.put, List.setIfInBounds_toArray, List.set_cons_zero, List.set_cons_succ]
        go_simp
      · exact hK _ _ rfl (Below.refl _ _)
  case H =>
    intro V W hR hΦ
    have f0 := hΦ (0, some 3) (by simp)
    have f1 := hΦ (1, some 4) (by simp)
    have f2 := hΦ (2, some 5) (by simp)
    have f3 := hΦ (3, some 6) (by simp)
    have f4 := hΦ (4, some 7) (by simp)
    have f5 := hΦ (5, some 8) (by simp)
    have f6 := hΦ (6, some 9) (by simp)
    have f7 := hΦ (7, some 10) (by simp)
    have f8 := hΦ (8, some 11) (by simp)
    have f9 := hΦ (9, some 12) (by simp)
    clear hΦ
    simp only [Tw1] at f0 f1 f2 f3 f4 f5 f6 f7 f8 f9
    have hW : Below W1.heap.size W1 W := hB1.trans (hR.mono hB1.size)
    clear hR
    obtain ⟨T4, d4, f3, m4, F4⟩ := f3
    obtain ⟨T5, d5, f7, m5, F5, O5⟩ := f7
    simp only [Facts.acE, f0, f1, f2, f3, f4, f5, f6, f7, f8, f9, Act.put, List.setIfInBounds_toArray, List.set_cons_zero, List.set_cons_succ]
    clear f0 f1 f2 f3 f4 f5 f6 f7 f8 f9 V
    have hbk := keep_blk HB1.out hW
    have hbk2 := keep_blk HB2.out hW
    have q4 := rc_cell hbk 4 (.slice A4 x.f1.f1.length c4) rfl
    have q4f : W.frozen? ⟨w.heap.size, 4, none⟩ = false := frozen_of_row _ _ _ _ _ hbk
    have hbx := heap_setCell_same W w.heap.size 4 _ _ (.slice T4 x.f1.f1.length d4) hbk
    have hbx2 := (heap_setCell_other W ⟨w.heap.size, 4, none⟩ (w.heap.size + 1) (.slice T4 x.f1.f1.length d4) (by simp)).trans hbk2
    have q5 : (W.setCell ⟨w.heap.size, 4, none⟩ (.slice T4 x.f1.f1.length d4)).cell? ⟨w.heap.size, 5, none⟩ = some (.slice A5 x.f1.f2.length c5) := rc_cell hbx 5 _ rfl
    have q5f : (W.setCell ⟨w.heap.size, 4, none⟩ (.slice T4 x.f1.f1.length d4)).frozen? ⟨w.heap.size, 5, none⟩ = false := frozen_of_row _ _ _ _ _ hbx
    have hby := heap_setCell_same _ w.heap.size 5 _ _ (.slice T5 x.f1.f2.length d5) hbx
    have hby2 := (heap_setCell_other (W.setCell ⟨w.heap.size, 4, none⟩ (.slice T4 x.f1.f1.length d4)) ⟨w.heap.size, 5, none⟩ (w.heap.size + 1) (.slice T5 x.f1.f2.length d5) (by simp)).trans hbx2
    have HBY := Aside0.mk hby
    have HBY2 := Aside0.mk hby2
    have M4 := Aside0.mk m4
    have M5 := Aside0.mk m5
    have FF4 := Aside0.mk F4
    have FF5 := Aside0.mk F5
    have OO5 := Aside0.mk O5
    clear hbk hbk2 hbx hbx2 hby hby2 m4 m5 F4 F5 O5
    refine Facts.wpAny_one (i := 10) #[true, true, true, true, true, true, true, true, true, true, true, false, false, false] rfl (by kernel_rfl) rfl (fun K hK => ?_)
    refine Facts.OpDo.skip (by kernel_rfl) rfl (w1 := W.setCell ⟨w.heap.size, 4, none⟩ (.slice T4 x.f1.f1.length d4)) (by go_simp) (hK _ _ ?_)
    clear hK K
    refine Facts.wpAny_one (i := 11) #[true, true, true, true, true, true, true, true, true, true, true, true, false, false] rfl (by kernel_rfl) rfl (fun K hK => ?_)
    refine Facts.OpDo.value (by kernel_rfl) rfl (d := some 13) (v := (.pointer (some ⟨w.heap.size, 1, none⟩))) (w1 := W.setCell ⟨w.heap.size, 4, none⟩ (.slice T4 x.f1.f1.length d4)) (by go_simp) (hK _ _ ?_)
    clear hK K
    simp only [Act.put, List.setIfInBounds_toArray, List.set_cons_zero, List.set_cons_succ]
    refine Facts.wpAny_one (i := 12) #[true, true, true, true, true, true, true, true, true, true, true, true, true, false] rfl (by kernel_rfl) rfl (fun K hK => ?_)
    refine Facts.OpDo.value (by kernel_rfl) rfl (d := some 14) (v := (.pointer (some ⟨w.heap.size, 5, none⟩))) (w1 := W.setCell ⟨w.heap.size, 4, none⟩ (.slice T4 x.f1.f1.length d4)) (by go_simp) (hK _ _ ?_)
    clear hK K
    simp only [Act.put, List.setIfInBounds_toArray, List.set_cons_zero, List.set_cons_succ]
    refine Facts.wpAny_one (i := 13) #[true, true, true, true, true, true, true, true, true, true, true, true, true, true] rfl (by kernel_rfl) rfl (fun K hK => ?_)
    refine Facts.OpDo.skip (by kernel_rfl) rfl (w1 := (W.setCell ⟨w.heap.size, 4, none⟩ (.slice T4 x.f1.f1.length d4)).setCell ⟨w.heap.size, 5, none⟩ (.slice T5 x.f1.f2.length d5)) (by go_simp) (hK _ _ ?_)
    clear hK K
    refine Facts.wpAny_done (by kernel_rfl) ?_
    obtain ⟨W2, hW2⟩ : ∃ W2, W2 = (W.setCell ⟨w.heap.size, 4, none⟩ (.slice T4 x.f1.f1.length d4)).setCell ⟨w.heap.size, 5, none⟩ (.slice T5 x.f1.f2.length d5) := ⟨_, rfl⟩
    rw [← hW2] at HBY HBY2 ⊢
    have hby' : W2.heap[w.heap.size]? = some (.cells (rc x (.slice T4 x.f1.f1.length d4) (.slice T5 x.f1.f2.length d5) (.slice A10 x.f3.length c10) (.slice A14 x.f7.length c14)) 39 (0, 0)) := HBY.out
    clear HBY
    have HBY := Aside0.mk hby'
    clear hby'
    have hbw2 : Below w.heap.size w W2 := by
      rw [hW2]
      exact ((HBW.out.trans (hW.mono (by omega))).setCell (p := ⟨w.heap.size, 4, none⟩) (Nat.le_refl _) _).setCell (p := ⟨w.heap.size, 5, none⟩) (Nat.le_refl _) _
    have E4 : Kd.F k32 W2 (fun k => w.heap.size + 2 ≤ k) T4 x.f1.f1.length x.f1.f1 := Kd.F_step FF4.out (fun k hk _ => by rw [hW2, heap_setCell_other _ _ _ _ (by simp; omega), heap_setCell_other _ _ _ _ (by simp; omega)])
    have E5 : Kd.F (Kd.int .u8) W2 (fun k => w.heap.size + 2 ≤ k) T5 x.f1.f2.length x.f1.f2 := Kd.F_step FF5.out (fun k hk _ => by rw [hW2, heap_setCell_other _ _ _ _ (by simp; omega), heap_setCell_other _ _ _ _ (by simp; omega)])
    have hz2 : w.heap.size + 2 ≤ W2.heap.size := by
      have h1 := hW.size
      rw [hW2]
      simp only [World.setCell, Array.size_modify]
      omega
    have HBW2 := Aside0.mk hbw2
    have EE4 := Aside0.mk E4
    have EE5 := Aside0.mk E5
    have EO5 := Aside0.mk (OO5.out.keep (W1 := W2) (fun k hk _ => by rw [hW2, heap_setCell_other _ _ _ _ (by simp; omega), heap_setCell_other _ _ _ _ (by simp; omega)]))
    clear hW2 q4 q4f q5 q5f E4 E5 hbw2 HB1 HB2 HBW hsz hB1 hW
    go_upto_region 2 with (fail)
    refine Facts.region_any (n := 3 + 7) #[false, false, false, false, false, false, false, false, false, false] (by kernel_rfl) rfl (by kernel_rfl) (fun W0 hW0 hB0 => ?_)
    have hB1 : Below W2.heap.size W2 W0 := hB0 _
    clear hW0 hB0
    refine Facts.wpAny_eval [(0, some 15), (1, some 16), (2, some 17), (3, some 18), (4, some 19), (5, some 20), (6, some 21)] _ #[true, true, true, true, true, true, true, false, false, false] (by kernel_rfl) 3 _ _ (fun w1 w2 => Below w1.heap.size w1 w2) (Tw2 (w.heap.size + 2) w.heap.size (.slice A10 x.f3.length c10) (.slice A14 x.f7.length c14) x.f3 x.f7) Facts.below_refl Facts.below_tr (Tw2.stab _ _ _ _ _ _) ?hop ?H (fun _ => undef) (by kernel_rfl)
    case hop =>
      intro y hx o ho V W hR hpre K hK
      have hW : Below W2.heap.size W2 W := hB1.trans (hR.mono hB1.size)
      simp only [List.mem_cons, List.not_mem_nil, or_false] at hx
      rcases hx with rfl | rfl | rfl | rfl | rfl | rfl | rfl
      · obtain rfl := Option.some.inj ho
        refine Facts.OpDo.value (by kernel_rfl) rfl (v := (.pointer (some ⟨w.heap.size, 10, none⟩))) (w1 := W) ?_ ?_
        · simp only [Facts.acE, Act.put, List.setIfInBounds_toArray, List.set_cons_zero, List.set_cons_succ]
          go_simp
        · exact hK _ _ rfl (Below.refl _ _)
      · obtain rfl := Option.some.inj ho
        have fp : V 0 = (.pointer (some ⟨w.heap.size, 10, none⟩)) := hpre { on := 0, ground := .data } (by simp) rfl rfl
        have hc := rc_cell (keep_blk HBY.out hW) 10 (.slice A10 x.f3.length c10) rfl
        refine Facts.OpDo.value (by kernel_rfl) rfl (v := (.slice A10 x.f3.length c10)) (w1 := W) ?_ ?_
        · simp only [Facts.acE, fp, Act.put, List.setIfInBounds_toArray, List.set_cons_zero, List.set_cons_succ]
          go_simp
        · exact hK _ _ rfl (Below.refl _ _)
      · obtain rfl := Option.some.inj ho
        have fp1 : V 1 = (.slice A10 x.f3.length c10) := hpre { on := 1, ground := .data } (by simp) rfl rfl
        refine Facts.OpDo.goes Try.func53 (by kernel_rfl) rfl #[V 1] (by kernel_rfl) rfl rfl (by kernel_rfl) ?_
        rw [fp1]
        refine (cloneI_any A10 c10 x.f3 W (Kd.C_below K10.out (HBW2.out.trans (hW.mono HBW2.out.size))) n3).mono ?_
        rintro e w' ⟨v, rfl, hr, hb'⟩
        exact ⟨_, rfl, hK _ _ (R_new hr (by have := hW.size; omega)) hb'⟩
      · obtain rfl := Option.some.inj ho
        refine Facts.OpDo.value (by kernel_rfl) rfl (v := (.pointer (some ⟨w.heap.size, 14, none⟩))) (w1 := W) ?_ ?_
        · simp only [Facts.acE, Act.put, List.setIfInBounds_toArray, List.set_cons_zero, List.set_cons_succ]
          go_simp
        · exact hK _ _ rfl (Below.refl _ _)
      · obtain rfl := Option.some.inj ho
        have fp : V 3 = (.pointer (some ⟨w.heap.size, 14, none⟩)) := hpre { on := 3, ground := .data } (by simp) rfl rfl
        have hc := rc_cell (keep_blk HBY.out hW) 14 (.slice A14 x.f7.length c14) rfl
        refine Facts.OpDo.value (by kernel_rfl) rfl (v := (.slice A14 x.f7.length c14)) (w1 := W) ?_ ?_
        · simp only [Facts.acE, fp, Act.put, List.setIfInBounds_toArray, List.set_cons_zero, List.set_cons_succ]
          go_simp
        · exact hK _ _ rfl (Below.refl _ _)
      · obtain rfl := Option.some.inj ho
        have fp4 : V 4 = (.slice A14 x.f7.length c14) := hpre { on := 4, ground := .data } (by simp) rfl rfl
        refine Facts.OpDo.goes Try.func52 (by kernel_rfl) rfl #[V 4] (by kernel_rfl) rfl rfl (by kernel_rfl) ?_
        rw [fp4]
        refine (cloneB_any A14 c14 x.f7 W (Kd.C_below K14.out (HBW2.out.trans (hW.mono HBW2.out.size))) n4).mono ?_
        rintro e w' ⟨v, rfl, hr, hb'⟩
        exact ⟨_, rfl, hK _ _ (R_newz hr (by have := hW.size; omega)) hb'⟩
      · obtain rfl := Option.some.inj ho
        refine Facts.OpDo.value (by kernel_rfl) rfl (v := (.pointer (some ⟨w.heap.size, 10, none⟩))) (w1 := W) ?_ ?_
        · simp only [Facts.acE, Act.put, List.setIfInBounds_toArray, List.set_cons_zero, List.set_cons_succ]
          go_simp
        · exact hK _ _ rfl (Below.refl _ _)
    case H =>
      intro V W hR hΦ
      have f0 := hΦ (0, some 15) (by simp)
      have f1 := hΦ (1, some 16) (by simp)
      have f2 := hΦ (2, some 17) (by simp)
      have f3 := hΦ (3, some 18) (by simp)
      have f4 := hΦ (4, some 19) (by simp)
      have f5 := hΦ (5, some 20) (by simp)
      have f6 := hΦ (6, some 21) (by simp)
      clear hΦ
      simp only [Tw2] at f0 f1 f2 f3 f4 f5 f6
      have hW : Below W2.heap.size W2 W := hB1.trans (hR.mono hB1.size)
      clear hR
      obtain ⟨T10, d10, f2, m10, F10⟩ := f2
      obtain ⟨T14, d14, f5, m14, F14, O14⟩ := f5
      simp only [Facts.acE, f0, f1, f2, f3, f4, f5, f6, Act.put, List.setIfInBounds_toArray, List.set_cons_zero, List.set_cons_succ]
      clear f0 f1 f2 f3 f4 f5 f6 V
      have hbk := keep_blk HBY.out hW
      have hbk2 := keep_blk HBY2.out hW
      have q10 : W.cell? ⟨w.heap.size, 10, none⟩ = some (.slice A10 x.f3.length c10) := rc_cell hbk 10 _ rfl
      have q10f : W.frozen? ⟨w.heap.size, 10, none⟩ = false := frozen_of_row _ _ _ _ _ hbk
      have hbx := heap_setCell_same W w.heap.size 10 _ _ (.slice T10 x.f3.length d10) hbk
      have hbx2 := (heap_setCell_other W ⟨w.heap.size, 10, none⟩ (w.heap.size + 1) (.slice T10 x.f3.length d10) (by simp)).trans hbk2
      have q14 : (W.setCell ⟨w.heap.size, 10, none⟩ (.slice T10 x.f3.length d10)).cell? ⟨w.heap.size, 14, none⟩ = some (.slice A14 x.f7.length c14) := rc_cell hbx 14 _ rfl
      have q14f : (W.setCell ⟨w.heap.size, 10, none⟩ (.slice T10 x.f3.length d10)).frozen? ⟨w.heap.size, 14, none⟩ = false := frozen_of_row _ _ _ _ _ hbx
      have hby := heap_setCell_same _ w.heap.size 14 _ _ (.slice T14 x.f7.length d14) hbx
      have hby2 := (heap_setCell_other (W.setCell ⟨w.heap.size, 10, none⟩ (.slice T10 x.f3.length d10)) ⟨w.heap.size, 14, none⟩ (w.heap.size + 1) (.slice T14 x.f7.length d14) (by simp)).trans hbx2
      clear hbk hbk2 hbx hbx2
      refine Facts.wpAny_one (i := 7) #[true, true, true, true, true, true, true, true, false, false] rfl (by kernel_rfl) rfl (fun K hK => ?_)
      refine Facts.OpDo.skip (by kernel_rfl) rfl (w1 := W.setCell ⟨w.heap.size, 10, none⟩ (.slice T10 x.f3.length d10)) (by go_simp) (hK _ _ ?_)
      clear hK K
      refine Facts.wpAny_one (i := 8) #[true, true, true, true, true, true, true, true, true, false] rfl (by kernel_rfl) rfl (fun K hK => ?_)
      refine Facts.OpDo.value (by kernel_rfl) rfl (d := some 22) (v := (.pointer (some ⟨w.heap.size, 14, none⟩))) (w1 := W.setCell ⟨w.heap.size, 10, none⟩ (.slice T10 x.f3.length d10)) (by go_simp) (hK _ _ ?_)
      clear hK K
      simp only [Act.put, List.setIfInBounds_toArray, List.set_cons_zero, List.set_cons_succ]
      refine Facts.wpAny_one (i := 9) #[true, true, true, true, true, true, true, true, true, true] rfl (by kernel_rfl) rfl (fun K hK => ?_)
      refine Facts.OpDo.skip (by kernel_rfl) rfl (w1 := (W.setCell ⟨w.heap.size, 10, none⟩ (.slice T10 x.f3.length d10)).setCell ⟨w.heap.size, 14, none⟩ (.slice T14 x.f7.length d14)) (by go_simp) (hK _ _ ?_)
      clear hK K
      refine Facts.wpAny_done (by kernel_rfl) ?_
      obtain ⟨W3, hW3⟩ : ∃ W3, W3 = (W.setCell ⟨w.heap.size, 10, none⟩ (.slice T10 x.f3.length d10)).setCell ⟨w.heap.size, 14, none⟩ (.slice T14 x.f7.length d14) := ⟨_, rfl⟩
      rw [← hW3] at hby hby2 ⊢
      have hbw3 : Below w.heap.size w W3 := by
        rw [hW3]
        exact ((HBW2.out.trans (hW.mono HBW2.out.size)).setCell (p := ⟨w.heap.size, 10, none⟩) (Nat.le_refl _) _).setCell (p := ⟨w.heap.size, 14, none⟩) (Nat.le_refl _) _
      have st : ∀ k, w.heap.size + 2 ≤ k → W3.heap[k]? = W.heap[k]? := fun k hk => by rw [hW3, heap_setCell_other _ _ _ _ (by simp; omega), heap_setCell_other _ _ _ _ (by simp; omega)]
      have E4 : Kd.F k32 W3 (fun k => w.heap.size + 2 ≤ k) T4 x.f1.f1.length x.f1.f1 := Kd.F_step EE4.out (fun k hk hlt => (st k hk).trans (hW.block k hlt))
      have E5 : Kd.F (Kd.int .u8) W3 (fun k => w.heap.size + 2 ≤ k) T5 x.f1.f2.length x.f1.f2 := Kd.F_step EE5.out (fun k hk hlt => (st k hk).trans (hW.block k hlt))
      have E10 : Kd.F (Kd.int .i64) W3 (fun k => w.heap.size + 2 ≤ k) T10 x.f3.length x.f3 := Kd.F_step F10 (fun k hk _ => st k hk)
      have E14 : Kd.F (Kd.int .u8) W3 (fun k => w.heap.size + 2 ≤ k) T14 x.f7.length x.f7 := Kd.F_step F14 (fun k hk _ => st k hk)
      have hO : OBc W3 (fun k => w.heap.size + 2 ≤ k) (rc x (.slice T4 x.f1.f1.length d4) (.slice T5 x.f1.f2.length d5) (.slice T10 x.f3.length d10) (.slice T14 x.f7.length d14)).toList := ⟨T5, _, d5, T14, _, d14, rfl, rfl, EO5.out.keep (fun k hk hlt => (st k hk).trans (hW.block k hlt)), O14.keep (fun k hk _ => st k hk)⟩
      have hFK := k39_mkF W3 (fun k => w.heap.size + 2 ≤ k) x M4.out E4 M5.out E5 m10 E10 m14 E14
      obtain ⟨oA, hoA⟩ : ∃ oA, oA = rc x (.slice T4 x.f1.f1.length d4) (.slice T5 x.f1.f2.length d5) (.slice T10 x.f3.length d10) (.slice T14 x.f7.length d14) := ⟨_, rfl⟩
      have hrow : W3.heap[w.heap.size]? = some (.cells oA 39 (0, 0)) := by rw [hby, hoA]; rfl
      have hFK2 : Kd.FK (k39b (fun k => w.heap.size + 2 ≤ k)) W3 (fun k => w.heap.size + 2 ≤ k) x oA.toList := by rw [hoA]; exact FK_b hFK (fun _ hk => hk) hO
      have hos : oA.size = 15 := by rw [hoA]; rfl
      have hone : (oA.all fun z => z.oneCell') = true := by rw [hoA]; simp [rc, Value.oneCell']
      have hi39 : (Try.prog.info? 39).map (·.size) = some oA.size := by rw [hos]; kernel_rfl
      clear hby hFK hO O14 hoA E4 E5 E10 E14 st hW3 q10 q10f q14 q14f
      have HROW := Aside0.mk hrow
      have HROW2 := Aside0.mk hby2
      have HI := Aside0.mk hi39
      have HON := Aside0.mk hone
      have HOS := Aside0.mk hos
      have HFK := Aside0.mk hFK2
      have HBW3 := Aside0.mk hbw3
      clear hrow hby2 hi39 hone hos hFK2 hbw3
      go_wp2_with (first | ((with_reducible refine gate_dst (N := 23) rfl ?_); refine wpList_load_row rfl 39 _ rfl w.heap.size rfl 39 oA (0, 0) _ HROW.out Try.underlying39 rfl HI.out ?_) | ((with_reducible refine gate_store (p := 2) rfl ?_); refine wpList_store_row rfl 39 _ _ rfl (w.heap.size + 1) oA rfl rfl 39 _ HROW2.out HI.out (by rw [HOS.out]; rfl) HON.out ?_))
      refine bodyPost_ret (v := .agg oA) ?_ rfl ⟨oA.toList, by simp, ?_, ?_⟩
      · exact results_cell_row (by rfl) _ _ (w.heap.size + 1) 39 _ (0, 0) _ rfl (setRow_heap _ _ _ _ _ _ HROW2.out) Try.underlying39 rfl HI.out
      · exact FK_bmono (Kd.FK_mono (Kd.FK_step HFK.out (fun k hk _ => setRow_other _ _ _ _ (by omega))) (fun k hk => by omega)) (fun k hk => by omega)
      · exact Facts.below_setRow HBW3.out (by omega) _
theorem dtwin_any (x : S39) (cs : List Value) (w : World) (hK : k39.K w x cs) (n1 : x.f1.f1.length ≤ 1000000) (n2 : x.f1.f2.length ≤ 1000000) (n3 : x.f3.length ≤ 1000000) (n4 : x.f7.length ≤ 1000000) :
    Calls Try.prog 39 #[.agg cs.toArray] w fun e w' => ∃ cs', e = .returned (.agg cs'.toArray) ∧ Kd.FK k39 w' (fun k => w.heap.size ≤ k) x cs' ∧ Below w.heap.size w w' := by
  refine (dtwinb_any x cs w hK n1 n2 n3 n4).mono ?_
  rintro e w' ⟨cs', he, hf, hb⟩
  exact ⟨cs', he, FK_of_b hf, hb⟩
end Go.Proofs.Ytbkfdejcmimhgaa
