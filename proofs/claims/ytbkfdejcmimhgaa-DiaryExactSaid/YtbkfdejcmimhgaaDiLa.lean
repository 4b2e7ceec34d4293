/- Ahead of DiaryLimits: arguments, small methods. -/
import Derived.Test.YtbkfdejcmimhgaaProg
import Derived.WalkKit
import Derived.WalkLawsBesides
import Derived.Outline
import Derived.LoopTactic
import Derived.Lib.Hide
import Derived.Deep.QuietTactic
import Derived.BigQuiet
import Derived.Deep.LoopGhost
import Derived.Deep.DeepCutAuto
import Derived.Deep.CutBlock
import Derived.Deep.RegionHeld3
import Derived.Deep.RegionWith
import Derived.Deep.WholeRow
import Derived.Laws.Rows
import Derived.Laws.Tables
import Derived.Laws.ResultCell
import Derived.StillTailTactics
import Derived.Deep.DeepMust
import Derived.IntWalk
import Derived.KernelRfl
import Derived.Test.YtbkfdejcmimhgaaVa
import Derived.RegionTactic
import Derived.Test.YtbkfdejcmimhgaaDiH
import Derived.Test.YtbkfdejcmimhgaaHeavy
namespace Go.Proofs.Ytbkfdejcmimhgaa
open Go.RowKit Go.Proofs.YtbkfdejcmimhgaaW.PrintWords Go.Proofs.Ytbkfdejcmimhgaa.PDiaryExact
set_option linter.unusedVariables false
set_option linter.unusedSimpArgs false
theorem heap32 : Kd.Heap k32 := Kd.heap_iso _ (Kd.heap_pair Kd.heap_bool (Kd.heap_pair Kd.heap_string Kd.heap_string))
theorem heap36 : Kd.Heap k36 := Kd.heap_iso _ (Kd.heap_pair heap32 (Kd.heap_pair (Kd.heap_slice 32 heap32) (Kd.heap_pair (Kd.heap_slice 5 (Kd.heap_int .u8)) (Kd.heap_pair Kd.heap_bool (Kd.heap_pair Kd.heap_string (Kd.heap_int .i64))))))
theorem heap39 : Kd.Heap k39 := Kd.heap_iso _ (Kd.heap_pair (Kd.heap_int .i64) (Kd.heap_pair heap36 (Kd.heap_pair (Kd.heap_int .i64) (Kd.heap_pair (Kd.heap_slice 3 (Kd.heap_int .i64)) (Kd.heap_pair (Kd.heap_int .i64) (Kd.heap_pair (Kd.heap_int .i64) (Kd.heap_pair (Kd.heap_int .i64) (Kd.heap_slice 5 (Kd.heap_int .u8)))))))))
theorem V_of_C {W : World} {A : Option Addr} {c : Nat} {l : List S39} (h : k39.C W A l.length l) (hc : l.length ≤ c) (ok : Nat → Prop) (hok : ∀ k, k < W.heap.size → ok k) : Kd.V k39 39 W W.heap.size ok (.slice A l.length c) l :=
  Kd.V_mk hc (fun W' hW => heap39.C (fun k hk => hW k (hok k hk) hk) h)
theorem heavy_any {W : World} {A : Option Addr} {c : Nat} {l : List S39} (b : Bool) (h : k39.C W A l.length l) (hc : l.length ≤ c) (hb : wherrylaw18_Heavy.f 200 l = some b) : Calls Try.prog 10 #[.slice A l.length c] W fun e w' => e = .returned (.bool b) ∧ Below W.heap.size W w' :=
  wherrylaw18_Heavy.calls 200 (fun _ => True) A c l b W (V_of_C h hc _ (fun _ _ => trivial)) hb
theorem C_one {W : World} {x : S39} {cs : List Value} (hK : k39.K W x cs) : k39.C (W.alloc (.cells cs.toArray 39)) (some ⟨W.heap.size, 0, none⟩) 1 [x] := by
  have hK' := k39.K_below ((Below.refl _ _).alloc (Nat.le_refl _) (.cells cs.toArray 39)) hK
  refine ⟨rfl, by decide, fun _ => ⟨_, rfl, fun j p hp => ?_⟩⟩
  have hj : j = 0 := by
    have := (List.getElem?_eq_some_iff.1 hp).1
    simp at this; exact this
  subst hj
  obtain rfl : x = p := by simpa using hp
  refine ⟨cs, k39.K_len hK, hK', fun i u hu => ?_⟩
  rw [Nat.zero_mul, Nat.zero_add]
  have hu' : cs.toArray[i]? = some u := by simpa using hu
  have := rc_cell (heap_alloc_new W (.cells cs.toArray 39)) i u hu'
  rw [show (⟨W.heap.size, 0, none⟩ : Addr).add i = ⟨W.heap.size, i, none⟩ from by simp [Addr.add]; exact fun e => e.symm]
  exact this
theorem rec_cells {W : World} {b : Nat} {x : S39} {v4 v5 v10 v14 : Value} (h : W.heap[b]? = some (.cells (rc x v4 v5 v10 v14) 39 (0, 0))) : W.cell? ⟨b, 0, none⟩ = some (.int .i64 x.f0) ∧ W.cell? ⟨b, 1, none⟩ = some (.bool x.f1.f0.f0) ∧ W.cell? ⟨b, 2, none⟩ = some (.string x.f1.f0.f1) ∧ W.cell? ⟨b, 3, none⟩ = some (.string x.f1.f0.f2) ∧ W.cell? ⟨b, 4, none⟩ = some v4 ∧ W.cell? ⟨b, 5, none⟩ = some v5 ∧ W.cell? ⟨b, 6, none⟩ = some (.bool x.f1.f3) ∧ W.cell? ⟨b, 7, none⟩ = some (.string x.f1.f4) ∧ W.cell? ⟨b, 8, none⟩ = some (.int .i64 x.f1.f5) ∧ W.cell? ⟨b, 9, none⟩ = some (.int .i64 x.f2) ∧ W.cell? ⟨b, 10, none⟩ = some v10 ∧ W.cell? ⟨b, 11, none⟩ = some (.int .i64 x.f4) ∧ W.cell? ⟨b, 12, none⟩ = some (.int .i64 x.f5) ∧ W.cell? ⟨b, 13, none⟩ = some (.int .i64 x.f6) ∧ W.cell? ⟨b, 14, none⟩ = some v14 :=
  ⟨rc_cell h 0 _ rfl, rc_cell h 1 _ rfl, rc_cell h 2 _ rfl, rc_cell h 3 _ rfl, rc_cell h 4 _ rfl, rc_cell h 5 _ rfl, rc_cell h 6 _ rfl, rc_cell h 7 _ rfl, rc_cell h 8 _ rfl, rc_cell h 9 _ rfl, rc_cell h 10 _ rfl, rc_cell h 11 _ rfl, rc_cell h 12 _ rfl, rc_cell h 13 _ rfl, rc_cell h 14 _ rfl⟩
abbrev recs15 (x : S39) (v4 v5 v10 v14 : Value) : Array Value := #[.int .i64 x.f0, .bool x.f1.f0.f0, .string x.f1.f0.f1, .string x.f1.f0.f2, v4, v5, .bool x.f1.f3, .string x.f1.f4, .int .i64 x.f1.f5, .int .i64 x.f2, v10, .int .i64 x.f4, .int .i64 x.f5, .int .i64 x.f6, v14]
theorem alloc_size (w : World) (o : Obj) : (w.alloc o).heap.size = w.heap.size + 1 := by simp
theorem heavy1_at (w : World) (x : S39) (v4 v5 v10 v14 : Value) (b : Bool) (hK : k39.K w x (recs15 x v4 v5 v10 v14).toList) (hb : wherrylaw18_Heavy.f 200 [x] = some b) : Calls Try.prog 10 #[.slice (some ⟨w.heap.size + 1, 0, none⟩) 1 1] ((w.alloc (.cells (recs15 x v4 v5 v10 v14) 39)).alloc (.cells (recs15 x v4 v5 v10 v14) 39)) fun e w' => e = .returned (.bool b) ∧ Below w.heap.size w w' ∧ w'.heap[w.heap.size]? = some (.cells (rc x v4 v5 v10 v14) 39 (0, 0)) ∧ w.heap.size + 1 ≤ w'.heap.size := by
  have hb1 : Below w.heap.size w (w.alloc (.cells (recs15 x v4 v5 v10 v14) 39)) := (Below.refl _ _).alloc (Nat.le_refl _) _
  have hK1 := k39.K_below hb1 hK
  have hC := C_one hK1
  have hs1 : (w.alloc (.cells (recs15 x v4 v5 v10 v14) 39)).heap.size = w.heap.size + 1 := alloc_size _ _
  rw [hs1] at hC
  have hb2 : Below (w.heap.size + 1) (w.alloc (.cells (recs15 x v4 v5 v10 v14) 39)) ((w.alloc (.cells (recs15 x v4 v5 v10 v14) 39)).alloc (.cells (recs15 x v4 v5 v10 v14) 39)) := (Below.refl _ _).alloc (by rw [hs1]; exact Nat.le_refl _) _
  refine (heavy_any (l := [x]) b hC (Nat.le_refl 1) hb).mono ?_
  rintro e w' ⟨rfl, hb3⟩
  have hb4 := hb2.trans (hb3.mono (by have := hb2.size; rw [hs1] at this; exact this))
  have hb5 := hb1.trans (hb4.mono (Nat.le_succ _))
  refine ⟨rfl, hb5, ?_, by have := hb4.size; rw [hs1] at this; exact this⟩
  refine keep_blk ?_ (hb4.mono (by rw [hs1]; exact Nat.le_refl _))
  exact heap_alloc_new w _
theorem put_new_full (n : Int) (x : S39) (h : n < room x) : (DSt.new n).put x = (8, DSt.new n) := by
  unfold DSt.put
  rw [if_neg (show ¬ (DSt.new n).off = true from fun h => by cases h), if_pos (by have : roomsOf (DSt.new n).recs = 0 := rfl; rw [this]; show n - 0 < room x; omega)]
theorem put_new_fits (n : Int) (x : S39) (h : ¬ n < room x) : (DSt.new n).put x = (0, { DSt.new n with recs := [x] }) := by
  unfold DSt.put
  rw [if_neg (show ¬ (DSt.new n).off = true from fun h => by cases h), if_neg (by have : roomsOf (DSt.new n).recs = 0 := rfl; rw [this]; show ¬ n - 0 < room x; omega)]
  rfl
theorem put_new (n : Int) (x : S39) (r : Int) (hr : r = if n < room x then 8 else 0) : ∃ s', (DSt.new n).put x = (r, s') ∧ s'.off = false ∧ s'.life = 0 := by
  by_cases h : n < room x
  · rw [if_pos h] at hr; subst hr; exact ⟨_, put_new_full n x h, rfl, rfl⟩
  · rw [if_neg h] at hr; subst hr; exact ⟨_, put_new_fits n x h, rfl, rfl⟩
theorem crash_new (n : Int) : (DSt.new n).crash 0 = ⟨n, [], 0, true, 1, 0, 0, 0⟩ := rfl
theorem ok_new (n : Int) : (DSt.new n).Ok := by unfold DSt.Ok DSt.new; simp
theorem armed_new (n : Int) : (DSt.new n).Armed := by unfold DSt.Armed DSt.new; simp
theorem fine_new (n : Int) : Fine (DSt.new n).recs := fun x h => by cases h
theorem doff_at (W : World) (S : Nat → Prop) (g : Nat) (s : DSt) (b : Bool) (hb : s.off = b) (h : Dy W S g s) : Calls Try.prog 24 #[.pointer (some ⟨g, 0, none⟩)] W fun e w' => e = .returned (.bool b) ∧ W = w' := by
  subst hb
  exact doff W S g s h
theorem dlife_at (W : World) (S : Nat → Prop) (g : Nat) (s : DSt) (n : Int) (hn : s.life = n) (h : Dy W S g s) : Calls Try.prog 18 #[.pointer (some ⟨g, 0, none⟩)] W fun e w' => e = .returned (.int .i64 n) ∧ W = w' := by
  subst hn
  exact dlife W S g s h
end Go.Proofs.Ytbkfdejcmimhgaa
