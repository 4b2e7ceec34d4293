/- The walk of DiaryLimits. -/
import Derived.Test.YtbkfdejcmimhgaaProg
import Derived.WalkKit
import Derived.WalkLawsBesides
import Derived.Outline
import Derived.LoopTactic
import Derived.Lib.Hide
import Derived.Deep.QuietTactic
import Derived.BigQuiet
import Derived.Deep.LoopGhost
import Derived.Deep.DeepCutAuto
import Derived.Deep.CutBlock
import Derived.Deep.RegionHeld3
import Derived.Deep.RegionWith
import Derived.Deep.WholeRow
import Derived.Laws.Rows
import Derived.Laws.Tables
import Derived.Laws.ResultCell
import Derived.StillTailTactics
import Derived.Deep.DeepMust
import Derived.IntWalk
import Derived.KernelRfl
import Derived.Test.YtbkfdejcmimhgaaWWords
import Derived.Test.YtbkfdejcmimhgaaWLast
import Derived.Test.YtbkfdejcmimhgaaWMore
import Derived.RegionTactic
import Derived.Test.YtbkfdejcmimhgaaDiH
import Derived.Test.YtbkfdejcmimhgaaHeavy
namespace Go.Proofs.Ytbkfdejcmimhgaa
open Go.RowKit Go.Proofs.YtbkfdejcmimhgaaW.PrintWords Go.Proofs.Ytbkfdejcmimhgaa.PDiaryExact
set_option linter.unusedVariables false
set_option linter.unusedSimpArgs false
theorem heap32 : Kd.Heap k32 := Kd.heap_iso _ (Kd.heap_pair Kd.heap_bool (Kd.heap_pair Kd.heap_string Kd.heap_string))
theorem heap36 : Kd.Heap k36 := Kd.heap_iso _ (Kd.heap_pair heap32 (Kd.heap_pair (Kd.heap_slice 32 heap32) (Kd.heap_pair (Kd.heap_slice 5 (Kd.heap_int .u8)) (Kd.heap_pair Kd.heap_bool (Kd.heap_pair Kd.heap_string (Kd.heap_int .i64))))))
theorem heap39 : Kd.Heap k39 := Kd.heap_iso _ (Kd.heap_pair (Kd.heap_int .i64) (Kd.heap_pair heap36 (Kd.heap_pair (Kd.heap_int .i64) (Kd.heap_pair (Kd.heap_slice 3 (Kd.heap_int .i64)) (Kd.heap_pair (Kd.heap_int .i64) (Kd.heap_pair (Kd.heap_int .i64) (Kd.heap_pair (Kd.heap_int .i64) (Kd.heap_slice 5 (Kd.heap_int .u8)))))))))
theorem V_of_C {W : World} {A : Option Addr} {c : Nat} {l : List S39} (h : k39.C W A l.length l) (hc : l.length ≤ c) (ok : Nat → Prop) (hok : ∀ k, k < W.heap.size → ok k) : Kd.V k39 39 W W.heap.size ok (.slice A l.length c) l :=
  Kd.V_mk hc (fun W' hW => heap39.C (fun k hk => hW k (hok k hk) hk) h)
theorem heavy_any {W : World} {A : Option Addr} {c : Nat} {l : List S39} (b : Bool) (h : k39.C W A l.length l) (hc : l.length ≤ c) (hb : wherrylaw18_Heavy.f 200 l = some b) : Calls Try.prog 10 #[.slice A l.length c] W fun e w' => e = .returned (.bool b) ∧ Below W.heap.size W w' :=
  wherrylaw18_Heavy.calls 200 (fun _ => True) A c l b W (V_of_C h hc _ (fun _ _ => trivial)) hb
theorem C_one {W : World} {x : S39} {cs : List Value} (hK : k39.K W x cs) : k39.C (W.alloc (.cells cs.toArray 39)) (some ⟨W.heap.size, 0, none⟩) 1 [x] := by
  have hK' := k39.K_below ((Below.refl _ _).alloc (Nat.le_refl _) (.cells cs.toArray 39)) hK
  refine ⟨rfl, by decide, fun _ => ⟨_, rfl, fun j p hp => ?_⟩⟩
  have hj : j = 0 := by
    have := (List.getElem?_eq_some_iff.1 hp).1
    simp at this; exact this
  subst hj
  obtain rfl : x = p := by simpa using hp
  refine ⟨cs, k39.K_len hK, hK', fun i u hu => ?_⟩
  rw [Nat.zero_mul, Nat.zero_add]
  have hu' : cs.toArray[i]? = some u := by simpa using hu
  have := rc_cell (heap_alloc_new W (.cells cs.toArray 39)) i u hu'
  rw [show (⟨W.heap.size, 0, none⟩ : Addr).add i = ⟨W.heap.size, i, none⟩ from by simp [Addr.add]; exact fun e => e.symm]
  exact this
theorem rec_cells {W : World} {b : Nat} {x : S39} {v4 v5 v10 v14 : Value} (h : W.heap[b]? = some (.cells (rc x v4 v5 v10 v14) 39 (0, 0))) : W.cell? ⟨b, 0, none⟩ = some (.int .i64 x.f0) ∧ W.cell? ⟨b, 1, none⟩ = some (.bool x.f1.f0.f0) ∧ W.cell? ⟨b, 2, none⟩ = some (.string x.f1.f0.f1) ∧ W.cell? ⟨b, 3, none⟩ = some (.string x.f1.f0.f2) ∧ W.cell? ⟨b, 4, none⟩ = some v4 ∧ W.cell? ⟨b, 5, none⟩ = some v5 ∧ W.cell? ⟨b, 6, none⟩ = some (.bool x.f1.f3) ∧ W.cell? ⟨b, 7, none⟩ = some (.string x.f1.f4) ∧ W.cell? ⟨b, 8, none⟩ = some (.int .i64 x.f1.f5) ∧ W.cell? ⟨b, 9, none⟩ = some (.int .i64 x.f2) ∧ W.cell? ⟨b, 10, none⟩ = some v10 ∧ W.cell? ⟨b, 11, none⟩ = some (.int .i64 x.f4) ∧ W.cell? ⟨b, 12, none⟩ = some (.int .i64 x.f5) ∧ W.cell? ⟨b, 13, none⟩ = some (.int .i64 x.f6) ∧ W.cell? ⟨b, 14, none⟩ = some v14 :=
  ⟨rc_cell h 0 _ rfl, rc_cell h 1 _ rfl, rc_cell h 2 _ rfl, rc_cell h 3 _ rfl, rc_cell h 4 _ rfl, rc_cell h 5 _ rfl, rc_cell h 6 _ rfl, rc_cell h 7 _ rfl, rc_cell h 8 _ rfl, rc_cell h 9 _ rfl, rc_cell h 10 _ rfl, rc_cell h 11 _ rfl, rc_cell h 12 _ rfl, rc_cell h 13 _ rfl, rc_cell h 14 _ rfl⟩
abbrev recs15 (x : S39) (v4 v5 v10 v14 : Value) : Array Value := #[.int .i64 x.f0, .bool x.f1.f0.f0, .string x.f1.f0.f1, .string x.f1.f0.f2, v4, v5, .bool x.f1.f3, .string x.f1.f4, .int .i64 x.f1.f5, .int .i64 x.f2, v10, .int .i64 x.f4, .int .i64 x.f5, .int .i64 x.f6, v14]
theorem alloc_size (w : World) (o : Obj) : (w.alloc o).heap.size = w.heap.size + 1 := by simp
theorem heavy1_at (w : World) (x : S39) (v4 v5 v10 v14 : Value) (b : Bool) (hK : k39.K w x (recs15 x v4 v5 v10 v14).toList) (hb : wherrylaw18_Heavy.f 200 [x] = some b) : Calls Try.prog 10 #[.slice (some ⟨w.heap.size + 1, 0, none⟩) 1 1] ((w.alloc (.cells (recs15 x v4 v5 v10 v14) 39)).alloc (.cells (recs15 x v4 v5 v10 v14) 39)) fun e w' => e = .returned (.bool b) ∧ Below w.heap.size w w' ∧ w'.heap[w.heap.size]? = some (.cells (rc x v4 v5 v10 v14) 39 (0, 0)) ∧ w.heap.size + 1 ≤ w'.heap.size := by
  have hb1 : Below w.heap.size w (w.alloc (.cells (recs15 x v4 v5 v10 v14) 39)) := (Below.refl _ _).alloc (Nat.le_refl _) _
  have hK1 := k39.K_below hb1 hK
  have hC := C_one hK1
  have hs1 : (w.alloc (.cells (recs15 x v4 v5 v10 v14) 39)).heap.size = w.heap.size + 1 := alloc_size _ _
  rw [hs1] at hC
  have hb2 : Below (w.heap.size + 1) (w.alloc (.cells (recs15 x v4 v5 v10 v14) 39)) ((w.alloc (.cells (recs15 x v4 v5 v10 v14) 39)).alloc (.cells (recs15 x v4 v5 v10 v14) 39)) := (Below.refl _ _).alloc (by rw [hs1]; exact Nat.le_refl _) _
  refine (heavy_any (l := [x]) b hC (Nat.le_refl 1) hb).mono ?_
  rintro e w' ⟨rfl, hb3⟩
  have hb4 := hb2.trans (hb3.mono (by have := hb2.size; rw [hs1] at this; exact this))
  have hb5 := hb1.trans (hb4.mono (Nat.le_succ _))
  refine ⟨rfl, hb5, ?_, by have := hb4.size; rw [hs1] at this; exact this⟩
  refine keep_blk ?_ (hb4.mono (by rw [hs1]; exact Nat.le_refl _))
  exact heap_alloc_new w _
theorem put_new_full (n : Int) (x : S39) (h : n < room x) : (DSt.new n).put x = (8, DSt.new n) := by
  unfold DSt.put
  rw [if_neg (show ¬ (DSt.new n).off = true from fun h => by cases h), if_pos (by have : roomsOf (DSt.new n).recs = 0 := rfl; rw [this]; show n - 0 < room x; omega)]
theorem put_new_fits (n : Int) (x : S39) (h : ¬ n < room x) : (DSt.new n).put x = (0, { DSt.new n with recs := [x] }) := by
  unfold DSt.put
  rw [if_neg (show ¬ (DSt.new n).off = true from fun h => by cases h), if_neg (by have : roomsOf (DSt.new n).recs = 0 := rfl; rw [this]; show ¬ n - 0 < room x; omega)]
  rfl
theorem put_new (n : Int) (x : S39) (r : Int) (hr : r = if n < room x then 8 else 0) : ∃ s', (DSt.new n).put x = (r, s') ∧ s'.off = false ∧ s'.life = 0 := by
  by_cases h : n < room x
  · rw [if_pos h] at hr; subst hr; exact ⟨_, put_new_full n x h, rfl, rfl⟩
  · rw [if_neg h] at hr; subst hr; exact ⟨_, put_new_fits n x h, rfl, rfl⟩
theorem crash_new (n : Int) : (DSt.new n).crash 0 = ⟨n, [], 0, true, 1, 0, 0, 0⟩ := rfl
theorem ok_new (n : Int) : (DSt.new n).Ok := by unfold DSt.Ok DSt.new; simp
theorem armed_new (n : Int) : (DSt.new n).Armed := by unfold DSt.Armed DSt.new; simp
theorem fine_new (n : Int) : Fine (DSt.new n).recs := fun x h => by cases h
theorem doff_at (W : World) (S : Nat → Prop) (g : Nat) (s : DSt) (b : Bool) (hb : s.off = b) (h : Dy W S g s) : Calls Try.prog 24 #[.pointer (some ⟨g, 0, none⟩)] W fun e w' => e = .returned (.bool b) ∧ W = w' := by
  subst hb
  exact doff W S g s h
theorem dlife_at (W : World) (S : Nat → Prop) (g : Nat) (s : DSt) (n : Int) (hn : s.life = n) (h : Dy W S g s) : Calls Try.prog 18 #[.pointer (some ⟨g, 0, none⟩)] W fun e w' => e = .returned (.int .i64 n) ∧ W = w' := by
  subst hn
  exact dlife W S g s h
/-- The first of two diaries takes a record. -/
theorem two_put (n : Int) (x : S39) (r : Int) (s' : DSt) (w w3 w4 w5 : World) (v4 v5 v10 v14 : Value) (g1 g2 : Nat) (hput : (DSt.new n).put x = (r, s')) (hK : k39.K w x (recs15 x v4 v5 v10 v14).toList) (hs : Small x) (h1 : 1 ≤ n) (h2 : n ≤ 131072) (hg1 : g1 = w3.heap.size) (hg2 : g2 = w4.heap.size) (G3 : Below w.heap.size w w3) (Z3 : w.heap.size + 1 ≤ w3.heap.size) (B3 : w3.heap[w.heap.size]? = some (.cells (rc x v4 v5 v10 v14) 39 (0, 0))) (D4 : Dy w4 (fun k => k = w3.heap.size) w3.heap.size (DSt.new n)) (G4 : Below w3.heap.size w3 w4) (D5 : Dy w5 (fun k => k = w4.heap.size) w4.heap.size (DSt.new n)) (G5 : Below w4.heap.size w4 w5) :
    Calls Try.prog 13 #[.pointer (some ⟨g1, 0, none⟩), .agg (recs15 x v4 v5 v10 v14)] w5 fun e w6 => e = .returned (.int .i64 r) ∧ Dy w6 (fun k => k = g1 ∨ w5.heap.size ≤ k) g1 s' ∧ (Dy w6 (fun k => k = g2) g2 (DSt.new n) ∧ g1 < g2 ∧ g2 < w5.heap.size ∧ w5.heap.size ≤ w6.heap.size) ∧ Below w.heap.size w w6 ∧ w6.heap[w.heap.size]? = some (.cells (rc x v4 v5 v10 v14) 39 (0, 0)) ∧ k39.K w6 x (recs15 x v4 v5 v10 v14).toList := by
  subst hg1
  subst hg2
  have l1 : w3.heap.size < w4.heap.size := D4.lt
  have l2 : w4.heap.size < w5.heap.size := D5.lt
  have b5 : Below w.heap.size w w5 := (G3.trans (G4.mono G3.size)).trans (G5.mono (Nat.le_trans G3.size (Nat.le_of_lt l1)))
  have K5 := k39.K_below b5 hK
  have hd := dput w5 (fun k => k = w3.heap.size) w3.heap.size (DSt.new n) x (recs15 x v4 v5 v10 v14).toList (D4.below G5) (fun k hk => by omega) K5 hs.lite hs.helo (ok_new n) (by show 0 < 1000000; decide) (fine_new n) (armed_new n) (by show 0 ≤ n; omega) (by show n ≤ 1000000; omega)
  rw [hput] at hd
  refine hd.mono ?_
  rintro e w6 ⟨rfl, hD, hC⟩
  have b6 : Below w.heap.size w w6 := b5.trans (hC.below _ b5.size (fun k hk hs => by omega))
  refine ⟨rfl, hD, ⟨D5.ch hC (fun k hk => by omega), l1, l2, hC.1.size⟩, b6, ?_, k39.K_below b6 hK⟩
  rw [hC.2.2 _ (by omega) (by omega)]
  exact keep_blk (keep_blk B3 G4) G5
/-- The second one crashes. -/
theorem two_crash (n : Int) (s' : DSt) (w6 w7 w : World) (g1 g2 : Nat) {N3 N5 : Nat} (hB : w.heap.size ≤ N3) (hg1 : N3 ≤ g1) (D6 : Dy w6 (fun k => k = g1 ∨ N5 ≤ k) g1 s') (E6 : Dy w6 (fun k => k = g2) g2 (DSt.new n) ∧ g1 < g2 ∧ g2 < N5 ∧ N5 ≤ w6.heap.size) (G7 : Below w6.heap.size w6 w7) (G6 : Below w.heap.size w w6) :
    Calls Try.prog 22 #[.pointer (some ⟨g2, 0, none⟩), .int .i64 0] w7 fun e w8 => (∃ v, e = .returned v) ∧ Dy w8 (fun k => k = g1 ∨ N5 ≤ k) g1 s' ∧ Dy w8 (fun k => k = g2) g2 ⟨n, [], 0, true, 1, 0, 0, 0⟩ ∧ Below w.heap.size w w8 := by
  obtain ⟨E6, l1, l2, l3⟩ := E6
  refine (dcrash w7 (fun k => k = g2) g2 (DSt.new n) 0 (E6.below G7) (ok_new n)).mono ?_
  rintro e w8 ⟨hv, hD, hC⟩
  have b7 : Below w.heap.size w w7 := G6.trans (G7.mono G6.size)
  exact ⟨hv, (D6.below G7).ch hC (fun k hk => by omega), hD, b7.trans (hC.below _ b7.size (fun k hk hs => by omega))⟩
set_option maxRecDepth 100000 in
set_option maxHeartbeats 8000000 in
theorem limits_any0 (n : Int) (x : S39) (cs : Array Value) (hG : Ok39 x) (w : World) (hK : k39.K w x cs.toList) : Calls Try.prog 4 #[.int .i64 n, .agg cs] w fun e w' => e = .returned (.bool true) ∧ Below w.heap.size w w' := by
  obtain ⟨b, hb, hs⟩ := h18 [x] (fun z hz => by obtain rfl : z = x := by simpa using hz
                                                exact hG)
  have HB := Aside0.mk hb
  obtain ⟨A4, c4, A5, c5, A10, c10, A14, c14, hcs, hrest⟩ := k39_open hK
  have hcs2 : cs = rc x (.slice A4 x.f1.f1.length c4) (.slice A5 x.f1.f2.length c5) (.slice A10 x.f3.length c10) (.slice A14 x.f7.length c14) := by
    rw [← Array.toArray_toList (xs := cs), hcs]
    rfl
  subst hcs2
  have HK := Aside0.mk hK
  clear hb hK hG hcs hrest
  generalize (Value.slice A4 x.f1.f1.length c4) = v4 at HK ⊢
  generalize (Value.slice A5 x.f1.f2.length c5) = v5 at HK ⊢
  generalize (Value.slice A10 x.f3.length c10) = v10 at HK ⊢
  generalize (Value.slice A14 x.f7.length c14) = v14 at HK ⊢
  clear A4 c4 A5 c5 A10 c10 A14 c14
  unfold rc
  cases b with
  | true =>
    clear hs
    go_enter Try.func4, Try.ntmps4
    go_wp2_with (first | (go_at_call 10; refine (heavy1_at w x v4 v5 v10 v14 true HK.out HB.out).mono ?_; rintro e w3 ⟨rfl, h1, h2, h3⟩; have G3 := Aside0.mk h1; clear h1 h2 h3))
    go_ret
    exact ⟨rfl, G3.out⟩
  | false =>
    have HS := Aside0.mk ((hs rfl).2 x (by simp))
    clear hs
    by_cases hn : n < 1 ∨ 131072 < n
    · have HN := Aside0.mk hn
      by_cases h1 : n < 1
      · clear hn
        go_enter Try.func4, Try.ntmps4
        go_wp2_with (first | (go_at_call 10; refine (heavy1_at w x v4 v5 v10 v14 false HK.out HB.out).mono ?_; rintro e w3 ⟨rfl, h1, h2, h3⟩; have G3 := Aside0.mk h1; clear h1 h2 h3) | (go_at_call 11; refine (dnew_no n HN.out w3).mono ?_; rintro e w4 ⟨rfl, rfl⟩) | (go_at_call 14; refine (wakesD_any w3).mono ?_; rintro e w4 ⟨rfl, h4⟩; have G4 := Aside0.mk h4; clear h4))
        go_ret
        exact ⟨rfl, G3.out.trans (G4.out.mono G3.out.size)⟩
      · have h2 : 131072 < n := by omega
        clear hn
        go_enter Try.func4, Try.ntmps4
        go_wp2_with (first | (go_at_call 10; refine (heavy1_at w x v4 v5 v10 v14 false HK.out HB.out).mono ?_; rintro e w3 ⟨rfl, h1, h2, h3⟩; have G3 := Aside0.mk h1; clear h1 h2 h3) | (go_at_call 11; refine (dnew_no n HN.out w3).mono ?_; rintro e w4 ⟨rfl, rfl⟩) | (go_at_call 14; refine (wakesD_any w3).mono ?_; rintro e w4 ⟨rfl, h4⟩; have G4 := Aside0.mk h4; clear h4))
        go_ret
        exact ⟨rfl, G3.out.trans (G4.out.mono G3.out.size)⟩
    · have h1 : ¬ n < 1 := by omega
      have h2 : ¬ 131072 < n := by omega
      have HN1 := Aside0.mk (show 1 ≤ n by omega)
      have HN2 := Aside0.mk (show n ≤ 131072 by omega)
      obtain ⟨rm, hrm⟩ : ∃ rm, room x = rm := ⟨_, rfl⟩
      have HRM := Aside0.mk hrm.symm
      clear hn
      by_cases hgt : n < rm
      ·
        obtain ⟨s', hput, hoff, hlife⟩ := put_new n x 8 (by rw [if_pos (by rw [← HRM.out]; exact hgt)])
        have HPUT := Aside0.mk hput
        have HOFF := Aside0.mk hoff
        have HLIFE := Aside0.mk hlife
        clear hput hoff hlife hrm
        go_enter Try.func4, Try.ntmps4
        go_wp2_with (first
          | (go_at_call 10; refine (heavy1_at w x v4 v5 v10 v14 false HK.out HB.out).mono ?_; rintro e w3 ⟨rfl, h1, h2, h3⟩; have G3 := Aside0.mk h1; have B3 := Aside0.mk h2; have Z3 := Aside0.mk h3; clear h1 h2 h3)
          | (go_at_call 11; refine (dnew_yes n HN1.out HN2.out w3).mono ?_; rintro e w4 ⟨rfl, h1, h2⟩; have D4 := Aside0.mk h1; have G4 := Aside0.mk h2; obtain ⟨g1, hg1⟩ : ∃ g1, g1 = w3.heap.size := ⟨_, rfl⟩; have HG1 := Aside0.mk hg1; rw [← hg1]; clear h1 h2 hg1)
          | (go_at_call 11; refine (dnew_yes n HN1.out HN2.out w4).mono ?_; rintro e w5 ⟨rfl, h1, h2⟩; have D5 := Aside0.mk h1; have G5 := Aside0.mk h2; obtain ⟨g2, hg2⟩ : ∃ g2, g2 = w4.heap.size := ⟨_, rfl⟩; have HG2 := Aside0.mk hg2; rw [← hg2]; clear h1 h2 hg2; obtain ⟨k0, k1, k2, k3, k4, k5, k6, k7, k8, k9, k10, k11, k12, k13, k14⟩ := rec_cells (keep_blk (keep_blk B3.out G4.out) G5.out))
          | (go_at_call 13; refine (two_put n x 8 s' w w3 w4 w5 v4 v5 v10 v14 g1 g2 HPUT.out HK.out HS.out HN1.out HN2.out HG1.out HG2.out G3.out Z3.out B3.out D4.out G4.out D5.out G5.out).mono ?_; rintro e w6 ⟨rfl, h1, h2, h3, h4, h5⟩; have D6 := Aside0.mk h1; have E6 := Aside0.mk h2; have G6 := Aside0.mk h3; have K6 := Aside0.mk h5; obtain ⟨j0, j1, j2, j3, j4, j5, j6, j7, j8, j9, j10, j11, j12, j13, j14⟩ := rec_cells h4; clear k0 k1 k2 k3 k4 k5 k6 k7 k8 k9 k10 k11 k12 k13 k14 h1 h2 h3 h4 h5)
          | (go_at_call 21; refine (droom_at x (recs15 x v4 v5 v10 v14).toList rm w6 HRM.out K6.out HS.out.lite HS.out.helo).mono ?_; rintro e w7 ⟨rfl, h1⟩; have G7 := Aside0.mk h1; clear j0 j1 j2 j3 j4 j5 j6 j7 j8 j9 j10 j11 j12 j13 j14 h1)
          | (go_at_call 22; refine (two_crash n s' w6 w7 w g1 g2 (G3.out.size) (HG1.out ▸ Nat.le_refl _) D6.out E6.out G7.out G6.out).mono ?_; rintro e w8 ⟨⟨v8, rfl⟩, h1, h2, h3⟩; have D8 := Aside0.mk h1; have E8 := Aside0.mk h2; have G8 := Aside0.mk h3; clear h1 h2 h3)
          | (go_at_call 23; refine (dlen w8 _ g2 _ E8.out).mono ?_; rintro e w9 ⟨rfl, rfl⟩)
          | (go_at_call 24; refine (doff_at w8 _ g1 _ false HOFF.out D8.out).mono ?_; rintro e w9 ⟨rfl, rfl⟩)
          | (go_at_call 24; refine (doff_at w8 _ g2 _ true rfl E8.out).mono ?_; rintro e w9 ⟨rfl, rfl⟩)
          | (go_at_call 18; refine (dlife_at w8 _ g1 _ 0 HLIFE.out D8.out).mono ?_; rintro e w9 ⟨rfl, rfl⟩)
          | (go_at_call 14; refine (wakesD_any w8).mono ?_; rintro e w9 ⟨rfl, h1⟩; have G9 := Aside0.mk h1; clear h1))
        go_ret
        exact ⟨rfl, (G8.out).trans (G9.out.mono G8.out.size)⟩
      ·
        obtain ⟨s', hput, hoff, hlife⟩ := put_new n x 0 (by rw [if_neg (by rw [← HRM.out]; exact hgt)])
        have HPUT := Aside0.mk hput
        have HOFF := Aside0.mk hoff
        have HLIFE := Aside0.mk hlife
        clear hput hoff hlife hrm
        go_enter Try.func4, Try.ntmps4
        go_wp2_with (first
          | (go_at_call 10; refine (heavy1_at w x v4 v5 v10 v14 false HK.out HB.out).mono ?_; rintro e w3 ⟨rfl, h1, h2, h3⟩; have G3 := Aside0.mk h1; have B3 := Aside0.mk h2; have Z3 := Aside0.mk h3; clear h1 h2 h3)
          | (go_at_call 11; refine (dnew_yes n HN1.out HN2.out w3).mono ?_; rintro e w4 ⟨rfl, h1, h2⟩; have D4 := Aside0.mk h1; have G4 := Aside0.mk h2; obtain ⟨g1, hg1⟩ : ∃ g1, g1 = w3.heap.size := ⟨_, rfl⟩; have HG1 := Aside0.mk hg1; rw [← hg1]; clear h1 h2 hg1)
          | (go_at_call 11; refine (dnew_yes n HN1.out HN2.out w4).mono ?_; rintro e w5 ⟨rfl, h1, h2⟩; have D5 := Aside0.mk h1; have G5 := Aside0.mk h2; obtain ⟨g2, hg2⟩ : ∃ g2, g2 = w4.heap.size := ⟨_, rfl⟩; have HG2 := Aside0.mk hg2; rw [← hg2]; clear h1 h2 hg2; obtain ⟨k0, k1, k2, k3, k4, k5, k6, k7, k8, k9, k10, k11, k12, k13, k14⟩ := rec_cells (keep_blk (keep_blk B3.out G4.out) G5.out))
          | (go_at_call 13; refine (two_put n x 0 s' w w3 w4 w5 v4 v5 v10 v14 g1 g2 HPUT.out HK.out HS.out HN1.out HN2.out HG1.out HG2.out G3.out Z3.out B3.out D4.out G4.out D5.out G5.out).mono ?_; rintro e w6 ⟨rfl, h1, h2, h3, h4, h5⟩; have D6 := Aside0.mk h1; have E6 := Aside0.mk h2; have G6 := Aside0.mk h3; have K6 := Aside0.mk h5; obtain ⟨j0, j1, j2, j3, j4, j5, j6, j7, j8, j9, j10, j11, j12, j13, j14⟩ := rec_cells h4; clear k0 k1 k2 k3 k4 k5 k6 k7 k8 k9 k10 k11 k12 k13 k14 h1 h2 h3 h4 h5)
          | (go_at_call 21; refine (droom_at x (recs15 x v4 v5 v10 v14).toList rm w6 HRM.out K6.out HS.out.lite HS.out.helo).mono ?_; rintro e w7 ⟨rfl, h1⟩; have G7 := Aside0.mk h1; clear j0 j1 j2 j3 j4 j5 j6 j7 j8 j9 j10 j11 j12 j13 j14 h1)
          | (go_at_call 22; refine (two_crash n s' w6 w7 w g1 g2 (G3.out.size) (HG1.out ▸ Nat.le_refl _) D6.out E6.out G7.out G6.out).mono ?_; rintro e w8 ⟨⟨v8, rfl⟩, h1, h2, h3⟩; have D8 := Aside0.mk h1; have E8 := Aside0.mk h2; have G8 := Aside0.mk h3; clear h1 h2 h3)
          | (go_at_call 23; refine (dlen w8 _ g2 _ E8.out).mono ?_; rintro e w9 ⟨rfl, rfl⟩)
          | (go_at_call 24; refine (doff_at w8 _ g1 _ false HOFF.out D8.out).mono ?_; rintro e w9 ⟨rfl, rfl⟩)
          | (go_at_call 24; refine (doff_at w8 _ g2 _ true rfl E8.out).mono ?_; rintro e w9 ⟨rfl, rfl⟩)
          | (go_at_call 18; refine (dlife_at w8 _ g1 _ 0 HLIFE.out D8.out).mono ?_; rintro e w9 ⟨rfl, rfl⟩)
          | (go_at_call 14; refine (wakesD_any w8).mono ?_; rintro e w9 ⟨rfl, h1⟩; have G9 := Aside0.mk h1; clear h1))
        go_ret
        exact ⟨rfl, (G8.out).trans (G9.out.mono G8.out.size)⟩
theorem limits_any (n : Int) (x : S39) (cs : Array Value) (_ : (Lit.int .i64 n).wf = true) (hG : Ok39 x) {w : World} (hK : k39.K w x cs.toList) : Calls Try.prog 4 #[.int .i64 n, .agg cs] w fun e w' => e = .returned (.bool true) ∧ Below w.heap.size w w' := limits_any0 n x cs hG w hK
end Go.Proofs.Ytbkfdejcmimhgaa
