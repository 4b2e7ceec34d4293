/- A diary's Put. -/
import Derived.Test.YtbkfdejcmimhgaaProg
import Derived.WalkKit
import Derived.WalkLawsBesides
import Derived.Outline
import Derived.LoopTactic
import Derived.Lib.Hide
import Derived.Deep.QuietTactic
import Derived.BigQuiet
import Derived.Deep.LoopGhost
import Derived.Deep.DeepCutAuto
import Derived.Deep.CutBlock
import Derived.Deep.RegionHeld3
import Derived.Deep.RegionWith
import Derived.Deep.WholeRow
import Derived.Laws.Rows
import Derived.Laws.Tables
import Derived.Laws.ResultCell
import Derived.StillTailTactics
import Derived.Deep.DeepMust
import Derived.IntWalk
import Derived.KernelRfl
import Derived.Test.YtbkfdejcmimhgaaVa
import Derived.RegionTactic
import Derived.Test.YtbkfdejcmimhgaaDiF
namespace Go.Proofs.Ytbkfdejcmimhgaa
open Go.RowKit Go.Proofs.YtbkfdejcmimhgaaW.PrintWords Go.Proofs.Ytbkfdejcmimhgaa.PDiaryExact
set_option linter.unusedVariables false
set_option linter.unusedSimpArgs false
theorem droom (x : S39) (cs : List Value) (W : World) (hK : k39.K W x cs) (hL : Lite x) (hh : x.f1.f4.size ≤ 1000000) : Calls Try.prog 21 #[.agg cs.toArray] W fun e w' => e = .returned (.int .i64 (room x)) ∧ Below W.heap.size W w' := by
  obtain ⟨A4, c4, A5, c5, A10, c10, A14, c14, rfl, l4, g4, l5, g5, l10, g10, l14, g14⟩ := k39_open hK
  exact diary_Room.calls x.f0 x.f1.f0.f0 x.f1.f0.f1 x.f1.f0.f2 A4 c4 x.f1.f1 A5 c5 x.f1.f2 x.f1.f3 x.f1.f4 x.f1.f5 x.f2 A10 c10 x.f3 x.f4 x.f5 x.f6 A14 c14 x.f7 (room x) W g4 l4 g5 l5 g10 l10 g14 l14 (room_f x hL hh)
theorem droom_at (x : S39) (cs : List Value) (rm : Int) (W : World) (hr : rm = room x) (hK : k39.K W x cs) (hL : Lite x) (hh : x.f1.f4.size ≤ 1000000) : Calls Try.prog 21 #[.agg cs.toArray] W fun e w' => e = .returned (.int .i64 rm) ∧ Below W.heap.size W w' := by
  subst hr
  exact droom x cs W hK hL hh
theorem dused_at (W : World) (S : Nat → Prop) (g : Nat) (s : DSt) (us : Int) (hu : us = roomsOf s.recs) (h : Dy W S g s) (hF : Fine s.recs) (hl : s.recs.length ≤ 1000000) : Calls Try.prog 28 #[.pointer (some ⟨g, 0, none⟩)] W fun e w' => e = .returned (.int .i64 us) ∧ Below W.heap.size W w' := by
  subst hu
  exact dused W S g s h hF hl
theorem rooms_le (l : List S39) (hF : Fine l) : roomsOf l ≤ (l.length : Int) * 100000000 := by
  induction l with
  | nil => simp [roomsOf]
  | cons x l ih =>
    have h1 := room_le x (hF x (by simp)).1 (hF x (by simp)).2
    have h2 := ih (fun y hy => hF y (List.mem_cons_of_mem _ hy))
    simp only [roomsOf, List.length_cons]
    push_cast
    omega
/-- What the operations of Put's test yield. -/
def PtF (g : Nat) (cs : Array Value) (rm lim used : Int) (full : Bool) : Nat → Value → World → Prop
  | 0, v, _ => v = .agg cs
  | 1, v, _ => v = .int .i64 rm
  | 2, v, _ | 3, v, _ | 6, v, _ => v = .pointer (some ⟨g, 0, none⟩)
  | 4, v, _ => v = .pointer (some ⟨g, 0, none⟩)
  | 5, v, _ => v = .int .i64 lim
  | 7, v, _ => v = .int .i64 used
  | 8, v, _ => v = .int .i64 (lim - used)
  | 9, v, _ | 10, v, _ => v = .bool full
  | _, _, _ => True
theorem PtF.stab (g : Nat) (cs : Array Value) (rm lim used : Int) (full : Bool) : ∀ i v w1 w2, PtF g cs rm lim used full i v w1 → Below w1.heap.size w1 w2 → PtF g cs rm lim used full i v w2
  | 0, _, _, _, h, _ | 1, _, _, _, h, _ | 2, _, _, _, h, _ | 3, _, _, _, h, _ | 4, _, _, _, h, _ | 5, _, _, _, h, _ | 6, _, _, _, h, _ | 7, _, _, _, h, _ | 8, _, _, _, h, _ | 9, _, _, _, h, _ | 10, _, _, _, h, _ => h
  | _ + 11, _, _, _, _, _ => trivial
/-- What the operations of Put's append yield, but for the record, its row and the new slice. -/
def ptpv (g : Nat) (sl : Value) (cs : Array Value) : Nat → Option Value
  | 0 | 1 | 2 => some (.pointer (some ⟨g, 0, none⟩))
  | 3 => some (.pointer (some ⟨g, 1, none⟩))
  | 4 => some sl
  | 5 => some (.agg cs)
  | _ => none
/-- What holds at each stage of Put's append. -/
def PuI (Wp : World) (S : Nat → Prop) (g b3 : Nat) (x : S39) (recs : List S39) (sl : Value) (cs rowg : Array Value) (L : Nat → Bool) (V : Nat → Value) (w : World) : Prop :=
  (∀ i v, ptpv g sl cs i = some v → L i = true → V i = v) ∧ w.heap[g]? = some (.cells rowg 66 (0, 0)) ∧ w.heap[b3]? = some (.cells cs 39 (0, 0)) ∧
  (L 8 = true → (∃ A' c', V 8 = .slice A' (recs ++ [x]).length c') ∧ Kd.N k39 39 w 0 (fun k => (S k ∨ Wp.heap.size ≤ k) ∧ k ≠ g) (V 8) (recs ++ [x]) ∧ Ch Wp w S) ∧
  (L 8 = false → Below Wp.heap.size Wp w) ∧
  (L 8 = false → L 7 = true → ∃ (w6 : World) (cs' : List Value), w = w6.alloc (.cells cs'.toArray 39) ∧ V 7 = .slice (some ⟨w6.heap.size, 0, none⟩) 1 1 ∧ Kd.FK k39 w6 (fun k => Wp.heap.size ≤ k) x cs' ∧ Below Wp.heap.size Wp w6) ∧
  (L 7 = false → L 6 = true → ∃ cs' : List Value, V 6 = .agg cs'.toArray ∧ Kd.FK k39 w (fun k => Wp.heap.size ≤ k) x cs') ∧ (L 8 = true → L 7 = true) ∧ (L 7 = true → L 6 = true)
section
variable {Wp w : World} {S : Nat → Prop} {g b3 : Nat} {x : S39} {recs : List S39} {sl : Value} {cs rowg : Array Value} {L : Nat → Bool} {V : Nat → Value}
theorem PuI.pure (h : PuI Wp S g b3 x recs sl cs rowg L V w) (i : Nat) (v : Value) (hv : ptpv g sl cs i = some v) (h6 : i ≠ 6) (h7 : i ≠ 7) (h8 : i ≠ 8) : PuI Wp S g b3 x recs sl cs rowg (put1 L i) (Facts.up V i v) w := by
  obtain ⟨a, b, c, d, e, f, f2, f3, f4⟩ := h
  refine ⟨fun j u hu hj => ?_, b, c, ?_, ?_, ?_, ?_, ?_, ?_⟩
  · by_cases e : j = i
    · subst e; rw [hv] at hu; injection hu with hu; simp [Facts.up, hu]
    · simp only [put1, if_neg e] at hj; simp only [Facts.up, if_neg e]; exact a j u hu hj
  all_goals simpa only [put1, Facts.up, if_neg (Ne.symm h6), if_neg (Ne.symm h7), if_neg (Ne.symm h8)]
theorem PuI.twin (h : PuI Wp S g b3 x recs sl cs rowg L V w) (hL : L 6 = false) (h7 : L 7 = false) (w' : World) (cs' : List Value) (hf : Kd.FK k39 w' (fun k => Wp.heap.size ≤ k) x cs') (hb : Below w.heap.size w w') : PuI Wp S g b3 x recs sl cs rowg (put1 L 6) (Facts.up V 6 (.agg cs'.toArray)) w' := by
  obtain ⟨a, b, c, d, e, f, f2, f3, f4⟩ := h
  have h8 : L 8 = false := by
    cases q : L 8 with
    | false => rfl
    | true => rw [f3 q] at h7; cases h7
  refine ⟨fun j u hu hj => ?_, keep_blk b hb, keep_blk c hb, ?_, ?_, ?_, ?_, ?_, ?_⟩
  · by_cases e : j = 6
    · subst e; cases hu
    · simp only [put1, if_neg e] at hj; simp only [Facts.up, if_neg e]; exact a j u hu hj
  · intro q; simp [put1, h8] at q
  · intro _; exact (e h8).trans (hb.mono (e h8).size)
  · intro _ q; simp [put1, h7] at q
  · intro _ _; exact ⟨cs', by simp [Facts.up], hf⟩
  · intro q; simp [put1, h8] at q
  · intro _; simp [put1]
theorem PuI.built (h : PuI Wp S g b3 x recs sl cs rowg L V w) (h7 : L 7 = false) (h6 : L 6 = true) (cs' : List Value) (hv : V 6 = .agg cs'.toArray) (hf : Kd.FK k39 w (fun k => Wp.heap.size ≤ k) x cs') : PuI Wp S g b3 x recs sl cs rowg (put1 L 7) (Facts.up V 7 (.slice (some ⟨w.heap.size, 0, none⟩) 1 1)) (w.alloc (.cells cs'.toArray 39)) := by
  obtain ⟨a, b, c, d, e, f, f2, f3, f4⟩ := h
  have h8 : L 8 = false := by
    cases q : L 8 with
    | false => rfl
    | true => rw [f3 q] at h7; cases h7
  have hb : Below w.heap.size w (w.alloc (.cells cs'.toArray 39)) := (Below.refl _ _).alloc (Nat.le_refl _) _
  refine ⟨fun j u hu hj => ?_, keep_blk b hb, keep_blk c hb, ?_, ?_, ?_, ?_, ?_, ?_⟩
  · by_cases e : j = 7
    · subst e; cases hu
    · simp only [put1, if_neg e] at hj; simp only [Facts.up, if_neg e]; exact a j u hu hj
  · intro q; simp [put1, h8] at q
  · intro _; exact (e h8).trans (hb.mono (e h8).size)
  · intro _ _; exact ⟨w, cs', rfl, by simp [Facts.up], hf, e h8⟩
  · intro q; simp [put1] at q
  · intro q; simp [put1]
  · intro _; simp [put1, h6]
theorem PuI.appended (h : PuI Wp S g b3 x recs sl cs rowg L V w) (h7 : L 7 = true) (v : Value) (w' : World) (hg : w'.heap[g]? = some (.cells rowg 66 (0, 0))) (hr : w'.heap[b3]? = some (.cells cs 39 (0, 0))) (hN : Kd.N k39 39 w' 0 (fun k => (S k ∨ Wp.heap.size ≤ k) ∧ k ≠ g) v (recs ++ [x])) (hc : Ch Wp w' S) : PuI Wp S g b3 x recs sl cs rowg (put1 L 8) (Facts.up V 8 v) w' := by
  obtain ⟨a, b, c, d, e, f, f2, f3, f4⟩ := h
  refine ⟨fun j u hu hj => ?_, hg, hr, ?_, ?_, ?_, ?_, ?_, ?_⟩
  · by_cases e : j = 8
    · subst e; cases hu
    · simp only [put1, if_neg e] at hj; simp only [Facts.up, if_neg e]; exact a j u hu hj
  · intro _
    have e8 : Facts.up V 8 v 8 = v := by simp [Facts.up]
    rw [e8]
    obtain ⟨A', c', rfl⟩ := Kd.N_slice hN
    exact ⟨⟨A', c', rfl⟩, hN, hc⟩
  · intro q; simp [put1] at q
  · intro q; simp [put1] at q
  · intro q; simp [put1, h7] at q
  · intro _; simp [put1, h7]
  · intro _; simp [put1, f4 h7]
theorem PuI.done (h : PuI Wp S g b3 x recs sl cs rowg L V w) (h8 : L 8 = true) : w.heap[g]? = some (.cells rowg 66 (0, 0)) ∧ (∃ A' c', V 8 = .slice A' (recs ++ [x]).length c') ∧ Kd.N k39 39 w 0 (fun k => (S k ∨ Wp.heap.size ≤ k) ∧ k ≠ g) (V 8) (recs ++ [x]) ∧ Ch Wp w S := ⟨h.2.1, h.2.2.2.1 h8⟩
end
theorem kept_grown {w w' : World} {row : Option Nat} {S : Nat → Prop} (h : w.grownBy w' row) (hr : ∀ k, row = some k → S k) : Kept w w' S := ⟨h.size, fun i hi hn => h.block i hi (fun e => hn (hr i e.symm))⟩
def DSt.add (s : DSt) (x : S39) : DSt := { s with recs := s.recs ++ [x] }
def DSt.put (s : DSt) (x : S39) : Int × DSt :=
  if s.off = true then (7, s) else if s.limit - roomsOf s.recs < room x then (8, s) else if (s.add x).hit = true then (7, (s.add x).tick.crash s.keep) else (0, (s.add x).tick)
set_option maxRecDepth 100000 in
set_option maxHeartbeats 2000000 in
theorem dput (W : World) (S : Nat → Prop) (g : Nat) (s : DSt) (x : S39) (cs : List Value) (hD : Dy W S g s) (hSb : ∀ k, S k → k < W.heap.size) (hK : k39.K W x cs) (hL : Lite x) (hh : x.f1.f4.size ≤ 1000000) (hok : s.Ok) (hlen : s.recs.length < 1000000) (hF : Fine s.recs) (ha : s.Armed) (hl0 : 0 ≤ s.limit) (hl1 : s.limit ≤ 1000000) :
    Calls Try.prog 13 #[.pointer (some ⟨g, 0, none⟩), .agg cs.toArray] W fun e w' => e = .returned (.int .i64 (s.put x).1) ∧ Dy w' (fun k => S k ∨ W.heap.size ≤ k) g (s.put x).2 ∧ Ch W w' S := by
  have HD := Aside0.mk hD
  have HKK := Aside0.mk hK
  have hS := hD.1
  have hglt := hD.lt
  obtain ⟨A4, c4, A5, c5, A10, c10, A14, c14, rfl, l4, g4, l5, g5, l10, g10, l14, g14⟩ := k39_open hK
  obtain ⟨W1, hW1⟩ : ∃ W1, W1 = W.alloc (.cells (rc x (.slice A4 x.f1.f1.length c4) (.slice A5 x.f1.f2.length c5) (.slice A10 x.f3.length c10) (.slice A14 x.f7.length c14)) 39) := ⟨_, rfl⟩
  have hbk : W1.heap[W.heap.size]? = some (.cells (rc x (.slice A4 x.f1.f1.length c4) (.slice A5 x.f1.f2.length c5) (.slice A10 x.f3.length c10) (.slice A14 x.f7.length c14)) 39 (0, 0)) := by rw [hW1]; exact heap_alloc_new _ _
  have hbw : Below W.heap.size W W1 := by rw [hW1]; exact (Below.refl _ _).alloc (Nat.le_refl _) _
  have hz1 : W1.heap.size = W.heap.size + 1 := by rw [hW1]; simp
  have hD1 := hD.below hbw
  obtain ⟨_, A, c, hg, hN⟩ := hD1
  have HBK := Aside0.mk hbk
  have HBW := Aside0.mk hbw
  have HG := Aside0.mk hg
  have HN := Aside0.mk hN
  have hst : ∀ Z : World, Z = W.alloc (.cells #[.int .i64 x.f0, .bool x.f1.f0.f0, .string x.f1.f0.f1, .string x.f1.f0.f2, .slice A4 x.f1.f1.length c4, .slice A5 x.f1.f2.length c5, .bool x.f1.f3, .string x.f1.f4, .int .i64 x.f1.f5, .int .i64 x.f2, .slice A10 x.f3.length c10, .int .i64 x.f4, .int .i64 x.f5, .int .i64 x.f6, .slice A14 x.f7.length c14] 39) → Z = W1 := fun Z hZ => by rw [hZ, hW1]; rfl
  clear hD hK l4 g4 l5 g5 l10 g10 l14 g14 hbk hbw hN hW1
  by_cases hoff : s.off = true
  · have e1 : s.put x = (7, s) := by unfold DSt.put; rw [if_pos hoff]
    rw [e1]
    have q3 : W1.cell? ⟨g, 3, none⟩ = some (.bool true) := by rw [← hoff]; exact rc_cell hg 3 _ rfl
    clear hg e1
    go_enter Try.func13, Try.ntmps13
    go_upto_region 1 with (fail)
    clear hst
    go_wp2
    go_ret
    exact ⟨rfl, (HD.out.below HBW.out).mono (fun k hk => .inl hk), Ch.of_below HBW.out⟩
  · have hoff' : s.off = false := by simpa using hoff
    have q3 : W1.cell? ⟨g, 3, none⟩ = some (.bool false) := by rw [← hoff']; exact rc_cell hg 3 _ rfl
    clear hg
    go_enter Try.func13, Try.ntmps13
    go_upto_region 1 with (fail)
    clear hst
    go_upto_region 3 with (fail)
    obtain ⟨full, hfull⟩ : ∃ full : Bool, full = decide (s.limit - roomsOf s.recs < room x) := ⟨_, rfl⟩
    have HFULL := Aside0.mk hfull
    have hroom1 := room_le x hL hh
    have hroom0 := room_pos x
    have hu0 := roomsOf_nonneg s.recs
    obtain ⟨rm, hrm⟩ : ∃ rm, rm = room x := ⟨_, rfl⟩
    obtain ⟨us, hus⟩ : ∃ us, us = roomsOf s.recs := ⟨_, rfl⟩
    have hus1 : us ≤ 1000000000000000 := by have := rooms_le s.recs hF; omega
    have HRM := Aside0.mk hrm
    have HUS := Aside0.mk hus
    rw [← hrm, ← hus] at hfull
    rw [← hrm] at hroom1 hroom0
    rw [← hus] at hu0
    have i1 : IntKind.i64.wrap (s.limit - us) = s.limit - us := IntWalk.i64_in _ (by omega)
    have hfd : decide (s.limit - us < rm) = full := hfull.symm
    clear hrm hus hfull
    refine Facts.region_any (n := 0 + 11) #[false, false, false, false, false, false, false, false, false, false, false] (by kernel_rfl) rfl (by kernel_rfl) (fun W0 hW0 hB0 => ?_)
    have hB1 : Below W1.heap.size W1 W0 := hB0 _
    clear hW0 hB0
    refine Facts.wpAny_eval [(0, some 11), (1, some 12), (2, some 13), (3, some 14), (4, some 15), (5, some 16), (6, some 17), (7, some 18), (8, some 19), (9, some 20), (10, some 10)] _ #[true, true, true, true, true, true, true, true, true, true, true] (by kernel_rfl) 0 _ _ (fun w1 w2 => Below w1.heap.size w1 w2) (PtF g (rc x (.slice A4 x.f1.f1.length c4) (.slice A5 x.f1.f2.length c5) (.slice A10 x.f3.length c10) (.slice A14 x.f7.length c14)) rm s.limit us full) Facts.below_refl Facts.below_tr (PtF.stab _ _ _ _ _ _) ?hop ?H (fun _ => undef) (by kernel_rfl)
    case hop =>
      intro y hx o ho V W2 hR hpre K hK
      have hW : Below W1.heap.size W1 W2 := hB1.trans (hR.mono hB1.size)
      simp only [List.mem_cons, List.not_mem_nil, or_false] at hx
      rcases hx with rfl | rfl | rfl | rfl | rfl | rfl | rfl | rfl | rfl | rfl | rfl
      · obtain rfl := Option.some.inj ho
        refine Facts.load_row_ (by kernel_rfl) rfl 39 (.tmp 3) rfl W.heap.size (by kernel_rfl) 39 (rc x (.slice A4 x.f1.f1.length c4) (.slice A5 x.f1.f2.length c5) (.slice A10 x.f3.length c10) (.slice A14 x.f7.length c14)) (0, 0) _ (keep_blk HBK.out hW) Try.underlying39 rfl (by kernel_rfl) ?_
        exact hK _ _ rfl (Below.refl _ _)
      · obtain rfl := Option.some.inj ho
        have fp0 : V 0 = .agg (rc x (.slice A4 x.f1.f1.length c4) (.slice A5 x.f1.f2.length c5) (.slice A10 x.f3.length c10) (.slice A14 x.f7.length c14)) := hpre { on := 0, ground := .data } (by simp) rfl rfl
        refine Facts.OpDo.goes Try.func21 (by kernel_rfl) rfl #[V 0] (by kernel_rfl) rfl rfl (by kernel_rfl) ?_
        rw [fp0]
        refine (droom_at x _ rm W2 HRM.out (k39.K_below (HBW.out.trans (hW.mono HBW.out.size)) HKK.out) hL hh).mono ?_
        rintro e w' ⟨rfl, hb'⟩
        exact ⟨_, rfl, hK _ _ rfl hb'⟩
      · obtain rfl := Option.some.inj ho
        refine Facts.OpDo.value (by kernel_rfl) rfl (v := (.pointer (some ⟨g, 0, none⟩))) (w1 := W2) ?_ ?_
        · simp only [Facts.acE, Act.put, List.setIfInBounds_toArray, List.set_cons_zero, List.set_cons_succ]
          go_simp
        · exact hK _ _ rfl (Below.refl _ _)
      · obtain rfl := Option.some.inj ho
        have fp2 : V 2 = (.pointer (some ⟨g, 0, none⟩)) := hpre { on := 2, ground := .data } (by simp) rfl rfl
        refine Facts.OpDo.value (by kernel_rfl) rfl (v := (.pointer (some ⟨g, 0, none⟩))) (w1 := W2) ?_ ?_
        · simp only [Facts.acE, fp2, Act.put, List.setIfInBounds_toArray, List.set_cons_zero, List.set_cons_succ]
          go_simp
        · exact hK _ _ rfl (Below.refl _ _)
      · obtain rfl := Option.some.inj ho
        have fp3 : V 3 = (.pointer (some ⟨g, 0, none⟩)) := hpre { on := 3, ground := .data } (by simp) rfl rfl
        refine Facts.OpDo.value (by kernel_rfl) rfl (v := (.pointer (some ⟨g, 0, none⟩))) (w1 := W2) ?_ ?_
        · simp only [Facts.acE, fp3, Act.put, List.setIfInBounds_toArray, List.set_cons_zero, List.set_cons_succ]
          go_simp
        · exact hK _ _ rfl (Below.refl _ _)
      · obtain rfl := Option.some.inj ho
        have fp4 : V 4 = (.pointer (some ⟨g, 0, none⟩)) := hpre { on := 4, ground := .data } (by simp) rfl rfl
        have hc : W2.cell? ⟨g, 0, none⟩ = some (.int .i64 s.limit) := rc_cell (keep_blk HG.out hW) 0 _ rfl
        refine Facts.OpDo.value (by kernel_rfl) rfl (v := (.int .i64 s.limit)) (w1 := W2) ?_ ?_
        · simp only [Facts.acE, fp4, Act.put, List.setIfInBounds_toArray, List.set_cons_zero, List.set_cons_succ]
          go_simp
        · exact hK _ _ rfl (Below.refl _ _)
      · obtain rfl := Option.some.inj ho
        refine Facts.OpDo.value (by kernel_rfl) rfl (v := (.pointer (some ⟨g, 0, none⟩))) (w1 := W2) ?_ ?_
        · simp only [Facts.acE, Act.put, List.setIfInBounds_toArray, List.set_cons_zero, List.set_cons_succ]
          go_simp
        · exact hK _ _ rfl (Below.refl _ _)
      · obtain rfl := Option.some.inj ho
        have fp6 : V 6 = (.pointer (some ⟨g, 0, none⟩)) := hpre { on := 6, ground := .data } (by simp) rfl rfl
        refine Facts.OpDo.goes Try.func28 (by kernel_rfl) rfl #[V 6] (by kernel_rfl) rfl rfl (by kernel_rfl) ?_
        rw [fp6]
        refine (dused_at W2 S g s us HUS.out ((HD.out.below HBW.out).below hW) hF hok.2.2.1).mono ?_
        rintro e w' ⟨rfl, hb'⟩
        exact ⟨_, rfl, hK _ _ rfl hb'⟩
      · obtain rfl := Option.some.inj ho
        have fp5 : V 5 = (.int .i64 s.limit) := hpre { on := 5, ground := .data } (by simp) rfl rfl
        have fp7 : V 7 = (.int .i64 us) := hpre { on := 7, ground := .data } (by simp) rfl rfl
        refine Facts.OpDo.value (by kernel_rfl) rfl (v := (.int .i64 (s.limit - us))) (w1 := W2) ?_ ?_
        · simp only [Facts.acE, fp5, fp7, Act.put, List.setIfInBounds_toArray, List.set_cons_zero, List.set_cons_succ]
          go_simp
        · exact hK _ _ rfl (Below.refl _ _)
      · obtain rfl := Option.some.inj ho
        have fp1 : V 1 = (.int .i64 rm) := hpre { on := 1, ground := .data } (by simp) rfl rfl
        have fp8 : V 8 = (.int .i64 (s.limit - us)) := hpre { on := 8, ground := .data } (by simp) rfl rfl
        refine Facts.OpDo.value (by kernel_rfl) rfl (v := (.bool full)) (w1 := W2) ?_ ?_
        · simp only [Facts.acE, fp1, fp8, Act.put, List.setIfInBounds_toArray, List.set_cons_zero, List.set_cons_succ]
          go_simp
        · exact hK _ _ rfl (Below.refl _ _)
      · obtain rfl := Option.some.inj ho
        have fp9 : V 9 = (.bool full) := hpre { on := 9, ground := .data } (by simp) rfl rfl
        refine Facts.OpDo.value (by kernel_rfl) rfl (v := (.bool full)) (w1 := W2) ?_ ?_
        · simp only [Facts.acE, fp9, Act.put, List.setIfInBounds_toArray, List.set_cons_zero, List.set_cons_succ]
          go_simp
        · exact hK _ _ rfl (Below.refl _ _)
    case H =>
      intro V W2 hR hΦ
      have f0 := hΦ (0, some 11) (by simp)
      have f1 := hΦ (1, some 12) (by simp)
      have f2 := hΦ (2, some 13) (by simp)
      have f3 := hΦ (3, some 14) (by simp)
      have f4 := hΦ (4, some 15) (by simp)
      have f5 := hΦ (5, some 16) (by simp)
      have f6 := hΦ (6, some 17) (by simp)
      have f7 := hΦ (7, some 18) (by simp)
      have f8 := hΦ (8, some 19) (by simp)
      have f9 := hΦ (9, some 20) (by simp)
      have f10 := hΦ (10, some 10) (by simp)
      clear hΦ
      simp only [PtF] at f0 f1 f2 f3 f4 f5 f6 f7 f8 f9 f10
      have hW : Below W1.heap.size W1 W2 := hB1.trans (hR.mono hB1.size)
      clear hR
      simp only [Facts.acE, f0, f1, f2, f3, f4, f5, f6, f7, f8, f9, f10, Act.put, List.setIfInBounds_toArray, List.set_cons_zero, List.set_cons_succ]
      clear f0 f1 f2 f3 f4 f5 f6 f7 f8 f9 f10 V
      refine Facts.wpAny_done (by kernel_rfl) ?_
      have HW2 := Aside0.mk hW
      clear hW hB1
      cases full
      · skip
        go_upto_region 5 with (fail)
        refine Facts.region_any (n := 3 + 9) #[false, false, false, false, false, false, false, false, false, false, false, false] (by kernel_rfl) rfl (by kernel_rfl) (fun W0 hW0 hB0 => ?_)
        have hP : Below W1.heap.size W1 W0 := HW2.out.trans ((hB0 _ : Below W2.heap.size W2 W0).mono HW2.out.size)
        clear hB0 hW0
        have hg0 := keep_blk HG.out hP
        have hb0 := keep_blk HBK.out hP
        have hN0 : Kd.N k39 39 W0 0 (fun k => S k ∧ k ≠ g) (.slice A s.recs.length c) s.recs := Kd.N_below HN.out hP
        have hz0 : W.heap.size + 1 ≤ W0.heap.size := by have := hP.size; omega
        have hWW : Below W.heap.size W W0 := HBW.out.trans (hP.mono (by omega))
        have HN0 := Aside0.mk hN0
        have HWW := Aside0.mk hWW
        have hle : (s.recs.length + 1) * 208 ≤ 140737488355328 := by omega
        have HLE := Aside0.mk hle
        clear hP hN0 hWW hle
        refine Facts.wpAny_inv [(0, some 21), (1, some 22), (2, some 23), (3, some 24), (4, some 25), (5, some 26), (6, some 27), (7, some 28), (8, some 29)] _ #[true, true, true, true, true, true, true, true, true, false, false, false] (by kernel_rfl) 3 _ _ (PuI W0 S g W.heap.size x s.recs (.slice A s.recs.length c) (rc x (.slice A4 x.f1.f1.length c4) (.slice A5 x.f1.f2.length c5) (.slice A10 x.f3.length c10) (.slice A14 x.f7.length c14)) (dcells s (.slice A s.recs.length c))) ?hop2 ?H2 (fun _ => undef) (by kernel_rfl) ?hI2
        case hI2 =>
          refine ⟨fun i v _ h => ?_, hg0, hb0, fun h => ?_, fun _ => Below.refl _ _, fun _ h => ?_, fun _ h => ?_, fun h => ?_, fun h => ?_⟩
          · exfalso
            revert h
            match i with
            | 0 | 1 | 2 | 3 | 4 | 5 | 6 | 7 | 8 | 9 | 10 | 11 => exact (by decide)
            | n + 12 => simp
          all_goals exact absurd h (by decide)
        case hop2 =>
          intro z hz o ho L V X hI hL9 hpre K hK
          simp only [List.mem_cons, List.not_mem_nil, or_false] at hz
          rcases hz with rfl | rfl | rfl | rfl | rfl | rfl | rfl | rfl | rfl
          · obtain rfl := Option.some.inj ho
            refine Facts.OpDo.value (by kernel_rfl) rfl (v := (.pointer (some ⟨g, 0, none⟩))) (w1 := X) ?_ (hK _ _ (hI.pure 0 _ rfl (by decide) (by decide) (by decide)))
            simp only [Facts.acE, Act.put, List.setIfInBounds_toArray, List.set_cons_zero, List.set_cons_succ]
            go_simp
          · obtain rfl := Option.some.inj ho
            refine Facts.OpDo.value (by kernel_rfl) rfl (v := (.pointer (some ⟨g, 0, none⟩))) (w1 := X) ?_ (hK _ _ (hI.pure 1 _ rfl (by decide) (by decide) (by decide)))
            simp only [Facts.acE, Act.put, List.setIfInBounds_toArray, List.set_cons_zero, List.set_cons_succ]
            go_simp
          · obtain rfl := Option.some.inj ho
            have fp1 : V 1 = (.pointer (some ⟨g, 0, none⟩)) := hI.1 1 _ rfl (hpre { on := 1, ground := .data } (by simp) rfl rfl)
            refine Facts.OpDo.value (by kernel_rfl) rfl (v := (.pointer (some ⟨g, 0, none⟩))) (w1 := X) ?_ (hK _ _ (hI.pure 2 _ rfl (by decide) (by decide) (by decide)))
            simp only [Facts.acE, fp1, Act.put, List.setIfInBounds_toArray, List.set_cons_zero, List.set_cons_succ]
            go_simp
          · obtain rfl := Option.some.inj ho
            have fp2 : V 2 = (.pointer (some ⟨g, 0, none⟩)) := hI.1 2 _ rfl (hpre { on := 2, ground := .data } (by simp) rfl rfl)
            refine Facts.OpDo.value (by kernel_rfl) rfl (v := (.pointer (some ⟨g, 1, none⟩))) (w1 := X) ?_ (hK _ _ (hI.pure 3 _ rfl (by decide) (by decide) (by decide)))
            simp only [Facts.acE, fp2, Act.put, List.setIfInBounds_toArray, List.set_cons_zero, List.set_cons_succ]
            go_simp
          · obtain rfl := Option.some.inj ho
            have fp3 : V 3 = (.pointer (some ⟨g, 1, none⟩)) := hI.1 3 _ rfl (hpre { on := 3, ground := .data } (by simp) rfl rfl)
            have hc : X.cell? ⟨g, 1, none⟩ = some (.slice A s.recs.length c) := rc_cell hI.2.1 1 _ rfl
            refine Facts.OpDo.value (by kernel_rfl) rfl (v := (.slice A s.recs.length c)) (w1 := X) ?_ (hK _ _ (hI.pure 4 _ rfl (by decide) (by decide) (by decide)))
            simp only [Facts.acE, fp3, Act.put, List.setIfInBounds_toArray, List.set_cons_zero, List.set_cons_succ]
            go_simp
          · obtain rfl := Option.some.inj ho
            refine Facts.load_row_ (by kernel_rfl) rfl 39 (.tmp 3) rfl W.heap.size (by kernel_rfl) 39 (rc x (.slice A4 x.f1.f1.length c4) (.slice A5 x.f1.f2.length c5) (.slice A10 x.f3.length c10) (.slice A14 x.f7.length c14)) (0, 0) _ hI.2.2.1 Try.underlying39 rfl (by kernel_rfl) ?_
            exact hK _ _ (hI.pure 5 _ rfl (by decide) (by decide) (by decide))
          · obtain rfl := Option.some.inj ho
            have fp5 : V 5 = .agg (rc x (.slice A4 x.f1.f1.length c4) (.slice A5 x.f1.f2.length c5) (.slice A10 x.f3.length c10) (.slice A14 x.f7.length c14)) := hI.1 5 _ rfl (hpre { on := 5, ground := .data } (by simp) rfl rfl)
            have h7 : L 7 = false := by
              cases e : L 7 with
              | false => rfl
              | true =>
                have e6 := hI.2.2.2.2.2.2.2.2 e
                have e7 : L 6 = false := hL9
                rw [e7] at e6
                cases e6
            have h8 : L 8 = false := by
              cases e : L 8 with
              | false => rfl
              | true =>
                have e6 := hI.2.2.2.2.2.2.2.1 e
                rw [h7] at e6
                cases e6
            have hX := hI.2.2.2.2.1 h8
            refine Facts.OpDo.goes Try.func39 (by kernel_rfl) rfl #[V 5] (by kernel_rfl) rfl rfl (by kernel_rfl) ?_
            rw [fp5]
            refine (dtwin_any x _ X (k39.K_below (HWW.out.trans (hX.mono (by omega))) HKK.out) hL.1 hL.2.1 hL.2.2.1 hL.2.2.2).mono ?_
            rintro e w' ⟨cs', rfl, hf, hb'⟩
            exact ⟨_, rfl, hK _ _ (hI.twin hL9 h7 w' cs' (Kd.FK_mono hf (fun k hk => Nat.le_trans hX.size hk)) hb')⟩
          · obtain rfl := Option.some.inj ho
            have h6 : L 6 = true := hpre { on := 6, ground := .data } (by simp) rfl rfl
            obtain ⟨cs', e6, hf⟩ := hI.2.2.2.2.2.2.1 hL9 h6
            obtain ⟨T4, d4, T5, d5, T10, d10, T14, d14, rfl, _, _, _, _, _, _, _, _⟩ := k39_openF hf
            have hB := hI.built hL9 h6 _ e6 hf
            refine Facts.OpDo.value (by kernel_rfl) rfl (v := .slice (some ⟨X.heap.size, 0, none⟩) 1 1) (w1 := X.alloc (.cells (rc x (.slice T4 x.f1.f1.length d4) (.slice T5 x.f1.f2.length d5) (.slice T10 x.f3.length d10) (.slice T14 x.f7.length d14)) 39)) ?_ (hK _ _ hB)
            simp only [Facts.acE, e6, Act.put, List.setIfInBounds_toArray, List.set_cons_zero, List.set_cons_succ]
            go_simp
            rfl
          · obtain rfl := Option.some.inj ho
            have fp4 : V 4 = (.slice A s.recs.length c) := hI.1 4 _ rfl (hpre { on := 4, ground := .data } (by simp) rfl rfl)
            have h7 : L 7 = true := hpre { on := 7, ground := .data } (by simp) rfl rfl
            obtain ⟨w6, cs', eX, e7, hf, hb6⟩ := hI.2.2.2.2.2.1 hL9 h7
            have hown : ∀ k, (Value.slice A s.recs.length c).ownBlock = some k → S k ∧ k ≠ g := fun k hk => HN0.out.1 k hk
            have hz6 := hb6.size
            refine Facts.OpDo.of_list (by kernel_rfl) rfl ?_
            rw [eX]
            refine Kd.N_append k39 (w0 := W0) 0 rfl (.tmp 25) (.tmp 28) 22 39 (.agg #[.int .i64 0, .bool false, .string ⟨#[]⟩, .string ⟨#[]⟩, .slice none 0 0, .slice none 0 0, .bool false, .string ⟨#[]⟩, .int .i64 0, .int .i64 0, .slice none 0 0, .int .i64 0, .int .i64 0, .int .i64 0, .slice none 0 0]) 208 rfl Try.underlying22 info39 rfl (by decide) (by omega) (.slice A s.recs.length c) s.recs x cs' (fun k => (S k ∨ W0.heap.size ≤ k) ∧ k ≠ g) (fun k => W0.heap.size ≤ k) ?hs ?hx hf ?h1 ?h2 ?h3 ?h4 (Nat.zero_le _) HLE.out ?_
            case hs => exact Eq.trans (b := V 4) (by kernel_rfl) fp4
            case hx => exact Eq.trans (b := V 7) (by kernel_rfl) e7
            case h1 =>
              intro k hk
              refine ⟨⟨.inr hk, by omega⟩, fun he => ?_⟩
              have := hSb k (hown k he.symm).1
              omega
            case h2 => intro k hk; exact ⟨.inr (by omega), by omega⟩
            case h3 => exact Kd.N_mono (Kd.N_below HN0.out hb6) (fun k hk => ⟨.inl hk.1, hk.2⟩)
            case h4 => exact hb6.mono (Nat.zero_le _)
            intro v1 w1 hr hb hgr hat
            refine hK _ _ (hI.appended h7 v1 w1 ?_ ?_ hr ⟨hb, (Kept.of_below hb6 S).then_ (kept_grown hgr (fun k hk => (hown k hk).1)) (fun k hk => .inl hk)⟩)
            · exact (hgr.block g (by omega) (fun he => (hown g he.symm).2 rfl)).trans (keep_blk hg0 hb6)
            · exact (hgr.block W.heap.size (by omega) (fun he => by have := hSb _ (hown _ he.symm).1; omega)).trans (keep_blk hb0 hb6)
        case H2 =>
          intro V X hI
          obtain ⟨hgX, ⟨A', c', e8⟩, hNX, hcX⟩ := hI.done rfl
          have f0 : V 0 = (.pointer (some ⟨g, 0, none⟩)) := hI.1 0 _ rfl rfl
          clear hI
          rw [e8] at hNX
          simp only [Facts.acE, f0, e8, Act.put, List.setIfInBounds_toArray, List.set_cons_zero, List.set_cons_succ]
          have x1 : X.cell? ⟨g, 1, none⟩ = some (.slice A s.recs.length c) := rc_cell hgX 1 _ rfl
          have xf : X.frozen? ⟨g, 1, none⟩ = false := frozen_of_row _ _ _ _ _ hgX
          obtain ⟨Y, hY⟩ : ∃ Y, Y = X.setCell ⟨g, 1, none⟩ (.slice A' (s.recs ++ [x]).length c') := ⟨_, rfl⟩
          have hDY : Dy Y (fun k => S k ∨ W.heap.size ≤ k) g (s.add x) := by
            refine ⟨.inl hS, A', c', ?_, ?_⟩
            · rw [hY, heap_setCell_same _ _ _ _ _ _ hgX]; rfl
            · rw [hY]
              exact Kd.N_far (Kd.N_mono hNX (fun k hk => ⟨hk.1.elim .inl (fun h => .inr (by omega)), hk.2⟩)) (fun k hk => hk.2) _
          have hCY : Ch W Y S := by
            rw [hY]
            exact ((Ch.of_below HWW.out).trans hcX (fun k hk => .inl hk)).trans (Ch.set _ hS _ _) (fun k hk => .inl hk)
          have HDY := Aside0.mk hDY
          have HCY := Aside0.mk hCY
          have HY := Aside0.mk hY
          clear hNX hcX hDY hCY hgX hY
          refine Facts.wpAny_one (i := 9) #[true, true, true, true, true, true, true, true, true, true, false, false] rfl (by kernel_rfl) rfl (fun K hK => ?_)
          refine Facts.OpDo.value (by kernel_rfl) rfl (d := some 30) (v := (.pointer (some ⟨g, 0, none⟩))) (w1 := X) (by go_simp) (hK _ _ ?_)
          clear hK K
          simp only [Act.put, List.setIfInBounds_toArray, List.set_cons_zero, List.set_cons_succ]
          refine Facts.wpAny_one (i := 10) #[true, true, true, true, true, true, true, true, true, true, true, false] rfl (by kernel_rfl) rfl (fun K hK => ?_)
          refine Facts.OpDo.value (by kernel_rfl) rfl (d := some 31) (v := (.pointer (some ⟨g, 1, none⟩))) (w1 := X) (by go_simp) (hK _ _ ?_)
          clear hK K
          simp only [Act.put, List.setIfInBounds_toArray, List.set_cons_zero, List.set_cons_succ]
          refine Facts.wpAny_one (i := 11) #[true, true, true, true, true, true, true, true, true, true, true, true] rfl (by kernel_rfl) rfl (fun K hK => ?_)
          refine Facts.OpDo.skip (by kernel_rfl) rfl (w1 := Y) (by rw [HY.out]; go_simp) (hK _ _ ?_)
          clear hK K
          refine Facts.wpAny_done (by kernel_rfl) ?_
          have haa : (s.add x).Armed := ha
          have hoo : (s.add x).Ok := by
            obtain ⟨o1, o2, o3, o4, o5, o6, o7⟩ := hok
            refine ⟨o1, ?_, ?_, o4, o5, o6, o7⟩
            · show s.safe ≤ ((s.recs ++ [x]).length : Int)
              rw [List.length_append]; simp; omega
            · show (s.recs ++ [x]).length ≤ 1000000
              rw [List.length_append]; simp; omega
          have hfl : ¬ (s.limit - roomsOf s.recs < room x) := by
            have := HFULL.out
            simpa using this.symm
          clear x1 xf e8 f0 HG HN HBK HN0 HLE HWW HW2
          by_cases hhit : (s.add x).hit = true
          · have e1 : s.put x = (7, (s.add x).tick.crash s.keep) := by unfold DSt.put; rw [if_neg hoff, if_neg hfl, if_pos hhit]
            have HE1 := Aside0.mk e1
            have HH := Aside0.mk hhit
            clear e1 hhit hfl
            go_wp2_with (first | (go_at_call 40; refine (dtrips Y _ g (s.add x) HDY.out haa.1 haa.2).mono ?_; rintro e w1 ⟨rfl, h1, h2⟩; rw [HH.out]; have hk6 : w1.cell? ⟨g, 6, none⟩ = some (.int .i64 s.keep) := (by obtain ⟨_, A1, c1, hg1, _⟩ := h1; have e5 : (s.add x).tick.keep = s.keep := (s.add x).tick_eq.2.2.2.2.1; rw [← e5]; exact rc_cell hg1 6 _ rfl); have H1 := Aside0.mk h1; have H2 := Aside0.mk h2; clear h1 h2) | (go_at_call 22; refine (dcrash w1 _ g (s.add x).tick s.keep H1.out hoo.tick).mono ?_; rintro e w2 ⟨⟨v, rfl⟩, h1, h2⟩; have H3 := Aside0.mk h1; have H4 := Aside0.mk h2; clear h1 h2))
            go_ret
            rw [HE1.out]
            exact ⟨rfl, H3.out, (HCY.out.trans H2.out (fun k hk => hk)).trans H4.out (fun k hk => hk)⟩
          · have hh : (s.add x).hit = false := by simpa using hhit
            have e1 : s.put x = (0, (s.add x).tick) := by unfold DSt.put; rw [if_neg hoff, if_neg hfl, if_neg hhit]
            have HE1 := Aside0.mk e1
            have HH := Aside0.mk hh
            clear e1 hhit hh hfl
            go_wp2_with (first | (go_at_call 40; refine (dtrips Y _ g (s.add x) HDY.out haa.1 haa.2).mono ?_; rintro e w1 ⟨rfl, h1, h2⟩; rw [HH.out]; have H1 := Aside0.mk h1; have H2 := Aside0.mk h2; clear h1 h2))
            go_ret
            rw [HE1.out]
            exact ⟨rfl, H1.out, HCY.out.trans H2.out (fun k hk => hk)⟩
      · have e1 : s.put x = (8, s) := by
          unfold DSt.put
          have := HFULL.out
          rw [if_neg hoff, if_pos (by simpa using this.symm)]
        have HE1 := Aside0.mk e1
        clear e1
        go_wp2
        go_ret
        rw [HE1.out]
        exact ⟨rfl, ((HD.out.below HBW.out).below HW2.out).mono (fun k hk => .inl hk), (Ch.of_below HBW.out).trans (Ch.of_below (S := S) HW2.out) (fun k hk => .inl hk)⟩
end Go.Proofs.Ytbkfdejcmimhgaa
