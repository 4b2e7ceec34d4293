/- The reference's Put and Renew. -/
import Derived.Test.YtbkfdejcmimhgaaProg
import Derived.WalkKit
import Derived.WalkLawsBesides
import Derived.Outline
import Derived.LoopTactic
import Derived.Lib.Hide
import Derived.Deep.QuietTactic
import Derived.BigQuiet
import Derived.Deep.LoopGhost
import Derived.Deep.DeepCutAuto
import Derived.Deep.CutBlock
import Derived.Deep.RegionHeld3
import Derived.Deep.RegionWith
import Derived.Deep.WholeRow
import Derived.Laws.Rows
import Derived.Laws.Tables
import Derived.Laws.ResultCell
import Derived.StillTailTactics
import Derived.Deep.DeepMust
import Derived.IntWalk
import Derived.KernelRfl
import Derived.Test.YtbkfdejcmimhgaaVa
import Derived.RegionTactic
import Derived.Test.YtbkfdejcmimhgaaEb
namespace Go.Proofs.Ytbkfdejcmimhgaa
open Go.RowKit Go.Proofs.YtbkfdejcmimhgaaW.PrintWords Go.Proofs.Ytbkfdejcmimhgaa.PDiaryExact
set_option linter.unusedVariables false
set_option linter.unusedSimpArgs false
def DSt.rput (s : DSt) (x : S39) : Int × DSt :=
  if s.off = true then (7, s) else if s.limit - roomsOf s.recs < room x then (8, s) else if (s.add x).hit = true then (7, (s.add x).tick.rcrash s.keep) else (0, (s.add x).tick)
def DSt.rrenew (s : DSt) (l : List S39) : Int × DSt :=
  if s.off = true then (7, s) else if s.limit < roomsOf l then (8, s) else if s.hit = true then (7, s.tick.rcrash s.keep) else (0, { s.tick with recs := l, safe := l.length, kept := 0 })
/-- What the operations of the reference's Put's test yield. -/
def RtF (g : Nat) (cs : Array Value) (rm lim used : Int) (full : Bool) : Nat → Value → World → Prop
  | 0, v, _ | 5, v, _ | 6, v, _ | 7, v, _ => v = .pointer (some ⟨g, 0, none⟩)
  | 1, v, _ => v = .int .i64 used
  | 2, v, _ => v = .agg cs
  | 3, v, _ => v = .int .i64 rm
  | 4, v, _ => v = .int .i64 (used + rm)
  | 8, v, _ => v = .int .i64 lim
  | 9, v, _ => v = .bool full
  | _, _, _ => True
theorem RtF.stab (g : Nat) (cs : Array Value) (rm lim used : Int) (full : Bool) : ∀ i v w1 w2, RtF g cs rm lim used full i v w1 → Below w1.heap.size w1 w2 → RtF g cs rm lim used full i v w2
  | 0, _, _, _, h, _ | 1, _, _, _, h, _ | 2, _, _, _, h, _ | 3, _, _, _, h, _ | 4, _, _, _, h, _ | 5, _, _, _, h, _ | 6, _, _, _, h, _ | 7, _, _, _, h, _ | 8, _, _, _, h, _ | 9, _, _, _, h, _ => h
  | _ + 10, _, _, _, _, _ => trivial
def RuI (Wp : World) (S : Nat → Prop) (g b3 : Nat) (x : S39) (recs : List S39) (sl : Value) (cs rowg : Array Value) (L : Nat → Bool) (V : Nat → Value) (w : World) : Prop :=
  (∀ i v, ptpv g sl cs i = some v → L i = true → V i = v) ∧ w.heap[g]? = some (.cells rowg 72 (0, 0)) ∧ w.heap[b3]? = some (.cells cs 39 (0, 0)) ∧
  (L 8 = true → (∃ A' c', V 8 = .slice A' (recs ++ [x]).length c') ∧ Kd.N k39 39 w 0 (fun k => (S k ∨ Wp.heap.size ≤ k) ∧ k ≠ g) (V 8) (recs ++ [x]) ∧ Ch Wp w S) ∧
  (L 8 = false → Below Wp.heap.size Wp w) ∧
  (L 8 = false → L 7 = true → ∃ (w6 : World) (cs' : List Value), w = w6.alloc (.cells cs'.toArray 39) ∧ V 7 = .slice (some ⟨w6.heap.size, 0, none⟩) 1 1 ∧ Kd.FK k39 w6 (fun k => Wp.heap.size ≤ k) x cs' ∧ Below Wp.heap.size Wp w6) ∧
  (L 7 = false → L 6 = true → ∃ cs' : List Value, V 6 = .agg cs'.toArray ∧ Kd.FK k39 w (fun k => Wp.heap.size ≤ k) x cs') ∧ (L 8 = true → L 7 = true) ∧ (L 7 = true → L 6 = true)
section
variable {Wp w : World} {S : Nat → Prop} {g b3 : Nat} {x : S39} {recs : List S39} {sl : Value} {cs rowg : Array Value} {L : Nat → Bool} {V : Nat → Value}
theorem RuI.pure (h : RuI Wp S g b3 x recs sl cs rowg L V w) (i : Nat) (v : Value) (hv : ptpv g sl cs i = some v) (h6 : i ≠ 6) (h7 : i ≠ 7) (h8 : i ≠ 8) : RuI Wp S g b3 x recs sl cs rowg (put1 L i) (Facts.up V i v) w := by
  obtain ⟨a, b, c, d, e, f, f2, f3, f4⟩ := h
  refine ⟨fun j u hu hj => ?_, b, c, ?_, ?_, ?_, ?_, ?_, ?_⟩
  · by_cases e : j = i
    · subst e; rw [hv] at hu; injection hu with hu; simp [Facts.up, hu]
    · simp only [put1, if_neg e] at hj; simp only [Facts.up, if_neg e]; exact a j u hu hj
  all_goals simpa only [put1, Facts.up, if_neg (Ne.symm h6), if_neg (Ne.symm h7), if_neg (Ne.symm h8)]
theorem RuI.twin (h : RuI Wp S g b3 x recs sl cs rowg L V w) (hL : L 6 = false) (h7 : L 7 = false) (w' : World) (cs' : List Value) (hf : Kd.FK k39 w' (fun k => Wp.heap.size ≤ k) x cs') (hb : Below w.heap.size w w') : RuI Wp S g b3 x recs sl cs rowg (put1 L 6) (Facts.up V 6 (.agg cs'.toArray)) w' := by
  obtain ⟨a, b, c, d, e, f, f2, f3, f4⟩ := h
  have h8 : L 8 = false := by
    cases q : L 8 with
    | false => rfl
    | true => rw [f3 q] at h7; cases h7
  refine ⟨fun j u hu hj => ?_, keep_blk b hb, keep_blk c hb, ?_, ?_, ?_, ?_, ?_, ?_⟩
  · by_cases e : j = 6
    · subst e; cases hu
    · simp only [put1, if_neg e] at hj; simp only [Facts.up, if_neg e]; exact a j u hu hj
  · intro q; simp [put1, h8] at q
  · intro _; exact (e h8).trans (hb.mono (e h8).size)
  · intro _ q; simp [put1, h7] at q
  · intro _ _; exact ⟨cs', by simp [Facts.up], hf⟩
  · intro q; simp [put1, h8] at q
  · intro _; simp [put1]
theorem RuI.built (h : RuI Wp S g b3 x recs sl cs rowg L V w) (h7 : L 7 = false) (h6 : L 6 = true) (cs' : List Value) (hv : V 6 = .agg cs'.toArray) (hf : Kd.FK k39 w (fun k => Wp.heap.size ≤ k) x cs') : RuI Wp S g b3 x recs sl cs rowg (put1 L 7) (Facts.up V 7 (.slice (some ⟨w.heap.size, 0, none⟩) 1 1)) (w.alloc (.cells cs'.toArray 39)) := by
  obtain ⟨a, b, c, d, e, f, f2, f3, f4⟩ := h
  have h8 : L 8 = false := by
    cases q : L 8 with
    | false => rfl
    | true => rw [f3 q] at h7; cases h7
  have hb : Below w.heap.size w (w.alloc (.cells cs'.toArray 39)) := (Below.refl _ _).alloc (Nat.le_refl _) _
  refine ⟨fun j u hu hj => ?_, keep_blk b hb, keep_blk c hb, ?_, ?_, ?_, ?_, ?_, ?_⟩
  · by_cases e : j = 7
    · subst e; cases hu
    · simp only [put1, if_neg e] at hj; simp only [Facts.up, if_neg e]; exact a j u hu hj
  · intro q; simp [put1, h8] at q
  · intro _; exact (e h8).trans (hb.mono (e h8).size)
  · intro _ _; exact ⟨w, cs', rfl, by simp [Facts.up], hf, e h8⟩
  · intro q; simp [put1] at q
  · intro q; simp [put1]
  · intro _; simp [put1, h6]
theorem RuI.appended (h : RuI Wp S g b3 x recs sl cs rowg L V w) (h7 : L 7 = true) (v : Value) (w' : World) (hg : w'.heap[g]? = some (.cells rowg 72 (0, 0))) (hr : w'.heap[b3]? = some (.cells cs 39 (0, 0))) (hN : Kd.N k39 39 w' 0 (fun k => (S k ∨ Wp.heap.size ≤ k) ∧ k ≠ g) v (recs ++ [x])) (hc : Ch Wp w' S) : RuI Wp S g b3 x recs sl cs rowg (put1 L 8) (Facts.up V 8 v) w' := by
  obtain ⟨a, b, c, d, e, f, f2, f3, f4⟩ := h
  refine ⟨fun j u hu hj => ?_, hg, hr, ?_, ?_, ?_, ?_, ?_, ?_⟩
  · by_cases e : j = 8
    · subst e; cases hu
    · simp only [put1, if_neg e] at hj; simp only [Facts.up, if_neg e]; exact a j u hu hj
  · intro _
    have e8 : Facts.up V 8 v 8 = v := by simp [Facts.up]
    rw [e8]
    obtain ⟨A', c', rfl⟩ := Kd.N_slice hN
    exact ⟨⟨A', c', rfl⟩, hN, hc⟩
  · intro q; simp [put1] at q
  · intro q; simp [put1] at q
  · intro q; simp [put1, h7] at q
  · intro _; simp [put1, h7]
  · intro _; simp [put1, f4 h7]
theorem RuI.done (h : RuI Wp S g b3 x recs sl cs rowg L V w) (h8 : L 8 = true) : w.heap[g]? = some (.cells rowg 72 (0, 0)) ∧ (∃ A' c', V 8 = .slice A' (recs ++ [x]).length c') ∧ Kd.N k39 39 w 0 (fun k => (S k ∨ Wp.heap.size ≤ k) ∧ k ≠ g) (V 8) (recs ++ [x]) ∧ Ch Wp w S := ⟨h.2.1, h.2.2.2.1 h8⟩
end
set_option maxRecDepth 100000 in
set_option maxHeartbeats 2000000 in
theorem rput (W : World) (S : Nat → Prop) (g : Nat) (s : DSt) (x : S39) (cs : List Value) (hD : Ry W S g s) (hSb : ∀ k, S k → k < W.heap.size) (hK : k39.K W x cs) (hL : Lite x) (hh : x.f1.f4.size ≤ 1000000) (hok : s.Ok) (hlen : s.recs.length < 1000000) (hF : Fine s.recs) (ha : s.Armed) (hl0 : 0 ≤ s.limit) (hl1 : s.limit ≤ 1000000) :
    Calls Try.prog 30 #[.pointer (some ⟨g, 0, none⟩), .agg cs.toArray] W fun e w' => e = .returned (.int .i64 (s.rput x).1) ∧ Ry w' (fun k => S k ∨ W.heap.size ≤ k) g (s.rput x).2 ∧ Ch W w' S := by
  have HD := Aside0.mk hD
  have HKK := Aside0.mk hK
  have hS := hD.1
  have hglt := hD.lt
  obtain ⟨A4, c4, A5, c5, A10, c10, A14, c14, rfl, l4, g4, l5, g5, l10, g10, l14, g14⟩ := k39_open hK
  obtain ⟨W1, hW1⟩ : ∃ W1, W1 = W.alloc (.cells (rc x (.slice A4 x.f1.f1.length c4) (.slice A5 x.f1.f2.length c5) (.slice A10 x.f3.length c10) (.slice A14 x.f7.length c14)) 39) := ⟨_, rfl⟩
  have hbk : W1.heap[W.heap.size]? = some (.cells (rc x (.slice A4 x.f1.f1.length c4) (.slice A5 x.f1.f2.length c5) (.slice A10 x.f3.length c10) (.slice A14 x.f7.length c14)) 39 (0, 0)) := by rw [hW1]; exact heap_alloc_new _ _
  have hbw : Below W.heap.size W W1 := by rw [hW1]; exact (Below.refl _ _).alloc (Nat.le_refl _) _
  have hz1 : W1.heap.size = W.heap.size + 1 := by rw [hW1]; simp
  have hD1 := hD.below hbw
  obtain ⟨_, A, c, hg, hN⟩ := hD1
  have HBK := Aside0.mk hbk
  have HBW := Aside0.mk hbw
  have HG := Aside0.mk hg
  have HN := Aside0.mk hN
  have hst : ∀ Z : World, Z = W.alloc (.cells #[.int .i64 x.f0, .bool x.f1.f0.f0, .string x.f1.f0.f1, .string x.f1.f0.f2, .slice A4 x.f1.f1.length c4, .slice A5 x.f1.f2.length c5, .bool x.f1.f3, .string x.f1.f4, .int .i64 x.f1.f5, .int .i64 x.f2, .slice A10 x.f3.length c10, .int .i64 x.f4, .int .i64 x.f5, .int .i64 x.f6, .slice A14 x.f7.length c14] 39) → Z = W1 := fun Z hZ => by rw [hZ, hW1]; rfl
  clear hD hK l4 g4 l5 g5 l10 g10 l14 g14 hbk hbw hN hW1
  by_cases hoff : s.off = true
  · have e1 : s.rput x = (7, s) := by unfold DSt.rput; rw [if_pos hoff]
    rw [e1]
    have q3 : W1.cell? ⟨g, 3, none⟩ = some (.bool true) := by rw [← hoff]; exact rc_cell hg 3 _ rfl
    clear hg e1
    go_enter Try.func30, Try.ntmps30
    go_upto_region 1 with (fail)
    clear hst
    go_wp2
    go_ret
    exact ⟨rfl, (HD.out.below HBW.out).mono (fun k hk => .inl hk), Ch.of_below HBW.out⟩
  · have hoff' : s.off = false := by simpa using hoff
    have q3 : W1.cell? ⟨g, 3, none⟩ = some (.bool false) := by rw [← hoff']; exact rc_cell hg 3 _ rfl
    clear hg
    go_enter Try.func30, Try.ntmps30
    go_upto_region 1 with (fail)
    clear hst
    go_upto_region 3 with (fail)
    obtain ⟨full, hfull⟩ : ∃ full : Bool, full = decide (s.limit - roomsOf s.recs < room x) := ⟨_, rfl⟩
    have HFULL := Aside0.mk hfull
    have hroom1 := room_le x hL hh
    have hroom0 := room_pos x
    have hu0 := roomsOf_nonneg s.recs
    obtain ⟨rm, hrm⟩ : ∃ rm, rm = room x := ⟨_, rfl⟩
    obtain ⟨us, hus⟩ : ∃ us, us = roomsOf s.recs := ⟨_, rfl⟩
    have hus1 : us ≤ 1000000000000000 := by have := rooms_le s.recs hF; omega
    have HRM := Aside0.mk hrm
    have HUS := Aside0.mk hus
    rw [← hrm, ← hus] at hfull
    rw [← hrm] at hroom1 hroom0
    rw [← hus] at hu0
    have i1 : IntKind.i64.wrap (us + rm) = us + rm := IntWalk.i64_in _ (by omega)
    have hfd : decide (s.limit < us + rm) = full := by rw [hfull]; exact decide_eq_decide.2 (by omega)
    clear hrm hus hfull
    refine Facts.region_any (n := 0 + 10) #[false, false, false, false, false, false, false, false, false, false] (by kernel_rfl) rfl (by kernel_rfl) (fun W0 hW0 hB0 => ?_)
    have hB1 : Below W1.heap.size W1 W0 := hB0 _
    clear hW0 hB0
    refine Facts.wpAny_eval [(0, some 9), (1, some 10), (2, some 11), (3, some 12), (4, some 13), (5, some 14), (6, some 15), (7, some 16), (8, some 17), (9, some 18)] _ #[true, true, true, true, true, true, true, true, true, true] (by kernel_rfl) 0 _ _ (fun w1 w2 => Below w1.heap.size w1 w2) (RtF g (rc x (.slice A4 x.f1.f1.length c4) (.slice A5 x.f1.f2.length c5) (.slice A10 x.f3.length c10) (.slice A14 x.f7.length c14)) rm s.limit us full) Facts.below_refl Facts.below_tr (RtF.stab _ _ _ _ _ _) ?hop ?H (fun _ => undef) (by kernel_rfl)
    case hop =>
      intro y hx o ho V W2 hR hpre K hK
      have hW : Below W1.heap.size W1 W2 := hB1.trans (hR.mono hB1.size)
      simp only [List.mem_cons, List.not_mem_nil, or_false] at hx
      rcases hx with rfl | rfl | rfl | rfl | rfl | rfl | rfl | rfl | rfl | rfl
      · obtain rfl := Option.some.inj ho
        refine Facts.OpDo.value (by kernel_rfl) rfl (v := (.pointer (some ⟨g, 0, none⟩))) (w1 := W2) ?_ ?_
        · simp only [Facts.acE, Act.put, List.setIfInBounds_toArray, List.set_cons_zero, List.set_cons_succ]
          go_simp
        · exact hK _ _ rfl (Below.refl _ _)
      · obtain rfl := Option.some.inj ho
        have fp0 : V 0 = (.pointer (some ⟨g, 0, none⟩)) := hpre { on := 0, ground := .data } (by simp) rfl rfl
        refine Facts.OpDo.goes Try.func46 (by kernel_rfl) rfl #[V 0] (by kernel_rfl) rfl rfl (by kernel_rfl) ?_
        rw [fp0]
        refine (rused_at W2 S g s us HUS.out ((HD.out.below HBW.out).below hW) hF hok.2.2.1).mono ?_
        rintro e w' ⟨rfl, hb'⟩
        exact ⟨_, rfl, hK _ _ rfl hb'⟩
      · obtain rfl := Option.some.inj ho
        refine Facts.load_row_ (by kernel_rfl) rfl 39 (.tmp 3) rfl W.heap.size (by kernel_rfl) 39 (rc x (.slice A4 x.f1.f1.length c4) (.slice A5 x.f1.f2.length c5) (.slice A10 x.f3.length c10) (.slice A14 x.f7.length c14)) (0, 0) _ (keep_blk HBK.out hW) Try.underlying39 rfl (by kernel_rfl) ?_
        exact hK _ _ rfl (Below.refl _ _)
      · obtain rfl := Option.some.inj ho
        have fp2 : V 2 = (.agg (rc x (.slice A4 x.f1.f1.length c4) (.slice A5 x.f1.f2.length c5) (.slice A10 x.f3.length c10) (.slice A14 x.f7.length c14))) := hpre { on := 2, ground := .data } (by simp) rfl rfl
        refine Facts.OpDo.goes Try.func47 (by kernel_rfl) rfl #[V 2] (by kernel_rfl) rfl rfl (by kernel_rfl) ?_
        rw [fp2]
        refine (rroom_at x _ _ _ _ rm W2 HRM.out (k39.K_below (HBW.out.trans (hW.mono HBW.out.size)) HKK.out) hL hh).mono ?_
        rintro e w' ⟨rfl, hb'⟩
        exact ⟨_, rfl, hK _ _ rfl hb'⟩
      · obtain rfl := Option.some.inj ho
        have fp1 : V 1 = (.int .i64 us) := hpre { on := 1, ground := .data } (by simp) rfl rfl
        have fp3 : V 3 = (.int .i64 rm) := hpre { on := 3, ground := .data } (by simp) rfl rfl
        refine Facts.OpDo.value (by kernel_rfl) rfl (v := (.int .i64 (us + rm))) (w1 := W2) ?_ ?_
        · simp only [Facts.acE, fp1, fp3, Act.put, List.setIfInBounds_toArray, List.set_cons_zero, List.set_cons_succ]
          go_simp
        · exact hK _ _ rfl (Below.refl _ _)
      · obtain rfl := Option.some.inj ho
        refine Facts.OpDo.value (by kernel_rfl) rfl (v := (.pointer (some ⟨g, 0, none⟩))) (w1 := W2) ?_ ?_
        · simp only [Facts.acE, Act.put, List.setIfInBounds_toArray, List.set_cons_zero, List.set_cons_succ]
          go_simp
        · exact hK _ _ rfl (Below.refl _ _)
      · obtain rfl := Option.some.inj ho
        have fp5 : V 5 = (.pointer (some ⟨g, 0, none⟩)) := hpre { on := 5, ground := .data } (by simp) rfl rfl
        refine Facts.OpDo.value (by kernel_rfl) rfl (v := (.pointer (some ⟨g, 0, none⟩))) (w1 := W2) ?_ ?_
        · simp only [Facts.acE, fp5, Act.put, List.setIfInBounds_toArray, List.set_cons_zero, List.set_cons_succ]
          go_simp
        · exact hK _ _ rfl (Below.refl _ _)
      · obtain rfl := Option.some.inj ho
        have fp6 : V 6 = (.pointer (some ⟨g, 0, none⟩)) := hpre { on := 6, ground := .data } (by simp) rfl rfl
        refine Facts.OpDo.value (by kernel_rfl) rfl (v := (.pointer (some ⟨g, 0, none⟩))) (w1 := W2) ?_ ?_
        · simp only [Facts.acE, fp6, Act.put, List.setIfInBounds_toArray, List.set_cons_zero, List.set_cons_succ]
          go_simp
        · exact hK _ _ rfl (Below.refl _ _)
      · obtain rfl := Option.some.inj ho
        have fp7 : V 7 = (.pointer (some ⟨g, 0, none⟩)) := hpre { on := 7, ground := .data } (by simp) rfl rfl
        have hc : W2.cell? ⟨g, 0, none⟩ = some (.int .i64 s.limit) := rc_cell (keep_blk HG.out hW) 0 _ rfl
        refine Facts.OpDo.value (by kernel_rfl) rfl (v := (.int .i64 s.limit)) (w1 := W2) ?_ ?_
        · simp only [Facts.acE, fp7, Act.put, List.setIfInBounds_toArray, List.set_cons_zero, List.set_cons_succ]
          go_simp
        · exact hK _ _ rfl (Below.refl _ _)
      · obtain rfl := Option.some.inj ho
        have fp4 : V 4 = (.int .i64 (us + rm)) := hpre { on := 4, ground := .data } (by simp) rfl rfl
        have fp8 : V 8 = (.int .i64 s.limit) := hpre { on := 8, ground := .data } (by simp) rfl rfl
        refine Facts.OpDo.value (by kernel_rfl) rfl (v := (.bool full)) (w1 := W2) ?_ ?_
        · simp only [Facts.acE, fp4, fp8, Act.put, List.setIfInBounds_toArray, List.set_cons_zero, List.set_cons_succ]
          go_simp
        · exact hK _ _ rfl (Below.refl _ _)
    case H =>
      intro V W2 hR hΦ
      have f0 := hΦ (0, some 9) (by simp)
      have f1 := hΦ (1, some 10) (by simp)
      have f2 := hΦ (2, some 11) (by simp)
      have f3 := hΦ (3, some 12) (by simp)
      have f4 := hΦ (4, some 13) (by simp)
      have f5 := hΦ (5, some 14) (by simp)
      have f6 := hΦ (6, some 15) (by simp)
      have f7 := hΦ (7, some 16) (by simp)
      have f8 := hΦ (8, some 17) (by simp)
      have f9 := hΦ (9, some 18) (by simp)
      clear hΦ
      simp only [RtF] at f0 f1 f2 f3 f4 f5 f6 f7 f8 f9
      have hW : Below W1.heap.size W1 W2 := hB1.trans (hR.mono hB1.size)
      clear hR
      simp only [Facts.acE, f0, f1, f2, f3, f4, f5, f6, f7, f8, f9, Act.put, List.setIfInBounds_toArray, List.set_cons_zero, List.set_cons_succ]
      clear f0 f1 f2 f3 f4 f5 f6 f7 f8 f9 V
      refine Facts.wpAny_done (by kernel_rfl) ?_
      have HW2 := Aside0.mk hW
      clear hW hB1
      cases full
      · skip
        go_upto_region 5 with (fail)
        refine Facts.region_any (n := 3 + 9) #[false, false, false, false, false, false, false, false, false, false, false, false] (by kernel_rfl) rfl (by kernel_rfl) (fun W0 hW0 hB0 => ?_)
        have hP : Below W1.heap.size W1 W0 := HW2.out.trans ((hB0 _ : Below W2.heap.size W2 W0).mono HW2.out.size)
        clear hB0 hW0
        have hg0 := keep_blk HG.out hP
        have hb0 := keep_blk HBK.out hP
        have hN0 : Kd.N k39 39 W0 0 (fun k => S k ∧ k ≠ g) (.slice A s.recs.length c) s.recs := Kd.N_below HN.out hP
        have hz0 : W.heap.size + 1 ≤ W0.heap.size := by have := hP.size; omega
        have hWW : Below W.heap.size W W0 := HBW.out.trans (hP.mono (by omega))
        have HN0 := Aside0.mk hN0
        have HWW := Aside0.mk hWW
        have hle : (s.recs.length + 1) * 208 ≤ 140737488355328 := by omega
        have HLE := Aside0.mk hle
        clear hP hN0 hWW hle
        refine Facts.wpAny_inv [(0, some 19), (1, some 20), (2, some 21), (3, some 22), (4, some 23), (5, some 24), (6, some 25), (7, some 26), (8, some 27)] _ #[true, true, true, true, true, true, true, true, true, false, false, false] (by kernel_rfl) 3 _ _ (RuI W0 S g W.heap.size x s.recs (.slice A s.recs.length c) (rc x (.slice A4 x.f1.f1.length c4) (.slice A5 x.f1.f2.length c5) (.slice A10 x.f3.length c10) (.slice A14 x.f7.length c14)) (dcells s (.slice A s.recs.length c))) ?hop2 ?H2 (fun _ => undef) (by kernel_rfl) ?hI2
        case hI2 =>
          refine ⟨fun i v _ h => ?_, hg0, hb0, fun h => ?_, fun _ => Below.refl _ _, fun _ h => ?_, fun _ h => ?_, fun h => ?_, fun h => ?_⟩
          · exfalso
            revert h
            match i with
            | 0 | 1 | 2 | 3 | 4 | 5 | 6 | 7 | 8 | 9 | 10 | 11 => exact (by decide)
            | n + 12 => simp
          all_goals exact absurd h (by decide)
        case hop2 =>
          intro z hz o ho L V X hI hL9 hpre K hK
          simp only [List.mem_cons, List.not_mem_nil, or_false] at hz
          rcases hz with rfl | rfl | rfl | rfl | rfl | rfl | rfl | rfl | rfl
          · obtain rfl := Option.some.inj ho
            refine Facts.OpDo.value (by kernel_rfl) rfl (v := (.pointer (some ⟨g, 0, none⟩))) (w1 := X) ?_ (hK _ _ (hI.pure 0 _ rfl (by decide) (by decide) (by decide)))
            simp only [Facts.acE, Act.put, List.setIfInBounds_toArray, List.set_cons_zero, List.set_cons_succ]
            go_simp
          · obtain rfl := Option.some.inj ho
            refine Facts.OpDo.value (by kernel_rfl) rfl (v := (.pointer (some ⟨g, 0, none⟩))) (w1 := X) ?_ (hK _ _ (hI.pure 1 _ rfl (by decide) (by decide) (by decide)))
            simp only [Facts.acE, Act.put, List.setIfInBounds_toArray, List.set_cons_zero, List.set_cons_succ]
            go_simp
          · obtain rfl := Option.some.inj ho
            have fp1 : V 1 = (.pointer (some ⟨g, 0, none⟩)) := hI.1 1 _ rfl (hpre { on := 1, ground := .data } (by simp) rfl rfl)
            refine Facts.OpDo.value (by kernel_rfl) rfl (v := (.pointer (some ⟨g, 0, none⟩))) (w1 := X) ?_ (hK _ _ (hI.pure 2 _ rfl (by decide) (by decide) (by decide)))
            simp only [Facts.acE, fp1, Act.put, List.setIfInBounds_toArray, List.set_cons_zero, List.set_cons_succ]
            go_simp
          · obtain rfl := Option.some.inj ho
            have fp2 : V 2 = (.pointer (some ⟨g, 0, none⟩)) := hI.1 2 _ rfl (hpre { on := 2, ground := .data } (by simp) rfl rfl)
            refine Facts.OpDo.value (by kernel_rfl) rfl (v := (.pointer (some ⟨g, 1, none⟩))) (w1 := X) ?_ (hK _ _ (hI.pure 3 _ rfl (by decide) (by decide) (by decide)))
            simp only [Facts.acE, fp2, Act.put, List.setIfInBounds_toArray, List.set_cons_zero, List.set_cons_succ]
            go_simp
          · obtain rfl := Option.some.inj ho
            have fp3 : V 3 = (.pointer (some ⟨g, 1, none⟩)) := hI.1 3 _ rfl (hpre { on := 3, ground := .data } (by simp) rfl rfl)
            have hc : X.cell? ⟨g, 1, none⟩ = some (.slice A s.recs.length c) := rc_cell hI.2.1 1 _ rfl
            refine Facts.OpDo.value (by kernel_rfl) rfl (v := (.slice A s.recs.length c)) (w1 := X) ?_ (hK _ _ (hI.pure 4 _ rfl (by decide) (by decide) (by decide)))
            simp only [Facts.acE, fp3, Act.put, List.setIfInBounds_toArray, List.set_cons_zero, List.set_cons_succ]
            go_simp
          · obtain rfl := Option.some.inj ho
            refine Facts.load_row_ (by kernel_rfl) rfl 39 (.tmp 3) rfl W.heap.size (by kernel_rfl) 39 (rc x (.slice A4 x.f1.f1.length c4) (.slice A5 x.f1.f2.length c5) (.slice A10 x.f3.length c10) (.slice A14 x.f7.length c14)) (0, 0) _ hI.2.2.1 Try.underlying39 rfl (by kernel_rfl) ?_
            exact hK _ _ (hI.pure 5 _ rfl (by decide) (by decide) (by decide))
          · obtain rfl := Option.some.inj ho
            have fp5 : V 5 = .agg (rc x (.slice A4 x.f1.f1.length c4) (.slice A5 x.f1.f2.length c5) (.slice A10 x.f3.length c10) (.slice A14 x.f7.length c14)) := hI.1 5 _ rfl (hpre { on := 5, ground := .data } (by simp) rfl rfl)
            have h7 : L 7 = false := by
              cases e : L 7 with
              | false => rfl
              | true =>
                have e6 := hI.2.2.2.2.2.2.2.2 e
                have e7 : L 6 = false := hL9
                rw [e7] at e6
                cases e6
            have h8 : L 8 = false := by
              cases e : L 8 with
              | false => rfl
              | true =>
                have e6 := hI.2.2.2.2.2.2.2.1 e
                rw [h7] at e6
                cases e6
            have hX := hI.2.2.2.2.1 h8
            refine Facts.OpDo.goes Try.func44 (by kernel_rfl) rfl #[V 5] (by kernel_rfl) rfl rfl (by kernel_rfl) ?_
            rw [fp5]
            refine (rtwin_any x _ X (k39.K_below (HWW.out.trans (hX.mono (by omega))) HKK.out) hL.1 hL.2.1 hL.2.2.1 hL.2.2.2).mono ?_
            rintro e w' ⟨cs', rfl, hf, hb'⟩
            exact ⟨_, rfl, hK _ _ (hI.twin hL9 h7 w' cs' (Kd.FK_mono hf (fun k hk => Nat.le_trans hX.size hk)) hb')⟩
          · obtain rfl := Option.some.inj ho
            have h6 : L 6 = true := hpre { on := 6, ground := .data } (by simp) rfl rfl
            obtain ⟨cs', e6, hf⟩ := hI.2.2.2.2.2.2.1 hL9 h6
            obtain ⟨T4, d4, T5, d5, T10, d10, T14, d14, rfl, _, _, _, _, _, _, _, _⟩ := k39_openF hf
            have hB := hI.built hL9 h6 _ e6 hf
            refine Facts.OpDo.value (by kernel_rfl) rfl (v := .slice (some ⟨X.heap.size, 0, none⟩) 1 1) (w1 := X.alloc (.cells (rc x (.slice T4 x.f1.f1.length d4) (.slice T5 x.f1.f2.length d5) (.slice T10 x.f3.length d10) (.slice T14 x.f7.length d14)) 39)) ?_ (hK _ _ hB)
            simp only [Facts.acE, e6, Act.put, List.setIfInBounds_toArray, List.set_cons_zero, List.set_cons_succ]
            go_simp
            rfl
          · obtain rfl := Option.some.inj ho
            have fp4 : V 4 = (.slice A s.recs.length c) := hI.1 4 _ rfl (hpre { on := 4, ground := .data } (by simp) rfl rfl)
            have h7 : L 7 = true := hpre { on := 7, ground := .data } (by simp) rfl rfl
            obtain ⟨w6, cs', eX, e7, hf, hb6⟩ := hI.2.2.2.2.2.1 hL9 h7
            have hown : ∀ k, (Value.slice A s.recs.length c).ownBlock = some k → S k ∧ k ≠ g := fun k hk => HN0.out.1 k hk
            have hz6 := hb6.size
            refine Facts.OpDo.of_list (by kernel_rfl) rfl ?_
            rw [eX]
            refine Kd.N_append k39 (w0 := W0) 0 rfl (.tmp 23) (.tmp 26) 22 39 (.agg #[.int .i64 0, .bool false, .string ⟨#[]⟩, .string ⟨#[]⟩, .slice none 0 0, .slice none 0 0, .bool false, .string ⟨#[]⟩, .int .i64 0, .int .i64 0, .slice none 0 0, .int .i64 0, .int .i64 0, .int .i64 0, .slice none 0 0]) 208 rfl Try.underlying22 info39 rfl (by decide) (by omega) (.slice A s.recs.length c) s.recs x cs' (fun k => (S k ∨ W0.heap.size ≤ k) ∧ k ≠ g) (fun k => W0.heap.size ≤ k) ?hs ?hx hf ?h1 ?h2 ?h3 ?h4 (Nat.zero_le _) HLE.out ?_
            case hs => exact Eq.trans (b := V 4) (by kernel_rfl) fp4
            case hx => exact Eq.trans (b := V 7) (by kernel_rfl) e7
            case h1 =>
              intro k hk
              refine ⟨⟨.inr hk, by omega⟩, fun he => ?_⟩
              have := hSb k (hown k he.symm).1
              omega
            case h2 => intro k hk; exact ⟨.inr (by omega), by omega⟩
            case h3 => exact Kd.N_mono (Kd.N_below HN0.out hb6) (fun k hk => ⟨.inl hk.1, hk.2⟩)
            case h4 => exact hb6.mono (Nat.zero_le _)
            intro v1 w1 hr hb hgr hat
            refine hK _ _ (hI.appended h7 v1 w1 ?_ ?_ hr ⟨hb, (Kept.of_below hb6 S).then_ (kept_grown hgr (fun k hk => (hown k hk).1)) (fun k hk => .inl hk)⟩)
            · exact (hgr.block g (by omega) (fun he => (hown g he.symm).2 rfl)).trans (keep_blk hg0 hb6)
            · exact (hgr.block W.heap.size (by omega) (fun he => by have := hSb _ (hown _ he.symm).1; omega)).trans (keep_blk hb0 hb6)
        case H2 =>
          intro V X hI
          obtain ⟨hgX, ⟨A', c', e8⟩, hNX, hcX⟩ := hI.done rfl
          have f0 : V 0 = (.pointer (some ⟨g, 0, none⟩)) := hI.1 0 _ rfl rfl
          clear hI
          rw [e8] at hNX
          simp only [Facts.acE, f0, e8, Act.put, List.setIfInBounds_toArray, List.set_cons_zero, List.set_cons_succ]
          have x1 : X.cell? ⟨g, 1, none⟩ = some (.slice A s.recs.length c) := rc_cell hgX 1 _ rfl
          have xf : X.frozen? ⟨g, 1, none⟩ = false := frozen_of_row _ _ _ _ _ hgX
          obtain ⟨Y, hY⟩ : ∃ Y, Y = X.setCell ⟨g, 1, none⟩ (.slice A' (s.recs ++ [x]).length c') := ⟨_, rfl⟩
          have hDY : Ry Y (fun k => S k ∨ W.heap.size ≤ k) g (s.add x) := by
            refine ⟨.inl hS, A', c', ?_, ?_⟩
            · rw [hY, heap_setCell_same _ _ _ _ _ _ hgX]; rfl
            · rw [hY]
              exact Kd.N_far (Kd.N_mono hNX (fun k hk => ⟨hk.1.elim .inl (fun h => .inr (by omega)), hk.2⟩)) (fun k hk => hk.2) _
          have hCY : Ch W Y S := by
            rw [hY]
            exact ((Ch.of_below HWW.out).trans hcX (fun k hk => .inl hk)).trans (Ch.set _ hS _ _) (fun k hk => .inl hk)
          have HDY := Aside0.mk hDY
          have HCY := Aside0.mk hCY
          have HY := Aside0.mk hY
          clear hNX hcX hDY hCY hgX hY
          refine Facts.wpAny_one (i := 9) #[true, true, true, true, true, true, true, true, true, true, false, false] rfl (by kernel_rfl) rfl (fun K hK => ?_)
          refine Facts.OpDo.value (by kernel_rfl) rfl (d := some 28) (v := (.pointer (some ⟨g, 0, none⟩))) (w1 := X) (by go_simp) (hK _ _ ?_)
          clear hK K
          simp only [Act.put, List.setIfInBounds_toArray, List.set_cons_zero, List.set_cons_succ]
          refine Facts.wpAny_one (i := 10) #[true, true, true, true, true, true, true, true, true, true, true, false] rfl (by kernel_rfl) rfl (fun K hK => ?_)
          refine Facts.OpDo.value (by kernel_rfl) rfl (d := some 29) (v := (.pointer (some ⟨g, 1, none⟩))) (w1 := X) (by go_simp) (hK _ _ ?_)
          clear hK K
          simp only [Act.put, List.setIfInBounds_toArray, List.set_cons_zero, List.set_cons_succ]
          refine Facts.wpAny_one (i := 11) #[true, true, true, true, true, true, true, true, true, true, true, true] rfl (by kernel_rfl) rfl (fun K hK => ?_)
          refine Facts.OpDo.skip (by kernel_rfl) rfl (w1 := Y) (by rw [HY.out]; go_simp) (hK _ _ ?_)
          clear hK K
          refine Facts.wpAny_done (by kernel_rfl) ?_
          have haa : (s.add x).Armed := ha
          have hoo : (s.add x).Ok := by
            obtain ⟨o1, o2, o3, o4, o5, o6, o7⟩ := hok
            refine ⟨o1, ?_, ?_, o4, o5, o6, o7⟩
            · show s.safe ≤ ((s.recs ++ [x]).length : Int)
              rw [List.length_append]; simp; omega
            · show (s.recs ++ [x]).length ≤ 1000000
              rw [List.length_append]; simp; omega
          have hfl : ¬ (s.limit - roomsOf s.recs < room x) := by
            have := HFULL.out
            simpa using this.symm
          clear x1 xf e8 f0 HG HN HBK HN0 HLE HWW HW2
          by_cases hhit : (s.add x).hit = true
          · have e1 : s.rput x = (7, (s.add x).tick.rcrash s.keep) := by unfold DSt.rput; rw [if_neg hoff, if_neg hfl, if_pos hhit]
            have HE1 := Aside0.mk e1
            have HH := Aside0.mk hhit
            clear e1 hhit hfl
            go_wp2_with (first | (go_at_call 48; refine (rtrips Y _ g (s.add x) HDY.out haa.1 haa.2).mono ?_; rintro e w1 ⟨rfl, h1, h2⟩; rw [HH.out]; have hk6 : w1.cell? ⟨g, 6, none⟩ = some (.int .i64 s.keep) := (by obtain ⟨_, A1, c1, hg1, _⟩ := h1; have e5 : (s.add x).tick.keep = s.keep := (s.add x).tick_eq.2.2.2.2.1; rw [← e5]; exact rc_cell hg1 6 _ rfl); have H1 := Aside0.mk h1; have H2 := Aside0.mk h2; clear h1 h2) | (go_at_call 33; refine (rcrash w1 _ g (s.add x).tick s.keep H1.out hoo.tick).mono ?_; rintro e w2 ⟨⟨v, rfl⟩, h1, h2⟩; have H3 := Aside0.mk h1; have H4 := Aside0.mk h2; clear h1 h2))
            go_ret
            rw [HE1.out]
            exact ⟨rfl, H3.out, (HCY.out.trans H2.out (fun k hk => hk)).trans H4.out (fun k hk => hk)⟩
          · have hh : (s.add x).hit = false := by simpa using hhit
            have e1 : s.rput x = (0, (s.add x).tick) := by unfold DSt.rput; rw [if_neg hoff, if_neg hfl, if_neg hhit]
            have HE1 := Aside0.mk e1
            have HH := Aside0.mk hh
            clear e1 hhit hh hfl
            go_wp2_with (first | (go_at_call 48; refine (rtrips Y _ g (s.add x) HDY.out haa.1 haa.2).mono ?_; rintro e w1 ⟨rfl, h1, h2⟩; rw [HH.out]; have H1 := Aside0.mk h1; have H2 := Aside0.mk h2; clear h1 h2))
            go_ret
            rw [HE1.out]
            exact ⟨rfl, H1.out, HCY.out.trans H2.out (fun k hk => hk)⟩
      · have e1 : s.rput x = (8, s) := by
          unfold DSt.rput
          have := HFULL.out
          rw [if_neg hoff, if_pos (by simpa using this.symm)]
        have HE1 := Aside0.mk e1
        clear e1
        go_wp2
        go_ret
        rw [HE1.out]
        exact ⟨rfl, ((HD.out.below HBW.out).below HW2.out).mono (fun k hk => .inl hk), (Ch.of_below HBW.out).trans (Ch.of_below (S := S) HW2.out) (fun k hk => .inl hk)⟩
theorem ry_renewed (W : World) (S : Nat → Prop) (g : Nat) (t : DSt) (l : List S39) (A1 : Option Addr) (c1 : Nat) (rv : Value) (w2 : World) (hg : w2.heap[g]? = some (.cells (dcells t rv) 72 (0, 0))) (hS : S g) (N0 : Nat) (hlt : g < N0) (hW : W.heap.size ≤ N0) (hN : Kd.N k39 39 w2 N0 (fun k => N0 ≤ k) (.slice A1 l.length c1) l) : Ry (w2.setCell ⟨g, 1, none⟩ (.slice A1 l.length c1)) (fun k => S k ∨ W.heap.size ≤ k) g { t with recs := l } := by
  refine ⟨.inl hS, A1, c1, ?_, ?_⟩
  · rw [heap_setCell_same _ _ _ _ _ _ hg]
    rfl
  · exact Kd.N_far (Kd.N_lower (Kd.N_mono hN (fun k hk => ⟨.inr (Nat.le_trans hW hk), fun e => by omega⟩)) (Nat.zero_le _)) (fun k hk => hk.2) _
set_option maxRecDepth 100000 in
set_option maxHeartbeats 2000000 in
theorem rrenew (W : World) (S : Nat → Prop) (ok : Nat → Prop) (g : Nat) (s : DSt) (l : List S39) (A : Option Addr) (c : Nat) (hD : Ry W S g s) (hSb : ∀ k, S k → k < W.heap.size) (hV : Kd.F k39 W ok A l.length l) (hd : ∀ k, ok k → ¬ S k) (hc : l.length ≤ c) (hF : Fine l) (hl : l.length ≤ 1000000) (hok : s.Ok) (ha : s.Armed) :
    Calls Try.prog 32 #[.pointer (some ⟨g, 0, none⟩), .slice A l.length c] W fun e w' => e = .returned (.int .i64 (s.rrenew l).1) ∧ Ry w' (fun k => S k ∨ W.heap.size ≤ k) g (s.rrenew l).2 ∧ Ch W w' S := by
  have HD := Aside0.mk hD
  have HV := Aside0.mk hV
  have hS := hD.1
  have hglt := hD.lt
  obtain ⟨_, A0, c0, hg, hN⟩ := hD
  have HG := Aside0.mk hg
  clear hN hV
  by_cases hoff : s.off = true
  · have e1 : s.rrenew l = (7, s) := by unfold DSt.rrenew; rw [if_pos hoff]
    rw [e1]
    have q3 : W.cell? ⟨g, 3, none⟩ = some (.bool true) := by rw [← hoff]; exact rc_cell hg 3 _ rfl
    clear hg e1
    go_enter Try.func32, Try.ntmps32
    go_wp2
    go_ret
    exact ⟨rfl, HD.out.mono (fun k hk => .inl hk), Ch.refl _ _⟩
  · have hoff' : s.off = false := by simpa using hoff
    have q3 : W.cell? ⟨g, 3, none⟩ = some (.bool false) := by rw [← hoff']; exact rc_cell hg 3 _ rfl
    clear hg
    go_enter Try.func32, Try.ntmps32
    go_upto_region 3 with (fail)
    obtain ⟨full, hfull⟩ : ∃ full : Bool, full = decide (s.limit < roomsOf l) := ⟨_, rfl⟩
    have HFULL := Aside0.mk hfull
    obtain ⟨rm, hrm⟩ : ∃ rm, rm = roomsOf l := ⟨_, rfl⟩
    have HRM := Aside0.mk hrm
    rw [← hrm] at hfull
    have hfd : decide (s.limit < rm) = full := hfull.symm
    clear hrm hfull
    refine Facts.region_any (n := 0 + 7) #[false, false, false, false, false, false, false] (by kernel_rfl) rfl (by kernel_rfl) (fun W0 hW0 hB0 => ?_)
    have hB1 : Below W.heap.size W W0 := hB0 _
    clear hW0 hB0
    refine Facts.wpAny_eval [(0, some 9), (1, some 10), (2, some 11), (3, some 12), (4, some 13), (5, some 14), (6, some 15)] _ #[true, true, true, true, true, true, true] (by kernel_rfl) 0 _ _ (fun w1 w2 => Below w1.heap.size w1 w2) (RnF g (.slice A l.length c) rm s.limit full) Facts.below_refl Facts.below_tr (RnF.stab _ _ _ _ _) ?hop ?H (fun _ => undef) (by kernel_rfl)
    case hop =>
      intro y hx o ho V W2 hR hpre K hK
      have hW : Below W.heap.size W W2 := hB1.trans (hR.mono hB1.size)
      simp only [List.mem_cons, List.not_mem_nil, or_false] at hx
      rcases hx with rfl | rfl | rfl | rfl | rfl | rfl | rfl
      · obtain rfl := Option.some.inj ho
        refine Facts.OpDo.value (by kernel_rfl) rfl (v := (.slice A l.length c)) (w1 := W2) ?_ ?_
        · simp only [Facts.acE, Act.put, List.setIfInBounds_toArray, List.set_cons_zero, List.set_cons_succ]
          go_simp
        · exact hK _ _ rfl (Below.refl _ _)
      · obtain rfl := Option.some.inj ho
        have fp0 : V 0 = .slice A l.length c := hpre { on := 0, ground := .data } (by simp) rfl rfl
        refine Facts.OpDo.goes Try.func49 (by kernel_rfl) rfl #[V 0] (by kernel_rfl) rfl rfl (by kernel_rfl) ?_
        rw [fp0]
        refine (rrooms_at W2 A c l rm HRM.out (Kd.F_now (Kd.F_below HV.out hW)) hc hF hl).mono ?_
        rintro e w' ⟨rfl, hb'⟩
        exact ⟨_, rfl, hK _ _ rfl hb'⟩
      · obtain rfl := Option.some.inj ho
        refine Facts.OpDo.value (by kernel_rfl) rfl (v := (.pointer (some ⟨g, 0, none⟩))) (w1 := W2) ?_ ?_
        · simp only [Facts.acE, Act.put, List.setIfInBounds_toArray, List.set_cons_zero, List.set_cons_succ]
          go_simp
        · exact hK _ _ rfl (Below.refl _ _)
      · obtain rfl := Option.some.inj ho
        have fp2 : V 2 = (.pointer (some ⟨g, 0, none⟩)) := hpre { on := 2, ground := .data } (by simp) rfl rfl
        refine Facts.OpDo.value (by kernel_rfl) rfl (v := (.pointer (some ⟨g, 0, none⟩))) (w1 := W2) ?_ ?_
        · simp only [Facts.acE, fp2, Act.put, List.setIfInBounds_toArray, List.set_cons_zero, List.set_cons_succ]
          go_simp
        · exact hK _ _ rfl (Below.refl _ _)
      · obtain rfl := Option.some.inj ho
        have fp3 : V 3 = (.pointer (some ⟨g, 0, none⟩)) := hpre { on := 3, ground := .data } (by simp) rfl rfl
        refine Facts.OpDo.value (by kernel_rfl) rfl (v := (.pointer (some ⟨g, 0, none⟩))) (w1 := W2) ?_ ?_
        · simp only [Facts.acE, fp3, Act.put, List.setIfInBounds_toArray, List.set_cons_zero, List.set_cons_succ]
          go_simp
        · exact hK _ _ rfl (Below.refl _ _)
      · obtain rfl := Option.some.inj ho
        have fp4 : V 4 = (.pointer (some ⟨g, 0, none⟩)) := hpre { on := 4, ground := .data } (by simp) rfl rfl
        have hc : W2.cell? ⟨g, 0, none⟩ = some (.int .i64 s.limit) := rc_cell (keep_blk HG.out hW) 0 _ rfl
        refine Facts.OpDo.value (by kernel_rfl) rfl (v := (.int .i64 s.limit)) (w1 := W2) ?_ ?_
        · simp only [Facts.acE, fp4, Act.put, List.setIfInBounds_toArray, List.set_cons_zero, List.set_cons_succ]
          go_simp
        · exact hK _ _ rfl (Below.refl _ _)
      · obtain rfl := Option.some.inj ho
        have fp1 : V 1 = (.int .i64 rm) := hpre { on := 1, ground := .data } (by simp) rfl rfl
        have fp5 : V 5 = (.int .i64 s.limit) := hpre { on := 5, ground := .data } (by simp) rfl rfl
        refine Facts.OpDo.value (by kernel_rfl) rfl (v := (.bool full)) (w1 := W2) ?_ ?_
        · simp only [Facts.acE, fp1, fp5, Act.put, List.setIfInBounds_toArray, List.set_cons_zero, List.set_cons_succ]
          go_simp
        · exact hK _ _ rfl (Below.refl _ _)
    case H =>
      intro V W2 hR hΦ
      have f0 := hΦ (0, some 9) (by simp)
      have f1 := hΦ (1, some 10) (by simp)
      have f2 := hΦ (2, some 11) (by simp)
      have f3 := hΦ (3, some 12) (by simp)
      have f4 := hΦ (4, some 13) (by simp)
      have f5 := hΦ (5, some 14) (by simp)
      have f6 := hΦ (6, some 15) (by simp)
      clear hΦ
      simp only [RnF] at f0 f1 f2 f3 f4 f5 f6
      have hW : Below W.heap.size W W2 := hB1.trans (hR.mono hB1.size)
      clear hR
      simp only [Facts.acE, f0, f1, f2, f3, f4, f5, f6, Act.put, List.setIfInBounds_toArray, List.set_cons_zero, List.set_cons_succ]
      clear f0 f1 f2 f3 f4 f5 f6 V
      refine Facts.wpAny_done (by kernel_rfl) ?_
      have HW2 := Aside0.mk hW
      clear hW hB1
      have HD2 := Aside0.mk (HD.out.below HW2.out)
      cases full
      · have hnf : ¬ s.limit < roomsOf l := by simpa using HFULL.out.symm
        by_cases hhit : s.hit = true
        · have e1 : s.rrenew l = (7, s.tick.rcrash s.keep) := by unfold DSt.rrenew; rw [if_neg hoff, if_neg hnf, if_pos hhit]
          have HE1 := Aside0.mk e1
          have HH := Aside0.mk hhit
          clear e1 hoff hoff' hhit hnf
          go_wp2_with (first
            | (go_at_call 48; refine (rtrips W2 S g s HD2.out ha.1 ha.2).mono ?_; rintro e w1 ⟨rfl, h1, h2⟩; rw [HH.out]; have hk6 : w1.cell? ⟨g, 6, none⟩ = some (.int .i64 s.keep) := (by obtain ⟨_, A1, c1, hg1, _⟩ := h1; rw [← s.tick_eq.2.2.2.2.1]; exact rc_cell hg1 6 _ rfl); have H1 := Aside0.mk h1; have H2 := Aside0.mk h2; clear h1 h2)
            | (go_at_call 33; refine (rcrash w1 S g s.tick s.keep H1.out hok.tick).mono ?_; rintro e w2 ⟨⟨v, rfl⟩, h1, h2⟩; have H3 := Aside0.mk h1; have H4 := Aside0.mk h2; clear h1 h2))
          go_ret
          rw [HE1.out]
          exact ⟨rfl, H3.out.mono (fun k hk => .inl hk), ((Ch.of_below (S := S) HW2.out).trans H2.out (fun k hk => .inl hk)).trans H4.out (fun k hk => .inl hk)⟩
        · have hh : s.hit = false := by simpa using hhit
          have e1 : s.rrenew l = (0, { s.tick with recs := l, safe := l.length, kept := 0 }) := by unfold DSt.rrenew; rw [if_neg hoff, if_neg hnf, if_neg hhit]
          have HE1 := Aside0.mk e1
          have HH := Aside0.mk hh
          clear e1 hoff hoff' hhit hh hnf
          go_wp2_with (first
            | (go_at_call 48; refine (rtrips W2 S g s HD2.out ha.1 ha.2).mono ?_; rintro e w1 ⟨rfl, h1, h2⟩; rw [HH.out]; have H1 := Aside0.mk h1; have H2 := Aside0.mk h2; clear h1 h2)
            | (go_at_call 27; refine (rtwins_any A c l w1 (Kd.F_now (Kd.F_kept (Kd.F_below HV.out HW2.out) H2.out.2 hd)) hF.lites hl).mono ?_; rintro e w2 ⟨v, rfl, h1, h2⟩; obtain ⟨A1, c1, rfl⟩ := Kd.N_slice h1; obtain ⟨_, A2, c2, hg1, _⟩ := H1.out; have hg2 : w2.heap[g]? = some (.cells (dcells s.tick (.slice A2 s.tick.recs.length c2)) 72 (0, 0)) := keep_blk hg1 h2; have k1 : w2.cell? ⟨g, 1, none⟩ = some (.slice A2 s.tick.recs.length c2) := rc_cell hg2 1 _ rfl; have k2 : w2.cell? ⟨g, 2, none⟩ = some (.int .i64 s.tick.safe) := rc_cell hg2 2 _ rfl; have k7 : w2.cell? ⟨g, 7, none⟩ = some (.int .i64 s.tick.kept) := rc_cell hg2 7 _ rfl; have kf : ∀ j, w2.frozen? ⟨g, j, none⟩ = false := (fun j => frozen_of_row _ _ _ _ _ hg2); have HR := Aside0.mk (ry_renewed W S g s.tick l A1 c1 _ w2 hg2 hS w1.heap.size (Nat.lt_of_lt_of_le hglt (Nat.le_trans HW2.out.size H2.out.1.size)) (Nat.le_trans HW2.out.size H2.out.1.size) h1); have H3 := Aside0.mk h2; clear h1 h2 hg1 hg2))
          go_ret
          rw [HE1.out]
          exact ⟨rfl, (HR.out.set (s' := { s.tick with recs := l, safe := l.length }) 2 (.int .i64 l.length) rfl (fun _ => rfl)).set (s' := { s.tick with recs := l, safe := l.length, kept := 0 }) 7 (.int .i64 0) rfl (fun _ => rfl), ((((((Ch.of_below (S := S) HW2.out).trans H2.out (fun k hk => .inl hk)).trans (Ch.of_below (S := S) H3.out) (fun k hk => .inl hk))).trans (Ch.set _ hS _ _) (fun k hk => .inl hk)).trans (Ch.set _ hS _ _) (fun k hk => .inl hk)).trans (Ch.set _ hS _ _) (fun k hk => .inl hk)⟩
      · have hnf : s.limit < roomsOf l := by simpa using HFULL.out.symm
        have e1 : s.rrenew l = (8, s) := by unfold DSt.rrenew; rw [if_neg hoff, if_pos hnf]
        have HE1 := Aside0.mk e1
        clear e1 hoff hoff' hnf
        go_wp2
        go_ret
        rw [HE1.out]
        exact ⟨rfl, HD2.out.mono (fun k hk => .inl hk), Ch.of_below HW2.out⟩
end Go.Proofs.Ytbkfdejcmimhgaa
