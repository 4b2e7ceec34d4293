/- A block of package digest. -/
import Derived.Test.YtalignlbbdeeiaaDoorProg
import Derived.WalkKit
import Derived.WalkLawsBesides
import Derived.Outline
import Derived.LoopTactic
import Derived.Lib.Hide
import Derived.Deep.QuietTactic
import Derived.BigQuiet
import Derived.Deep.LoopGhost
import Derived.Deep.DeepCutAuto
import Derived.Deep.CutBlock
import Derived.Deep.RegionHeld3
import Derived.Deep.RegionWith
import Derived.Deep.WholeRow
import Derived.Laws.Rows
import Derived.Laws.Tables
import Derived.Laws.ResultCell
import Derived.StillTailTactics
import Derived.Deep.DeepMust
import Derived.IntWalk
import Derived.KernelRfl
import Derived.Test.YtalignlbbdeeiaaDoorWWords
import Derived.Test.YtalignlbbdeeiaaDoorWLast
import Derived.Test.YtalignlbbdeeiaaDoorWMore
import Derived.Test.YtalignlbbdeeiaaDoorDigB
import Derived.Test.YtalignlbbdeeiaaDoorFacts
namespace Go.Proofs.YtalignlbbdeeiaaDoor
open Go.RowKit
open Go.Proofs.YtalignlbbdeeiaaDoorW.PrintWords
set_option linter.unusedVariables false
set_option linter.unusedSimpArgs false
/-- What the evaluation of 'was, add, turn := s, adds(), turns()' leaves. -/
def TakeFacts (s : Md5.St) (B : Nat) : Nat → Value → World → Prop
  | 0, v, _ => v = .agg (Words s)
  | 1, v, _ => v = .agg addsA
  | 2, v, _ => v = .agg turnsA
  | 3, v, w => ∃ b cs, v = .pointer (some ⟨b, 0, none⟩) ∧ B ≤ b ∧ cs.size = 4 ∧ w.heap[b]? = some (.cells cs 73 (0, 0))
  | 4, v, w => ∃ b cs, v = .pointer (some ⟨b, 0, none⟩) ∧ B ≤ b ∧ cs.size = 64 ∧ w.heap[b]? = some (.cells cs 77 (0, 0))
  | 5, v, w => ∃ b cs, v = .pointer (some ⟨b, 0, none⟩) ∧ B ≤ b ∧ cs.size = 16 ∧ w.heap[b]? = some (.cells cs 80 (0, 0))
  | _, _, _ => True
theorem TakeFacts.stab (s : Md5.St) (B : Nat) (i : Nat) (v : Value) (w1 w2 : World) (h : TakeFacts s B i v w1) (hb : Below w1.heap.size w1 w2) : TakeFacts s B i v w2 := by
  match i, h with
  | 0, h => exact h
  | 1, h => exact h
  | 2, h => exact h
  | 3, ⟨b, cs, h1, h2, h3, h4⟩ => exact ⟨b, cs, h1, h2, h3, Facts.below_blk h4 hb⟩
  | 4, ⟨b, cs, h1, h2, h3, h4⟩ => exact ⟨b, cs, h1, h2, h3, Facts.below_blk h4 hb⟩
  | 5, ⟨b, cs, h1, h2, h3, h4⟩ => exact ⟨b, cs, h1, h2, h3, Facts.below_blk h4 hb⟩
  | n + 6, _ => trivial
def TakeInv (s : Md5.St) (l : List Int) (w : World) (b5 b6 b7 n : Nat) (wr : World) : Prop :=
  wr.heap[b5]? = some (.cells (Words s) 73 (0, 0)) ∧ wr.heap[b6]? = some (.cells addsA 77 (0, 0)) ∧ wr.heap[b7]? = some (.cells turnsA 80 (0, 0)) ∧ Below w.heap.size w wr ∧
  wr.heap[w.heap.size]? = some (.cells (Words (Md5.rounds l s n)) 73 (0, 0)) ∧ wr.heap[w.heap.size + 1]? = some (.cells #[.int .u32 0, .int .u32 0, .int .u32 0, .int .u32 0] 73 (0, 0))
theorem cellAt {w : World} {b j : Nat} {cs : Array Value} {t : TypeId} {v : Value} (h : w.heap[b]? = some (.cells cs t (0, 0))) (hj : cs[j]? = some v) : w.cell? ⟨b, j, none⟩ = some v := by
  rw [cell_of_row w b j cs t (0, 0) h]; exact hj
theorem lt_of_blk {w : World} {b : Nat} {o : Obj} (h : w.heap[b]? = some o) : b < w.heap.size := (Array.getElem?_eq_some_iff.1 h).1
theorem adds_at (n : Nat) (hn : n < 64) : addsA[n]? = some (.int .u32 (Md5.kTab.getD n 0 : Nat)) := by
  have h : n < Md5.kTab.length := hn
  simp only [addsA, List.getElem?_toArray, List.getElem?_map, List.getD_eq_getElem?_getD, List.getElem?_eq_getElem h, Option.map_some, Option.getD_some]
theorem turns_at (n : Nat) (hn : n < 16) : turnsA[n]? = some (.int .i64 (Md5.rTab.getD n 0 : Nat)) := by
  have h : n < Md5.rTab.length := hn
  simp only [turnsA, List.getElem?_toArray, List.getElem?_map, List.getD_eq_getElem?_getD, List.getElem?_eq_getElem h, Option.map_some, Option.getD_some]
theorem rTab_bd : ∀ n, n < 16 → 0 < Md5.rTab.getD n 0 ∧ Md5.rTab.getD n 0 < 32 := by decide
theorem word_from (ad : Addr) (l : List Int) (g c : Nat) (w : World) (hr : (Kd.int .u8).C w (some ad) l.length l) (hg : g + 4 ≤ l.length) (hb : Md5.Bytes l) :
    Calls Tryd.prog 50 #[.slice (some (ad.add g)) (l.length - g) c] w fun e w' => e = .returned (.int .u32 (Md5.wrd l g)) ∧ w = w' := by
  have h := Kd.C_drop hr (m := g) (c := l.length) (by omega) (Nat.le_refl _)
  rw [if_neg (by omega)] at h
  have e : (some ad).map (·.add (g * (Kd.int .u8).sz)) = some (ad.add g) := by
    have : (Kd.int .u8).sz = 1 := rfl
    rw [this, Nat.mul_one]; rfl
  rw [e] at h
  have hw := word_any _ c (l.drop g) w h (by rw [List.length_drop]; omega) (hb.drop g)
  rw [List.length_drop, Md5.wrd_drop, Nat.add_zero] at hw
  exact hw
set_option maxHeartbeats 2000000 in
theorem take_any (s : Md5.St) (A : Option Addr) (c : Nat) (l : List Int) (w : World) (hs : s.ok) (hr : (Kd.int .u8).C w A l.length l) (hc : l.length ≤ c) (hl : 64 ≤ l.length) (hb : Md5.Bytes l) :
    Calls Tryd.prog 43 #[.agg #[.int .u32 s.a, .int .u32 s.b, .int .u32 s.c, .int .u32 s.d], .slice A l.length c] w fun e w' => e = .returned (.agg #[.int .u32 (Md5.blk s l).a, .int .u32 (Md5.blk s l).b, .int .u32 (Md5.blk s l).c, .int .u32 (Md5.blk s l).d]) ∧ Below w.heap.size w w' := by
  have HR := Lib.hid hr
  have HB := Lib.hid hb
  clear hr hb
  go_enter Tryd.func43, Tryd.ntmps43
  go_upto_region 1 with (fail)
  go_cut [5, 6, 7] (fun v5 v6 v7 wc => ∃ b5 b6 b7 : Nat, v5 = .pointer (some ⟨b5, 0, none⟩) ∧ v6 = .pointer (some ⟨b6, 0, none⟩) ∧ v7 = .pointer (some ⟨b7, 0, none⟩) ∧ w.heap.size + 2 ≤ b5 ∧ w.heap.size + 2 ≤ b6 ∧ w.heap.size + 2 ≤ b7 ∧ wc.heap[b5]? = some (.cells (Words s) 73 (0, 0)) ∧ wc.heap[b6]? = some (.cells addsA 77 (0, 0)) ∧ wc.heap[b7]? = some (.cells turnsA 80 (0, 0)) ∧
     Below w.heap.size w wc ∧ wc.heap[w.heap.size]? = some (.cells (Words s) 73 (0, 0)) ∧ wc.heap[w.heap.size + 1]? = some (.cells #[.int .u32 0, .int .u32 0, .int .u32 0, .int .u32 0] 73 (0, 0)))
  case first =>
    refine Facts.region_any (n := 3 + 6) #[false, false, false, false, false, false, false, false, false] (by kernel_rfl) rfl (by kernel_rfl) (fun W0 hW0 hB0 => ?_)
    have hB1 : Below w.heap.size w W0 := (((Below.refl _ _).alloc (Nat.le_refl _) _).alloc (by simp) _).trans (hB0 _)
    have hS1 : W0.heap.size = w.heap.size + 2 := by rw [hW0]; simp
    have hC1 : W0.heap[w.heap.size]? = some (.cells (Words s) 73 (0, 0)) := by rw [hW0]; exact heap_alloc2_old _ _ _
    have hC2 : W0.heap[w.heap.size + 1]? = some (.cells #[.int .u32 0, .int .u32 0, .int .u32 0, .int .u32 0] 73 (0, 0)) := by rw [hW0]; exact heap_alloc2_new _ _ _
    clear hW0 hB0
    refine Facts.wpAny_eval [(0, some 11), (1, some 12), (2, some 13), (3, some 5), (4, some 6), (5, some 7)] _ #[true, true, true, true, true, true, false, false, false] (by kernel_rfl) 3 _ _ (fun w1 w2 => Below w1.heap.size w1 w2) (TakeFacts s (w.heap.size + 2)) Facts.below_refl Facts.below_tr (TakeFacts.stab s _) ?hop ?H (fun _ => undef) ?V0
    case V0 => rfl
    case hop =>
      intro x hx o ho V W hR hpre K hK
      simp only [List.mem_cons, List.not_mem_nil, or_false] at hx
      rcases hx with rfl | rfl | rfl | rfl | rfl | rfl
      · obtain rfl := Option.some.inj ho
        refine Facts.load_row_ (by kernel_rfl) rfl 73 (.tmp 2) rfl w.heap.size (by kernel_rfl) 73 (Words s) (0, 0) _ (Facts.below_blk hC1 hR) Tryd.underlying73 rfl (by kernel_rfl) ?_
        exact hK _ _ rfl (Below.refl _ _)
      · obtain rfl := Option.some.inj ho
        refine Facts.OpDo.goes Tryd.func47 (by kernel_rfl) rfl #[] (by kernel_rfl) rfl rfl (by simp) ?_
        refine (adds_any _).mono ?_
        rintro e w' ⟨rfl, rfl⟩
        exact ⟨_, rfl, hK _ _ rfl ((Below.refl _ _).alloc (Nat.le_refl _) _)⟩
      · obtain rfl := Option.some.inj ho
        refine Facts.OpDo.goes Tryd.func48 (by kernel_rfl) rfl #[] (by kernel_rfl) rfl rfl (by simp) ?_
        refine (turns_any _).mono ?_
        rintro e w' ⟨rfl, rfl⟩
        exact ⟨_, rfl, hK _ _ rfl ((Below.refl _ _).alloc (Nat.le_refl _) _)⟩
      · obtain rfl := Option.some.inj ho
        refine Facts.OpDo.value (by kernel_rfl) rfl (v := .pointer (some ⟨W.heap.size, 0, none⟩)) (w1 := W.alloc (.cells #[.int .u32 0, .int .u32 0, .int .u32 0, .int .u32 0] 73)) (by go_simp) ?_
        refine hK _ _ ⟨_, _, rfl, ?_, rfl, heap_alloc_new _ _⟩ ((Below.refl _ _).alloc (Nat.le_refl _) _)
        have := hR.size; omega
      · obtain rfl := Option.some.inj ho
        refine Facts.OpDo.value (by kernel_rfl) rfl (v := .pointer (some ⟨W.heap.size, 0, none⟩)) (w1 := W.alloc (.cells (List.replicate 64 (.int .u32 0)).toArray 77)) (by kernel_rfl) ?_
        refine hK _ _ ⟨_, _, rfl, ?_, rfl, heap_alloc_new _ _⟩ ((Below.refl _ _).alloc (Nat.le_refl _) _)
        have := hR.size; omega
      · obtain rfl := Option.some.inj ho
        refine Facts.OpDo.value (by kernel_rfl) rfl (v := .pointer (some ⟨W.heap.size, 0, none⟩)) (w1 := W.alloc (.cells (List.replicate 16 (.int .i64 0)).toArray 80)) (by kernel_rfl) ?_
        refine hK _ _ ⟨_, _, rfl, ?_, rfl, heap_alloc_new _ _⟩ ((Below.refl _ _).alloc (Nat.le_refl _) _)
        have := hR.size; omega
    case H =>
      intro V W hR hΦ
      have f0 := hΦ (0, some 11) (by simp)
      have f1 := hΦ (1, some 12) (by simp)
      have f2 := hΦ (2, some 13) (by simp)
      obtain ⟨b5, c5, f3, g3, z3, k3⟩ := hΦ (3, some 5) (by simp)
      obtain ⟨b6, c6, f4, g4, z4, k4⟩ := hΦ (4, some 6) (by simp)
      obtain ⟨b7, c7, f5, g5, z5, k5⟩ := hΦ (5, some 7) (by simp)
      clear hΦ
      simp only [TakeFacts] at f0 f1 f2 f3 f4 f5
      have hB2 : Below w.heap.size w W := hB1.trans (hR.mono (by omega))
      have hD1 := Facts.below_blk hC1 hR
      have hD2 := Facts.below_blk hC2 hR
      clear hR
      simp only [Facts.acE, f0, f1, f2, f3, f4, f5, Act.put, List.setIfInBounds_toArray, List.set_cons_zero, List.set_cons_succ]
      clear f0 f1 f2 f3 f4 f5 V
      have n56 : b5 ≠ b6 := by rintro rfl; rw [k3] at k4; injection k4 with k4; injection k4 with _ k4; exact absurd k4 (by decide)
      have n57 : b5 ≠ b7 := by rintro rfl; rw [k3] at k5; injection k5 with k5; injection k5 with _ k5; exact absurd k5 (by decide)
      have n67 : b6 ≠ b7 := by rintro rfl; rw [k4] at k5; injection k5 with k5; injection k5 with _ k5; exact absurd k5 (by decide)
      refine Facts.wpAny_one (i := 6) #[true, true, true, true, true, true, true, false, false] rfl (by kernel_rfl) rfl (fun K hK => ?_)
      refine Facts.store_row_ (by kernel_rfl) rfl 73 (.tmp 5) (.tmp 11) rfl b5 (Words s) rfl rfl 73 c5 k3 (by kernel_rfl) z3 (by kernel_rfl) (hK _ _ ?_)
      clear hK K
      refine Facts.wpAny_one (i := 7) #[true, true, true, true, true, true, true, true, false] rfl (by kernel_rfl) rfl (fun K hK => ?_)
      refine Facts.store_row_ (by kernel_rfl) rfl 77 (.tmp 6) (.tmp 12) rfl b6 addsA rfl rfl 77 c6 (by rw [setRow_other _ _ _ _ (by omega)]; exact k4) (by kernel_rfl) z4 (by kernel_rfl) (hK _ _ ?_)
      clear hK K
      refine Facts.wpAny_one (i := 8) #[true, true, true, true, true, true, true, true, true] rfl (by kernel_rfl) rfl (fun K hK => ?_)
      refine Facts.store_row_ (by kernel_rfl) rfl 80 (.tmp 7) (.tmp 13) rfl b7 turnsA rfl rfl 80 c7 (by rw [setRow_other _ _ _ _ (by omega), setRow_other _ _ _ _ (by omega)]; exact k5) (by kernel_rfl) z5 (by kernel_rfl) (hK _ _ ?_)
      clear hK K
      refine Facts.wpAny_done (by kernel_rfl) ?_
      go_wp2_with (fail)
      go_meet
      case rel =>
        refine ⟨b5, b6, b7, rfl, rfl, rfl, g3, g4, g5, ?_, ?_, ?_, ?_, ?_, ?_⟩
        · rw [setRow_other _ _ _ _ n57, setRow_other _ _ _ _ n56]; exact setRow_heap _ _ _ _ _ _ k3
        · rw [setRow_other _ _ _ _ n67]; exact setRow_heap _ _ _ _ _ _ ((setRow_other _ _ _ _ (Ne.symm n56)).trans k4)
        · exact setRow_heap _ _ _ _ _ _ ((setRow_other _ _ _ _ (Ne.symm n67)).trans ((setRow_other _ _ _ _ (Ne.symm n57)).trans k5))
        · exact Facts.below_setRow (Facts.below_setRow (Facts.below_setRow hB2 (by omega) _) (by omega) _) (by omega) _
        · rw [setRow_other _ _ _ _ (by omega), setRow_other _ _ _ _ (by omega), setRow_other _ _ _ _ (by omega)]; exact hD1
        · rw [setRow_other _ _ _ _ (by omega), setRow_other _ _ _ _ (by omega), setRow_other _ _ _ _ (by omega)]; exact hD2
  case rest =>
    obtain ⟨b5, b6, b7, rfl, rfl, rfl, g3, g4, g5, k3, k4, k5, hB2, hD1, hD2⟩ := hcut
    have hI : TakeInv s l w b5 b6 b7 0 wc := ⟨k3, k4, k5, hB2, hD1, hD2⟩
    have HI := Lib.hid hI
    clear hI k3 k4 k5 hB2 hD1 hD2
    go_wp2_with (fail)
    go_loopg [14] 64 (fun g v14 wr => ∃ n : Nat, n ≤ 64 ∧ g + n = 64 ∧ v14 = .int .i64 n ∧ TakeInv s l w b5 b6 b7 n wr)
    case atStart => exact ⟨0, by omega, by omega, rfl, HI.out⟩
    case round =>
      clear HI
      obtain ⟨n, hn, hg, rfl, k3, k4, k5, hB2, hD1, hD2⟩ := hrel
      have hs' := Md5.rounds_ok l s hs n
      generalize hst : Md5.rounds l s n = st at *
      have HST := Lib.hid hst
      clear hst
      by_cases hn64 : n < 64
      · obtain ⟨p, hp⟩ : ∃ p, p = n / 16 := ⟨_, rfl⟩
        obtain ⟨q, hq⟩ : ∃ q, q = n % 4 := ⟨_, rfl⟩
        have hEQ : Words (Md5.stp l n st) = #[.int .u32 st.d, .int .u32 (((st.b : Int) + (Md5.rot ((Md5.F n st.b st.c st.d + st.a + Md5.kTab.getD n 0 + Md5.wrd l (4 * Md5.G n)) % 4294967296) (Md5.rTab.getD (p * 4 + q) 0) : Nat)) % 4294967296), .int .u32 st.b, .int .u32 st.c] := by
          rw [hp, hq]; simp [Words, Md5.stp]
        have HEQ := Lib.hid hEQ
        have HP := Lib.hid hp
        have HQ := Lib.hid hq
        clear hp hq hEQ
        have c0 : wr.cell? ⟨w.heap.size, 0, none⟩ = some (.int .u32 st.a) := cellAt hD1 rfl
        have c1 : wr.cell? ⟨w.heap.size, 1, none⟩ = some (.int .u32 st.b) := cellAt hD1 rfl
        have c2 : wr.cell? ⟨w.heap.size, 2, none⟩ = some (.int .u32 st.c) := cellAt hD1 rfl
        have c3 : wr.cell? ⟨w.heap.size, 3, none⟩ = some (.int .u32 st.d) := cellAt hD1 rfl
        have q0 := lt_of_blk hD1
        have q6 := lt_of_blk k4
        have q7 := lt_of_blk k5
        have H3 := Lib.hid k3
        have H4 := Lib.hid k4
        have H5 := Lib.hid k5
        have H6 := Lib.hid hD1
        have H7 := Lib.hid hD2
        clear k3 k4 k5 hD1 hD2
        go_upto_region 6 with (first | (go_at_call 49; refine (mix_any st n _ hn64 hs').mono ?_; rintro e w' ⟨rfl, rfl⟩))
        have cA := cellAt (j := n) H4.out (adds_at n hn64)
        have hF := Md5.F_lt n st.b st.c st.d hs'.2.1 hs'.2.2.1 hs'.2.2.2
        have hG := Md5.G_lt n hn64
        generalize Md5.kTab.getD n 0 = kn at *
        generalize Md5.F n st.b st.c st.d = Fn at *
        generalize Md5.G n = Gn at *
        have hne : ¬ c = 4 * Gn := by omega
        obtain ⟨ad, rfl⟩ : ∃ ad, A = some ad := by obtain ⟨ad, e, _⟩ := HR.out.2.2 (by omega); exact ⟨ad, e⟩
        have e1 : IntKind.i64.wrap (4 * (Gn : Int)) = 4 * (Gn : Int) := IntWalk.i64_in _ (by omega)
        go_quiet ((go_at_call 50; refine Calls.quiet_of_same ((word_from ad l (4 * Gn) _ _ (Kd.C_drewN (Kd.C_alloc (Kd.C_below HR.out hB2) _) _) (by omega) HB.out).mono (fun _ _ h => ⟨h.1, h.2.symm⟩))))
        go_upto_region 7 with (fail)
        have ef : ((Fn : Int) + (st.a + kn + (Md5.wrd l (4 * Gn) : Int)) % 4294967296) % 4294967296 = (((Fn + st.a + kn + Md5.wrd l (4 * Gn)) % 4294967296 : Nat) : Int) := by omega
        rw [ef]
        have hfl : (Fn + st.a + kn + Md5.wrd l (4 * Gn)) % 4294967296 < 4294967296 := Nat.mod_lt _ (by omega)
        clear ef
        generalize (Fn + st.a + kn + Md5.wrd l (4 * Gn)) % 4294967296 = fv at *
        refine Facts.still_tail_drew 19 (by kernel_rfl) (by kernel_rfl) ?_
        have hBW : Below wr.heap.size wr (((wr.alloc (.cells #[.int .u32 st.a, .int .u32 st.b, .int .u32 st.c, .int .u32 st.d] 73)).drewN nq).drew) := (pw_below_drewN ((Below.refl _ _).alloc (Nat.le_refl _) _) _).drew
        generalize (((wr.alloc (.cells #[.int .u32 st.a, .int .u32 st.b, .int .u32 st.c, .int .u32 st.d] 73)).drewN nq).drew) = W2 at hBW ⊢
        have k3 := Facts.below_blk H3.out hBW
        have k4 := Facts.below_blk H4.out hBW
        have k5 := Facts.below_blk H5.out hBW
        have hD1 := Facts.below_blk H6.out hBW
        have hD2 := Facts.below_blk H7.out hBW
        have hB3 : Below w.heap.size w W2 := hB2.trans (hBW.mono hB2.size)
        clear c0 c1 c2 c3 cA H3 H4 H5 H6 H7 q0 q6 q7 hBW hB2 nq
        have c0 : W2.cell? ⟨w.heap.size, 0, none⟩ = some (.int .u32 st.a) := cellAt hD1 rfl
        have c1 : W2.cell? ⟨w.heap.size, 1, none⟩ = some (.int .u32 st.b) := cellAt hD1 rfl
        have c2 : W2.cell? ⟨w.heap.size, 2, none⟩ = some (.int .u32 st.c) := cellAt hD1 rfl
        have c3 : W2.cell? ⟨w.heap.size, 3, none⟩ = some (.int .u32 st.d) := cellAt hD1 rfl
        have H3 := Lib.hid k3
        have H4 := Lib.hid k4
        have H5 := Lib.hid k5
        have H6 := Lib.hid hD1
        have H7 := Lib.hid hD2
        clear k3 k4 k5 hD1 hD2
        simp only [List.take_succ_cons, List.take_zero, List.drop_succ_cons, List.drop_zero]
        have hp4 : (p : Int) < 4 := by have := HP.out; omega
        have hq4 : (q : Int) < 4 := by have := HQ.out; omega
        have e3 : IntKind.i64.wrap ((n : Int) / 16) = (p : Int) := by have := HP.out; rw [IntWalk.i64_in _ (by omega)]; omega
        have e4 : (n : Int).tmod 4 = (q : Int) := by have := HQ.out; rw [Int.tmod_eq_emod_of_nonneg (by omega)]; omega
        have hT := turns_at (p * 4 + q) (by omega)
        have hTb := rTab_bd (p * 4 + q) (by omega)
        generalize Md5.rTab.getD (p * 4 + q) 0 = rv at *
        have cT : W2.cell? ⟨b7, p * 4 + q, none⟩ = some (.int .i64 (rv : Nat)) := cellAt H5.out hT
        clear hT
        obtain ⟨hr1, hr2⟩ := hTb
        repeat still_step
        have hrot := Md5.rot_lt fv rv hfl
        refine wpStill_step (fun K hK => ?_)
        go_simp
        refine ⟨.int .u32 (Md5.rot fv rv), (rotl_any fv rv W2 hr2 hr1 hfl).mono (fun _ _ h => ⟨h.1, h.2.symm⟩), hK _ ?_⟩
        clear hK K
        generalize Md5.rot fv rv = rt at *
        repeat still_step
        refine wpStill_nil ?_
        have z0 : W2.frozen? ⟨w.heap.size, 0, none⟩ = false := frozen_of_row _ _ _ _ _ H6.out
        have z1 : W2.frozen? ⟨w.heap.size, 1, none⟩ = false := frozen_of_row _ _ _ _ _ H6.out
        have z2 : W2.frozen? ⟨w.heap.size, 2, none⟩ = false := frozen_of_row _ _ _ _ _ H6.out
        have z3 : W2.frozen? ⟨w.heap.size, 3, none⟩ = false := frozen_of_row _ _ _ _ _ H6.out
        go_wp2_with (refine wpList_store_row rfl 73 _ _ rfl w.heap.size #[.int .u32 st.d, .int .u32 (((st.b : Int) + rt) % 4294967296), .int .u32 st.b, .int .u32 st.c] rfl rfl 73 _ H6.out (by kernel_rfl) rfl (by kernel_rfl) ?_)
        go_roundg (gk - 1)
        case measure => omega
        case rel =>
          refine ⟨n + 1, by omega, by omega, by go_num, ?_, ?_, ?_, ?_, ?_, ?_⟩
          · rw [setRow_other _ _ _ _ (by omega)]; exact H3.out
          · rw [setRow_other _ _ _ _ (by omega)]; exact H4.out
          · rw [setRow_other _ _ _ _ (by omega)]; exact H5.out
          · exact Facts.below_setRow hB3 (Nat.le_refl _) _
          · rw [setRow_heap _ _ _ _ _ _ H6.out]
            show _ = some (Obj.cells (Words (Md5.stp l n (Md5.rounds l s n))) _ _)
            rw [HST.out, HEQ.out]
          · rw [setRow_other _ _ _ _ (by omega)]; exact H7.out
      · obtain rfl : n = 64 := by omega
        have c0 : wr.cell? ⟨w.heap.size, 0, none⟩ = some (.int .u32 st.a) := cellAt hD1 rfl
        have c1 : wr.cell? ⟨w.heap.size, 1, none⟩ = some (.int .u32 st.b) := cellAt hD1 rfl
        have c2 : wr.cell? ⟨w.heap.size, 2, none⟩ = some (.int .u32 st.c) := cellAt hD1 rfl
        have c3 : wr.cell? ⟨w.heap.size, 3, none⟩ = some (.int .u32 st.d) := cellAt hD1 rfl
        have d0 : wr.cell? ⟨b5, 0, none⟩ = some (.int .u32 s.a) := cellAt k3 rfl
        have d1 : wr.cell? ⟨b5, 1, none⟩ = some (.int .u32 s.b) := cellAt k3 rfl
        have d2 : wr.cell? ⟨b5, 2, none⟩ = some (.int .u32 s.c) := cellAt k3 rfl
        have d3 : wr.cell? ⟨b5, 3, none⟩ = some (.int .u32 s.d) := cellAt k3 rfl
        have hEQ : #[Value.int .u32 (Md5.blk s l).a, .int .u32 (Md5.blk s l).b, .int .u32 (Md5.blk s l).c, .int .u32 (Md5.blk s l).d] = #[.int .u32 (((s.a : Int) + st.a) % 4294967296), .int .u32 (((s.b : Int) + st.b) % 4294967296), .int .u32 (((s.c : Int) + st.c) % 4294967296), .int .u32 (((s.d : Int) + st.d) % 4294967296)] := by
          simp [Md5.blk, HST.out]
        have HEQ := Lib.hid hEQ
        have H3 := Lib.hid k3
        have H6 := Lib.hid hD1
        have H7 := Lib.hid hD2
        clear k3 k4 k5 hD1 hD2 hEQ
        go_wp2_with (refine wpList_store_row rfl 73 _ _ rfl (w.heap.size + 1) #[.int .u32 (((s.a : Int) + st.a) % 4294967296), .int .u32 (((s.b : Int) + st.b) % 4294967296), .int .u32 (((s.c : Int) + st.c) % 4294967296), .int .u32 (((s.d : Int) + st.d) % 4294967296)] rfl rfl 73 _ H7.out (by kernel_rfl) rfl (by kernel_rfl) ?_)
        rw [HEQ.out]
        refine bodyPost_ret (v := .agg #[.int .u32 (((s.a : Int) + st.a) % 4294967296), .int .u32 (((s.b : Int) + st.b) % 4294967296), .int .u32 (((s.c : Int) + st.c) % 4294967296), .int .u32 (((s.d : Int) + st.d) % 4294967296)]) ?_ rfl ⟨rfl, Facts.below_setRow hB2 (by omega) _⟩
        exact results_cell_row (by rfl) _ _ (w.heap.size + 1) 73 _ (0, 0) _ rfl (setRow_heap _ _ _ _ _ _ H7.out) Tryd.underlying73 rfl (by kernel_rfl)
end Go.Proofs.YtalignlbbdeeiaaDoor
