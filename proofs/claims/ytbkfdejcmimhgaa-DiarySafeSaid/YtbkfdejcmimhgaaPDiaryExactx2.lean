-- PRINTED BY print.sh 35421559b90ae4d0a3588c463048766b98c2df88dd9212a6774a882060cdf62d: not written by this session
import Derived.Test.YtbkfdejcmimhgaaPDiaryExactx0
import Derived.Test.YtbkfdejcmimhgaaPDiaryExactx1
namespace Go.Proofs.Ytbkfdejcmimhgaa.PDiaryExact
open Go.RowKit Go.Proofs.YtbkfdejcmimhgaaW.PrintWords Go.Proofs.YtbkfdejcmimhgaaW.PrintLast Go.Proofs.YtbkfdejcmimhgaaW.PrintMore
attribute [local go_sem] max2_int min2_int max_two min_two max_three min_three max_four min_four   -- for this text's walks alone
set_option linter.unusedVariables false
set_option linter.unusedSimpArgs false

/-! ### wherrylaw18_Heavy: function 10 -/
def wherrylaw18_Heavy.l0 : Nat → List (S39) → Int → Option (Bool)
  | 0, _, _ => none
  | k + 1, x0, x3 => if x3 < (x0.length : Int) then (if 0 ≤ x3 then (if (((rd_T39 x0 x3).f7).length : Int) > 600 then (some true) else (if (((rd_T39 x0 x3).f3).length : Int) > 60 then (some true) else ((wherrylaw17_Heavy.f k (([(⟨(⟨(rd_T39 x0 x3).f1.f0.f0, (rd_T39 x0 x3).f1.f0.f1, (rd_T39 x0 x3).f1.f0.f2⟩ : S32), (rd_T39 x0 x3).f1.f1, (rd_T39 x0 x3).f1.f2, (rd_T39 x0 x3).f1.f3, (rd_T39 x0 x3).f1.f4, (rd_T39 x0 x3).f1.f5⟩ : S36)] : List (S36)))).bind fun t117 => (if t117 = true then (some true) else (wherrylaw18_Heavy.l0 k x0 (wrap64 (x3 + 1))))))) else (none)) else (some false)
def wherrylaw18_Heavy.f (k : Nat) (l0 : List (S39)) : Option (Bool) := if (l0.length : Int) > 60 then (some true) else (wherrylaw18_Heavy.l0 k l0 0)
theorem wherrylaw18_Heavy.mono_l : ∀ k, (∀ y0 y1, LeO (wherrylaw18_Heavy.l0 k y0 y1) (wherrylaw18_Heavy.l0 (k + 1) y0 y1))
  | 0 => fun _ _ r h => by simp [wherrylaw18_Heavy.l0] at h
  | k + 1 => by
    have ih0 := wherrylaw18_Heavy.mono_l k
    · intro y0 y1
      unfold wherrylaw18_Heavy.l0
      repeat' first
      | (with_reducible exact ih0 _ _)
      | (with_reducible exact wherrylaw17_Heavy.mono _ _)
      | (with_reducible exact LeO.refl _)
      | (with_reducible exact LeO.none _)
      | (with_reducible refine LeO.ite ?_ ?_)
      | (with_reducible refine LeO.bind ?_ (fun _ => ?_))
      | exact ih0 _ _
      | exact wherrylaw17_Heavy.mono _ _
      | exact LeO.none _
      | refine LeO.ite ?_ ?_
      | refine LeO.bind ?_ (fun _ => ?_)
theorem wherrylaw18_Heavy.mono : ∀ a0 k, LeO (wherrylaw18_Heavy.f k a0) (wherrylaw18_Heavy.f (k + 1) a0) := by
  intro a0 k
  have ih0 := wherrylaw18_Heavy.mono_l k
  unfold wherrylaw18_Heavy.f
  repeat' first
      | (with_reducible exact ih0 _ _)
      | (with_reducible exact wherrylaw17_Heavy.mono _ _)
      | (with_reducible exact LeO.refl _)
      | (with_reducible exact LeO.none _)
      | (with_reducible refine LeO.ite ?_ ?_)
      | (with_reducible refine LeO.bind ?_ (fun _ => ?_))
      | exact ih0 _ _
      | exact wherrylaw17_Heavy.mono _ _
      | exact LeO.none _
      | refine LeO.ite ?_ ?_
      | refine LeO.bind ?_ (fun _ => ?_)
set_option maxHeartbeats 8000000 in
set_option maxRecDepth 100000 in
theorem wherrylaw18_Heavy.calls (k : Nat) (P0_ : Nat → Prop) (A0 : Option Addr) (c0 : Nat) (l0 : List (S39)) (r : Bool) (w : World) (hs0 : Kd.V k39 39 w w.heap.size (fun k_ => P0_ k_) (.slice A0 l0.length c0) l0) (h : wherrylaw18_Heavy.f k l0 = some r) :
    Calls Try.prog 10 #[.slice A0 l0.length c0] w fun e w' => e = .returned (.bool r) ∧ Below w.heap.size w w' := by
  have hu36 := Try.underlying36
  have HO0 := Aside0.mk (show Kd.V k39 39 w w.heap.size (fun k_ => (P0_ k_ ∨ w.heap.size ≤ k_)) (.slice A0 l0.length c0) l0 from Kd.V_mono hs0 (fun k_ hk => .inl hk))
  have HB := Aside0.mk (Below.refl w.heap.size w)
  have H : (if (l0.length : Int) > 60 then (some true) else (wherrylaw18_Heavy.l0 k l0 0)) = some r := h
  clear h
  by_cases c2 : (l0.length : Int) > 60
  · rw [if_pos c2] at H
    have c2b0 : decide (60 < (l0.length : Int)) = true := decide_eq_true c2
    have c2b1 : decide (60 < l0.length) = true := decide_eq_true (by omega)
    clear c2
    obtain rfl := Option.some.inj H
    go_enter Try.func10, Try.ntmps10
    go_wp2
    go_ret
    exact ⟨by first | rfl | (simp [errW_none, errW_some] <;> rfl) | (simp [*, errW_none, errW_some] <;> rfl), by repeat (first | (with_reducible first | exact HB.out | apply below_alloc | apply pw_below_drewN | apply below_drew1) | exact HB.out)⟩
  · rw [if_neg c2] at H
    have c2b0 : decide (60 < (l0.length : Int)) = false := decide_eq_false c2
    have c2b1 : decide (60 < l0.length) = false := decide_eq_false (by omega)
    clear c2
    have H' := Aside0.mk H
    clear H
    go_enter Try.func10, Try.ntmps10
    go_wp2
    go_loopg [3] k (fun kq v3 w' => ∃ (x3_1 : Int), v3 = .int .i64 x3_1 ∧ Aside0 (wherrylaw18_Heavy.l0 kq l0 x3_1 = some r) ∧ Aside0 (kq ≤ k) ∧ Aside0 (Kd.V k39 39 w' w.heap.size (fun k_ => (P0_ k_ ∨ w.heap.size ≤ k_)) (.slice A0 l0.length c0) l0) ∧ Aside0 (Below w.heap.size w w'))
    case atStart => exact ⟨(0), (by first | rfl | (simp; done) | (simp [*]; done)), H', ⟨Nat.le_refl _⟩, ⟨by (with_reducible repeat (first | apply Kd.V_alloc | apply Kd.V_drewN | apply Kd.V_drew)); exact HO0.out⟩, ⟨by repeat (first | (with_reducible first | exact HB.out | apply below_alloc | apply pw_below_drewN | apply below_drew1) | exact HB.out)⟩⟩
    case round =>
      clear H'
      try clear c1
      try clear c2
      try clear c2b0
      try clear c2b1
      try clear p2
      obtain ⟨x3_1, rfl, HA, HK1, HO_0, HB⟩ := hrel
      cases gk with
      | zero => exact absurd HA.out (by simp [wherrylaw18_Heavy.l0])
      | succ k1 =>
        have H := HA.out
        clear HA
        simp only [wherrylaw18_Heavy.l0] at H
        by_cases c3 : x3_1 < (l0.length : Int)
        · rw [if_pos c3] at H
          have c3b0 : decide (x3_1 < (l0.length : Int)) = true := decide_eq_true c3
          clear c3
          by_cases c4 : 0 ≤ x3_1
          · rw [if_pos c4] at H
            have c4b0 : decide (0 ≤ x3_1) = true := decide_eq_true c4
            clear c4
            by_cases c5 : (((rd_T39 l0 x3_1).f7).length : Int) > 600
            · rw [if_pos c5] at H
              have c5b0 : decide (600 < (((rd_T39 l0 x3_1).f7).length : Int)) = true := decide_eq_true c5
              have c5b1 : decide (600 < ((rd_T39 l0 x3_1).f7).length) = true := decide_eq_true (by omega)
              clear c5
              obtain rfl := Option.some.inj H
              have p111 : 0 ≤ (x3_1 : Int) := of_decide_eq_true (by first | (with_reducible assumption) | assumption)
              have q111 : x3_1 < (l0.length : Int) := of_decide_eq_true (by first | (with_reducible assumption) | assumption)
              obtain ⟨ad111, A111_4, c111_4, A111_5, c111_5, A111_10, c111_10, A111_14, c111_14, e111, hx111_0, hx111_1, hx111_2, hx111_3, hx111_4, hx111_5, hx111_6, hx111_7, hx111_8, hx111_9, hx111_10, hx111_11, hx111_12, hx111_13, hx111_14, hl111_4, hi111_4, hl111_5, hi111_5, hl111_10, hi111_10, hl111_14, hi111_14⟩ := at_T39 (Kd.V_reads' HO_0.out).2.2 x3_1 p111 q111
              cases e111
              obtain ⟨ce111, hce111, hMe111, hcc111⟩ := Kd.V_get HO_0.out z39 x3_1 p111 (by first | exact q111 | exact of_decide_eq_true (by first | (with_reducible assumption) | assumption) | (have e_ := (Kd.V_reads' HO_0.out).1; omega))
              obtain ⟨ua111_4, uc111_4, ua111_5, uc111_5, ua111_10, uc111_10, ua111_14, uc111_14, rfl, ul111_4, ge111_4, ul111_5, ge111_5, ul111_10, ge111_10, ul111_14, ge111_14⟩ := k39_openF hMe111
              have hv111_4 := hcc111 4 _ rfl
              rw [add_field _ _ 4 (by omega)] at hv111_4
              replace hv111_4 := Option.some.inj (hv111_4.symm.trans hx111_4)
              injection hv111_4 with hva_ hvn_ hvc_
              rw [hva_] at ge111_4
              rw [hvc_] at ul111_4
              have HL111_4 := Aside0.mk (show Kd.V k32 32 _ w.heap.size _ _ ((rd_T39 l0 x3_1).f1.f1) from Kd.V_mk ul111_4 ge111_4)
              clear hva_ hvn_ hvc_ ge111_4 ul111_4
              have hv111_5 := hcc111 5 _ rfl
              rw [add_field _ _ 5 (by omega)] at hv111_5
              replace hv111_5 := Option.some.inj (hv111_5.symm.trans hx111_5)
              injection hv111_5 with hva_ hvn_ hvc_
              rw [hva_] at ge111_5
              rw [hvc_] at ul111_5
              have HL111_5 := Aside0.mk (show Kd.V (Kd.int .u8) 5 _ w.heap.size _ _ ((rd_T39 l0 x3_1).f1.f2) from Kd.V_mk ul111_5 ge111_5)
              clear hva_ hvn_ hvc_ ge111_5 ul111_5
              have hv111_10 := hcc111 10 _ rfl
              rw [add_field _ _ 10 (by omega)] at hv111_10
              replace hv111_10 := Option.some.inj (hv111_10.symm.trans hx111_10)
              injection hv111_10 with hva_ hvn_ hvc_
              rw [hva_] at ge111_10
              rw [hvc_] at ul111_10
              have HL111_10 := Aside0.mk (show Kd.V (Kd.int .i64) 3 _ w.heap.size _ _ ((rd_T39 l0 x3_1).f3) from Kd.V_mk ul111_10 ge111_10)
              clear hva_ hvn_ hvc_ ge111_10 ul111_10
              have hv111_14 := hcc111 14 _ rfl
              rw [add_field _ _ 14 (by omega)] at hv111_14
              replace hv111_14 := Option.some.inj (hv111_14.symm.trans hx111_14)
              injection hv111_14 with hva_ hvn_ hvc_
              rw [hva_] at ge111_14
              rw [hvc_] at ul111_14
              have HL111_14 := Aside0.mk (show Kd.V (Kd.int .u8) 5 _ w.heap.size _ _ ((rd_T39 l0 x3_1).f7) from Kd.V_mk ul111_14 ge111_14)
              clear hva_ hvn_ hvc_ ge111_14 ul111_14
              clear hcc111 hce111
              have HR111_4 := Aside0.mk hi111_4
              have HC111_4 := Aside0.mk hl111_4
              clear hi111_4 hl111_4
              have HR111_5 := Aside0.mk hi111_5
              have HC111_5 := Aside0.mk hl111_5
              clear hi111_5 hl111_5
              have HR111_10 := Aside0.mk hi111_10
              have HC111_10 := Aside0.mk hl111_10
              clear hi111_10 hl111_10
              have HR111_14 := Aside0.mk hi111_14
              have HC111_14 := Aside0.mk hl111_14
              clear hi111_14 hl111_14
              replace p111 := eq_true p111
              replace q111 := eq_true q111
              go_wp2
              go_ret
              exact ⟨by first | rfl | (simp [errW_none, errW_some] <;> rfl) | (simp [*, errW_none, errW_some] <;> rfl), by repeat (first | (with_reducible first | exact HB.out | apply below_alloc | apply pw_below_drewN | apply below_drew1) | exact HB.out)⟩
            · rw [if_neg c5] at H
              have c5b0 : decide (600 < (((rd_T39 l0 x3_1).f7).length : Int)) = false := decide_eq_false c5
              have c5b1 : decide (600 < ((rd_T39 l0 x3_1).f7).length) = false := decide_eq_false (by omega)
              clear c5
              by_cases c6 : (((rd_T39 l0 x3_1).f3).length : Int) > 60
              · rw [if_pos c6] at H
                have c6b0 : decide (60 < (((rd_T39 l0 x3_1).f3).length : Int)) = true := decide_eq_true c6
                have c6b1 : decide (60 < ((rd_T39 l0 x3_1).f3).length) = true := decide_eq_true (by omega)
                clear c6
                obtain rfl := Option.some.inj H
                have p111 : 0 ≤ (x3_1 : Int) := of_decide_eq_true (by first | (with_reducible assumption) | assumption)
                have q111 : x3_1 < (l0.length : Int) := of_decide_eq_true (by first | (with_reducible assumption) | assumption)
                obtain ⟨ad111, A111_4, c111_4, A111_5, c111_5, A111_10, c111_10, A111_14, c111_14, e111, hx111_0, hx111_1, hx111_2, hx111_3, hx111_4, hx111_5, hx111_6, hx111_7, hx111_8, hx111_9, hx111_10, hx111_11, hx111_12, hx111_13, hx111_14, hl111_4, hi111_4, hl111_5, hi111_5, hl111_10, hi111_10, hl111_14, hi111_14⟩ := at_T39 (Kd.V_reads' HO_0.out).2.2 x3_1 p111 q111
                cases e111
                obtain ⟨ce111, hce111, hMe111, hcc111⟩ := Kd.V_get HO_0.out z39 x3_1 p111 (by first | exact q111 | exact of_decide_eq_true (by first | (with_reducible assumption) | assumption) | (have e_ := (Kd.V_reads' HO_0.out).1; omega))
                obtain ⟨ua111_4, uc111_4, ua111_5, uc111_5, ua111_10, uc111_10, ua111_14, uc111_14, rfl, ul111_4, ge111_4, ul111_5, ge111_5, ul111_10, ge111_10, ul111_14, ge111_14⟩ := k39_openF hMe111
                have hv111_4 := hcc111 4 _ rfl
                rw [add_field _ _ 4 (by omega)] at hv111_4
                replace hv111_4 := Option.some.inj (hv111_4.symm.trans hx111_4)
                injection hv111_4 with hva_ hvn_ hvc_
                rw [hva_] at ge111_4
                rw [hvc_] at ul111_4
                have HL111_4 := Aside0.mk (show Kd.V k32 32 _ w.heap.size _ _ ((rd_T39 l0 x3_1).f1.f1) from Kd.V_mk ul111_4 ge111_4)
                clear hva_ hvn_ hvc_ ge111_4 ul111_4
                have hv111_5 := hcc111 5 _ rfl
                rw [add_field _ _ 5 (by omega)] at hv111_5
                replace hv111_5 := Option.some.inj (hv111_5.symm.trans hx111_5)
                injection hv111_5 with hva_ hvn_ hvc_
                rw [hva_] at ge111_5
                rw [hvc_] at ul111_5
                have HL111_5 := Aside0.mk (show Kd.V (Kd.int .u8) 5 _ w.heap.size _ _ ((rd_T39 l0 x3_1).f1.f2) from Kd.V_mk ul111_5 ge111_5)
                clear hva_ hvn_ hvc_ ge111_5 ul111_5
                have hv111_10 := hcc111 10 _ rfl
                rw [add_field _ _ 10 (by omega)] at hv111_10
                replace hv111_10 := Option.some.inj (hv111_10.symm.trans hx111_10)
                injection hv111_10 with hva_ hvn_ hvc_
                rw [hva_] at ge111_10
                rw [hvc_] at ul111_10
                have HL111_10 := Aside0.mk (show Kd.V (Kd.int .i64) 3 _ w.heap.size _ _ ((rd_T39 l0 x3_1).f3) from Kd.V_mk ul111_10 ge111_10)
                clear hva_ hvn_ hvc_ ge111_10 ul111_10
                have hv111_14 := hcc111 14 _ rfl
                rw [add_field _ _ 14 (by omega)] at hv111_14
                replace hv111_14 := Option.some.inj (hv111_14.symm.trans hx111_14)
                injection hv111_14 with hva_ hvn_ hvc_
                rw [hva_] at ge111_14
                rw [hvc_] at ul111_14
                have HL111_14 := Aside0.mk (show Kd.V (Kd.int .u8) 5 _ w.heap.size _ _ ((rd_T39 l0 x3_1).f7) from Kd.V_mk ul111_14 ge111_14)
                clear hva_ hvn_ hvc_ ge111_14 ul111_14
                clear hcc111 hce111
                have HR111_4 := Aside0.mk hi111_4
                have HC111_4 := Aside0.mk hl111_4
                clear hi111_4 hl111_4
                have HR111_5 := Aside0.mk hi111_5
                have HC111_5 := Aside0.mk hl111_5
                clear hi111_5 hl111_5
                have HR111_10 := Aside0.mk hi111_10
                have HC111_10 := Aside0.mk hl111_10
                clear hi111_10 hl111_10
                have HR111_14 := Aside0.mk hi111_14
                have HC111_14 := Aside0.mk hl111_14
                clear hi111_14 hl111_14
                replace p111 := eq_true p111
                replace q111 := eq_true q111
                have p112 : 0 ≤ (x3_1 : Int) := of_decide_eq_true (by first | (with_reducible assumption) | assumption)
                have q112 : x3_1 < (l0.length : Int) := of_decide_eq_true (by first | (with_reducible assumption) | assumption)
                obtain ⟨ad112, A112_4, c112_4, A112_5, c112_5, A112_10, c112_10, A112_14, c112_14, e112, hx112_0, hx112_1, hx112_2, hx112_3, hx112_4, hx112_5, hx112_6, hx112_7, hx112_8, hx112_9, hx112_10, hx112_11, hx112_12, hx112_13, hx112_14, hl112_4, hi112_4, hl112_5, hi112_5, hl112_10, hi112_10, hl112_14, hi112_14⟩ := at_T39 (Kd.V_reads' HO_0.out).2.2 x3_1 p112 q112
                obtain rfl : ad111 = ad112 := (by injection e112)
                obtain ⟨ce112, hce112, hMe112, hcc112⟩ := Kd.V_get HO_0.out z39 x3_1 p112 (by first | exact q112 | exact of_decide_eq_true (by first | (with_reducible assumption) | assumption) | (have e_ := (Kd.V_reads' HO_0.out).1; omega))
                obtain ⟨ua112_4, uc112_4, ua112_5, uc112_5, ua112_10, uc112_10, ua112_14, uc112_14, rfl, ul112_4, ge112_4, ul112_5, ge112_5, ul112_10, ge112_10, ul112_14, ge112_14⟩ := k39_openF hMe112
                have hv112_4 := hcc112 4 _ rfl
                rw [add_field _ _ 4 (by omega)] at hv112_4
                replace hv112_4 := Option.some.inj (hv112_4.symm.trans hx112_4)
                injection hv112_4 with hva_ hvn_ hvc_
                rw [hva_] at ge112_4
                rw [hvc_] at ul112_4
                have HL112_4 := Aside0.mk (show Kd.V k32 32 _ w.heap.size _ _ ((rd_T39 l0 x3_1).f1.f1) from Kd.V_mk ul112_4 ge112_4)
                clear hva_ hvn_ hvc_ ge112_4 ul112_4
                have hv112_5 := hcc112 5 _ rfl
                rw [add_field _ _ 5 (by omega)] at hv112_5
                replace hv112_5 := Option.some.inj (hv112_5.symm.trans hx112_5)
                injection hv112_5 with hva_ hvn_ hvc_
                rw [hva_] at ge112_5
                rw [hvc_] at ul112_5
                have HL112_5 := Aside0.mk (show Kd.V (Kd.int .u8) 5 _ w.heap.size _ _ ((rd_T39 l0 x3_1).f1.f2) from Kd.V_mk ul112_5 ge112_5)
                clear hva_ hvn_ hvc_ ge112_5 ul112_5
                have hv112_10 := hcc112 10 _ rfl
                rw [add_field _ _ 10 (by omega)] at hv112_10
                replace hv112_10 := Option.some.inj (hv112_10.symm.trans hx112_10)
                injection hv112_10 with hva_ hvn_ hvc_
                rw [hva_] at ge112_10
                rw [hvc_] at ul112_10
                have HL112_10 := Aside0.mk (show Kd.V (Kd.int .i64) 3 _ w.heap.size _ _ ((rd_T39 l0 x3_1).f3) from Kd.V_mk ul112_10 ge112_10)
                clear hva_ hvn_ hvc_ ge112_10 ul112_10
                have hv112_14 := hcc112 14 _ rfl
                rw [add_field _ _ 14 (by omega)] at hv112_14
                replace hv112_14 := Option.some.inj (hv112_14.symm.trans hx112_14)
                injection hv112_14 with hva_ hvn_ hvc_
                rw [hva_] at ge112_14
                rw [hvc_] at ul112_14
                have HL112_14 := Aside0.mk (show Kd.V (Kd.int .u8) 5 _ w.heap.size _ _ ((rd_T39 l0 x3_1).f7) from Kd.V_mk ul112_14 ge112_14)
                clear hva_ hvn_ hvc_ ge112_14 ul112_14
                clear hcc112 hce112
                have HR112_4 := Aside0.mk hi112_4
                have HC112_4 := Aside0.mk hl112_4
                clear hi112_4 hl112_4
                have HR112_5 := Aside0.mk hi112_5
                have HC112_5 := Aside0.mk hl112_5
                clear hi112_5 hl112_5
                have HR112_10 := Aside0.mk hi112_10
                have HC112_10 := Aside0.mk hl112_10
                clear hi112_10 hl112_10
                have HR112_14 := Aside0.mk hi112_14
                have HC112_14 := Aside0.mk hl112_14
                clear hi112_14 hl112_14
                replace p112 := eq_true p112
                replace q112 := eq_true q112
                have ea_ := Option.some.inj (hx111_4.symm.trans hx112_4)
                injection ea_ with ea_ en_ ec_
                subst ea_
                subst ec_
                clear en_
                have ea_ := Option.some.inj (hx111_5.symm.trans hx112_5)
                injection ea_ with ea_ en_ ec_
                subst ea_
                subst ec_
                clear en_
                have ea_ := Option.some.inj (hx111_10.symm.trans hx112_10)
                injection ea_ with ea_ en_ ec_
                subst ea_
                subst ec_
                clear en_
                have ea_ := Option.some.inj (hx111_14.symm.trans hx112_14)
                injection ea_ with ea_ en_ ec_
                subst ea_
                subst ec_
                clear en_
                go_wp2
                go_ret
                exact ⟨by first | rfl | (simp [errW_none, errW_some] <;> rfl) | (simp [*, errW_none, errW_some] <;> rfl), by repeat (first | (with_reducible first | exact HB.out | apply below_alloc | apply pw_below_drewN | apply below_drew1) | exact HB.out)⟩
              · rw [if_neg c6] at H
                have c6b0 : decide (60 < (((rd_T39 l0 x3_1).f3).length : Int)) = false := decide_eq_false c6
                have c6b1 : decide (60 < ((rd_T39 l0 x3_1).f3).length) = false := decide_eq_false (by omega)
                clear c6
                obtain ⟨y114, hy114⟩ : ∃ y_ : List (S36), y_ = (([(⟨(⟨(rd_T39 l0 x3_1).f1.f0.f0, (rd_T39 l0 x3_1).f1.f0.f1, (rd_T39 l0 x3_1).f1.f0.f2⟩ : S32), (rd_T39 l0 x3_1).f1.f1, (rd_T39 l0 x3_1).f1.f2, (rd_T39 l0 x3_1).f1.f3, (rd_T39 l0 x3_1).f1.f4, (rd_T39 l0 x3_1).f1.f5⟩ : S36)] : List (S36))) := ⟨_, rfl⟩
                replace H : ((wherrylaw17_Heavy.f k1 y114).bind fun t117 => (if t117 = true then (some true) else (wherrylaw18_Heavy.l0 k1 l0 (wrap64 (x3_1 + 1))))) = some r := by first | (rw [hy114]; with_reducible exact H) | (have H2_ := (Option.bind_some _ _).symm.trans H; rw [hy114]; with_reducible exact H2_) | (have H2_ := (Option.bind_some _ _).symm.trans H; with_reducible exact H2_) | with_reducible exact H | (rw [hy114]; exact H) | exact H
                have Ny114 := Aside0.mk hy114
                clear hy114
                replace H := Option.bind_eq_some_iff.mp H
                obtain ⟨t117, A70, H⟩ := H
                replace H : (if t117 = true then (some true) else (wherrylaw18_Heavy.l0 k1 l0 (wrap64 (x3_1 + 1)))) = some r := H
                have A7 := Aside0.mk A70
                clear A70
                by_cases c8 : t117 = true
                · subst c8
                  have H1 : (some true) = some r := by rw [if_pos rfl] at H; exact H
                  clear H
                  have H := H1
                  clear H1
                  obtain rfl := Option.some.inj H
                  have p111 : 0 ≤ (x3_1 : Int) := of_decide_eq_true (by first | (with_reducible assumption) | assumption)
                  have q111 : x3_1 < (l0.length : Int) := of_decide_eq_true (by first | (with_reducible assumption) | assumption)
                  obtain ⟨ad111, A111_4, c111_4, A111_5, c111_5, A111_10, c111_10, A111_14, c111_14, e111, hx111_0, hx111_1, hx111_2, hx111_3, hx111_4, hx111_5, hx111_6, hx111_7, hx111_8, hx111_9, hx111_10, hx111_11, hx111_12, hx111_13, hx111_14, hl111_4, hi111_4, hl111_5, hi111_5, hl111_10, hi111_10, hl111_14, hi111_14⟩ := at_T39 (Kd.V_reads' HO_0.out).2.2 x3_1 p111 q111
                  cases e111
                  obtain ⟨ce111, hce111, hMe111, hcc111⟩ := Kd.V_get HO_0.out z39 x3_1 p111 (by first | exact q111 | exact of_decide_eq_true (by first | (with_reducible assumption) | assumption) | (have e_ := (Kd.V_reads' HO_0.out).1; omega))
                  obtain ⟨ua111_4, uc111_4, ua111_5, uc111_5, ua111_10, uc111_10, ua111_14, uc111_14, rfl, ul111_4, ge111_4, ul111_5, ge111_5, ul111_10, ge111_10, ul111_14, ge111_14⟩ := k39_openF hMe111
                  have hv111_4 := hcc111 4 _ rfl
                  rw [add_field _ _ 4 (by omega)] at hv111_4
                  replace hv111_4 := Option.some.inj (hv111_4.symm.trans hx111_4)
                  injection hv111_4 with hva_ hvn_ hvc_
                  rw [hva_] at ge111_4
                  rw [hvc_] at ul111_4
                  have HL111_4 := Aside0.mk (show Kd.V k32 32 _ w.heap.size _ _ ((rd_T39 l0 x3_1).f1.f1) from Kd.V_mk ul111_4 ge111_4)
                  clear hva_ hvn_ hvc_ ge111_4 ul111_4
                  have hv111_5 := hcc111 5 _ rfl
                  rw [add_field _ _ 5 (by omega)] at hv111_5
                  replace hv111_5 := Option.some.inj (hv111_5.symm.trans hx111_5)
                  injection hv111_5 with hva_ hvn_ hvc_
                  rw [hva_] at ge111_5
                  rw [hvc_] at ul111_5
                  have HL111_5 := Aside0.mk (show Kd.V (Kd.int .u8) 5 _ w.heap.size _ _ ((rd_T39 l0 x3_1).f1.f2) from Kd.V_mk ul111_5 ge111_5)
                  clear hva_ hvn_ hvc_ ge111_5 ul111_5
                  have hv111_10 := hcc111 10 _ rfl
                  rw [add_field _ _ 10 (by omega)] at hv111_10
                  replace hv111_10 := Option.some.inj (hv111_10.symm.trans hx111_10)
                  injection hv111_10 with hva_ hvn_ hvc_
                  rw [hva_] at ge111_10
                  rw [hvc_] at ul111_10
                  have HL111_10 := Aside0.mk (show Kd.V (Kd.int .i64) 3 _ w.heap.size _ _ ((rd_T39 l0 x3_1).f3) from Kd.V_mk ul111_10 ge111_10)
                  clear hva_ hvn_ hvc_ ge111_10 ul111_10
                  have hv111_14 := hcc111 14 _ rfl
                  rw [add_field _ _ 14 (by omega)] at hv111_14
                  replace hv111_14 := Option.some.inj (hv111_14.symm.trans hx111_14)
                  injection hv111_14 with hva_ hvn_ hvc_
                  rw [hva_] at ge111_14
                  rw [hvc_] at ul111_14
                  have HL111_14 := Aside0.mk (show Kd.V (Kd.int .u8) 5 _ w.heap.size _ _ ((rd_T39 l0 x3_1).f7) from Kd.V_mk ul111_14 ge111_14)
                  clear hva_ hvn_ hvc_ ge111_14 ul111_14
                  clear hcc111 hce111
                  have HR111_4 := Aside0.mk hi111_4
                  have HC111_4 := Aside0.mk hl111_4
                  clear hi111_4 hl111_4
                  have HR111_5 := Aside0.mk hi111_5
                  have HC111_5 := Aside0.mk hl111_5
                  clear hi111_5 hl111_5
                  have HR111_10 := Aside0.mk hi111_10
                  have HC111_10 := Aside0.mk hl111_10
                  clear hi111_10 hl111_10
                  have HR111_14 := Aside0.mk hi111_14
                  have HC111_14 := Aside0.mk hl111_14
                  clear hi111_14 hl111_14
                  replace p111 := eq_true p111
                  replace q111 := eq_true q111
                  have p112 : 0 ≤ (x3_1 : Int) := of_decide_eq_true (by first | (with_reducible assumption) | assumption)
                  have q112 : x3_1 < (l0.length : Int) := of_decide_eq_true (by first | (with_reducible assumption) | assumption)
                  obtain ⟨ad112, A112_4, c112_4, A112_5, c112_5, A112_10, c112_10, A112_14, c112_14, e112, hx112_0, hx112_1, hx112_2, hx112_3, hx112_4, hx112_5, hx112_6, hx112_7, hx112_8, hx112_9, hx112_10, hx112_11, hx112_12, hx112_13, hx112_14, hl112_4, hi112_4, hl112_5, hi112_5, hl112_10, hi112_10, hl112_14, hi112_14⟩ := at_T39 (Kd.V_reads' HO_0.out).2.2 x3_1 p112 q112
                  obtain rfl : ad111 = ad112 := (by injection e112)
                  obtain ⟨ce112, hce112, hMe112, hcc112⟩ := Kd.V_get HO_0.out z39 x3_1 p112 (by first | exact q112 | exact of_decide_eq_true (by first | (with_reducible assumption) | assumption) | (have e_ := (Kd.V_reads' HO_0.out).1; omega))
                  obtain ⟨ua112_4, uc112_4, ua112_5, uc112_5, ua112_10, uc112_10, ua112_14, uc112_14, rfl, ul112_4, ge112_4, ul112_5, ge112_5, ul112_10, ge112_10, ul112_14, ge112_14⟩ := k39_openF hMe112
                  have hv112_4 := hcc112 4 _ rfl
                  rw [add_field _ _ 4 (by omega)] at hv112_4
                  replace hv112_4 := Option.some.inj (hv112_4.symm.trans hx112_4)
                  injection hv112_4 with hva_ hvn_ hvc_
                  rw [hva_] at ge112_4
                  rw [hvc_] at ul112_4
                  have HL112_4 := Aside0.mk (show Kd.V k32 32 _ w.heap.size _ _ ((rd_T39 l0 x3_1).f1.f1) from Kd.V_mk ul112_4 ge112_4)
                  clear hva_ hvn_ hvc_ ge112_4 ul112_4
                  have hv112_5 := hcc112 5 _ rfl
                  rw [add_field _ _ 5 (by omega)] at hv112_5
                  replace hv112_5 := Option.some.inj (hv112_5.symm.trans hx112_5)
                  injection hv112_5 with hva_ hvn_ hvc_
                  rw [hva_] at ge112_5
                  rw [hvc_] at ul112_5
                  have HL112_5 := Aside0.mk (show Kd.V (Kd.int .u8) 5 _ w.heap.size _ _ ((rd_T39 l0 x3_1).f1.f2) from Kd.V_mk ul112_5 ge112_5)
                  clear hva_ hvn_ hvc_ ge112_5 ul112_5
                  have hv112_10 := hcc112 10 _ rfl
                  rw [add_field _ _ 10 (by omega)] at hv112_10
                  replace hv112_10 := Option.some.inj (hv112_10.symm.trans hx112_10)
                  injection hv112_10 with hva_ hvn_ hvc_
                  rw [hva_] at ge112_10
                  rw [hvc_] at ul112_10
                  have HL112_10 := Aside0.mk (show Kd.V (Kd.int .i64) 3 _ w.heap.size _ _ ((rd_T39 l0 x3_1).f3) from Kd.V_mk ul112_10 ge112_10)
                  clear hva_ hvn_ hvc_ ge112_10 ul112_10
                  have hv112_14 := hcc112 14 _ rfl
                  rw [add_field _ _ 14 (by omega)] at hv112_14
                  replace hv112_14 := Option.some.inj (hv112_14.symm.trans hx112_14)
                  injection hv112_14 with hva_ hvn_ hvc_
                  rw [hva_] at ge112_14
                  rw [hvc_] at ul112_14
                  have HL112_14 := Aside0.mk (show Kd.V (Kd.int .u8) 5 _ w.heap.size _ _ ((rd_T39 l0 x3_1).f7) from Kd.V_mk ul112_14 ge112_14)
                  clear hva_ hvn_ hvc_ ge112_14 ul112_14
                  clear hcc112 hce112
                  have HR112_4 := Aside0.mk hi112_4
                  have HC112_4 := Aside0.mk hl112_4
                  clear hi112_4 hl112_4
                  have HR112_5 := Aside0.mk hi112_5
                  have HC112_5 := Aside0.mk hl112_5
                  clear hi112_5 hl112_5
                  have HR112_10 := Aside0.mk hi112_10
                  have HC112_10 := Aside0.mk hl112_10
                  clear hi112_10 hl112_10
                  have HR112_14 := Aside0.mk hi112_14
                  have HC112_14 := Aside0.mk hl112_14
                  clear hi112_14 hl112_14
                  replace p112 := eq_true p112
                  replace q112 := eq_true q112
                  have ea_ := Option.some.inj (hx111_4.symm.trans hx112_4)
                  injection ea_ with ea_ en_ ec_
                  subst ea_
                  subst ec_
                  clear en_
                  have ea_ := Option.some.inj (hx111_5.symm.trans hx112_5)
                  injection ea_ with ea_ en_ ec_
                  subst ea_
                  subst ec_
                  clear en_
                  have ea_ := Option.some.inj (hx111_10.symm.trans hx112_10)
                  injection ea_ with ea_ en_ ec_
                  subst ea_
                  subst ec_
                  clear en_
                  have ea_ := Option.some.inj (hx111_14.symm.trans hx112_14)
                  injection ea_ with ea_ en_ ec_
                  subst ea_
                  subst ec_
                  clear en_
                  have p113 : 0 ≤ (x3_1 : Int) := of_decide_eq_true (by first | (with_reducible assumption) | assumption)
                  have q113 : x3_1 < (l0.length : Int) := of_decide_eq_true (by first | (with_reducible assumption) | assumption)
                  obtain ⟨ad113, A113_4, c113_4, A113_5, c113_5, A113_10, c113_10, A113_14, c113_14, e113, hx113_0, hx113_1, hx113_2, hx113_3, hx113_4, hx113_5, hx113_6, hx113_7, hx113_8, hx113_9, hx113_10, hx113_11, hx113_12, hx113_13, hx113_14, hl113_4, hi113_4, hl113_5, hi113_5, hl113_10, hi113_10, hl113_14, hi113_14⟩ := at_T39 (Kd.V_reads' HO_0.out).2.2 x3_1 p113 q113
                  obtain rfl : ad111 = ad113 := (by injection e113)
                  obtain ⟨ce113, hce113, hMe113, hcc113⟩ := Kd.V_get HO_0.out z39 x3_1 p113 (by first | exact q113 | exact of_decide_eq_true (by first | (with_reducible assumption) | assumption) | (have e_ := (Kd.V_reads' HO_0.out).1; omega))
                  obtain ⟨ua113_4, uc113_4, ua113_5, uc113_5, ua113_10, uc113_10, ua113_14, uc113_14, rfl, ul113_4, ge113_4, ul113_5, ge113_5, ul113_10, ge113_10, ul113_14, ge113_14⟩ := k39_openF hMe113
                  have hv113_4 := hcc113 4 _ rfl
                  rw [add_field _ _ 4 (by omega)] at hv113_4
                  replace hv113_4 := Option.some.inj (hv113_4.symm.trans hx113_4)
                  injection hv113_4 with hva_ hvn_ hvc_
                  rw [hva_] at ge113_4
                  rw [hvc_] at ul113_4
                  have HL113_4 := Aside0.mk (show Kd.V k32 32 _ w.heap.size _ _ ((rd_T39 l0 x3_1).f1.f1) from Kd.V_mk ul113_4 ge113_4)
                  clear hva_ hvn_ hvc_ ge113_4 ul113_4
                  have hv113_5 := hcc113 5 _ rfl
                  rw [add_field _ _ 5 (by omega)] at hv113_5
                  replace hv113_5 := Option.some.inj (hv113_5.symm.trans hx113_5)
                  injection hv113_5 with hva_ hvn_ hvc_
                  rw [hva_] at ge113_5
                  rw [hvc_] at ul113_5
                  have HL113_5 := Aside0.mk (show Kd.V (Kd.int .u8) 5 _ w.heap.size _ _ ((rd_T39 l0 x3_1).f1.f2) from Kd.V_mk ul113_5 ge113_5)
                  clear hva_ hvn_ hvc_ ge113_5 ul113_5
                  have hv113_10 := hcc113 10 _ rfl
                  rw [add_field _ _ 10 (by omega)] at hv113_10
                  replace hv113_10 := Option.some.inj (hv113_10.symm.trans hx113_10)
                  injection hv113_10 with hva_ hvn_ hvc_
                  rw [hva_] at ge113_10
                  rw [hvc_] at ul113_10
                  have HL113_10 := Aside0.mk (show Kd.V (Kd.int .i64) 3 _ w.heap.size _ _ ((rd_T39 l0 x3_1).f3) from Kd.V_mk ul113_10 ge113_10)
                  clear hva_ hvn_ hvc_ ge113_10 ul113_10
                  have hv113_14 := hcc113 14 _ rfl
                  rw [add_field _ _ 14 (by omega)] at hv113_14
                  replace hv113_14 := Option.some.inj (hv113_14.symm.trans hx113_14)
                  injection hv113_14 with hva_ hvn_ hvc_
                  rw [hva_] at ge113_14
                  rw [hvc_] at ul113_14
                  have HL113_14 := Aside0.mk (show Kd.V (Kd.int .u8) 5 _ w.heap.size _ _ ((rd_T39 l0 x3_1).f7) from Kd.V_mk ul113_14 ge113_14)
                  clear hva_ hvn_ hvc_ ge113_14 ul113_14
                  clear hcc113 hce113
                  have HR113_4 := Aside0.mk hi113_4
                  have HC113_4 := Aside0.mk hl113_4
                  clear hi113_4 hl113_4
                  have HR113_5 := Aside0.mk hi113_5
                  have HC113_5 := Aside0.mk hl113_5
                  clear hi113_5 hl113_5
                  have HR113_10 := Aside0.mk hi113_10
                  have HC113_10 := Aside0.mk hl113_10
                  clear hi113_10 hl113_10
                  have HR113_14 := Aside0.mk hi113_14
                  have HC113_14 := Aside0.mk hl113_14
                  clear hi113_14 hl113_14
                  replace p113 := eq_true p113
                  replace q113 := eq_true q113
                  have ea_ := Option.some.inj (hx111_4.symm.trans hx113_4)
                  injection ea_ with ea_ en_ ec_
                  subst ea_
                  subst ec_
                  clear en_
                  have ea_ := Option.some.inj (hx111_5.symm.trans hx113_5)
                  injection ea_ with ea_ en_ ec_
                  subst ea_
                  subst ec_
                  clear en_
                  have ea_ := Option.some.inj (hx111_10.symm.trans hx113_10)
                  injection ea_ with ea_ en_ ec_
                  subst ea_
                  subst ec_
                  clear en_
                  have ea_ := Option.some.inj (hx111_14.symm.trans hx113_14)
                  injection ea_ with ea_ en_ ec_
                  subst ea_
                  subst ec_
                  clear en_
                  go_wp2_with (first | ((with_reducible refine gate_dst (N := 35) rfl ?_); (try (refine gate_guard (by rfl) ?_; dsimp only)); refine Kd.N_lit k36 _ 36 ?hg (N' := 35) ?hd (xs := ([(⟨(⟨(rd_T39 l0 x3_1).f1.f0.f0, (rd_T39 l0 x3_1).f1.f0.f1, (rd_T39 l0 x3_1).f1.f0.f2⟩ : S32), (rd_T39 l0 x3_1).f1.f1, (rd_T39 l0 x3_1).f1.f2, (rd_T39 l0 x3_1).f1.f3, (rd_T39 l0 x3_1).f1.f4, (rd_T39 l0 x3_1).f1.f5⟩ : S36)] : List (S36))) (inner := [.bool ((rd_T39 l0 x3_1).f1.f0.f0), .string ((rd_T39 l0 x3_1).f1.f0.f1), .string ((rd_T39 l0 x3_1).f1.f0.f2), .slice A111_4 ((rd_T39 l0 x3_1).f1.f1).length c111_4, .slice A111_5 ((rd_T39 l0 x3_1).f1.f2).length c111_5, .bool ((rd_T39 l0 x3_1).f1.f3), .string ((rd_T39 l0 x3_1).f1.f4), .int .i64 ((rd_T39 l0 x3_1).f1.f5)]) (ok := (fun k_ => (P0_ k_ ∨ w.heap.size ≤ k_))) (okp := (fun k_ => (P0_ k_ ∨ w.heap.size ≤ k_))) ?hr ?hp (fun _ hk => hk) ((show ∀ k_, wr.heap.size ≤ k_ → (fun k_ => (P0_ k_ ∨ w.heap.size ≤ k_)) k_ from fun k_ hk => (.inr (Nat.le_trans (below_size (by repeat (first | (with_reducible first | exact HB.out | apply below_alloc | apply pw_below_drewN | apply below_drew1) | exact HB.out))) hk))) _ (Nat.le_refl _)) (Below.refl _ _) (Nat.le_refl _) (by simp) ?_; (case hd => rfl); (case hg => rfl); (case hr => first | (go_simp; done) | (go_simp; rfl)); (case hp => exact (Reps.c8 (show Kd.FK k36 _ _ (⟨(⟨(rd_T39 l0 x3_1).f1.f0.f0, (rd_T39 l0 x3_1).f1.f0.f1, (rd_T39 l0 x3_1).f1.f0.f2⟩ : S32), (rd_T39 l0 x3_1).f1.f1, (rd_T39 l0 x3_1).f1.f2, (rd_T39 l0 x3_1).f1.f3, (rd_T39 l0 x3_1).f1.f4, (rd_T39 l0 x3_1).f1.f5⟩ : S36) [.bool ((rd_T39 l0 x3_1).f1.f0.f0), .string ((rd_T39 l0 x3_1).f1.f0.f1), .string ((rd_T39 l0 x3_1).f1.f0.f2), .slice A111_4 ((rd_T39 l0 x3_1).f1.f1).length c111_4, .slice A111_5 ((rd_T39 l0 x3_1).f1.f2).length c111_5, .bool ((rd_T39 l0 x3_1).f1.f3), .string ((rd_T39 l0 x3_1).f1.f4), .int .i64 ((rd_T39 l0 x3_1).f1.f5)] from (k36_mkF _ _ (⟨(⟨(rd_T39 l0 x3_1).f1.f0.f0, (rd_T39 l0 x3_1).f1.f0.f1, (rd_T39 l0 x3_1).f1.f0.f2⟩ : S32), (rd_T39 l0 x3_1).f1.f1, (rd_T39 l0 x3_1).f1.f2, (rd_T39 l0 x3_1).f1.f3, (rd_T39 l0 x3_1).f1.f4, (rd_T39 l0 x3_1).f1.f5⟩ : S36) (Kd.V_reads' (Kd.V_mono (ok' := (fun k_ => (P0_ k_ ∨ w.heap.size ≤ k_))) (HL113_4.out) (fun k_ hk => hk))).2.1 (Kd.V_F (Kd.V_mono (ok' := (fun k_ => (P0_ k_ ∨ w.heap.size ≤ k_))) (HL113_4.out) (fun k_ hk => hk))) (Kd.V_reads' (Kd.V_mono (ok' := (fun k_ => (P0_ k_ ∨ w.heap.size ≤ k_))) (HL113_5.out) (fun k_ hk => hk))).2.1 (Kd.V_F (Kd.V_mono (ok' := (fun k_ => (P0_ k_ ∨ w.heap.size ≤ k_))) (HL113_5.out) (fun k_ hk => hk))))) (Reps.none _ _))); intro v115 w9 ho10 hb hg_ hnew_; clear hg_ hnew_; (first | rw [← Ny114.out] at ho10 | (simp only [Int.reduceToNat] at ho10; rw [← Ny114.out] at ho10)); have n0_ := Aside0.mk (Kd.V_elder' (by (with_reducible repeat (first | apply Kd.V_alloc | apply Kd.V_drewN | apply Kd.V_drew)); exact HO_0.out) (Kd.N_base ho10) hb); have n1_ := Aside0.mk (Kd.V_elder' (by (with_reducible repeat (first | apply Kd.V_alloc | apply Kd.V_drewN | apply Kd.V_drew)); exact HL111_4.out) (Kd.N_base ho10) hb); have n2_ := Aside0.mk (Kd.V_elder' (by (with_reducible repeat (first | apply Kd.V_alloc | apply Kd.V_drewN | apply Kd.V_drew)); exact HL111_5.out) (Kd.N_base ho10) hb); have n3_ := Aside0.mk (Kd.V_elder' (by (with_reducible repeat (first | apply Kd.V_alloc | apply Kd.V_drewN | apply Kd.V_drew)); exact HL111_10.out) (Kd.N_base ho10) hb); have n4_ := Aside0.mk (Kd.V_elder' (by (with_reducible repeat (first | apply Kd.V_alloc | apply Kd.V_drewN | apply Kd.V_drew)); exact HL111_14.out) (Kd.N_base ho10) hb); have n5_ := Aside0.mk (Kd.V_elder' (by (with_reducible repeat (first | apply Kd.V_alloc | apply Kd.V_drewN | apply Kd.V_drew)); exact HL112_4.out) (Kd.N_base ho10) hb); have n6_ := Aside0.mk (Kd.V_elder' (by (with_reducible repeat (first | apply Kd.V_alloc | apply Kd.V_drewN | apply Kd.V_drew)); exact HL112_5.out) (Kd.N_base ho10) hb); have n7_ := Aside0.mk (Kd.V_elder' (by (with_reducible repeat (first | apply Kd.V_alloc | apply Kd.V_drewN | apply Kd.V_drew)); exact HL112_10.out) (Kd.N_base ho10) hb); have n8_ := Aside0.mk (Kd.V_elder' (by (with_reducible repeat (first | apply Kd.V_alloc | apply Kd.V_drewN | apply Kd.V_drew)); exact HL112_14.out) (Kd.N_base ho10) hb); have n9_ := Aside0.mk (Kd.V_elder' (by (with_reducible repeat (first | apply Kd.V_alloc | apply Kd.V_drewN | apply Kd.V_drew)); exact HL113_4.out) (Kd.N_base ho10) hb); have n10_ := Aside0.mk (Kd.V_elder' (by (with_reducible repeat (first | apply Kd.V_alloc | apply Kd.V_drewN | apply Kd.V_drew)); exact HL113_5.out) (Kd.N_base ho10) hb); have n11_ := Aside0.mk (Kd.V_elder' (by (with_reducible repeat (first | apply Kd.V_alloc | apply Kd.V_drewN | apply Kd.V_drew)); exact HL113_10.out) (Kd.N_base ho10) hb); have n12_ := Aside0.mk (Kd.V_elder' (by (with_reducible repeat (first | apply Kd.V_alloc | apply Kd.V_drewN | apply Kd.V_drew)); exact HL113_14.out) (Kd.N_base ho10) hb); have n13_ := Aside0.mk (Kd.N_lower ho10 (below_size (by repeat (first | (with_reducible first | exact HB.out | apply below_alloc | apply pw_below_drewN | apply below_drew1) | exact HB.out)))); have n14_ := Aside0.mk (Kd.C_below (by repeat (first | (with_reducible exact HR111_4.out) | (with_reducible refine Kd.C_alloc ?_ _) | (with_reducible refine Kd.C_drewN ?_ _) | (with_reducible refine Kd.C_drew ?_) | exact HR111_4.out)) hb); have n15_ := Aside0.mk (Kd.C_below (by repeat (first | (with_reducible exact HR111_5.out) | (with_reducible refine Kd.C_alloc ?_ _) | (with_reducible refine Kd.C_drewN ?_ _) | (with_reducible refine Kd.C_drew ?_) | exact HR111_5.out)) hb); have n16_ := Aside0.mk (Kd.C_below (by repeat (first | (with_reducible exact HR111_10.out) | (with_reducible refine Kd.C_alloc ?_ _) | (with_reducible refine Kd.C_drewN ?_ _) | (with_reducible refine Kd.C_drew ?_) | exact HR111_10.out)) hb); have n17_ := Aside0.mk (Kd.C_below (by repeat (first | (with_reducible exact HR111_14.out) | (with_reducible refine Kd.C_alloc ?_ _) | (with_reducible refine Kd.C_drewN ?_ _) | (with_reducible refine Kd.C_drew ?_) | exact HR111_14.out)) hb); have n18_ := Aside0.mk (Kd.C_below (by repeat (first | (with_reducible exact HR112_4.out) | (with_reducible refine Kd.C_alloc ?_ _) | (with_reducible refine Kd.C_drewN ?_ _) | (with_reducible refine Kd.C_drew ?_) | exact HR112_4.out)) hb); have n19_ := Aside0.mk (Kd.C_below (by repeat (first | (with_reducible exact HR112_5.out) | (with_reducible refine Kd.C_alloc ?_ _) | (with_reducible refine Kd.C_drewN ?_ _) | (with_reducible refine Kd.C_drew ?_) | exact HR112_5.out)) hb); have n20_ := Aside0.mk (Kd.C_below (by repeat (first | (with_reducible exact HR112_10.out) | (with_reducible refine Kd.C_alloc ?_ _) | (with_reducible refine Kd.C_drewN ?_ _) | (with_reducible refine Kd.C_drew ?_) | exact HR112_10.out)) hb); have n21_ := Aside0.mk (Kd.C_below (by repeat (first | (with_reducible exact HR112_14.out) | (with_reducible refine Kd.C_alloc ?_ _) | (with_reducible refine Kd.C_drewN ?_ _) | (with_reducible refine Kd.C_drew ?_) | exact HR112_14.out)) hb); have n22_ := Aside0.mk (Kd.C_below (by repeat (first | (with_reducible exact HR113_4.out) | (with_reducible refine Kd.C_alloc ?_ _) | (with_reducible refine Kd.C_drewN ?_ _) | (with_reducible refine Kd.C_drew ?_) | exact HR113_4.out)) hb); have n23_ := Aside0.mk (Kd.C_below (by repeat (first | (with_reducible exact HR113_5.out) | (with_reducible refine Kd.C_alloc ?_ _) | (with_reducible refine Kd.C_drewN ?_ _) | (with_reducible refine Kd.C_drew ?_) | exact HR113_5.out)) hb); have n24_ := Aside0.mk (Kd.C_below (by repeat (first | (with_reducible exact HR113_10.out) | (with_reducible refine Kd.C_alloc ?_ _) | (with_reducible refine Kd.C_drewN ?_ _) | (with_reducible refine Kd.C_drew ?_) | exact HR113_10.out)) hb); have n25_ := Aside0.mk (Kd.C_below (by repeat (first | (with_reducible exact HR113_14.out) | (with_reducible refine Kd.C_alloc ?_ _) | (with_reducible refine Kd.C_drewN ?_ _) | (with_reducible refine Kd.C_drew ?_) | exact HR113_14.out)) hb); have n26_ := Aside0.mk (below_step (by repeat (first | (with_reducible first | exact HB.out | apply below_alloc | apply pw_below_drewN | apply below_drew1) | exact HB.out)) hb); clear HO_0; clear HL111_4; clear HL111_5; clear HL111_10; clear HL111_14; clear HL112_4; clear HL112_5; clear HL112_10; clear HL112_14; clear HL113_4; clear HL113_5; clear HL113_10; clear HL113_14; clear HR111_4; clear HR111_5; clear HR111_10; clear HR111_14; clear HR112_4; clear HR112_5; clear HR112_10; clear HR112_14; clear HR113_4; clear HR113_5; clear HR113_10; clear HR113_14; clear HB; have HO_0 := n0_; have HL111_4 := n1_; have HL111_5 := n2_; have HL111_10 := n3_; have HL111_14 := n4_; have HL112_4 := n5_; have HL112_5 := n6_; have HL112_10 := n7_; have HL112_14 := n8_; have HL113_4 := n9_; have HL113_5 := n10_; have HL113_10 := n11_; have HL113_14 := n12_; have HO116 := n13_; have HR111_4 := n14_; have HR111_5 := n15_; have HR111_10 := n16_; have HR111_14 := n17_; have HR112_4 := n18_; have HR112_5 := n19_; have HR112_10 := n20_; have HR112_14 := n21_; have HR113_4 := n22_; have HR113_5 := n23_; have HR113_10 := n24_; have HR113_14 := n25_; have HB := n26_; clear n0_ n1_ n2_ n3_ n4_ n5_ n6_ n7_ n8_ n9_ n10_ n11_ n12_ n13_ n14_ n15_ n16_ n17_ n18_ n19_ n20_ n21_ n22_ n23_ n24_ n25_ n26_; clear hb ho10; obtain ⟨Ao11, co11, eo11⟩ := Kd.N_slice HO116.out; subst eo11) | (go_at_call 38; (with_reducible refine (wherrylaw17_Heavy.calls k1 _ _ y114 true _ ?side1 ?side2 A7.out).mono ?_); (case side1 => repeat (first | exact (Kd.N_reads' HO116.out).2.2 | (with_reducible refine Kd.C_alloc ?_ _) | (with_reducible refine Kd.C_drewN ?_ _) | (with_reducible refine Kd.C_drew ?_))); (case side2 => exact (Kd.N_reads' HO116.out).2.1); rintro e w' ⟨rfl, ⟨nd, rfl⟩⟩))
                  go_ret
                  exact ⟨by first | rfl | (simp [errW_none, errW_some] <;> rfl) | (simp [*, errW_none, errW_some] <;> rfl), by repeat (first | (with_reducible first | exact HB.out | apply below_alloc | apply pw_below_drewN | apply below_drew1) | exact HB.out)⟩
                · replace c8 := Bool.eq_false_iff.mpr c8
                  subst c8
                  have H1 : (wherrylaw18_Heavy.l0 k1 l0 (wrap64 (x3_1 + 1))) = some r := by rw [if_neg (show ¬ (false = true) by decide)] at H; exact H
                  clear H
                  have H := H1
                  clear H1
                  have H' := Aside0.mk H
                  clear H
                  have p111 : 0 ≤ (x3_1 : Int) := of_decide_eq_true (by first | (with_reducible assumption) | assumption)
                  have q111 : x3_1 < (l0.length : Int) := of_decide_eq_true (by first | (with_reducible assumption) | assumption)
                  obtain ⟨ad111, A111_4, c111_4, A111_5, c111_5, A111_10, c111_10, A111_14, c111_14, e111, hx111_0, hx111_1, hx111_2, hx111_3, hx111_4, hx111_5, hx111_6, hx111_7, hx111_8, hx111_9, hx111_10, hx111_11, hx111_12, hx111_13, hx111_14, hl111_4, hi111_4, hl111_5, hi111_5, hl111_10, hi111_10, hl111_14, hi111_14⟩ := at_T39 (Kd.V_reads' HO_0.out).2.2 x3_1 p111 q111
                  cases e111
                  obtain ⟨ce111, hce111, hMe111, hcc111⟩ := Kd.V_get HO_0.out z39 x3_1 p111 (by first | exact q111 | exact of_decide_eq_true (by first | (with_reducible assumption) | assumption) | (have e_ := (Kd.V_reads' HO_0.out).1; omega))
                  obtain ⟨ua111_4, uc111_4, ua111_5, uc111_5, ua111_10, uc111_10, ua111_14, uc111_14, rfl, ul111_4, ge111_4, ul111_5, ge111_5, ul111_10, ge111_10, ul111_14, ge111_14⟩ := k39_openF hMe111
                  have hv111_4 := hcc111 4 _ rfl
                  rw [add_field _ _ 4 (by omega)] at hv111_4
                  replace hv111_4 := Option.some.inj (hv111_4.symm.trans hx111_4)
                  injection hv111_4 with hva_ hvn_ hvc_
                  rw [hva_] at ge111_4
                  rw [hvc_] at ul111_4
                  have HL111_4 := Aside0.mk (show Kd.V k32 32 _ w.heap.size _ _ ((rd_T39 l0 x3_1).f1.f1) from Kd.V_mk ul111_4 ge111_4)
                  clear hva_ hvn_ hvc_ ge111_4 ul111_4
                  have hv111_5 := hcc111 5 _ rfl
                  rw [add_field _ _ 5 (by omega)] at hv111_5
                  replace hv111_5 := Option.some.inj (hv111_5.symm.trans hx111_5)
                  injection hv111_5 with hva_ hvn_ hvc_
                  rw [hva_] at ge111_5
                  rw [hvc_] at ul111_5
                  have HL111_5 := Aside0.mk (show Kd.V (Kd.int .u8) 5 _ w.heap.size _ _ ((rd_T39 l0 x3_1).f1.f2) from Kd.V_mk ul111_5 ge111_5)
                  clear hva_ hvn_ hvc_ ge111_5 ul111_5
                  have hv111_10 := hcc111 10 _ rfl
                  rw [add_field _ _ 10 (by omega)] at hv111_10
                  replace hv111_10 := Option.some.inj (hv111_10.symm.trans hx111_10)
                  injection hv111_10 with hva_ hvn_ hvc_
                  rw [hva_] at ge111_10
                  rw [hvc_] at ul111_10
                  have HL111_10 := Aside0.mk (show Kd.V (Kd.int .i64) 3 _ w.heap.size _ _ ((rd_T39 l0 x3_1).f3) from Kd.V_mk ul111_10 ge111_10)
                  clear hva_ hvn_ hvc_ ge111_10 ul111_10
                  have hv111_14 := hcc111 14 _ rfl
                  rw [add_field _ _ 14 (by omega)] at hv111_14
                  replace hv111_14 := Option.some.inj (hv111_14.symm.trans hx111_14)
                  injection hv111_14 with hva_ hvn_ hvc_
                  rw [hva_] at ge111_14
                  rw [hvc_] at ul111_14
                  have HL111_14 := Aside0.mk (show Kd.V (Kd.int .u8) 5 _ w.heap.size _ _ ((rd_T39 l0 x3_1).f7) from Kd.V_mk ul111_14 ge111_14)
                  clear hva_ hvn_ hvc_ ge111_14 ul111_14
                  clear hcc111 hce111
                  have HR111_4 := Aside0.mk hi111_4
                  have HC111_4 := Aside0.mk hl111_4
                  clear hi111_4 hl111_4
                  have HR111_5 := Aside0.mk hi111_5
                  have HC111_5 := Aside0.mk hl111_5
                  clear hi111_5 hl111_5
                  have HR111_10 := Aside0.mk hi111_10
                  have HC111_10 := Aside0.mk hl111_10
                  clear hi111_10 hl111_10
                  have HR111_14 := Aside0.mk hi111_14
                  have HC111_14 := Aside0.mk hl111_14
                  clear hi111_14 hl111_14
                  replace p111 := eq_true p111
                  replace q111 := eq_true q111
                  have p112 : 0 ≤ (x3_1 : Int) := of_decide_eq_true (by first | (with_reducible assumption) | assumption)
                  have q112 : x3_1 < (l0.length : Int) := of_decide_eq_true (by first | (with_reducible assumption) | assumption)
                  obtain ⟨ad112, A112_4, c112_4, A112_5, c112_5, A112_10, c112_10, A112_14, c112_14, e112, hx112_0, hx112_1, hx112_2, hx112_3, hx112_4, hx112_5, hx112_6, hx112_7, hx112_8, hx112_9, hx112_10, hx112_11, hx112_12, hx112_13, hx112_14, hl112_4, hi112_4, hl112_5, hi112_5, hl112_10, hi112_10, hl112_14, hi112_14⟩ := at_T39 (Kd.V_reads' HO_0.out).2.2 x3_1 p112 q112
                  obtain rfl : ad111 = ad112 := (by injection e112)
                  obtain ⟨ce112, hce112, hMe112, hcc112⟩ := Kd.V_get HO_0.out z39 x3_1 p112 (by first | exact q112 | exact of_decide_eq_true (by first | (with_reducible assumption) | assumption) | (have e_ := (Kd.V_reads' HO_0.out).1; omega))
                  obtain ⟨ua112_4, uc112_4, ua112_5, uc112_5, ua112_10, uc112_10, ua112_14, uc112_14, rfl, ul112_4, ge112_4, ul112_5, ge112_5, ul112_10, ge112_10, ul112_14, ge112_14⟩ := k39_openF hMe112
                  have hv112_4 := hcc112 4 _ rfl
                  rw [add_field _ _ 4 (by omega)] at hv112_4
                  replace hv112_4 := Option.some.inj (hv112_4.symm.trans hx112_4)
                  injection hv112_4 with hva_ hvn_ hvc_
                  rw [hva_] at ge112_4
                  rw [hvc_] at ul112_4
                  have HL112_4 := Aside0.mk (show Kd.V k32 32 _ w.heap.size _ _ ((rd_T39 l0 x3_1).f1.f1) from Kd.V_mk ul112_4 ge112_4)
                  clear hva_ hvn_ hvc_ ge112_4 ul112_4
                  have hv112_5 := hcc112 5 _ rfl
                  rw [add_field _ _ 5 (by omega)] at hv112_5
                  replace hv112_5 := Option.some.inj (hv112_5.symm.trans hx112_5)
                  injection hv112_5 with hva_ hvn_ hvc_
                  rw [hva_] at ge112_5
                  rw [hvc_] at ul112_5
                  have HL112_5 := Aside0.mk (show Kd.V (Kd.int .u8) 5 _ w.heap.size _ _ ((rd_T39 l0 x3_1).f1.f2) from Kd.V_mk ul112_5 ge112_5)
                  clear hva_ hvn_ hvc_ ge112_5 ul112_5
                  have hv112_10 := hcc112 10 _ rfl
                  rw [add_field _ _ 10 (by omega)] at hv112_10
                  replace hv112_10 := Option.some.inj (hv112_10.symm.trans hx112_10)
                  injection hv112_10 with hva_ hvn_ hvc_
                  rw [hva_] at ge112_10
                  rw [hvc_] at ul112_10
                  have HL112_10 := Aside0.mk (show Kd.V (Kd.int .i64) 3 _ w.heap.size _ _ ((rd_T39 l0 x3_1).f3) from Kd.V_mk ul112_10 ge112_10)
                  clear hva_ hvn_ hvc_ ge112_10 ul112_10
                  have hv112_14 := hcc112 14 _ rfl
                  rw [add_field _ _ 14 (by omega)] at hv112_14
                  replace hv112_14 := Option.some.inj (hv112_14.symm.trans hx112_14)
                  injection hv112_14 with hva_ hvn_ hvc_
                  rw [hva_] at ge112_14
                  rw [hvc_] at ul112_14
                  have HL112_14 := Aside0.mk (show Kd.V (Kd.int .u8) 5 _ w.heap.size _ _ ((rd_T39 l0 x3_1).f7) from Kd.V_mk ul112_14 ge112_14)
                  clear hva_ hvn_ hvc_ ge112_14 ul112_14
                  clear hcc112 hce112
                  have HR112_4 := Aside0.mk hi112_4
                  have HC112_4 := Aside0.mk hl112_4
                  clear hi112_4 hl112_4
                  have HR112_5 := Aside0.mk hi112_5
                  have HC112_5 := Aside0.mk hl112_5
                  clear hi112_5 hl112_5
                  have HR112_10 := Aside0.mk hi112_10
                  have HC112_10 := Aside0.mk hl112_10
                  clear hi112_10 hl112_10
                  have HR112_14 := Aside0.mk hi112_14
                  have HC112_14 := Aside0.mk hl112_14
                  clear hi112_14 hl112_14
                  replace p112 := eq_true p112
                  replace q112 := eq_true q112
                  have ea_ := Option.some.inj (hx111_4.symm.trans hx112_4)
                  injection ea_ with ea_ en_ ec_
                  subst ea_
                  subst ec_
                  clear en_
                  have ea_ := Option.some.inj (hx111_5.symm.trans hx112_5)
                  injection ea_ with ea_ en_ ec_
                  subst ea_
                  subst ec_
                  clear en_
                  have ea_ := Option.some.inj (hx111_10.symm.trans hx112_10)
                  injection ea_ with ea_ en_ ec_
                  subst ea_
                  subst ec_
                  clear en_
                  have ea_ := Option.some.inj (hx111_14.symm.trans hx112_14)
                  injection ea_ with ea_ en_ ec_
                  subst ea_
                  subst ec_
                  clear en_
                  have p113 : 0 ≤ (x3_1 : Int) := of_decide_eq_true (by first | (with_reducible assumption) | assumption)
                  have q113 : x3_1 < (l0.length : Int) := of_decide_eq_true (by first | (with_reducible assumption) | assumption)
                  obtain ⟨ad113, A113_4, c113_4, A113_5, c113_5, A113_10, c113_10, A113_14, c113_14, e113, hx113_0, hx113_1, hx113_2, hx113_3, hx113_4, hx113_5, hx113_6, hx113_7, hx113_8, hx113_9, hx113_10, hx113_11, hx113_12, hx113_13, hx113_14, hl113_4, hi113_4, hl113_5, hi113_5, hl113_10, hi113_10, hl113_14, hi113_14⟩ := at_T39 (Kd.V_reads' HO_0.out).2.2 x3_1 p113 q113
                  obtain rfl : ad111 = ad113 := (by injection e113)
                  obtain ⟨ce113, hce113, hMe113, hcc113⟩ := Kd.V_get HO_0.out z39 x3_1 p113 (by first | exact q113 | exact of_decide_eq_true (by first | (with_reducible assumption) | assumption) | (have e_ := (Kd.V_reads' HO_0.out).1; omega))
                  obtain ⟨ua113_4, uc113_4, ua113_5, uc113_5, ua113_10, uc113_10, ua113_14, uc113_14, rfl, ul113_4, ge113_4, ul113_5, ge113_5, ul113_10, ge113_10, ul113_14, ge113_14⟩ := k39_openF hMe113
                  have hv113_4 := hcc113 4 _ rfl
                  rw [add_field _ _ 4 (by omega)] at hv113_4
                  replace hv113_4 := Option.some.inj (hv113_4.symm.trans hx113_4)
                  injection hv113_4 with hva_ hvn_ hvc_
                  rw [hva_] at ge113_4
                  rw [hvc_] at ul113_4
                  have HL113_4 := Aside0.mk (show Kd.V k32 32 _ w.heap.size _ _ ((rd_T39 l0 x3_1).f1.f1) from Kd.V_mk ul113_4 ge113_4)
                  clear hva_ hvn_ hvc_ ge113_4 ul113_4
                  have hv113_5 := hcc113 5 _ rfl
                  rw [add_field _ _ 5 (by omega)] at hv113_5
                  replace hv113_5 := Option.some.inj (hv113_5.symm.trans hx113_5)
                  injection hv113_5 with hva_ hvn_ hvc_
                  rw [hva_] at ge113_5
                  rw [hvc_] at ul113_5
                  have HL113_5 := Aside0.mk (show Kd.V (Kd.int .u8) 5 _ w.heap.size _ _ ((rd_T39 l0 x3_1).f1.f2) from Kd.V_mk ul113_5 ge113_5)
                  clear hva_ hvn_ hvc_ ge113_5 ul113_5
                  have hv113_10 := hcc113 10 _ rfl
                  rw [add_field _ _ 10 (by omega)] at hv113_10
                  replace hv113_10 := Option.some.inj (hv113_10.symm.trans hx113_10)
                  injection hv113_10 with hva_ hvn_ hvc_
                  rw [hva_] at ge113_10
                  rw [hvc_] at ul113_10
                  have HL113_10 := Aside0.mk (show Kd.V (Kd.int .i64) 3 _ w.heap.size _ _ ((rd_T39 l0 x3_1).f3) from Kd.V_mk ul113_10 ge113_10)
                  clear hva_ hvn_ hvc_ ge113_10 ul113_10
                  have hv113_14 := hcc113 14 _ rfl
                  rw [add_field _ _ 14 (by omega)] at hv113_14
                  replace hv113_14 := Option.some.inj (hv113_14.symm.trans hx113_14)
                  injection hv113_14 with hva_ hvn_ hvc_
                  rw [hva_] at ge113_14
                  rw [hvc_] at ul113_14
                  have HL113_14 := Aside0.mk (show Kd.V (Kd.int .u8) 5 _ w.heap.size _ _ ((rd_T39 l0 x3_1).f7) from Kd.V_mk ul113_14 ge113_14)
                  clear hva_ hvn_ hvc_ ge113_14 ul113_14
                  clear hcc113 hce113
                  have HR113_4 := Aside0.mk hi113_4
                  have HC113_4 := Aside0.mk hl113_4
                  clear hi113_4 hl113_4
                  have HR113_5 := Aside0.mk hi113_5
                  have HC113_5 := Aside0.mk hl113_5
                  clear hi113_5 hl113_5
                  have HR113_10 := Aside0.mk hi113_10
                  have HC113_10 := Aside0.mk hl113_10
                  clear hi113_10 hl113_10
                  have HR113_14 := Aside0.mk hi113_14
                  have HC113_14 := Aside0.mk hl113_14
                  clear hi113_14 hl113_14
                  replace p113 := eq_true p113
                  replace q113 := eq_true q113
                  have ea_ := Option.some.inj (hx111_4.symm.trans hx113_4)
                  injection ea_ with ea_ en_ ec_
                  subst ea_
                  subst ec_
                  clear en_
                  have ea_ := Option.some.inj (hx111_5.symm.trans hx113_5)
                  injection ea_ with ea_ en_ ec_
                  subst ea_
                  subst ec_
                  clear en_
                  have ea_ := Option.some.inj (hx111_10.symm.trans hx113_10)
                  injection ea_ with ea_ en_ ec_
                  subst ea_
                  subst ec_
                  clear en_
                  have ea_ := Option.some.inj (hx111_14.symm.trans hx113_14)
                  injection ea_ with ea_ en_ ec_
                  subst ea_
                  subst ec_
                  clear en_
                  go_wp2_with (first | ((with_reducible refine gate_dst (N := 35) rfl ?_); (try (refine gate_guard (by rfl) ?_; dsimp only)); refine Kd.N_lit k36 _ 36 ?hg (N' := 35) ?hd (xs := ([(⟨(⟨(rd_T39 l0 x3_1).f1.f0.f0, (rd_T39 l0 x3_1).f1.f0.f1, (rd_T39 l0 x3_1).f1.f0.f2⟩ : S32), (rd_T39 l0 x3_1).f1.f1, (rd_T39 l0 x3_1).f1.f2, (rd_T39 l0 x3_1).f1.f3, (rd_T39 l0 x3_1).f1.f4, (rd_T39 l0 x3_1).f1.f5⟩ : S36)] : List (S36))) (inner := [.bool ((rd_T39 l0 x3_1).f1.f0.f0), .string ((rd_T39 l0 x3_1).f1.f0.f1), .string ((rd_T39 l0 x3_1).f1.f0.f2), .slice A111_4 ((rd_T39 l0 x3_1).f1.f1).length c111_4, .slice A111_5 ((rd_T39 l0 x3_1).f1.f2).length c111_5, .bool ((rd_T39 l0 x3_1).f1.f3), .string ((rd_T39 l0 x3_1).f1.f4), .int .i64 ((rd_T39 l0 x3_1).f1.f5)]) (ok := (fun k_ => (P0_ k_ ∨ w.heap.size ≤ k_))) (okp := (fun k_ => (P0_ k_ ∨ w.heap.size ≤ k_))) ?hr ?hp (fun _ hk => hk) ((show ∀ k_, wr.heap.size ≤ k_ → (fun k_ => (P0_ k_ ∨ w.heap.size ≤ k_)) k_ from fun k_ hk => (.inr (Nat.le_trans (below_size (by repeat (first | (with_reducible first | exact HB.out | apply below_alloc | apply pw_below_drewN | apply below_drew1) | exact HB.out))) hk))) _ (Nat.le_refl _)) (Below.refl _ _) (Nat.le_refl _) (by simp) ?_; (case hd => rfl); (case hg => rfl); (case hr => first | (go_simp; done) | (go_simp; rfl)); (case hp => exact (Reps.c8 (show Kd.FK k36 _ _ (⟨(⟨(rd_T39 l0 x3_1).f1.f0.f0, (rd_T39 l0 x3_1).f1.f0.f1, (rd_T39 l0 x3_1).f1.f0.f2⟩ : S32), (rd_T39 l0 x3_1).f1.f1, (rd_T39 l0 x3_1).f1.f2, (rd_T39 l0 x3_1).f1.f3, (rd_T39 l0 x3_1).f1.f4, (rd_T39 l0 x3_1).f1.f5⟩ : S36) [.bool ((rd_T39 l0 x3_1).f1.f0.f0), .string ((rd_T39 l0 x3_1).f1.f0.f1), .string ((rd_T39 l0 x3_1).f1.f0.f2), .slice A111_4 ((rd_T39 l0 x3_1).f1.f1).length c111_4, .slice A111_5 ((rd_T39 l0 x3_1).f1.f2).length c111_5, .bool ((rd_T39 l0 x3_1).f1.f3), .string ((rd_T39 l0 x3_1).f1.f4), .int .i64 ((rd_T39 l0 x3_1).f1.f5)] from (k36_mkF _ _ (⟨(⟨(rd_T39 l0 x3_1).f1.f0.f0, (rd_T39 l0 x3_1).f1.f0.f1, (rd_T39 l0 x3_1).f1.f0.f2⟩ : S32), (rd_T39 l0 x3_1).f1.f1, (rd_T39 l0 x3_1).f1.f2, (rd_T39 l0 x3_1).f1.f3, (rd_T39 l0 x3_1).f1.f4, (rd_T39 l0 x3_1).f1.f5⟩ : S36) (Kd.V_reads' (Kd.V_mono (ok' := (fun k_ => (P0_ k_ ∨ w.heap.size ≤ k_))) (HL113_4.out) (fun k_ hk => hk))).2.1 (Kd.V_F (Kd.V_mono (ok' := (fun k_ => (P0_ k_ ∨ w.heap.size ≤ k_))) (HL113_4.out) (fun k_ hk => hk))) (Kd.V_reads' (Kd.V_mono (ok' := (fun k_ => (P0_ k_ ∨ w.heap.size ≤ k_))) (HL113_5.out) (fun k_ hk => hk))).2.1 (Kd.V_F (Kd.V_mono (ok' := (fun k_ => (P0_ k_ ∨ w.heap.size ≤ k_))) (HL113_5.out) (fun k_ hk => hk))))) (Reps.none _ _))); intro v115 w12 ho13 hb hg_ hnew_; clear hg_ hnew_; (first | rw [← Ny114.out] at ho13 | (simp only [Int.reduceToNat] at ho13; rw [← Ny114.out] at ho13)); have n0_ := Aside0.mk (Kd.V_elder' (by (with_reducible repeat (first | apply Kd.V_alloc | apply Kd.V_drewN | apply Kd.V_drew)); exact HO_0.out) (Kd.N_base ho13) hb); have n1_ := Aside0.mk (Kd.V_elder' (by (with_reducible repeat (first | apply Kd.V_alloc | apply Kd.V_drewN | apply Kd.V_drew)); exact HL111_4.out) (Kd.N_base ho13) hb); have n2_ := Aside0.mk (Kd.V_elder' (by (with_reducible repeat (first | apply Kd.V_alloc | apply Kd.V_drewN | apply Kd.V_drew)); exact HL111_5.out) (Kd.N_base ho13) hb); have n3_ := Aside0.mk (Kd.V_elder' (by (with_reducible repeat (first | apply Kd.V_alloc | apply Kd.V_drewN | apply Kd.V_drew)); exact HL111_10.out) (Kd.N_base ho13) hb); have n4_ := Aside0.mk (Kd.V_elder' (by (with_reducible repeat (first | apply Kd.V_alloc | apply Kd.V_drewN | apply Kd.V_drew)); exact HL111_14.out) (Kd.N_base ho13) hb); have n5_ := Aside0.mk (Kd.V_elder' (by (with_reducible repeat (first | apply Kd.V_alloc | apply Kd.V_drewN | apply Kd.V_drew)); exact HL112_4.out) (Kd.N_base ho13) hb); have n6_ := Aside0.mk (Kd.V_elder' (by (with_reducible repeat (first | apply Kd.V_alloc | apply Kd.V_drewN | apply Kd.V_drew)); exact HL112_5.out) (Kd.N_base ho13) hb); have n7_ := Aside0.mk (Kd.V_elder' (by (with_reducible repeat (first | apply Kd.V_alloc | apply Kd.V_drewN | apply Kd.V_drew)); exact HL112_10.out) (Kd.N_base ho13) hb); have n8_ := Aside0.mk (Kd.V_elder' (by (with_reducible repeat (first | apply Kd.V_alloc | apply Kd.V_drewN | apply Kd.V_drew)); exact HL112_14.out) (Kd.N_base ho13) hb); have n9_ := Aside0.mk (Kd.V_elder' (by (with_reducible repeat (first | apply Kd.V_alloc | apply Kd.V_drewN | apply Kd.V_drew)); exact HL113_4.out) (Kd.N_base ho13) hb); have n10_ := Aside0.mk (Kd.V_elder' (by (with_reducible repeat (first | apply Kd.V_alloc | apply Kd.V_drewN | apply Kd.V_drew)); exact HL113_5.out) (Kd.N_base ho13) hb); have n11_ := Aside0.mk (Kd.V_elder' (by (with_reducible repeat (first | apply Kd.V_alloc | apply Kd.V_drewN | apply Kd.V_drew)); exact HL113_10.out) (Kd.N_base ho13) hb); have n12_ := Aside0.mk (Kd.V_elder' (by (with_reducible repeat (first | apply Kd.V_alloc | apply Kd.V_drewN | apply Kd.V_drew)); exact HL113_14.out) (Kd.N_base ho13) hb); have n13_ := Aside0.mk (Kd.N_lower ho13 (below_size (by repeat (first | (with_reducible first | exact HB.out | apply below_alloc | apply pw_below_drewN | apply below_drew1) | exact HB.out)))); have n14_ := Aside0.mk (Kd.C_below (by repeat (first | (with_reducible exact HR111_4.out) | (with_reducible refine Kd.C_alloc ?_ _) | (with_reducible refine Kd.C_drewN ?_ _) | (with_reducible refine Kd.C_drew ?_) | exact HR111_4.out)) hb); have n15_ := Aside0.mk (Kd.C_below (by repeat (first | (with_reducible exact HR111_5.out) | (with_reducible refine Kd.C_alloc ?_ _) | (with_reducible refine Kd.C_drewN ?_ _) | (with_reducible refine Kd.C_drew ?_) | exact HR111_5.out)) hb); have n16_ := Aside0.mk (Kd.C_below (by repeat (first | (with_reducible exact HR111_10.out) | (with_reducible refine Kd.C_alloc ?_ _) | (with_reducible refine Kd.C_drewN ?_ _) | (with_reducible refine Kd.C_drew ?_) | exact HR111_10.out)) hb); have n17_ := Aside0.mk (Kd.C_below (by repeat (first | (with_reducible exact HR111_14.out) | (with_reducible refine Kd.C_alloc ?_ _) | (with_reducible refine Kd.C_drewN ?_ _) | (with_reducible refine Kd.C_drew ?_) | exact HR111_14.out)) hb); have n18_ := Aside0.mk (Kd.C_below (by repeat (first | (with_reducible exact HR112_4.out) | (with_reducible refine Kd.C_alloc ?_ _) | (with_reducible refine Kd.C_drewN ?_ _) | (with_reducible refine Kd.C_drew ?_) | exact HR112_4.out)) hb); have n19_ := Aside0.mk (Kd.C_below (by repeat (first | (with_reducible exact HR112_5.out) | (with_reducible refine Kd.C_alloc ?_ _) | (with_reducible refine Kd.C_drewN ?_ _) | (with_reducible refine Kd.C_drew ?_) | exact HR112_5.out)) hb); have n20_ := Aside0.mk (Kd.C_below (by repeat (first | (with_reducible exact HR112_10.out) | (with_reducible refine Kd.C_alloc ?_ _) | (with_reducible refine Kd.C_drewN ?_ _) | (with_reducible refine Kd.C_drew ?_) | exact HR112_10.out)) hb); have n21_ := Aside0.mk (Kd.C_below (by repeat (first | (with_reducible exact HR112_14.out) | (with_reducible refine Kd.C_alloc ?_ _) | (with_reducible refine Kd.C_drewN ?_ _) | (with_reducible refine Kd.C_drew ?_) | exact HR112_14.out)) hb); have n22_ := Aside0.mk (Kd.C_below (by repeat (first | (with_reducible exact HR113_4.out) | (with_reducible refine Kd.C_alloc ?_ _) | (with_reducible refine Kd.C_drewN ?_ _) | (with_reducible refine Kd.C_drew ?_) | exact HR113_4.out)) hb); have n23_ := Aside0.mk (Kd.C_below (by repeat (first | (with_reducible exact HR113_5.out) | (with_reducible refine Kd.C_alloc ?_ _) | (with_reducible refine Kd.C_drewN ?_ _) | (with_reducible refine Kd.C_drew ?_) | exact HR113_5.out)) hb); have n24_ := Aside0.mk (Kd.C_below (by repeat (first | (with_reducible exact HR113_10.out) | (with_reducible refine Kd.C_alloc ?_ _) | (with_reducible refine Kd.C_drewN ?_ _) | (with_reducible refine Kd.C_drew ?_) | exact HR113_10.out)) hb); have n25_ := Aside0.mk (Kd.C_below (by repeat (first | (with_reducible exact HR113_14.out) | (with_reducible refine Kd.C_alloc ?_ _) | (with_reducible refine Kd.C_drewN ?_ _) | (with_reducible refine Kd.C_drew ?_) | exact HR113_14.out)) hb); have n26_ := Aside0.mk (below_step (by repeat (first | (with_reducible first | exact HB.out | apply below_alloc | apply pw_below_drewN | apply below_drew1) | exact HB.out)) hb); clear HO_0; clear HL111_4; clear HL111_5; clear HL111_10; clear HL111_14; clear HL112_4; clear HL112_5; clear HL112_10; clear HL112_14; clear HL113_4; clear HL113_5; clear HL113_10; clear HL113_14; clear HR111_4; clear HR111_5; clear HR111_10; clear HR111_14; clear HR112_4; clear HR112_5; clear HR112_10; clear HR112_14; clear HR113_4; clear HR113_5; clear HR113_10; clear HR113_14; clear HB; have HO_0 := n0_; have HL111_4 := n1_; have HL111_5 := n2_; have HL111_10 := n3_; have HL111_14 := n4_; have HL112_4 := n5_; have HL112_5 := n6_; have HL112_10 := n7_; have HL112_14 := n8_; have HL113_4 := n9_; have HL113_5 := n10_; have HL113_10 := n11_; have HL113_14 := n12_; have HO116 := n13_; have HR111_4 := n14_; have HR111_5 := n15_; have HR111_10 := n16_; have HR111_14 := n17_; have HR112_4 := n18_; have HR112_5 := n19_; have HR112_10 := n20_; have HR112_14 := n21_; have HR113_4 := n22_; have HR113_5 := n23_; have HR113_10 := n24_; have HR113_14 := n25_; have HB := n26_; clear n0_ n1_ n2_ n3_ n4_ n5_ n6_ n7_ n8_ n9_ n10_ n11_ n12_ n13_ n14_ n15_ n16_ n17_ n18_ n19_ n20_ n21_ n22_ n23_ n24_ n25_ n26_; clear hb ho13; obtain ⟨Ao14, co14, eo14⟩ := Kd.N_slice HO116.out; subst eo14) | (go_at_call 38; (with_reducible refine (wherrylaw17_Heavy.calls k1 _ _ y114 false _ ?side1 ?side2 A7.out).mono ?_); (case side1 => repeat (first | exact (Kd.N_reads' HO116.out).2.2 | (with_reducible refine Kd.C_alloc ?_ _) | (with_reducible refine Kd.C_drewN ?_ _) | (with_reducible refine Kd.C_drew ?_))); (case side2 => exact (Kd.N_reads' HO116.out).2.1); rintro e w' ⟨rfl, ⟨nd, rfl⟩⟩))
                  go_roundg k1
                  case measure => have := HK1.out; omega
                  case rel => exact ⟨(wrap64 (x3_1 + 1)), (by first | rfl | (simp; done) | (simp [*]; done)), H', ⟨by have := HK1.out; omega⟩, ⟨by (with_reducible repeat (first | apply Kd.V_alloc | apply Kd.V_drewN | apply Kd.V_drew)); exact Kd.V_mono HO_0.out (fun _ hk => hk.1)⟩, ⟨by repeat (first | (with_reducible first | exact HB.out | apply below_alloc | apply pw_below_drewN | apply below_drew1) | exact HB.out)⟩⟩
          · rw [if_neg c4] at H
            exact absurd H (by simp)
        · rw [if_neg c3] at H
          have c3b0 : decide (x3_1 < (l0.length : Int)) = false := decide_eq_false c3
          clear c3
          obtain rfl := Option.some.inj H
          go_wp2
          go_ret
          exact ⟨by first | rfl | (simp [errW_none, errW_some] <;> rfl) | (simp [*, errW_none, errW_some] <;> rfl), by repeat (first | (with_reducible first | exact HB.out | apply below_alloc | apply pw_below_drewN | apply below_drew1) | exact HB.out)⟩

-- NOT PRINTED: function 11 (diary_New)

/-- A state of type 66 at block g of W; what its slices lead to came in by w0. -/
def IsS66 (w0 W : World) (g : Nat) (f0 : Int) (f1 : List (S39)) (f2 : Int) (f3 : Bool) (f4 : Int) (f5 : Int) (f6 : Int) (f7 : Int) : Prop := ∃ A1 c1, W.heap[g]? = some (.cells #[.int .i64 f0, .slice A1 f1.length c1, .int .i64 f2, .bool f3, .int .i64 f4, .int .i64 f5, .int .i64 f6, .int .i64 f7] 66 (0, 0)) ∧ w0.heap.size ≤ g ∧ Kd.C k39 w0 A1 f1.length f1
theorem IsS66.grown {w0 W : World} {g : Nat} {f0 : Int} {f1 : List (S39)} {f2 : Int} {f3 : Bool} {f4 : Int} {f5 : Int} {f6 : Int} {f7 : Int} {W1 : World} {row : Option Nat} (h : IsS66 w0 W g f0 f1 f2 f3 f4 f5 f6 f7) (hw : W.grownBy W1 row) (hne : some g ≠ row) : IsS66 w0 W1 g f0 f1 f2 f3 f4 f5 f6 f7 := by
  obtain ⟨A1, c1, hb, hg, hr1⟩ := h
  exact ⟨A1, c1, blk_grown hb hw hne, hg, hr1⟩
theorem IsS66.own_neN {w0 W : World} {g : Nat} {f0 : Int} {f1 : List (S39)} {f2 : Int} {f3 : Bool} {f4 : Int} {f5 : Int} {f6 : Int} {f7 : Int} {α : Type} {d : Kd α} {e : Nat} {base : Nat} {ok : Nat → Prop} {v : Value} {xs : List α} (h : IsS66 w0 W g f0 f1 f2 f3 f4 f5 f6 f7) (ho : Kd.N d e W base ok v xs) (ht : e ≠ 66) : some g ≠ v.ownBlock := by
  obtain ⟨A1, c1, hb, hg, hr1⟩ := h
  exact Kd.N_ne ho hb ht
theorem IsS66.fresh {w0 W : World} {g : Nat} {f0 : Int} {f1 : List (S39)} {f2 : Int} {f3 : Bool} {f4 : Int} {f5 : Int} {f6 : Int} {f7 : Int} (h : IsS66 w0 W g f0 f1 f2 f3 f4 f5 f6 f7) : ∀ k, W.heap.size ≤ k → k ≠ g := by
  obtain ⟨A1, c1, hb, hg, hr1⟩ := h
  exact Kd.freshB hb
theorem IsS66.kept {w0 W : World} {g : Nat} {f0 : Int} {f1 : List (S39)} {f2 : Int} {f3 : Bool} {f4 : Int} {f5 : Int} {f6 : Int} {f7 : Int} {W1 : World} {S : Nat → Prop} (h : IsS66 w0 W g f0 f1 f2 f3 f4 f5 f6 f7) (hk : Kept W W1 S) (hne : ¬ S g) : IsS66 w0 W1 g f0 f1 f2 f3 f4 f5 f6 f7 := by
  obtain ⟨A1, c1, hb, hg, hr1⟩ := h
  exact ⟨A1, c1, blk_kept hb hk hne, hg, hr1⟩
theorem IsS66.below {w0 W : World} {g : Nat} {f0 : Int} {f1 : List (S39)} {f2 : Int} {f3 : Bool} {f4 : Int} {f5 : Int} {f6 : Int} {f7 : Int} {W1 : World} (h : IsS66 w0 W g f0 f1 f2 f3 f4 f5 f6 f7) (hw : Below W.heap.size W W1) : IsS66 w0 W1 g f0 f1 f2 f3 f4 f5 f6 f7 := h.grown (grown_of_below hw none) (by simp)
theorem IsS66.alloc {w0 W : World} {g : Nat} {f0 : Int} {f1 : List (S39)} {f2 : Int} {f3 : Bool} {f4 : Int} {f5 : Int} {f6 : Int} {f7 : Int} (h : IsS66 w0 W g f0 f1 f2 f3 f4 f5 f6 f7) (o : Obj) : IsS66 w0 (W.alloc o) g f0 f1 f2 f3 f4 f5 f6 f7 := h.below (below_alloc (Below.refl _ _) o)
theorem IsS66.drewN {w0 W : World} {g : Nat} {f0 : Int} {f1 : List (S39)} {f2 : Int} {f3 : Bool} {f4 : Int} {f5 : Int} {f6 : Int} {f7 : Int} (h : IsS66 w0 W g f0 f1 f2 f3 f4 f5 f6 f7) (m : Nat) : IsS66 w0 (W.drewN m) g f0 f1 f2 f3 f4 f5 f6 f7 := h
theorem IsS66.drew {w0 W : World} {g : Nat} {f0 : Int} {f1 : List (S39)} {f2 : Int} {f3 : Bool} {f4 : Int} {f5 : Int} {f6 : Int} {f7 : Int} (h : IsS66 w0 W g f0 f1 f2 f3 f4 f5 f6 f7) : IsS66 w0 W.drew g f0 f1 f2 f3 f4 f5 f6 f7 := h
theorem IsS66.at_ {w0 W : World} {g : Nat} {f0 : Int} {f1 : List (S39)} {f2 : Int} {f3 : Bool} {f4 : Int} {f5 : Int} {f6 : Int} {f7 : Int} {w' : World} {m : Nat} (hq : W.drewN m = w') (h : IsS66 w0 W g f0 f1 f2 f3 f4 f5 f6 f7) : IsS66 w0 w' g f0 f1 f2 f3 f4 f5 f6 f7 := by subst hq; exact IsS66.drewN h m
theorem IsS66.apart {w0 W : World} {g : Nat} {f0 : Int} {f1 : List (S39)} {f2 : Int} {f3 : Bool} {f4 : Int} {f5 : Int} {f6 : Int} {f7 : Int} {α : Type} {d : Kd α} {e : Nat} {base : Nat} {ok : Nat → Prop} {v : Value} {xs : List α} (h : IsS66 w0 W g f0 f1 f2 f3 f4 f5 f6 f7) (ho : d.R e W base ok v xs) (ht : ∀ q, q ∈ e :: d.E → q ≠ 66) : d.R e W base (fun k => ok k ∧ k ≠ g) v xs := by
  obtain ⟨A1, c1, hb, hg, hr1⟩ := h
  exact Kd.R_types ho hb ht
theorem IsS66.own_ne {w0 W : World} {g : Nat} {f0 : Int} {f1 : List (S39)} {f2 : Int} {f3 : Bool} {f4 : Int} {f5 : Int} {f6 : Int} {f7 : Int} {α : Type} {d : Kd α} {e : Nat} {base : Nat} {ok : Nat → Prop} {v : Value} {xs : List α} (h : IsS66 w0 W g f0 f1 f2 f3 f4 f5 f6 f7) (ho : d.R e W base ok v xs) (ht : e ≠ 66) : some g ≠ v.ownBlock := by
  obtain ⟨A1, c1, hb, hg, hr1⟩ := h
  exact Kd.R_ne ho hb ht
theorem IsS66.apartQ {w0 W : World} {g : Nat} {f0 : Int} {f1 : List (S39)} {f2 : Int} {f3 : Bool} {f4 : Int} {f5 : Int} {f6 : Int} {f7 : Int} {α : Type} {d : Kd α} {e : Nat} {base : Nat} {ok : Nat → Prop} {v : Value} {xs : List α} (h : IsS66 w0 W g f0 f1 f2 f3 f4 f5 f6 f7) (ho : d.Q e W base ok v xs) (ht : ∀ q, q ∈ e :: d.E → q ≠ 66) : d.Q e W base (fun k => ok k ∧ k ≠ g) v xs := by
  obtain ⟨A1, c1, hb, hg, hr1⟩ := h
  exact Kd.Q_types ho hb ht
theorem IsS66.own_neQ {w0 W : World} {g : Nat} {f0 : Int} {f1 : List (S39)} {f2 : Int} {f3 : Bool} {f4 : Int} {f5 : Int} {f6 : Int} {f7 : Int} {α : Type} {d : Kd α} {e : Nat} {base : Nat} {ok : Nat → Prop} {v : Value} {xs : List α} (h : IsS66 w0 W g f0 f1 f2 f3 f4 f5 f6 f7) (ho : d.Q e W base ok v xs) (ht : e ≠ 66) : some g ≠ v.ownBlock := by
  obtain ⟨A1, c1, hb, hg, hr1⟩ := h
  exact Kd.Q_ne ho hb ht
theorem IsS66.apartS {w0 W : World} {g : Nat} {f0 : Int} {f1 : List (S39)} {f2 : Int} {f3 : Bool} {f4 : Int} {f5 : Int} {f6 : Int} {f7 : Int} {α : Type} {d : Kd α} {e : Nat} {base : Nat} {ok : Nat → Prop} {v : Value} {xs : List α} (h : IsS66 w0 W g f0 f1 f2 f3 f4 f5 f6 f7) (ho : d.S e W base ok v xs) (ht : ∀ q, q ∈ e :: d.E → q ≠ 66) : d.S e W base (fun k => ok k ∧ k ≠ g) v xs := by
  obtain ⟨A1, c1, hb, hg, hr1⟩ := h
  exact Kd.S_types ho hb ht
theorem IsS66.own_neS {w0 W : World} {g : Nat} {f0 : Int} {f1 : List (S39)} {f2 : Int} {f3 : Bool} {f4 : Int} {f5 : Int} {f6 : Int} {f7 : Int} {α : Type} {d : Kd α} {e : Nat} {base : Nat} {ok : Nat → Prop} {v : Value} {xs : List α} (h : IsS66 w0 W g f0 f1 f2 f3 f4 f5 f6 f7) (ho : d.S e W base ok v xs) (ht : e ≠ 66) : some g ≠ v.ownBlock := by
  obtain ⟨A1, c1, hb, hg, hr1⟩ := h
  exact Kd.S_ne ho hb ht
theorem IsS66.lt {w0 W : World} {g : Nat} {f0 : Int} {f1 : List (S39)} {f2 : Int} {f3 : Bool} {f4 : Int} {f5 : Int} {f6 : Int} {f7 : Int} (h : IsS66 w0 W g f0 f1 f2 f3 f4 f5 f6 f7) : g < W.heap.size := by
  obtain ⟨A1, c1, hb, hg, hr1⟩ := h
  exact blk_lt hb
theorem IsS66.ge {w0 W : World} {g : Nat} {f0 : Int} {f1 : List (S39)} {f2 : Int} {f3 : Bool} {f4 : Int} {f5 : Int} {f6 : Int} {f7 : Int} (h : IsS66 w0 W g f0 f1 f2 f3 f4 f5 f6 f7) : w0.heap.size ≤ g := by
  obtain ⟨A1, c1, hb, hg, hr1⟩ := h
  exact hg
theorem IsS66.ne_blk {w0 W : World} {g : Nat} {f0 : Int} {f1 : List (S39)} {f2 : Int} {f3 : Bool} {f4 : Int} {f5 : Int} {f6 : Int} {f7 : Int} {a : Nat} {cs : Array Value} {t : TypeId} {fr : Nat × Nat} (h : IsS66 w0 W g f0 f1 f2 f3 f4 f5 f6 f7) (hb2 : W.heap[a]? = some (.cells cs t fr)) (ht : t ≠ 66) : g ≠ a := by
  obtain ⟨A1, c1, hb, hg, hr1⟩ := h
  rintro rfl
  rw [hb] at hb2
  injection hb2 with hb2
  injection hb2 with _ ht2
  exact ht ht2.symm
theorem IsS66.far {w0 W : World} {g : Nat} {f0 : Int} {f1 : List (S39)} {f2 : Int} {f3 : Bool} {f4 : Int} {f5 : Int} {f6 : Int} {f7 : Int} {p : Addr} (h : IsS66 w0 W g f0 f1 f2 f3 f4 f5 f6 f7) (hne : g ≠ p.block) (u : Value) : IsS66 w0 (W.setCell p u) g f0 f1 f2 f3 f4 f5 f6 f7 := by
  obtain ⟨A1, c1, hb, hg, hr1⟩ := h
  exact ⟨A1, c1, blk_far hb hne u, hg, hr1⟩
theorem cellS66_0 {W : World} {g : Nat} {A1 : Option Addr} {c1 : Nat} {f0 : Int} {f1 : List (S39)} {f2 : Int} {f3 : Bool} {f4 : Int} {f5 : Int} {f6 : Int} {f7 : Int} (h : W.heap[g]? = some (.cells #[.int .i64 f0, .slice A1 f1.length c1, .int .i64 f2, .bool f3, .int .i64 f4, .int .i64 f5, .int .i64 f6, .int .i64 f7] 66 (0, 0))) : W.cell? ⟨g, 0, none⟩ = some (.int .i64 f0) := (blk_cell h 0).trans rfl
theorem IsS66.set_0 {w0 W : World} {g : Nat} {f0 : Int} {f1 : List (S39)} {f2 : Int} {f3 : Bool} {f4 : Int} {f5 : Int} {f6 : Int} {f7 : Int} (h : IsS66 w0 W g f0 f1 f2 f3 f4 f5 f6 f7) (x : Int) : IsS66 w0 (W.setCell ⟨g, 0, none⟩ (.int .i64 x)) g x f1 f2 f3 f4 f5 f6 f7 := by
  obtain ⟨A1, c1, hb, hg, hr1⟩ := h
  exact ⟨A1, c1, by simpa using blk_set hb 0 (.int .i64 x), hg, hr1⟩
theorem cellS66_1 {W : World} {g : Nat} {A1 : Option Addr} {c1 : Nat} {f0 : Int} {f1 : List (S39)} {f2 : Int} {f3 : Bool} {f4 : Int} {f5 : Int} {f6 : Int} {f7 : Int} (h : W.heap[g]? = some (.cells #[.int .i64 f0, .slice A1 f1.length c1, .int .i64 f2, .bool f3, .int .i64 f4, .int .i64 f5, .int .i64 f6, .int .i64 f7] 66 (0, 0))) : W.cell? ⟨g, 1, none⟩ = some (.slice A1 f1.length c1) := (blk_cell h 1).trans rfl
theorem cellS66_2 {W : World} {g : Nat} {A1 : Option Addr} {c1 : Nat} {f0 : Int} {f1 : List (S39)} {f2 : Int} {f3 : Bool} {f4 : Int} {f5 : Int} {f6 : Int} {f7 : Int} (h : W.heap[g]? = some (.cells #[.int .i64 f0, .slice A1 f1.length c1, .int .i64 f2, .bool f3, .int .i64 f4, .int .i64 f5, .int .i64 f6, .int .i64 f7] 66 (0, 0))) : W.cell? ⟨g, 2, none⟩ = some (.int .i64 f2) := (blk_cell h 2).trans rfl
theorem IsS66.set_2 {w0 W : World} {g : Nat} {f0 : Int} {f1 : List (S39)} {f2 : Int} {f3 : Bool} {f4 : Int} {f5 : Int} {f6 : Int} {f7 : Int} (h : IsS66 w0 W g f0 f1 f2 f3 f4 f5 f6 f7) (x : Int) : IsS66 w0 (W.setCell ⟨g, 2, none⟩ (.int .i64 x)) g f0 f1 x f3 f4 f5 f6 f7 := by
  obtain ⟨A1, c1, hb, hg, hr1⟩ := h
  exact ⟨A1, c1, by simpa using blk_set hb 2 (.int .i64 x), hg, hr1⟩
theorem cellS66_3 {W : World} {g : Nat} {A1 : Option Addr} {c1 : Nat} {f0 : Int} {f1 : List (S39)} {f2 : Int} {f3 : Bool} {f4 : Int} {f5 : Int} {f6 : Int} {f7 : Int} (h : W.heap[g]? = some (.cells #[.int .i64 f0, .slice A1 f1.length c1, .int .i64 f2, .bool f3, .int .i64 f4, .int .i64 f5, .int .i64 f6, .int .i64 f7] 66 (0, 0))) : W.cell? ⟨g, 3, none⟩ = some (.bool f3) := (blk_cell h 3).trans rfl
theorem IsS66.set_3 {w0 W : World} {g : Nat} {f0 : Int} {f1 : List (S39)} {f2 : Int} {f3 : Bool} {f4 : Int} {f5 : Int} {f6 : Int} {f7 : Int} (h : IsS66 w0 W g f0 f1 f2 f3 f4 f5 f6 f7) (x : Bool) : IsS66 w0 (W.setCell ⟨g, 3, none⟩ (.bool x)) g f0 f1 f2 x f4 f5 f6 f7 := by
  obtain ⟨A1, c1, hb, hg, hr1⟩ := h
  exact ⟨A1, c1, by simpa using blk_set hb 3 (.bool x), hg, hr1⟩
theorem cellS66_4 {W : World} {g : Nat} {A1 : Option Addr} {c1 : Nat} {f0 : Int} {f1 : List (S39)} {f2 : Int} {f3 : Bool} {f4 : Int} {f5 : Int} {f6 : Int} {f7 : Int} (h : W.heap[g]? = some (.cells #[.int .i64 f0, .slice A1 f1.length c1, .int .i64 f2, .bool f3, .int .i64 f4, .int .i64 f5, .int .i64 f6, .int .i64 f7] 66 (0, 0))) : W.cell? ⟨g, 4, none⟩ = some (.int .i64 f4) := (blk_cell h 4).trans rfl
theorem IsS66.set_4 {w0 W : World} {g : Nat} {f0 : Int} {f1 : List (S39)} {f2 : Int} {f3 : Bool} {f4 : Int} {f5 : Int} {f6 : Int} {f7 : Int} (h : IsS66 w0 W g f0 f1 f2 f3 f4 f5 f6 f7) (x : Int) : IsS66 w0 (W.setCell ⟨g, 4, none⟩ (.int .i64 x)) g f0 f1 f2 f3 x f5 f6 f7 := by
  obtain ⟨A1, c1, hb, hg, hr1⟩ := h
  exact ⟨A1, c1, by simpa using blk_set hb 4 (.int .i64 x), hg, hr1⟩
theorem cellS66_5 {W : World} {g : Nat} {A1 : Option Addr} {c1 : Nat} {f0 : Int} {f1 : List (S39)} {f2 : Int} {f3 : Bool} {f4 : Int} {f5 : Int} {f6 : Int} {f7 : Int} (h : W.heap[g]? = some (.cells #[.int .i64 f0, .slice A1 f1.length c1, .int .i64 f2, .bool f3, .int .i64 f4, .int .i64 f5, .int .i64 f6, .int .i64 f7] 66 (0, 0))) : W.cell? ⟨g, 5, none⟩ = some (.int .i64 f5) := (blk_cell h 5).trans rfl
theorem IsS66.set_5 {w0 W : World} {g : Nat} {f0 : Int} {f1 : List (S39)} {f2 : Int} {f3 : Bool} {f4 : Int} {f5 : Int} {f6 : Int} {f7 : Int} (h : IsS66 w0 W g f0 f1 f2 f3 f4 f5 f6 f7) (x : Int) : IsS66 w0 (W.setCell ⟨g, 5, none⟩ (.int .i64 x)) g f0 f1 f2 f3 f4 x f6 f7 := by
  obtain ⟨A1, c1, hb, hg, hr1⟩ := h
  exact ⟨A1, c1, by simpa using blk_set hb 5 (.int .i64 x), hg, hr1⟩
theorem cellS66_6 {W : World} {g : Nat} {A1 : Option Addr} {c1 : Nat} {f0 : Int} {f1 : List (S39)} {f2 : Int} {f3 : Bool} {f4 : Int} {f5 : Int} {f6 : Int} {f7 : Int} (h : W.heap[g]? = some (.cells #[.int .i64 f0, .slice A1 f1.length c1, .int .i64 f2, .bool f3, .int .i64 f4, .int .i64 f5, .int .i64 f6, .int .i64 f7] 66 (0, 0))) : W.cell? ⟨g, 6, none⟩ = some (.int .i64 f6) := (blk_cell h 6).trans rfl
theorem IsS66.set_6 {w0 W : World} {g : Nat} {f0 : Int} {f1 : List (S39)} {f2 : Int} {f3 : Bool} {f4 : Int} {f5 : Int} {f6 : Int} {f7 : Int} (h : IsS66 w0 W g f0 f1 f2 f3 f4 f5 f6 f7) (x : Int) : IsS66 w0 (W.setCell ⟨g, 6, none⟩ (.int .i64 x)) g f0 f1 f2 f3 f4 f5 x f7 := by
  obtain ⟨A1, c1, hb, hg, hr1⟩ := h
  exact ⟨A1, c1, by simpa using blk_set hb 6 (.int .i64 x), hg, hr1⟩
theorem cellS66_7 {W : World} {g : Nat} {A1 : Option Addr} {c1 : Nat} {f0 : Int} {f1 : List (S39)} {f2 : Int} {f3 : Bool} {f4 : Int} {f5 : Int} {f6 : Int} {f7 : Int} (h : W.heap[g]? = some (.cells #[.int .i64 f0, .slice A1 f1.length c1, .int .i64 f2, .bool f3, .int .i64 f4, .int .i64 f5, .int .i64 f6, .int .i64 f7] 66 (0, 0))) : W.cell? ⟨g, 7, none⟩ = some (.int .i64 f7) := (blk_cell h 7).trans rfl
theorem IsS66.set_7 {w0 W : World} {g : Nat} {f0 : Int} {f1 : List (S39)} {f2 : Int} {f3 : Bool} {f4 : Int} {f5 : Int} {f6 : Int} {f7 : Int} (h : IsS66 w0 W g f0 f1 f2 f3 f4 f5 f6 f7) (x : Int) : IsS66 w0 (W.setCell ⟨g, 7, none⟩ (.int .i64 x)) g f0 f1 f2 f3 f4 f5 f6 x := by
  obtain ⟨A1, c1, hb, hg, hr1⟩ := h
  exact ⟨A1, c1, by simpa using blk_set hb 7 (.int .i64 x), hg, hr1⟩
theorem IsS66.new (w0 W : World) (A1 : Option Addr) (c1 : Nat) (f0 : Int) (f1 : List (S39)) (f2 : Int) (f3 : Bool) (f4 : Int) (f5 : Int) (f6 : Int) (f7 : Int) (hB : Below w0.heap.size w0 W) (hr1 : Kd.C k39 w0 A1 f1.length f1) : IsS66 w0 (W.alloc (.cells #[.int .i64 f0, .slice A1 f1.length c1, .int .i64 f2, .bool f3, .int .i64 f4, .int .i64 f5, .int .i64 f6, .int .i64 f7] 66)) W.heap.size f0 f1 f2 f3 f4 f5 f6 f7 := ⟨A1, c1, by simpa using heap_alloc_new W _, hB.size, hr1⟩

/-! ### diary_Diary_Trip: function 12 -/
def diary_Diary_Trip.f (s0_0 : Int) (s0_1 : List (S39)) (s0_2 : Int) (s0_3 : Bool) (s0_4 : Int) (s0_5 : Int) (s0_6 : Int) (s0_7 : Int) (a1 : Int) (a2 : Int) : Option (Int × Int × Bool × Int × Int × Int × Int) := some (s0_0, s0_2, s0_3, s0_4, mx a1 0, a2, s0_7)
set_option maxHeartbeats 8000000 in
set_option maxRecDepth 100000 in
theorem diary_Diary_Trip.calls (g : Nat) (s0_0 : Int) (s0_1 : List (S39)) (s0_2 : Int) (s0_3 : Bool) (s0_4 : Int) (s0_5 : Int) (s0_6 : Int) (s0_7 : Int) (a1 : Int) (a2 : Int) (r1 : Int) (r2 : Int) (r3 : Bool) (r4 : Int) (r5 : Int) (r6 : Int) (r7 : Int) (w0 w : World) (hI : IsS66 w0 w g s0_0 s0_1 s0_2 s0_3 s0_4 s0_5 s0_6 s0_7) (hB : Below w0.heap.size w0 w) (h : diary_Diary_Trip.f s0_0 s0_1 s0_2 s0_3 s0_4 s0_5 s0_6 s0_7 a1 a2 = some (r1, r2, r3, r4, r5, r6, r7)) :
    Calls Try.prog 12 #[.pointer (some ⟨g, 0, none⟩), .int .i64 a1, .int .i64 a2] w fun e w' => e = .returned (.tuple #[]) ∧ IsS66 w0 w' g r1 s0_1 r2 r3 r4 r5 r6 r7 ∧ Below w0.heap.size w0 w' ∧ KeepBut w w' g none := by
  have HI0 := Aside0.mk hI
  have HK := Aside0.mk (KeepBut.refl w g none)
  have HL := Aside0.mk hB.size
  clear hI
  have HW0 := Aside0.mk hB.size
  have HB := Aside0.mk hB
  clear hB
  have H : (some (s0_0, s0_2, s0_3, s0_4, mx a1 0, a2, s0_7)) = some (r1, r2, r3, r4, r5, r6, r7) := h
  clear h
  obtain ⟨ji4, hji4⟩ : ∃ j_ : Int, (mx a1 0) = j_ := ⟨_, rfl⟩
  replace H : (some (s0_0, s0_2, s0_3, s0_4, ji4, a2, s0_7)) = some (r1, r2, r3, r4, r5, r6, r7) := by first | (rw [hji4] at H; exact H) | (simp only [hji4] at H ⊢; exact H)
  (try (have hji4l : 0 ≤ ji4 := by (rw [← hji4]; unfold mx; (repeat' split) <;> omega)))
  (try (have hji4m : 0 ≤ ji4 := by omega))
  have hji4_ : (if a1 < 0 then 0 else a1) = ji4 := hji4
  simp only [Option.some.injEq, Prod.mk.injEq] at H
  obtain ⟨rfl, rfl, rfl, rfl, rfl, rfl, rfl⟩ := H
  obtain ⟨ASz5_1, cSz5_1, HGz5, hgz5, HSz5_1⟩ := HI0.out
  have hcz5_0 := cellS66_0 HGz5
  have hcz5_1 := cellS66_1 HGz5
  have hcz5_2 := cellS66_2 HGz5
  have hcz5_3 := cellS66_3 HGz5
  have hcz5_4 := cellS66_4 HGz5
  have hcz5_5 := cellS66_5 HGz5
  have hcz5_6 := cellS66_6 HGz5
  have hcz5_7 := cellS66_7 HGz5
  have hfz5_0 := blk_frozen HGz5 0
  have hfz5_2 := blk_frozen HGz5 2
  have hfz5_3 := blk_frozen HGz5 3
  have hfz5_4 := blk_frozen HGz5 4
  have hfz5_5 := blk_frozen HGz5 5
  have hfz5_6 := blk_frozen HGz5 6
  have hfz5_7 := blk_frozen HGz5 7
  clear HGz5 hgz5
  go_enter Try.func12, Try.ntmps12
  go_wp2
  first | go_end0 | ((try simp only [Exit.inBlock, Exit.then]); refine bodyPost_ret (results_none rfl _ _ _) rfl ?_)
  exact ⟨by first | rfl | (simp [errW_none, errW_some] <;> rfl) | (simp only [← hji4]; first | rfl | (simp [errW_none, errW_some] <;> rfl)) | (simp [*, errW_none, errW_some] <;> rfl), by repeat (first | (with_reducible first | exact HI0.out | apply IsS66.alloc | apply IsS66.drewN | apply IsS66.drew | apply IsS66.set_0 | apply IsS66.set_2 | apply IsS66.set_3 | apply IsS66.set_4 | apply IsS66.set_5 | apply IsS66.set_6 | apply IsS66.set_7) | exact HI0.out), by repeat (first | (with_reducible first | exact HB.out | apply below_alloc | apply pw_below_drewN | apply below_drew1 | refine below_set ?_ (IsS66.ge HI0.out)) | exact HB.out), by repeat (first | (with_reducible first | exact HK.out | apply KeepBut.set_ | apply keep_drewN | apply keep_drew | apply keep_alloc) | exact HK.out)⟩

/-! ### diary_Room: function 21 -/
def diary_Room.f (a0_0 : Int) (a0_1 : Bool) (a0_2 : ByteArray) (a0_3 : ByteArray) (l0_4 : List (S32)) (l0_5 : List Int) (a0_6 : Bool) (a0_7 : ByteArray) (a0_8 : Int) (a0_9 : Int) (l0_10 : List Int) (a0_11 : Int) (a0_12 : Int) (a0_13 : Int) (l0_14 : List Int) : Option (Int) := some (wrap64 ((wrap64 ((wrap64 ((wrap64 ((wrap64 (24 + (l0_14.length : Int))) + (l0_5.length : Int))) + (a0_7.size : Int))) + (wrap64 (80 * (wrap64 (1 + (l0_4.length : Int))))))) + (wrap64 (8 * (l0_10.length : Int)))))
set_option maxHeartbeats 8000000 in
set_option maxRecDepth 100000 in
theorem diary_Room.calls (a0_0 : Int) (a0_1 : Bool) (a0_2 : ByteArray) (a0_3 : ByteArray) (A0_4 : Option Addr) (c0_4 : Nat) (l0_4 : List (S32)) (A0_5 : Option Addr) (c0_5 : Nat) (l0_5 : List Int) (a0_6 : Bool) (a0_7 : ByteArray) (a0_8 : Int) (a0_9 : Int) (A0_10 : Option Addr) (c0_10 : Nat) (l0_10 : List Int) (a0_11 : Int) (a0_12 : Int) (a0_13 : Int) (A0_14 : Option Addr) (c0_14 : Nat) (l0_14 : List Int) (r : Int) (w : World) (hr0_4 : Kd.C k32 w A0_4 l0_4.length l0_4) (hc0_4 : l0_4.length ≤ c0_4) (hr0_5 : Kd.C (Kd.int .u8) w A0_5 l0_5.length l0_5) (hc0_5 : l0_5.length ≤ c0_5) (hr0_10 : Kd.C (Kd.int .i64) w A0_10 l0_10.length l0_10) (hc0_10 : l0_10.length ≤ c0_10) (hr0_14 : Kd.C (Kd.int .u8) w A0_14 l0_14.length l0_14) (hc0_14 : l0_14.length ≤ c0_14) (h : diary_Room.f a0_0 a0_1 a0_2 a0_3 l0_4 l0_5 a0_6 a0_7 a0_8 a0_9 l0_10 a0_11 a0_12 a0_13 l0_14 = some r) :
    Calls Try.prog 21 #[.agg #[.int .i64 a0_0, .bool a0_1, .string a0_2, .string a0_3, .slice A0_4 l0_4.length c0_4, .slice A0_5 l0_5.length c0_5, .bool a0_6, .string a0_7, .int .i64 a0_8, .int .i64 a0_9, .slice A0_10 l0_10.length c0_10, .int .i64 a0_11, .int .i64 a0_12, .int .i64 a0_13, .slice A0_14 l0_14.length c0_14]] w fun e w' => e = .returned (.int .i64 r) ∧ Below w.heap.size w w' := by
  have hu39 := Try.underlying39
  have HR0_4 := Aside0.mk hr0_4
  have HC0_4 := Aside0.mk hc0_4
  clear hr0_4 hc0_4
  have HR0_5 := Aside0.mk hr0_5
  have HC0_5 := Aside0.mk hc0_5
  clear hr0_5 hc0_5
  have HR0_10 := Aside0.mk hr0_10
  have HC0_10 := Aside0.mk hc0_10
  clear hr0_10 hc0_10
  have HR0_14 := Aside0.mk hr0_14
  have HC0_14 := Aside0.mk hc0_14
  clear hr0_14 hc0_14
  have HB := Aside0.mk (Below.refl w.heap.size w)
  have H : (some (wrap64 ((wrap64 ((wrap64 ((wrap64 ((wrap64 (24 + (l0_14.length : Int))) + (l0_5.length : Int))) + (a0_7.size : Int))) + (wrap64 (80 * (wrap64 (1 + (l0_4.length : Int))))))) + (wrap64 (8 * (l0_10.length : Int)))))) = some r := h
  clear h
  obtain rfl := Option.some.inj H
  go_enter Try.func21, Try.ntmps21
  go_wp2_with (first | ((with_reducible refine gate_dst (N := 1) rfl ?_); refine box_event ?hg (N := 1) ?hd (cs := #[.int .i64 a0_0, .bool a0_1, .string a0_2, .string a0_3, .slice A0_4 l0_4.length c0_4, .slice A0_5 l0_5.length c0_5, .bool a0_6, .string a0_7, .int .i64 a0_8, .int .i64 a0_9, .slice A0_10 l0_10.length c0_10, .int .i64 a0_11, .int .i64 a0_12, .int .i64 a0_13, .slice A0_14 l0_14.length c0_14]) (t := 39) ?hr ?_; (case hd => rfl); (case hg => rfl); (case hr => first | (go_simp; done) | (go_simp; rfl)); intro gb118 hg w2 hbox hb; have n0_ := Aside0.mk (below_step (by repeat (first | (with_reducible first | exact HB.out | apply below_alloc | apply pw_below_drewN | apply below_drew1) | exact HB.out)) hb); have n1_ := Aside0.mk (hbox); have n2_ := Aside0.mk ((by rw [hg]; exact (below_size (by repeat (first | (with_reducible first | exact HB.out | apply below_alloc | apply pw_below_drewN | apply below_drew1) | exact HB.out))) : w.heap.size ≤ gb118)); have n3_ := Aside0.mk ((by rw [hg]; exact (below_size (by repeat (first | (with_reducible first | exact HB.out | apply below_alloc | apply pw_below_drewN | apply below_drew1) | exact HB.out))) : w.heap.size ≤ gb118)); clear HB; have HB := n0_; have BK118 := n1_; have GW118 := n2_; have GE118 := n3_; clear n0_ n1_ n2_ n3_; clear hb hbox hg; have hcz3_0 : w2.cell? ⟨gb118, 0, none⟩ = some (.int .i64 a0_0) := (blk_cell BK118.out 0).trans rfl; have hcz3_1 : w2.cell? ⟨gb118, 1, none⟩ = some (.bool a0_1) := (blk_cell BK118.out 1).trans rfl; have hcz3_2 : w2.cell? ⟨gb118, 2, none⟩ = some (.string a0_2) := (blk_cell BK118.out 2).trans rfl; have hcz3_3 : w2.cell? ⟨gb118, 3, none⟩ = some (.string a0_3) := (blk_cell BK118.out 3).trans rfl; have hcz3_4 : w2.cell? ⟨gb118, 4, none⟩ = some (.slice A0_4 l0_4.length c0_4) := (blk_cell BK118.out 4).trans rfl; have hcz3_5 : w2.cell? ⟨gb118, 5, none⟩ = some (.slice A0_5 l0_5.length c0_5) := (blk_cell BK118.out 5).trans rfl; have hcz3_6 : w2.cell? ⟨gb118, 6, none⟩ = some (.bool a0_6) := (blk_cell BK118.out 6).trans rfl; have hcz3_7 : w2.cell? ⟨gb118, 7, none⟩ = some (.string a0_7) := (blk_cell BK118.out 7).trans rfl; have hcz3_8 : w2.cell? ⟨gb118, 8, none⟩ = some (.int .i64 a0_8) := (blk_cell BK118.out 8).trans rfl; have hcz3_9 : w2.cell? ⟨gb118, 9, none⟩ = some (.int .i64 a0_9) := (blk_cell BK118.out 9).trans rfl; have hcz3_10 : w2.cell? ⟨gb118, 10, none⟩ = some (.slice A0_10 l0_10.length c0_10) := (blk_cell BK118.out 10).trans rfl; have hcz3_11 : w2.cell? ⟨gb118, 11, none⟩ = some (.int .i64 a0_11) := (blk_cell BK118.out 11).trans rfl; have hcz3_12 : w2.cell? ⟨gb118, 12, none⟩ = some (.int .i64 a0_12) := (blk_cell BK118.out 12).trans rfl; have hcz3_13 : w2.cell? ⟨gb118, 13, none⟩ = some (.int .i64 a0_13) := (blk_cell BK118.out 13).trans rfl; have hcz3_14 : w2.cell? ⟨gb118, 14, none⟩ = some (.slice A0_14 l0_14.length c0_14) := (blk_cell BK118.out 14).trans rfl; have hfz3_0 := blk_frozen BK118.out 0; have hfz3_1 := blk_frozen BK118.out 1; have hfz3_2 := blk_frozen BK118.out 2; have hfz3_3 := blk_frozen BK118.out 3; have hfz3_4 := blk_frozen BK118.out 4; have hfz3_5 := blk_frozen BK118.out 5; have hfz3_6 := blk_frozen BK118.out 6; have hfz3_7 := blk_frozen BK118.out 7; have hfz3_8 := blk_frozen BK118.out 8; have hfz3_9 := blk_frozen BK118.out 9; have hfz3_10 := blk_frozen BK118.out 10; have hfz3_11 := blk_frozen BK118.out 11; have hfz3_12 := blk_frozen BK118.out 12; have hfz3_13 := blk_frozen BK118.out 13; have hfz3_14 := blk_frozen BK118.out 14))
  go_ret
  exact ⟨by first | rfl | (simp [errW_none, errW_some] <;> rfl) | (simp [*, errW_none, errW_some] <;> rfl), by repeat (first | (with_reducible first | exact HB.out | apply below_alloc | apply pw_below_drewN | apply below_drew1 | refine below_set ?_ GE118.out) | exact HB.out)⟩

-- NOT PRINTED: function 22 (diary_Diary_Crash)

end Go.Proofs.Ytbkfdejcmimhgaa.PDiaryExact
