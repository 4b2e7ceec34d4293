/- Words of the print, as far as they are used here. -/
import Derived.Test.YtbkfdejcmimhgaaVa
section
namespace Go.Proofs.Ytbkfdejcmimhgaa.PDiaryExact
open Go.RowKit Go.Proofs.YtbkfdejcmimhgaaW.PrintWords Go.Proofs.YtbkfdejcmimhgaaW.PrintLast Go.Proofs.YtbkfdejcmimhgaaW.PrintMore
attribute [local go_sem] max2_int min2_int max_two min_two max_three min_three max_four min_four   -- for this text's walks alone
set_option linter.unusedVariables false
set_option linter.unusedSimpArgs false

def wherrylaw18_Heavy.l0 : Nat → List (S39) → Int → Option (Bool)
  | 0, _, _ => none
  | k + 1, x0, x3 => if x3 < (x0.length : Int) then (if 0 ≤ x3 then (if (((rd_T39 x0 x3).f7).length : Int) > 600 then (some true) else (if (((rd_T39 x0 x3).f3).length : Int) > 60 then (some true) else ((wherrylaw17_Heavy.f k (([(⟨(⟨(rd_T39 x0 x3).f1.f0.f0, (rd_T39 x0 x3).f1.f0.f1, (rd_T39 x0 x3).f1.f0.f2⟩ : S32), (rd_T39 x0 x3).f1.f1, (rd_T39 x0 x3).f1.f2, (rd_T39 x0 x3).f1.f3, (rd_T39 x0 x3).f1.f4, (rd_T39 x0 x3).f1.f5⟩ : S36)] : List (S36)))).bind fun t117 => (if t117 = true then (some true) else (wherrylaw18_Heavy.l0 k x0 (wrap64 (x3 + 1))))))) else (none)) else (some false)
def wherrylaw18_Heavy.f (k : Nat) (l0 : List (S39)) : Option (Bool) := if (l0.length : Int) > 60 then (some true) else (wherrylaw18_Heavy.l0 k l0 0)
theorem wherrylaw18_Heavy.mono_l : ∀ k, (∀ y0 y1, LeO (wherrylaw18_Heavy.l0 k y0 y1) (wherrylaw18_Heavy.l0 (k + 1) y0 y1))
  | 0 => fun _ _ r h => by simp [wherrylaw18_Heavy.l0] at h
  | k + 1 => by
    have ih0 := wherrylaw18_Heavy.mono_l k
    · intro y0 y1
      unfold wherrylaw18_Heavy.l0
      repeat' first
      | (with_reducible exact ih0 _ _)
      | (with_reducible exact wherrylaw17_Heavy.mono _ _)
      | (with_reducible exact LeO.refl _)
      | (with_reducible exact LeO.none _)
      | (with_reducible refine LeO.ite ?_ ?_)
      | (with_reducible refine LeO.bind ?_ (fun _ => ?_))
      | exact ih0 _ _
      | exact wherrylaw17_Heavy.mono _ _
      | exact LeO.none _
      | refine LeO.ite ?_ ?_
      | refine LeO.bind ?_ (fun _ => ?_)
theorem wherrylaw18_Heavy.mono : ∀ a0 k, LeO (wherrylaw18_Heavy.f k a0) (wherrylaw18_Heavy.f (k + 1) a0) := by
  intro a0 k
  have ih0 := wherrylaw18_Heavy.mono_l k
  unfold wherrylaw18_Heavy.f
  repeat' first
      | (with_reducible exact ih0 _ _)
      | (with_reducible exact wherrylaw17_Heavy.mono _ _)
      | (with_reducible exact LeO.refl _)
      | (with_reducible exact LeO.none _)
      | (with_reducible refine LeO.ite ?_ ?_)
      | (with_reducible refine LeO.bind ?_ (fun _ => ?_))
      | exact ih0 _ _
      | exact wherrylaw17_Heavy.mono _ _
      | exact LeO.none _
      | refine LeO.ite ?_ ?_
      | refine LeO.bind ?_ (fun _ => ?_)
set_option maxHeartbeats 8000000 in
set_option maxRecDepth 100000 in
theorem wherrylaw18_Heavy.calls (k : Nat) (P0_ : Nat → Prop) (A0 : Option Addr) (c0 : Nat) (l0 : List (S39)) (r : Bool) (w : World) (hs0 : Kd.V k39 39 w w.heap.size (fun k_ => P0_ k_) (.slice A0 l0.length c0) l0) (h : wherrylaw18_Heavy.f k l0 = some r) :
    Calls Try.prog 10 #[.slice A0 l0.length c0] w fun e w' => e = .returned (.bool r) ∧ Below w.heap.size w w' := by
  have hu36 := Try.underlying36
  have HO0 := Aside0.mk (show Kd.V k39 39 w w.heap.size (fun k_ => (P0_ k_ ∨ w.heap.size ≤ k_)) (.slice A0 l0.length c0) l0 from Kd.V_mono hs0 (fun k_ hk => .inl hk))
  have HB := Aside0.mk (Below.refl w.heap.size w)
  have H : (if (l0.length : Int) > 60 then (some true) else (wherrylaw18_Heavy.l0 k l0 0)) = some r := h
  clear h
  by_cases c2 : (l0.length : Int) > 60
  · rw [if_pos c2] at H
    have c2b0 : decide (60 < (l0.length : Int)) = true := decide_eq_true c2
    have c2b1 : decide (60 < l0.length) = true := decide_eq_true (by omega)
    clear c2
    obtain rfl := Option.some.inj H
    go_enter Try.func10, Try.ntmps10
    go_wp2
    go_ret
    exact ⟨by first | rfl | (simp [errW_none, errW_some] <;> rfl) | (simp [*, errW_none, errW_some] <;> rfl), by repeat (first | (with_reducible first | exact HB.out | apply below_alloc | apply pw_below_drewN | apply below_drew1) | exact HB.out)⟩
  · rw [if_neg c2] at H
    have c2b0 : decide (60 < (l0.length : Int)) = false := decide_eq_false c2
    have c2b1 : decide (60 < l0.length) = false := decide_eq_false (by omega)
    clear c2
    have H' := Aside0.mk H
    clear H
    go_enter Try.func10, Try.ntmps10
    go_wp2
    go_loopg [3] k (fun kq v3 w' => ∃ (x3_1 : Int), v3 = .int .i64 x3_1 ∧ Aside0 (wherrylaw18_Heavy.l0 kq l0 x3_1 = some r) ∧ Aside0 (kq ≤ k) ∧ Aside0 (Kd.V k39 39 w' w.heap.size (fun k_ => (P0_ k_ ∨ w.heap.size ≤ k_)) (.slice A0 l0.length c0) l0) ∧ Aside0 (Below w.heap.size w w'))
    case atStart => exact ⟨(0), (by first | rfl | (simp; done) | (simp [*]; done)), H', ⟨Nat.le_refl _⟩, ⟨by (with_reducible repeat (first | apply Kd.V_alloc | apply Kd.V_drewN | apply Kd.V_drew)); exact HO0.out⟩, ⟨by repeat (first | (with_reducible first | exact HB.out | apply below_alloc | apply pw_below_drewN | apply below_drew1) | exact HB.out)⟩⟩
    case round =>
      clear H'
      try clear c1
      try clear c2
      try clear c2b0
      try clear c2b1
      try clear p2
      obtain ⟨x3_1, rfl, HA, HK1, HO_0, HB⟩ := hrel
      cases gk with
      | zero => exact absurd HA.out (by simp [wherrylaw18_Heavy.l0])
      | succ k1 =>
        have H := HA.out
        clear HA
        simp only [wherrylaw18_Heavy.l0] at H
        by_cases c3 : x3_1 < (l0.length : Int)
        · rw [if_pos c3] at H
          have c3b0 : decide (x3_1 < (l0.length : Int)) = true := decide_eq_true c3
          clear c3
          by_cases c4 : 0 ≤ x3_1
          · rw [if_pos c4] at H
            have c4b0 : decide (0 ≤ x3_1) = true := decide_eq_true c4
            clear c4
            by_cases c5 : (((rd_T39 l0 x3_1).f7).length : Int) > 600
            · rw [if_pos c5] at H
              have c5b0 : decide (600 < (((rd_T39 l0 x3_1).f7).length : Int)) = true := decide_eq_true c5
              have c5b1 : decide (600 < ((rd_T39 l0 x3_1).f7).length) = true := decide_eq_true (by omega)
              clear c5
              obtain rfl := Option.some.inj H
              have p111 : 0 ≤ (x3_1 : Int) := of_decide_eq_true (by first | (with_reducible assumption) | assumption)
              have q111 : x3_1 < (l0.length : Int) := of_decide_eq_true (by first | (with_reducible assumption) | assumption)
              obtain ⟨ad111, A111_4, c111_4, A111_5, c111_5, A111_10, c111_10, A111_14, c111_14, e111, hx111_0, hx111_1, hx111_2, hx111_3, hx111_4, hx111_5, hx111_6, hx111_7, hx111_8, hx111_9, hx111_10, hx111_11, hx111_12, hx111_13, hx111_14, hl111_4, hi111_4, hl111_5, hi111_5, hl111_10, hi111_10, hl111_14, hi111_14⟩ := at_T39 (Kd.V_reads' HO_0.out).2.2 x3_1 p111 q111
              cases e111
              obtain ⟨ce111, hce111, hMe111, hcc111⟩ := Kd.V_get HO_0.out z39 x3_1 p111 (by first | exact q111 | exact of_decide_eq_true (by first | (with_reducible assumption) | assumption) | (have e_ := (Kd.V_reads' HO_0.out).1; omega))
              obtain ⟨ua111_4, uc111_4, ua111_5, uc111_5, ua111_10, uc111_10, ua111_14, uc111_14, rfl, ul111_4, ge111_4, ul111_5, ge111_5, ul111_10, ge111_10, ul111_14, ge111_14⟩ := k39_openF hMe111
              have hv111_4 := hcc111 4 _ rfl
              rw [add_field _ _ 4 (by omega)] at hv111_4
              replace hv111_4 := Option.some.inj (hv111_4.symm.trans hx111_4)
              injection hv111_4 with hva_ hvn_ hvc_
              rw [hva_] at ge111_4
              rw [hvc_] at ul111_4
              have HL111_4 := Aside0.mk (show Kd.V k32 32 _ w.heap.size _ _ ((rd_T39 l0 x3_1).f1.f1) from Kd.V_mk ul111_4 ge111_4)
              clear hva_ hvn_ hvc_ ge111_4 ul111_4
              have hv111_5 := hcc111 5 _ rfl
              rw [add_field _ _ 5 (by omega)] at hv111_5
              replace hv111_5 := Option.some.inj (hv111_5.symm.trans hx111_5)
              injection hv111_5 with hva_ hvn_ hvc_
              rw [hva_] at ge111_5
              rw [hvc_] at ul111_5
              have HL111_5 := Aside0.mk (show Kd.V (Kd.int .u8) 5 _ w.heap.size _ _ ((rd_T39 l0 x3_1).f1.f2) from Kd.V_mk ul111_5 ge111_5)
              clear hva_ hvn_ hvc_ ge111_5 ul111_5
              have hv111_10 := hcc111 10 _ rfl
              rw [add_field _ _ 10 (by omega)] at hv111_10
              replace hv111_10 := Option.some.inj (hv111_10.symm.trans hx111_10)
              injection hv111_10 with hva_ hvn_ hvc_
              rw [hva_] at ge111_10
              rw [hvc_] at ul111_10
              have HL111_10 := Aside0.mk (show Kd.V (Kd.int .i64) 3 _ w.heap.size _ _ ((rd_T39 l0 x3_1).f3) from Kd.V_mk ul111_10 ge111_10)
              clear hva_ hvn_ hvc_ ge111_10 ul111_10
              have hv111_14 := hcc111 14 _ rfl
              rw [add_field _ _ 14 (by omega)] at hv111_14
              replace hv111_14 := Option.some.inj (hv111_14.symm.trans hx111_14)
              injection hv111_14 with hva_ hvn_ hvc_
              rw [hva_] at ge111_14
              rw [hvc_] at ul111_14
              have HL111_14 := Aside0.mk (show Kd.V (Kd.int .u8) 5 _ w.heap.size _ _ ((rd_T39 l0 x3_1).f7) from Kd.V_mk ul111_14 ge111_14)
              clear hva_ hvn_ hvc_ ge111_14 ul111_14
              clear hcc111 hce111
              have HR111_4 := Aside0.mk hi111_4
              have HC111_4 := Aside0.mk hl111_4
              clear hi111_4 hl111_4
              have HR111_5 := Aside0.mk hi111_5
              have HC111_5 := Aside0.mk hl111_5
              clear hi111_5 hl111_5
              have HR111_10 := Aside0.mk hi111_10
              have HC111_10 := Aside0.mk hl111_10
              clear hi111_10 hl111_10
              have HR111_14 := Aside0.mk hi111_14
              have HC111_14 := Aside0.mk hl111_14
              clear hi111_14 hl111_14
              replace p111 := eq_true p111
              replace q111 := eq_true q111
              go_wp2
              go_ret
              exact ⟨by first | rfl | (simp [errW_none, errW_some] <;> rfl) | (simp [*, errW_none, errW_some] <;> rfl), by repeat (first | (with_reducible first | exact HB.out | apply below_alloc | apply pw_below_drewN | apply below_drew1) | exact HB.out)⟩
            · rw [if_neg c5] at H
              have c5b0 : decide (600 < (((rd_T39 l0 x3_1).f7).length : Int)) = false := decide_eq_false c5
              have c5b1 : decide (600 < ((rd_T39 l0 x3_1).f7).length) = false := decide_eq_false (by omega)
              clear c5
              by_cases c6 : (((rd_T39 l0 x3_1).f3).length : Int) > 60
              · rw [if_pos c6] at H
                have c6b0 : decide (60 < (((rd_T39 l0 x3_1).f3).length : Int)) = true := decide_eq_true c6
                have c6b1 : decide (60 < ((rd_T39 l0 x3_1).f3).length) = true := decide_eq_true (by omega)
                clear c6
                obtain rfl := Option.some.inj H
                have p111 : 0 ≤ (x3_1 : Int) := of_decide_eq_true (by first | (with_reducible assumption) | assumption)
                have q111 : x3_1 < (l0.length : Int) := of_decide_eq_true (by first | (with_reducible assumption) | assumption)
                obtain ⟨ad111, A111_4, c111_4, A111_5, c111_5, A111_10, c111_10, A111_14, c111_14, e111, hx111_0, hx111_1, hx111_2, hx111_3, hx111_4, hx111_5, hx111_6, hx111_7, hx111_8, hx111_9, hx111_10, hx111_11, hx111_12, hx111_13, hx111_14, hl111_4, hi111_4, hl111_5, hi111_5, hl111_10, hi111_10, hl111_14, hi111_14⟩ := at_T39 (Kd.V_reads' HO_0.out).2.2 x3_1 p111 q111
                cases e111
                obtain ⟨ce111, hce111, hMe111, hcc111⟩ := Kd.V_get HO_0.out z39 x3_1 p111 (by first | exact q111 | exact of_decide_eq_true (by first | (with_reducible assumption) | assumption) | (have e_ := (Kd.V_reads' HO_0.out).1; omega))
                obtain ⟨ua111_4, uc111_4, ua111_5, uc111_5, ua111_10, uc111_10, ua111_14, uc111_14, rfl, ul111_4, ge111_4, ul111_5, ge111_5, ul111_10, ge111_10, ul111_14, ge111_14⟩ := k39_openF hMe111
                have hv111_4 := hcc111 4 _ rfl
                rw [add_field _ _ 4 (by omega)] at hv111_4
                replace hv111_4 := Option.some.inj (hv111_4.symm.trans hx111_4)
                injection hv111_4 with hva_ hvn_ hvc_
                rw [hva_] at ge111_4
                rw [hvc_] at ul111_4
                have HL111_4 := Aside0.mk (show Kd.V k32 32 _ w.heap.size _ _ ((rd_T39 l0 x3_1).f1.f1) from Kd.V_mk ul111_4 ge111_4)
                clear hva_ hvn_ hvc_ ge111_4 ul111_4
                have hv111_5 := hcc111 5 _ rfl
                rw [add_field _ _ 5 (by omega)] at hv111_5
                replace hv111_5 := Option.some.inj (hv111_5.symm.trans hx111_5)
                injection hv111_5 with hva_ hvn_ hvc_
                rw [hva_] at ge111_5
                rw [hvc_] at ul111_5
                have HL111_5 := Aside0.mk (show Kd.V (Kd.int .u8) 5 _ w.heap.size _ _ ((rd_T39 l0 x3_1).f1.f2) from Kd.V_mk ul111_5 ge111_5)
                clear hva_ hvn_ hvc_ ge111_5 ul111_5
                have hv111_10 := hcc111 10 _ rfl
                rw [add_field _ _ 10 (by omega)] at hv111_10
                replace hv111_10 := Option.some.inj (hv111_10.symm.trans hx111_10)
                injection hv111_10 with hva_ hvn_ hvc_
                rw [hva_] at ge111_10
                rw [hvc_] at ul111_10
                have HL111_10 := Aside0.mk (show Kd.V (Kd.int .i64) 3 _ w.heap.size _ _ ((rd_T39 l0 x3_1).f3) from Kd.V_mk ul111_10 ge111_10)
                clear hva_ hvn_ hvc_ ge111_10 ul111_10
                have hv111_14 := hcc111 14 _ rfl
                rw [add_field _ _ 14 (by omega)] at hv111_14
                replace hv111_14 := Option.some.inj (hv111_14.symm.trans hx111_14)
                injection hv111_14 with hva_ hvn_ hvc_
                rw [hva_] at ge111_14
                rw [hvc_] at ul111_14
                have HL111_14 := Aside0.mk (show Kd.V (Kd.int .u8) 5 _ w.heap.size _ _ ((rd_T39 l0 x3_1).f7) from Kd.V_mk ul111_14 ge111_14)
                clear hva_ hvn_ hvc_ ge111_14 ul111_14
                clear hcc111 hce111
                have HR111_4 := Aside0.mk hi111_4
                have HC111_4 := Aside0.mk hl111_4
                clear hi111_4 hl111_4
                have HR111_5 := Aside0.mk hi111_5
                have HC111_5 := Aside0.mk hl111_5
                clear hi111_5 hl111_5
                have HR111_10 := Aside0.mk hi111_10
                have HC111_10 := Aside0.mk hl111_10
                clear hi111_10 hl111_10
                have HR111_14 := Aside0.mk hi111_14
                have HC111_14 := Aside0.mk hl111_14
                clear hi111_14 hl111_14
                replace p111 := eq_true p111
                replace q111 := eq_true q111
                have p112 : 0 ≤ (x3_1 : Int) := of_decide_eq_true (by first | (with_reducible assumption) | assumption)
                have q112 : x3_1 < (l0.length : Int) := of_decide_eq_true (by first | (with_reducible assumption) | assumption)
                obtain ⟨ad112, A112_4, c112_4, A112_5, c112_5, A112_10, c112_10, A112_14, c112_14, e112, hx112_0, hx112_1, hx112_2, hx112_3, hx112_4, hx112_5, hx112_6, hx112_7, hx112_8, hx112_9, hx112_10, hx112_11, hx112_12, hx112_13, hx112_14, hl112_4, hi112_4, hl112_5, hi112_5, hl112_10, hi112_10, hl112_14, hi112_14⟩ := at_T39 (Kd.V_reads' HO_0.out).2.2 x3_1 p112 q112
                obtain rfl : ad111 = ad112 := (by injection e112)
                obtain ⟨ce112, hce112, hMe112, hcc112⟩ := Kd.V_get HO_0.out z39 x3_1 p112 (by first | exact q112 | exact of_decide_eq_true (by first | (with_reducible assumption) | assumption) | (have e_ := (Kd.V_reads' HO_0.out).1; omega))
                obtain ⟨ua112_4, uc112_4, ua112_5, uc112_5, ua112_10, uc112_10, ua112_14, uc112_14, rfl, ul112_4, ge112_4, ul112_5, ge112_5, ul112_10, ge112_10, ul112_14, ge112_14⟩ := k39_openF hMe112
                have hv112_4 := hcc112 4 _ rfl
                rw [add_field _ _ 4 (by omega)] at hv112_4
                replace hv112_4 := Option.some.inj (hv112_4.symm.trans hx112_4)
                injection hv112_4 with hva_ hvn_ hvc_
                rw [hva_] at ge112_4
                rw [hvc_] at ul112_4
                have HL112_4 := Aside0.mk (show Kd.V k32 32 _ w.heap.size _ _ ((rd_T39 l0 x3_1).f1.f1) from Kd.V_mk ul112_4 ge112_4)
                clear hva_ hvn_ hvc_ ge112_4 ul112_4
                have hv112_5 := hcc112 5 _ rfl
                rw [add_field _ _ 5 (by omega)] at hv112_5
                replace hv112_5 := Option.some.inj (hv112_5.symm.trans hx112_5)
                injection hv112_5 with hva_ hvn_ hvc_
                rw [hva_] at ge112_5
                rw [hvc_] at ul112_5
                have HL112_5 := Aside0.mk (show Kd.V (Kd.int .u8) 5 _ w.heap.size _ _ ((rd_T39 l0 x3_1).f1.f2) from Kd.V_mk ul112_5 ge112_5)
                clear hva_ hvn_ hvc_ ge112_5 ul112_5
                have hv112_10 := hcc112 10 _ rfl
                rw [add_field _ _ 10 (by omega)] at hv112_10
                replace hv112_10 := Option.some.inj (hv112_10.symm.trans hx112_10)
                injection hv112_10 with hva_ hvn_ hvc_
                rw [hva_] at ge112_10
                rw [hvc_] at ul112_10
                have HL112_10 := Aside0.mk (show Kd.V (Kd.int .i64) 3 _ w.heap.size _ _ ((rd_T39 l0 x3_1).f3) from Kd.V_mk ul112_10 ge112_10)
                clear hva_ hvn_ hvc_ ge112_10 ul112_10
                have hv112_14 := hcc112 14 _ rfl
                rw [add_field _ _ 14 (by omega)] at hv112_14
                replace hv112_14 := Option.some.inj (hv112_14.symm.trans hx112_14)
                injection hv112_14 with hva_ hvn_ hvc_
                rw [hva_] at ge112_14
                rw [hvc_] at ul112_14
                have HL112_14 := Aside0.mk (show Kd.V (Kd.int .u8) 5 _ w.heap.size _ _ ((rd_T39 l0 x3_1).f7) from Kd.V_mk ul112_14 ge112_14)
                clear hva_ hvn_ hvc_ ge112_14 ul112_14
                clear hcc112 hce112
                have HR112_4 := Aside0.mk hi112_4
                have HC112_4 := Aside0.mk hl112_4
                clear hi112_4 hl112_4
                have HR112_5 := Aside0.mk hi112_5
                have HC112_5 := Aside0.mk hl112_5
                clear hi112_5 hl112_5
                have HR112_10 := Aside0.mk hi112_10
                have HC112_10 := Aside0.mk hl112_10
                clear hi112_10 hl112_10
                have HR112_14 := Aside0.mk hi112_14
                have HC112_14 := Aside0.mk hl112_14
                clear hi112_14 hl112_14
                replace p112 := eq_true p112
                replace q112 := eq_true q112
                have ea_ := Option.some.inj (hx111_4.symm.trans hx112_4)
                injection ea_ with ea_ en_ ec_
                subst ea_
                subst ec_
                clear en_
                have ea_ := Option.some.inj (hx111_5.symm.trans hx112_5)
                injection ea_ with ea_ en_ ec_
                subst ea_
                subst ec_
                clear en_
                have ea_ := Option.some.inj (hx111_10.symm.trans hx112_10)
                injection ea_ with ea_ en_ ec_
                subst ea_
                subst ec_
                clear en_
                have ea_ := Option.some.inj (hx111_14.symm.trans hx112_14)
                injection ea_ with ea_ en_ ec_
                subst ea_
                subst ec_
                clear en_
                go_wp2
                go_ret
                exact ⟨by first | rfl | (simp [errW_none, errW_some] <;> rfl) | (simp [*, errW_none, errW_some] <;> rfl), by repeat (first | (with_reducible first | exact HB.out | apply below_alloc | apply pw_below_drewN | apply below_drew1) | exact HB.out)⟩
              · rw [if_neg c6] at H
                have c6b0 : decide (60 < (((rd_T39 l0 x3_1).f3).length : Int)) = false := decide_eq_false c6
                have c6b1 : decide (60 < ((rd_T39 l0 x3_1).f3).length) = false := decide_eq_false (by omega)
                clear c6
                obtain ⟨y114, hy114⟩ : ∃ y_ : List (S36), y_ = (([(⟨(⟨(rd_T39 l0 x3_1).f1.f0.f0, (rd_T39 l0 x3_1).f1.f0.f1, (rd_T39 l0 x3_1).f1.f0.f2⟩ : S32), (rd_T39 l0 x3_1).f1.f1, (rd_T39 l0 x3_1).f1.f2, (rd_T39 l0 x3_1).f1.f3, (rd_T39 l0 x3_1).f1.f4, (rd_T39 l0 x3_1).f1.f5⟩ : S36)] : List (S36))) := ⟨_, rfl⟩
                replace H : ((wherrylaw17_Heavy.f k1 y114).bind fun t117 => (if t117 = true then (some true) else (wherrylaw18_Heavy.l0 k1 l0 (wrap64 (x3_1 + 1))))) = some r := by first | (rw [hy114]; with_reducible exact H) | (have H2_ := (Option.bind_some _ _).symm.trans H; rw [hy114]; with_reducible exact H2_) | (have H2_ := (Option.bind_some _ _).symm.trans H; with_reducible exact H2_) | with_reducible exact H | (rw [hy114]; exact H) | exact H
                have Ny114 := Aside0.mk hy114
                clear hy114
                replace H := Option.bind_eq_some_iff.mp H
                obtain ⟨t117, A70, H⟩ := H
                replace H : (if t117 = true then (some true) else (wherrylaw18_Heavy.l0 k1 l0 (wrap64 (x3_1 + 1)))) = some r := H
                have A7 := Aside0.mk A70
                clear A70
                by_cases c8 : t117 = true
                · subst c8
                  have H1 : (some true) = some r := by rw [if_pos rfl] at H; exact H
                  clear H
                  have H := H1
                  clear H1
                  obtain rfl := Option.some.inj H
                  have p111 : 0 ≤ (x3_1 : Int) := of_decide_eq_true (by first | (with_reducible assumption) | assumption)
                  have q111 : x3_1 < (l0.length : Int) := of_decide_eq_true (by first | (with_reducible assumption) | assumption)
                  obtain ⟨ad111, A111_4, c111_4, A111_5, c111_5, A111_10, c111_10, A111_14, c111_14, e111, hx111_0, hx111_1, hx111_2, hx111_3, hx111_4, hx111_5, hx111_6, hx111_7, hx111_8, hx111_9, hx111_10, hx111_11, hx111_12, hx111_13, hx111_14, hl111_4, hi111_4, hl111_5, hi111_5, hl111_10, hi111_10, hl111_14, hi111_14⟩ := at_T39 (Kd.V_reads' HO_0.out).2.2 x3_1 p111 q111
                  cases e111
                  obtain ⟨ce111, hce111, hMe111, hcc111⟩ := Kd.V_get HO_0.out z39 x3_1 p111 (by first | exact q111 | exact of_decide_eq_true (by first | (with_reducible assumption) | assumption) | (have e_ := (Kd.V_reads' HO_0.out).1; omega))
                  obtain ⟨ua111_4, uc111_4, ua111_5, uc111_5, ua111_10, uc111_10, ua111_14, uc111_14, rfl, ul111_4, ge111_4, ul111_5, ge111_5, ul111_10, ge111_10, ul111_14, ge111_14⟩ := k39_openF hMe111
                  have hv111_4 := hcc111 4 _ rfl
                  rw [add_field _ _ 4 (by omega)] at hv111_4
                  replace hv111_4 := Option.some.inj (hv111_4.symm.trans hx111_4)
                  injection hv111_4 with hva_ hvn_ hvc_
                  rw [hva_] at ge111_4
                  rw [hvc_] at ul111_4
                  have HL111_4 := Aside0.mk (show Kd.V k32 32 _ w.heap.size _ _ ((rd_T39 l0 x3_1).f1.f1) from Kd.V_mk ul111_4 ge111_4)
                  clear hva_ hvn_ hvc_ ge111_4 ul111_4
                  have hv111_5 := hcc111 5 _ rfl
                  rw [add_field _ _ 5 (by omega)] at hv111_5
                  replace hv111_5 := Option.some.inj (hv111_5.symm.trans hx111_5)
                  injection hv111_5 with hva_ hvn_ hvc_
                  rw [hva_] at ge111_5
                  rw [hvc_] at ul111_5
                  have HL111_5 := Aside0.mk (show Kd.V (Kd.int .u8) 5 _ w.heap.size _ _ ((rd_T39 l0 x3_1).f1.f2) from Kd.V_mk ul111_5 ge111_5)
                  clear hva_ hvn_ hvc_ ge111_5 ul111_5
                  have hv111_10 := hcc111 10 _ rfl
                  rw [add_field _ _ 10 (by omega)] at hv111_10
                  replace hv111_10 := Option.some.inj (hv111_10.symm.trans hx111_10)
                  injection hv111_10 with hva_ hvn_ hvc_
                  rw [hva_] at ge111_10
                  rw [hvc_] at ul111_10
                  have HL111_10 := Aside0.mk (show Kd.V (Kd.int .i64) 3 _ w.heap.size _ _ ((rd_T39 l0 x3_1).f3) from Kd.V_mk ul111_10 ge111_10)
                  clear hva_ hvn_ hvc_ ge111_10 ul111_10
                  have hv111_14 := hcc111 14 _ rfl
                  rw [add_field _ _ 14 (by omega)] at hv111_14
                  replace hv111_14 := Option.some.inj (hv111_14.symm.trans hx111_14)
                  injection hv111_14 with hva_ hvn_ hvc_
                  rw [hva_] at ge111_14
                  rw [hvc_] at ul111_14
                  have HL111_14 := Aside0.mk (show Kd.V (Kd.int .u8) 5 _ w.heap.size _ _ ((rd_T39 l0 x3_1).f7) from Kd.V_mk ul111_14 ge111_14)
                  clear hva_ hvn_ hvc_ ge111_14 ul111_14
                  clear hcc111 hce111
                  have HR111_4 := Aside0.mk hi111_4
                  have HC111_4 := Aside0.mk hl111_4
                  clear hi111_4 hl111_4
                  have HR111_5 := Aside0.mk hi111_5
                  have HC111_5 := Aside0.mk hl111_5
                  clear hi111_5 hl111_5
                  have HR111_10 := Aside0.mk hi111_10
                  have HC111_10 := Aside0.mk hl111_10
                  clear hi111_10 hl111_10
                  have HR111_14 := Aside0.mk hi111_14
                  have HC111_14 := Aside0.mk hl111_14
                  clear hi111_14 hl111_14
                  replace p111 := eq_true p111
                  replace q111 := eq_true q111
                  have p112 : 0 ≤ (x3_1 : Int) := of_decide_eq_true (by first | (with_reducible assumption) | assumption)
                  have q112 : x3_1 < (l0.length : Int) := of_decide_eq_true (by first | (with_reducible assumption) | assumption)
                  obtain ⟨ad112, A112_4, c112_4, A112_5, c112_5, A112_10, c112_10, A112_14, c112_14, e112, hx112_0, hx112_1, hx112_2, hx112_3, hx112_4, hx112_5, hx112_6, hx112_7, hx112_8, hx112_9, hx112_10, hx112_11, hx112_12, hx112_13, hx112_14, hl112_4, hi112_4, hl112_5, hi112_5, hl112_10, hi112_10, hl112_14, hi112_14⟩ := at_T39 (Kd.V_reads' HO_0.out).2.2 x3_1 p112 q112
                  obtain rfl : ad111 = ad112 := (by injection e112)
                  obtain ⟨ce112, hce112, hMe112, hcc112⟩ := Kd.V_get HO_0.out z39 x3_1 p112 (by first | exact q112 | exact of_decide_eq_true (by first | (with_reducible assumption) | assumption) | (have e_ := (Kd.V_reads' HO_0.out).1; omega))
                  obtain ⟨ua112_4, uc112_4, ua112_5, uc112_5, ua112_10, uc112_10, ua112_14, uc112_14, rfl, ul112_4, ge112_4, ul112_5, ge112_5, ul112_10, ge112_10, ul112_14, ge112_14⟩ := k39_openF hMe112
                  have hv112_4 := hcc112 4 _ rfl
                  rw [add_field _ _ 4 (by omega)] at hv112_4
                  replace hv112_4 := Option.some.inj (hv112_4.symm.trans hx112_4)
                  injection hv112_4 with hva_ hvn_ hvc_
                  rw [hva_] at ge112_4
                  rw [hvc_] at ul112_4
                  have HL112_4 := Aside0.mk (show Kd.V k32 32 _ w.heap.size _ _ ((rd_T39 l0 x3_1).f1.f1) from Kd.V_mk ul112_4 ge112_4)
                  clear hva_ hvn_ hvc_ ge112_4 ul112_4
                  have hv112_5 := hcc112 5 _ rfl
                  rw [add_field _ _ 5 (by omega)] at hv112_5
                  replace hv112_5 := Option.some.inj (hv112_5.symm.trans hx112_5)
                  injection hv112_5 with hva_ hvn_ hvc_
                  rw [hva_] at ge112_5
                  rw [hvc_] at ul112_5
                  have HL112_5 := Aside0.mk (show Kd.V (Kd.int .u8) 5 _ w.heap.size _ _ ((rd_T39 l0 x3_1).f1.f2) from Kd.V_mk ul112_5 ge112_5)
                  clear hva_ hvn_ hvc_ ge112_5 ul112_5
                  have hv112_10 := hcc112 10 _ rfl
                  rw [add_field _ _ 10 (by omega)] at hv112_10
                  replace hv112_10 := Option.some.inj (hv112_10.symm.trans hx112_10)
                  injection hv112_10 with hva_ hvn_ hvc_
                  rw [hva_] at ge112_10
                  rw [hvc_] at ul112_10
                  have HL112_10 := Aside0.mk (show Kd.V (Kd.int .i64) 3 _ w.heap.size _ _ ((rd_T39 l0 x3_1).f3) from Kd.V_mk ul112_10 ge112_10)
                  clear hva_ hvn_ hvc_ ge112_10 ul112_10
                  have hv112_14 := hcc112 14 _ rfl
                  rw [add_field _ _ 14 (by omega)] at hv112_14
                  replace hv112_14 := Option.some.inj (hv112_14.symm.trans hx112_14)
                  injection hv112_14 with hva_ hvn_ hvc_
                  rw [hva_] at ge112_14
                  rw [hvc_] at ul112_14
                  have HL112_14 := Aside0.mk (show Kd.V (Kd.int .u8) 5 _ w.heap.size _ _ ((rd_T39 l0 x3_1).f7) from Kd.V_mk ul112_14 ge112_14)
                  clear hva_ hvn_ hvc_ ge112_14 ul112_14
                  clear hcc112 hce112
                  have HR112_4 := Aside0.mk hi112_4
                  have HC112_4 := Aside0.mk hl112_4
                  clear hi112_4 hl112_4
                  have HR112_5 := Aside0.mk hi112_5
                  have HC112_5 := Aside0.mk hl112_5
                  clear hi112_5 hl112_5
                  have HR112_10 := Aside0.mk hi112_10
                  have HC112_10 := Aside0.mk hl112_10
                  clear hi112_10 hl112_10
                  have HR112_14 := Aside0.mk hi112_14
                  have HC112_14 := Aside0.mk hl112_14
                  clear hi112_14 hl112_14
                  replace p112 := eq_true p112
                  replace q112 := eq_true q112
                  have ea_ := Option.some.inj (hx111_4.symm.trans hx112_4)
                  injection ea_ with ea_ en_ ec_
                  subst ea_
                  subst ec_
                  clear en_
                  have ea_ := Option.some.inj (hx111_5.symm.trans hx112_5)
                  injection ea_ with ea_ en_ ec_
                  subst ea_
                  subst ec_
                  clear en_
                  have ea_ := Option.some.inj (hx111_10.symm.trans hx112_10)
                  injection ea_ with ea_ en_ ec_
                  subst ea_
                  subst ec_
                  clear en_
                  have ea_ := Option.some.inj (hx111_14.symm.trans hx112_14)
                  injection ea_ with ea_ en_ ec_
                  subst ea_
                  subst ec_
                  clear en_
                  have p113 : 0 ≤ (x3_1 : Int) := of_decide_eq_true (by first | (with_reducible assumption) | assumption)
                  have q113 : x3_1 < (l0.length : Int) := of_decide_eq_true (by first | (with_reducible assumption) | assumption)
                  obtain ⟨ad113, A113_4, c113_4, A113_5, c113_5, A113_10, c113_10, A113_14, c113_14, e113, hx113_0, hx113_1, hx113_2, hx113_3, hx113_4, hx113_5, hx113_6, hx113_7, hx113_8, hx113_9, hx113_10, hx113_11, hx113_12, hx113_13, hx113_14, hl113_4, hi113_4, hl113_5, hi113_5, hl113_10, hi113_10, hl113_14, hi113_14⟩ := at_T39 (Kd.V_reads' HO_0.out).2.2 x3_1 p113 q113
                  obtain rfl : ad111 = ad113 := (by injection e113)
                  obtain ⟨ce113, hce113, hMe113, hcc113⟩ := Kd.V_get HO_0.out z39 x3_1 p113 (by first | exact q113 | exact of_decide_eq_true (by first | (with_reducible assumption) | assumption) | (have e_ := (Kd.V_reads' HO_0.out).1; omega))
                  obtain ⟨ua113_4, uc113_4, ua113_5, uc113_5, ua113_10, uc113_10, ua113_14, uc113_14, rfl, ul113_4, ge113_4, ul113_5, ge113_5, ul113_10, ge113_10, ul113_14, ge113_14⟩ := k39_openF hMe113
                  have hv113_4 := hcc113 4 _ rfl
                  rw [add_field _ _ 4 (by omega)] at hv113_4
                  replace hv113_4 := Option.some.inj (hv113_4.symm.trans hx113_4)
                  injection hv113_4 with hva_ hvn_ hvc_
                  rw [hva_] at ge113_4
                  rw [hvc_] at ul113_4
                  have HL113_4 := Aside0.mk (show Kd.V k32 32 _ w.heap.size _ _ ((rd_T39 l0 x3_1).f1.f1) from Kd.V_mk ul113_4 ge113_4)
                  clear hva_ hvn_ hvc_ ge113_4 ul113_4
                  have hv113_5 := hcc113 5 _ rfl
                  rw [add_field _ _ 5 (by omega)] at hv113_5
                  replace hv113_5 := Option.some.inj (hv113_5.symm.trans hx113_5)
                  injection hv113_5 with hva_ hvn_ hvc_
                  rw [hva_] at ge113_5
                  rw [hvc_] at ul113_5
                  have HL113_5 := Aside0.mk (show Kd.V (Kd.int .u8) 5 _ w.heap.size _ _ ((rd_T39 l0 x3_1).f1.f2) from Kd.V_mk ul113_5 ge113_5)
                  clear hva_ hvn_ hvc_ ge113_5 ul113_5
                  have hv113_10 := hcc113 10 _ rfl
                  rw [add_field _ _ 10 (by omega)] at hv113_10
                  replace hv113_10 := Option.some.inj (hv113_10.symm.trans hx113_10)
                  injection hv113_10 with hva_ hvn_ hvc_
                  rw [hva_] at ge113_10
                  rw [hvc_] at ul113_10
                  have HL113_10 := Aside0.mk (show Kd.V (Kd.int .i64) 3 _ w.heap.size _ _ ((rd_T39 l0 x3_1).f3) from Kd.V_mk ul113_10 ge113_10)
                  clear hva_ hvn_ hvc_ ge113_10 ul113_10
                  have hv113_14 := hcc113 14 _ rfl
                  rw [add_field _ _ 14 (by omega)] at hv113_14
                  replace hv113_14 := Option.some.inj (hv113_14.symm.trans hx113_14)
                  injection hv113_14 with hva_ hvn_ hvc_
                  rw [hva_] at ge113_14
                  rw [hvc_] at ul113_14
                  have HL113_14 := Aside0.mk (show Kd.V (Kd.int .u8) 5 _ w.heap.size _ _ ((rd_T39 l0 x3_1).f7) from Kd.V_mk ul113_14 ge113_14)
                  clear hva_ hvn_ hvc_ ge113_14 ul113_14
                  clear hcc113 hce113
                  have HR113_4 := Aside0.mk hi113_4
                  have HC113_4 := Aside0.mk hl113_4
                  clear hi113_4 hl113_4
                  have HR113_5 := Aside0.mk hi113_5
                  have HC113_5 := Aside0.mk hl113_5
                  clear hi113_5 hl113_5
                  have HR113_10 := Aside0.mk hi113_10
                  have HC113_10 := Aside0.mk hl113_10
                  clear hi113_10 hl113_10
                  have HR113_14 := Aside0.mk hi113_14
                  have HC113_14 := Aside0.mk hl113_14
                  clear hi113_14 hl113_14
                  replace p113 := eq_true p113
                  replace q113 := eq_true q113
                  have ea_ := Option.some.inj (hx111_4.symm.trans hx113_4)
                  injection ea_ with ea_ en_ ec_
                  subst ea_
                  subst ec_
                  clear en_
                  have ea_ := Option.some.inj (hx111_5.symm.trans hx113_5)
                  injection ea_ with ea_ en_ ec_
                  subst ea_
                  subst ec_
                  clear en_
                  have ea_ := Option.some.inj (hx111_10.symm.trans hx113_10)
                  injection ea_ with ea_ en_ ec_
                  subst ea_
                  subst ec_
                  clear en_
                  have ea_ := Option.some.inj (hx111_14.symm.trans hx113_14)
                  injection ea_ with ea_ en_ ec_
                  subst ea_
                  subst ec_
                  clear en_
                  go_wp2_with (first | ((with_reducible refine gate_dst (N := 35) rfl ?_); (try (refine gate_guard (by rfl) ?_; dsimp only)); refine Kd.N_lit k36 _ 36 ?hg (N' := 35) ?hd (xs := ([(⟨(⟨(rd_T39 l0 x3_1).f1.f0.f0, (rd_T39 l0 x3_1).f1.f0.f1, (rd_T39 l0 x3_1).f1.f0.f2⟩ : S32), (rd_T39 l0 x3_1).f1.f1, (rd_T39 l0 x3_1).f1.f2, (rd_T39 l0 x3_1).f1.f3, (rd_T39 l0 x3_1).f1.f4, (rd_T39 l0 x3_1).f1.f5⟩ : S36)] : List (S36))) (inner := [.bool ((rd_T39 l0 x3_1).f1.f0.f0), .string ((rd_T39 l0 x3_1).f1.f0.f1), .string ((rd_T39 l0 x3_1).f1.f0.f2), .slice A111_4 ((rd_T39 l0 x3_1).f1.f1).length c111_4, .slice A111_5 ((rd_T39 l0 x3_1).f1.f2).length c111_5, .bool ((rd_T39 l0 x3_1).f1.f3), .string ((rd_T39 l0 x3_1).f1.f4), .int .i64 ((rd_T39 l0 x3_1).f1.f5)]) (ok := (fun k_ => (P0_ k_ ∨ w.heap.size ≤ k_))) (okp := (fun k_ => (P0_ k_ ∨ w.heap.size ≤ k_))) ?hr ?hp (fun _ hk => hk) ((show ∀ k_, wr.heap.size ≤ k_ → (fun k_ => (P0_ k_ ∨ w.heap.size ≤ k_)) k_ from fun k_ hk => (.inr (Nat.le_trans (below_size (by repeat (first | (with_reducible first | exact HB.out | apply below_alloc | apply pw_below_drewN | apply below_drew1) | exact HB.out))) hk))) _ (Nat.le_refl _)) (Below.refl _ _) (Nat.le_refl _) (by simp) ?_; (case hd => rfl); (case hg => rfl); (case hr => first | (go_simp; done) | (go_simp; rfl)); (case hp => exact (Reps.c8 (show Kd.FK k36 _ _ (⟨(⟨(rd_T39 l0 x3_1).f1.f0.f0, (rd_T39 l0 x3_1).f1.f0.f1, (rd_T39 l0 x3_1).f1.f0.f2⟩ : S32), (rd_T39 l0 x3_1).f1.f1, (rd_T39 l0 x3_1).f1.f2, (rd_T39 l0 x3_1).f1.f3, (rd_T39 l0 x3_1).f1.f4, (rd_T39 l0 x3_1).f1.f5⟩ : S36) [.bool ((rd_T39 l0 x3_1).f1.f0.f0), .string ((rd_T39 l0 x3_1).f1.f0.f1), .string ((rd_T39 l0 x3_1).f1.f0.f2), .slice A111_4 ((rd_T39 l0 x3_1).f1.f1).length c111_4, .slice A111_5 ((rd_T39 l0 x3_1).f1.f2).length c111_5, .bool ((rd_T39 l0 x3_1).f1.f3), .string ((rd_T39 l0 x3_1).f1.f4), .int .i64 ((rd_T39 l0 x3_1).f1.f5)] from (k36_mkF _ _ (⟨(⟨(rd_T39 l0 x3_1).f1.f0.f0, (rd_T39 l0 x3_1).f1.f0.f1, (rd_T39 l0 x3_1).f1.f0.f2⟩ : S32), (rd_T39 l0 x3_1).f1.f1, (rd_T39 l0 x3_1).f1.f2, (rd_T39 l0 x3_1).f1.f3, (rd_T39 l0 x3_1).f1.f4, (rd_T39 l0 x3_1).f1.f5⟩ : S36) (Kd.V_reads' (Kd.V_mono (ok' := (fun k_ => (P0_ k_ ∨ w.heap.size ≤ k_))) (HL113_4.out) (fun k_ hk => hk))).2.1 (Kd.V_F (Kd.V_mono (ok' := (fun k_ => (P0_ k_ ∨ w.heap.size ≤ k_))) (HL113_4.out) (fun k_ hk => hk))) (Kd.V_reads' (Kd.V_mono (ok' := (fun k_ => (P0_ k_ ∨ w.heap.size ≤ k_))) (HL113_5.out) (fun k_ hk => hk))).2.1 (Kd.V_F (Kd.V_mono (ok' := (fun k_ => (P0_ k_ ∨ w.heap.size ≤ k_))) (HL113_5.out) (fun k_ hk => hk))))) (Reps.none _ _))); intro v115 w9 ho10 hb hg_ hnew_; clear hg_ hnew_; (first | rw [← Ny114.out] at ho10 | (simp only [Int.reduceToNat] at ho10; rw [← Ny114.out] at ho10)); have n0_ := Aside0.mk (Kd.V_elder' (by (with_reducible repeat (first | apply Kd.V_alloc | apply Kd.V_drewN | apply Kd.V_drew)); exact HO_0.out) (Kd.N_base ho10) hb); have n1_ := Aside0.mk (Kd.V_elder' (by (with_reducible repeat (first | apply Kd.V_alloc | apply Kd.V_drewN | apply Kd.V_drew)); exact HL111_4.out) (Kd.N_base ho10) hb); have n2_ := Aside0.mk (Kd.V_elder' (by (with_reducible repeat (first | apply Kd.V_alloc | apply Kd.V_drewN | apply Kd.V_drew)); exact HL111_5.out) (Kd.N_base ho10) hb); have n3_ := Aside0.mk (Kd.V_elder' (by (with_reducible repeat (first | apply Kd.V_alloc | apply Kd.V_drewN | apply Kd.V_drew)); exact HL111_10.out) (Kd.N_base ho10) hb); have n4_ := Aside0.mk (Kd.V_elder' (by (with_reducible repeat (first | apply Kd.V_alloc | apply Kd.V_drewN | apply Kd.V_drew)); exact HL111_14.out) (Kd.N_base ho10) hb); have n5_ := Aside0.mk (Kd.V_elder' (by (with_reducible repeat (first | apply Kd.V_alloc | apply Kd.V_drewN | apply Kd.V_drew)); exact HL112_4.out) (Kd.N_base ho10) hb); have n6_ := Aside0.mk (Kd.V_elder' (by (with_reducible repeat (first | apply Kd.V_alloc | apply Kd.V_drewN | apply Kd.V_drew)); exact HL112_5.out) (Kd.N_base ho10) hb); have n7_ := Aside0.mk (Kd.V_elder' (by (with_reducible repeat (first | apply Kd.V_alloc | apply Kd.V_drewN | apply Kd.V_drew)); exact HL112_10.out) (Kd.N_base ho10) hb); have n8_ := Aside0.mk (Kd.V_elder' (by (with_reducible repeat (first | apply Kd.V_alloc | apply Kd.V_drewN | apply Kd.V_drew)); exact HL112_14.out) (Kd.N_base ho10) hb); have n9_ := Aside0.mk (Kd.V_elder' (by (with_reducible repeat (first | apply Kd.V_alloc | apply Kd.V_drewN | apply Kd.V_drew)); exact HL113_4.out) (Kd.N_base ho10) hb); have n10_ := Aside0.mk (Kd.V_elder' (by (with_reducible repeat (first | apply Kd.V_alloc | apply Kd.V_drewN | apply Kd.V_drew)); exact HL113_5.out) (Kd.N_base ho10) hb); have n11_ := Aside0.mk (Kd.V_elder' (by (with_reducible repeat (first | apply Kd.V_alloc | apply Kd.V_drewN | apply Kd.V_drew)); exact HL113_10.out) (Kd.N_base ho10) hb); have n12_ := Aside0.mk (Kd.V_elder' (by (with_reducible repeat (first | apply Kd.V_alloc | apply Kd.V_drewN | apply Kd.V_drew)); exact HL113_14.out) (Kd.N_base ho10) hb); have n13_ := Aside0.mk (Kd.N_lower ho10 (below_size (by repeat (first | (with_reducible first | exact HB.out | apply below_alloc | apply pw_below_drewN | apply below_drew1) | exact HB.out)))); have n14_ := Aside0.mk (Kd.C_below (by repeat (first | (with_reducible exact HR111_4.out) | (with_reducible refine Kd.C_alloc ?_ _) | (with_reducible refine Kd.C_drewN ?_ _) | (with_reducible refine Kd.C_drew ?_) | exact HR111_4.out)) hb); have n15_ := Aside0.mk (Kd.C_below (by repeat (first | (with_reducible exact HR111_5.out) | (with_reducible refine Kd.C_alloc ?_ _) | (with_reducible refine Kd.C_drewN ?_ _) | (with_reducible refine Kd.C_drew ?_) | exact HR111_5.out)) hb); have n16_ := Aside0.mk (Kd.C_below (by repeat (first | (with_reducible exact HR111_10.out) | (with_reducible refine Kd.C_alloc ?_ _) | (with_reducible refine Kd.C_drewN ?_ _) | (with_reducible refine Kd.C_drew ?_) | exact HR111_10.out)) hb); have n17_ := Aside0.mk (Kd.C_below (by repeat (first | (with_reducible exact HR111_14.out) | (with_reducible refine Kd.C_alloc ?_ _) | (with_reducible refine Kd.C_drewN ?_ _) | (with_reducible refine Kd.C_drew ?_) | exact HR111_14.out)) hb); have n18_ := Aside0.mk (Kd.C_below (by repeat (first | (with_reducible exact HR112_4.out) | (with_reducible refine Kd.C_alloc ?_ _) | (with_reducible refine Kd.C_drewN ?_ _) | (with_reducible refine Kd.C_drew ?_) | exact HR112_4.out)) hb); have n19_ := Aside0.mk (Kd.C_below (by repeat (first | (with_reducible exact HR112_5.out) | (with_reducible refine Kd.C_alloc ?_ _) | (with_reducible refine Kd.C_drewN ?_ _) | (with_reducible refine Kd.C_drew ?_) | exact HR112_5.out)) hb); have n20_ := Aside0.mk (Kd.C_below (by repeat (first | (with_reducible exact HR112_10.out) | (with_reducible refine Kd.C_alloc ?_ _) | (with_reducible refine Kd.C_drewN ?_ _) | (with_reducible refine Kd.C_drew ?_) | exact HR112_10.out)) hb); have n21_ := Aside0.mk (Kd.C_below (by repeat (first | (with_reducible exact HR112_14.out) | (with_reducible refine Kd.C_alloc ?_ _) | (with_reducible refine Kd.C_drewN ?_ _) | (with_reducible refine Kd.C_drew ?_) | exact HR112_14.out)) hb); have n22_ := Aside0.mk (Kd.C_below (by repeat (first | (with_reducible exact HR113_4.out) | (with_reducible refine Kd.C_alloc ?_ _) | (with_reducible refine Kd.C_drewN ?_ _) | (with_reducible refine Kd.C_drew ?_) | exact HR113_4.out)) hb); have n23_ := Aside0.mk (Kd.C_below (by repeat (first | (with_reducible exact HR113_5.out) | (with_reducible refine Kd.C_alloc ?_ _) | (with_reducible refine Kd.C_drewN ?_ _) | (with_reducible refine Kd.C_drew ?_) | exact HR113_5.out)) hb); have n24_ := Aside0.mk (Kd.C_below (by repeat (first | (with_reducible exact HR113_10.out) | (with_reducible refine Kd.C_alloc ?_ _) | (with_reducible refine Kd.C_drewN ?_ _) | (with_reducible refine Kd.C_drew ?_) | exact HR113_10.out)) hb); have n25_ := Aside0.mk (Kd.C_below (by repeat (first | (with_reducible exact HR113_14.out) | (with_reducible refine Kd.C_alloc ?_ _) | (with_reducible refine Kd.C_drewN ?_ _) | (with_reducible refine Kd.C_drew ?_) | exact HR113_14.out)) hb); have n26_ := Aside0.mk (below_step (by repeat (first | (with_reducible first | exact HB.out | apply below_alloc | apply pw_below_drewN | apply below_drew1) | exact HB.out)) hb); clear HO_0; clear HL111_4; clear HL111_5; clear HL111_10; clear HL111_14; clear HL112_4; clear HL112_5; clear HL112_10; clear HL112_14; clear HL113_4; clear HL113_5; clear HL113_10; clear HL113_14; clear HR111_4; clear HR111_5; clear HR111_10; clear HR111_14; clear HR112_4; clear HR112_5; clear HR112_10; clear HR112_14; clear HR113_4; clear HR113_5; clear HR113_10; clear HR113_14; clear HB; have HO_0 := n0_; have HL111_4 := n1_; have HL111_5 := n2_; have HL111_10 := n3_; have HL111_14 := n4_; have HL112_4 := n5_; have HL112_5 := n6_; have HL112_10 := n7_; have HL112_14 := n8_; have HL113_4 := n9_; have HL113_5 := n10_; have HL113_10 := n11_; have HL113_14 := n12_; have HO116 := n13_; have HR111_4 := n14_; have HR111_5 := n15_; have HR111_10 := n16_; have HR111_14 := n17_; have HR112_4 := n18_; have HR112_5 := n19_; have HR112_10 := n20_; have HR112_14 := n21_; have HR113_4 := n22_; have HR113_5 := n23_; have HR113_10 := n24_; have HR113_14 := n25_; have HB := n26_; clear n0_ n1_ n2_ n3_ n4_ n5_ n6_ n7_ n8_ n9_ n10_ n11_ n12_ n13_ n14_ n15_ n16_ n17_ n18_ n19_ n20_ n21_ n22_ n23_ n24_ n25_ n26_; clear hb ho10; obtain ⟨Ao11, co11, eo11⟩ := Kd.N_slice HO116.out; subst eo11) | (go_at_call 38; (with_reducible refine (wherrylaw17_Heavy.calls k1 _ _ y114 true _ ?side1 ?side2 A7.out).mono ?_); (case side1 => repeat (first | exact (Kd.N_reads' HO116.out).2.2 | (with_reducible refine Kd.C_alloc ?_ _) | (with_reducible refine Kd.C_drewN ?_ _) | (with_reducible refine Kd.C_drew ?_))); (case side2 => exact (Kd.N_reads' HO116.out).2.1); rintro e w' ⟨rfl, ⟨nd, rfl⟩⟩))
                  go_ret
                  exact ⟨by first | rfl | (simp [errW_none, errW_some] <;> rfl) | (simp [*, errW_none, errW_some] <;> rfl), by repeat (first | (with_reducible first | exact HB.out | apply below_alloc | apply pw_below_drewN | apply below_drew1) | exact HB.out)⟩
                · replace c8 := Bool.eq_false_iff.mpr c8
                  subst c8
                  have H1 : (wherrylaw18_Heavy.l0 k1 l0 (wrap64 (x3_1 + 1))) = some r := by rw [if_neg (show ¬ (false = true) by decide)] at H; exact H
                  clear H
                  have H := H1
                  clear H1
                  have H' := Aside0.mk H
                  clear H
                  have p111 : 0 ≤ (x3_1 : Int) := of_decide_eq_true (by first | (with_reducible assumption) | assumption)
                  have q111 : x3_1 < (l0.length : Int) := of_decide_eq_true (by first | (with_reducible assumption) | assumption)
                  obtain ⟨ad111, A111_4, c111_4, A111_5, c111_5, A111_10, c111_10, A111_14, c111_14, e111, hx111_0, hx111_1, hx111_2, hx111_3, hx111_4, hx111_5, hx111_6, hx111_7, hx111_8, hx111_9, hx111_10, hx111_11, hx111_12, hx111_13, hx111_14, hl111_4, hi111_4, hl111_5, hi111_5, hl111_10, hi111_10, hl111_14, hi111_14⟩ := at_T39 (Kd.V_reads' HO_0.out).2.2 x3_1 p111 q111
                  cases e111
                  obtain ⟨ce111, hce111, hMe111, hcc111⟩ := Kd.V_get HO_0.out z39 x3_1 p111 (by first | exact q111 | exact of_decide_eq_true (by first | (with_reducible assumption) | assumption) | (have e_ := (Kd.V_reads' HO_0.out).1; omega))
                  obtain ⟨ua111_4, uc111_4, ua111_5, uc111_5, ua111_10, uc111_10, ua111_14, uc111_14, rfl, ul111_4, ge111_4, ul111_5, ge111_5, ul111_10, ge111_10, ul111_14, ge111_14⟩ := k39_openF hMe111
                  have hv111_4 := hcc111 4 _ rfl
                  rw [add_field _ _ 4 (by omega)] at hv111_4
                  replace hv111_4 := Option.some.inj (hv111_4.symm.trans hx111_4)
                  injection hv111_4 with hva_ hvn_ hvc_
                  rw [hva_] at ge111_4
                  rw [hvc_] at ul111_4
                  have HL111_4 := Aside0.mk (show Kd.V k32 32 _ w.heap.size _ _ ((rd_T39 l0 x3_1).f1.f1) from Kd.V_mk ul111_4 ge111_4)
                  clear hva_ hvn_ hvc_ ge111_4 ul111_4
                  have hv111_5 := hcc111 5 _ rfl
                  rw [add_field _ _ 5 (by omega)] at hv111_5
                  replace hv111_5 := Option.some.inj (hv111_5.symm.trans hx111_5)
                  injection hv111_5 with hva_ hvn_ hvc_
                  rw [hva_] at ge111_5
                  rw [hvc_] at ul111_5
                  have HL111_5 := Aside0.mk (show Kd.V (Kd.int .u8) 5 _ w.heap.size _ _ ((rd_T39 l0 x3_1).f1.f2) from Kd.V_mk ul111_5 ge111_5)
                  clear hva_ hvn_ hvc_ ge111_5 ul111_5
                  have hv111_10 := hcc111 10 _ rfl
                  rw [add_field _ _ 10 (by omega)] at hv111_10
                  replace hv111_10 := Option.some.inj (hv111_10.symm.trans hx111_10)
                  injection hv111_10 with hva_ hvn_ hvc_
                  rw [hva_] at ge111_10
                  rw [hvc_] at ul111_10
                  have HL111_10 := Aside0.mk (show Kd.V (Kd.int .i64) 3 _ w.heap.size _ _ ((rd_T39 l0 x3_1).f3) from Kd.V_mk ul111_10 ge111_10)
                  clear hva_ hvn_ hvc_ ge111_10 ul111_10
                  have hv111_14 := hcc111 14 _ rfl
                  rw [add_field _ _ 14 (by omega)] at hv111_14
                  replace hv111_14 := Option.some.inj (hv111_14.symm.trans hx111_14)
                  injection hv111_14 with hva_ hvn_ hvc_
                  rw [hva_] at ge111_14
                  rw [hvc_] at ul111_14
                  have HL111_14 := Aside0.mk (show Kd.V (Kd.int .u8) 5 _ w.heap.size _ _ ((rd_T39 l0 x3_1).f7) from Kd.V_mk ul111_14 ge111_14)
                  clear hva_ hvn_ hvc_ ge111_14 ul111_14
                  clear hcc111 hce111
                  have HR111_4 := Aside0.mk hi111_4
                  have HC111_4 := Aside0.mk hl111_4
                  clear hi111_4 hl111_4
                  have HR111_5 := Aside0.mk hi111_5
                  have HC111_5 := Aside0.mk hl111_5
                  clear hi111_5 hl111_5
                  have HR111_10 := Aside0.mk hi111_10
                  have HC111_10 := Aside0.mk hl111_10
                  clear hi111_10 hl111_10
                  have HR111_14 := Aside0.mk hi111_14
                  have HC111_14 := Aside0.mk hl111_14
                  clear hi111_14 hl111_14
                  replace p111 := eq_true p111
                  replace q111 := eq_true q111
                  have p112 : 0 ≤ (x3_1 : Int) := of_decide_eq_true (by first | (with_reducible assumption) | assumption)
                  have q112 : x3_1 < (l0.length : Int) := of_decide_eq_true (by first | (with_reducible assumption) | assumption)
                  obtain ⟨ad112, A112_4, c112_4, A112_5, c112_5, A112_10, c112_10, A112_14, c112_14, e112, hx112_0, hx112_1, hx112_2, hx112_3, hx112_4, hx112_5, hx112_6, hx112_7, hx112_8, hx112_9, hx112_10, hx112_11, hx112_12, hx112_13, hx112_14, hl112_4, hi112_4, hl112_5, hi112_5, hl112_10, hi112_10, hl112_14, hi112_14⟩ := at_T39 (Kd.V_reads' HO_0.out).2.2 x3_1 p112 q112
                  obtain rfl : ad111 = ad112 := (by injection e112)
                  obtain ⟨ce112, hce112, hMe112, hcc112⟩ := Kd.V_get HO_0.out z39 x3_1 p112 (by first | exact q112 | exact of_decide_eq_true (by first | (with_reducible assumption) | assumption) | (have e_ := (Kd.V_reads' HO_0.out).1; omega))
                  obtain ⟨ua112_4, uc112_4, ua112_5, uc112_5, ua112_10, uc112_10, ua112_14, uc112_14, rfl, ul112_4, ge112_4, ul112_5, ge112_5, ul112_10, ge112_10, ul112_14, ge112_14⟩ := k39_openF hMe112
                  have hv112_4 := hcc112 4 _ rfl
                  rw [add_field _ _ 4 (by omega)] at hv112_4
                  replace hv112_4 := Option.some.inj (hv112_4.symm.trans hx112_4)
                  injection hv112_4 with hva_ hvn_ hvc_
                  rw [hva_] at ge112_4
                  rw [hvc_] at ul112_4
                  have HL112_4 := Aside0.mk (show Kd.V k32 32 _ w.heap.size _ _ ((rd_T39 l0 x3_1).f1.f1) from Kd.V_mk ul112_4 ge112_4)
                  clear hva_ hvn_ hvc_ ge112_4 ul112_4
                  have hv112_5 := hcc112 5 _ rfl
                  rw [add_field _ _ 5 (by omega)] at hv112_5
                  replace hv112_5 := Option.some.inj (hv112_5.symm.trans hx112_5)
                  injection hv112_5 with hva_ hvn_ hvc_
                  rw [hva_] at ge112_5
                  rw [hvc_] at ul112_5
                  have HL112_5 := Aside0.mk (show Kd.V (Kd.int .u8) 5 _ w.heap.size _ _ ((rd_T39 l0 x3_1).f1.f2) from Kd.V_mk ul112_5 ge112_5)
                  clear hva_ hvn_ hvc_ ge112_5 ul112_5
                  have hv112_10 := hcc112 10 _ rfl
                  rw [add_field _ _ 10 (by omega)] at hv112_10
                  replace hv112_10 := Option.some.inj (hv112_10.symm.trans hx112_10)
                  injection hv112_10 with hva_ hvn_ hvc_
                  rw [hva_] at ge112_10
                  rw [hvc_] at ul112_10
                  have HL112_10 := Aside0.mk (show Kd.V (Kd.int .i64) 3 _ w.heap.size _ _ ((rd_T39 l0 x3_1).f3) from Kd.V_mk ul112_10 ge112_10)
                  clear hva_ hvn_ hvc_ ge112_10 ul112_10
                  have hv112_14 := hcc112 14 _ rfl
                  rw [add_field _ _ 14 (by omega)] at hv112_14
                  replace hv112_14 := Option.some.inj (hv112_14.symm.trans hx112_14)
                  injection hv112_14 with hva_ hvn_ hvc_
                  rw [hva_] at ge112_14
                  rw [hvc_] at ul112_14
                  have HL112_14 := Aside0.mk (show Kd.V (Kd.int .u8) 5 _ w.heap.size _ _ ((rd_T39 l0 x3_1).f7) from Kd.V_mk ul112_14 ge112_14)
                  clear hva_ hvn_ hvc_ ge112_14 ul112_14
                  clear hcc112 hce112
                  have HR112_4 := Aside0.mk hi112_4
                  have HC112_4 := Aside0.mk hl112_4
                  clear hi112_4 hl112_4
                  have HR112_5 := Aside0.mk hi112_5
                  have HC112_5 := Aside0.mk hl112_5
                  clear hi112_5 hl112_5
                  have HR112_10 := Aside0.mk hi112_10
                  have HC112_10 := Aside0.mk hl112_10
                  clear hi112_10 hl112_10
                  have HR112_14 := Aside0.mk hi112_14
                  have HC112_14 := Aside0.mk hl112_14
                  clear hi112_14 hl112_14
                  replace p112 := eq_true p112
                  replace q112 := eq_true q112
                  have ea_ := Option.some.inj (hx111_4.symm.trans hx112_4)
                  injection ea_ with ea_ en_ ec_
                  subst ea_
                  subst ec_
                  clear en_
                  have ea_ := Option.some.inj (hx111_5.symm.trans hx112_5)
                  injection ea_ with ea_ en_ ec_
                  subst ea_
                  subst ec_
                  clear en_
                  have ea_ := Option.some.inj (hx111_10.symm.trans hx112_10)
                  injection ea_ with ea_ en_ ec_
                  subst ea_
                  subst ec_
                  clear en_
                  have ea_ := Option.some.inj (hx111_14.symm.trans hx112_14)
                  injection ea_ with ea_ en_ ec_
                  subst ea_
                  subst ec_
                  clear en_
                  have p113 : 0 ≤ (x3_1 : Int) := of_decide_eq_true (by first | (with_reducible assumption) | assumption)
                  have q113 : x3_1 < (l0.length : Int) := of_decide_eq_true (by first | (with_reducible assumption) | assumption)
                  obtain ⟨ad113, A113_4, c113_4, A113_5, c113_5, A113_10, c113_10, A113_14, c113_14, e113, hx113_0, hx113_1, hx113_2, hx113_3, hx113_4, hx113_5, hx113_6, hx113_7, hx113_8, hx113_9, hx113_10, hx113_11, hx113_12, hx113_13, hx113_14, hl113_4, hi113_4, hl113_5, hi113_5, hl113_10, hi113_10, hl113_14, hi113_14⟩ := at_T39 (Kd.V_reads' HO_0.out).2.2 x3_1 p113 q113
                  obtain rfl : ad111 = ad113 := (by injection e113)
                  obtain ⟨ce113, hce113, hMe113, hcc113⟩ := Kd.V_get HO_0.out z39 x3_1 p113 (by first | exact q113 | exact of_decide_eq_true (by first | (with_reducible assumption) | assumption) | (have e_ := (Kd.V_reads' HO_0.out).1; omega))
                  obtain ⟨ua113_4, uc113_4, ua113_5, uc113_5, ua113_10, uc113_10, ua113_14, uc113_14, rfl, ul113_4, ge113_4, ul113_5, ge113_5, ul113_10, ge113_10, ul113_14, ge113_14⟩ := k39_openF hMe113
                  have hv113_4 := hcc113 4 _ rfl
                  rw [add_field _ _ 4 (by omega)] at hv113_4
                  replace hv113_4 := Option.some.inj (hv113_4.symm.trans hx113_4)
                  injection hv113_4 with hva_ hvn_ hvc_
                  rw [hva_] at ge113_4
                  rw [hvc_] at ul113_4
                  have HL113_4 := Aside0.mk (show Kd.V k32 32 _ w.heap.size _ _ ((rd_T39 l0 x3_1).f1.f1) from Kd.V_mk ul113_4 ge113_4)
                  clear hva_ hvn_ hvc_ ge113_4 ul113_4
                  have hv113_5 := hcc113 5 _ rfl
                  rw [add_field _ _ 5 (by omega)] at hv113_5
                  replace hv113_5 := Option.some.inj (hv113_5.symm.trans hx113_5)
                  injection hv113_5 with hva_ hvn_ hvc_
                  rw [hva_] at ge113_5
                  rw [hvc_] at ul113_5
                  have HL113_5 := Aside0.mk (show Kd.V (Kd.int .u8) 5 _ w.heap.size _ _ ((rd_T39 l0 x3_1).f1.f2) from Kd.V_mk ul113_5 ge113_5)
                  clear hva_ hvn_ hvc_ ge113_5 ul113_5
                  have hv113_10 := hcc113 10 _ rfl
                  rw [add_field _ _ 10 (by omega)] at hv113_10
                  replace hv113_10 := Option.some.inj (hv113_10.symm.trans hx113_10)
                  injection hv113_10 with hva_ hvn_ hvc_
                  rw [hva_] at ge113_10
                  rw [hvc_] at ul113_10
                  have HL113_10 := Aside0.mk (show Kd.V (Kd.int .i64) 3 _ w.heap.size _ _ ((rd_T39 l0 x3_1).f3) from Kd.V_mk ul113_10 ge113_10)
                  clear hva_ hvn_ hvc_ ge113_10 ul113_10
                  have hv113_14 := hcc113 14 _ rfl
                  rw [add_field _ _ 14 (by omega)] at hv113_14
                  replace hv113_14 := Option.some.inj (hv113_14.symm.trans hx113_14)
                  injection hv113_14 with hva_ hvn_ hvc_
                  rw [hva_] at ge113_14
                  rw [hvc_] at ul113_14
                  have HL113_14 := Aside0.mk (show Kd.V (Kd.int .u8) 5 _ w.heap.size _ _ ((rd_T39 l0 x3_1).f7) from Kd.V_mk ul113_14 ge113_14)
                  clear hva_ hvn_ hvc_ ge113_14 ul113_14
                  clear hcc113 hce113
                  have HR113_4 := Aside0.mk hi113_4
                  have HC113_4 := Aside0.mk hl113_4
                  clear hi113_4 hl113_4
                  have HR113_5 := Aside0.mk hi113_5
                  have HC113_5 := Aside0.mk hl113_5
                  clear hi113_5 hl113_5
                  have HR113_10 := Aside0.mk hi113_10
                  have HC113_10 := Aside0.mk hl113_10
                  clear hi113_10 hl113_10
                  have HR113_14 := Aside0.mk hi113_14
                  have HC113_14 := Aside0.mk hl113_14
                  clear hi113_14 hl113_14
                  replace p113 := eq_true p113
                  replace q113 := eq_true q113
                  have ea_ := Option.some.inj (hx111_4.symm.trans hx113_4)
                  injection ea_ with ea_ en_ ec_
                  subst ea_
                  subst ec_
                  clear en_
                  have ea_ := Option.some.inj (hx111_5.symm.trans hx113_5)
                  injection ea_ with ea_ en_ ec_
                  subst ea_
                  subst ec_
                  clear en_
                  have ea_ := Option.some.inj (hx111_10.symm.trans hx113_10)
                  injection ea_ with ea_ en_ ec_
                  subst ea_
                  subst ec_
                  clear en_
                  have ea_ := Option.some.inj (hx111_14.symm.trans hx113_14)
                  injection ea_ with ea_ en_ ec_
                  subst ea_
                  subst ec_
                  clear en_
                  go_wp2_with (first | ((with_reducible refine gate_dst (N := 35) rfl ?_); (try (refine gate_guard (by rfl) ?_; dsimp only)); refine Kd.N_lit k36 _ 36 ?hg (N' := 35) ?hd (xs := ([(⟨(⟨(rd_T39 l0 x3_1).f1.f0.f0, (rd_T39 l0 x3_1).f1.f0.f1, (rd_T39 l0 x3_1).f1.f0.f2⟩ : S32), (rd_T39 l0 x3_1).f1.f1, (rd_T39 l0 x3_1).f1.f2, (rd_T39 l0 x3_1).f1.f3, (rd_T39 l0 x3_1).f1.f4, (rd_T39 l0 x3_1).f1.f5⟩ : S36)] : List (S36))) (inner := [.bool ((rd_T39 l0 x3_1).f1.f0.f0), .string ((rd_T39 l0 x3_1).f1.f0.f1), .string ((rd_T39 l0 x3_1).f1.f0.f2), .slice A111_4 ((rd_T39 l0 x3_1).f1.f1).length c111_4, .slice A111_5 ((rd_T39 l0 x3_1).f1.f2).length c111_5, .bool ((rd_T39 l0 x3_1).f1.f3), .string ((rd_T39 l0 x3_1).f1.f4), .int .i64 ((rd_T39 l0 x3_1).f1.f5)]) (ok := (fun k_ => (P0_ k_ ∨ w.heap.size ≤ k_))) (okp := (fun k_ => (P0_ k_ ∨ w.heap.size ≤ k_))) ?hr ?hp (fun _ hk => hk) ((show ∀ k_, wr.heap.size ≤ k_ → (fun k_ => (P0_ k_ ∨ w.heap.size ≤ k_)) k_ from fun k_ hk => (.inr (Nat.le_trans (below_size (by repeat (first | (with_reducible first | exact HB.out | apply below_alloc | apply pw_below_drewN | apply below_drew1) | exact HB.out))) hk))) _ (Nat.le_refl _)) (Below.refl _ _) (Nat.le_refl _) (by simp) ?_; (case hd => rfl); (case hg => rfl); (case hr => first | (go_simp; done) | (go_simp; rfl)); (case hp => exact (Reps.c8 (show Kd.FK k36 _ _ (⟨(⟨(rd_T39 l0 x3_1).f1.f0.f0, (rd_T39 l0 x3_1).f1.f0.f1, (rd_T39 l0 x3_1).f1.f0.f2⟩ : S32), (rd_T39 l0 x3_1).f1.f1, (rd_T39 l0 x3_1).f1.f2, (rd_T39 l0 x3_1).f1.f3, (rd_T39 l0 x3_1).f1.f4, (rd_T39 l0 x3_1).f1.f5⟩ : S36) [.bool ((rd_T39 l0 x3_1).f1.f0.f0), .string ((rd_T39 l0 x3_1).f1.f0.f1), .string ((rd_T39 l0 x3_1).f1.f0.f2), .slice A111_4 ((rd_T39 l0 x3_1).f1.f1).length c111_4, .slice A111_5 ((rd_T39 l0 x3_1).f1.f2).length c111_5, .bool ((rd_T39 l0 x3_1).f1.f3), .string ((rd_T39 l0 x3_1).f1.f4), .int .i64 ((rd_T39 l0 x3_1).f1.f5)] from (k36_mkF _ _ (⟨(⟨(rd_T39 l0 x3_1).f1.f0.f0, (rd_T39 l0 x3_1).f1.f0.f1, (rd_T39 l0 x3_1).f1.f0.f2⟩ : S32), (rd_T39 l0 x3_1).f1.f1, (rd_T39 l0 x3_1).f1.f2, (rd_T39 l0 x3_1).f1.f3, (rd_T39 l0 x3_1).f1.f4, (rd_T39 l0 x3_1).f1.f5⟩ : S36) (Kd.V_reads' (Kd.V_mono (ok' := (fun k_ => (P0_ k_ ∨ w.heap.size ≤ k_))) (HL113_4.out) (fun k_ hk => hk))).2.1 (Kd.V_F (Kd.V_mono (ok' := (fun k_ => (P0_ k_ ∨ w.heap.size ≤ k_))) (HL113_4.out) (fun k_ hk => hk))) (Kd.V_reads' (Kd.V_mono (ok' := (fun k_ => (P0_ k_ ∨ w.heap.size ≤ k_))) (HL113_5.out) (fun k_ hk => hk))).2.1 (Kd.V_F (Kd.V_mono (ok' := (fun k_ => (P0_ k_ ∨ w.heap.size ≤ k_))) (HL113_5.out) (fun k_ hk => hk))))) (Reps.none _ _))); intro v115 w12 ho13 hb hg_ hnew_; clear hg_ hnew_; (first | rw [← Ny114.out] at ho13 | (simp only [Int.reduceToNat] at ho13; rw [← Ny114.out] at ho13)); have n0_ := Aside0.mk (Kd.V_elder' (by (with_reducible repeat (first | apply Kd.V_alloc | apply Kd.V_drewN | apply Kd.V_drew)); exact HO_0.out) (Kd.N_base ho13) hb); have n1_ := Aside0.mk (Kd.V_elder' (by (with_reducible repeat (first | apply Kd.V_alloc | apply Kd.V_drewN | apply Kd.V_drew)); exact HL111_4.out) (Kd.N_base ho13) hb); have n2_ := Aside0.mk (Kd.V_elder' (by (with_reducible repeat (first | apply Kd.V_alloc | apply Kd.V_drewN | apply Kd.V_drew)); exact HL111_5.out) (Kd.N_base ho13) hb); have n3_ := Aside0.mk (Kd.V_elder' (by (with_reducible repeat (first | apply Kd.V_alloc | apply Kd.V_drewN | apply Kd.V_drew)); exact HL111_10.out) (Kd.N_base ho13) hb); have n4_ := Aside0.mk (Kd.V_elder' (by (with_reducible repeat (first | apply Kd.V_alloc | apply Kd.V_drewN | apply Kd.V_drew)); exact HL111_14.out) (Kd.N_base ho13) hb); have n5_ := Aside0.mk (Kd.V_elder' (by (with_reducible repeat (first | apply Kd.V_alloc | apply Kd.V_drewN | apply Kd.V_drew)); exact HL112_4.out) (Kd.N_base ho13) hb); have n6_ := Aside0.mk (Kd.V_elder' (by (with_reducible repeat (first | apply Kd.V_alloc | apply Kd.V_drewN | apply Kd.V_drew)); exact HL112_5.out) (Kd.N_base ho13) hb); have n7_ := Aside0.mk (Kd.V_elder' (by (with_reducible repeat (first | apply Kd.V_alloc | apply Kd.V_drewN | apply Kd.V_drew)); exact HL112_10.out) (Kd.N_base ho13) hb); have n8_ := Aside0.mk (Kd.V_elder' (by (with_reducible repeat (first | apply Kd.V_alloc | apply Kd.V_drewN | apply Kd.V_drew)); exact HL112_14.out) (Kd.N_base ho13) hb); have n9_ := Aside0.mk (Kd.V_elder' (by (with_reducible repeat (first | apply Kd.V_alloc | apply Kd.V_drewN | apply Kd.V_drew)); exact HL113_4.out) (Kd.N_base ho13) hb); have n10_ := Aside0.mk (Kd.V_elder' (by (with_reducible repeat (first | apply Kd.V_alloc | apply Kd.V_drewN | apply Kd.V_drew)); exact HL113_5.out) (Kd.N_base ho13) hb); have n11_ := Aside0.mk (Kd.V_elder' (by (with_reducible repeat (first | apply Kd.V_alloc | apply Kd.V_drewN | apply Kd.V_drew)); exact HL113_10.out) (Kd.N_base ho13) hb); have n12_ := Aside0.mk (Kd.V_elder' (by (with_reducible repeat (first | apply Kd.V_alloc | apply Kd.V_drewN | apply Kd.V_drew)); exact HL113_14.out) (Kd.N_base ho13) hb); have n13_ := Aside0.mk (Kd.N_lower ho13 (below_size (by repeat (first | (with_reducible first | exact HB.out | apply below_alloc | apply pw_below_drewN | apply below_drew1) | exact HB.out)))); have n14_ := Aside0.mk (Kd.C_below (by repeat (first | (with_reducible exact HR111_4.out) | (with_reducible refine Kd.C_alloc ?_ _) | (with_reducible refine Kd.C_drewN ?_ _) | (with_reducible refine Kd.C_drew ?_) | exact HR111_4.out)) hb); have n15_ := Aside0.mk (Kd.C_below (by repeat (first | (with_reducible exact HR111_5.out) | (with_reducible refine Kd.C_alloc ?_ _) | (with_reducible refine Kd.C_drewN ?_ _) | (with_reducible refine Kd.C_drew ?_) | exact HR111_5.out)) hb); have n16_ := Aside0.mk (Kd.C_below (by repeat (first | (with_reducible exact HR111_10.out) | (with_reducible refine Kd.C_alloc ?_ _) | (with_reducible refine Kd.C_drewN ?_ _) | (with_reducible refine Kd.C_drew ?_) | exact HR111_10.out)) hb); have n17_ := Aside0.mk (Kd.C_below (by repeat (first | (with_reducible exact HR111_14.out) | (with_reducible refine Kd.C_alloc ?_ _) | (with_reducible refine Kd.C_drewN ?_ _) | (with_reducible refine Kd.C_drew ?_) | exact HR111_14.out)) hb); have n18_ := Aside0.mk (Kd.C_below (by repeat (first | (with_reducible exact HR112_4.out) | (with_reducible refine Kd.C_alloc ?_ _) | (with_reducible refine Kd.C_drewN ?_ _) | (with_reducible refine Kd.C_drew ?_) | exact HR112_4.out)) hb); have n19_ := Aside0.mk (Kd.C_below (by repeat (first | (with_reducible exact HR112_5.out) | (with_reducible refine Kd.C_alloc ?_ _) | (with_reducible refine Kd.C_drewN ?_ _) | (with_reducible refine Kd.C_drew ?_) | exact HR112_5.out)) hb); have n20_ := Aside0.mk (Kd.C_below (by repeat (first | (with_reducible exact HR112_10.out) | (with_reducible refine Kd.C_alloc ?_ _) | (with_reducible refine Kd.C_drewN ?_ _) | (with_reducible refine Kd.C_drew ?_) | exact HR112_10.out)) hb); have n21_ := Aside0.mk (Kd.C_below (by repeat (first | (with_reducible exact HR112_14.out) | (with_reducible refine Kd.C_alloc ?_ _) | (with_reducible refine Kd.C_drewN ?_ _) | (with_reducible refine Kd.C_drew ?_) | exact HR112_14.out)) hb); have n22_ := Aside0.mk (Kd.C_below (by repeat (first | (with_reducible exact HR113_4.out) | (with_reducible refine Kd.C_alloc ?_ _) | (with_reducible refine Kd.C_drewN ?_ _) | (with_reducible refine Kd.C_drew ?_) | exact HR113_4.out)) hb); have n23_ := Aside0.mk (Kd.C_below (by repeat (first | (with_reducible exact HR113_5.out) | (with_reducible refine Kd.C_alloc ?_ _) | (with_reducible refine Kd.C_drewN ?_ _) | (with_reducible refine Kd.C_drew ?_) | exact HR113_5.out)) hb); have n24_ := Aside0.mk (Kd.C_below (by repeat (first | (with_reducible exact HR113_10.out) | (with_reducible refine Kd.C_alloc ?_ _) | (with_reducible refine Kd.C_drewN ?_ _) | (with_reducible refine Kd.C_drew ?_) | exact HR113_10.out)) hb); have n25_ := Aside0.mk (Kd.C_below (by repeat (first | (with_reducible exact HR113_14.out) | (with_reducible refine Kd.C_alloc ?_ _) | (with_reducible refine Kd.C_drewN ?_ _) | (with_reducible refine Kd.C_drew ?_) | exact HR113_14.out)) hb); have n26_ := Aside0.mk (below_step (by repeat (first | (with_reducible first | exact HB.out | apply below_alloc | apply pw_below_drewN | apply below_drew1) | exact HB.out)) hb); clear HO_0; clear HL111_4; clear HL111_5; clear HL111_10; clear HL111_14; clear HL112_4; clear HL112_5; clear HL112_10; clear HL112_14; clear HL113_4; clear HL113_5; clear HL113_10; clear HL113_14; clear HR111_4; clear HR111_5; clear HR111_10; clear HR111_14; clear HR112_4; clear HR112_5; clear HR112_10; clear HR112_14; clear HR113_4; clear HR113_5; clear HR113_10; clear HR113_14; clear HB; have HO_0 := n0_; have HL111_4 := n1_; have HL111_5 := n2_; have HL111_10 := n3_; have HL111_14 := n4_; have HL112_4 := n5_; have HL112_5 := n6_; have HL112_10 := n7_; have HL112_14 := n8_; have HL113_4 := n9_; have HL113_5 := n10_; have HL113_10 := n11_; have HL113_14 := n12_; have HO116 := n13_; have HR111_4 := n14_; have HR111_5 := n15_; have HR111_10 := n16_; have HR111_14 := n17_; have HR112_4 := n18_; have HR112_5 := n19_; have HR112_10 := n20_; have HR112_14 := n21_; have HR113_4 := n22_; have HR113_5 := n23_; have HR113_10 := n24_; have HR113_14 := n25_; have HB := n26_; clear n0_ n1_ n2_ n3_ n4_ n5_ n6_ n7_ n8_ n9_ n10_ n11_ n12_ n13_ n14_ n15_ n16_ n17_ n18_ n19_ n20_ n21_ n22_ n23_ n24_ n25_ n26_; clear hb ho13; obtain ⟨Ao14, co14, eo14⟩ := Kd.N_slice HO116.out; subst eo14) | (go_at_call 38; (with_reducible refine (wherrylaw17_Heavy.calls k1 _ _ y114 false _ ?side1 ?side2 A7.out).mono ?_); (case side1 => repeat (first | exact (Kd.N_reads' HO116.out).2.2 | (with_reducible refine Kd.C_alloc ?_ _) | (with_reducible refine Kd.C_drewN ?_ _) | (with_reducible refine Kd.C_drew ?_))); (case side2 => exact (Kd.N_reads' HO116.out).2.1); rintro e w' ⟨rfl, ⟨nd, rfl⟩⟩))
                  go_roundg k1
                  case measure => have := HK1.out; omega
                  case rel => exact ⟨(wrap64 (x3_1 + 1)), (by first | rfl | (simp; done) | (simp [*]; done)), H', ⟨by have := HK1.out; omega⟩, ⟨by (with_reducible repeat (first | apply Kd.V_alloc | apply Kd.V_drewN | apply Kd.V_drew)); exact Kd.V_mono HO_0.out (fun _ hk => hk.1)⟩, ⟨by repeat (first | (with_reducible first | exact HB.out | apply below_alloc | apply pw_below_drewN | apply below_drew1) | exact HB.out)⟩⟩
          · rw [if_neg c4] at H
            exact absurd H (by simp)
        · rw [if_neg c3] at H
          have c3b0 : decide (x3_1 < (l0.length : Int)) = false := decide_eq_false c3
          clear c3
          obtain rfl := Option.some.inj H
          go_wp2
          go_ret
          exact ⟨by first | rfl | (simp [errW_none, errW_some] <;> rfl) | (simp [*, errW_none, errW_some] <;> rfl), by repeat (first | (with_reducible first | exact HB.out | apply below_alloc | apply pw_below_drewN | apply below_drew1) | exact HB.out)⟩

-- NOT PRINTED: function 11 (diary_New)

/-- A state of type 66 at block g of W; what its slices lead to came in by w0. -/
def IsS66 (w0 W : World) (g : Nat) (f0 : Int) (f1 : List (S39)) (f2 : Int) (f3 : Bool) (f4 : Int) (f5 : Int) (f6 : Int) (f7 : Int) : Prop := ∃ A1 c1, W.heap[g]? = some (.cells #[.int .i64 f0, .slice A1 f1.length c1, .int .i64 f2, .bool f3, .int .i64 f4, .int .i64 f5, .int .i64 f6, .int .i64 f7] 66 (0, 0)) ∧ w0.heap.size ≤ g ∧ Kd.C k39 w0 A1 f1.length f1
theorem IsS66.grown {w0 W : World} {g : Nat} {f0 : Int} {f1 : List (S39)} {f2 : Int} {f3 : Bool} {f4 : Int} {f5 : Int} {f6 : Int} {f7 : Int} {W1 : World} {row : Option Nat} (h : IsS66 w0 W g f0 f1 f2 f3 f4 f5 f6 f7) (hw : W.grownBy W1 row) (hne : some g ≠ row) : IsS66 w0 W1 g f0 f1 f2 f3 f4 f5 f6 f7 := by
  obtain ⟨A1, c1, hb, hg, hr1⟩ := h
  exact ⟨A1, c1, blk_grown hb hw hne, hg, hr1⟩
theorem IsS66.kept {w0 W : World} {g : Nat} {f0 : Int} {f1 : List (S39)} {f2 : Int} {f3 : Bool} {f4 : Int} {f5 : Int} {f6 : Int} {f7 : Int} {W1 : World} {S : Nat → Prop} (h : IsS66 w0 W g f0 f1 f2 f3 f4 f5 f6 f7) (hk : Kept W W1 S) (hne : ¬ S g) : IsS66 w0 W1 g f0 f1 f2 f3 f4 f5 f6 f7 := by
  obtain ⟨A1, c1, hb, hg, hr1⟩ := h
  exact ⟨A1, c1, blk_kept hb hk hne, hg, hr1⟩
theorem IsS66.below {w0 W : World} {g : Nat} {f0 : Int} {f1 : List (S39)} {f2 : Int} {f3 : Bool} {f4 : Int} {f5 : Int} {f6 : Int} {f7 : Int} {W1 : World} (h : IsS66 w0 W g f0 f1 f2 f3 f4 f5 f6 f7) (hw : Below W.heap.size W W1) : IsS66 w0 W1 g f0 f1 f2 f3 f4 f5 f6 f7 := h.grown (grown_of_below hw none) (by simp)
theorem IsS66.alloc {w0 W : World} {g : Nat} {f0 : Int} {f1 : List (S39)} {f2 : Int} {f3 : Bool} {f4 : Int} {f5 : Int} {f6 : Int} {f7 : Int} (h : IsS66 w0 W g f0 f1 f2 f3 f4 f5 f6 f7) (o : Obj) : IsS66 w0 (W.alloc o) g f0 f1 f2 f3 f4 f5 f6 f7 := h.below (below_alloc (Below.refl _ _) o)
theorem IsS66.drewN {w0 W : World} {g : Nat} {f0 : Int} {f1 : List (S39)} {f2 : Int} {f3 : Bool} {f4 : Int} {f5 : Int} {f6 : Int} {f7 : Int} (h : IsS66 w0 W g f0 f1 f2 f3 f4 f5 f6 f7) (m : Nat) : IsS66 w0 (W.drewN m) g f0 f1 f2 f3 f4 f5 f6 f7 := h
theorem IsS66.drew {w0 W : World} {g : Nat} {f0 : Int} {f1 : List (S39)} {f2 : Int} {f3 : Bool} {f4 : Int} {f5 : Int} {f6 : Int} {f7 : Int} (h : IsS66 w0 W g f0 f1 f2 f3 f4 f5 f6 f7) : IsS66 w0 W.drew g f0 f1 f2 f3 f4 f5 f6 f7 := h
theorem IsS66.at_ {w0 W : World} {g : Nat} {f0 : Int} {f1 : List (S39)} {f2 : Int} {f3 : Bool} {f4 : Int} {f5 : Int} {f6 : Int} {f7 : Int} {w' : World} {m : Nat} (hq : W.drewN m = w') (h : IsS66 w0 W g f0 f1 f2 f3 f4 f5 f6 f7) : IsS66 w0 w' g f0 f1 f2 f3 f4 f5 f6 f7 := by subst hq; exact IsS66.drewN h m
theorem IsS66.apart {w0 W : World} {g : Nat} {f0 : Int} {f1 : List (S39)} {f2 : Int} {f3 : Bool} {f4 : Int} {f5 : Int} {f6 : Int} {f7 : Int} {α : Type} {d : Kd α} {e : Nat} {base : Nat} {ok : Nat → Prop} {v : Value} {xs : List α} (h : IsS66 w0 W g f0 f1 f2 f3 f4 f5 f6 f7) (ho : d.R e W base ok v xs) (ht : ∀ q, q ∈ e :: d.E → q ≠ 66) : d.R e W base (fun k => ok k ∧ k ≠ g) v xs := by
  obtain ⟨A1, c1, hb, hg, hr1⟩ := h
  exact Kd.R_types ho hb ht
theorem IsS66.own_ne {w0 W : World} {g : Nat} {f0 : Int} {f1 : List (S39)} {f2 : Int} {f3 : Bool} {f4 : Int} {f5 : Int} {f6 : Int} {f7 : Int} {α : Type} {d : Kd α} {e : Nat} {base : Nat} {ok : Nat → Prop} {v : Value} {xs : List α} (h : IsS66 w0 W g f0 f1 f2 f3 f4 f5 f6 f7) (ho : d.R e W base ok v xs) (ht : e ≠ 66) : some g ≠ v.ownBlock := by
  obtain ⟨A1, c1, hb, hg, hr1⟩ := h
  exact Kd.R_ne ho hb ht
theorem IsS66.lt {w0 W : World} {g : Nat} {f0 : Int} {f1 : List (S39)} {f2 : Int} {f3 : Bool} {f4 : Int} {f5 : Int} {f6 : Int} {f7 : Int} (h : IsS66 w0 W g f0 f1 f2 f3 f4 f5 f6 f7) : g < W.heap.size := by
  obtain ⟨A1, c1, hb, hg, hr1⟩ := h
  exact blk_lt hb
theorem IsS66.far {w0 W : World} {g : Nat} {f0 : Int} {f1 : List (S39)} {f2 : Int} {f3 : Bool} {f4 : Int} {f5 : Int} {f6 : Int} {f7 : Int} {p : Addr} (h : IsS66 w0 W g f0 f1 f2 f3 f4 f5 f6 f7) (hne : g ≠ p.block) (u : Value) : IsS66 w0 (W.setCell p u) g f0 f1 f2 f3 f4 f5 f6 f7 := by
  obtain ⟨A1, c1, hb, hg, hr1⟩ := h
  exact ⟨A1, c1, blk_far hb hne u, hg, hr1⟩
theorem IsS66.new (w0 W : World) (A1 : Option Addr) (c1 : Nat) (f0 : Int) (f1 : List (S39)) (f2 : Int) (f3 : Bool) (f4 : Int) (f5 : Int) (f6 : Int) (f7 : Int) (hB : Below w0.heap.size w0 W) (hr1 : Kd.C k39 w0 A1 f1.length f1) : IsS66 w0 (W.alloc (.cells #[.int .i64 f0, .slice A1 f1.length c1, .int .i64 f2, .bool f3, .int .i64 f4, .int .i64 f5, .int .i64 f6, .int .i64 f7] 66)) W.heap.size f0 f1 f2 f3 f4 f5 f6 f7 := ⟨A1, c1, by simpa using heap_alloc_new W _, hB.size, hr1⟩

def diary_Diary_Trip.f (s0_0 : Int) (s0_1 : List (S39)) (s0_2 : Int) (s0_3 : Bool) (s0_4 : Int) (s0_5 : Int) (s0_6 : Int) (s0_7 : Int) (a1 : Int) (a2 : Int) : Option (Int × Int × Bool × Int × Int × Int × Int) := some (s0_0, s0_2, s0_3, s0_4, mx a1 0, a2, s0_7)
def diary_Room.f (a0_0 : Int) (a0_1 : Bool) (a0_2 : ByteArray) (a0_3 : ByteArray) (l0_4 : List (S32)) (l0_5 : List Int) (a0_6 : Bool) (a0_7 : ByteArray) (a0_8 : Int) (a0_9 : Int) (l0_10 : List Int) (a0_11 : Int) (a0_12 : Int) (a0_13 : Int) (l0_14 : List Int) : Option (Int) := some (wrap64 ((wrap64 ((wrap64 ((wrap64 ((wrap64 (24 + (l0_14.length : Int))) + (l0_5.length : Int))) + (a0_7.size : Int))) + (wrap64 (80 * (wrap64 (1 + (l0_4.length : Int))))))) + (wrap64 (8 * (l0_10.length : Int)))))
set_option maxHeartbeats 8000000 in
set_option maxRecDepth 100000 in
theorem diary_Room.calls (a0_0 : Int) (a0_1 : Bool) (a0_2 : ByteArray) (a0_3 : ByteArray) (A0_4 : Option Addr) (c0_4 : Nat) (l0_4 : List (S32)) (A0_5 : Option Addr) (c0_5 : Nat) (l0_5 : List Int) (a0_6 : Bool) (a0_7 : ByteArray) (a0_8 : Int) (a0_9 : Int) (A0_10 : Option Addr) (c0_10 : Nat) (l0_10 : List Int) (a0_11 : Int) (a0_12 : Int) (a0_13 : Int) (A0_14 : Option Addr) (c0_14 : Nat) (l0_14 : List Int) (r : Int) (w : World) (hr0_4 : Kd.C k32 w A0_4 l0_4.length l0_4) (hc0_4 : l0_4.length ≤ c0_4) (hr0_5 : Kd.C (Kd.int .u8) w A0_5 l0_5.length l0_5) (hc0_5 : l0_5.length ≤ c0_5) (hr0_10 : Kd.C (Kd.int .i64) w A0_10 l0_10.length l0_10) (hc0_10 : l0_10.length ≤ c0_10) (hr0_14 : Kd.C (Kd.int .u8) w A0_14 l0_14.length l0_14) (hc0_14 : l0_14.length ≤ c0_14) (h : diary_Room.f a0_0 a0_1 a0_2 a0_3 l0_4 l0_5 a0_6 a0_7 a0_8 a0_9 l0_10 a0_11 a0_12 a0_13 l0_14 = some r) :
    Calls Try.prog 21 #[.agg #[.int .i64 a0_0, .bool a0_1, .string a0_2, .string a0_3, .slice A0_4 l0_4.length c0_4, .slice A0_5 l0_5.length c0_5, .bool a0_6, .string a0_7, .int .i64 a0_8, .int .i64 a0_9, .slice A0_10 l0_10.length c0_10, .int .i64 a0_11, .int .i64 a0_12, .int .i64 a0_13, .slice A0_14 l0_14.length c0_14]] w fun e w' => e = .returned (.int .i64 r) ∧ Below w.heap.size w w' := by
  have hu39 := Try.underlying39
  have HR0_4 := Aside0.mk hr0_4
  have HC0_4 := Aside0.mk hc0_4
  clear hr0_4 hc0_4
  have HR0_5 := Aside0.mk hr0_5
  have HC0_5 := Aside0.mk hc0_5
  clear hr0_5 hc0_5
  have HR0_10 := Aside0.mk hr0_10
  have HC0_10 := Aside0.mk hc0_10
  clear hr0_10 hc0_10
  have HR0_14 := Aside0.mk hr0_14
  have HC0_14 := Aside0.mk hc0_14
  clear hr0_14 hc0_14
  have HB := Aside0.mk (Below.refl w.heap.size w)
  have H : (some (wrap64 ((wrap64 ((wrap64 ((wrap64 ((wrap64 (24 + (l0_14.length : Int))) + (l0_5.length : Int))) + (a0_7.size : Int))) + (wrap64 (80 * (wrap64 (1 + (l0_4.length : Int))))))) + (wrap64 (8 * (l0_10.length : Int)))))) = some r := h
  clear h
  obtain rfl := Option.some.inj H
  go_enter Try.func21, Try.ntmps21
  go_wp2_with (first | ((with_reducible refine gate_dst (N := 1) rfl ?_); refine box_event ?hg (N := 1) ?hd (cs := #[.int .i64 a0_0, .bool a0_1, .string a0_2, .string a0_3, .slice A0_4 l0_4.length c0_4, .slice A0_5 l0_5.length c0_5, .bool a0_6, .string a0_7, .int .i64 a0_8, .int .i64 a0_9, .slice A0_10 l0_10.length c0_10, .int .i64 a0_11, .int .i64 a0_12, .int .i64 a0_13, .slice A0_14 l0_14.length c0_14]) (t := 39) ?hr ?_; (case hd => rfl); (case hg => rfl); (case hr => first | (go_simp; done) | (go_simp; rfl)); intro gb118 hg w2 hbox hb; have n0_ := Aside0.mk (below_step (by repeat (first | (with_reducible first | exact HB.out | apply below_alloc | apply pw_below_drewN | apply below_drew1) | exact HB.out)) hb); have n1_ := Aside0.mk (hbox); have n2_ := Aside0.mk ((by rw [hg]; exact (below_size (by repeat (first | (with_reducible first | exact HB.out | apply below_alloc | apply pw_below_drewN | apply below_drew1) | exact HB.out))) : w.heap.size ≤ gb118)); have n3_ := Aside0.mk ((by rw [hg]; exact (below_size (by repeat (first | (with_reducible first | exact HB.out | apply below_alloc | apply pw_below_drewN | apply below_drew1) | exact HB.out))) : w.heap.size ≤ gb118)); clear HB; have HB := n0_; have BK118 := n1_; have GW118 := n2_; have GE118 := n3_; clear n0_ n1_ n2_ n3_; clear hb hbox hg; have hcz3_0 : w2.cell? ⟨gb118, 0, none⟩ = some (.int .i64 a0_0) := (blk_cell BK118.out 0).trans rfl; have hcz3_1 : w2.cell? ⟨gb118, 1, none⟩ = some (.bool a0_1) := (blk_cell BK118.out 1).trans rfl; have hcz3_2 : w2.cell? ⟨gb118, 2, none⟩ = some (.string a0_2) := (blk_cell BK118.out 2).trans rfl; have hcz3_3 : w2.cell? ⟨gb118, 3, none⟩ = some (.string a0_3) := (blk_cell BK118.out 3).trans rfl; have hcz3_4 : w2.cell? ⟨gb118, 4, none⟩ = some (.slice A0_4 l0_4.length c0_4) := (blk_cell BK118.out 4).trans rfl; have hcz3_5 : w2.cell? ⟨gb118, 5, none⟩ = some (.slice A0_5 l0_5.length c0_5) := (blk_cell BK118.out 5).trans rfl; have hcz3_6 : w2.cell? ⟨gb118, 6, none⟩ = some (.bool a0_6) := (blk_cell BK118.out 6).trans rfl; have hcz3_7 : w2.cell? ⟨gb118, 7, none⟩ = some (.string a0_7) := (blk_cell BK118.out 7).trans rfl; have hcz3_8 : w2.cell? ⟨gb118, 8, none⟩ = some (.int .i64 a0_8) := (blk_cell BK118.out 8).trans rfl; have hcz3_9 : w2.cell? ⟨gb118, 9, none⟩ = some (.int .i64 a0_9) := (blk_cell BK118.out 9).trans rfl; have hcz3_10 : w2.cell? ⟨gb118, 10, none⟩ = some (.slice A0_10 l0_10.length c0_10) := (blk_cell BK118.out 10).trans rfl; have hcz3_11 : w2.cell? ⟨gb118, 11, none⟩ = some (.int .i64 a0_11) := (blk_cell BK118.out 11).trans rfl; have hcz3_12 : w2.cell? ⟨gb118, 12, none⟩ = some (.int .i64 a0_12) := (blk_cell BK118.out 12).trans rfl; have hcz3_13 : w2.cell? ⟨gb118, 13, none⟩ = some (.int .i64 a0_13) := (blk_cell BK118.out 13).trans rfl; have hcz3_14 : w2.cell? ⟨gb118, 14, none⟩ = some (.slice A0_14 l0_14.length c0_14) := (blk_cell BK118.out 14).trans rfl; have hfz3_0 := blk_frozen BK118.out 0; have hfz3_1 := blk_frozen BK118.out 1; have hfz3_2 := blk_frozen BK118.out 2; have hfz3_3 := blk_frozen BK118.out 3; have hfz3_4 := blk_frozen BK118.out 4; have hfz3_5 := blk_frozen BK118.out 5; have hfz3_6 := blk_frozen BK118.out 6; have hfz3_7 := blk_frozen BK118.out 7; have hfz3_8 := blk_frozen BK118.out 8; have hfz3_9 := blk_frozen BK118.out 9; have hfz3_10 := blk_frozen BK118.out 10; have hfz3_11 := blk_frozen BK118.out 11; have hfz3_12 := blk_frozen BK118.out 12; have hfz3_13 := blk_frozen BK118.out 13; have hfz3_14 := blk_frozen BK118.out 14))
  go_ret
  exact ⟨by first | rfl | (simp [errW_none, errW_some] <;> rfl) | (simp [*, errW_none, errW_some] <;> rfl), by repeat (first | (with_reducible first | exact HB.out | apply below_alloc | apply pw_below_drewN | apply below_drew1 | refine below_set ?_ GE118.out) | exact HB.out)⟩

-- NOT PRINTED: function 22 (diary_Diary_Crash)

end Go.Proofs.Ytbkfdejcmimhgaa.PDiaryExact
end
section
namespace Go.Proofs.Ytbkfdejcmimhgaa.PDiaryExact
open Go.RowKit Go.Proofs.YtbkfdejcmimhgaaW.PrintWords Go.Proofs.YtbkfdejcmimhgaaW.PrintLast Go.Proofs.YtbkfdejcmimhgaaW.PrintMore
attribute [local go_sem] max2_int min2_int max_two min_two max_three min_three max_four min_four   -- for this text's walks alone
set_option linter.unusedVariables false
set_option linter.unusedSimpArgs false

def diary_rooms.l0 : Nat → Int → List (S39) → Int → Int → Option (Int)
  | 0, _, _, _, _ => none
  | k + 1, x3, x6, x7, x8 => if x8 < x7 then (if 0 ≤ x8 then (if x8 < (x6.length : Int) then ((diary_Room.f ((rd_T39 x6 x8).f0) ((rd_T39 x6 x8).f1.f0.f0) ((rd_T39 x6 x8).f1.f0.f1) ((rd_T39 x6 x8).f1.f0.f2) ((rd_T39 x6 x8).f1.f1) ((rd_T39 x6 x8).f1.f2) ((rd_T39 x6 x8).f1.f3) ((rd_T39 x6 x8).f1.f4) ((rd_T39 x6 x8).f1.f5) ((rd_T39 x6 x8).f2) ((rd_T39 x6 x8).f3) ((rd_T39 x6 x8).f4) ((rd_T39 x6 x8).f5) ((rd_T39 x6 x8).f6) ((rd_T39 x6 x8).f7)).bind fun t121 => (diary_rooms.l0 k (wrap64 (x3 + t121)) x6 x7 (wrap64 (x8 + 1)))) else (none)) else (none)) else (some x3)
def diary_rooms.f (k : Nat) (l0 : List (S39)) : Option (Int) := diary_rooms.l0 k 0 l0 (l0.length : Int) 0
theorem diary_rooms.mono_l : ∀ k, (∀ y0 y1 y2 y3, LeO (diary_rooms.l0 k y0 y1 y2 y3) (diary_rooms.l0 (k + 1) y0 y1 y2 y3))
  | 0 => fun _ _ _ _ r h => by simp [diary_rooms.l0] at h
  | k + 1 => by
    have ih0 := diary_rooms.mono_l k
    · intro y0 y1 y2 y3
      unfold diary_rooms.l0
      repeat' first
      | (with_reducible exact ih0 _ _ _ _)
      | (with_reducible exact LeO.refl _)
      | (with_reducible exact LeO.none _)
      | (with_reducible refine LeO.ite ?_ ?_)
      | (with_reducible refine LeO.bind ?_ (fun _ => ?_))
      | exact ih0 _ _ _ _
      | exact LeO.none _
      | refine LeO.ite ?_ ?_
      | refine LeO.bind ?_ (fun _ => ?_)
theorem diary_rooms.mono : ∀ a0 k, LeO (diary_rooms.f k a0) (diary_rooms.f (k + 1) a0) := by
  intro a0 k
  have ih0 := diary_rooms.mono_l k
  unfold diary_rooms.f
  repeat' first
      | (with_reducible exact ih0 _ _ _ _)
      | (with_reducible exact LeO.refl _)
      | (with_reducible exact LeO.none _)
      | (with_reducible refine LeO.ite ?_ ?_)
      | (with_reducible refine LeO.bind ?_ (fun _ => ?_))
      | exact ih0 _ _ _ _
      | exact LeO.none _
      | refine LeO.ite ?_ ?_
      | refine LeO.bind ?_ (fun _ => ?_)
set_option maxHeartbeats 8000000 in
set_option maxRecDepth 100000 in
theorem diary_rooms.calls (k : Nat) (A0 : Option Addr) (c0 : Nat) (l0 : List (S39)) (r : Int) (w : World) (hr0 : Kd.C k39 w A0 l0.length l0) (hc0 : l0.length ≤ c0) (h : diary_rooms.f k l0 = some r) :
    Calls Try.prog 43 #[.slice A0 l0.length c0] w fun e w' => e = .returned (.int .i64 r) ∧ Below w.heap.size w w' := by
  have hu39 := Try.underlying39
  have HR0 := Aside0.mk hr0
  have HC0 := Aside0.mk hc0
  clear hr0 hc0
  have HB := Aside0.mk (Below.refl w.heap.size w)
  have H : (diary_rooms.l0 k 0 l0 (l0.length : Int) 0) = some r := h
  clear h
  have H' := Aside0.mk H
  clear H
  go_enter Try.func43, Try.ntmps43
  go_wp2
  go_loopg [3, 8] k (fun kq v3 v8 w' => ∃ (x3_1 : Int) (x8_1 : Int), v3 = .int .i64 x3_1 ∧ v8 = .int .i64 x8_1 ∧ Aside0 (diary_rooms.l0 kq x3_1 l0 (l0.length : Int) x8_1 = some r) ∧ Aside0 (kq ≤ k) ∧ Aside0 (Below w.heap.size w w'))
  case atStart => exact ⟨(0), (0), (by first | rfl | (simp; done) | (simp [*]; done)), (by first | rfl | (simp; done) | (simp [*]; done)), H', ⟨Nat.le_refl _⟩, ⟨by repeat (first | (with_reducible first | exact HB.out | apply below_alloc | apply pw_below_drewN | apply below_drew1) | exact HB.out)⟩⟩
  case round =>
    clear H'
    obtain ⟨x3_1, x8_1, rfl, rfl, HA, HK1, HB⟩ := hrel
    cases gk with
    | zero => exact absurd HA.out (by simp [diary_rooms.l0])
    | succ k1 =>
      have H := HA.out
      clear HA
      simp only [diary_rooms.l0] at H
      by_cases c2 : x8_1 < (l0.length : Int)
      · rw [if_pos c2] at H
        have c2b0 : decide (x8_1 < (l0.length : Int)) = true := decide_eq_true c2
        clear c2
        by_cases c3 : 0 ≤ x8_1
        · rw [if_pos c3] at H
          have c3b0 : decide (0 ≤ x8_1) = true := decide_eq_true c3
          clear c3
          by_cases c4 : x8_1 < (l0.length : Int)
          · rw [if_pos c4] at H
            have c4b0 : decide (x8_1 < (l0.length : Int)) = true := decide_eq_true c4
            clear c4
            replace H := Option.bind_eq_some_iff.mp H
            obtain ⟨t121, A50, H⟩ := H
            replace H : (diary_rooms.l0 k1 (wrap64 (x3_1 + t121)) l0 (l0.length : Int) (wrap64 (x8_1 + 1))) = some r := H
            have A5 := Aside0.mk A50
            clear A50
            have H' := Aside0.mk H
            clear H
            have p119 : 0 ≤ (x8_1 : Int) := of_decide_eq_true (by first | (with_reducible assumption) | assumption)
            have q119 : x8_1 < (l0.length : Int) := of_decide_eq_true (by first | (with_reducible assumption) | assumption)
            obtain ⟨ad119, A119_4, c119_4, A119_5, c119_5, A119_10, c119_10, A119_14, c119_14, e119, hx119_0, hx119_1, hx119_2, hx119_3, hx119_4, hx119_5, hx119_6, hx119_7, hx119_8, hx119_9, hx119_10, hx119_11, hx119_12, hx119_13, hx119_14, hl119_4, hi119_4, hl119_5, hi119_5, hl119_10, hi119_10, hl119_14, hi119_14⟩ := at_T39 HR0.out x8_1 p119 q119
            cases e119
            replace hx119_0 := (HB.out.cell (World.block_lt_of_cell? w _ hx119_0)).trans hx119_0
            replace hx119_1 := (HB.out.cell (World.block_lt_of_cell? w _ hx119_1)).trans hx119_1
            replace hx119_2 := (HB.out.cell (World.block_lt_of_cell? w _ hx119_2)).trans hx119_2
            replace hx119_3 := (HB.out.cell (World.block_lt_of_cell? w _ hx119_3)).trans hx119_3
            replace hx119_4 := (HB.out.cell (World.block_lt_of_cell? w _ hx119_4)).trans hx119_4
            replace hx119_5 := (HB.out.cell (World.block_lt_of_cell? w _ hx119_5)).trans hx119_5
            replace hx119_6 := (HB.out.cell (World.block_lt_of_cell? w _ hx119_6)).trans hx119_6
            replace hx119_7 := (HB.out.cell (World.block_lt_of_cell? w _ hx119_7)).trans hx119_7
            replace hx119_8 := (HB.out.cell (World.block_lt_of_cell? w _ hx119_8)).trans hx119_8
            replace hx119_9 := (HB.out.cell (World.block_lt_of_cell? w _ hx119_9)).trans hx119_9
            replace hx119_10 := (HB.out.cell (World.block_lt_of_cell? w _ hx119_10)).trans hx119_10
            replace hx119_11 := (HB.out.cell (World.block_lt_of_cell? w _ hx119_11)).trans hx119_11
            replace hx119_12 := (HB.out.cell (World.block_lt_of_cell? w _ hx119_12)).trans hx119_12
            replace hx119_13 := (HB.out.cell (World.block_lt_of_cell? w _ hx119_13)).trans hx119_13
            replace hx119_14 := (HB.out.cell (World.block_lt_of_cell? w _ hx119_14)).trans hx119_14
            have HR119_4 := Aside0.mk hi119_4
            have HC119_4 := Aside0.mk hl119_4
            clear hi119_4 hl119_4
            have HR119_5 := Aside0.mk hi119_5
            have HC119_5 := Aside0.mk hl119_5
            clear hi119_5 hl119_5
            have HR119_10 := Aside0.mk hi119_10
            have HC119_10 := Aside0.mk hl119_10
            clear hi119_10 hl119_10
            have HR119_14 := Aside0.mk hi119_14
            have HC119_14 := Aside0.mk hl119_14
            clear hi119_14 hl119_14
            replace p119 := eq_true p119
            replace q119 := eq_true q119
            go_wp2_with (first | ((with_reducible refine gate_dst (N := 5) rfl ?_); refine box_event ?hg (N := 5) ?hd (cs := #[.int .i64 0, .bool false, .string (⟨#[]⟩ : ByteArray), .string (⟨#[]⟩ : ByteArray), .slice none 0 0, .slice none 0 0, .bool false, .string (⟨#[]⟩ : ByteArray), .int .i64 0, .int .i64 0, .slice none 0 0, .int .i64 0, .int .i64 0, .int .i64 0, .slice none 0 0]) (t := 39) ?hr ?_; (case hd => rfl); (case hg => rfl); (case hr => first | (go_simp; done) | (go_simp; rfl)); intro gb120 hg w6 hbox hb; have n0_ := Aside0.mk (below_step (by repeat (first | (with_reducible first | exact HB.out | apply below_alloc | apply pw_below_drewN | apply below_drew1) | exact HB.out)) hb); have n1_ := Aside0.mk (hbox); have n2_ := Aside0.mk ((by rw [hg]; exact (below_size (by repeat (first | (with_reducible first | exact HB.out | apply below_alloc | apply pw_below_drewN | apply below_drew1) | exact HB.out))) : w.heap.size ≤ gb120)); have n3_ := Aside0.mk ((by rw [hg]; exact (below_size (by repeat (first | (with_reducible first | exact HB.out | apply below_alloc | apply pw_below_drewN | apply below_drew1) | exact HB.out))) : w.heap.size ≤ gb120)); clear HB; have HB := n0_; have BK120 := n1_; have GW120 := n2_; have GE120 := n3_; clear n0_ n1_ n2_ n3_; clear hb hbox hg; have hcz7_0 : w6.cell? ⟨gb120, 0, none⟩ = some (.int .i64 0) := (blk_cell BK120.out 0).trans rfl; have hcz7_1 : w6.cell? ⟨gb120, 1, none⟩ = some (.bool false) := (blk_cell BK120.out 1).trans rfl; have hcz7_2 : w6.cell? ⟨gb120, 2, none⟩ = some (.string (⟨#[]⟩ : ByteArray)) := (blk_cell BK120.out 2).trans rfl; have hcz7_3 : w6.cell? ⟨gb120, 3, none⟩ = some (.string (⟨#[]⟩ : ByteArray)) := (blk_cell BK120.out 3).trans rfl; have hcz7_4 : w6.cell? ⟨gb120, 4, none⟩ = some (.slice none 0 0) := (blk_cell BK120.out 4).trans rfl; have hcz7_5 : w6.cell? ⟨gb120, 5, none⟩ = some (.slice none 0 0) := (blk_cell BK120.out 5).trans rfl; have hcz7_6 : w6.cell? ⟨gb120, 6, none⟩ = some (.bool false) := (blk_cell BK120.out 6).trans rfl; have hcz7_7 : w6.cell? ⟨gb120, 7, none⟩ = some (.string (⟨#[]⟩ : ByteArray)) := (blk_cell BK120.out 7).trans rfl; have hcz7_8 : w6.cell? ⟨gb120, 8, none⟩ = some (.int .i64 0) := (blk_cell BK120.out 8).trans rfl; have hcz7_9 : w6.cell? ⟨gb120, 9, none⟩ = some (.int .i64 0) := (blk_cell BK120.out 9).trans rfl; have hcz7_10 : w6.cell? ⟨gb120, 10, none⟩ = some (.slice none 0 0) := (blk_cell BK120.out 10).trans rfl; have hcz7_11 : w6.cell? ⟨gb120, 11, none⟩ = some (.int .i64 0) := (blk_cell BK120.out 11).trans rfl; have hcz7_12 : w6.cell? ⟨gb120, 12, none⟩ = some (.int .i64 0) := (blk_cell BK120.out 12).trans rfl; have hcz7_13 : w6.cell? ⟨gb120, 13, none⟩ = some (.int .i64 0) := (blk_cell BK120.out 13).trans rfl; have hcz7_14 : w6.cell? ⟨gb120, 14, none⟩ = some (.slice none 0 0) := (blk_cell BK120.out 14).trans rfl; have hfz7_0 := blk_frozen BK120.out 0; have hfz7_1 := blk_frozen BK120.out 1; have hfz7_2 := blk_frozen BK120.out 2; have hfz7_3 := blk_frozen BK120.out 3; have hfz7_4 := blk_frozen BK120.out 4; have hfz7_5 := blk_frozen BK120.out 5; have hfz7_6 := blk_frozen BK120.out 6; have hfz7_7 := blk_frozen BK120.out 7; have hfz7_8 := blk_frozen BK120.out 8; have hfz7_9 := blk_frozen BK120.out 9; have hfz7_10 := blk_frozen BK120.out 10; have hfz7_11 := blk_frozen BK120.out 11; have hfz7_12 := blk_frozen BK120.out 12; have hfz7_13 := blk_frozen BK120.out 13; have hfz7_14 := blk_frozen BK120.out 14) | ((with_reducible refine gate_callee (f := 21) rfl ?_); refine goesL_ (some 14) rfl rfl Try.func21 (by kernel_rfl) rfl #[.agg #[.int .i64 ((rd_T39 l0 x8_1).f0), .bool ((rd_T39 l0 x8_1).f1.f0.f0), .string ((rd_T39 l0 x8_1).f1.f0.f1), .string ((rd_T39 l0 x8_1).f1.f0.f2), .slice A119_4 ((rd_T39 l0 x8_1).f1.f1).length c119_4, .slice A119_5 ((rd_T39 l0 x8_1).f1.f2).length c119_5, .bool ((rd_T39 l0 x8_1).f1.f3), .string ((rd_T39 l0 x8_1).f1.f4), .int .i64 ((rd_T39 l0 x8_1).f1.f5), .int .i64 ((rd_T39 l0 x8_1).f2), .slice A119_10 ((rd_T39 l0 x8_1).f3).length c119_10, .int .i64 ((rd_T39 l0 x8_1).f4), .int .i64 ((rd_T39 l0 x8_1).f5), .int .i64 ((rd_T39 l0 x8_1).f6), .slice A119_14 ((rd_T39 l0 x8_1).f7).length c119_14]] rfl (by (try simp only [List.map_toArray, List.map_cons, List.map_nil]); first | done | rfl | (simp only [List.length_drop, List.length_take]; rfl)) ?_; (with_reducible refine (diary_Room.calls ((rd_T39 l0 x8_1).f0) ((rd_T39 l0 x8_1).f1.f0.f0) ((rd_T39 l0 x8_1).f1.f0.f1) ((rd_T39 l0 x8_1).f1.f0.f2) _ _ ((rd_T39 l0 x8_1).f1.f1) _ _ ((rd_T39 l0 x8_1).f1.f2) ((rd_T39 l0 x8_1).f1.f3) ((rd_T39 l0 x8_1).f1.f4) ((rd_T39 l0 x8_1).f1.f5) ((rd_T39 l0 x8_1).f2) _ _ ((rd_T39 l0 x8_1).f3) ((rd_T39 l0 x8_1).f4) ((rd_T39 l0 x8_1).f5) ((rd_T39 l0 x8_1).f6) _ _ ((rd_T39 l0 x8_1).f7) t121 _ ?side1 ?side2 ?side3 ?side4 ?side5 ?side6 ?side7 ?side8 A5.out).mono ?_); (case side1 => exact Kd.C_below HR119_4.out (by repeat (first | (with_reducible first | exact HB.out | apply below_alloc | apply pw_below_drewN | apply below_drew1 | refine below_set ?_ GE120.out) | exact HB.out))); (case side2 => exact HC119_4.out); (case side3 => exact Kd.C_below HR119_5.out (by repeat (first | (with_reducible first | exact HB.out | apply below_alloc | apply pw_below_drewN | apply below_drew1 | refine below_set ?_ GE120.out) | exact HB.out))); (case side4 => exact HC119_5.out); (case side5 => exact Kd.C_below HR119_10.out (by repeat (first | (with_reducible first | exact HB.out | apply below_alloc | apply pw_below_drewN | apply below_drew1 | refine below_set ?_ GE120.out) | exact HB.out))); (case side6 => exact HC119_10.out); (case side7 => exact Kd.C_below HR119_14.out (by repeat (first | (with_reducible first | exact HB.out | apply below_alloc | apply pw_below_drewN | apply below_drew1 | refine below_set ?_ GE120.out) | exact HB.out))); (case side8 => exact HC119_14.out); rintro e w8 ⟨rfl, hb⟩; refine ⟨_, rfl, ?_⟩; have n0_ := Aside0.mk (blk_below (g := gb120) (o := .cells #[.int .i64 ((rd_T39 l0 x8_1).f0), .bool ((rd_T39 l0 x8_1).f1.f0.f0), .string ((rd_T39 l0 x8_1).f1.f0.f1), .string ((rd_T39 l0 x8_1).f1.f0.f2), .slice A119_4 ((rd_T39 l0 x8_1).f1.f1).length c119_4, .slice A119_5 ((rd_T39 l0 x8_1).f1.f2).length c119_5, .bool ((rd_T39 l0 x8_1).f1.f3), .string ((rd_T39 l0 x8_1).f1.f4), .int .i64 ((rd_T39 l0 x8_1).f1.f5), .int .i64 ((rd_T39 l0 x8_1).f2), .slice A119_10 ((rd_T39 l0 x8_1).f3).length c119_10, .int .i64 ((rd_T39 l0 x8_1).f4), .int .i64 ((rd_T39 l0 x8_1).f5), .int .i64 ((rd_T39 l0 x8_1).f6), .slice A119_14 ((rd_T39 l0 x8_1).f7).length c119_14] 39 (0, 0)) (by (with_reducible repeat (first | refine blk_drewN ?_ _ | refine blk_drew ?_ | refine blk_alloc ?_ _)); refine blk_put (cs := #[.int .i64 ((rd_T39 l0 x8_1).f0), .bool ((rd_T39 l0 x8_1).f1.f0.f0), .string ((rd_T39 l0 x8_1).f1.f0.f1), .string ((rd_T39 l0 x8_1).f1.f0.f2), .slice A119_4 ((rd_T39 l0 x8_1).f1.f1).length c119_4, .slice A119_5 ((rd_T39 l0 x8_1).f1.f2).length c119_5, .bool ((rd_T39 l0 x8_1).f1.f3), .string ((rd_T39 l0 x8_1).f1.f4), .int .i64 ((rd_T39 l0 x8_1).f1.f5), .int .i64 ((rd_T39 l0 x8_1).f2), .slice A119_10 ((rd_T39 l0 x8_1).f3).length c119_10, .int .i64 ((rd_T39 l0 x8_1).f4), .int .i64 ((rd_T39 l0 x8_1).f5), .int .i64 ((rd_T39 l0 x8_1).f6), .slice none 0 0]) ?_ 14 _ rfl; (with_reducible repeat (first | refine blk_drewN ?_ _ | refine blk_drew ?_ | refine blk_alloc ?_ _)); refine blk_put (cs := #[.int .i64 ((rd_T39 l0 x8_1).f0), .bool ((rd_T39 l0 x8_1).f1.f0.f0), .string ((rd_T39 l0 x8_1).f1.f0.f1), .string ((rd_T39 l0 x8_1).f1.f0.f2), .slice A119_4 ((rd_T39 l0 x8_1).f1.f1).length c119_4, .slice A119_5 ((rd_T39 l0 x8_1).f1.f2).length c119_5, .bool ((rd_T39 l0 x8_1).f1.f3), .string ((rd_T39 l0 x8_1).f1.f4), .int .i64 ((rd_T39 l0 x8_1).f1.f5), .int .i64 ((rd_T39 l0 x8_1).f2), .slice A119_10 ((rd_T39 l0 x8_1).f3).length c119_10, .int .i64 ((rd_T39 l0 x8_1).f4), .int .i64 ((rd_T39 l0 x8_1).f5), .int .i64 0, .slice none 0 0]) ?_ 13 _ rfl; (with_reducible repeat (first | refine blk_drewN ?_ _ | refine blk_drew ?_ | refine blk_alloc ?_ _)); refine blk_put (cs := #[.int .i64 ((rd_T39 l0 x8_1).f0), .bool ((rd_T39 l0 x8_1).f1.f0.f0), .string ((rd_T39 l0 x8_1).f1.f0.f1), .string ((rd_T39 l0 x8_1).f1.f0.f2), .slice A119_4 ((rd_T39 l0 x8_1).f1.f1).length c119_4, .slice A119_5 ((rd_T39 l0 x8_1).f1.f2).length c119_5, .bool ((rd_T39 l0 x8_1).f1.f3), .string ((rd_T39 l0 x8_1).f1.f4), .int .i64 ((rd_T39 l0 x8_1).f1.f5), .int .i64 ((rd_T39 l0 x8_1).f2), .slice A119_10 ((rd_T39 l0 x8_1).f3).length c119_10, .int .i64 ((rd_T39 l0 x8_1).f4), .int .i64 0, .int .i64 0, .slice none 0 0]) ?_ 12 _ rfl; (with_reducible repeat (first | refine blk_drewN ?_ _ | refine blk_drew ?_ | refine blk_alloc ?_ _)); refine blk_put (cs := #[.int .i64 ((rd_T39 l0 x8_1).f0), .bool ((rd_T39 l0 x8_1).f1.f0.f0), .string ((rd_T39 l0 x8_1).f1.f0.f1), .string ((rd_T39 l0 x8_1).f1.f0.f2), .slice A119_4 ((rd_T39 l0 x8_1).f1.f1).length c119_4, .slice A119_5 ((rd_T39 l0 x8_1).f1.f2).length c119_5, .bool ((rd_T39 l0 x8_1).f1.f3), .string ((rd_T39 l0 x8_1).f1.f4), .int .i64 ((rd_T39 l0 x8_1).f1.f5), .int .i64 ((rd_T39 l0 x8_1).f2), .slice A119_10 ((rd_T39 l0 x8_1).f3).length c119_10, .int .i64 0, .int .i64 0, .int .i64 0, .slice none 0 0]) ?_ 11 _ rfl; (with_reducible repeat (first | refine blk_drewN ?_ _ | refine blk_drew ?_ | refine blk_alloc ?_ _)); refine blk_put (cs := #[.int .i64 ((rd_T39 l0 x8_1).f0), .bool ((rd_T39 l0 x8_1).f1.f0.f0), .string ((rd_T39 l0 x8_1).f1.f0.f1), .string ((rd_T39 l0 x8_1).f1.f0.f2), .slice A119_4 ((rd_T39 l0 x8_1).f1.f1).length c119_4, .slice A119_5 ((rd_T39 l0 x8_1).f1.f2).length c119_5, .bool ((rd_T39 l0 x8_1).f1.f3), .string ((rd_T39 l0 x8_1).f1.f4), .int .i64 ((rd_T39 l0 x8_1).f1.f5), .int .i64 ((rd_T39 l0 x8_1).f2), .slice none 0 0, .int .i64 0, .int .i64 0, .int .i64 0, .slice none 0 0]) ?_ 10 _ rfl; (with_reducible repeat (first | refine blk_drewN ?_ _ | refine blk_drew ?_ | refine blk_alloc ?_ _)); refine blk_put (cs := #[.int .i64 ((rd_T39 l0 x8_1).f0), .bool ((rd_T39 l0 x8_1).f1.f0.f0), .string ((rd_T39 l0 x8_1).f1.f0.f1), .string ((rd_T39 l0 x8_1).f1.f0.f2), .slice A119_4 ((rd_T39 l0 x8_1).f1.f1).length c119_4, .slice A119_5 ((rd_T39 l0 x8_1).f1.f2).length c119_5, .bool ((rd_T39 l0 x8_1).f1.f3), .string ((rd_T39 l0 x8_1).f1.f4), .int .i64 ((rd_T39 l0 x8_1).f1.f5), .int .i64 0, .slice none 0 0, .int .i64 0, .int .i64 0, .int .i64 0, .slice none 0 0]) ?_ 9 _ rfl; (with_reducible repeat (first | refine blk_drewN ?_ _ | refine blk_drew ?_ | refine blk_alloc ?_ _)); refine blk_put (cs := #[.int .i64 ((rd_T39 l0 x8_1).f0), .bool ((rd_T39 l0 x8_1).f1.f0.f0), .string ((rd_T39 l0 x8_1).f1.f0.f1), .string ((rd_T39 l0 x8_1).f1.f0.f2), .slice A119_4 ((rd_T39 l0 x8_1).f1.f1).length c119_4, .slice A119_5 ((rd_T39 l0 x8_1).f1.f2).length c119_5, .bool ((rd_T39 l0 x8_1).f1.f3), .string ((rd_T39 l0 x8_1).f1.f4), .int .i64 0, .int .i64 0, .slice none 0 0, .int .i64 0, .int .i64 0, .int .i64 0, .slice none 0 0]) ?_ 8 _ rfl; (with_reducible repeat (first | refine blk_drewN ?_ _ | refine blk_drew ?_ | refine blk_alloc ?_ _)); refine blk_put (cs := #[.int .i64 ((rd_T39 l0 x8_1).f0), .bool ((rd_T39 l0 x8_1).f1.f0.f0), .string ((rd_T39 l0 x8_1).f1.f0.f1), .string ((rd_T39 l0 x8_1).f1.f0.f2), .slice A119_4 ((rd_T39 l0 x8_1).f1.f1).length c119_4, .slice A119_5 ((rd_T39 l0 x8_1).f1.f2).length c119_5, .bool ((rd_T39 l0 x8_1).f1.f3), .string (⟨#[]⟩ : ByteArray), .int .i64 0, .int .i64 0, .slice none 0 0, .int .i64 0, .int .i64 0, .int .i64 0, .slice none 0 0]) ?_ 7 _ rfl; (with_reducible repeat (first | refine blk_drewN ?_ _ | refine blk_drew ?_ | refine blk_alloc ?_ _)); refine blk_put (cs := #[.int .i64 ((rd_T39 l0 x8_1).f0), .bool ((rd_T39 l0 x8_1).f1.f0.f0), .string ((rd_T39 l0 x8_1).f1.f0.f1), .string ((rd_T39 l0 x8_1).f1.f0.f2), .slice A119_4 ((rd_T39 l0 x8_1).f1.f1).length c119_4, .slice A119_5 ((rd_T39 l0 x8_1).f1.f2).length c119_5, .bool false, .string (⟨#[]⟩ : ByteArray), .int .i64 0, .int .i64 0, .slice none 0 0, .int .i64 0, .int .i64 0, .int .i64 0, .slice none 0 0]) ?_ 6 _ rfl; (with_reducible repeat (first | refine blk_drewN ?_ _ | refine blk_drew ?_ | refine blk_alloc ?_ _)); refine blk_put (cs := #[.int .i64 ((rd_T39 l0 x8_1).f0), .bool ((rd_T39 l0 x8_1).f1.f0.f0), .string ((rd_T39 l0 x8_1).f1.f0.f1), .string ((rd_T39 l0 x8_1).f1.f0.f2), .slice A119_4 ((rd_T39 l0 x8_1).f1.f1).length c119_4, .slice none 0 0, .bool false, .string (⟨#[]⟩ : ByteArray), .int .i64 0, .int .i64 0, .slice none 0 0, .int .i64 0, .int .i64 0, .int .i64 0, .slice none 0 0]) ?_ 5 _ rfl; (with_reducible repeat (first | refine blk_drewN ?_ _ | refine blk_drew ?_ | refine blk_alloc ?_ _)); refine blk_put (cs := #[.int .i64 ((rd_T39 l0 x8_1).f0), .bool ((rd_T39 l0 x8_1).f1.f0.f0), .string ((rd_T39 l0 x8_1).f1.f0.f1), .string ((rd_T39 l0 x8_1).f1.f0.f2), .slice none 0 0, .slice none 0 0, .bool false, .string (⟨#[]⟩ : ByteArray), .int .i64 0, .int .i64 0, .slice none 0 0, .int .i64 0, .int .i64 0, .int .i64 0, .slice none 0 0]) ?_ 4 _ rfl; (with_reducible repeat (first | refine blk_drewN ?_ _ | refine blk_drew ?_ | refine blk_alloc ?_ _)); refine blk_put (cs := #[.int .i64 ((rd_T39 l0 x8_1).f0), .bool ((rd_T39 l0 x8_1).f1.f0.f0), .string ((rd_T39 l0 x8_1).f1.f0.f1), .string (⟨#[]⟩ : ByteArray), .slice none 0 0, .slice none 0 0, .bool false, .string (⟨#[]⟩ : ByteArray), .int .i64 0, .int .i64 0, .slice none 0 0, .int .i64 0, .int .i64 0, .int .i64 0, .slice none 0 0]) ?_ 3 _ rfl; (with_reducible repeat (first | refine blk_drewN ?_ _ | refine blk_drew ?_ | refine blk_alloc ?_ _)); refine blk_put (cs := #[.int .i64 ((rd_T39 l0 x8_1).f0), .bool ((rd_T39 l0 x8_1).f1.f0.f0), .string (⟨#[]⟩ : ByteArray), .string (⟨#[]⟩ : ByteArray), .slice none 0 0, .slice none 0 0, .bool false, .string (⟨#[]⟩ : ByteArray), .int .i64 0, .int .i64 0, .slice none 0 0, .int .i64 0, .int .i64 0, .int .i64 0, .slice none 0 0]) ?_ 2 _ rfl; (with_reducible repeat (first | refine blk_drewN ?_ _ | refine blk_drew ?_ | refine blk_alloc ?_ _)); refine blk_put (cs := #[.int .i64 ((rd_T39 l0 x8_1).f0), .bool false, .string (⟨#[]⟩ : ByteArray), .string (⟨#[]⟩ : ByteArray), .slice none 0 0, .slice none 0 0, .bool false, .string (⟨#[]⟩ : ByteArray), .int .i64 0, .int .i64 0, .slice none 0 0, .int .i64 0, .int .i64 0, .int .i64 0, .slice none 0 0]) ?_ 1 _ rfl; (with_reducible repeat (first | refine blk_drewN ?_ _ | refine blk_drew ?_ | refine blk_alloc ?_ _)); refine blk_put (cs := #[.int .i64 0, .bool false, .string (⟨#[]⟩ : ByteArray), .string (⟨#[]⟩ : ByteArray), .slice none 0 0, .slice none 0 0, .bool false, .string (⟨#[]⟩ : ByteArray), .int .i64 0, .int .i64 0, .slice none 0 0, .int .i64 0, .int .i64 0, .int .i64 0, .slice none 0 0]) ?_ 0 _ rfl; (with_reducible repeat (first | refine blk_drewN ?_ _ | refine blk_drew ?_ | refine blk_alloc ?_ _)); exact BK120.out) hb); have n1_ := Aside0.mk (below_step (by repeat (first | (with_reducible first | exact HB.out | apply below_alloc | apply pw_below_drewN | apply below_drew1 | refine below_set ?_ GE120.out) | exact HB.out)) hb); clear BK120; clear HB; have BK120 := n0_; have HB := n1_; clear n0_ n1_; (try clear hb); (try clear hb2); (try clear hk); (try clear hi)))
            go_roundg k1
            case measure => have := HK1.out; omega
            case rel => exact ⟨(wrap64 (x3_1 + t121)), (wrap64 (x8_1 + 1)), (by first | rfl | (simp; done) | (simp [*]; done)), (by first | rfl | (simp; done) | (simp [*]; done)), H', ⟨by have := HK1.out; omega⟩, ⟨by repeat (first | (with_reducible first | exact HB.out | apply below_alloc | apply pw_below_drewN | apply below_drew1 | refine below_set ?_ GE120.out) | exact HB.out)⟩⟩
          · rw [if_neg c4] at H
            exact absurd H (by simp)
        · rw [if_neg c3] at H
          exact absurd H (by simp)
      · rw [if_neg c2] at H
        have c2b0 : decide (x8_1 < (l0.length : Int)) = false := decide_eq_false c2
        clear c2
        obtain rfl := Option.some.inj H
        go_wp2
        go_ret
        exact ⟨by first | rfl | (simp [errW_none, errW_some] <;> rfl) | (simp [*, errW_none, errW_some] <;> rfl), by repeat (first | (with_reducible first | exact HB.out | apply below_alloc | apply pw_below_drewN | apply below_drew1) | exact HB.out)⟩

-- NOT PRINTED: function 28 (diary_Diary_Used)

-- NOT PRINTED: function 51 (api_Path)

-- NOT PRINTED: function 52 (bytes_Clone)

-- NOT PRINTED: function 53 (slices_Clone_int_int)

-- NOT PRINTED: function 39 (diary_Twin)

def diary_Diary_trips.f (s0_0 : Int) (s0_1 : List (S39)) (s0_2 : Int) (s0_3 : Bool) (s0_4 : Int) (s0_5 : Int) (s0_6 : Int) (s0_7 : Int) : Option (Bool × Int × Int × Bool × Int × Int × Int × Int) := if s0_5 = 0 then (some (false, s0_0, s0_2, s0_3, s0_4, s0_5, s0_6, s0_7)) else (some (((wrap64 (s0_5 - 1)) == 0), s0_0, s0_2, s0_3, s0_4, wrap64 (s0_5 - 1), s0_6, s0_7))
-- NOT PRINTED: function 13 (diary_Diary_Put)

-- NOT PRINTED: function 15 (diary_Diary_Sync)

def diary_Diary_Start.f (s0_0 : Int) (s0_1 : List (S39)) (s0_2 : Int) (s0_3 : Bool) (s0_4 : Int) (s0_5 : Int) (s0_6 : Int) (s0_7 : Int) : Option (Int × Int × Bool × Int × Int × Int × Int) := some (s0_0, s0_2, false, s0_4, s0_5, s0_6, s0_7)
-- NOT PRINTED: function 41 (diary_Twins)

-- NOT PRINTED: function 17 (diary_Diary_Read)

def diary_Diary_Life.f (s0_0 : Int) (s0_1 : List (S39)) (s0_2 : Int) (s0_3 : Bool) (s0_4 : Int) (s0_5 : Int) (s0_6 : Int) (s0_7 : Int) : Option (Int × Int × Int × Bool × Int × Int × Int × Int) := some (s0_4, s0_0, s0_2, s0_3, s0_4, s0_5, s0_6, s0_7)
def diary_Diary_Kept.f (s0_0 : Int) (s0_1 : List (S39)) (s0_2 : Int) (s0_3 : Bool) (s0_4 : Int) (s0_5 : Int) (s0_6 : Int) (s0_7 : Int) : Option (Int × Int × Int × Bool × Int × Int × Int × Int) := some (s0_7, s0_0, s0_2, s0_3, s0_4, s0_5, s0_6, s0_7)
-- NOT PRINTED: function 14 (wherrylaw18_wakes)

def wherrykeep_Bytes.l0 : Nat → List Int → List Int → Int → Option (Bool)
  | 0, _, _, _ => none
  | k + 1, x0, x1, x5 => if x5 < (x0.length : Int) then (if 0 ≤ x5 then (if x5 < (x1.length : Int) then (if (rd x0 x5) = (rd x1 x5) then (wherrykeep_Bytes.l0 k x0 x1 (wrap64 (x5 + 1))) else (some false)) else (none)) else (none)) else (some true)
def wherrykeep_Bytes.f (k : Nat) (l0 : List Int) (l1 : List Int) : Option (Bool) := if (l0.length : Int) = (l1.length : Int) then (wherrykeep_Bytes.l0 k l0 l1 0) else (some false)
theorem wherrykeep_Bytes.mono_l : ∀ k, (∀ y0 y1 y2, LeO (wherrykeep_Bytes.l0 k y0 y1 y2) (wherrykeep_Bytes.l0 (k + 1) y0 y1 y2))
  | 0 => fun _ _ _ r h => by simp [wherrykeep_Bytes.l0] at h
  | k + 1 => by
    have ih0 := wherrykeep_Bytes.mono_l k
    · intro y0 y1 y2
      unfold wherrykeep_Bytes.l0
      repeat' first
      | (with_reducible exact ih0 _ _ _)
      | (with_reducible exact LeO.refl _)
      | (with_reducible exact LeO.none _)
      | (with_reducible refine LeO.ite ?_ ?_)
      | (with_reducible refine LeO.bind ?_ (fun _ => ?_))
      | exact ih0 _ _ _
      | exact LeO.none _
      | refine LeO.ite ?_ ?_
      | refine LeO.bind ?_ (fun _ => ?_)
theorem wherrykeep_Bytes.mono : ∀ a0 a1 k, LeO (wherrykeep_Bytes.f k a0 a1) (wherrykeep_Bytes.f (k + 1) a0 a1) := by
  intro a0 a1 k
  have ih0 := wherrykeep_Bytes.mono_l k
  unfold wherrykeep_Bytes.f
  repeat' first
      | (with_reducible exact ih0 _ _ _)
      | (with_reducible exact LeO.refl _)
      | (with_reducible exact LeO.none _)
      | (with_reducible refine LeO.ite ?_ ?_)
      | (with_reducible refine LeO.bind ?_ (fun _ => ?_))
      | exact ih0 _ _ _
      | exact LeO.none _
      | refine LeO.ite ?_ ?_
      | refine LeO.bind ?_ (fun _ => ?_)
set_option maxHeartbeats 8000000 in
set_option maxRecDepth 100000 in
theorem wherrykeep_Bytes.calls (k : Nat) (A0 : Option Addr) (c0 : Nat) (l0 : List Int) (A1 : Option Addr) (c1 : Nat) (l1 : List Int) (r : Bool) (w : World) (hr0 : Kd.C (Kd.int .u8) w A0 l0.length l0) (hc0 : l0.length ≤ c0) (hr1 : Kd.C (Kd.int .u8) w A1 l1.length l1) (hc1 : l1.length ≤ c1) (h : wherrykeep_Bytes.f k l0 l1 = some r) :
    Calls Try.prog 56 #[.slice A0 l0.length c0, .slice A1 l1.length c1] w fun e w' => e = .returned (.bool r) ∧ Drawn0 w w' := by
  have HR0 := Aside0.mk hr0
  have HC0 := Aside0.mk hc0
  clear hr0 hc0
  have HR1 := Aside0.mk hr1
  have HC1 := Aside0.mk hc1
  clear hr1 hc1
  have H : (if (l0.length : Int) = (l1.length : Int) then (wherrykeep_Bytes.l0 k l0 l1 0) else (some false)) = some r := h
  clear h
  by_cases c3 : (l0.length : Int) = (l1.length : Int)
  · rw [if_pos c3] at H
    have c3b0 : ((l0.length : Int) == (l1.length : Int)) = true := beq_iff_eq.mpr c3
    have c3b1 : ((l0.length : Int) != (l1.length : Int)) = false := bne_eq_false_iff_eq.mpr c3
    have c3b2 : (l0.length == l1.length) = true := by first | simpa using c3 | (simp at c3 ⊢; omega)
    clear c3
    have H' := Aside0.mk H
    clear H
    go_enter Try.func56, Try.ntmps56
    go_wp2
    repeat (go_quiet (fail); try go_wp2)
    go_loopg [5] k (fun kq v5 w' => ∃ (x5_1 : Int), v5 = .int .i64 x5_1 ∧ Aside0 (wherrykeep_Bytes.l0 kq l0 l1 x5_1 = some r) ∧ Aside0 (kq ≤ k) ∧ Drawn0 w w')
    case atStart => exact ⟨(0), (by first | rfl | (simp; done) | (simp [*]; done)), H', ⟨Nat.le_refl _⟩, by repeat (first | exact Drawn0.refl _ | apply Drawn0.step)⟩
    case round =>
      clear H'
      try clear c1
      try clear p2
      try clear c3
      try clear c3b0
      try clear c3b1
      try clear c3b2
      obtain ⟨x5_1, rfl, HA, HK1, ⟨m1, rfl⟩⟩ := hrel
      cases gk with
      | zero => exact absurd HA.out (by simp [wherrykeep_Bytes.l0])
      | succ k1 =>
        have H := HA.out
        clear HA
        simp only [wherrykeep_Bytes.l0] at H
        by_cases c4 : x5_1 < (l0.length : Int)
        · rw [if_pos c4] at H
          have c4b0 : decide (x5_1 < (l0.length : Int)) = true := decide_eq_true c4
          clear c4
          by_cases c5 : 0 ≤ x5_1
          · rw [if_pos c5] at H
            have c5b0 : decide (0 ≤ x5_1) = true := decide_eq_true c5
            clear c5
            by_cases c6 : x5_1 < (l1.length : Int)
            · rw [if_pos c6] at H
              have c6b0 : decide (x5_1 < (l1.length : Int)) = true := decide_eq_true c6
              clear c6
              by_cases c7 : (rd l0 x5_1) = (rd l1 x5_1)
              · rw [if_pos c7] at H
                have c7b0 : ((rd l0 x5_1) == (rd l1 x5_1)) = true := beq_iff_eq.mpr c7
                have c7b1 : ((rd l0 x5_1) != (rd l1 x5_1)) = false := bne_eq_false_iff_eq.mpr c7
                clear c7
                have H' := Aside0.mk H
                clear H
                have p137 : 0 ≤ (x5_1 : Int) := of_decide_eq_true (by first | (with_reducible assumption) | assumption)
                have q137 : x5_1 < (l0.length : Int) := of_decide_eq_true (by first | (with_reducible assumption) | assumption)
                obtain ⟨ad137, e137, hx137_0⟩ := Kd.at_int HR0.out x5_1 p137 q137
                cases e137
                replace p137 := eq_true p137
                replace q137 := eq_true q137
                have p138 : 0 ≤ (x5_1 : Int) := of_decide_eq_true (by first | (with_reducible assumption) | assumption)
                have q138 : x5_1 < (l1.length : Int) := of_decide_eq_true (by first | (with_reducible assumption) | assumption)
                obtain ⟨ad138, e138, hx138_0⟩ := Kd.at_int HR1.out x5_1 p138 q138
                cases e138
                replace p138 := eq_true p138
                replace q138 := eq_true q138
                go_wp2
                repeat (go_quiet (fail); try go_wp2)
                go_roundg k1
                case measure => have := HK1.out; omega
                case rel => exact ⟨(wrap64 (x5_1 + 1)), (by first | rfl | (simp; done) | (simp [*]; done)), H', ⟨by have := HK1.out; omega⟩, by repeat (first | exact Drawn0.refl _ | apply Drawn0.step)⟩
              · rw [if_neg c7] at H
                have c7b0 : ((rd l0 x5_1) == (rd l1 x5_1)) = false := beq_eq_false_iff_ne.mpr c7
                have c7b1 : ((rd l0 x5_1) != (rd l1 x5_1)) = true := bne_iff_ne.mpr c7
                obtain rfl := Option.some.inj H
                have p137 : 0 ≤ (x5_1 : Int) := of_decide_eq_true (by first | (with_reducible assumption) | assumption)
                have q137 : x5_1 < (l0.length : Int) := of_decide_eq_true (by first | (with_reducible assumption) | assumption)
                obtain ⟨ad137, e137, hx137_0⟩ := Kd.at_int HR0.out x5_1 p137 q137
                cases e137
                replace p137 := eq_true p137
                replace q137 := eq_true q137
                have p138 : 0 ≤ (x5_1 : Int) := of_decide_eq_true (by first | (with_reducible assumption) | assumption)
                have q138 : x5_1 < (l1.length : Int) := of_decide_eq_true (by first | (with_reducible assumption) | assumption)
                obtain ⟨ad138, e138, hx138_0⟩ := Kd.at_int HR1.out x5_1 p138 q138
                cases e138
                replace p138 := eq_true p138
                replace q138 := eq_true q138
                go_wp2
                repeat (go_quiet (fail); try go_wp2)
                go_ret
                exact ⟨by first | rfl | (simp; done) | (simp [*]; done), by repeat (first | exact Drawn0.refl _ | apply Drawn0.step)⟩
            · rw [if_neg c6] at H
              exact absurd H (by simp)
          · rw [if_neg c5] at H
            exact absurd H (by simp)
        · rw [if_neg c4] at H
          have c4b0 : decide (x5_1 < (l0.length : Int)) = false := decide_eq_false c4
          clear c4
          obtain rfl := Option.some.inj H
          go_wp2
          repeat (go_quiet (fail); try go_wp2)
          go_ret
          exact ⟨by first | rfl | (simp; done) | (simp [*]; done), by repeat (first | exact Drawn0.refl _ | apply Drawn0.step)⟩
  · rw [if_neg c3] at H
    have c3b0 : ((l0.length : Int) == (l1.length : Int)) = false := beq_eq_false_iff_ne.mpr c3
    have c3b1 : ((l0.length : Int) != (l1.length : Int)) = true := bne_iff_ne.mpr c3
    have c3b2 : (l0.length == l1.length) = false := by first | simpa using c3 | (simp at c3 ⊢; omega)
    obtain rfl := Option.some.inj H
    go_enter Try.func56, Try.ntmps56
    go_wp2
    repeat (go_quiet (fail); try go_wp2)
    go_ret
    exact ⟨by first | rfl | (simp; done) | (simp [*]; done), by repeat (first | exact Drawn0.refl _ | apply Drawn0.step)⟩

def wherrykeep_Path.f (a0_0 : Bool) (a0_1 : ByteArray) (a0_2 : ByteArray) (a1_0 : Bool) (a1_1 : ByteArray) (a1_2 : ByteArray) : Option (Bool) := if (a0_0 == a1_0) = true then (if a0_1.toList = a1_1.toList then (some (a0_2.toList == a1_2.toList)) else (some false)) else (some false)
set_option maxHeartbeats 8000000 in
set_option maxRecDepth 100000 in
theorem wherrykeep_Path.calls (a0_0 : Bool) (a0_1 : ByteArray) (a0_2 : ByteArray) (a1_0 : Bool) (a1_1 : ByteArray) (a1_2 : ByteArray) (r : Bool) (w : World) (h : wherrykeep_Path.f a0_0 a0_1 a0_2 a1_0 a1_1 a1_2 = some r) :
    Calls Try.prog 60 #[.agg #[.bool a0_0, .string a0_1, .string a0_2], .agg #[.bool a1_0, .string a1_1, .string a1_2]] w fun e w' => e = .returned (.bool r) ∧ Below w.heap.size w w' := by
  have hu32 := Try.underlying32
  have HB := Aside0.mk (Below.refl w.heap.size w)
  have H : (if (a0_0 == a1_0) = true then (if a0_1.toList = a1_1.toList then (some (a0_2.toList == a1_2.toList)) else (some false)) else (some false)) = some r := h
  clear h
  by_cases c3 : (a0_0 == a1_0) = true
  · rw [if_pos c3] at H
    have c3b0 : (a0_0 == a1_0) = true := c3
    (try (have c3b1 : decide (a0_0 = a1_0) = true := by simpa using c3))
    (try (have c3b2 : (a0_0 == a1_0) = true := by simpa using c3))
    clear c3
    by_cases c4 : a0_1.toList = a1_1.toList
    · rw [if_pos c4] at H
      have c4b0 : (a0_1.toList == a1_1.toList) = true := beq_iff_eq.mpr c4
      have c4b1 : (a0_1.toList != a1_1.toList) = false := bne_eq_false_iff_eq.mpr c4
      clear c4
      obtain rfl := Option.some.inj H
      go_enter Try.func60, Try.ntmps60
      go_wp2_with (first | ((with_reducible refine gate_dst (N := 2) rfl ?_); refine box_event ?hg (N := 2) ?hd (cs := #[.bool a0_0, .string a0_1, .string a0_2]) (t := 32) ?hr ?_; (case hd => rfl); (case hg => rfl); (case hr => first | (go_simp; done) | (go_simp; rfl)); intro gb139 hg w5 hbox hb; have n0_ := Aside0.mk (below_step (by repeat (first | (with_reducible first | exact HB.out | apply below_alloc | apply pw_below_drewN | apply below_drew1) | exact HB.out)) hb); have n1_ := Aside0.mk (hbox); have n2_ := Aside0.mk ((by rw [hg]; exact (below_size (by repeat (first | (with_reducible first | exact HB.out | apply below_alloc | apply pw_below_drewN | apply below_drew1) | exact HB.out))) : w.heap.size ≤ gb139)); have n3_ := Aside0.mk ((by rw [hg]; exact (below_size (by repeat (first | (with_reducible first | exact HB.out | apply below_alloc | apply pw_below_drewN | apply below_drew1) | exact HB.out))) : w.heap.size ≤ gb139)); clear HB; have HB := n0_; have BK139 := n1_; have GW139 := n2_; have GE139 := n3_; clear n0_ n1_ n2_ n3_; clear hb hbox hg) | ((with_reducible refine gate_dst (N := 3) rfl ?_); refine box_event ?hg (N := 3) ?hd (cs := #[.bool a1_0, .string a1_1, .string a1_2]) (t := 32) ?hr ?_; (case hd => rfl); (case hg => rfl); (case hr => first | (go_simp; done) | (go_simp; rfl)); intro gb140 hg w6 hbox hb; have n0_ := Aside0.mk (blk_below (g := gb139) (o := .cells #[.bool a0_0, .string a0_1, .string a0_2] 32 (0, 0)) (by (with_reducible repeat (first | refine blk_drewN ?_ _ | refine blk_drew ?_ | refine blk_alloc ?_ _)); exact BK139.out) hb); have n1_ := Aside0.mk (below_step (by repeat (first | (with_reducible first | exact HB.out | apply below_alloc | apply pw_below_drewN | apply below_drew1 | refine below_set ?_ GE139.out) | exact HB.out)) hb); have n2_ := Aside0.mk (hbox); have n3_ := Aside0.mk ((by rw [hg]; exact (below_size (by repeat (first | (with_reducible first | exact HB.out | apply below_alloc | apply pw_below_drewN | apply below_drew1 | refine below_set ?_ GE139.out) | exact HB.out))) : w.heap.size ≤ gb140)); have n4_ := Aside0.mk ((by rw [hg]; exact (below_size (by repeat (first | (with_reducible first | exact HB.out | apply below_alloc | apply pw_below_drewN | apply below_drew1 | refine below_set ?_ GE139.out) | exact HB.out))) : w.heap.size ≤ gb140)); have n5_ := Aside0.mk ((by rw [hg]; exact Nat.ne_of_lt (blk_lt (g := gb139) (o := .cells #[.bool a0_0, .string a0_1, .string a0_2] 32 (0, 0)) (by (with_reducible repeat (first | refine blk_drewN ?_ _ | refine blk_drew ?_ | refine blk_alloc ?_ _)); exact BK139.out)) : gb139 ≠ gb140)); have n6_ := Aside0.mk ((by rw [hg]; exact Nat.ne_of_gt (blk_lt (g := gb139) (o := .cells #[.bool a0_0, .string a0_1, .string a0_2] 32 (0, 0)) (by (with_reducible repeat (first | refine blk_drewN ?_ _ | refine blk_drew ?_ | refine blk_alloc ?_ _)); exact BK139.out)) : gb140 ≠ gb139)); clear BK139; clear HB; have BK139 := n0_; have HB := n1_; have BK140 := n2_; have GW140 := n3_; have GE140 := n4_; have NB139_140 := n5_; have NB140_139 := n6_; clear n0_ n1_ n2_ n3_ n4_ n5_ n6_; clear hb hbox hg; have hnb7 := NB139_140.out; have hnc7 := NB140_139.out; have hcz8_0 : w6.cell? ⟨gb139, 0, none⟩ = some (.bool a0_0) := (blk_cell BK139.out 0).trans rfl; have hcz8_1 : w6.cell? ⟨gb139, 1, none⟩ = some (.string a0_1) := (blk_cell BK139.out 1).trans rfl; have hcz8_2 : w6.cell? ⟨gb139, 2, none⟩ = some (.string a0_2) := (blk_cell BK139.out 2).trans rfl; have hfz8_0 := blk_frozen BK139.out 0; have hfz8_1 := blk_frozen BK139.out 1; have hfz8_2 := blk_frozen BK139.out 2; have hcz9_0 : w6.cell? ⟨gb140, 0, none⟩ = some (.bool a1_0) := (blk_cell BK140.out 0).trans rfl; have hcz9_1 : w6.cell? ⟨gb140, 1, none⟩ = some (.string a1_1) := (blk_cell BK140.out 1).trans rfl; have hcz9_2 : w6.cell? ⟨gb140, 2, none⟩ = some (.string a1_2) := (blk_cell BK140.out 2).trans rfl; have hfz9_0 := blk_frozen BK140.out 0; have hfz9_1 := blk_frozen BK140.out 1; have hfz9_2 := blk_frozen BK140.out 2))
      go_ret
      exact ⟨by first | rfl | (simp [errW_none, errW_some] <;> rfl) | (simp [*, errW_none, errW_some] <;> rfl), by repeat (first | (with_reducible first | exact HB.out | apply below_alloc | apply pw_below_drewN | apply below_drew1 | refine below_set ?_ GE139.out | refine below_set ?_ GE140.out) | exact HB.out)⟩
    · rw [if_neg c4] at H
      have c4b0 : (a0_1.toList == a1_1.toList) = false := beq_eq_false_iff_ne.mpr c4
      have c4b1 : (a0_1.toList != a1_1.toList) = true := bne_iff_ne.mpr c4
      obtain rfl := Option.some.inj H
      go_enter Try.func60, Try.ntmps60
      go_wp2_with (first | ((with_reducible refine gate_dst (N := 2) rfl ?_); refine box_event ?hg (N := 2) ?hd (cs := #[.bool a0_0, .string a0_1, .string a0_2]) (t := 32) ?hr ?_; (case hd => rfl); (case hg => rfl); (case hr => first | (go_simp; done) | (go_simp; rfl)); intro gb139 hg w10 hbox hb; have n0_ := Aside0.mk (below_step (by repeat (first | (with_reducible first | exact HB.out | apply below_alloc | apply pw_below_drewN | apply below_drew1) | exact HB.out)) hb); have n1_ := Aside0.mk (hbox); have n2_ := Aside0.mk ((by rw [hg]; exact (below_size (by repeat (first | (with_reducible first | exact HB.out | apply below_alloc | apply pw_below_drewN | apply below_drew1) | exact HB.out))) : w.heap.size ≤ gb139)); have n3_ := Aside0.mk ((by rw [hg]; exact (below_size (by repeat (first | (with_reducible first | exact HB.out | apply below_alloc | apply pw_below_drewN | apply below_drew1) | exact HB.out))) : w.heap.size ≤ gb139)); clear HB; have HB := n0_; have BK139 := n1_; have GW139 := n2_; have GE139 := n3_; clear n0_ n1_ n2_ n3_; clear hb hbox hg) | ((with_reducible refine gate_dst (N := 3) rfl ?_); refine box_event ?hg (N := 3) ?hd (cs := #[.bool a1_0, .string a1_1, .string a1_2]) (t := 32) ?hr ?_; (case hd => rfl); (case hg => rfl); (case hr => first | (go_simp; done) | (go_simp; rfl)); intro gb140 hg w11 hbox hb; have n0_ := Aside0.mk (blk_below (g := gb139) (o := .cells #[.bool a0_0, .string a0_1, .string a0_2] 32 (0, 0)) (by (with_reducible repeat (first | refine blk_drewN ?_ _ | refine blk_drew ?_ | refine blk_alloc ?_ _)); exact BK139.out) hb); have n1_ := Aside0.mk (below_step (by repeat (first | (with_reducible first | exact HB.out | apply below_alloc | apply pw_below_drewN | apply below_drew1 | refine below_set ?_ GE139.out) | exact HB.out)) hb); have n2_ := Aside0.mk (hbox); have n3_ := Aside0.mk ((by rw [hg]; exact (below_size (by repeat (first | (with_reducible first | exact HB.out | apply below_alloc | apply pw_below_drewN | apply below_drew1 | refine below_set ?_ GE139.out) | exact HB.out))) : w.heap.size ≤ gb140)); have n4_ := Aside0.mk ((by rw [hg]; exact (below_size (by repeat (first | (with_reducible first | exact HB.out | apply below_alloc | apply pw_below_drewN | apply below_drew1 | refine below_set ?_ GE139.out) | exact HB.out))) : w.heap.size ≤ gb140)); have n5_ := Aside0.mk ((by rw [hg]; exact Nat.ne_of_lt (blk_lt (g := gb139) (o := .cells #[.bool a0_0, .string a0_1, .string a0_2] 32 (0, 0)) (by (with_reducible repeat (first | refine blk_drewN ?_ _ | refine blk_drew ?_ | refine blk_alloc ?_ _)); exact BK139.out)) : gb139 ≠ gb140)); have n6_ := Aside0.mk ((by rw [hg]; exact Nat.ne_of_gt (blk_lt (g := gb139) (o := .cells #[.bool a0_0, .string a0_1, .string a0_2] 32 (0, 0)) (by (with_reducible repeat (first | refine blk_drewN ?_ _ | refine blk_drew ?_ | refine blk_alloc ?_ _)); exact BK139.out)) : gb140 ≠ gb139)); clear BK139; clear HB; have BK139 := n0_; have HB := n1_; have BK140 := n2_; have GW140 := n3_; have GE140 := n4_; have NB139_140 := n5_; have NB140_139 := n6_; clear n0_ n1_ n2_ n3_ n4_ n5_ n6_; clear hb hbox hg; have hnb12 := NB139_140.out; have hnc12 := NB140_139.out; have hcz13_0 : w11.cell? ⟨gb139, 0, none⟩ = some (.bool a0_0) := (blk_cell BK139.out 0).trans rfl; have hcz13_1 : w11.cell? ⟨gb139, 1, none⟩ = some (.string a0_1) := (blk_cell BK139.out 1).trans rfl; have hcz13_2 : w11.cell? ⟨gb139, 2, none⟩ = some (.string a0_2) := (blk_cell BK139.out 2).trans rfl; have hfz13_0 := blk_frozen BK139.out 0; have hfz13_1 := blk_frozen BK139.out 1; have hfz13_2 := blk_frozen BK139.out 2; have hcz14_0 : w11.cell? ⟨gb140, 0, none⟩ = some (.bool a1_0) := (blk_cell BK140.out 0).trans rfl; have hcz14_1 : w11.cell? ⟨gb140, 1, none⟩ = some (.string a1_1) := (blk_cell BK140.out 1).trans rfl; have hcz14_2 : w11.cell? ⟨gb140, 2, none⟩ = some (.string a1_2) := (blk_cell BK140.out 2).trans rfl; have hfz14_0 := blk_frozen BK140.out 0; have hfz14_1 := blk_frozen BK140.out 1; have hfz14_2 := blk_frozen BK140.out 2))
      go_ret
      exact ⟨by first | rfl | (simp [errW_none, errW_some] <;> rfl) | (simp [*, errW_none, errW_some] <;> rfl), by repeat (first | (with_reducible first | exact HB.out | apply below_alloc | apply pw_below_drewN | apply below_drew1 | refine below_set ?_ GE139.out | refine below_set ?_ GE140.out) | exact HB.out)⟩
  · rw [if_neg c3] at H
    have c3b0 : (a0_0 == a1_0) = false := by simpa using c3
    (try (have c3b1 : decide (a0_0 = a1_0) = false := by simpa using c3))
    (try (have c3b2 : (a0_0 == a1_0) = false := by simpa using c3))
    (try (have c3b3 : ¬ (a0_0 = a1_0) := by simpa using c3))
    clear c3
    obtain rfl := Option.some.inj H
    go_enter Try.func60, Try.ntmps60
    go_wp2_with (first | ((with_reducible refine gate_dst (N := 2) rfl ?_); refine box_event ?hg (N := 2) ?hd (cs := #[.bool a0_0, .string a0_1, .string a0_2]) (t := 32) ?hr ?_; (case hd => rfl); (case hg => rfl); (case hr => first | (go_simp; done) | (go_simp; rfl)); intro gb139 hg w15 hbox hb; have n0_ := Aside0.mk (below_step (by repeat (first | (with_reducible first | exact HB.out | apply below_alloc | apply pw_below_drewN | apply below_drew1) | exact HB.out)) hb); have n1_ := Aside0.mk (hbox); have n2_ := Aside0.mk ((by rw [hg]; exact (below_size (by repeat (first | (with_reducible first | exact HB.out | apply below_alloc | apply pw_below_drewN | apply below_drew1) | exact HB.out))) : w.heap.size ≤ gb139)); have n3_ := Aside0.mk ((by rw [hg]; exact (below_size (by repeat (first | (with_reducible first | exact HB.out | apply below_alloc | apply pw_below_drewN | apply below_drew1) | exact HB.out))) : w.heap.size ≤ gb139)); clear HB; have HB := n0_; have BK139 := n1_; have GW139 := n2_; have GE139 := n3_; clear n0_ n1_ n2_ n3_; clear hb hbox hg) | ((with_reducible refine gate_dst (N := 3) rfl ?_); refine box_event ?hg (N := 3) ?hd (cs := #[.bool a1_0, .string a1_1, .string a1_2]) (t := 32) ?hr ?_; (case hd => rfl); (case hg => rfl); (case hr => first | (go_simp; done) | (go_simp; rfl)); intro gb140 hg w16 hbox hb; have n0_ := Aside0.mk (blk_below (g := gb139) (o := .cells #[.bool a0_0, .string a0_1, .string a0_2] 32 (0, 0)) (by (with_reducible repeat (first | refine blk_drewN ?_ _ | refine blk_drew ?_ | refine blk_alloc ?_ _)); exact BK139.out) hb); have n1_ := Aside0.mk (below_step (by repeat (first | (with_reducible first | exact HB.out | apply below_alloc | apply pw_below_drewN | apply below_drew1 | refine below_set ?_ GE139.out) | exact HB.out)) hb); have n2_ := Aside0.mk (hbox); have n3_ := Aside0.mk ((by rw [hg]; exact (below_size (by repeat (first | (with_reducible first | exact HB.out | apply below_alloc | apply pw_below_drewN | apply below_drew1 | refine below_set ?_ GE139.out) | exact HB.out))) : w.heap.size ≤ gb140)); have n4_ := Aside0.mk ((by rw [hg]; exact (below_size (by repeat (first | (with_reducible first | exact HB.out | apply below_alloc | apply pw_below_drewN | apply below_drew1 | refine below_set ?_ GE139.out) | exact HB.out))) : w.heap.size ≤ gb140)); have n5_ := Aside0.mk ((by rw [hg]; exact Nat.ne_of_lt (blk_lt (g := gb139) (o := .cells #[.bool a0_0, .string a0_1, .string a0_2] 32 (0, 0)) (by (with_reducible repeat (first | refine blk_drewN ?_ _ | refine blk_drew ?_ | refine blk_alloc ?_ _)); exact BK139.out)) : gb139 ≠ gb140)); have n6_ := Aside0.mk ((by rw [hg]; exact Nat.ne_of_gt (blk_lt (g := gb139) (o := .cells #[.bool a0_0, .string a0_1, .string a0_2] 32 (0, 0)) (by (with_reducible repeat (first | refine blk_drewN ?_ _ | refine blk_drew ?_ | refine blk_alloc ?_ _)); exact BK139.out)) : gb140 ≠ gb139)); clear BK139; clear HB; have BK139 := n0_; have HB := n1_; have BK140 := n2_; have GW140 := n3_; have GE140 := n4_; have NB139_140 := n5_; have NB140_139 := n6_; clear n0_ n1_ n2_ n3_ n4_ n5_ n6_; clear hb hbox hg; have hnb17 := NB139_140.out; have hnc17 := NB140_139.out; have hcz18_0 : w16.cell? ⟨gb139, 0, none⟩ = some (.bool a0_0) := (blk_cell BK139.out 0).trans rfl; have hcz18_1 : w16.cell? ⟨gb139, 1, none⟩ = some (.string a0_1) := (blk_cell BK139.out 1).trans rfl; have hcz18_2 : w16.cell? ⟨gb139, 2, none⟩ = some (.string a0_2) := (blk_cell BK139.out 2).trans rfl; have hfz18_0 := blk_frozen BK139.out 0; have hfz18_1 := blk_frozen BK139.out 1; have hfz18_2 := blk_frozen BK139.out 2; have hcz19_0 : w16.cell? ⟨gb140, 0, none⟩ = some (.bool a1_0) := (blk_cell BK140.out 0).trans rfl; have hcz19_1 : w16.cell? ⟨gb140, 1, none⟩ = some (.string a1_1) := (blk_cell BK140.out 1).trans rfl; have hcz19_2 : w16.cell? ⟨gb140, 2, none⟩ = some (.string a1_2) := (blk_cell BK140.out 2).trans rfl; have hfz19_0 := blk_frozen BK140.out 0; have hfz19_1 := blk_frozen BK140.out 1; have hfz19_2 := blk_frozen BK140.out 2))
    go_ret
    exact ⟨by first | rfl | (simp [errW_none, errW_some] <;> rfl) | (simp [*, errW_none, errW_some] <;> rfl), by repeat (first | (with_reducible first | exact HB.out | apply below_alloc | apply pw_below_drewN | apply below_drew1 | refine below_set ?_ GE139.out | refine below_set ?_ GE140.out) | exact HB.out)⟩

end Go.Proofs.Ytbkfdejcmimhgaa.PDiaryExact
end
