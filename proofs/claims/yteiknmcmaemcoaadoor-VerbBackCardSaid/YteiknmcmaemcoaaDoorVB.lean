/- VerbBack: the walk. -/
import Derived.Test.YteiknmcmaemcoaaDoorProg
import Derived.WalkKit
import Derived.WalkLawsBesides
import Derived.Outline
import Derived.LoopTactic
import Derived.Lib.Hide
import Derived.Deep.QuietTactic
import Derived.BigQuiet
import Derived.Deep.LoopGhost
import Derived.Deep.DeepCutAuto
import Derived.Deep.CutBlock
import Derived.Deep.RegionHeld3
import Derived.Deep.RegionWith
import Derived.Deep.WholeRow
import Derived.Laws.Rows
import Derived.Laws.Tables
import Derived.Laws.ResultCell
import Derived.StillTailTactics
import Derived.Deep.DeepMust
import Derived.IntWalk
import Derived.KernelRfl
import Derived.Test.YteiknmcmaemcoaaDoorWWords
import Derived.Test.YteiknmcmaemcoaaDoorWLast
import Derived.Test.YteiknmcmaemcoaaDoorWMore
import Derived.RegionTactic
import Derived.Deep.CutBlock
import Derived.Test.YteiknmcmaemcoaaDoorVBa
import Derived.Test.YteiknmcmaemcoaaDoorVHv
namespace Go.Proofs.YteiknmcmaemcoaaDoor
open Go.RowKit Go.Lib
open Go.Proofs.YteiknmcmaemcoaaDoorW.PrintWords Go.Proofs.YteiknmcmaemcoaaDoorW.PrintLast Go.Proofs.YteiknmcmaemcoaaDoorW.PrintMore
set_option linter.unusedVariables false
set_option linter.unusedSimpArgs false
theorem code_none {l : V.Bs} (h : (V.parse l).1 = none) : V.cmd l = V.noCmd := by unfold V.cmd; rw [h]; rfl
theorem code_some {l : V.Bs} {c : V.Cmd} (h : (V.parse l).1 = some c) : V.cmd l = c ∧ V.code l = 0 := ⟨by unfold V.cmd; rw [h]; rfl, code_zero l c h⟩
set_option maxRecDepth 100000 in
set_option maxHeartbeats 8000000 in
theorem back_walk (s : ByteArray) (c : V.Cmd) (A : Option Addr) (q : Nat) (w : World) (hc : OkCmd c) (hx : Kd.C kp w A c.prms.length c.prms) (hsz : s.size ≤ 140737488351232) (hv : Vars w) :
    Calls Tryd.prog 3 #[.string s, cagg c A q] w fun e w' => e = .returned (.bool true) ∧ Below w.heap.size w w' := by
  obtain ⟨w1, hw1⟩ : ∃ w1, w1 = w.alloc (.cells #[.int .i64 c.kind, .string (str c.text), .bool c.path.null, .string (str c.path.loc), .string (str c.path.dom), .slice A c.prms.length q] 26) := ⟨_, rfl⟩
  have hb1 : Below w.heap.size w w1 := by rw [hw1]; exact (Below.refl _ w).alloc (Nat.le_refl _) _
  have hra : w1.heap[w.heap.size]? = some (.cells #[.int .i64 c.kind, .string (str c.text), .bool c.path.null, .string (str c.path.loc), .string (str c.path.dom), .slice A c.prms.length q] 26 (0, 0)) := by rw [hw1]; exact heap_alloc_new _ _
  have hsb : w.heap.size < w1.heap.size := (Array.getElem?_eq_some_iff.1 hra).1
  have hrow : ∀ wx, Below w1.heap.size w1 wx → wx.heap[w.heap.size]? = some (.cells #[.int .i64 c.kind, .string (str c.text), .bool c.path.null, .string (str c.path.loc), .string (str c.path.dom), .slice A c.prms.length q] 26 (0, 0)) := fun wx h => (h.block _ hsb).trans hra
  have hhv := heavy_any c A q w1 (Kd.C_below hx hb1) hc
  have HRO := Aside0.mk hrow
  have HX1 := Aside0.mk (Kd.C_below hx hb1)
  have HV1 := Aside0.mk (hv.go hb1)
  have HB1 := Aside0.mk hb1
  have HOK := Aside0.mk hc
  obtain ⟨B, hB⟩ : ∃ B, B = V.heavy c := ⟨_, rfl⟩
  rw [← hB] at hhv
  have HHV := Aside0.mk hhv
  have HB := Aside0.mk hB
  obtain ⟨⟨a0, a1, a2, a3, a4, a5⟩, _⟩ := cells6 hra
  clear hhv hB hrow hsb hra hb1 hv hx hc
  go_enter Tryd.func3, Tryd.ntmps3
  go_upto_region 1 with (fail)
  rw [← hw1]
  clear hw1
  by_cases hs : 1000 < s.size
  · have t1 : decide ((1000 : Int) < (s.size : Int)) = true := by simp; omega
    have t2 : decide (1000 < s.size) = true := by simp; omega
    go_wp2_with (fail)
    go_ret
    exact ⟨rfl, HB1.out⟩
  have t1 : decide ((1000 : Int) < (s.size : Int)) = false := by simp; omega
  have t2 : decide (1000 < s.size) = false := by simp; omega
  cases B with
  | true =>
    go_wp2_with (first | (go_at_call 8; (with_reducible refine Calls.mono HHV.out ?_); rintro e w2 ⟨rfl, h⟩; have H2 := Aside0.mk h; clear h))
    go_ret
    exact ⟨rfl, HB1.out.trans (H2.out.mono HB1.out.size)⟩
  | false =>
  obtain ⟨hfit, _⟩ := heavy_fit c HOK.out HB.out.symm
  have htx := fun w hx hv => text_any c A q w hfit hx hv
  obtain ⟨T, hT⟩ : ∃ T, T = V.text c := ⟨_, rfl⟩
  rw [← hT] at htx
  obtain ⟨X, hX⟩ : ∃ X, X = str (T.getD []) := ⟨_, rfl⟩
  obtain ⟨N, hN⟩ : ∃ N, N = errOf T.isSome := ⟨_, rfl⟩
  unfold textV at htx
  rw [← hX, ← hN] at htx
  have HTX := Aside0.mk htx
  have HX := Aside0.mk hX
  have HT := Aside0.mk hT
  have HN := Aside0.mk hN
  have HSZ := Aside0.mk (show s.size ≤ 1000 by omega)
  have HFIT := Aside0.mk hfit
  clear htx hX hT hN hfit hs
  go_upto_region 3 with (first | (go_at_call 8; (with_reducible refine Calls.mono HHV.out ?_); rintro e w2 ⟨rfl, h⟩; have H2 := Aside0.mk h; clear h))
  clear a0 a1 a2 a3 a4 a5
  obtain ⟨⟨a0, a1, a2, a3, a4, a5⟩, _⟩ := cells6 (HRO.out w2 H2.out)
  have HV2 := Aside0.mk (HV1.out.go H2.out)
  have HX2 := Aside0.mk (Kd.C_below HX1.out H2.out)
  have HB2 := Aside0.mk (HB1.out.trans (H2.out.mono HB1.out.size))
  go_upto_region 4 with (first | (go_at_call 9; (with_reducible refine Calls.mono (HTX.out w2 HX2.out HV2.out) ?_); rintro e w3 ⟨rfl, h⟩; have H3 := Aside0.mk h; clear h))
  clear a0 a1 a2 a3 a4 a5
  have hb13 : Below w1.heap.size w1 w3 := H2.out.trans (H3.out.mono H2.out.size)
  have HB13 := Aside0.mk hb13
  have HRO3 := Aside0.mk (HRO.out w3 hb13)
  have HV3 := Aside0.mk (HV2.out.go H3.out)
  have HX3 := Aside0.mk (Kd.C_below HX2.out H3.out)
  clear hb13
  go_cut [28] (fun v wc => v = .bool T.isSome ∧ wc = w3)
  case first =>
    have hn : N = errOf T.isSome := HN.out
    cases hTs : T.isSome with
    | true =>
      have hn0 : N = 0 := by rw [hn, hTs]; rfl
      subst hn0
      have HTS := Aside0.mk hTs
      clear hn hTs
      go_wp2_with (fail)
      go_meet
      case rel => exact ⟨by rw [HTS.out], rfl⟩
    | false =>
      have hn0 : N = 5 := by rw [hn, hTs]; rfl
      subst hn0
      have HTS := Aside0.mk hTs
      clear hn hTs
      go_wp2_with (fail)
      go_meet
      case rel => exact ⟨by rw [HTS.out], rfl⟩
  case rest =>
  obtain ⟨rfl, rfl⟩ := hcut
  obtain ⟨w3, rfl⟩ : ∃ wz : World, wz = wc := ⟨_, rfl⟩
  apply_assumption
  go_cut [6] (fun v wc => Aside0 (Below w3.heap.size w3 wc))
  case first =>
    cases hTs : T with
    | none =>
      rw [show (none : Option V.Bs).isSome = false from rfl]
      go_wp2_with (fail)
      go_meet
      case rel => exact ⟨Below.refl _ _⟩
    | some tb =>
      rw [show (some tb : Option V.Bs).isSome = true from rfl]
      have htb : V.text c = some tb := by rw [← HT.out, hTs]
      obtain ⟨hp, hl⟩ := text_some htb
      have hXs : X.size = tb.length := by rw [HX.out, hTs]; exact str_size _
      have hpx := fun w hv => parse_uni X w (by omega) hv
      have hlx : lst X = tb := by rw [HX.out, hTs]; exact lst_str _
      obtain ⟨e1, e2⟩ := code_some hp
      rw [hlx, e1, e2] at hpx
      have HPX := Aside0.mk hpx
      have t3 : decide ((510 : Int) < (X.size : Int)) = false := by simp; omega
      have t4 : decide (510 < X.size) = false := by simp; omega
      have hkc : ∀ (A1 A2 : Option Addr) (q1 q2 : Nat) (w : World), Kd.C kp w A1 c.prms.length c.prms → Kd.C kp w A2 c.prms.length c.prms → Calls Tryd.prog 11 #[cagg c A1 q1, cagg c A2 q2] w fun e w' => e = .returned (.bool true) ∧ Below w.heap.size w w' := by
        intro A1 A2 q1 q2 w h1 h2
        have h := kcmd_any c c A1 A2 q1 q2 w h1 h2 (by have := HFIT.out.cnt; omega)
        rw [decide_eq_true rfl] at h
        exact h
      have HKC := Aside0.mk hkc
      clear htb hp hl hXs hpx hlx e1 e2 hkc
      go_upto_region 6 with (first | (go_at_call 10; (with_reducible refine Calls.mono (HPX.out _ HV3.out) ?_); rintro e x4 ⟨⟨A4, q4, rfl, hC, hl⟩, h⟩; have H4 := Aside0.mk h; have HC4 := Aside0.mk hC; clear h hC hl))
      obtain ⟨w4, hw⟩ : ∃ wz, wz = x4.alloc (.cells #[.int .i64 c.kind, .string (str c.text), .bool c.path.null, .string (str c.path.loc), .string (str c.path.dom), .slice A4 c.prms.length q4] 26) := ⟨_, rfl⟩
      rw [← hw]
      obtain ⟨G4, hG⟩ : ∃ G, G = x4.heap.size := ⟨_, rfl⟩
      rw [← hG]
      have hr : w4.heap[G4]? = some (.cells #[.int .i64 c.kind, .string (str c.text), .bool c.path.null, .string (str c.path.loc), .string (str c.path.dom), .slice A4 c.prms.length q4] 26 (0, 0)) := by rw [hw, hG]; exact heap_alloc_new _ _
      have hb1 : Below x4.heap.size x4 w4 := by rw [hw]; exact (Below.refl _ _).alloc (Nat.le_refl _) _
      have hb2 : Below w3.heap.size w3 w4 := H4.out.trans (hb1.mono H4.out.size)
      have hs2 : G4 < w4.heap.size := (Array.getElem?_eq_some_iff.1 hr).1
      have hrow : ∀ wx, Below w4.heap.size w4 wx → wx.heap[G4]? = some (.cells #[.int .i64 c.kind, .string (str c.text), .bool c.path.null, .string (str c.path.loc), .string (str c.path.dom), .slice A4 c.prms.length q4] 26 (0, 0)) := fun wx h => (h.block _ hs2).trans hr
      have HB4 := Aside0.mk hb2
      have HV4 := Aside0.mk (HV3.out.go hb2)
      have HC4b := Aside0.mk (Kd.C_below HC4.out hb1)
      clear hw hG hb1 hb2 hs2 hrow
      obtain ⟨⟨b0, b1, b2, b3, b4, b5⟩, _⟩ := cells6 hr
      clear hr
      have hr3 := (HB4.out.block _ (Array.getElem?_eq_some_iff.1 HRO3.out).1).trans HRO3.out
      obtain ⟨⟨a0, a1, a2, a3, a4, a5⟩, _⟩ := cells6 hr3
      have HX4 := Aside0.mk (Kd.C_below HX3.out HB4.out)
      clear hr3
      go_wp2_with (first | (go_at_call 11; (with_reducible refine Calls.mono (HKC.out A4 A q4 q w4 HC4b.out HX4.out) ?_); rintro e w5 ⟨rfl, h⟩; have H5 := Aside0.mk h; clear h))
      go_meet
      case rel => exact ⟨HB4.out.trans (H5.out.mono HB4.out.size)⟩
  case rest =>
  obtain ⟨w6, rfl⟩ : ∃ wz : World, wz = wc := ⟨_, rfl⟩
  have HB6 := Aside0.mk (HB1.out.trans ((HB13.out.trans (hcut.out.mono HB13.out.size)).mono HB1.out.size))
  have HV6 := Aside0.mk (HV3.out.go hcut.out)
  have hps := fun w hv => parse_uni s w (by have := HSZ.out; omega) hv
  clear hcut
  apply_assumption
  cases hp : (V.parse (lst s)).1 with
  | none =>
    have hcm := code_none hp
    have hcd : V.code (lst s) = 500 ∨ V.code (lst s) = 501 ∨ V.code (lst s) = 504 := code_pos _ hp
    rw [hcm] at hps
    have hpk : ∀ (A : Option Addr) (q : Nat) (w : World), Kd.C kp w A V.noCmd.prms.length V.noCmd.prms → Calls Tryd.prog 11 #[cagg V.noCmd A q, .agg #[.int .i64 0, .string ⟨#[]⟩, .bool false, .string ⟨#[]⟩, .string ⟨#[]⟩, .slice none 0 0]] w fun e w' => e = .returned (.bool true) ∧ Below w.heap.size w w' := by
      intro A q w hC
      have h := kcmd_any V.noCmd V.noCmd A none q 0 w hC (Kd.C_nil _ _) (Nat.zero_le _)
      rw [decide_eq_true rfl] at h
      exact h
    obtain ⟨cm, hcme⟩ : ∃ c, c = V.noCmd := ⟨_, rfl⟩
    rw [← hcme] at hps hpk
    have HPK := Aside0.mk hpk
    clear hcme hcm hpk hp
    rcases hcd with hcd | hcd | hcd
    all_goals
      rw [hcd] at hps
      have HPS := Aside0.mk hps
      clear hps hcd
      go_upto_region 9 with (first | (go_at_call 10; (with_reducible refine Calls.mono (HPS.out _ HV6.out) ?_); rintro e x7 ⟨⟨A7, q7, rfl, hC, hl⟩, h⟩; have H7 := Aside0.mk h; have HC7 := Aside0.mk hC; clear h hC hl))
      obtain ⟨w7, hw⟩ : ∃ wz, wz = x7.alloc (.cells #[.int .i64 cm.kind, .string (str cm.text), .bool cm.path.null, .string (str cm.path.loc), .string (str cm.path.dom), .slice A7 cm.prms.length q7] 26) := ⟨_, rfl⟩
      rw [← hw]
      obtain ⟨G7, hG⟩ : ∃ G, G = x7.heap.size := ⟨_, rfl⟩
      rw [← hG]
      have hr : w7.heap[G7]? = some (.cells #[.int .i64 cm.kind, .string (str cm.text), .bool cm.path.null, .string (str cm.path.loc), .string (str cm.path.dom), .slice A7 cm.prms.length q7] 26 (0, 0)) := by rw [hw, hG]; exact heap_alloc_new _ _
      have hb1 : Below x7.heap.size x7 w7 := by rw [hw]; exact (Below.refl _ _).alloc (Nat.le_refl _) _
      have hb2 : Below w6.heap.size w6 w7 := H7.out.trans (hb1.mono H7.out.size)
      have hs2 : G7 < w7.heap.size := (Array.getElem?_eq_some_iff.1 hr).1
      have hrow : ∀ wx, Below w7.heap.size w7 wx → wx.heap[G7]? = some (.cells #[.int .i64 cm.kind, .string (str cm.text), .bool cm.path.null, .string (str cm.path.loc), .string (str cm.path.dom), .slice A7 cm.prms.length q7] 26 (0, 0)) := fun wx h => (h.block _ hs2).trans hr
      have HB7 := Aside0.mk hb2
      have HV7 := Aside0.mk (HV6.out.go hb2)
      have HC7b := Aside0.mk (Kd.C_below HC7.out hb1)
      clear hw hG hb1 hb2 hs2 hrow
      obtain ⟨⟨b0, b1, b2, b3, b4, b5⟩, _⟩ := cells6 hr
      clear hr
      go_wp2_with (first | (go_at_call 11; (with_reducible refine Calls.mono (HPK.out A7 q7 w7 HC7b.out) ?_); rintro e w8 ⟨rfl, h⟩; have H8 := Aside0.mk h; clear h) | (go_at_call 12; (with_reducible refine Calls.mono (wakes_any _ (HV7.out.go H8.out)) ?_); rintro e w9 ⟨rfl, h⟩; have H9 := Aside0.mk (H8.out.trans (h.mono H8.out.size)); clear h))
      go_ret
      exact ⟨rfl, HB6.out.trans ((HB7.out.trans (H9.out.mono HB7.out.size)).mono HB6.out.size)⟩
  | some x =>
    obtain ⟨e1, e2⟩ := code_some hp
    rw [e1, e2] at hps
    have hfx := fit_parse hp
    have htx := back_plain _ _ hp
    obtain ⟨hpl, hll⟩ := text_some htx
    obtain ⟨L, hL⟩ : ∃ L, L = str (V.line x) := ⟨_, rfl⟩
    have hLs : L.size ≤ 510 := by rw [hL, str_size]; exact hll
    have hpy := fun w hv => parse_uni L w (by omega) hv
    have hlL : lst L = V.line x := by rw [hL]; exact lst_str _
    obtain ⟨f1, f2⟩ := code_some hpl
    rw [hlL, f1, f2] at hpy
    have hty : ∀ (A : Option Addr) (q : Nat) (w : World), Kd.C kp w A x.prms.length x.prms → Vars w → Calls Tryd.prog 9 #[cagg x A q] w fun e w' => e = .returned (.tuple #[.string L, .int .i64 0]) ∧ Below w.heap.size w w' := by
      intro A q w hC hv
      have h := text_any x A q w hfx hC hv
      rw [htx] at h
      rw [hL]
      exact h
    have hkc : ∀ (A1 A2 : Option Addr) (q1 q2 : Nat) (w : World), Kd.C kp w A1 x.prms.length x.prms → Kd.C kp w A2 x.prms.length x.prms → Calls Tryd.prog 11 #[cagg x A1 q1, cagg x A2 q2] w fun e w' => e = .returned (.bool true) ∧ Below w.heap.size w w' := by
      intro A1 A2 q1 q2 w h1 h2
      have h := kcmd_any x x A1 A2 q1 q2 w h1 h2 (by have := hfx.cnt; omega)
      rw [decide_eq_true rfl] at h
      exact h
    have HPS := Aside0.mk hps
    have HPY := Aside0.mk hpy
    have HTY := Aside0.mk hty
    have HKC := Aside0.mk hkc
    clear hps hpy hty hkc hp e1 e2 hfx htx hpl hll hL hLs hlL f1 f2
    go_upto_region 11 with (first | (go_at_call 10; (with_reducible refine Calls.mono (HPS.out _ HV6.out) ?_); rintro e x7 ⟨⟨A7, q7, rfl, hC, hl⟩, h⟩; have H7 := Aside0.mk h; have HC7 := Aside0.mk hC; clear h hC hl))
    obtain ⟨w7, hw⟩ : ∃ wz, wz = x7.alloc (.cells #[.int .i64 x.kind, .string (str x.text), .bool x.path.null, .string (str x.path.loc), .string (str x.path.dom), .slice A7 x.prms.length q7] 26) := ⟨_, rfl⟩
    rw [← hw]
    obtain ⟨G7, hG⟩ : ∃ G, G = x7.heap.size := ⟨_, rfl⟩
    rw [← hG]
    have hr : w7.heap[G7]? = some (.cells #[.int .i64 x.kind, .string (str x.text), .bool x.path.null, .string (str x.path.loc), .string (str x.path.dom), .slice A7 x.prms.length q7] 26 (0, 0)) := by rw [hw, hG]; exact heap_alloc_new _ _
    have hb1 : Below x7.heap.size x7 w7 := by rw [hw]; exact (Below.refl _ _).alloc (Nat.le_refl _) _
    have hb2 : Below w6.heap.size w6 w7 := H7.out.trans (hb1.mono H7.out.size)
    have hs2 : G7 < w7.heap.size := (Array.getElem?_eq_some_iff.1 hr).1
    have hrow : ∀ wx, Below w7.heap.size w7 wx → wx.heap[G7]? = some (.cells #[.int .i64 x.kind, .string (str x.text), .bool x.path.null, .string (str x.path.loc), .string (str x.path.dom), .slice A7 x.prms.length q7] 26 (0, 0)) := fun wx h => (h.block _ hs2).trans hr
    have HB7 := Aside0.mk hb2
    have HV7 := Aside0.mk (HV6.out.go hb2)
    have HC7b := Aside0.mk (Kd.C_below HC7.out hb1)
    have HRO7 := Aside0.mk hrow
    clear hw hG hb1 hb2 hs2 hrow
    obtain ⟨⟨b0, b1, b2, b3, b4, b5⟩, _⟩ := cells6 hr
    clear hr
    go_upto_region 14 with (first | (go_at_call 9; (with_reducible refine Calls.mono (HTY.out A7 q7 w7 HC7b.out HV7.out) ?_); rintro e w8 ⟨rfl, h⟩; have H8 := Aside0.mk h; clear h))
    clear b0 b1 b2 b3 b4 b5
    have HB8 := Aside0.mk (HB7.out.trans (H8.out.mono HB7.out.size))
    have HV8 := Aside0.mk (HV7.out.go H8.out)
    have HRO8 := Aside0.mk (HRO7.out w8 H8.out)
    have HC8 := Aside0.mk (Kd.C_below HC7b.out H8.out)
    go_upto_region 15 with (first | (go_at_call 10; (with_reducible refine Calls.mono (HPY.out _ HV8.out) ?_); rintro e x9 ⟨⟨A9, q9, rfl, hC, hl⟩, h⟩; have H9 := Aside0.mk h; have HC9 := Aside0.mk hC; clear h hC hl))
    obtain ⟨w9, hw⟩ : ∃ wz, wz = x9.alloc (.cells #[.int .i64 x.kind, .string (str x.text), .bool x.path.null, .string (str x.path.loc), .string (str x.path.dom), .slice A9 x.prms.length q9] 26) := ⟨_, rfl⟩
    rw [← hw]
    obtain ⟨G9, hG⟩ : ∃ G, G = x9.heap.size := ⟨_, rfl⟩
    rw [← hG]
    have hr : w9.heap[G9]? = some (.cells #[.int .i64 x.kind, .string (str x.text), .bool x.path.null, .string (str x.path.loc), .string (str x.path.dom), .slice A9 x.prms.length q9] 26 (0, 0)) := by rw [hw, hG]; exact heap_alloc_new _ _
    have hb1 : Below x9.heap.size x9 w9 := by rw [hw]; exact (Below.refl _ _).alloc (Nat.le_refl _) _
    have hb2 : Below w8.heap.size w8 w9 := H9.out.trans (hb1.mono H9.out.size)
    have hs2 : G9 < w9.heap.size := (Array.getElem?_eq_some_iff.1 hr).1
    have hrow : ∀ wx, Below w9.heap.size w9 wx → wx.heap[G9]? = some (.cells #[.int .i64 x.kind, .string (str x.text), .bool x.path.null, .string (str x.path.loc), .string (str x.path.dom), .slice A9 x.prms.length q9] 26 (0, 0)) := fun wx h => (h.block _ hs2).trans hr
    have HB9 := Aside0.mk hb2
    have HV9 := Aside0.mk (HV8.out.go hb2)
    have HC9b := Aside0.mk (Kd.C_below HC9.out hb1)
    clear hw hG hb1 hb2 hs2 hrow
    obtain ⟨⟨d0, d1, d2, d3, d4, d5⟩, _⟩ := cells6 hr
    clear hr
    have hr8 := (HB9.out.block _ (Array.getElem?_eq_some_iff.1 HRO8.out).1).trans HRO8.out
    obtain ⟨⟨b0, b1, b2, b3, b4, b5⟩, _⟩ := cells6 hr8
    have HC8b := Aside0.mk (Kd.C_below HC8.out HB9.out)
    clear hr8
    go_wp2_with (first | (go_at_call 11; (with_reducible refine Calls.mono (HKC.out A7 A9 q7 q9 w9 HC8b.out HC9b.out) ?_); rintro e w10 ⟨rfl, h⟩; have H10 := Aside0.mk h; clear h) | (go_at_call 12; (with_reducible refine Calls.mono (wakes_any _ (HV9.out.go H10.out)) ?_); rintro e w11 ⟨rfl, h⟩; have H11 := Aside0.mk (H10.out.trans (h.mono H10.out.size)); clear h))
    go_ret
    exact ⟨rfl, HB6.out.trans ((HB8.out.trans ((HB9.out.trans (H11.out.mono HB9.out.size)).mono HB8.out.size)).mono HB6.out.size)⟩
end Go.Proofs.YteiknmcmaemcoaaDoor
