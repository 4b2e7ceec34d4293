/- What verb's mailbox answers. -/
import Derived.Test.YteiknmcmaemcoaaDoorProg
import Derived.WalkKit
import Derived.WalkLawsBesides
import Derived.Outline
import Derived.LoopTactic
import Derived.Lib.Hide
import Derived.Deep.QuietTactic
import Derived.BigQuiet
import Derived.Deep.LoopGhost
import Derived.Deep.DeepCutAuto
import Derived.Deep.CutBlock
import Derived.Deep.RegionHeld3
import Derived.Deep.RegionWith
import Derived.Deep.WholeRow
import Derived.Laws.Rows
import Derived.Laws.Tables
import Derived.Laws.ResultCell
import Derived.StillTailTactics
import Derived.Deep.DeepMust
import Derived.IntWalk
import Derived.KernelRfl
import Derived.Test.YteiknmcmaemcoaaDoorWWords
import Derived.Test.YteiknmcmaemcoaaDoorWLast
import Derived.Test.YteiknmcmaemcoaaDoorWMore
import Derived.RegionTactic
import Derived.Test.YteiknmcmaemcoaaDoorVl
namespace Go.Proofs.YteiknmcmaemcoaaDoor
open Go.RowKit Go.Lib
open Go.Proofs.YteiknmcmaemcoaaDoorW.PrintWords
set_option linter.unusedVariables false
set_option linter.unusedSimpArgs false
theorem kpR_on {w4 w5 : World} {B : Nat} {v : Value} {xs : List Prm} {ok : Nat → Prop} (h : kp.R 46 w4 B ok v xs) (hm : ∀ k, B ≤ k → w5.heap[k]? = w4.heap[k]?) : kp.R 46 w5 B (fun _ => True) v xs :=
  Kd.R_mono (Kd.R_step (Kd.R_bound h) (fun k hk _ => hm k hk.2.1)) (fun _ _ => trivial)
theorem set6_other {w : World} {g k : Nat} (h : k ≠ g) {a0 a1 a2 a3 a4 a5 : Value} : ((((((w.setCell ⟨g, 0, none⟩ a0).setCell ⟨g, 1, none⟩ a1).setCell ⟨g, 2, none⟩ a2).setCell ⟨g, 3, none⟩ a3).setCell ⟨g, 4, none⟩ a4).setCell ⟨g, 5, none⟩ a5).heap[k]? = w.heap[k]? := by
  rw [Below.heap_setCell _ ⟨g, 5, none⟩ a5 k h, Below.heap_setCell _ ⟨g, 4, none⟩ a4 k h, Below.heap_setCell _ ⟨g, 3, none⟩ a3 k h, Below.heap_setCell _ ⟨g, 2, none⟩ a2 k h, Below.heap_setCell _ ⟨g, 1, none⟩ a1 k h, Below.heap_setCell _ ⟨g, 0, none⟩ a0 k h]
/-- A command. -/
structure V.Cmd where
  kind : Int
  text : V.Bs
  path : V.Path
  prms : List Prm
deriving DecidableEq
def V.noCmd : V.Cmd := ⟨0, [], V.noPath, []⟩
/-- A command's value, its params' slice told. -/
def cval (c : V.Cmd) (sl : Value) : Value := .agg (cv c.kind (str c.text) c.path.null (str c.path.loc) (str c.path.dom) sl)
/-- What a call leaves that answers a command or none, with a mark. -/
def cmdPost (T : Option V.Cmd) (yes no : Value) (B : Nat) (e : Ending) (w' : World) : Prop := match T with
  | none => e = .returned (.tuple #[cval V.noCmd noSl, no])
  | some c => ∃ v, e = .returned (.tuple #[cval c v, yes]) ∧ kp.R 46 w' B (fun _ => True) v c.prms ∧ c.prms.length ≤ 100000
def V.mbox (k : Int) : Option V.Path → Option (List Prm) → Option V.Cmd
  | some p, some ps => if k = 3 ∧ p.null = true then none else some ⟨k, [], p, ps⟩
  | _, _ => none
def V.mailbox (k : Int) (l : V.Bs) : Option V.Cmd := V.mbox k (V.pparse ((V.splitOn 32 l).headD [])) (V.params k (V.splitOn 32 l).tail [])
theorem slice_one (b N : Nat) (h : 1 ≤ N) (off m : Nat) (ho : off = if N = 1 then 0 else 1) (hm : m = N - 1) (w : World) : (Instr.slice 40 (.slice (some ⟨b, 0, none⟩) N N) (some (.int .i64 1)) none none).run Tryd.prog w = .ok (.slice (some ⟨b, off, none⟩) m m) w := by
  subst ho hm
  rw [run_slice_l w 40 (some ⟨b, 0, none⟩) N N (by kernel_rfl) .i64 1 (by decide) (by omega)]
  rw [show Tryd.prog.elem 40 = 9 by kernel_rfl, Tryd.sizeOf9 w]
  by_cases h1 : N = 1
  · subst h1; simp [sliced, Result.andThen]
  · simp [sliced, Result.andThen, h1, Addr.add]
set_option maxRecDepth 100000 in
set_option maxHeartbeats 4000000 in
theorem mailbox_any (k : Int) (s : ByteArray) (w : World) (hs : s.size ≤ 10000) (hv : Vars w) :
    Calls Tryd.prog 34 #[.int .i64 k, .string s] w fun e w' => cmdPost (V.mailbox k (lst s)) (.bool true) (.bool false) w.heap.size e w' ∧ Below w.heap.size w w' := by
  obtain ⟨T, hT⟩ : ∃ T, T = V.mailbox k (lst s) := ⟨_, rfl⟩
  rw [← hT]
  have HT := Aside0.mk hT
  clear hT
  obtain ⟨ws, hws⟩ : ∃ ws, ws = V.splitOn 32 (lst s) := ⟨_, rfl⟩
  obtain ⟨wR, hwR⟩ : ∃ wR, wR = w.alloc (.cells #[.int .i64 0, .string { data := #[] }, .bool false, .string { data := #[] }, .string { data := #[] }, .slice none 0 0] 26) := ⟨_, rfl⟩
  have hbR : Below w.heap.size w wR := by rw [hwR]; exact (Below.refl _ w).alloc (Nat.le_refl _) _
  have hrow : wR.heap[w.heap.size]? = some (.cells #[.int .i64 0, .string { data := #[] }, .bool false, .string { data := #[] }, .string { data := #[] }, .slice none 0 0] 26 (0, 0)) := by rw [hwR]; exact heap_alloc_new _ _
  have hsz : wR.heap.size = w.heap.size + 1 := by rw [hwR]; simp
  have hlen : 1 ≤ ws.length := by
    rw [hws]
    cases h : V.splitOn 32 (lst s) with
    | nil => exact absurd h (V.splitOn_ne _ _)
    | cons a t => simp
  have hle : ws.length ≤ 10001 := by rw [hws]; have := splitOn_length 32 (lst s); rw [lst_length] at this; omega
  have hel : ∀ x ∈ ws, x.length ≤ 10000 := by intro x hx; rw [hws] at hx; have := splitOn_mem 32 _ _ hx; rw [lst_length] at this; omega
  have HVR := Aside0.mk (hv.go hbR)
  have HSP := Aside0.mk (split_any s 32 wR (by omega) HVR.out ⟨#[32]⟩ rfl)
  rw [← hws] at HSP
  have HBR := Aside0.mk hbR
  have HROW := Aside0.mk hrow
  have HSZ := Aside0.mk hsz
  have HWS := Aside0.mk hws
  have HEL := Aside0.mk hel
  clear hbR hrow hsz hws hel hv
  go_enter Tryd.func34, Tryd.ntmps34
  go_upto_region 1 with (fail)
  rw [← hwR]
  clear hwR
  go_upto_region 2 with (first | (go_at_call 19; (with_reducible refine Calls.mono HSP.out ?_); rintro e w1 ⟨n, hn, rfl, hw1⟩; have HN := Aside0.mk hn; have HW1 := Aside0.mk hw1; clear hn hw1))
  have hnl : n = ws.length := HN.out
  subst hnl
  obtain ⟨b, hbe⟩ : ∃ b, b = wR.heap.size := ⟨_, rfl⟩
  rw [← hbe]
  have hcells : ∀ j, j < ws.length → w1.cell? ⟨b, j, none⟩ = some (.string (str (ws.getD j []))) := by
    intro j hj
    rw [hbe, cell_of_row w1 wR.heap.size _ _ _ _ (by rw [HW1.out]; exact heap_alloc_new _ _), List.getElem?_toArray, List.getElem?_map, List.getElem?_eq_getElem hj, List.getD_eq_getElem?_getD, List.getElem?_eq_getElem hj]
    rfl
  have hb1 : Below wR.heap.size wR w1 := by rw [HW1.out]; exact (Below.refl _ _).alloc (Nat.le_refl _) _
  obtain ⟨x0, hx0⟩ : ∃ x0, x0 = ws.getD 0 [] := ⟨_, rfl⟩
  have hc0 := hcells 0 hlen
  rw [← hx0] at hc0
  have hx0l : x0.length ≤ 10000 := by
    rw [hx0, List.getD_eq_getElem?_getD, List.getElem?_eq_getElem hlen]; exact HEL.out _ (List.getElem_mem hlen)
  obtain ⟨po, hpo⟩ : ∃ po, po = V.pparse x0 := ⟨_, rfl⟩
  obtain ⟨pn, hpn⟩ : ∃ pn, pn = (po.getD V.noPath).null := ⟨_, rfl⟩
  obtain ⟨pl, hpl⟩ : ∃ pl, pl = str (po.getD V.noPath).loc := ⟨_, rfl⟩
  obtain ⟨pd, hpd⟩ : ∃ pd, pd = str (po.getD V.noPath).dom := ⟨_, rfl⟩
  obtain ⟨er, her⟩ : ∃ er, er = errOf po.isSome := ⟨_, rfl⟩
  have hpp : ∀ w, Vars w → Calls Tryd.prog 44 #[.string (str x0)] w fun e w' => e = .returned (.tuple #[.agg #[.bool pn, .string pl, .string pd], .int .i64 er]) ∧ Below w.heap.size w w' := by
    intro w hv
    have h := pparse_any (str x0) w (by rw [str_size]; omega) hv
    rw [lst_str, ← hpo] at h
    unfold pres pval at h
    rw [← hpn, ← hpl, ← hpd, ← her] at h
    exact h
  have HPP := Aside0.mk hpp
  have HV1 := Aside0.mk (HVR.out.go hb1)
  have HB1 := Aside0.mk hb1
  have HCE := Aside0.mk hcells
  have HP := Aside0.mk (And.intro hpo (And.intro hpn (And.intro hpl (And.intro hpd her))))
  have HX0 := Aside0.mk hx0
  have HBE := Aside0.mk hbe
  have hlen' : (1 : Int) ≤ (ws.length : Int) := by omega
  have hlen2 : (0 : Int) < (ws.length : Int) := by omega
  clear hbe hcells hb1 hx0 hpo hpn hpl hpd her hpp
  go_upto_region 3 with (first | (go_at_call 44; (with_reducible refine Calls.mono (HPP.out _ HV1.out) ?_); rintro e w2 ⟨rfl, h⟩; have H2 := Aside0.mk h; clear h))
  obtain ⟨tl, htl⟩ : ∃ tl, tl = ws.tail := ⟨_, rfl⟩
  obtain ⟨off, hoff⟩ : ∃ off, off = if ws.length = 1 then 0 else 1 := ⟨_, rfl⟩
  have hsl := slice_one b ws.length hlen off tl.length hoff (by rw [htl, List.length_tail])
  have htc : ∀ j, j < tl.length → w1.cell? ⟨b, off + j, none⟩ = some (.string (str (tl.getD j []))) := by
    intro j hj
    rw [htl, List.length_tail] at hj
    have e : off = 1 := by rw [hoff, if_neg (by omega)]
    have h := HCE.out (j + 1) (by omega)
    rw [e, htl]
    rw [show 1 + j = j + 1 by omega, h]
    cases hw : ws with
    | nil => rw [hw] at hlen; simp at hlen
    | cons a t => rfl
  obtain ⟨W3, hW3⟩ : ∃ W3, W3 = w2.alloc (.cells #[.bool pn, .string pl, .string pd] 23) := ⟨_, rfl⟩
  rw [← hW3]
  obtain ⟨G, hG⟩ : ∃ G, G = w2.heap.size := ⟨_, rfl⟩
  rw [← hG]
  have hr3 : W3.heap[G]? = some (.cells #[.bool pn, .string pl, .string pd] 23 (0, 0)) := by rw [hW3, hG]; exact heap_alloc_new _ _
  have hb13 : Below w1.heap.size w1 W3 := by rw [hW3]; exact H2.out.alloc H2.out.size _
  have hb3 : Below wR.heap.size wR W3 := HB1.out.trans (hb13.mono HB1.out.size)
  obtain ⟨px, hpx⟩ : ∃ px, px = V.params k tl [] := ⟨_, rfl⟩
  have hpar := params_any k tl (by intro x hx; rw [htl] at hx; have := HEL.out x (List.mem_of_mem_tail hx); omega) (by rw [htl, List.length_tail]; omega) b off tl.length W3 (HVR.out.go hb3) (fun j hj => Below.cell_on hb13 (htc j hj))
  rw [← hpx] at hpar
  have hTT : T = V.mbox k po px := by
    rw [HT.out]
    unfold V.mailbox
    rw [← HWS.out, HP.out.1, hpx, htl, HX0.out]
    cases hw : ws with
    | nil => rw [hw] at hlen; simp at hlen
    | cons a t => rfl
  have htn : tl.length ≤ 10001 := by rw [htl, List.length_tail]; omega
  have HTT := Aside0.mk hTT
  have HR3 := Aside0.mk hr3
  have HB3 := Aside0.mk hb3
  have HPA := Aside0.mk hpar
  clear hTT htl hoff htc hW3 hG hr3 hb13 hb3 hpx hpar HEL HCE HPP H2 HSP
  have hend : ∀ (w4 : World), Below W3.heap.size W3 w4 → Below w.heap.size w w4 ∧ w4.heap[w.heap.size]? = some (.cells #[.int .i64 0, .string { data := #[] }, .bool false, .string { data := #[] }, .string { data := #[] }, .slice none 0 0] 26 (0, 0)) ∧ w4.heap[G]? = some (.cells #[.bool pn, .string pl, .string pd] 23 (0, 0)) := by
    intro w4 h
    refine ⟨HBR.out.trans ((HB3.out.trans (h.mono HB3.out.size)).mono HBR.out.size), ?_, ?_⟩
    · rw [(HB3.out.trans (h.mono HB3.out.size)).block w.heap.size (by rw [HSZ.out]; omega)]
      exact HROW.out
    · rw [h.block G (Array.getElem?_eq_some_iff.1 HR3.out).1]
      exact HR3.out
  have HEND := Aside0.mk hend
  clear hend
  cases px with
  | none =>
    have hT : T = none := by rw [HTT.out]; cases po <;> rfl
    have HTF := Aside0.mk hT
    have her : er = 0 ∨ er = 5 := by rw [HP.out.2.2.2.2]; cases po.isSome <;> simp [errOf]
    clear hT
    rcases her with rfl | rfl
    all_goals
      go_wp2_with (first | (go_at_call 45; (with_reducible refine Calls.mono HPA.out ?_); rintro e w4 ⟨h4, h⟩; obtain rfl : e = .returned (.tuple #[noSl, .bool false]) := h4; have H4 := Aside0.mk (HEND.out _ h); clear h; obtain ⟨⟨c0, c1, c2, c3, c4, c5⟩, f0, f1, f2, f3, f4, f5⟩ := cells6 H4.out.2.1))
      refine bodyPost_ret (v := .tuple #[cval V.noCmd noSl, .bool false]) ?_ rfl ⟨by rw [HTF.out]; rfl, below6 H4.out.1 (Nat.le_refl _)⟩
      exact results_ct (by rfl) _ _ w.heap.size 26 _ (0, 0) _ rfl (row6 H4.out.2.1) Tryd.underlying26 rfl (by kernel_rfl) _ rfl
  | some ps =>
    cases hpc : po with
    | none =>
      have hT : T = none := by rw [HTT.out, hpc]; rfl
      have her : er = 5 := by rw [HP.out.2.2.2.2, hpc]; rfl
      have HTF := Aside0.mk hT
      clear hT hpc
      subst her
      go_wp2_with (first | (go_at_call 45; (with_reducible refine Calls.mono HPA.out ?_); rintro e w4 ⟨h4, h⟩; obtain ⟨v4, rfl, hR4, hl4⟩ := h4; obtain ⟨A4, q4, rfl, _, _⟩ := Kd.R_reads hR4; have HR4 := Aside0.mk hR4; have HL4 := Aside0.mk hl4; have H4 := Aside0.mk (HEND.out _ h); have H5 := Aside0.mk h; clear h hR4 hl4; obtain ⟨⟨c0, c1, c2, c3, c4, c5⟩, f0, f1, f2, f3, f4, f5⟩ := cells6 H4.out.2.1; obtain ⟨d0, d1, d2, g0, g1, g2⟩ := cells3 H4.out.2.2))
      refine bodyPost_ret (v := .tuple #[cval V.noCmd noSl, .bool false]) ?_ rfl ⟨by rw [HTF.out]; rfl, below6 H4.out.1 (Nat.le_refl _)⟩
      exact results_ct (by rfl) _ _ w.heap.size 26 _ (0, 0) _ rfl (row6 H4.out.2.1) Tryd.underlying26 rfl (by kernel_rfl) _ rfl
    | some p =>
      have her : er = 0 := by rw [HP.out.2.2.2.2, hpc]; rfl
      have hpn : pn = p.null := by rw [HP.out.2.1, hpc]; rfl
      have hpl : pl = str p.loc := by rw [HP.out.2.2.1, hpc]; rfl
      have hpd : pd = str p.dom := by rw [HP.out.2.2.2.1, hpc]; rfl
      by_cases hbad : k = 3 ∧ p.null = true
      · have hT : T = none := by rw [HTT.out, hpc]; show (if k = 3 ∧ p.null = true then none else _) = none; rw [if_pos hbad]
        have HTF := Aside0.mk hT
        have hpn2 : pn = true := by rw [hpn]; exact hbad.2
        obtain ⟨rfl, _⟩ := hbad
        clear hT hpc hpn hpl hpd
        subst her hpn2
        go_wp2_with (first | (go_at_call 45; (with_reducible refine Calls.mono HPA.out ?_); rintro e w4 ⟨h4, h⟩; obtain ⟨v4, rfl, hR4, hl4⟩ := h4; obtain ⟨A4, q4, rfl, _, _⟩ := Kd.R_reads hR4; have HR4 := Aside0.mk hR4; have HL4 := Aside0.mk hl4; have H4 := Aside0.mk (HEND.out _ h); have H5 := Aside0.mk h; clear h hR4 hl4; obtain ⟨⟨c0, c1, c2, c3, c4, c5⟩, f0, f1, f2, f3, f4, f5⟩ := cells6 H4.out.2.1; obtain ⟨d0, d1, d2, g0, g1, g2⟩ := cells3 H4.out.2.2))
        refine bodyPost_ret (v := .tuple #[cval V.noCmd noSl, .bool false]) ?_ rfl ⟨by rw [HTF.out]; rfl, below6 H4.out.1 (Nat.le_refl _)⟩
        exact results_ct (by rfl) _ _ w.heap.size 26 _ (0, 0) _ rfl (row6 H4.out.2.1) Tryd.underlying26 rfl (by kernel_rfl) _ rfl
      · have hT : T = some ⟨k, [], p, ps⟩ := by rw [HTT.out, hpc]; show (if k = 3 ∧ p.null = true then none else _) = _; rw [if_neg hbad]
        have HTF := Aside0.mk hT
        have HPV := Aside0.mk (And.intro hpn (And.intro hpl hpd))
        have hor : k = 3 → pn = false := by
          intro h3
          rw [hpn]
          cases hh : p.null with
          | false => rfl
          | true => exact absurd ⟨h3, hh⟩ hbad
        clear hT hpc hpn hpl hpd hbad
        subst her
        have hfin : ∀ (w4 : World) (v4 : Value) (h4 : Aside0 (kp.R 46 w4 W3.heap.size (fun _ => True) v4 ps)), kp.R 46 ((((((w4.setCell ⟨w.heap.size, 0, none⟩ (.int .i64 k)).setCell ⟨w.heap.size, 1, none⟩ (.string { data := #[] })).setCell ⟨w.heap.size, 2, none⟩ (.bool pn)).setCell ⟨w.heap.size, 3, none⟩ (.string pl)).setCell ⟨w.heap.size, 4, none⟩ (.string pd)).setCell ⟨w.heap.size, 5, none⟩ v4) w.heap.size (fun _ => True) v4 ps := by
          intro w4 v4 h4
          have hle : w.heap.size + 1 ≤ W3.heap.size := by have := HB3.out.size; rw [HSZ.out] at this; exact this
          exact Kd.R_lower (kpR_on h4.out (fun j hj => set6_other (by omega))) (by omega)
        have HFIN := Aside0.mk hfin
        clear hfin
        by_cases h3 : k = 3
        · have hpf := hor h3
          subst h3 hpf
          go_wp2_with (first | (go_at_call 45; (with_reducible refine Calls.mono HPA.out ?_); rintro e w4 ⟨h4, h⟩; obtain ⟨v4, rfl, hR4, hl4⟩ := h4; obtain ⟨A4, q4, rfl, _, _⟩ := Kd.R_reads hR4; have HR4 := Aside0.mk hR4; have HL4 := Aside0.mk hl4; have H4 := Aside0.mk (HEND.out _ h); have H5 := Aside0.mk h; clear h hR4 hl4; obtain ⟨⟨c0, c1, c2, c3, c4, c5⟩, f0, f1, f2, f3, f4, f5⟩ := cells6 H4.out.2.1; obtain ⟨d0, d1, d2, g0, g1, g2⟩ := cells3 H4.out.2.2))
          refine bodyPost_ret (v := .tuple #[cval ⟨3, [], p, ps⟩ (.slice A4 ps.length q4), .bool true]) ?_ rfl ⟨?_, below6 H4.out.1 (Nat.le_refl _)⟩
          · unfold cval
            rw [← HPV.out.1, ← HPV.out.2.1, ← HPV.out.2.2]
            exact results_ct (by rfl) _ _ w.heap.size 26 _ (0, 0) _ rfl (row6 H4.out.2.1) Tryd.underlying26 rfl (by kernel_rfl) _ rfl
          · rw [HTF.out]
            exact ⟨_, rfl, HFIN.out _ _ HR4, by have := HL4.out; simp only; omega⟩
        · have t3 : decide (k = 3) = false := decide_eq_false h3
          have t4 : (k == 3) = false := by simp [h3]
          clear hor
          go_wp2_with (first | (go_at_call 45; (with_reducible refine Calls.mono HPA.out ?_); rintro e w4 ⟨h4, h⟩; obtain ⟨v4, rfl, hR4, hl4⟩ := h4; obtain ⟨A4, q4, rfl, _, _⟩ := Kd.R_reads hR4; have HR4 := Aside0.mk hR4; have HL4 := Aside0.mk hl4; have H4 := Aside0.mk (HEND.out _ h); have H5 := Aside0.mk h; clear h hR4 hl4; obtain ⟨⟨c0, c1, c2, c3, c4, c5⟩, f0, f1, f2, f3, f4, f5⟩ := cells6 H4.out.2.1; obtain ⟨d0, d1, d2, g0, g1, g2⟩ := cells3 H4.out.2.2))
          refine bodyPost_ret (v := .tuple #[cval ⟨k, [], p, ps⟩ (.slice A4 ps.length q4), .bool true]) ?_ rfl ⟨?_, below6 H4.out.1 (Nat.le_refl _)⟩
          · unfold cval
            rw [← HPV.out.1, ← HPV.out.2.1, ← HPV.out.2.2]
            exact results_ct (by rfl) _ _ w.heap.size 26 _ (0, 0) _ rfl (row6 H4.out.2.1) Tryd.underlying26 rfl (by kernel_rfl) _ rfl
          · rw [HTF.out]
            exact ⟨_, rfl, HFIN.out _ _ HR4, by have := HL4.out; simp only; omega⟩
end Go.Proofs.YteiknmcmaemcoaaDoor
