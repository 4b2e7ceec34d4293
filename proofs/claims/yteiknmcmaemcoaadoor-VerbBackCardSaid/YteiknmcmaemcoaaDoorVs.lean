/- What verb's Text and Param, and wherrykeep's Cmd answer. -/
import Derived.Test.YteiknmcmaemcoaaDoorProg
import Derived.WalkKit
import Derived.WalkLawsBesides
import Derived.Outline
import Derived.LoopTactic
import Derived.Lib.Hide
import Derived.Deep.QuietTactic
import Derived.BigQuiet
import Derived.Deep.LoopGhost
import Derived.Deep.DeepCutAuto
import Derived.Deep.CutBlock
import Derived.Deep.RegionHeld3
import Derived.Deep.RegionWith
import Derived.Deep.WholeRow
import Derived.Laws.Rows
import Derived.Laws.Tables
import Derived.Laws.ResultCell
import Derived.StillTailTactics
import Derived.Deep.DeepMust
import Derived.IntWalk
import Derived.KernelRfl
import Derived.Test.YteiknmcmaemcoaaDoorWWords
import Derived.Test.YteiknmcmaemcoaaDoorWLast
import Derived.Test.YteiknmcmaemcoaaDoorWMore
import Derived.RegionTactic
import Derived.Test.YteiknmcmaemcoaaDoorVr
namespace Go.Proofs.YteiknmcmaemcoaaDoor
open Go.RowKit Go.Lib
open Go.Proofs.YteiknmcmaemcoaaDoorW.PrintWords Go.Proofs.YteiknmcmaemcoaaDoorW.PrintLast Go.Proofs.YteiknmcmaemcoaaDoorW.PrintMore
set_option linter.unusedVariables false
set_option linter.unusedSimpArgs false
/-- A command's value in memory. -/
abbrev cagg (c : V.Cmd) (A : Option Addr) (q : Nat) : Value := .agg #[.int .i64 c.kind, .string (str c.text), .bool c.path.null, .string (str c.path.loc), .string (str c.path.dom), .slice A c.prms.length q]
/-- A command that is not too long. -/
structure Fit (c : V.Cmd) : Prop where
  kind : (Lit.int .i64 c.kind).wf = true
  text : c.text.length ≤ 10000
  loc : c.path.loc.length ≤ 10000
  dom : c.path.dom.length ≤ 10000
  cnt : c.prms.length ≤ 10000
  prms : (c.prms.flatMap V.prmB).length ≤ 30000
theorem lineB_len (c : V.Cmd) (h : Fit c) : (V.lineB c).length ≤ 60000 := by
  have hb : ((V.ptext c.path).getD []).length ≤ 20003 := by
    unfold V.ptext
    have := h.loc
    have := h.dom
    split
    · split
      · simp
      · simp; omega
    · simp
  have ht := h.text
  unfold V.lineB
  rw [List.length_append]
  have h1 : (V.lookT c.kind (lineT c.text ((V.ptext c.path).getD []))).length ≤ 40000 := by
    have hb2 : ∀ x ∈ lineT c.text ((V.ptext c.path).getD []), x.2.length ≤ 40000 := by
      intro x hx
      simp only [lineT, List.mem_cons, List.not_mem_nil, or_false] at hx
      rcases hx with rfl | rfl | rfl | rfl | rfl | rfl | rfl | rfl | rfl | rfl | rfl <;> simp [lEHLO, lMAIL, lRCPT, lDATA, lRSET, lVRFY, lNOOP, lQUIT, lETRN, lAUTH, lATRN] <;> omega
    have : ∀ (T : List (Int × V.Bs)), (∀ x ∈ T, x.2.length ≤ 40000) → (V.lookT c.kind T).length ≤ 40000 := by
      intro T
      induction T with
      | nil => intro _; simp [V.lookT]
      | cons p T ih =>
        intro h
        unfold V.lookT
        split
        · exact h p (by simp)
        · exact ih (fun x hx => h x (by simp [hx]))
    exact this _ hb2
  have h2 : (if c.kind = 11 ∧ c.text ≠ [] then 32 :: c.text else []).length ≤ 10001 := by
    split
    · simp; omega
    · simp
  omega
theorem line_len (c : V.Cmd) (h : Fit c) : (V.line c).length ≤ 90000 := by
  unfold V.line
  rw [List.length_append]
  have := lineB_len c h
  have := h.prms
  omega
theorem line_at (c : V.Cmd) (A : Option Addr) (q : Nat) (w : World) (h : Fit c) (hx : Kd.C kp w A c.prms.length c.prms) (hv : Vars w) :
    Calls Tryd.prog 14 #[cagg c A q] w fun e w' => e = .returned (.string (str (V.line c))) ∧ Below w.heap.size w w' := by
  have h1 := line_any c.kind (str c.text) c.path.null (str c.path.loc) (str c.path.dom) A q c.prms w h.kind (by rw [str_size]; exact h.text) (by rw [str_size]; exact h.loc) (by rw [str_size]; exact h.dom) hx h.cnt (by have := h.prms; omega) hv
  rw [lst_str, lst_str, lst_str] at h1
  exact h1
/-- A command's line, if it is read as it was. -/
def V.text (c : V.Cmd) : Option V.Bs := if (V.parse (V.line c)).1 = some c then some (V.line c) else none
def textV (o : Option V.Bs) : Value := .tuple #[.string (str (o.getD [])), .int .i64 (errOf o.isSome)]
theorem code_pos (l : V.Bs) (h : (V.parse l).1 = none) : (V.parse l).2 = 500 ∨ (V.parse l).2 = 501 ∨ (V.parse l).2 = 504 := by
  revert h
  unfold V.parse
  split
  · intro _; left; rfl
  · split
    · unfold V.known
      split
      · intro _; left; rfl
      · unfold V.told
        split
        · intro h; cases h
        · intro _
          show (if V.strange l = true then (504 : Int) else 501) = 500 ∨ _
          split
          · right; right; rfl
          · right; left; rfl
    · intro _; left; rfl
theorem code_zero (l : V.Bs) (c : V.Cmd) (h : (V.parse l).1 = some c) : (V.parse l).2 = 0 := by
  revert h
  unfold V.parse
  split
  · intro h; cases h
  · split
    · unfold V.known
      split
      · intro h; cases h
      · unfold V.told
        split
        · intro _; rfl
        · intro h; cases h
    · intro h; cases h
set_option maxRecDepth 100000 in
set_option maxHeartbeats 4000000 in
theorem text_any (c : V.Cmd) (A : Option Addr) (q : Nat) (w : World) (hf : Fit c) (hx : Kd.C kp w A c.prms.length c.prms) (hv : Vars w) :
    Calls Tryd.prog 9 #[cagg c A q] w fun e w' => e = .returned (textV (V.text c)) ∧ Below w.heap.size w w' := by
  obtain ⟨T, hT⟩ : ∃ T, T = textV (V.text c) := ⟨_, rfl⟩
  rw [← hT]
  have HT := Aside0.mk hT
  obtain ⟨w0, hw0⟩ : ∃ w0, w0 = w.alloc (.cells #[.int .i64 c.kind, .string (str c.text), .bool c.path.null, .string (str c.path.loc), .string (str c.path.dom), .slice A c.prms.length q] 26) := ⟨_, rfl⟩
  have hb0 : Below w.heap.size w w0 := by rw [hw0]; exact (Below.refl _ w).alloc (Nat.le_refl _) _
  have hr0 : w0.heap[w.heap.size]? = some (.cells #[.int .i64 c.kind, .string (str c.text), .bool c.path.null, .string (str c.path.loc), .string (str c.path.dom), .slice A c.prms.length q] 26 (0, 0)) := by rw [hw0]; exact heap_alloc_new _ _
  have hs0 : w.heap.size < w0.heap.size := (Array.getElem?_eq_some_iff.1 hr0).1
  obtain ⟨S, hS⟩ : ∃ S, S = str (V.line c) := ⟨_, rfl⟩
  have hli := line_at c A q w0 hf (Kd.C_below hx hb0) (hv.go hb0)
  rw [← hS] at hli
  have hSs : S.size ≤ 100000 := by rw [hS, str_size]; have := line_len c hf; omega
  obtain ⟨P, hP⟩ : ∃ P, P = V.parse (V.line c) := ⟨_, rfl⟩
  have hpa : ∀ w, Vars w → Calls Tryd.prog 10 #[.string S] w fun e w' => cmdPost P.1 (.int .i64 0) (.int .i64 P.2) w.heap.size e w' ∧ Below w.heap.size w w' := by
    intro w hv
    have h := parse_any S w hSs hv
    rw [hS, lst_str, ← hP, ← hS] at h
    exact h
  have hrow : ∀ wx, Below w0.heap.size w0 wx → wx.heap[w.heap.size]? = some (.cells #[.int .i64 c.kind, .string (str c.text), .bool c.path.null, .string (str c.path.loc), .string (str c.path.dom), .slice A c.prms.length q] 26 (0, 0)) := fun wx h => (h.block _ hs0).trans hr0
  have HLI := Aside0.mk hli
  have HPA := Aside0.mk hpa
  have HP := Aside0.mk hP
  have HS := Aside0.mk hS
  have HRO := Aside0.mk hrow
  have HB0 := Aside0.mk hb0
  have HX := Aside0.mk hx
  have HF := Aside0.mk hf
  have HV0 := Aside0.mk (hv.go hb0)
  obtain ⟨⟨a0, a1, a2, a3, a4, a5⟩, _⟩ := cells6 hr0
  clear hT hb0 hr0 hli hpa hP hS hrow hx hf hv hs0
  go_enter Tryd.func9, Tryd.ntmps9
  go_upto_region 1 with (fail)
  rw [← hw0]
  clear hw0
  cases hp1 : P.1 with
  | none =>
    have hT : T = .tuple #[.string ByteArray.empty, .int .i64 5] := by
      rw [HT.out]; unfold V.text; rw [← HP.out, hp1, if_neg (by intro h; cases h)]; rfl
    have hcode : P.2 ≠ 0 := by
      have h := code_pos (V.line c) (by rw [← HP.out]; exact hp1)
      rw [← HP.out] at h
      omega
    have HTF := Aside0.mk hT
    obtain ⟨cd, hcd⟩ : ∃ cd, cd = P.2 := ⟨_, rfl⟩
    have hpn : ∀ w, Vars w → Calls Tryd.prog 10 #[.string S] w fun e w' => e = .returned (.tuple #[.agg #[.int .i64 0, .string (str []), .bool false, .string (str []), .string (str []), .slice none 0 0], .int .i64 cd]) ∧ Below w.heap.size w w' := by
      intro w hv
      have h := HPA.out w hv
      rw [hp1, ← hcd] at h
      exact h
    have HPN := Aside0.mk hpn
    have t1 : (cd != 0) = true := by rw [hcd]; simp [hcode]
    clear hT hcode hcd hpn hp1
    go_wp2_with (first | (go_at_call 14; (with_reducible refine Calls.mono HLI.out ?_); rintro e w1 ⟨rfl, h⟩; have H1 := Aside0.mk h; clear h) | (go_at_call 10; (with_reducible refine Calls.mono (HPN.out _ (HV0.out.go H1.out)) ?_); rintro e w2 ⟨rfl, h⟩; have H2 := Aside0.mk h; clear h))
    go_ret2
    exact ⟨by rw [HTF.out]; rfl, (HB0.out.trans ((H1.out.trans (H2.out.mono H1.out.size)).mono HB0.out.size)).alloc (Nat.le_trans HB0.out.size (Nat.le_trans H1.out.size H2.out.size)) _⟩
  | some b =>
    have hcode : P.2 = 0 := by
      have h := code_zero (V.line c) b (by rw [← HP.out]; exact hp1)
      rw [← HP.out] at h
      exact h
    have hT : T = textV (if b = c then some (V.line c) else none) := by
      rw [HT.out]; unfold V.text; rw [← HP.out, hp1]; simp only [Option.some.injEq]
    have hps : ∀ w, Vars w → Calls Tryd.prog 10 #[.string S] w fun e w' => (∃ (B : Option Addr) (qb : Nat), e = .returned (.tuple #[cagg b B qb, .int .i64 0]) ∧ Kd.C kp w' B b.prms.length b.prms ∧ b.prms.length ≤ 100000) ∧ Below w.heap.size w w' := by
      intro w hv
      refine (HPA.out w hv).mono ?_
      rintro e w' ⟨h, hb⟩
      rw [hp1] at h
      obtain ⟨v, rfl, hR, hl⟩ := h
      obtain ⟨B, qb, rfl, _, hC⟩ := Kd.R_reads hR
      exact ⟨⟨B, qb, rfl, hC, hl⟩, hb⟩
    have HTT := Aside0.mk hT
    have HPS := Aside0.mk hps
    clear hT hcode hps hp1
    go_upto_region 3 with (first | (go_at_call 14; (with_reducible refine Calls.mono HLI.out ?_); rintro e w1 ⟨rfl, h⟩; have H1 := Aside0.mk h; clear h) | (go_at_call 10; (with_reducible refine Calls.mono (HPS.out _ (HV0.out.go H1.out)) ?_); rintro e w2 ⟨⟨B, qb, rfl, hC, hl⟩, h⟩; have H2 := Aside0.mk h; have HC := Aside0.mk hC; have HL := Aside0.mk hl; clear h hC hl))
    obtain ⟨w3, hw3⟩ : ∃ w3, w3 = w2.alloc (.cells #[.int .i64 b.kind, .string (str b.text), .bool b.path.null, .string (str b.path.loc), .string (str b.path.dom), .slice B b.prms.length qb] 26) := ⟨_, rfl⟩
    rw [← hw3]
    obtain ⟨G, hG⟩ : ∃ G, G = w2.heap.size := ⟨_, rfl⟩
    rw [← hG]
    have hr3 : w3.heap[G]? = some (.cells #[.int .i64 b.kind, .string (str b.text), .bool b.path.null, .string (str b.path.loc), .string (str b.path.dom), .slice B b.prms.length qb] 26 (0, 0)) := by rw [hw3, hG]; exact heap_alloc_new _ _
    have hb23 : Below w2.heap.size w2 w3 := by rw [hw3]; exact (Below.refl _ _).alloc (Nat.le_refl _) _
    have hb13 : Below w0.heap.size w0 w3 := (H1.out.trans (H2.out.mono H1.out.size)).trans (hb23.mono (Nat.le_trans H1.out.size H2.out.size))
    have hrc := HRO.out w3 hb13
    have hbw3 : Below w.heap.size w w3 := HB0.out.trans (hb13.mono HB0.out.size)
    have HSM := Aside0.mk (same_any b c B A qb q w3 (Kd.C_below HC.out hb23) (Kd.C_below HX.out hbw3) (by have := HL.out; omega))
    have HBW := Aside0.mk hbw3
    obtain ⟨⟨b0, b1, b2, b3, b4, b5⟩, _⟩ := cells6 hr3
    obtain ⟨⟨d0, d1, d2, d3, d4, d5⟩, _⟩ := cells6 hrc
    clear hw3 hG hr3 hb23 hb13 hrc hbw3 a0 a1 a2 a3 a4 a5
    by_cases hbc : b = c
    · have hT : T = .tuple #[.string S, .int .i64 0] := by rw [HTT.out, if_pos hbc, HS.out]; rfl
      have HTF := Aside0.mk hT
      have HBC := Aside0.mk hbc
      clear hT hbc
      go_wp2_with (first | (go_at_call 15; (with_reducible refine Calls.mono HSM.out ?_); rintro e w4 ⟨rfl, h⟩; have H4 := Aside0.mk h; clear h; rw [decide_eq_true HBC.out]))
      go_ret2
      exact ⟨by rw [HTF.out]; rfl, HBW.out.trans (H4.out.mono HBW.out.size)⟩
    · have hT : T = .tuple #[.string ByteArray.empty, .int .i64 5] := by rw [HTT.out, if_neg hbc]; rfl
      have HTF := Aside0.mk hT
      have HBC := Aside0.mk hbc
      clear hT hbc
      go_wp2_with (first | (go_at_call 15; (with_reducible refine Calls.mono HSM.out ?_); rintro e w4 ⟨rfl, h⟩; have H4 := Aside0.mk h; clear h; rw [decide_eq_false HBC.out]))
      go_ret2
      exact ⟨by rw [HTF.out]; rfl, HBW.out.trans (H4.out.mono HBW.out.size)⟩
end Go.Proofs.YteiknmcmaemcoaaDoor
