/- The walk of the law's 'same'. -/
import Derived.Test.YtbkfdejcmimhgaaProg
import Derived.WalkKit
import Derived.WalkLawsBesides
import Derived.Outline
import Derived.LoopTactic
import Derived.Lib.Hide
import Derived.Deep.QuietTactic
import Derived.BigQuiet
import Derived.Deep.LoopGhost
import Derived.Deep.DeepCutAuto
import Derived.Deep.CutBlock
import Derived.Deep.RegionHeld3
import Derived.Deep.RegionWith
import Derived.Deep.WholeRow
import Derived.Laws.Rows
import Derived.Laws.Tables
import Derived.Laws.ResultCell
import Derived.StillTailTactics
import Derived.Deep.DeepMust
import Derived.IntWalk
import Derived.KernelRfl
import Derived.Test.YtbkfdejcmimhgaaVa
import Derived.RegionTactic
import Derived.Test.YtbkfdejcmimhgaaEg
namespace Go.Proofs.Ytbkfdejcmimhgaa
open Go.RowKit Go.Proofs.YtbkfdejcmimhgaaW.PrintWords Go.Proofs.YtbkfdejcmimhgaaW.PrintMore Go.Proofs.Ytbkfdejcmimhgaa.PDiaryExact
set_option linter.unusedVariables false
set_option linter.unusedSimpArgs false
/-- Two diaries that tell the same. -/
structure Sm (s r : DSt) : Prop where
  off : r.off = s.off
  life : r.life = s.life
  recs : r.recs = s.recs
  safe : r.safe = s.safe
  kept : r.kept = s.kept
set_option maxRecDepth 100000 in
set_option maxHeartbeats 4000000 in
theorem same_any (W : World) (S T : Nat → Prop) (g h : Nat) (s r : DSt) (hD : Dy W S g s) (hR : Ry W T h r) (hs : Sm s r) (hS : ∀ y ∈ s.recs, Small y) (hl : s.recs.length ≤ 1000) : Calls Try.prog 36 #[.pointer (some ⟨g, 0, none⟩), .pointer (some ⟨h, 0, none⟩)] W fun e w' => e = .returned (.bool true) ∧ Below W.heap.size W w' := by
  have HS := Aside0.mk hs
  have HSM := Aside0.mk hS
  have HF := Aside0.mk (fine_of_small hS)
  have HFR := Aside0.mk (show Fine r.recs by rw [hs.recs]; exact fine_of_small hS)
  have HSR := Aside0.mk (show ∀ y ∈ r.recs, Small y by rw [hs.recs]; exact hS)
  have HLE := Aside0.mk (show s.recs.length ≤ 1000000 by omega)
  have HLR := Aside0.mk (show r.recs.length ≤ 1000000 by rw [hs.recs]; omega)
  have HLX := Aside0.mk (show r.recs.length ≤ 1000 by rw [hs.recs]; omega)
  have HD := Aside0.mk hD
  have HR := Aside0.mk hR
  clear hs hS hD hR
  by_cases hoff : s.off = true
  · have HO := Aside0.mk hoff
    have HOR := Aside0.mk (show r.off = true by rw [HS.out.off]; exact hoff)
    clear hoff
    go_enter Try.func36, Try.ntmps36
    go_wp2_with (first
      | (go_at_call 17; refine Calls.mono (dread_no W _ g s HD.out HO.out) ?_; rintro e w1 ⟨rfl, rfl⟩)
      | (go_at_call 50; refine Calls.mono (rread_no W _ h r HR.out HOR.out) ?_; rintro e w1 ⟨rfl, rfl⟩))
    obtain ⟨_, Ar, cr, hg, _⟩ := HR.out
    refine same_last _ _ _ _ _ _ _ _ _ _ _ _ _ _ g h r.off r.life r.safe (roomsOf s.recs) r.kept 7 r.recs.length 0 Ar none none cr 0 0 s r [] S T W HD HR ⟨hg⟩ ⟨HS.out.off.symm⟩ ⟨HS.out.life.symm⟩ ⟨by rw [HS.out.recs]⟩ ⟨HS.out.safe.symm⟩ ⟨rfl⟩ ⟨by rw [HS.out.recs]⟩ ⟨HS.out.kept.symm⟩ HF HFR HLE HLR ⟨fun y hy => by cases hy⟩ ⟨Nat.zero_le _⟩ ⟨Kd.C_nil _ _⟩ ⟨Nat.le_refl _⟩ ⟨Kd.C_nil _ _⟩ ⟨Nat.le_refl _⟩ ?_
    intro x X h4 hB
    have H4 := Aside0.mk h4
    have HB := Aside0.mk hB
    clear h4 hB
    go_wp2
    refine bodyPost_ret (results_tmp rfl _ _ _) rfl ?_
    exact ⟨by rw [H4.out], HB.out⟩
  · have HO := Aside0.mk (show s.off = false by simpa using hoff)
    have HOR := Aside0.mk (show r.off = false by rw [HS.out.off]; exact HO.out)
    clear hoff
    go_enter Try.func36, Try.ntmps36
    go_wp2_with (first
      | (go_at_call 17; refine Calls.mono (dread_yes W _ g s HD.out HO.out HF.out HLE.out) ?_; rintro e w1 ⟨v1, rfl, h1, h2⟩; obtain ⟨A5, c5, rfl⟩ := Kd.N_slice h1; have H1 := Aside0.mk (Kd.N_reads' h1); have B1 := Aside0.mk h2; have HR1 := Aside0.mk (HR.out.below h2); clear h1 h2)
      | (go_at_call 50; refine Calls.mono (rread_yes w1 _ h r HR1.out HOR.out HFR.out HLR.out) ?_; rintro e w2 ⟨v2, rfl, h1, h2⟩; obtain ⟨A7, c7, rfl⟩ := Kd.N_slice h1; have H2 := Aside0.mk (Kd.N_reads' h1); have B2 := Aside0.mk h2; have HR2 := Aside0.mk (HR1.out.below h2); clear h1 h2))
    have hD2 := (HD.out.below B1.out).below B2.out
    have hlen : s.recs.length = r.recs.length := by rw [HS.out.recs]
    have C5 := Kd.C_below H1.out.2.2 B2.out
    have L5 := H1.out.2.1
    rw [← HS.out.recs] at C5 L5
    rw [hlen]
    obtain ⟨_, Ar, cr, hg, _⟩ := HR2.out
    refine same_last _ _ _ _ _ _ _ _ _ _ _ _ _ _ g h r.off r.life r.safe (roomsOf s.recs) r.kept 0 r.recs.length r.recs.length Ar A5 A7 cr c5 c7 s r r.recs S T w2 ⟨hD2⟩ HR2 ⟨hg⟩ ⟨HS.out.off.symm⟩ ⟨HS.out.life.symm⟩ ⟨by rw [HS.out.recs]⟩ ⟨HS.out.safe.symm⟩ ⟨rfl⟩ ⟨by rw [HS.out.recs]⟩ ⟨HS.out.kept.symm⟩ HF HFR HLE HLR HSR HLX ⟨C5⟩ ⟨L5⟩ ⟨H2.out.2.2⟩ ⟨H2.out.2.1⟩ ?_
    intro x X h4 hB
    have H4 := Aside0.mk h4
    have HB := Aside0.mk hB
    clear h4 hB
    go_wp2
    refine bodyPost_ret (results_tmp rfl _ _ _) rfl ?_
    exact ⟨by rw [H4.out], B1.out.trans ((B2.out.mono B1.out.size).trans (HB.out.mono (Nat.le_trans B1.out.size B2.out.size)))⟩
end Go.Proofs.Ytbkfdejcmimhgaa
