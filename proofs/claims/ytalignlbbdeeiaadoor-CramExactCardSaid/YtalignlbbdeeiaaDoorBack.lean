/- What the law CramBack answers. -/
import Derived.Test.YtalignlbbdeeiaaDoorProg
import Derived.WalkKit
import Derived.WalkLawsBesides
import Derived.Outline
import Derived.LoopTactic
import Derived.Lib.Hide
import Derived.Deep.QuietTactic
import Derived.BigQuiet
import Derived.Deep.LoopGhost
import Derived.Deep.DeepCutAuto
import Derived.Deep.CutBlock
import Derived.Deep.RegionHeld3
import Derived.Deep.RegionWith
import Derived.Deep.WholeRow
import Derived.Laws.Rows
import Derived.Laws.Tables
import Derived.Laws.ResultCell
import Derived.StillTailTactics
import Derived.Deep.DeepMust
import Derived.IntWalk
import Derived.KernelRfl
import Derived.Test.YtalignlbbdeeiaaDoorWWords
import Derived.Test.YtalignlbbdeeiaaDoorWLast
import Derived.Test.YtalignlbbdeeiaaDoorWMore
import Derived.RegionTactic
import Derived.Test.YtalignlbbdeeiaaDoorBad
namespace Go.Proofs.YtalignlbbdeeiaaDoor
open Go.RowKit
open Go.Proofs.YtalignlbbdeeiaaDoorW.PrintWords
set_option linter.unusedVariables false
set_option linter.unusedSimpArgs false
theorem bytes_at (A B : Option Addr) (c d n m : Nat) (l : List Int) (w : World) (hn : l.length = n) (hm : l.length = m) (hr : CB w A l) (hr' : CB w B l) (hl : l.length ≤ 1000000) :
    Calls Tryd.prog 8 #[.slice A n c, .slice B m d] w fun e w' => e = .returned (.bool true) ∧ Below w.heap.size w w' := by
  subst hn hm
  refine (bytes_same A B c d l w hr hr' hl).mono ?_
  rintro e w' ⟨rfl, n, rfl⟩
  exact ⟨rfl, pw_below_drewN (Below.refl _ _) n⟩
theorem enc_size (l : List Int) (S : ByteArray) (h : enc l = S.data.toList) : S.size = (l.length + 2) / 3 * 4 := by
  have := congrArg List.length h
  rw [enc_length, Array.length_toList] at this
  exact this.symm
set_option maxRecDepth 100000 in
set_option maxHeartbeats 2000000 in
theorem back_any (A : Option Addr) (c : Nat) (l : List Int) (S : ByteArray) (w : World) (hr : CB w A l) (hc : l.length ≤ c) (hb : Md5.Bytes l) (hS : S.size ≤ maxLen) :
    Calls Tryd.prog 3 #[.slice A l.length c, .string S] w fun e w' => e = .returned (.bool true) ∧ Below w.heap.size w w' := by
  have HR := Aside0.mk hr
  have HB := Aside0.mk hb
  have HC := Aside0.mk hc
  clear hr hb hc
  simp only [maxLen] at hS
  go_enter Tryd.func3, Tryd.ntmps3
  by_cases hlen : 300 < l.length
  · have t1 : decide ((300 : Int) < (l.length : Int)) = true := by simp; omega
    have t2 : decide (300 < l.length) = true := by simp; omega
    go_wp2
    go_ret
    exact ⟨rfl, Below.refl _ _⟩
  · have t1 : decide ((300 : Int) < (l.length : Int)) = false := by simp; omega
    have t2 : decide (300 < l.length) = false := by simp; omega
    by_cases hlen2 : 400 < S.size
    · have t3 : decide ((400 : Int) < (S.size : Int)) = true := by simp; omega
      have t4 : decide (400 < S.size) = true := by simp; omega
      go_wp2
      go_ret
      exact ⟨rfl, Below.refl _ _⟩
    · have t3 : decide ((400 : Int) < (S.size : Int)) = false := by simp; omega
      have t4 : decide (400 < S.size) = false := by simp; omega
      have hl : l.length ≤ 300 := by omega
      have hS' : S.size ≤ 400 := by omega
      obtain ⟨E, hE⟩ : ∃ E, encB l = E := ⟨_, rfl⟩
      have hEl : enc l = E.data.toList := by rw [← hE]; simp [encB]
      have hEs := enc_size l E hEl
      have hEs' : E.size ≤ 2000 := by omega
      have t5 : ((E.size : Int) != ((l.length : Int) + 2) / 3 * 4) = false := by rw [bne_eq_false_iff_eq, hEs]; simp
      have HE := Aside0.mk hE
      have HEL := Aside0.mk hEl
      clear hE hEl hEs hlen hlen2
      go_upto_region 7 with (first | (go_at_call 6; refine (cenc_at A c _ l E w rfl HE.out HR.out HB.out (by omega) HC.out).mono ?_; rintro e w1 ⟨rfl, h1⟩; have H1 := Aside0.mk h1; clear h1) | (go_at_call 7; with_reducible refine Calls.mono (cdec_yes E l w1 hEs' HB.out HEL.out) ?_; rintro e w2 ⟨v, rfl, h2, h3⟩; obtain ⟨A2, c2, rfl, hc2, hr2⟩ := Kd.R_reads h2; have H2 := Aside0.mk hr2; have H3 := Aside0.mk (H1.out.trans (h3.mono H1.out.size)); clear h2 h3 hr2) | (go_at_call 8; refine (bytes_at A2 A c2 c _ _ l w2 rfl rfl H2.out (Kd.C_below HR.out H3.out) (by omega)).mono ?_; rintro e w3 ⟨rfl, h4⟩; have H4 := Aside0.mk (H3.out.trans (h4.mono H3.out.size)); clear h4))
      by_cases hS2 : ∃ l', Md5.Bytes l' ∧ enc l' = S.data.toList
      · obtain ⟨l', hb', hl'⟩ := hS2
        have hz := enc_size l' S hl'
        have HB' := Aside0.mk hb'
        have HL' := Aside0.mk hl'
        have heS : encB l' = S := by
          apply ba_eq
          rw [← hl']
          simp [encB]
        have HES := Aside0.mk heS
        have HZ : Aside0 (l'.length ≤ 2000) := ⟨by omega⟩
        clear hb' hl' hz heS
        go_wp2_with (first | (go_at_call 7; with_reducible refine Calls.mono (cdec_yes S l' w3 (by omega) HB'.out HL'.out) ?_; rintro e w4 ⟨v, rfl, h2, h3⟩; obtain ⟨A4, c4, rfl, hc4, hr4⟩ := Kd.R_reads h2; have H5 := Aside0.mk hr4; have H6 := Aside0.mk (H4.out.trans (h3.mono H4.out.size)); clear h2 h3 hr4) | (go_at_call 6; refine (cenc_at A4 c4 _ l' S w4 rfl HES.out H5.out HB'.out (by have := HZ.out; omega) hc4).mono ?_; rintro e w5 ⟨rfl, h5⟩; have H7 := Aside0.mk (H6.out.trans (h5.mono H6.out.size)); clear h5) | (go_at_call 9; refine (wakesB_any _).mono ?_; rintro e w9 ⟨rfl, h9⟩; have H9 := Aside0.mk h9; clear h9))
        go_ret
        exact ⟨rfl, H7.out.trans (H9.out.mono H7.out.size)⟩
      · have hno : ∀ l', Md5.Bytes l' → enc l' ≠ S.data.toList := fun l' hb' h => hS2 ⟨l', hb', h⟩
        have HNO := Aside0.mk hno
        clear hno hS2
        go_wp2_with (first | (go_at_call 7; with_reducible refine Calls.mono (cdec_no S w3 (by omega) HNO.out) ?_; rintro e w4 ⟨rfl, h4⟩; have H5 := Aside0.mk (H4.out.trans (h4.mono H4.out.size)); clear h4) | (go_at_call 9; refine (wakesB_any _).mono ?_; rintro e w9 ⟨rfl, h9⟩; have H9 := Aside0.mk h9; clear h9))
        go_ret
        exact ⟨rfl, H5.out.trans (H9.out.mono H5.out.size)⟩
end Go.Proofs.YtalignlbbdeeiaaDoor
