/- What the law CramExact answers. -/
import Derived.Test.YtalignlbbdeeiaaDoorProg
import Derived.WalkKit
import Derived.WalkLawsBesides
import Derived.Outline
import Derived.LoopTactic
import Derived.Lib.Hide
import Derived.Deep.QuietTactic
import Derived.BigQuiet
import Derived.Deep.LoopGhost
import Derived.Deep.DeepCutAuto
import Derived.Deep.CutBlock
import Derived.Deep.RegionHeld3
import Derived.Deep.RegionWith
import Derived.Deep.WholeRow
import Derived.Laws.Rows
import Derived.Laws.Tables
import Derived.Laws.ResultCell
import Derived.StillTailTactics
import Derived.Deep.DeepMust
import Derived.IntWalk
import Derived.KernelRfl
import Derived.Test.YtalignlbbdeeiaaDoorWWords
import Derived.Test.YtalignlbbdeeiaaDoorWLast
import Derived.Test.YtalignlbbdeeiaaDoorWMore
import Derived.RegionTactic
import Derived.Test.YtalignlbbdeeiaaDoorRAns
namespace Go.Proofs.YtalignlbbdeeiaaDoor
open Go.RowKit
open Go.Proofs.YtalignlbbdeeiaaDoorW.PrintWords
set_option linter.unusedVariables false
set_option linter.unusedSimpArgs false
theorem rdec_no (S : ByteArray) (w : World) (hs : S.size ≤ 2000) (h : ∀ l, Md5.Bytes l → enc l ≠ S.data.toList) :
    Calls Tryd.prog 11 #[.string S] w fun e w' => e = .returned (.tuple #[.slice none 0 0, .bool false]) ∧ Below w.heap.size w w' := by
  refine (rdec_any S w hs).mono ?_
  rintro e w' ⟨⟨v, l, _, _, hb, _, he⟩ | ⟨he, _⟩, hB⟩
  · exact absurd he (h l hb)
  · exact ⟨he, hB⟩
theorem rdec_yes (S : ByteArray) (l : List Int) (w : World) (hs : S.size ≤ 2000) (hb : Md5.Bytes l) (h : enc l = S.data.toList) :
    Calls Tryd.prog 11 #[.string S] w fun e w' => ∃ v, e = .returned (.tuple #[v, .bool true]) ∧ RB w' w.heap.size (fun _ => True) v l ∧ Below w.heap.size w w' := by
  refine (rdec_any S w hs).mono ?_
  rintro e w' ⟨⟨v, l', he, hr, hb', _, hl⟩ | ⟨_, hn⟩, hB⟩
  · obtain rfl : l = l' := enc_inj _ l l' (Nat.le_refl _) hb hb' (h.trans hl.symm)
    exact ⟨v, he, hr, hB⟩
  · exact absurd h (hn l hb)
theorem cver_at (U S C E L : ByteArray) (v : Bool) (w : World) (hE : ans U S C = E) (hv : decide (L = E) = v) (hu : U.size ≤ 10000) (hs : S.size ≤ 10000) (hc : C.size ≤ 10000) :
    Calls Tryd.prog 17 #[.string U, .string S, .string C, .string L] w fun e w' => e = .returned (.bool v) ∧ Below w.heap.size w w' := by
  subst hv
  exact cver_any U S C E L w hE hu hs hc
set_option maxRecDepth 100000 in
set_option maxHeartbeats 4000000 in
theorem exactb_any (A : Option Addr) (c : Nat) (l : List Int) (S U K C L : ByteArray) (w : World) (hr : CB w A l) (hc : l.length ≤ c) (hb : Md5.Bytes l) (hS : S.size ≤ 140737488351232) (hU : U.size ≤ 140737488351232) (hK : K.size ≤ 140737488351232) (hC : C.size ≤ 140737488351232) (hL : L.size ≤ 140737488351232) :
    Calls Tryd.prog 5 #[.slice A l.length c, .string S, .string U, .string K, .string C, .string L] w fun e w' => e = .returned (.bool true) ∧ Below w.heap.size w w' := by
  have HR := Aside0.mk hr
  have HB := Aside0.mk hb
  have HC := Aside0.mk hc
  clear hr hb hc
  go_enter Tryd.func5, Tryd.ntmps5
  by_cases hlen : 300 < l.length
  · have t1 : decide ((300 : Int) < (l.length : Int)) = true := by simp; omega
    have t2 : decide (300 < l.length) = true := by simp; omega
    go_wp2
    go_ret
    exact ⟨rfl, Below.refl _ _⟩
  have t1 : decide ((300 : Int) < (l.length : Int)) = false := by simp; omega
  have t2 : decide (300 < l.length) = false := by simp; omega
  by_cases hlen2 : 400 < S.size
  · have t3 : decide ((400 : Int) < (S.size : Int)) = true := by simp; omega
    have t4 : decide (400 < S.size) = true := by simp; omega
    go_wp2
    go_ret
    exact ⟨rfl, Below.refl _ _⟩
  have t3 : decide ((400 : Int) < (S.size : Int)) = false := by simp; omega
  have t4 : decide (400 < S.size) = false := by simp; omega
  by_cases hlen3 : 800 < U.size + K.size + C.size + L.size
  · have t5 : decide ((800 : Int) < (U.size : Int) + (K.size : Int) + (C.size : Int) + (L.size : Int)) = true := by simp; omega
    have t6 : decide (800 < U.size + K.size + C.size + L.size) = true := by simp; omega
    go_wp2
    go_ret
    exact ⟨rfl, Below.refl _ _⟩
  have t5 : decide ((800 : Int) < (U.size : Int) + (K.size : Int) + (C.size : Int) + (L.size : Int)) = false := by simp; omega
  have t6 : decide (800 < U.size + K.size + C.size + L.size) = false := by simp; omega
  have hl : l.length ≤ 300 := by omega
  have hS' : S.size ≤ 400 := by omega
  have hU' : U.size ≤ 800 := by omega
  have hK' : K.size ≤ 800 := by omega
  have hC' : C.size ≤ 800 := by omega
  have hL' : L.size ≤ 800 := by omega
  obtain ⟨E, hE⟩ : ∃ E, encB l = E := ⟨_, rfl⟩
  obtain ⟨X, hX⟩ : ∃ X, hexB l = X := ⟨_, rfl⟩
  obtain ⟨Z, hZ⟩ : ∃ Z, ans U K C = Z := ⟨_, rfl⟩
  obtain ⟨vv, hvv⟩ : ∃ vv, decide (L = Z) = vv := ⟨_, rfl⟩
  have tv : (L.toList == Z.toList) = vv := by rw [str_eq]; exact hvv
  have HE := Aside0.mk hE
  have HX := Aside0.mk hX
  have HX2 : Aside0 ((⟨(hexs l).toArray⟩ : ByteArray) = X) := ⟨hX⟩
  have HZ := Aside0.mk hZ
  have HVV := Aside0.mk hvv
  clear hE hX hZ hvv hlen hlen2 hlen3 hS hU hK hC hL
  by_cases hS2 : ∃ l', Md5.Bytes l' ∧ enc l' = S.data.toList
  · obtain ⟨l', hb', hl'⟩ := hS2
    have hz := enc_size l' S hl'
    have HB' := Aside0.mk hb'
    have HL' := Aside0.mk hl'
    have HZ2 : Aside0 (l'.length ≤ 2000) := ⟨by omega⟩
    clear hb' hl' hz
    go_wp2_with (first | (go_at_call 10; refine (twin_any A c l w HR.out (by omega)).mono ?_; rintro e w1 ⟨v, rfl, h1, h2⟩; obtain ⟨A1, c1, rfl, hc1, hr1⟩ := Kd.R_reads h1; have I1 := Aside0.mk hr1; have G1 := Aside0.mk h2; clear h1 h2 hr1) | (go_at_call 7; refine (cdec_yes S l' w1 (by omega) HB'.out HL'.out).mono ?_; rintro e w2 ⟨v, rfl, h2, h3⟩; obtain ⟨A2, c2, rfl, hc2, hr2⟩ := Kd.R_reads h2; have X2 := Aside0.mk hr2; have G2 := Aside0.mk (G1.out.trans (h3.mono G1.out.size)); have I2 := Aside0.mk (Kd.C_below I1.out h3); clear h2 h3 hr2) | (go_at_call 11; refine (rdec_yes S l' w2 (by omega) HB'.out HL'.out).mono ?_; rintro e w3 ⟨v, rfl, h2, h3⟩; obtain ⟨A3, c3, rfl, hc3, hr3⟩ := Kd.R_reads h2; have Y3 := Aside0.mk hr3; have G3 := Aside0.mk (G2.out.trans (h3.mono G2.out.size)); have I3 := Aside0.mk (Kd.C_below I2.out h3); have X3 := Aside0.mk (Kd.C_below X2.out h3); clear h2 h3 hr3) | (go_at_call 12; with_reducible refine Calls.mono (rans_any U K C Z w3 HZ.out (by omega) (by omega) (by omega)) ?_; rintro e w4 ⟨rfl, h⟩; have G4 := Aside0.mk (G3.out.trans (h.mono G3.out.size)); have I4 := Aside0.mk (Kd.C_below I3.out h); have X4 := Aside0.mk (Kd.C_below X3.out h); have Y4 := Aside0.mk (Kd.C_below Y3.out h); clear h) | (go_at_call 6; with_reducible refine Calls.mono (cenc_at A1 c1 l.length l E w4 rfl HE.out I4.out HB.out (by omega) hc1) ?_; rintro e w5 ⟨rfl, h⟩; have G5 := Aside0.mk (G4.out.trans (h.mono G4.out.size)); have I5 := Aside0.mk (Kd.C_below I4.out h); have X5 := Aside0.mk (Kd.C_below X4.out h); have Y5 := Aside0.mk (Kd.C_below Y4.out h); clear h) | (go_at_call 13; with_reducible refine Calls.mono (renc_at A c l.length l E w5 rfl HE.out (Kd.C_below HR.out G5.out) HB.out (by omega)) ?_; rintro e w55 ⟨rfl, rfl⟩) | (go_at_call 14; with_reducible refine Calls.mono (chex_at A1 c1 l.length l X w5 rfl HX.out I5.out HB.out (by omega)) ?_; rintro e w6 ⟨rfl, h⟩; have G6 := Aside0.mk (G5.out.trans (h.mono G5.out.size)); have I6 := Aside0.mk (Kd.C_below I5.out h); have X6 := Aside0.mk (Kd.C_below X5.out h); have Y6 := Aside0.mk (Kd.C_below Y5.out h); clear h) | (go_at_call 15; with_reducible refine Calls.mono (hex_at A c l.length l X w6 rfl HX2.out (Kd.C_below HR.out G6.out) HB.out (by omega)) ?_; rintro e w7 ⟨rfl, h⟩; have G7 := Aside0.mk (G6.out.trans (h.mono G6.out.size)); have I7 := Aside0.mk (Kd.C_below I6.out h); have X7 := Aside0.mk (Kd.C_below X6.out h); have Y7 := Aside0.mk (Kd.C_below Y6.out h); clear h) | (go_at_call 8; with_reducible refine Calls.mono (bytes_at A2 A3 c2 c3 l'.length l'.length l' w7 rfl rfl X7.out Y7.out (by have := HZ2.out; omega)) ?_; rintro e w8 ⟨rfl, h⟩; have G8 := Aside0.mk (G7.out.trans (h.mono G7.out.size)); have I8 := Aside0.mk (Kd.C_below I7.out h); clear h) | (go_at_call 16; with_reducible refine Calls.mono (cans_any U K C Z w8 HZ.out (by omega) (by omega) (by omega)) ?_; rintro e w9 ⟨rfl, h⟩; have G9 := Aside0.mk (G8.out.trans (h.mono G8.out.size)); have I9 := Aside0.mk (Kd.C_below I8.out h); clear h) | (go_at_call 17; with_reducible refine Calls.mono (cver_at U K C Z L vv w9 HZ.out HVV.out (by omega) (by omega) (by omega)) ?_; rintro e w10 ⟨rfl, h⟩; have G10 := Aside0.mk (G9.out.trans (h.mono G9.out.size)); have I10 := Aside0.mk (Kd.C_below I9.out h); clear h) | (go_at_call 8; with_reducible refine Calls.mono (bytes_at A1 A c1 c l.length l.length l w10 rfl rfl I10.out (Kd.C_below HR.out G10.out) (by omega)) ?_; rintro e w11 ⟨rfl, h⟩; have G11 := Aside0.mk (G10.out.trans (h.mono G10.out.size)); have I11 := Aside0.mk (Kd.C_below I10.out h); clear h) | (go_at_call 9; refine (wakesB_any _).mono ?_; rintro e w12 ⟨rfl, h9⟩; have H9 := Aside0.mk h9; clear h9))
    go_ret
    exact ⟨rfl, G11.out.trans (H9.out.mono G11.out.size)⟩
  · have hno : ∀ l', Md5.Bytes l' → enc l' ≠ S.data.toList := fun l' hb' h => hS2 ⟨l', hb', h⟩
    have HNO := Aside0.mk hno
    clear hno hS2
    go_wp2_with (first | (go_at_call 10; refine (twin_any A c l w HR.out (by omega)).mono ?_; rintro e w1 ⟨v, rfl, h1, h2⟩; obtain ⟨A1, c1, rfl, hc1, hr1⟩ := Kd.R_reads h1; have I1 := Aside0.mk hr1; have G1 := Aside0.mk h2; clear h1 h2 hr1) | (go_at_call 7; refine (cdec_no S w1 (by omega) HNO.out).mono ?_; rintro e w2 ⟨rfl, h3⟩; have G2 := Aside0.mk (G1.out.trans (h3.mono G1.out.size)); have I2 := Aside0.mk (Kd.C_below I1.out h3); clear h3) | (go_at_call 11; refine (rdec_no S w2 (by omega) HNO.out).mono ?_; rintro e w3 ⟨rfl, h3⟩; have G3 := Aside0.mk (G2.out.trans (h3.mono G2.out.size)); have I3 := Aside0.mk (Kd.C_below I2.out h3); clear h3) | (go_at_call 12; with_reducible refine Calls.mono (rans_any U K C Z w3 HZ.out (by omega) (by omega) (by omega)) ?_; rintro e w4 ⟨rfl, h⟩; have G4 := Aside0.mk (G3.out.trans (h.mono G3.out.size)); have I4 := Aside0.mk (Kd.C_below I3.out h); clear h) | (go_at_call 6; with_reducible refine Calls.mono (cenc_at A1 c1 l.length l E w4 rfl HE.out I4.out HB.out (by omega) hc1) ?_; rintro e w5 ⟨rfl, h⟩; have G5 := Aside0.mk (G4.out.trans (h.mono G4.out.size)); have I5 := Aside0.mk (Kd.C_below I4.out h); clear h) | (go_at_call 13; with_reducible refine Calls.mono (renc_at A c l.length l E w5 rfl HE.out (Kd.C_below HR.out G5.out) HB.out (by omega)) ?_; rintro e w55 ⟨rfl, rfl⟩) | (go_at_call 14; with_reducible refine Calls.mono (chex_at A1 c1 l.length l X w5 rfl HX.out I5.out HB.out (by omega)) ?_; rintro e w6 ⟨rfl, h⟩; have G6 := Aside0.mk (G5.out.trans (h.mono G5.out.size)); have I6 := Aside0.mk (Kd.C_below I5.out h); clear h) | (go_at_call 15; with_reducible refine Calls.mono (hex_at A c l.length l X w6 rfl HX2.out (Kd.C_below HR.out G6.out) HB.out (by omega)) ?_; rintro e w7 ⟨rfl, h⟩; have G7 := Aside0.mk (G6.out.trans (h.mono G6.out.size)); have I7 := Aside0.mk (Kd.C_below I6.out h); clear h) | (go_at_call 8; with_reducible refine Calls.mono (bytes_at none none 0 0 0 0 [] w7 rfl rfl (Kd.C_nil _ _) (Kd.C_nil _ _) (by simp)) ?_; rintro e w8 ⟨rfl, h⟩; have G8 := Aside0.mk (G7.out.trans (h.mono G7.out.size)); have I8 := Aside0.mk (Kd.C_below I7.out h); clear h) | (go_at_call 16; with_reducible refine Calls.mono (cans_any U K C Z w8 HZ.out (by omega) (by omega) (by omega)) ?_; rintro e w9 ⟨rfl, h⟩; have G9 := Aside0.mk (G8.out.trans (h.mono G8.out.size)); have I9 := Aside0.mk (Kd.C_below I8.out h); clear h) | (go_at_call 17; with_reducible refine Calls.mono (cver_at U K C Z L vv w9 HZ.out HVV.out (by omega) (by omega) (by omega)) ?_; rintro e w10 ⟨rfl, h⟩; have G10 := Aside0.mk (G9.out.trans (h.mono G9.out.size)); have I10 := Aside0.mk (Kd.C_below I9.out h); clear h) | (go_at_call 8; with_reducible refine Calls.mono (bytes_at A1 A c1 c l.length l.length l w10 rfl rfl I10.out (Kd.C_below HR.out G10.out) (by omega)) ?_; rintro e w11 ⟨rfl, h⟩; have G11 := Aside0.mk (G10.out.trans (h.mono G10.out.size)); have I11 := Aside0.mk (Kd.C_below I10.out h); clear h) | (go_at_call 9; refine (wakesB_any _).mono ?_; rintro e w12 ⟨rfl, h9⟩; have H9 := Aside0.mk h9; clear h9))
    go_ret
    exact ⟨rfl, G11.out.trans (H9.out.mono G11.out.size)⟩
end Go.Proofs.YtalignlbbdeeiaaDoor
