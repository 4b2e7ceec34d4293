/- What the law CramHexes answers. -/
import Derived.Test.YtalignlbbdeeiaaProg
import Derived.WalkKit
import Derived.WalkLawsBesides
import Derived.Outline
import Derived.LoopTactic
import Derived.Lib.Hide
import Derived.Deep.QuietTactic
import Derived.BigQuiet
import Derived.Deep.LoopGhost
import Derived.Deep.DeepCutAuto
import Derived.Deep.CutBlock
import Derived.Deep.RegionHeld3
import Derived.Deep.RegionWith
import Derived.Deep.WholeRow
import Derived.Laws.Rows
import Derived.Laws.Tables
import Derived.Laws.ResultCell
import Derived.StillTailTactics
import Derived.Deep.DeepMust
import Derived.IntWalk
import Derived.KernelRfl
import Derived.Test.YtalignlbbdeeiaaWWords
import Derived.Test.YtalignlbbdeeiaaWLast
import Derived.Test.YtalignlbbdeeiaaWMore
import Derived.RegionTactic
import Derived.Test.YtalignlbbdeeiaaWakeB
namespace Go.Proofs.Ytalignlbbdeeiaa
open Go.RowKit
open Go.Proofs.YtalignlbbdeeiaaW.PrintWords
set_option linter.unusedVariables false
set_option linter.unusedSimpArgs false
theorem hexs_get (l : List Int) : ∀ i, i < l.length → (hexs l)[2 * i]? = some (dig ((l.getD i 0).toNat / 16)) ∧ (hexs l)[2 * i + 1]? = some (dig ((l.getD i 0).toNat % 16)) := by
  induction l with
  | nil => intro i h; simp at h
  | cons x l ih =>
    intro i hi
    cases i with
    | zero => simp [hexs]
    | succ i =>
      have h := ih i (by simpa using hi)
      have e : hexs (x :: l) = dig (x.toNat / 16) :: dig (x.toNat % 16) :: hexs l := by simp [hexs]
      rw [e, show 2 * (i + 1) = 2 * i + 1 + 1 by omega]
      simpa using h
def fills (n : Nat) : Nat := (3 - n % 3) % 3
theorem sgn_ne (x : Int) : sgn (x % 64).toNat ≠ 61 := by
  obtain ⟨n, hn⟩ : ∃ n : Nat, (x % 64).toNat = n := ⟨_, rfl⟩
  have h : n < 64 := by omega
  rw [hn]
  clear hn x
  revert n
  decide +kernel
theorem enc_fill : ∀ l : List Int, 0 < l.length → ∃ z : UInt8, z ≠ 61 ∧ ∀ j, j ≤ fills l.length → (enc l)[(enc l).length - 1 - j]? = some (if j < fills l.length then 61 else z)
  | [a], _ => by
    refine ⟨sg [a] 1, ?_, ?_⟩
    · exact sgn_ne _
    · intro j hj
      have hj2 : j ≤ 2 := hj
      obtain rfl | rfl | rfl : j = 0 ∨ j = 1 ∨ j = 2 := by omega
      all_goals rfl
  | [a, b], _ => by
    refine ⟨sg [a, b] 2, ?_, ?_⟩
    · exact sgn_ne _
    · intro j hj
      have hj2 : j ≤ 1 := hj
      obtain rfl | rfl : j = 0 ∨ j = 1 := by omega
      all_goals rfl
  | [a, b, c], _ => by
    refine ⟨sg [a, b, c] 3, ?_, ?_⟩
    · exact sgn_ne _
    · intro j hj
      have ef : fills [a, b, c].length = 0 := by simp [fills]
      rw [ef] at hj ⊢
      obtain rfl : j = 0 := by omega
      rw [if_neg (by omega)]
      rfl
  | a :: b :: c :: d :: r, _ => by
    obtain ⟨z, hz, h⟩ := enc_fill (d :: r) (by simp)
    refine ⟨z, hz, fun j hj => ?_⟩
    have e : enc (a :: b :: c :: d :: r) = quad [a, b, c] ++ enc (d :: r) := rfl
    have ef : fills (a :: b :: c :: d :: r).length = fills (d :: r).length := by simp [fills]; omega
    rw [ef] at hj ⊢
    have hl := enc_length (d :: r)
    have hlen : 4 ≤ (enc (d :: r)).length := by rw [hl]; simp; omega
    have hj3 : j ≤ 2 := by have : fills (d :: r).length ≤ 2 := by unfold fills; omega
                           omega
    rw [e, List.length_append, quad_length, List.getElem?_append_right (by rw [quad_length]; omega), quad_length, ← h j hj]
    congr 1
    omega
theorem ba_get (L : List UInt8) (H : ByteArray) (hH : (⟨L.toArray⟩ : ByteArray) = H) (j : Nat) (x : UInt8) (h : L[j]? = some x) (hj : j < H.size) : H[j] = x := by
  subst hH
  have : L.toArray[j]? = some x := by simpa using h
  obtain ⟨h1, h2⟩ := Array.getElem?_eq_some_iff.1 this
  exact h2
set_option maxRecDepth 100000 in
set_option maxHeartbeats 1000000 in
theorem hexes_any (A : Option Addr) (c : Nat) (l : List Int) (w : World) (hr : CB w A l) (hc : l.length ≤ c) (hb : Md5.Bytes l) :
    Calls Try.prog 6 #[.slice A l.length c] w fun e w' => e = .returned (.bool true) ∧ Below w.heap.size w w' := by
  have HR := Aside0.mk hr
  have HB := Aside0.mk hb
  have HC := Aside0.mk hc
  obtain ⟨H, hH⟩ : ∃ H, hexB l = H := ⟨_, rfl⟩
  obtain ⟨T, hT⟩ : ∃ T, encB l = T := ⟨_, rfl⟩
  have hHs : H.size = 2 * l.length := by rw [← hH, hexB_size]
  have hTs : T.size = (l.length + 2) / 3 * 4 := by rw [← hT]; show (enc l).toArray.size = _; simp [enc_length]
  have HH := Aside0.mk hH
  have HT := Aside0.mk hT
  have HTS := Aside0.mk hTs
  clear hr hb hc hH hT
  go_enter Try.func6, Try.ntmps6
  by_cases hlen : 300 < l.length
  · have t1 : decide ((300 : Int) < (l.length : Int)) = true := by simp; omega
    have t2 : decide (300 < l.length) = true := by simp; omega
    go_wp2
    go_ret
    exact ⟨rfl, Below.refl _ _⟩
  · have t1 : decide ((300 : Int) < (l.length : Int)) = false := by simp; omega
    have t2 : decide (300 < l.length) = false := by simp; omega
    have hlen' : l.length ≤ 300 := by omega
    have hne : ((H.size : Int) != 2 * (l.length : Int)) = false := by rw [bne_eq_false_iff_eq, hHs]; simp
    have hle2 : (H.size : Int) = 2 * (l.length : Int) := by omega
    go_wp2_with (first | (go_at_call 16; refine (chex_at A c l.length l H w rfl HH.out HR.out HB.out (by omega)).mono ?_; rintro e w1 ⟨rfl, h1⟩; have H1 := Aside0.mk h1; have z1 := h1.size; clear h1) | (go_at_call 17; refine (cenc_at A c l.length l T w1 rfl HT.out (Kd.C_below HR.out H1.out) HB.out (by omega) HC.out).mono ?_; rintro e w2 ⟨rfl, h2⟩; have H2 := Aside0.mk (H1.out.trans (h2.mono z1)); clear h2))
    have hTm : T.size ≤ 1000 := by omega
    clear H1 hTs
    go_loopg [5] l.length (fun g v5 wr => ∃ i : Nat, i ≤ l.length ∧ g + i = l.length ∧ v5 = .int .i64 i ∧ Aside0 (Below w.heap.size w wr))
    case atStart => exact ⟨0, by omega, by omega, rfl, H2⟩
    case round =>
    clear H2
    obtain ⟨i, hi, hgi, rfl, H2⟩ := hrel
    obtain ⟨wx, rfl⟩ : ∃ wz : World, wz = wr := ⟨_, rfl⟩
    by_cases hil : i < l.length
    · have hil' : (i : Int) < (l.length : Int) := by omega
      obtain ⟨ad, rfl, hcl⟩ := Kd.at_int (Kd.C_below HR.out H2.out) i (by omega) (by omega)
      have hx := HB.out.getD i
      have hk0 : (i : Int).toNat = i := by omega
      rw [hk0] at hcl
      have e1 : rd l i = l.getD i 0 := rfl
      rw [e1] at hcl
      have hg := hexs_get l i hil
      generalize l.getD i 0 = x at *
      have HG := Aside0.mk hg
      clear hg e1
      have i1 : IntKind.i64.wrap (2 * (i : Int)) = 2 * (i : Int) := IntWalk.i64_in _ (by omega)
      have i2 : IntKind.i64.wrap (2 * (i : Int) + 1) = 2 * (i : Int) + 1 := IntWalk.i64_in _ (by omega)
      have hi1 : (2 * (i : Int)).toNat < H.size := by omega
      have hi2 : (2 * (i : Int) + 1).toNat < H.size := by omega
      have g1 : H[(2 * (i : Int)).toNat] = dig (x.toNat / 16) := ba_get (hexs l) H HH.out _ _ (by rw [show (2 * (i : Int)).toNat = 2 * i by omega]; exact HG.out.1) hi1
      have g2 : H[(2 * (i : Int) + 1).toNat] = dig (x.toNat % 16) := ba_get (hexs l) H HH.out _ _ (by rw [show (2 * (i : Int) + 1).toNat = 2 * i + 1 by omega]; exact HG.out.2) hi2
      have hix1 : ∀ w, (Instr.index 9 (.string H) (.int .i64 (2 * (i : Int)))).run Try.prog w = .ok (.int .u8 (dig (x.toNat / 16)).toNat) w := by
        intro w
        rw [run_index_string w 9 H .i64 (2 * (i : Int)) Try.underlying9, dif_pos (by omega), g1]
      have hix2 : ∀ w, (Instr.index 9 (.string H) (.int .i64 (2 * (i : Int) + 1))).run Try.prog w = .ok (.int .u8 (dig (x.toNat % 16)).toNat) w := by
        intro w
        rw [run_index_string w 9 H .i64 (2 * (i : Int) + 1) Try.underlying9, dif_pos (by omega), g2]
      clear g1 g2 hi1 hi2
      obtain ⟨p, hp⟩ : ∃ p, p = x.toNat / 16 := ⟨_, rfl⟩
      obtain ⟨q, hq⟩ : ∃ q, q = x.toNat % 16 := ⟨_, rfl⟩
      rw [← hp] at hix1
      rw [← hq] at hix2
      have hp1 : p < 16 := by omega
      have hq1 : q < 16 := by omega
      have hxx : (p : Int) * 16 + (q : Int) = x := by omega
      obtain ⟨d1, hd1⟩ : ∃ d : Int, ((dig p).toNat : Int) = d := ⟨_, rfl⟩
      obtain ⟨d2, hd2⟩ : ∃ d : Int, ((dig q).toNat : Int) = d := ⟨_, rfl⟩
      rw [hd1] at hix1
      rw [hd2] at hix2
      have HD1 := Aside0.mk hd1
      have HD2 := Aside0.mk hd2
      have i3 : IntKind.i64.wrap ((p : Int) * 16) = (p : Int) * 16 := IntWalk.i64_in _ (by omega)
      have i4 : IntKind.i64.wrap ((p : Int) * 16 + (q : Int)) = x := by rw [hxx]; exact IntWalk.i64_in _ (by omega)
      clear hp hq hxx hd1 hd2 HG
      go_wp2_with (fail)
      go_quiet ((go_at_call 18; first | with_reducible exact Calls.quiet_of_same (digit_any p hp1 d1 HD1.out _) | with_reducible exact Calls.quiet_of_same (digit_any q hq1 d2 HD2.out _)))
      go_wp2
      go_roundg (gk - 1)
      case measure => omega
      case rel => exact ⟨i + 1, by omega, by omega, by go_num, ⟨H2.out.trans (pw_below_drewN (Below.refl _ _) _)⟩⟩
    · obtain rfl : i = l.length := by omega
      have hF : fills l.length ≤ 2 := by unfold fills; omega
      obtain ⟨F, hFF⟩ : ∃ F, F = fills l.length := ⟨_, rfl⟩
      have HF := Aside0.mk hFF
      rw [← hFF] at hF
      clear hFF
      go_wp2_with (fail)
      go_loopg [6] F (fun g v6 wr => ∃ k : Nat, k ≤ F ∧ g + k = F ∧ v6 = .int .i64 k ∧ wr = wx)
      case atStart => exact ⟨0, by omega, by omega, rfl, rfl⟩
      case round =>
      obtain ⟨k, hk, hgk, rfl, rfl⟩ := hrel
      by_cases hkF : k < F
      · have hlp : 0 < l.length := by
          rcases Nat.eq_zero_or_pos l.length with h0 | h0
          · have := HF.out; rw [h0] at this; simp [fills] at this; omega
          · exact h0
        obtain ⟨z, hz, hfl⟩ := enc_fill l hlp
        have hT4 : 4 ≤ T.size := by have := HTS.out; omega
        have hg := hfl k (by rw [← HF.out]; omega)
        rw [if_pos (by rw [← HF.out]; exact hkF)] at hg
        have hi1 : ((T.size : Int) - 1 - (k : Int)).toNat < T.size := by omega
        have g1 : T[((T.size : Int) - 1 - (k : Int)).toNat] = 61 := ba_get (enc l) T HT.out _ _ (by rw [← hg]; congr 1; rw [enc_length, ← HTS.out]; omega) hi1
        have hix : ∀ w, (Instr.index 9 (.string T) (.int .i64 ((T.size : Int) - 1 - (k : Int)))).run Try.prog w = .ok (.int .u8 61) w := by
          intro w
          rw [run_index_string w 9 T .i64 _ Try.underlying9, dif_pos (by omega), g1]
          rfl
        have hkT : (k : Int) < (T.size : Int) := by omega
        clear g1 hi1 hg hfl hz
        go_wp2_with (fail)
        go_roundg (gk - 1)
        case measure => omega
        case rel => exact ⟨k + 1, by omega, by omega, by go_num, rfl⟩
      · obtain rfl : k = F := by omega
        have hkk : (k : Int) = -((l.length : Int) % 3) % 3 := by have := HF.out; unfold fills at this; omega
        have hkb : ((k : Int) == -((l.length : Int) % 3) % 3) = true := by rw [beq_iff_eq]; exact hkk
        have hkd : decide ((k : Int) = -((l.length : Int) % 3) % 3) = true := by rw [decide_eq_true_eq]; exact hkk
        clear hkk
        by_cases hlp : 0 < l.length
        · obtain ⟨z, hz, hfl⟩ := enc_fill l hlp
          have hT4 : 4 ≤ T.size := by have := HTS.out; omega
          have hg := hfl k (by rw [← HF.out]; omega)
          rw [if_neg (by rw [← HF.out]; omega)] at hg
          have hi1 : ((T.size : Int) - 1 - (k : Int)).toNat < T.size := by omega
          have g1 : T[((T.size : Int) - 1 - (k : Int)).toNat] = z := ba_get (enc l) T HT.out _ _ (by rw [← hg]; congr 1; rw [enc_length, ← HTS.out]; omega) hi1
          have hix : ∀ w, (Instr.index 9 (.string T) (.int .i64 ((T.size : Int) - 1 - (k : Int)))).run Try.prog w = .ok (.int .u8 z.toNat) w := by
            intro w
            rw [run_index_string w 9 T .i64 _ Try.underlying9, dif_pos (by omega), g1]
          have hkT : (k : Int) < (T.size : Int) := by omega
          have hz61 : ((z.toNat : Int) == 61) = false := by
            rw [beq_eq_false_iff_ne]
            intro h
            exact hz (UInt8.toNat_inj.1 (by simp; omega))
          obtain ⟨zz, hzz⟩ : ∃ zz : Int, zz = z.toNat := ⟨_, rfl⟩
          rw [← hzz] at hix hz61
          clear g1 hi1 hg hfl hz hzz z
          go_wp2_with (first | (go_at_call 19; refine (wakesB_any _).mono ?_; rintro e w9 ⟨rfl, h9⟩; have H9 := Aside0.mk h9; clear h9))
          go_ret
          exact ⟨rfl, H2.out.trans (H9.out.mono H2.out.size)⟩
        · have h0 : l.length = 0 := by omega
          have hT0 : T.size = 0 := by rw [HTS.out, h0]
          have hk0 : k = 0 := by have := HF.out; rw [h0] at this; simpa [fills] using this
          subst hk0
          go_wp2_with (first | (go_at_call 19; refine (wakesB_any _).mono ?_; rintro e w9 ⟨rfl, h9⟩; have H9 := Aside0.mk h9; clear h9))
          go_ret
          exact ⟨rfl, H2.out.trans (H9.out.mono H2.out.size)⟩
end Go.Proofs.Ytalignlbbdeeiaa
