/- What the reference's Encode answers. -/
import Derived.Test.YtalignlbbdeeiaaDoorProg
import Derived.WalkKit
import Derived.WalkLawsBesides
import Derived.Outline
import Derived.LoopTactic
import Derived.Lib.Hide
import Derived.Deep.QuietTactic
import Derived.BigQuiet
import Derived.Deep.LoopGhost
import Derived.Deep.DeepCutAuto
import Derived.Deep.CutBlock
import Derived.Deep.RegionHeld3
import Derived.Deep.RegionWith
import Derived.Deep.WholeRow
import Derived.Laws.Rows
import Derived.Laws.Tables
import Derived.Laws.ResultCell
import Derived.StillTailTactics
import Derived.Deep.DeepMust
import Derived.IntWalk
import Derived.KernelRfl
import Derived.Test.YtalignlbbdeeiaaDoorWWords
import Derived.Test.YtalignlbbdeeiaaDoorWLast
import Derived.Test.YtalignlbbdeeiaaDoorWMore
import Derived.RegionTactic
import Derived.Test.YtalignlbbdeeiaaDoorBack
namespace Go.Proofs.YtalignlbbdeeiaaDoor
open Go.RowKit
open Go.Proofs.YtalignlbbdeeiaaDoorW.PrintWords
set_option linter.unusedVariables false
set_option linter.unusedSimpArgs false
theorem sgn_at (q : Int) (h0 : 0 ≤ q) (h1 : q < 64) : signs.extract q.toNat (q + 1).toNat = ⟨#[sgn q.toNat]⟩ := by
  obtain ⟨n, rfl⟩ : ∃ n : Nat, q = n := ⟨q.toNat, by omega⟩
  have hn : n < 64 := by omega
  have e : ((n : Int) + 1).toNat = n + 1 := by omega
  rw [e, Int.toNat_natCast]
  clear e h0 h1
  revert n
  decide +kernel
theorem sgn_run (q : Int) (h0 : 0 ≤ q) (h1 : q < 64) (w : World) : (Instr.slice 9 (.string signs) (some (.int .i64 q)) (some (.int .i64 (q + 1))) none).run Tryd.prog w = .ok (.string ⟨#[sgn q.toNat]⟩) w := by
  rw [run_slice_string w 9 signs .i64 .i64 q (q + 1) Tryd.underlying9 h0 (by omega) (by have : (signs.size : Int) = 64 := rfl; omega), sgn_at q h0 h1]
theorem rsigns_at (D : ByteArray) (hD : D = signs) (w : World) : Calls Tryd.prog 24 #[] w fun e w' => e = .returned (.string D) ∧ w = w' := by
  subst hD
  go_enter Tryd.func24, Tryd.ntmps24
  go_wp2
  go_ret
  exact ⟨rfl, rfl⟩
set_option maxRecDepth 100000 in
set_option maxHeartbeats 2000000 in
theorem renc_any (A : Option Addr) (c : Nat) (l : List Int) (w : World) (hr : CB w A l) (hb : Md5.Bytes l) (hl : l.length ≤ 100000) :
    Calls Tryd.prog 13 #[.slice A l.length c] w fun e w' => e = .returned (.string (encB l)) ∧ w = w' := by
  have HR := Aside0.mk hr
  have HB := Aside0.mk hb
  clear hr hb
  obtain ⟨D, hD⟩ : ∃ D, D = signs := ⟨_, rfl⟩
  have HD := Aside0.mk hD
  clear hD
  go_enter Tryd.func13, Tryd.ntmps13
  go_wp2_with (fail)
  go_loopg [3, 4] l.length (fun g v3 v4 wr => ∃ (i : Nat) (acc : List UInt8), l.length - i ≤ g ∧ i ≤ l.length + 3 ∧ v4 = .int .i64 i ∧ v3 = .string ⟨acc.toArray⟩ ∧ Aside0 (acc ++ enc (l.drop i) = enc l) ∧ wr = w)
  case atStart => exact ⟨0, [], by omega, by omega, rfl, rfl, ⟨rfl⟩, rfl⟩
  case round =>
  obtain ⟨i, acc, hg, hi, rfl, rfl, HE, rfl⟩ := hrel
  obtain ⟨ga, rfl⟩ : ∃ x : Nat, x = gk := ⟨_, rfl⟩
  by_cases hil : i < l.length
  · have hil' : (i : Int) < (l.length : Int) := by omega
    obtain ⟨rem, hrem⟩ : ∃ rem, rem = l.drop i := ⟨_, rfl⟩
    have hrl : rem.length = l.length - i := by rw [hrem, List.length_drop]
    have hrb : Md5.Bytes rem := by rw [hrem]; exact HB.out.drop i
    have HRM := Aside0.mk hrem
    have HRB := Aside0.mk hrb
    obtain ⟨n, hn⟩ : ∃ n, n = min 3 (l.length - i) := ⟨_, rfl⟩
    have hmin : min (3 : Int) ((l.length : Int) - (i : Int)) = (n : Int) := by omega
    have hacc : acc.length + 4 ≤ 200000 := by
      have h := congrArg List.length HE.out
      rw [List.length_append, enc_length, enc_length, List.length_drop] at h
      omega
    have HN := Aside0.mk hn
    have hn3 : n ≤ 3 := by omega
    have hnl : i + n ≤ l.length := by omega
    have HRL := Aside0.mk hrl
    clear hrem hrb hn hrl
    go_wp2_with (fail)
    go_loopg [5, 7] 3 (fun g v5 v7 wy => ∃ k : Nat, k ≤ 3 ∧ g + k = 3 ∧ v7 = .int .i64 k ∧ v5 = .int .i64 (thr rem k) ∧ wy = wr)
    case atStart => exact ⟨0, by omega, by omega, rfl, rfl, rfl⟩
    case round =>
    obtain ⟨k, hk, hgk, rfl, rfl, rfl⟩ := hrel
    have hthr := thr_le rem HRB.out k
    by_cases hk3 : k < 3
    · have hk3' : (k : Int) < 3 := by omega
      have t3 : thr rem k < 65536 := by
        have : (256 : Int) ^ k ≤ 256 ^ 2 := by
          obtain rfl | rfl | rfl : k = 0 ∨ k = 1 ∨ k = 2 := by omega
          all_goals decide
        omega
      have HT : Aside0 (thr rem (k + 1) = thr rem k * 256 + rem.getD k 0) := ⟨rfl⟩
      have hthr0 := hthr.1
      generalize thr rem k = x at *
      clear hthr
      by_cases hkn : k < n
      · obtain ⟨ad, rfl, hcl⟩ := Kd.at_int HR.out ((i + k : Nat) : Int) (by omega) (by omega)
        have hx := HRB.out.getD k
        have e1 : rd l ((i + k : Nat) : Int) = rem.getD k 0 := by
          rw [HRM.out]
          show l.getD ((i + k : Nat) : Int).toNat 0 = _
          rw [Int.toNat_natCast]
          simp [List.getD_eq_getElem?_getD]
        have e2 : ad.add (((i + k : Nat) : Int)).toNat = ad.add (i + k) := by rw [Int.toNat_natCast]
        rw [e1, e2] at hcl
        clear e1 e2
        generalize rem.getD k 0 = y at *
        have hor := or_i64 x y hthr0 t3 hx.1 hx.2
        have hkn' : (k : Int) < (n : Int) := by omega
        have h0 : (0 : Int) ≤ (i : Int) + (k : Int) := by omega
        have h1 : (i : Int) + (k : Int) < (l.length : Int) := by omega
        go_wp2_with (fail)
        go_roundg (gk - 1)
        case measure => omega
        case rel => exact ⟨k + 1, by omega, by omega, by go_num, by rw [HT.out], rfl⟩
      · have hkn' : ¬ (k : Int) < (n : Int) := by omega
        have hz := getD_ge rem k (by have := HRL.out; have := HN.out; omega)
        rw [hz] at HT
        clear hz
        go_wp2_with (fail)
        go_roundg (gk - 1)
        case measure => omega
        case rel => exact ⟨k + 1, by omega, by omega, by go_num, by rw [HT.out]; simp, rfl⟩
    · obtain rfl : k = 3 := by omega
      clear hk3
      have hx0 := hthr.1
      have hx1 : thr rem 3 < 16777216 := hthr.2
      generalize hx : thr rem 3 = x at *
      have HX := Aside0.mk hx
      clear hx hthr
      go_wp2_with (fail)
      go_loopg [3, 8, 9] 4 (fun g v3 v8 v9 wy => ∃ j : Nat, j ≤ 4 ∧ g + j = 4 ∧ v8 = .int .i64 j ∧ v3 = .string ⟨(acc ++ (List.range j).map (sg rem)).toArray⟩ ∧ wy = wr)
      case atStart => exact ⟨0, by omega, by omega, rfl, by simp, rfl⟩
      case round =>
      obtain ⟨j, hj, hgj, rfl, rfl, rfl⟩ := hrel
      by_cases hj4 : j < 4
      · have hj4' : (j : Int) < 4 := by omega
        obtain ⟨T, hT⟩ : ∃ T : ByteArray, T = ⟨(acc ++ (List.range j).map (sg rem)).toArray⟩ := ⟨_, rfl⟩
        have hTs : T.size ≤ 200000 := by
          rw [hT]
          show (acc ++ (List.range j).map (sg rem)).toArray.size ≤ _
          simp
          omega
        obtain ⟨T2, hT2⟩ : ∃ T2, T2 = T ++ (⟨#[sg rem j]⟩ : ByteArray) := ⟨_, rfl⟩
        have hst : T2 = ⟨(acc ++ (List.range (j + 1)).map (sg rem)).toArray⟩ := by
          rw [hT2, hT, List.range_succ]
          apply ByteArray.ext
          simp [ByteArray.data_append]
        have ha : ∀ w, (Op.stringOp .add T ⟨#[sg rem j]⟩).run Tryd.prog w = .ok (.string T2) w := by rw [hT2]; exact put_run T _ (by omega) (by show (1 : Nat) ≤ 1000000; omega)
        have HST := Aside0.mk hst
        rw [← hT]
        clear hT hT2 hst
        by_cases hjn : j ≤ n
        · have hjn' : (j : Int) ≤ (n : Int) := by omega
          have hsg : sg rem j = sgn (x / 2 ^ (18 - 6 * j) % 64).toNat := by unfold sg; rw [if_neg (by have := HRL.out; have := HN.out; omega), HX.out]
          have hand := i64_and63 (x / 2 ^ (18 - 6 * j))
          generalize hy : x / 2 ^ (18 - 6 * j) % 64 = y at *
          have hy0 : 0 ≤ y := by rw [← hy]; exact Int.emod_nonneg _ (by decide)
          have hy1 : y < 64 := by rw [← hy]; exact Int.emod_lt_of_pos _ (by decide)
          rw [hsg] at ha
          have hs : ∀ w, (Instr.slice 9 (.string D) (some (.int .i64 y)) (some (.int .i64 (y + 1))) none).run Tryd.prog w = .ok (.string ⟨#[sgn y.toNat]⟩) w := by rw [HD.out]; exact sgn_run y hy0 hy1
          generalize (⟨#[sgn y.toNat]⟩ : ByteArray) = P1 at *
          clear hy hsg
          go_wp2_with (first | (go_at_call 24; refine (rsigns_at D HD.out _).mono ?_; rintro e w1 ⟨rfl, rfl⟩))
          go_roundg (gk - 1)
          case measure => omega
          case rel => exact ⟨j + 1, by omega, by omega, by go_num, by rw [HST.out], rfl⟩
        · have hjn' : ¬ (j : Int) ≤ (n : Int) := by omega
          have hsg : sg rem j = 61 := by unfold sg; rw [if_pos (by have := HRL.out; have := HN.out; omega)]
          rw [hsg] at ha
          clear hsg
          go_wp2_with (fail)
          go_roundg (gk - 1)
          case measure => omega
          case rel => exact ⟨j + 1, by omega, by omega, by go_num, by rw [HST.out], rfl⟩
      · obtain rfl : j = 4 := by omega
        go_wp2_with (fail)
        go_roundg (ga - 1)
        case measure => omega
        case rel =>
          refine ⟨i + 3, acc ++ (List.range 4).map (sg rem), by omega, by omega, by go_num, rfl, ⟨?_⟩, rfl⟩
          have h := HE.out
          rw [← HRM.out, enc_step rem (by rw [HRL.out]; omega)] at h
          rw [← h, HRM.out, List.drop_drop]
          simp [quad]
  · have he : l.drop i = [] := List.drop_eq_nil_of_le (by omega)
    have hE := HE.out
    rw [he] at hE
    simp only [enc, List.append_nil] at hE
    have hil' : ¬ (i : Int) < (l.length : Int) := by omega
    clear he
    go_wp2_with (fail)
    go_ret
    exact ⟨rfl, rfl⟩
theorem renc_at (A : Option Addr) (c n : Nat) (l : List Int) (E : ByteArray) (w : World) (hn : l.length = n) (hE : encB l = E) (hr : CB w A l) (hb : Md5.Bytes l) (hl : l.length ≤ 100000) :
    Calls Tryd.prog 13 #[.slice A n c] w fun e w' => e = .returned (.string E) ∧ w = w' := by
  subst hn hE
  exact renc_any A c l w hr hb hl
end Go.Proofs.YtalignlbbdeeiaaDoor
