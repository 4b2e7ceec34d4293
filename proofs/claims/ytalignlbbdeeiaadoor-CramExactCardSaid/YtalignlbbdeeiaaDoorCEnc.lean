/- What cram's Encode answers. -/
import Derived.Test.YtalignlbbdeeiaaDoorProg
import Derived.WalkKit
import Derived.WalkLawsBesides
import Derived.Outline
import Derived.LoopTactic
import Derived.Lib.Hide
import Derived.Deep.QuietTactic
import Derived.BigQuiet
import Derived.Deep.LoopGhost
import Derived.Deep.DeepCutAuto
import Derived.Deep.CutBlock
import Derived.Deep.RegionHeld3
import Derived.Deep.RegionWith
import Derived.Deep.WholeRow
import Derived.Laws.Rows
import Derived.Laws.Tables
import Derived.Laws.ResultCell
import Derived.StillTailTactics
import Derived.Deep.DeepMust
import Derived.IntWalk
import Derived.KernelRfl
import Derived.Test.YtalignlbbdeeiaaDoorWWords
import Derived.Test.YtalignlbbdeeiaaDoorWLast
import Derived.Test.YtalignlbbdeeiaaDoorWMore
import Derived.RegionTactic
import Derived.Test.YtalignlbbdeeiaaDoorEnc
namespace Go.Proofs.YtalignlbbdeeiaaDoor
open Go.RowKit
open Go.Proofs.YtalignlbbdeeiaaDoorW.PrintWords
set_option linter.unusedVariables false
set_option linter.unusedSimpArgs false
theorem ofInt_i64 (a : Nat) (ha : a < 9223372036854775808) : (BitVec.ofInt 64 (a : Int)).toNat = a := by
  rw [BitVec.ofInt_natCast, BitVec.toNat_ofNat]; exact Nat.mod_eq_of_lt (by omega)
theorem i64_or_nat (a b : Nat) (ha : a < 4611686018427387904) (hb : b < 4611686018427387904) : bits .or .i64 (a : Int) (b : Int) = ((a ||| b : Nat) : Int) := by
  have hx : a ||| b < 2 ^ 62 := Nat.or_lt_two_pow (by omega) (by omega)
  show IntKind.i64.wrap ((BitVec.ofInt 64 (a : Int) ||| BitVec.ofInt 64 (b : Int)).toNat : Int) = _
  rw [BitVec.toNat_or, ofInt_i64 a (by omega), ofInt_i64 b (by omega), IntKind.wrap_i64]
  omega
theorem i64_and_low (n : Int) (k : Nat) (m : Int) (hk : k ≤ 16) (hm : m = 2 ^ k - 1) : bits .and .i64 n m = n % 2 ^ k := by
  have hp : (2 : Nat) ^ k ≤ 2 ^ 16 := Nat.pow_le_pow_right (by omega) hk
  have hp0 : 0 < (2 : Nat) ^ k := Nat.two_pow_pos k
  have hm2 : m = (((2 : Nat) ^ k - 1 : Nat) : Int) := by rw [hm, Int.ofNat_sub hp0]; simp
  have key : (BitVec.ofInt 64 n &&& BitVec.ofInt 64 m).toNat = (n % ((2 ^ 64 : Nat) : Int)).toNat % 2 ^ k := by
    rw [hm2, BitVec.toNat_and, ofInt_i64 _ (by omega), BitVec.toNat_ofInt, Nat.and_two_pow_sub_one_eq_mod]
  show IntKind.i64.wrap ((BitVec.ofInt 64 n &&& BitVec.ofInt 64 m).toNat : Nat) = _
  have hmod : ((n % ((2 ^ 64 : Nat) : Int)).toNat % 2 ^ k : Nat) = (n % 2 ^ k).toNat := by
    apply Int.ofNat.inj
    have h1 : (0 : Int) ≤ n % 2 ^ k := Int.emod_nonneg _ (by have : (0 : Int) < 2 ^ k := Int.pow_pos (by omega); omega)
    have h2 : (0 : Int) ≤ n % ((2 ^ 64 : Nat) : Int) := Int.emod_nonneg _ (by decide)
    show (((n % ((2 ^ 64 : Nat) : Int)).toNat % 2 ^ k : Nat) : Int) = ((n % 2 ^ k).toNat : Int)
    rw [Int.toNat_of_nonneg h1, Int.natCast_emod, Int.toNat_of_nonneg h2]
    have hd : ((2 ^ k : Nat) : Int) ∣ ((2 ^ 64 : Nat) : Int) := Int.ofNat_dvd.2 (Nat.pow_dvd_pow 2 (by omega))
    rw [Int.emod_emod_of_dvd _ hd]
    simp
  have hlt : (n % 2 ^ k).toNat < 2 ^ k := by
    have := Int.emod_lt_of_pos n (show (0 : Int) < 2 ^ k from Int.pow_pos (by omega))
    have h3 : ((2 ^ k : Nat) : Int) = 2 ^ k := by simp
    omega
  have h1 : (0 : Int) ≤ n % 2 ^ k := Int.emod_nonneg _ (by have : (0 : Int) < 2 ^ k := Int.pow_pos (by omega); omega)
  rw [key, IntKind.wrap_i64, hmod]
  omega
theorem i64_and63 (n : Int) : bits .and .i64 n 63 = n % 64 := i64_and_low n 6 63 (by omega) (by decide)
theorem or_i64 (x c : Int) (h0 : 0 ≤ x) (h1 : x < 65536) (c0 : 0 ≤ c) (c1 : c < 256) : bits .or .i64 (x * 256) c = x * 256 + c := by
  obtain ⟨n, rfl⟩ := Int.eq_ofNat_of_zero_le h0
  obtain ⟨m, rfl⟩ := Int.eq_ofNat_of_zero_le c0
  have e1 : (n : Int) * 256 = ((256 * n : Nat) : Int) := by omega
  rw [e1, i64_or_nat _ _ (by omega) (by omega), nat_join 8 _ _ (by omega) (by omega)]
  simp
set_option maxRecDepth 100000 in
set_option maxHeartbeats 1000000 in
theorem cenc_any (A : Option Addr) (c : Nat) (l : List Int) (w : World) (hr : CB w A l) (hb : Md5.Bytes l) (hl : l.length ≤ 100000) (hc : l.length ≤ c) :
    Calls Tryd.prog 6 #[.slice A l.length c] w fun e w' => e = .returned (.string ⟨(enc l).toArray⟩) ∧ Below w.heap.size w w' := by
  have HR := Aside0.mk hr
  have HB := Aside0.mk hb
  have HC := Aside0.mk hc
  clear hr hb hc
  go_enter Tryd.func6, Tryd.ntmps6
  go_wp2_with (fail)
  go_loopg [0] l.length (fun g v0 wr => ∃ (A1 : Option Addr) (n c1 : Nat) (rem : List Int) (acc : List UInt8), v0 = .slice A1 n c1 ∧ n ≤ g ∧ n ≤ c1 ∧ n ≤ 100000 ∧ Aside0 (rem.length = n) ∧ Aside0 (CB w A1 rem) ∧ Aside0 (Md5.Bytes rem) ∧ Aside0 (acc ++ enc rem = enc l) ∧ Aside0 (Lib.IsBuilder 41 5 w.heap.size w.heap.size (Lib.byteCells acc) wr) ∧ Aside0 (Below w.heap.size w wr))
  case atStart => exact ⟨A, l.length, c, l, [], rfl, Nat.le_refl _, HC.out, hl, ⟨rfl⟩, HR, HB, ⟨rfl⟩, ⟨Lib.fresh_isBuilder _ _ w⟩, ⟨(Below.refl _ _).alloc (Nat.le_refl _) _⟩⟩
  case round =>
  obtain ⟨A1, n, c1, rem, acc, rfl, hng, hc1, hn1, HL, HR1, HB1, HE, H1, H2⟩ := hrel
  obtain ⟨wx, rfl⟩ : ∃ wz : World, wz = wr := ⟨_, rfl⟩
  obtain ⟨ga, rfl⟩ : ∃ x : Nat, x = gk := ⟨_, rfl⟩
  by_cases hpos : 0 < n
  · have t1 : decide ((0 : Int) < (n : Int)) = true := by simp; omega
    have t2 : decide (0 < n) = true := by simp; omega
    go_wp2_with (fail)
    go_loopg [4, 5, 15] 3 (fun g v4 v5 v15 wy => ∃ k : Nat, k ≤ 3 ∧ g + k = 3 ∧ v15 = .int .i64 k ∧ v4 = .int .i64 (thr rem k) ∧ wy = wx)
    case atStart => exact ⟨0, by omega, by omega, rfl, rfl, rfl⟩
    case round =>
    obtain ⟨k, hk, hgk, rfl, rfl, rfl⟩ := hrel
    have hthr := thr_le rem HB1.out k
    by_cases hk3 : k < 3
    · have hk3' : (k : Int) < 3 := by omega
      have t3 : thr rem k < 65536 := by
        have : (256 : Int) ^ k ≤ 256 ^ 2 := by
          obtain rfl | rfl | rfl : k = 0 ∨ k = 1 ∨ k = 2 := by omega
          all_goals decide
        omega
      have HT : Aside0 (thr rem (k + 1) = thr rem k * 256 + rem.getD k 0) := ⟨rfl⟩
      have hthr0 := hthr.1
      generalize thr rem k = x at *
      clear hthr
      by_cases hkn : k < n
      · obtain ⟨ad, rfl, hcl⟩ := Kd.at_int (Kd.C_below HR1.out H2.out) k (by omega) (by rw [HL.out]; omega)
        have hx := HB1.out.getD k
        have hk0 : (k : Int).toNat = k := by omega
        rw [hk0] at hcl
        have e1 : rd rem k = rem.getD k 0 := rfl
        rw [e1] at hcl
        generalize rem.getD k 0 = y at *
        have hor := or_i64 x y hthr0 t3 hx.1 hx.2
        have hkn' : (k : Int) < (n : Int) := by omega
        have h0 : (0 : Int) ≤ (k : Int) := by omega
        clear e1
        go_wp2_with (fail)
        go_roundg (gk - 1)
        case measure => omega
        case rel => exact ⟨k + 1, by omega, by omega, by go_num, by rw [HT.out], rfl⟩
      · have hkn' : ¬ (k : Int) < (n : Int) := by omega
        have hz := getD_ge rem k (by rw [HL.out]; omega)
        rw [hz] at HT
        clear hz
        go_wp2_with (fail)
        go_roundg (gk - 1)
        case measure => omega
        case rel => exact ⟨k + 1, by omega, by omega, by go_num, by rw [HT.out]; simp, rfl⟩
    · obtain rfl : k = 3 := by omega
      clear hk3
      generalize hx : thr rem 3 = x at *
      have HX := Aside0.mk hx
      clear hx
      go_wp2_with (fail)
      go_loopg [6, 32] 4 (fun g v6 v32 wy => ∃ i : Nat, i ≤ 4 ∧ g + i = 4 ∧ v32 = .int .i64 i ∧ Aside0 (Lib.IsBuilder 41 5 w.heap.size w.heap.size (Lib.byteCells (acc ++ (List.range i).map (sg rem))) wy) ∧ Aside0 (Below w.heap.size w wy))
      case atStart => exact ⟨0, by omega, by omega, rfl, ⟨by simpa using H1.out⟩, H2⟩
      case round =>
      clear H1 H2
      obtain ⟨i, hi, hgi, rfl, H1, H2⟩ := hrel
      obtain ⟨wy, rfl⟩ : ∃ wz : World, wz = wr := ⟨_, rfl⟩
      by_cases hi4 : i < 4
      · have hi4' : (i : Int) < 4 := by omega
        have hlh : (Lib.byteCells (acc ++ (List.range i).map (sg rem))).length ≤ 200000 := by
          rw [byteCells_length, List.length_append]
          have := congrArg List.length HE.out
          rw [List.length_append, enc_length l] at this
          simp; omega
        have hst : acc ++ (List.range (i + 1)).map (sg rem) = (acc ++ (List.range i).map (sg rem)) ++ [sg rem i] := by rw [List.range_succ]; simp
        have HST := Aside0.mk hst
        clear hst
        by_cases hin : n < i
        · have hin' : (n : Int) < (i : Int) := by omega
          have hsg : sg rem i = 61 := by unfold sg; rw [if_pos (by rw [HL.out]; exact hin)]
          have HSG := Aside0.mk hsg
          clear hsg
          go_wp2_with (first | (go_at_call 18; with_reducible refine Calls.mono (byte_any w.heap.size w.heap.size _ _ wy H1.out (by omega) (by exact H2.out.size)) ?_; rintro e w1 ⟨rfl, g1, g2⟩; have H3 := Aside0.mk g1; have H4 := Aside0.mk g2; clear g1 g2))
          go_roundg (gk - 1)
          case measure => omega
          case rel =>
            refine ⟨i + 1, by omega, by omega, by go_num, ⟨?_⟩, ⟨H2.out.trans H4.out⟩⟩
            have h := H3.out
            rw [HST.out, byteCells_append, HSG.out]
            simpa [Lib.byteCells] using h
        · have hin' : ¬ (n : Int) < (i : Int) := by omega
          have hsg : sg rem i = sgn (x / 2 ^ (18 - 6 * i) % 64).toNat := by unfold sg; rw [if_neg (by rw [HL.out]; exact hin), HX.out]
          have HSG := Aside0.mk hsg
          clear hsg
          have hx0 : 0 ≤ x := by have := thr_le rem HB1.out 3; rw [HX.out] at this; omega
          have hx1 : x < 16777216 := by have := thr_le rem HB1.out 3; rw [HX.out] at this; omega
          have hand := i64_and63 (x / 2 ^ (18 - 6 * i))
          generalize hy : x / 2 ^ (18 - 6 * i) % 64 = y at *
          have hy0 : 0 ≤ y := by rw [← hy]; exact Int.emod_nonneg _ (by decide)
          have hy1 : y < 64 := by rw [← hy]; exact Int.emod_lt_of_pos _ (by decide)
          clear hy
          go_wp2_with (first | (go_at_call 18; with_reducible refine Calls.mono (byte_any w.heap.size w.heap.size _ _ wy H1.out (by omega) (by exact H2.out.size)) ?_; rintro e w1 ⟨rfl, g1, g2⟩; have H3 := Aside0.mk g1; have H4 := Aside0.mk g2; clear g1 g2))
          go_roundg (gk - 1)
          case measure => omega
          case rel =>
            refine ⟨i + 1, by omega, by omega, by go_num, ⟨?_⟩, ⟨H2.out.trans H4.out⟩⟩
            have h := H3.out
            rw [sgn_of y hy0 hy1 ⟨#[65, 66, 67, 68, 69, 70, 71, 72, 73, 74, 75, 76, 77, 78, 79, 80, 81, 82, 83, 84, 85, 86, 87, 88, 89, 90, 97, 98, 99, 100, 101, 102, 103, 104, 105, 106, 107, 108, 109, 110, 111, 112, 113, 114, 115, 116, 117, 118, 119, 120, 121, 122, 48, 49, 50, 51, 52, 53, 54, 55, 56, 57, 43, 47]⟩ rfl] at h
            rw [HST.out, byteCells_append, HSG.out]
            simpa [Lib.byteCells] using h
      · obtain rfl : i = 4 := by omega
        have hq : acc ++ (List.range 4).map (sg rem) ++ enc (rem.drop 3) = enc l := by
          rw [← HE.out, enc_step rem (by rw [HL.out]; exact hpos)]; simp [quad]
        have HQ := Aside0.mk hq
        clear hq
        have hr1 := HR1.out
        obtain ⟨i0, hi0, _, hsz, _⟩ := info_parts infoU8
        have hlr := HL.out
        obtain ⟨m, hm⟩ : ∃ m, m = min 3 n := ⟨_, rfl⟩
        have hm1 : m ≤ n := by omega
        have hm3 : 1 ≤ m := by omega
        have hcut := cut_from (P := Tryd.prog) 22 5 .i64 Tryd.underlying22 hi0 1 hsz A1 n c1 m (by omega) (by omega)
        have hnext : CB w (if c1 = m then A1 else A1.map (·.add (m * (Kd.int .u8).sz))) (rem.drop m) := Kd.C_drop hr1 (by omega) (by omega)
        have esz : (Kd.int .u8).sz = 1 := rfl
        have e64 : (m : Int).toNat = m := by omega
        rw [esz] at hnext
        rw [e64] at hcut
        generalize (if c1 = m then A1 else A1.map (·.add (m * 1))) = A6 at hcut hnext
        have HNX := Aside0.mk hnext
        have HM := Aside0.mk hm
        clear hnext esz hi0 hsz hlr hr1 e64 hm
        have hmin : min (3 : Int) (n : Int) = (m : Int) := by have := HM.out; omega
        go_wp2_with (fail)
        go_roundg (ga - 1)
        case measure => omega
        case rel =>
          refine ⟨A6, n - m, c1 - m, rem.drop m, acc ++ (List.range 4).map (sg rem), ?_, by omega, by omega, by omega, ⟨by rw [List.length_drop, HL.out]⟩, HNX, ⟨HB1.out.drop m⟩, ⟨?_⟩, H1, H2⟩
          · first | rfl | go_num
          · rw [← HQ.out]
            congr 1
            by_cases h3 : 3 ≤ n
            · rw [show m = 3 by have := HM.out; omega]
            · have h := HL.out
              rw [List.drop_eq_nil_of_le (by have := HM.out; omega), List.drop_eq_nil_of_le (by omega)]
  · have hz : n = 0 := by omega
    have e : rem = [] := by have := HL.out; rw [hz] at this; exact List.length_eq_zero_iff.1 this
    have eE := HE.out
    rw [e] at eE
    simp only [enc, List.append_nil] at eE
    rw [eE] at H1
    have t1 : decide ((0 : Int) < (n : Int)) = false := by simp; omega
    have t2 : decide (0 < n) = false := by simp; omega
    clear hz e eE
    go_wp2_with (first | (go_at_call 19; with_reducible refine Calls.mono (Tryd.Builder_String_any w.heap.size w.heap.size (enc l) wx H1.out (by exact H2.out.size)) ?_; rintro e w3 ⟨rfl, g⟩; have H3 := Aside0.mk g; clear g))
    go_ret
    exact ⟨rfl, H2.out.trans H3.out⟩
end Go.Proofs.YtalignlbbdeeiaaDoor
