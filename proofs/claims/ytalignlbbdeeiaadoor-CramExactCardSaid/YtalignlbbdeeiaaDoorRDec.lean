/- What the reference's Decode answers. -/
import Derived.Test.YtalignlbbdeeiaaDoorProg
import Derived.WalkKit
import Derived.WalkLawsBesides
import Derived.Outline
import Derived.LoopTactic
import Derived.Lib.Hide
import Derived.Deep.QuietTactic
import Derived.BigQuiet
import Derived.Deep.LoopGhost
import Derived.Deep.DeepCutAuto
import Derived.Deep.CutBlock
import Derived.Deep.RegionHeld3
import Derived.Deep.RegionWith
import Derived.Deep.WholeRow
import Derived.Laws.Rows
import Derived.Laws.Tables
import Derived.Laws.ResultCell
import Derived.StillTailTactics
import Derived.Deep.DeepMust
import Derived.IntWalk
import Derived.KernelRfl
import Derived.Test.YtalignlbbdeeiaaDoorWWords
import Derived.Test.YtalignlbbdeeiaaDoorWLast
import Derived.Test.YtalignlbbdeeiaaDoorWMore
import Derived.RegionTactic
import Derived.Test.YtalignlbbdeeiaaDoorREnc
namespace Go.Proofs.YtalignlbbdeeiaaDoor
open Go.RowKit
open Go.Proofs.YtalignlbbdeeiaaDoorW.PrintWords
set_option linter.unusedVariables false
set_option linter.unusedSimpArgs false
theorem idx_back (c : UInt8) (h : 0 ≤ idx c) : sgn (idx c).toNat = c := by
  have h2 : ∀ n, n < 256 → 0 ≤ idx (UInt8.ofNat n) → sgn (idx (UInt8.ofNat n)).toNat = UInt8.ofNat n := by decide +kernel
  have := h2 c.toNat c.toNat_lt
  simp at this
  exact this h
theorem signs_at (k : Nat) (h : k < 64) (hk : k < signs.size) : signs[k] = sgn k := by
  have := sgn_of k (by omega) (by omega) signs rfl (by simpa using hk)
  simpa using this
set_option maxRecDepth 100000 in
set_option maxHeartbeats 2000000 in
theorem rvalue_at (c : UInt8) (d v : Int) (hd : (c.toNat : Int) = d) (hv : idx c = v) (w : World) :
    Calls Tryd.prog 22 #[.int .u8 d] w fun e w' => e = .returned (.int .i64 v) ∧ w = w' := by
  obtain ⟨D, hD⟩ : ∃ D, D = signs := ⟨_, rfl⟩
  have HD := Aside0.mk hD
  have HV := Aside0.mk hv
  have HC := Aside0.mk hd
  have hany := idx_any c
  rw [hv] at hany
  clear hD hv hd
  go_enter Tryd.func22, Tryd.ntmps22
  go_wp2_with (first | (go_at_call 24; refine (rsigns_at D HD.out _).mono ?_; rintro e w1 ⟨rfl, rfl⟩))
  go_loopg [4] 64 (fun g v4 wr => ∃ k : Nat, k ≤ 64 ∧ g + k = 64 ∧ v4 = .int .i64 k ∧ (v < 0 ∨ (k : Int) ≤ v) ∧ w = wr)
  case atStart => exact ⟨0, by omega, by omega, rfl, by omega, rfl⟩
  case round =>
  obtain ⟨k, hk, hg, rfl, hkv, rfl⟩ := hrel
  by_cases hk64 : k < 64
  · have hk64' : (k : Int) < 64 := by omega
    obtain ⟨e, he⟩ : ∃ e : Int, ((sgn k).toNat : Int) = e := ⟨_, rfl⟩
    have hix : ∀ w, (Instr.index 9 (.string D) (.int .i64 (k : Int))).run Tryd.prog w = .ok (.int .u8 e) w := by
      intro w
      have hs : signs.size = 64 := rfl
      rw [HD.out, run_index_string w 9 signs .i64 _ Tryd.underlying9, dif_pos (by omega), ← he]
      simp only [Int.toNat_natCast]
      rw [signs_at k hk64]
    have HEE := Aside0.mk he
    clear he
    by_cases hkc : sgn k = c
    · have hee : (e == d) = true := by rw [beq_iff_eq, ← HEE.out, ← HC.out, hkc]
      have hvk : v = k := by rw [← HV.out, ← hkc]; exact idx_sgn k hk64
      have HVK := Aside0.mk hvk
      clear hvk hkc hkv hany
      go_wp2_with (fail)
      go_ret
      exact ⟨by rw [HVK.out]; rfl, rfl⟩
    · have hee : (e == d) = false := by
        rw [beq_eq_false_iff_ne, ← HEE.out, ← HC.out]
        intro h
        exact hkc (UInt8.toNat_inj.1 (by omega))
      have hvk : v ≠ k := by
        intro h
        apply hkc
        have := idx_back c (by rw [HV.out]; omega)
        rw [HV.out, h] at this
        simpa using this
      have hnext : v < 0 ∨ ((k : Int) + 1) ≤ v := by omega
      have HN := Aside0.mk hnext
      clear hvk hkc hkv hany hnext
      go_wp2_with (fail)
      go_roundg (gk - 1)
      case measure => omega
      case rel => exact ⟨k + 1, by omega, by omega, by go_num, by have := HN.out; omega, rfl⟩
  · have hv1 : v = -1 := by omega
    have HV1 := Aside0.mk hv1
    have hk64' : ¬ (k : Int) < 64 := by omega
    clear hv1 hkv hany
    go_wp2_with (fail)
    go_ret
    exact ⟨by rw [HV1.out]; rfl, rfl⟩
theorem enc_at : ∀ (m : Nat) (l : List Int) (k : Nat), 3 * m < l.length → k < 4 → (enc l)[4 * m + k]? = some (sg (l.drop (3 * m)) k)
  | 0, l, k, hl, hk => by
    rw [enc_step l (by omega), List.getElem?_append_left (by rw [quad_length]; omega)]
    simp [quad, hk]
  | m + 1, l, k, hl, hk => by
    rw [enc_step l (by omega), List.getElem?_append_right (by rw [quad_length]; omega), quad_length, show 4 * (m + 1) + k - 4 = 4 * m + k by omega, enc_at m (l.drop 3) k (by rw [List.length_drop]; omega) hk, List.drop_drop]
    rw [show 3 + 3 * m = 3 * (m + 1) by omega]
theorem idx_sixtyone : idx 61 = -1 := by decide +kernel
theorem rstep (rem : List Int) (hb : Md5.Bytes rem) (hr : 0 < rem.length) (k : Nat) (hk : k < 4) (c : UInt8) (hc : c = sg rem k) :
    (thr rem 3 / 2 ^ (24 - 6 * (k + 1)) = thr rem 3 / 2 ^ (24 - 6 * k) * 64 + max (idx c) 0) ∧ ((0 ≤ idx c ∧ min k (rem.length + 1) = k) → min (k + 1) (rem.length + 1) = min k (rem.length + 1) + 1) ∧ (¬ (0 ≤ idx c ∧ min k (rem.length + 1) = k) → c = 61 ∧ min (k + 1) (rem.length + 1) = min k (rem.length + 1)) := by
  have a0 := hb.getD 0
  have a1 := hb.getD 1
  have a2 := hb.getD 2
  have e : thr rem 3 = (rem.getD 0 0 * 256 + rem.getD 1 0) * 256 + rem.getD 2 0 := by simp [thr]
  have z1 : rem.length < 2 → rem.getD 1 0 = 0 := fun h => getD_ge rem 1 (by omega)
  have z2 : rem.length < 3 → rem.getD 2 0 = 0 := fun h => getD_ge rem 2 (by omega)
  by_cases hkr : rem.length < k
  · have hs : c = 61 := by rw [hc]; unfold sg; rw [if_pos hkr]
    have hi : idx c = -1 := by rw [hs]; exact idx_sixtyone
    rw [hi]
    refine ⟨?_, ?_, ?_⟩
    · rw [e]
      obtain rfl | rfl : k = 2 ∨ k = 3 := by omega
      · rw [z1 (by omega), z2 (by omega)]
        simp
        omega
      · rw [z2 (by omega)]
        simp
        omega
    · intro h
      omega
    · intro _
      exact ⟨hs, by omega⟩
  · have hs : c = sgn (thr rem 3 / 2 ^ (18 - 6 * k) % 64).toNat := by rw [hc]; unfold sg; rw [if_neg hkr]
    have hi : idx c = thr rem 3 / 2 ^ (18 - 6 * k) % 64 := by
      rw [hs, idx_sgn _ (by omega)]
      omega
    rw [hi]
    refine ⟨?_, ?_, ?_⟩
    · rw [e]
      obtain rfl | rfl | rfl | rfl : k = 0 ∨ k = 1 ∨ k = 2 ∨ k = 3 := by omega
      all_goals simp
      all_goals omega
    · intro h
      omega
    · intro h
      exact absurd ⟨by omega, by omega⟩ h
theorem rbyte (rem : List Int) (hb : Md5.Bytes rem) (k : Nat) (hk : k < 3) : thr rem 3 / 2 ^ (16 - 8 * k) % 256 = rem.getD k 0 := by
  have a0 := hb.getD 0
  have a1 := hb.getD 1
  have a2 := hb.getD 2
  have e : thr rem 3 = (rem.getD 0 0 * 256 + rem.getD 1 0) * 256 + rem.getD 2 0 := by simp [thr]
  rw [e]
  have p0 : (2 : Int) ^ (16 - 8 * 0) = 65536 := rfl
  have p1 : (2 : Int) ^ (16 - 8 * 1) = 256 := rfl
  have p2 : (2 : Int) ^ (16 - 8 * 2) = 1 := rfl
  obtain rfl | rfl | rfl : k = 0 ∨ k = 1 ∨ k = 2 := by omega
  · rw [p0]; omega
  · rw [p1]; omega
  · rw [p2]; omega
theorem or_six' (B v : Int) (h0 : 0 ≤ B) (h1 : B < 16777216) (c0 : 0 ≤ v) (c1 : v < 64) : bits .or .i64 (B * 64) v = B * 64 + v := by
  obtain ⟨n, rfl⟩ := Int.eq_ofNat_of_zero_le h0
  obtain ⟨m, rfl⟩ := Int.eq_ofNat_of_zero_le c0
  have e1 : (n : Int) * 64 = ((64 * n : Nat) : Int) := by omega
  rw [e1, i64_or_nat _ _ (by omega) (by omega), nat_join 6 _ _ (by omega) (by omega)]
  simp
theorem take_step (rem : List Int) (k : Nat) (hk : k < rem.length) : rem.take (k + 1) = rem.take k ++ [rem.getD k 0] := by
  rw [List.take_succ_eq_append_getElem hk]; simp [List.getD_eq_getElem?_getD, hk]
set_option maxRecDepth 100000 in
set_option maxHeartbeats 4000000 in
theorem rdec_any (S : ByteArray) (w : World) (hs : S.size ≤ 2000) :
    Calls Tryd.prog 11 #[.string S] w fun e w' => ((∃ v l, e = .returned (.tuple #[v, .bool true]) ∧ RB w' w.heap.size (fun _ => True) v l ∧ Md5.Bytes l ∧ l.length ≤ 2000 ∧ enc l = S.data.toList) ∨ (e = .returned (.tuple #[.slice none 0 0, .bool false]) ∧ ∀ l, Md5.Bytes l → enc l ≠ S.data.toList)) ∧ Below w.heap.size w w' := by
  go_enter Tryd.func11, Tryd.ntmps11
  by_cases hmod : S.size % 4 = 0
  · have t1 : (((S.size : Int) % 4) != 0) = false := by rw [bne_eq_false_iff_eq]; omega
    have HSL : Aside0 (S.data.toList.length = S.size) := ⟨by rw [Array.length_toList]; rfl⟩
    go_wp2_with (fail)
    go_loopg [4, 5] S.size (fun g v4 v5 wr => ∃ (m i : Nat) (out : List Int), i = 4 * m ∧ S.size - i ≤ g ∧ i ≤ S.size ∧ v5 = .int .i64 i ∧ Aside0 (out.length ≤ 3 * m) ∧ Aside0 (∀ l, Md5.Bytes l → enc l = S.data.toList → out = l.take (3 * m)) ∧ Aside0 (Md5.Bytes out) ∧ Aside0 (RB wr w.heap.size (fun _ => True) v4 out) ∧ Aside0 (Below w.heap.size w wr))
    case atStart => exact ⟨0, 0, [], rfl, by omega, by omega, rfl, ⟨by simp⟩, ⟨fun l _ _ => by simp⟩, ⟨fun _ h => absurd h List.not_mem_nil⟩, ⟨Kd.R_nil _ _ _ _ _⟩, ⟨Below.refl _ _⟩⟩
    case round =>
    obtain ⟨m, i, out, him, hg, hi, rfl, HL, HX, HO, H1, H2⟩ := hrel
    obtain ⟨A5, c5, rfl, hc5, hr5⟩ := Kd.R_reads H1.out
    obtain ⟨wx, rfl⟩ : ∃ wz : World, wz = wr := ⟨_, rfl⟩
    obtain ⟨ga, rfl⟩ : ∃ x : Nat, x = gk := ⟨_, rfl⟩
    have HIM := Aside0.mk him
    clear hr5
    by_cases hil : i < S.size
    · have hil' : (i : Int) < (S.size : Int) := by omega
      have hi4 : i + 4 ≤ S.size := by omega
      clear him
      go_wp2_with (fail)
      go_loopg [6, 7, 8, 9] 4 (fun g v6 v7 v8 v9 wy => ∃ (k n : Nat) (v : Int), k ≤ 4 ∧ g + k = 4 ∧ n ≤ k ∧ v8 = .int .i64 k ∧ v7 = .int .i64 n ∧ v6 = .int .i64 v ∧ 0 ≤ v ∧ v < 64 ^ k ∧ Aside0 (∀ l, Md5.Bytes l → enc l = S.data.toList → v = thr (l.drop (3 * m)) 3 / 2 ^ (24 - 6 * k) ∧ n = min k ((l.drop (3 * m)).length + 1)) ∧ wy = wx)
      case atStart =>
        refine ⟨0, 0, 0, by omega, by omega, by omega, rfl, rfl, rfl, by omega, by simp, ⟨fun l hb he => ⟨?_, by omega⟩⟩, rfl⟩
        have h := thr_le (l.drop (3 * m)) (hb.drop _) 3
        have h2 : thr (l.drop (3 * m)) 3 < 16777216 := h.2
        simp
        omega
      case round =>
      obtain ⟨k, n, v, hk, hgk, hnk, rfl, rfl, rfl, hv0, hv1, HK, rfl⟩ := hrel
      by_cases hk4 : k < 4
      · have hk4' : (k : Int) < 4 := by omega
        have h3m : ∀ l, enc l = S.data.toList → 3 * m < l.length := fun l h => by have := enc_size l S h; have := HIM.out; omega
        have hik : i + k < S.data.toList.length := by have := HSL.out; omega
        obtain ⟨c, hc⟩ : ∃ c, S.data.toList[i + k]? = some c := ⟨_, List.getElem?_eq_getElem hik⟩
        have hki : i + k < S.size := by have := HSL.out; omega
        have gT : S[i + k] = c := ba_at S.data.toList S (by simp) (i + k) c hc hki
        obtain ⟨d, hd⟩ : ∃ d : Int, (c.toNat : Int) = d := ⟨_, rfl⟩
        have hix : ∀ w, (Instr.index 9 (.string S) (.int .i64 ((i : Int) + (k : Int)))).run Tryd.prog w = .ok (.int .u8 d) w := by
          intro w
          have e : ((i : Int) + (k : Int)).toNat = i + k := by omega
          rw [run_index_string w 9 S .i64 _ Tryd.underlying9, dif_pos (by omega), ← hd]
          simp only [e]
          rw [gT]
        obtain ⟨x, hx⟩ : ∃ x, idx c = x := ⟨_, rfl⟩
        have hany := idx_any c
        rw [hx] at hany
        have hstep : ∀ l, Md5.Bytes l → enc l = S.data.toList → (thr (l.drop (3 * m)) 3 / 2 ^ (24 - 6 * (k + 1)) = v * 64 + max x 0) ∧ ((0 ≤ x ∧ n = k) → n + 1 = min (k + 1) ((l.drop (3 * m)).length + 1)) ∧ (¬ (0 ≤ x ∧ n = k) → c = 61 ∧ n = min (k + 1) ((l.drop (3 * m)).length + 1)) := by
          intro l hb he
          have hv := HK.out l hb he
          have hcc : c = sg (l.drop (3 * m)) k := by
            have h := enc_at m l k (h3m l he) hk4
            rw [he, ← HIM.out, hc] at h
            exact Option.some.inj h
          have h := rstep (l.drop (3 * m)) (hb.drop _) (by have := h3m l he; rw [List.length_drop]; omega) k hk4 c hcc
          rw [hx, ← hv.1, ← hv.2] at h
          exact ⟨h.1, fun h1 => (h.2.1 h1).symm, fun h1 => ⟨(h.2.2 h1).1, (h.2.2 h1).2.symm⟩⟩
        have HXX := Aside0.mk hx
        have HD := Aside0.mk hd
        have HST := Aside0.mk hstep
        have hvb : v < 16777216 := by
          have : (64 : Int) ^ k ≤ 64 ^ 3 := by
            obtain rfl | rfl | rfl | rfl : k = 0 ∨ k = 1 ∨ k = 2 ∨ k = 3 := by omega
            all_goals decide
          omega
        obtain ⟨y, hy⟩ : ∃ y, y = max x 0 := ⟨_, rfl⟩
        have hmax : max x 0 = y := hy.symm
        have hy0 : 0 ≤ y := by omega
        have hy1 : y < 64 := by omega
        have hor := or_six' v y hv0 hvb hy0 hy1
        have hvn : v * 64 + y < 64 ^ (k + 1) := by rw [Int.pow_succ]; omega
        have HVN := Aside0.mk hvn
        have HY := Aside0.mk hy
        have HC := Aside0.mk hc
        have h0 : (0 : Int) ≤ (i : Int) + (k : Int) := by omega
        have h1 : (i : Int) + (k : Int) < (S.size : Int) := by omega
        clear gT hd hx hc hany hstep hik hki h3m hy hvn
        by_cases hxn : 0 ≤ x ∧ n = k
        · obtain ⟨hx0, rfl⟩ := hxn
          go_wp2_with (first | (go_at_call 22; refine (rvalue_at c d x HD.out HXX.out _).mono ?_; rintro e w1 ⟨rfl, rfl⟩))
          go_roundg (gk - 1)
          case measure => omega
          case rel =>
            refine ⟨n + 1, n + 1, v * 64 + y, by omega, by omega, by omega, by go_num, by go_num, rfl, by omega, HVN.out, ⟨fun l hb he => ?_⟩, rfl⟩
            have h := HST.out l hb he
            exact ⟨by rw [HY.out]; exact h.1.symm, h.2.1 ⟨hx0, by simp⟩⟩
        · by_cases hc61 : c = 61
          · have hd61 : (d != 61) = false := by rw [bne_eq_false_iff_eq, ← HD.out, hc61]; rfl
            have HNX := Aside0.mk hxn
            clear hc61
            by_cases hx0 : 0 ≤ x
            · have hnk2 : ((n : Int) == (k : Int)) = false := by rw [beq_eq_false_iff_ne]; intro h; exact hxn ⟨hx0, by omega⟩
              clear hxn
              go_wp2_with (first | (go_at_call 22; refine (rvalue_at c d x HD.out HXX.out _).mono ?_; rintro e w1 ⟨rfl, rfl⟩))
              go_roundg (gk - 1)
              case measure => omega
              case rel =>
                refine ⟨k + 1, n, v * 64 + y, by omega, by omega, by omega, by go_num, rfl, rfl, by omega, HVN.out, ⟨fun l hb he => ?_⟩, rfl⟩
                have h := HST.out l hb he
                exact ⟨by rw [HY.out]; exact h.1.symm, (h.2.2 HNX.out).2⟩
            · clear hxn
              go_wp2_with (first | (go_at_call 22; refine (rvalue_at c d x HD.out HXX.out _).mono ?_; rintro e w1 ⟨rfl, rfl⟩))
              go_roundg (gk - 1)
              case measure => omega
              case rel =>
                refine ⟨k + 1, n, v * 64 + y, by omega, by omega, by omega, by go_num, rfl, rfl, by omega, HVN.out, ⟨fun l hb he => ?_⟩, rfl⟩
                have h := HST.out l hb he
                exact ⟨by rw [HY.out]; exact h.1.symm, (h.2.2 HNX.out).2⟩
          · have hd61 : (d != 61) = true := by
              rw [bne_iff_ne, ← HD.out]
              intro h
              exact hc61 (UInt8.toNat_inj.1 (by simp; omega))
            have hno : ∀ l, Md5.Bytes l → enc l ≠ S.data.toList := fun l hb he => hc61 ((HST.out l hb he).2.2 hxn).1
            have HNO := Aside0.mk hno
            clear hc61 hno
            by_cases hx0 : 0 ≤ x
            · have hnk2 : ((n : Int) == (k : Int)) = false := by rw [beq_eq_false_iff_ne]; intro h; exact hxn ⟨hx0, by omega⟩
              clear hxn
              go_wp2_with (first | (go_at_call 22; refine (rvalue_at c d x HD.out HXX.out _).mono ?_; rintro e w1 ⟨rfl, rfl⟩))
              refine bodyPost_ret (results_tmp2 rfl _ _ _) rfl ?_
              exact ⟨.inr ⟨rfl, HNO.out⟩, H2.out⟩
            · clear hxn
              go_wp2_with (first | (go_at_call 22; refine (rvalue_at c d x HD.out HXX.out _).mono ?_; rintro e w1 ⟨rfl, rfl⟩))
              refine bodyPost_ret (results_tmp2 rfl _ _ _) rfl ?_
              exact ⟨.inr ⟨rfl, HNO.out⟩, H2.out⟩
      · obtain rfl : k = 4 := by omega
        have hv1' : v < 16777216 := hv1
        have HK4 : Aside0 (∀ l, Md5.Bytes l → enc l = S.data.toList → v = thr (l.drop (3 * m)) 3 ∧ n = min 4 ((l.drop (3 * m)).length + 1)) := ⟨fun l hb he => by
          have h := HK.out l hb he
          simpa using h⟩
        have HMM : Aside0 (m ≤ 500) := ⟨by have := HIM.out; omega⟩
        clear hv1 HK
        go_wp2_with (fail)
        go_loopg [4, 10] 4 (fun g v4 v10 wy => ∃ (k : Nat) (out2 : List Int), n - 1 - k ≤ g ∧ k ≤ n - 1 ∧ v10 = .int .i64 k ∧ Aside0 (out2.length ≤ 3 * m + k) ∧ Aside0 (∀ l, Md5.Bytes l → enc l = S.data.toList → out2 = l.take (3 * m) ++ (l.drop (3 * m)).take k) ∧ Aside0 (Md5.Bytes out2) ∧ Aside0 (RB wy w.heap.size (fun _ => True) v4 out2) ∧ Aside0 (Below w.heap.size w wy))
        case atStart => exact ⟨0, out, by omega, by omega, rfl, ⟨by have := HL.out; omega⟩, ⟨fun l hb he => by have := HX.out l hb he; simpa using this⟩, HO, H1, H2⟩
        case round =>
        clear H1 H2
        obtain ⟨k, out2, hg2, hk2, rfl, HL2, HX2, HO2, H1, H2⟩ := hrel
        obtain ⟨A7, c7, rfl, hc7, hr7⟩ := Kd.R_reads H1.out
        obtain ⟨wz, rfl⟩ : ∃ wq : World, wq = wr := ⟨_, rfl⟩
        clear hr7
        by_cases hkn : k + 1 < n
        · have hkn' : (k : Int) < (n : Int) - 1 := by omega
          have HLn : Aside0 ((out2.length + 1) * 1 ≤ 140737488355328) := ⟨by have := HL2.out; have := HMM.out; omega⟩
          have hb8 : 0 ≤ v / 2 ^ (16 - 8 * k) % 256 ∧ v / 2 ^ (16 - 8 * k) % 256 < 256 := ⟨Int.emod_nonneg _ (by decide), Int.emod_lt_of_pos _ (by decide)⟩
          have HB8 := Aside0.mk hb8
          have hk3 : (k : Int) < 3 := by omega
          clear hb8
          go_wp2_with (first | ((with_reducible refine gate_builtin (b := .append) (xs := #[.tmp 57, .tmp 65]) rfl ?_); at_builtin; refine Kd.R_append (Kd.int .u8) (w0 := w) w.heap.size rfl (.tmp 57) (.tmp 65) 22 5 (.int .u8 0) 1 rfl Tryd.underlying22 infoU8 rfl (by decide) (by omega) (.slice A7 out2.length c7) out2 (v / 2 ^ (16 - 8 * k) % 256) [.int .u8 (v / 2 ^ (16 - 8 * k) % 256)] (fun _ => True) (fun _ => False) rfl rfl rfl (fun _ h => h.elim) (fun _ _ => trivial) H1.out H2.out H2.out.size HLn.out ?_; intro v2 w2 h1 h2 h3 h4; clear H1 H2; have H1 := Aside0.mk h1; have H2 := Aside0.mk h2; clear h1 h2 h3 h4))
          go_roundg (gk - 1)
          case measure => omega
          case rel =>
            refine ⟨k + 1, out2 ++ [v / 2 ^ (16 - 8 * k) % 256], by omega, by omega, by go_num, ⟨by have := HL2.out; simp; omega⟩, ⟨fun l hb he => ?_⟩, ⟨HO2.out.append ?_⟩, H1, H2⟩
            · have h4 := HK4.out l hb he
              rw [HX2.out l hb he, take_step (l.drop (3 * m)) k (by omega), h4.1, rbyte _ (hb.drop _) k (by omega)]
              simp
            · intro z hz
              simp only [List.mem_cons, List.not_mem_nil, or_false] at hz
              rw [hz]
              exact HB8.out
        · have hkn' : ¬ (k : Int) < (n : Int) - 1 := by omega
          go_wp2_with (fail)
          go_roundg (ga - 1)
          case measure => omega
          case rel =>
            refine ⟨m + 1, i + 4, out2, by have := HIM.out; omega, by omega, by omega, by go_num, ⟨by have := HL2.out; omega⟩, ⟨fun l hb he => ?_⟩, HO2, H1, H2⟩
            have h4 := HK4.out l hb he
            have h5 := h4.2
            rw [HX2.out l hb he]
            have e : (l.drop (3 * m)).take k = (l.drop (3 * m)).take 3 := by
              by_cases h3 : 3 ≤ (l.drop (3 * m)).length
              · rw [show k = 3 by omega]
              · rw [List.take_of_length_le (by omega), List.take_of_length_le (by omega)]
            rw [e, show 3 * (m + 1) = 3 * m + 3 by omega, List.take_add]
    · have hi2 : i = S.size := by omega
      have hil' : ¬ (i : Int) < (S.size : Int) := by omega
      obtain ⟨E, hE⟩ : ∃ E, encB out = E := ⟨_, rfl⟩
      have HE := Aside0.mk hE
      have HL2 : Aside0 (out.length ≤ 2000) := ⟨by have := HL.out; omega⟩
      have HALL : Aside0 (∀ l, Md5.Bytes l → enc l = S.data.toList → out = l) := ⟨fun l hb he => by
        rw [HX.out l hb he]
        have := enc_size l S he
        exact List.take_of_length_le (by omega)⟩
      clear hE him hi2
      by_cases hES : E = S
      · have t1 : (E.toList == S.toList) = true := by rw [str_eq]; simp [hES]
        have HES := Aside0.mk hES
        clear hES
        go_wp2_with (first | (go_at_call 13; refine (renc_at A5 c5 out.length out E wx rfl HE.out (Kd.R_reads' H1.out).2.2 HO.out (by have := HL2.out; omega)).mono ?_; rintro e w1 ⟨rfl, rfl⟩))
        refine bodyPost_ret (results_tmp2 rfl _ _ _) rfl ?_
        refine ⟨.inl ⟨_, out, rfl, H1.out, HO.out, HL2.out, ?_⟩, H2.out⟩
        rw [← HES.out, ← HE.out]
        simp [encB]
      · have t1 : (E.toList == S.toList) = false := by rw [str_eq]; simp [hES]
        have hbad : ∀ l, Md5.Bytes l → enc l ≠ S.data.toList := by
          intro l hb h
          apply hES
          rw [← HE.out, HALL.out l hb h]
          apply ba_eq
          rw [← h]
          simp [encB]
        have HBAD := Aside0.mk hbad
        clear hES hbad
        go_wp2_with (first | (go_at_call 13; refine (renc_at A5 c5 out.length out E wx rfl HE.out (Kd.R_reads' H1.out).2.2 HO.out (by have := HL2.out; omega)).mono ?_; rintro e w1 ⟨rfl, rfl⟩))
        refine bodyPost_ret (results_tmp2 rfl _ _ _) rfl ?_
        exact ⟨.inr ⟨rfl, HBAD.out⟩, H2.out⟩
  · have t1 : (((S.size : Int) % 4) != 0) = true := by rw [bne_iff_ne]; omega
    have hno : ∀ l, Md5.Bytes l → enc l ≠ S.data.toList := fun l _ h => by have := enc_size l S h; omega
    have HNO := Aside0.mk hno
    clear hno
    go_wp2_with (fail)
    refine bodyPost_ret (results_tmp2 rfl _ _ _) rfl ?_
    exact ⟨.inr ⟨rfl, HNO.out⟩, Below.refl _ _⟩
end Go.Proofs.YtalignlbbdeeiaaDoor
