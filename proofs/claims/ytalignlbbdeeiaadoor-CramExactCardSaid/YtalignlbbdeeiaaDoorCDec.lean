/- What cram's Decode answers. -/
import Derived.Test.YtalignlbbdeeiaaDoorProg
import Derived.WalkKit
import Derived.WalkLawsBesides
import Derived.Outline
import Derived.LoopTactic
import Derived.Lib.Hide
import Derived.Deep.QuietTactic
import Derived.BigQuiet
import Derived.Deep.LoopGhost
import Derived.Deep.DeepCutAuto
import Derived.Deep.CutBlock
import Derived.Deep.RegionHeld3
import Derived.Deep.RegionWith
import Derived.Deep.WholeRow
import Derived.Laws.Rows
import Derived.Laws.Tables
import Derived.Laws.ResultCell
import Derived.StillTailTactics
import Derived.Deep.DeepMust
import Derived.IntWalk
import Derived.KernelRfl
import Derived.Test.YtalignlbbdeeiaaDoorWWords
import Derived.Test.YtalignlbbdeeiaaDoorWLast
import Derived.Test.YtalignlbbdeeiaaDoorWMore
import Derived.RegionTactic
import Derived.Test.YtalignlbbdeeiaaDoorDec
import Derived.Test.YtalignlbbdeeiaaDoorWakeB
namespace Go.Proofs.YtalignlbbdeeiaaDoor
open Go.RowKit
open Go.Proofs.YtalignlbbdeeiaaDoorW.PrintWords
set_option linter.unusedVariables false
set_option linter.unusedSimpArgs false
theorem ba_at (L : List UInt8) (H : ByteArray) (hH : (⟨L.toArray⟩ : ByteArray) = H) (j : Nat) (x : UInt8) (h : L[j]? = some x) (hj : j < H.size) : H[j] = x := by
  subst hH
  have : L.toArray[j]? = some x := by simpa using h
  obtain ⟨h1, h2⟩ := Array.getElem?_eq_some_iff.1 this
  exact h2
def idx (c : UInt8) : Int := Lib.indexByte signs.data.toList c
theorem idx_sgn (v : Nat) (h : v < 64) : idx (sgn v) = v := by
  revert v
  decide +kernel
theorem idx_any (c : UInt8) : idx c = -1 ∨ (0 ≤ idx c ∧ idx c < 64) := by
  have h : ∀ n, n < 256 → (idx (UInt8.ofNat n) = -1 ∨ (0 ≤ idx (UInt8.ofNat n) ∧ idx (UInt8.ofNat n) < 64)) := by decide +kernel
  have := h c.toNat c.toNat_lt
  simpa using this
theorem cidx_at (D : ByteArray) (hD : D = signs) (c : UInt8) (d v : Int) (hd : (c.toNat : Int) = d) (hv : idx c = v) (w : World) :
    Calls Tryd.prog 21 #[.string D, .int .u8 d] w fun e w' => e = .returned (.int .i64 v) ∧ w = w' := by
  subst hD hv hd
  have h := Tryd.strings_IndexByte signs (c.toNat : Int) w
  have e : ((c.toNat : Int)).toNat.toUInt8 = c := by simp
  rw [e] at h
  exact h.mono fun _ _ ⟨h1, h2⟩ => ⟨h1, h2.symm⟩
theorem ctrim_at (S T : ByteArray) (w : World) (hs : S.size ≤ 1000000) (hT : (⟨(trim S.data.toList).toArray⟩ : ByteArray) = T) :
    Calls Tryd.prog 20 #[.string S, .string ⟨#[61]⟩] w fun e w' => e = .returned (.string T) ∧ w = w' := by
  subst hT
  exact (Tryd.strings_TrimRight_one S 61 (by decide) w (by omega)).mono fun _ _ ⟨h1, h2⟩ => ⟨h1, h2.symm⟩
/-- The numbers of signs. -/
def nums (P : List UInt8) : List Nat := P.map fun c => (idx c).toNat
theorem nums_digs (l : List Int) : nums ((digs l).map sgn) = digs l := by
  unfold nums
  rw [List.map_map]
  conv => rhs; rw [← List.map_id (digs l)]
  apply List.map_congr_left
  intro v hv
  have := idx_sgn v (digs_lt l v hv)
  simp [this]
theorem dec_bad (s : List UInt8) (k : Nat) (c : UInt8) (hc : (trim s)[k]? = some c) (hi : idx c = -1) (l : List Int) (hb : Md5.Bytes l) : enc l ≠ s := by
  rintro rfl
  rw [trim_enc l hb] at hc
  have hm := List.mem_of_getElem? hc
  simp only [List.mem_map] at hm
  obtain ⟨v, hv, rfl⟩ := hm
  have := idx_sgn v (digs_lt l v hv)
  omega
theorem dec_back (s : List UInt8) (l : List Int) (hb : Md5.Bytes l) (h : enc l = s) : (dfold (nums (trim s))).2.2 = l := by
  subst h
  rw [trim_enc l hb, nums_digs]
  have := digs_back l 0 [] hb (by omega)
  unfold dfold
  simpa using this
theorem or_six (B v : Int) (h0 : 0 ≤ B) (h1 : B < 65536) (c0 : 0 ≤ v) (c1 : v < 64) : bits .or .i64 (B * 64) v = B * 64 + v := by
  obtain ⟨n, rfl⟩ := Int.eq_ofNat_of_zero_le h0
  obtain ⟨m, rfl⟩ := Int.eq_ofNat_of_zero_le c0
  have e1 : (n : Int) * 64 = ((64 * n : Nat) : Int) := by omega
  rw [e1, i64_or_nat _ _ (by omega) (by omega), nat_join 6 _ _ (by omega) (by omega)]
  simp
set_option maxRecDepth 100000 in
set_option maxHeartbeats 1000000 in
theorem cdec_any (S : ByteArray) (w : World) (hs : S.size ≤ 2000) :
    Calls Tryd.prog 7 #[.string S] w fun e w' => ((∃ v l, e = .returned (.tuple #[v, .int .i64 0]) ∧ RB w' w.heap.size (fun _ => True) v l ∧ Md5.Bytes l ∧ l.length ≤ 2000 ∧ enc l = S.data.toList) ∨ (e = .returned (.tuple #[.slice none 0 0, .int .i64 5]) ∧ ∀ l, Md5.Bytes l → enc l ≠ S.data.toList)) ∧ Below w.heap.size w w' := by
  obtain ⟨P, hP⟩ : ∃ P, P = trim S.data.toList := ⟨_, rfl⟩
  have hPl : P.length ≤ S.size := by
    rw [hP, trim_prefix]
    have : S.data.toList.length = S.size := by rw [Array.length_toList]; rfl
    rw [← this]
    exact List.length_take_le' _ _
  obtain ⟨T, hT⟩ : ∃ T : ByteArray, T = ⟨P.toArray⟩ := ⟨_, rfl⟩
  have hTs : T.size = P.length := by rw [hT]; show P.toArray.size = _; simp
  have hTt : (⟨(trim S.data.toList).toArray⟩ : ByteArray) = T := by rw [← hP]; exact hT.symm
  have HP := Aside0.mk hP
  have HT := Aside0.mk hT
  have HTT := Aside0.mk hTt
  have HTS := Aside0.mk hTs
  clear hP hT hTt
  go_enter Tryd.func7, Tryd.ntmps7
  go_wp2_with (first | (go_at_call 20; refine (ctrim_at S T w (by omega) HTT.out).mono ?_; rintro e w1 ⟨rfl, rfl⟩))
  go_loopg [5, 6, 7, 8, 9, 14] P.length (fun g v5 v6 v7 v8 v9 v14 wr => ∃ (k n : Nat) (B : Int) (out : List Int), k ≤ P.length ∧ g + k = P.length ∧ v14 = .int .i64 k ∧ v6 = .int .i64 B ∧ v7 = .int .i64 n ∧ 0 ≤ B ∧ B < 65536 ∧ n < 8 ∧ Aside0 (out.length ≤ k) ∧ Aside0 (dfold ((nums P).take k) = (B, n, out)) ∧ Aside0 (Md5.Bytes out) ∧ Aside0 (RB wr w.heap.size (fun _ => True) v5 out) ∧ Aside0 (Below w.heap.size w wr))
  case atStart => exact ⟨0, 0, 0, [], by omega, by omega, rfl, rfl, rfl, by omega, by omega, by omega, ⟨by simp⟩, ⟨rfl⟩, ⟨fun _ h => absurd h List.not_mem_nil⟩, ⟨Kd.R_nil _ _ _ _ _⟩, ⟨Below.refl _ _⟩⟩
  case round =>
  obtain ⟨k, n, B, out, hk, hg, rfl, rfl, rfl, hB0, hB1, hn, HL, HF, HO, H1, H2⟩ := hrel
  obtain ⟨A5, c5, rfl, hc5, hr5⟩ := Kd.R_reads H1.out
  obtain ⟨wx, rfl⟩ : ∃ wz : World, wz = wr := ⟨_, rfl⟩
  by_cases hkl : k < P.length
  · have hkl' : (k : Int) < (P.length : Int) := by omega
    obtain ⟨c, hc⟩ : ∃ c, P[k]? = some c := ⟨_, List.getElem?_eq_getElem hkl⟩
    have hki : k < T.size := by omega
    have gT : T[k] = c := ba_at P T HT.out.symm k c hc hki
    obtain ⟨d, hd⟩ : ∃ d : Int, (c.toNat : Int) = d := ⟨_, rfl⟩
    have hix : ∀ w, (Instr.index 9 (.string T) (.int .i64 (k : Int))).run Tryd.prog w = .ok (.int .u8 d) w := by
      intro w
      rw [run_index_string w 9 T .i64 _ Tryd.underlying9, dif_pos (by omega), ← hd]
      simp only [Int.toNat_natCast]
      rw [gT]
    obtain ⟨v, hv⟩ : ∃ v, idx c = v := ⟨_, rfl⟩
    have HV := Aside0.mk hv
    have HD := Aside0.mk hd
    have HC := Aside0.mk hc
    have hany := idx_any c
    rw [hv] at hany
    clear gT hd hv hc hr5
    rcases hany with hneg | ⟨hv0, hv1⟩
    · have hbad := dec_bad S.data.toList k c (by rw [← HP.out]; exact HC.out) (by rw [HV.out]; exact hneg)
      have HBAD := Aside0.mk hbad
      clear hbad
      have hlt : v < 0 := by omega
      go_wp2_with (first | (go_at_call 21; refine (cidx_at _ rfl c d v HD.out HV.out _).mono ?_; rintro e w1 ⟨rfl, rfl⟩))
      refine bodyPost_ret (results_tmp2 rfl _ _ _) rfl ?_
      exact ⟨.inr ⟨rfl, HBAD.out⟩, H2.out⟩
    · have hnl : decide (v < 0) = false := by simp; omega
      have hor := or_six B v hB0 hB1 hv0 hv1
      obtain ⟨b2, hb2⟩ : ∃ b2, b2 = (B * 64 + v) % 65536 := ⟨_, rfl⟩
      have hand : bits .and .i64 (B * 64 + v) 65535 = b2 := by rw [hb2]; exact i64_and_low (B * 64 + v) 16 65535 (by omega) (by decide)
      have hb20 : 0 ≤ b2 := by omega
      have hb21 : b2 < 65536 := by omega
      have hvn : (nums P).getD k 0 = v.toNat := by
        unfold nums
        rw [List.getD_eq_getElem?_getD, List.getElem?_map, HC.out]
        simp [HV.out]
      have hnl2 : (nums P).length = P.length := by simp [nums]
      have hstep := dfold_take (nums P) k (by omega) v.toNat hvn
      rw [HF.out] at hstep
      have hvv : ((v.toNat : Nat) : Int) = v := by omega
      have HLn : Aside0 ((out.length + 1) * 1 ≤ 140737488355328) := ⟨by have := HL.out; omega⟩
      by_cases h8 : 2 ≤ n
      · have e8 : 8 ≤ n + 6 := by omega
        simp only [dstep, hvv] at hstep
        rw [if_pos e8, ← hb2] at hstep
        have HST := Aside0.mk hstep
        have hnn : (8 : Int) ≤ (n : Int) + 6 := by omega
        clear hstep hb2 hvn hnl2 hvv hnl e8
        go_wp2_with (first | (go_at_call 21; refine (cidx_at _ rfl c d v HD.out HV.out _).mono ?_; rintro e w1 ⟨rfl, rfl⟩) | ((with_reducible refine gate_builtin (b := .append) (xs := #[.tmp 34, .tmp 40]) rfl ?_); at_builtin; refine Kd.R_append (Kd.int .u8) (w0 := w) w.heap.size rfl (.tmp 34) (.tmp 40) 22 5 (.int .u8 0) 1 rfl Tryd.underlying22 infoU8 rfl (by decide) (by omega) (.slice A5 out.length c5) out (b2 / 2 ^ (n - 2) % 256) [.int .u8 (b2 / 2 ^ (n - 2) % 256)] (fun _ => True) (fun _ => False) rfl rfl rfl (fun _ h => h.elim) (fun _ _ => trivial) H1.out H2.out H2.out.size HLn.out ?_; intro v2 w2 h1 h2 h3 h4; clear H1 H2; have H1 := Aside0.mk h1; have H2 := Aside0.mk h2; clear h1 h2 h3 h4))
        go_roundg (gk - 1)
        case measure => omega
        case rel =>
          refine ⟨k + 1, n - 2, b2, out ++ [b2 / 2 ^ (n - 2) % 256], by omega, by omega, by go_num, rfl, ?_, hb20, hb21, by omega, ⟨by have := HL.out; simp; omega⟩, ⟨?_⟩, ⟨HO.out.append ?_⟩, H1, H2⟩
          · rw [show (n : Int) + 6 - 8 = ((n - 2 : Nat) : Int) by omega]
          · rw [HST.out, show n + 6 - 8 = n - 2 by omega]
          · intro x hx
            simp at hx
            omega
      · have e8 : ¬ 8 ≤ n + 6 := by omega
        simp only [dstep, hvv] at hstep
        rw [if_neg e8, ← hb2] at hstep
        have HST := Aside0.mk hstep
        have hnn : ¬ (8 : Int) ≤ (n : Int) + 6 := by omega
        clear hstep hb2 hvn hnl2 hvv hnl e8
        go_wp2_with (first | (go_at_call 21; refine (cidx_at _ rfl c d v HD.out HV.out _).mono ?_; rintro e w1 ⟨rfl, rfl⟩))
        go_roundg (gk - 1)
        case measure => omega
        case rel => exact ⟨k + 1, n + 6, b2, out, by omega, by omega, by go_num, rfl, by go_num, hb20, hb21, by omega, ⟨by have := HL.out; omega⟩, HST, HO, H1, H2⟩
  · obtain rfl : k = P.length := by omega
    have hn2 : (nums P).take P.length = nums P := by rw [List.take_of_length_le (by simp [nums])]
    rw [hn2] at HF
    obtain ⟨E, hE⟩ : ∃ E, encB out = E := ⟨_, rfl⟩
    have HE := Aside0.mk hE
    clear hn2 hE hr5
    have HL2 : Aside0 (out.length ≤ 2000) := ⟨by have := HL.out; omega⟩
    by_cases hES : E = S
    · have t1 : (E.toList == S.toList) = true := by rw [str_eq]; simp [hES]
      have HES := Aside0.mk hES
      clear hES
      go_wp2_with (first | (go_at_call 6; refine (cenc_at A5 c5 out.length out E wx rfl HE.out (Kd.R_reads' H1.out).2.2 HO.out (by have := HL2.out; omega) hc5).mono ?_; rintro e w1 ⟨rfl, h3⟩; have H3 := Aside0.mk h3; clear h3))
      refine bodyPost_ret (results_tmp2 rfl _ _ _) rfl ?_
      refine ⟨.inl ⟨_, out, rfl, Kd.R_below H1.out H3.out, HO.out, HL2.out, ?_⟩, H2.out.trans (H3.out.mono H2.out.size)⟩
      rw [← HES.out, ← HE.out]
      simp [encB]
    · have t1 : (E.toList == S.toList) = false := by rw [str_eq]; simp [hES]
      have hbad : ∀ l, Md5.Bytes l → enc l ≠ S.data.toList := by
        intro l hb h
        have h1 := dec_back _ l hb h
        rw [← HP.out, HF.out] at h1
        apply hES
        rw [← HE.out]
        have h2 : out = l := h1
        rw [h2]
        apply ba_eq
        rw [← h]
        simp [encB]
      have HBAD := Aside0.mk hbad
      clear hES hbad
      go_wp2_with (first | (go_at_call 6; refine (cenc_at A5 c5 out.length out E wx rfl HE.out (Kd.R_reads' H1.out).2.2 HO.out (by have := HL2.out; omega) hc5).mono ?_; rintro e w1 ⟨rfl, h3⟩; have H3 := Aside0.mk h3; clear h3))
      refine bodyPost_ret (results_tmp2 rfl _ _ _) rfl ?_
      exact ⟨.inr ⟨rfl, HBAD.out⟩, H2.out.trans (H3.out.mono H2.out.size)⟩
end Go.Proofs.YtalignlbbdeeiaaDoor
