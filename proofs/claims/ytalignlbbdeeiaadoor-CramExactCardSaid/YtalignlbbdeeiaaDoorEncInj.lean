/- Base64 and Hex tell bytes apart. -/
import Derived.Test.YtalignlbbdeeiaaDoorAns
namespace Go.Proofs.YtalignlbbdeeiaaDoor
def val (c : UInt8) : Nat := signs.data.toList.idxOf c
theorem val_sgn (n : Nat) (h : n < 64) : val (sgn n) = n := by
  revert n
  decide +kernel
theorem sgn_inj (x y : Int) (h : sgn (x % 64).toNat = sgn (y % 64).toNat) : x % 64 = y % 64 := by
  have h1 := congrArg val h
  rw [val_sgn _ (by omega), val_sgn _ (by omega)] at h1
  omega
theorem sgn_no (x : Int) : sgn (x % 64).toNat ≠ 61 := by
  obtain ⟨n, hn⟩ : ∃ n : Nat, (x % 64).toNat = n := ⟨_, rfl⟩
  have h : n < 64 := by omega
  rw [hn]
  clear hn x
  revert n
  decide +kernel
theorem quad_at (l l' : List Int) (h : quad l = quad l') (i : Nat) (hi : i < 4) : sg l i = sg l' i := by
  unfold quad at h
  exact List.map_inj_left.1 h i (by simpa using hi)
theorem quad_lt (l l' : List Int) (h : quad l = quad l') (i : Nat) (hi : i < 4) (h1 : l.length < i) : l'.length < i := by
  have e := quad_at l l' h i hi
  unfold sg at e
  rw [if_pos h1] at e
  by_cases h2 : l'.length < i
  · exact h2
  · rw [if_neg h2] at e
    exact absurd e.symm (sgn_no _)
theorem quad_digit (l l' : List Int) (h : quad l = quad l') (i : Nat) (hi : i < 4) (h1 : i ≤ l.length) (h2 : i ≤ l'.length) : thr l 3 / 2 ^ (18 - 6 * i) % 64 = thr l' 3 / 2 ^ (18 - 6 * i) % 64 := by
  have e := quad_at l l' h i hi
  unfold sg at e
  rw [if_neg (by omega), if_neg (by omega)] at e
  exact sgn_inj _ _ e
theorem quad_take (l l' : List Int) (hl : 0 < l.length) (hl' : 0 < l'.length) (hb : Md5.Bytes l) (hb' : Md5.Bytes l') (h : quad l = quad l') : l.take 3 = l'.take 3 := by
  have a0 := hb.getD 0
  have a1 := hb.getD 1
  have a2 := hb.getD 2
  have b0 := hb'.getD 0
  have b1 := hb'.getD 1
  have b2 := hb'.getD 2
  have d0 := quad_digit l l' h 0 (by omega) (by omega) (by omega)
  have d1 := quad_digit l l' h 1 (by omega) (by omega) (by omega)
  have p := quad_lt l l' h
  have q := quad_lt l' l h.symm
  have p2 := p 2 (by omega)
  have p3 := p 3 (by omega)
  have q2 := q 2 (by omega)
  have q3 := q 3 (by omega)
  have e : ∀ l : List Int, thr l 3 = (l.getD 0 0 * 256 + l.getD 1 0) * 256 + l.getD 2 0 := fun l => by simp [thr]
  match l, l', hl, hl' with
  | [a], [b], _, _ =>
    simp [e] at d0 d1 a0 b0
    simp
    omega
  | [a], b :: c :: r, _, _ => exact absurd (p2 (by simp)) (by simp)
  | a :: c :: r, [b], _, _ => exact absurd (q2 (by simp)) (by simp)
  | [a, a'], [b, b'], _, _ =>
    have d2 := quad_digit _ _ h 2 (by omega) (by simp) (by simp)
    simp [e] at d0 d1 d2 a0 b0 a1 b1
    simp
    omega
  | [a, a'], b :: b' :: c :: r, _, _ => exact absurd (p3 (by simp)) (by simp)
  | a :: a' :: c :: r, [b, b'], _, _ => exact absurd (q3 (by simp)) (by simp)
  | a :: a' :: a'' :: r, b :: b' :: b'' :: r', _, _ =>
    have d2 := quad_digit _ _ h 2 (by omega) (by simp) (by simp)
    have d3 := quad_digit _ _ h 3 (by omega) (by simp) (by simp)
    simp [e] at d0 d1 d2 d3 a0 b0 a1 b1 a2 b2
    simp
    omega
theorem enc_inj : ∀ (n : Nat) (l l' : List Int), l.length ≤ n → Md5.Bytes l → Md5.Bytes l' → enc l = enc l' → l = l'
  | n, [], [], _, _, _, _ => rfl
  | n, [], b :: r, _, _, _, h => by
    have := congrArg List.length h
    rw [enc_length, enc_length] at this
    simp at this
    omega
  | n, a :: r, [], _, _, _, h => by
    have := congrArg List.length h
    rw [enc_length, enc_length] at this
    simp at this
    omega
  | 0, a :: r, _, hn, _, _, _ => by simp at hn
  | n + 1, a :: r, b :: r', hn, hb, hb', h => by
    rw [enc_step (a :: r) (by simp), enc_step (b :: r') (by simp)] at h
    obtain ⟨h1, h2⟩ := List.append_inj h (by rw [quad_length, quad_length])
    have h3 := quad_take _ _ (by simp) (by simp) hb hb' h1
    have h4 := enc_inj n ((a :: r).drop 3) ((b :: r').drop 3) (by simp at hn ⊢; omega) (hb.drop 3) (hb'.drop 3) h2
    rw [← List.take_append_drop 3 (a :: r), ← List.take_append_drop 3 (b :: r'), h3, h4]
theorem dig_inj (x y : Nat) (hx : x < 16) (hy : y < 16) (h : dig x = dig y) : x = y := by
  have : ∀ x, x < 16 → ∀ y, y < 16 → dig x = dig y → x = y := by decide +kernel
  exact this x hx y hy h
theorem hexs_inj : ∀ (l l' : List Int), Md5.Bytes l → Md5.Bytes l' → hexs l = hexs l' → l = l'
  | [], [], _, _, _ => rfl
  | [], b :: r, _, _, h => by
    have := congrArg List.length h
    rw [hexs_length, hexs_length] at this
    simp at this
  | a :: r, [], _, _, h => by
    have := congrArg List.length h
    rw [hexs_length, hexs_length] at this
    simp at this
  | a :: r, b :: r', hb, hb', h => by
    have e : ∀ (x : Int) (l : List Int), hexs (x :: l) = dig (x.toNat / 16) :: dig (x.toNat % 16) :: hexs l := fun x l => by simp [hexs]
    rw [e, e] at h
    simp only [List.cons.injEq] at h
    have h1 := hb a (by simp)
    have h2 := hb' b (by simp)
    have h3 := dig_inj _ _ (by omega) (by omega) h.1
    have h4 := dig_inj _ _ (by omega) (by omega) h.2.1
    have h5 := hexs_inj r r' (fun x hx => hb x (List.mem_cons_of_mem _ hx)) (fun x hx => hb' x (List.mem_cons_of_mem _ hx)) h.2.2
    rw [h5, show a = b by omega]
theorem byt_append (a b : ByteArray) : byt (a ++ b) = byt a ++ byt b := by simp [byt, ByteArray.data_append]
theorem byt_inj {a b : ByteArray} (h : byt a = byt b) : a = b := by
  apply ByteArray.ext
  apply Array.toList_inj.1
  unfold byt at h
  exact (List.map_inj_right (fun x y hxy => UInt8.toNat_inj.1 (by omega))).1 h
theorem encB_inj {l l' : List Int} (hb : Md5.Bytes l) (hb' : Md5.Bytes l') (h : encB l = encB l') : l = l' := by
  have h1 := congrArg (fun x => x.data.toList) h
  simp only [encB] at h1
  exact enc_inj _ l l' (Nat.le_refl _) hb hb' (by simpa using h1)
theorem hexB_inj {l l' : List Int} (hb : Md5.Bytes l) (hb' : Md5.Bytes l') (h : hexB l = hexB l') : l = l' := by
  have h1 := congrArg (fun x => x.data.toList) h
  simp only [hexB] at h1
  exact hexs_inj l l' hb hb' (by simpa using h1)
theorem ba_append_inj {a b c d : ByteArray} (h : a ++ b = c ++ d) (hs : b.size = d.size) : a = c ∧ b = d := by
  have h1 := congrArg (fun x => x.data.toList) h
  simp only [ByteArray.data_append, Array.toList_append] at h1
  obtain ⟨h2, h3⟩ := List.append_inj' h1 (by rw [Array.length_toList, Array.length_toList]; exact hs)
  exact ⟨ByteArray.ext (Array.toList_inj.1 h2), ByteArray.ext (Array.toList_inj.1 h3)⟩
/-- An answer tells its user and its keyed sum. -/
theorem ans_inj (U U' S C S' C' : ByteArray) (h : ans U S C = ans U' S' C') : U = U' ∧ Md5.keyed (byt S) (byt C) = Md5.keyed (byt S') (byt C') := by
  have h1 := byt_inj (encB_inj (byt_bytes _) (byt_bytes _) h)
  obtain ⟨h2, h3⟩ := ba_append_inj h1 (by rw [hexB_size, hexB_size, keyed_length, keyed_length])
  exact ⟨(ba_append_inj h2 rfl).1, hexB_inj (keyed_bytes _ _) (keyed_bytes _ _) h3⟩
theorem ans_pos (U S C : ByteArray) : 0 < (ans U S C).size := by
  show 0 < (enc _).toArray.size
  simp only [List.size_toArray, enc_length, byt_length, ByteArray.size_append, hexB_size, keyed_length]
  omega
theorem ans_size (U S C : ByteArray) (h : U.size ≤ 10000) : (ans U S C).size ≤ 20000 := by
  show (enc _).toArray.size ≤ _
  have : (⟨#[32]⟩ : ByteArray).size = 1 := rfl
  simp only [List.size_toArray, enc_length, byt_length, ByteArray.size_append, hexB_size, keyed_length, this]
  omega
end Go.Proofs.YtalignlbbdeeiaaDoor
