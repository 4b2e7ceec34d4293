/- What Base64 is of: the reading of signs, in plain Lean. -/
import Derived.Test.YtalignlbbdeeiaaDoorEncInj
namespace Go.Proofs.YtalignlbbdeeiaaDoor
set_option linter.unusedVariables false
set_option linter.unusedSimpArgs false
/-- One sign more: the last bits, how many of them are not told yet, what is told. -/
def dstep (st : Int × Nat × List Int) (v : Nat) : Int × Nat × List Int :=
  let b := (st.1 * 64 + (v : Int)) % 65536
  let n := st.2.1 + 6
  if 8 ≤ n then (b, n - 8, st.2.2 ++ [b / 2 ^ (n - 8) % 256]) else (b, n, st.2.2)
def dfold (vs : List Nat) : Int × Nat × List Int := vs.foldl dstep (0, 0, [])
theorem dfold_take (vs : List Nat) (k : Nat) (hk : k < vs.length) (v : Nat) (hv : vs.getD k 0 = v) : dfold (vs.take (k + 1)) = dstep (dfold (vs.take k)) v := by
  have e1 : vs.take (k + 1) = vs.take k ++ [v] := by
    rw [List.take_succ_eq_append_getElem hk, ← hv]; simp [List.getD_eq_getElem?_getD, hk]
  rw [e1]
  unfold dfold
  rw [List.foldl_append]
  rfl
/-- The signs without those that fill. -/
def trim (s : List UInt8) : List UInt8 := (s.reverse.dropWhile (· == 61)).reverse
theorem trim_prefix (s : List UInt8) : trim s = s.take (trim s).length := by
  have h : trim s <+: s := by
    unfold trim
    have := List.dropWhile_suffix (l := s.reverse) (fun x => x == (61 : UInt8))
    have h2 := List.reverse_prefix.2 this
    simpa using h2
  exact (List.prefix_iff_eq_take.1 h)
theorem trim_fill (body : List UInt8) (k : Nat) (x : UInt8) (hx : x ≠ 61) : trim (body ++ [x] ++ List.replicate k 61) = body ++ [x] := by
  unfold trim
  have e : (body ++ [x] ++ List.replicate k (61 : UInt8)).reverse = List.replicate k 61 ++ (x :: body.reverse) := by simp
  rw [e]
  have h : ∀ k, List.dropWhile (fun y => y == (61 : UInt8)) (List.replicate k 61 ++ (x :: body.reverse)) = x :: body.reverse := by
    intro k
    induction k with
    | zero => simp [hx]
    | succ k ih => simpa [List.replicate_succ] using ih
  rw [h]
  simp
/-- The numbers of an answer's signs. -/
def digs : List Int → List Nat
  | [] => []
  | [a] => [(a / 4).toNat % 64, (a * 16).toNat % 64]
  | [a, b] => [(a / 4).toNat % 64, ((a * 256 + b) / 16).toNat % 64, (b * 4).toNat % 64]
  | a :: b :: c :: r => [(a / 4).toNat % 64, ((a * 256 + b) / 16).toNat % 64, ((b * 256 + c) / 64).toNat % 64, c.toNat % 64] ++ digs r
theorem digs_lt : ∀ (l : List Int), ∀ v ∈ digs l, v < 64
  | [], v, h => by simp [digs] at h
  | [a], v, h => by simp [digs] at h; omega
  | [a, b], v, h => by simp [digs] at h; omega
  | a :: b :: c :: r, v, h => by
    have := digs_lt r v
    simp [digs] at h
    rcases h with h | h | h | h | h
    · omega
    · omega
    · omega
    · omega
    · exact this h
theorem dfour (B a b c : Int) (out : List Int) (ha : 0 ≤ a ∧ a < 256) (hb : 0 ≤ b ∧ b < 256) (hc : 0 ≤ c ∧ c < 256) (hB : 0 ≤ B) :
    ∃ B2, 0 ≤ B2 ∧ [(a / 4).toNat % 64, ((a * 256 + b) / 16).toNat % 64, ((b * 256 + c) / 64).toNat % 64, c.toNat % 64].foldl dstep (B, 0, out) = (B2, 0, out ++ [a, b, c]) := by
  have e1 : (((a / 4).toNat % 64 : Nat) : Int) = a / 4 := by omega
  have e2 : ((((a * 256 + b) / 16).toNat % 64 : Nat) : Int) = a % 4 * 16 + b / 16 := by omega
  have e3 : ((((b * 256 + c) / 64).toNat % 64 : Nat) : Int) = b % 16 * 4 + c / 64 := by omega
  have e4 : ((c.toNat % 64 : Nat) : Int) = c % 64 := by omega
  simp only [List.foldl_cons, List.foldl_nil, dstep, e1, e2, e3, e4]
  refine ⟨((((B * 64 + a / 4) % 65536 * 64 + (a % 4 * 16 + b / 16)) % 65536 * 64 + (b % 16 * 4 + c / 64)) % 65536 * 64 + c % 64) % 65536, by omega, ?_⟩
  simp
  refine ⟨?_, ?_, ?_⟩ <;> omega
theorem dtwo (B a b : Int) (out : List Int) (ha : 0 ≤ a ∧ a < 256) (hb : 0 ≤ b ∧ b < 256) (hB : 0 ≤ B) :
    ([(a / 4).toNat % 64, ((a * 256 + b) / 16).toNat % 64, (b * 4).toNat % 64].foldl dstep (B, 0, out)).2.2 = out ++ [a, b] := by
  have e1 : (((a / 4).toNat % 64 : Nat) : Int) = a / 4 := by omega
  have e2 : ((((a * 256 + b) / 16).toNat % 64 : Nat) : Int) = a % 4 * 16 + b / 16 := by omega
  have e3 : (((b * 4).toNat % 64 : Nat) : Int) = b % 16 * 4 := by omega
  simp only [List.foldl_cons, List.foldl_nil, dstep, e1, e2, e3]
  simp
  refine ⟨?_, ?_⟩ <;> omega
theorem done (B a : Int) (out : List Int) (ha : 0 ≤ a ∧ a < 256) (hB : 0 ≤ B) :
    ([(a / 4).toNat % 64, (a * 16).toNat % 64].foldl dstep (B, 0, out)).2.2 = out ++ [a] := by
  have e1 : (((a / 4).toNat % 64 : Nat) : Int) = a / 4 := by omega
  have e2 : (((a * 16).toNat % 64 : Nat) : Int) = a % 4 * 16 := by omega
  simp only [List.foldl_cons, List.foldl_nil, dstep, e1, e2]
  simp
  omega
theorem digs_back : ∀ (l : List Int) (B : Int) (out : List Int), Md5.Bytes l → 0 ≤ B → ((digs l).foldl dstep (B, 0, out)).2.2 = out ++ l
  | [], B, out, _, _ => by simp [digs]
  | [a], B, out, hb, hB => done B a out (hb a (by simp)) hB
  | [a, b], B, out, hb, hB => dtwo B a b out (hb a (by simp)) (hb b (by simp)) hB
  | a :: b :: c :: r, B, out, hb, hB => by
    obtain ⟨B2, h2, h⟩ := dfour B a b c out (hb a (by simp)) (hb b (by simp)) (hb c (by simp)) hB
    have ih := digs_back r B2 (out ++ [a, b, c]) (fun x hx => hb x (by simp [hx])) h2
    simp only [digs, List.foldl_append]
    rw [h, ih]
    simp
/-- An answer is its numbers' signs, and fillers. -/
theorem enc_digs : ∀ l : List Int, Md5.Bytes l → enc l = (digs l).map sgn ++ List.replicate (if l.length % 3 = 0 then 0 else 3 - l.length % 3) 61
  | [], _ => rfl
  | [a], hb => by
    have ha := hb a (by simp)
    have e0 : (thr [a] 3 / 2 ^ (18 - 6 * 0) % 64).toNat = (a / 4).toNat % 64 := by simp [thr]; omega
    have e1 : (thr [a] 3 / 2 ^ (18 - 6 * 1) % 64).toNat = (a * 16).toNat % 64 := by simp [thr]; omega
    simp only [enc, digs, quad, sg, List.length_cons, List.length_nil, List.range_succ, List.range_zero, List.nil_append, List.map_append, List.map_cons, List.map_nil]
    rw [e0, e1]
    rfl
  | [a, b], hb => by
    have ha := hb a (by simp)
    have hb' := hb b (by simp)
    have e0 : (thr [a, b] 3 / 2 ^ (18 - 6 * 0) % 64).toNat = (a / 4).toNat % 64 := by simp [thr]; omega
    have e1 : (thr [a, b] 3 / 2 ^ (18 - 6 * 1) % 64).toNat = ((a * 256 + b) / 16).toNat % 64 := by simp [thr]; omega
    have e2 : (thr [a, b] 3 / 2 ^ (18 - 6 * 2) % 64).toNat = (b * 4).toNat % 64 := by simp [thr]; omega
    simp only [enc, digs, quad, sg, List.length_cons, List.length_nil, List.range_succ, List.range_zero, List.nil_append, List.map_append, List.map_cons, List.map_nil]
    rw [e0, e1, e2]
    rfl
  | a :: b :: c :: r, hb => by
    have ha := hb a (by simp)
    have hb' := hb b (by simp)
    have hc := hb c (by simp)
    have ih := enc_digs r (fun x hx => hb x (by simp [hx]))
    have e0 : (thr [a, b, c] 3 / 2 ^ (18 - 6 * 0) % 64).toNat = (a / 4).toNat % 64 := by simp [thr]; omega
    have e1 : (thr [a, b, c] 3 / 2 ^ (18 - 6 * 1) % 64).toNat = ((a * 256 + b) / 16).toNat % 64 := by simp [thr]; omega
    have e2 : (thr [a, b, c] 3 / 2 ^ (18 - 6 * 2) % 64).toNat = ((b * 256 + c) / 64).toNat % 64 := by simp [thr]; omega
    have e3 : (thr [a, b, c] 3 / 2 ^ (18 - 6 * 3) % 64).toNat = c.toNat % 64 := by simp [thr]; omega
    have el : (a :: b :: c :: r).length % 3 = r.length % 3 := by simp only [List.length_cons]; omega
    have eq : quad [a, b, c] = [(a / 4).toNat % 64, ((a * 256 + b) / 16).toNat % 64, ((b * 256 + c) / 64).toNat % 64, c.toNat % 64].map sgn := by
      simp only [quad, sg, List.length_cons, List.length_nil, List.range_succ, List.range_zero, List.nil_append, List.map_append, List.map_cons, List.map_nil]
      rw [e0, e1, e2, e3]
      rfl
    rw [el]
    simp only [enc, digs, List.map_append]
    rw [ih, eq, List.append_assoc]
theorem sgn_ne61 (n : Nat) (h : n < 64) : sgn n ≠ 61 := by
  revert n
  decide +kernel
theorem trim_enc (l : List Int) (hb : Md5.Bytes l) : trim (enc l) = (digs l).map sgn := by
  rw [enc_digs l hb]
  rcases List.eq_nil_or_concat (digs l) with h | ⟨L, x, h⟩
  · match l, h with
    | [], _ => rfl
    | [a], h => simp [digs] at h
    | [a, b], h => simp [digs] at h
    | a :: b :: c :: r, h => simp [digs] at h
  · have hx := digs_lt l x (by rw [h]; simp)
    rw [h]
    simp only [List.concat_eq_append, List.map_append, List.map_cons, List.map_nil]
    exact trim_fill _ _ _ (sgn_ne61 x hx)
end Go.Proofs.YtalignlbbdeeiaaDoor
