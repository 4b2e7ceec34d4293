/- Base64 in plain Lean. -/
import Derived.Test.YtalignlbbdeeiaaDoorCHex
namespace Go.Proofs.YtalignlbbdeeiaaDoor
def sgn (x : Nat) : UInt8 := if x < 26 then UInt8.ofNat (65 + x) else if x < 52 then UInt8.ofNat (71 + x) else if x < 62 then UInt8.ofNat (x - 4) else if x < 63 then 43 else 47
def signs : ByteArray := { data := #[65, 66, 67, 68, 69, 70, 71, 72, 73, 74, 75, 76, 77, 78, 79, 80, 81, 82, 83, 84, 85, 86, 87, 88, 89, 90, 97, 98, 99, 100, 101, 102, 103, 104, 105, 106, 107, 108, 109, 110, 111, 112, 113, 114, 115, 116, 117, 118, 119, 120, 121, 122, 48, 49, 50, 51, 52, 53, 54, 55, 56, 57, 43, 47] }
theorem sgn_of (q : Int) (h0 : 0 ≤ q) (h1 : q < 64) (D : ByteArray) (hD : D = signs) (hi : q.toNat < D.size) : D[q.toNat] = sgn q.toNat := by
  subst hD
  obtain ⟨n, rfl⟩ : ∃ n : Nat, q = n := ⟨q.toNat, by omega⟩
  have hn : n < 64 := by omega
  simp only [Int.toNat_natCast] at hi ⊢
  clear h0 h1
  revert n
  decide +kernel
/-- The first k bytes, those that are not there as noughts, as one number. -/
def thr (l : List Int) : Nat → Int
  | 0 => 0
  | k + 1 => thr l k * 256 + l.getD k 0
def sg (l : List Int) (i : Nat) : UInt8 := if l.length < i then 61 else sgn (thr l 3 / 2 ^ (18 - 6 * i) % 64).toNat
def quad (l : List Int) : List UInt8 := (List.range 4).map (sg l)
def enc : List Int → List UInt8
  | [] => []
  | [a] => quad [a]
  | [a, b] => quad [a, b]
  | a :: b :: c :: r => quad [a, b, c] ++ enc r
theorem quad_three (a b c : Int) (r : List Int) : quad (a :: b :: c :: r) = quad [a, b, c] := by
  have e : ∀ i, i < 4 → sg (a :: b :: c :: r) i = sg [a, b, c] i := by
    intro i hi
    unfold sg
    have h1 : ¬ (a :: b :: c :: r).length < i := by simp; omega
    have h2 : ¬ [a, b, c].length < i := by simp; omega
    rw [if_neg h1, if_neg h2]
    rfl
  unfold quad
  exact List.map_congr_left fun i hi => e i (by simpa using hi)
theorem enc_step (l : List Int) (h : 0 < l.length) : enc l = quad l ++ enc (l.drop 3) := by
  match l, h with
  | [a], _ => simp [enc]
  | [a, b], _ => simp [enc]
  | a :: b :: c :: r, _ => rw [quad_three]; rfl
theorem quad_length (l : List Int) : (quad l).length = 4 := by simp [quad]
theorem enc_length : ∀ l : List Int, (enc l).length = (l.length + 2) / 3 * 4
  | [] => rfl
  | [a] => by simp [enc, quad_length]
  | [a, b] => by simp [enc, quad_length]
  | a :: b :: c :: r => by
    have := enc_length r
    simp only [enc, List.length_append, quad_length, List.length_cons, this]
    omega
theorem thr_le (l : List Int) (hb : Md5.Bytes l) : ∀ k, 0 ≤ thr l k ∧ thr l k < 256 ^ k
  | 0 => by simp [thr]
  | k + 1 => by
    have h := thr_le l hb k
    have g := hb.getD k
    simp only [thr, Int.pow_succ]
    omega
theorem getD_ge (l : List Int) (k : Nat) (h : l.length ≤ k) : l.getD k 0 = 0 := by simp [List.getD_eq_getElem?_getD, h]
end Go.Proofs.YtalignlbbdeeiaaDoor
