/- MD5 and its keyed form as plain functions on lists of bytes: no Go, no memory. Conditions: none. -/
import Derived.Laws.BitsAllLaws
namespace Go.Proofs.YtalignlbbdeeiaaDoor.Md5

def M : Nat := 4294967296
def kTab : List Nat := [3614090360, 3905402710, 606105819, 3250441966, 4118548399, 1200080426, 2821735955, 4249261313, 1770035416, 2336552879, 4294925233, 2304563134, 1804603682, 4254626195, 2792965006, 1236535329, 4129170786, 3225465664, 643717713, 3921069994, 3593408605, 38016083, 3634488961, 3889429448, 568446438, 3275163606, 4107603335, 1163531501, 2850285829, 4243563512, 1735328473, 2368359562, 4294588738, 2272392833, 1839030562, 4259657740, 2763975236, 1272893353, 4139469664, 3200236656, 681279174, 3936430074, 3572445317, 76029189, 3654602809, 3873151461, 530742520, 3299628645, 4096336452, 1126891415, 2878612391, 4237533241, 1700485571, 2399980690, 4293915773, 2240044497, 1873313359, 4264355552, 2734768916, 1309151649, 4149444226, 3174756917, 718787259, 3951481745]
def rTab : List Nat := [7, 12, 17, 22, 5, 9, 14, 20, 4, 11, 16, 23, 6, 10, 15, 21]
structure St where
  a : Nat
  b : Nat
  c : Nat
  d : Nat
def St.ok (s : St) : Prop := s.a < 4294967296 ∧ s.b < 4294967296 ∧ s.c < 4294967296 ∧ s.d < 4294967296

def F (i b c d : Nat) : Nat :=
  if i / 16 = 0 then (b &&& c) ||| ((4294967295 ^^^ b) &&& d)
  else if i / 16 = 1 then (d &&& b) ||| ((4294967295 ^^^ d) &&& c)
  else if i / 16 = 2 then b ^^^ c ^^^ d
  else c ^^^ (b ||| (4294967295 ^^^ d))
def G (i : Nat) : Nat :=
  if i / 16 = 0 then i
  else if i / 16 = 1 then (5 * i + 1) % 16
  else if i / 16 = 2 then (3 * i + 5) % 16
  else 7 * i % 16
def rot (x k : Nat) : Nat := (x * 2 ^ k % 4294967296) ||| (x / 2 ^ (32 - k))
def wrd (l : List Int) (i : Nat) : Nat := (l.getD i 0).toNat + 256 * (l.getD (i + 1) 0).toNat + 65536 * (l.getD (i + 2) 0).toNat + 16777216 * (l.getD (i + 3) 0).toNat
def stp (l : List Int) (i : Nat) (s : St) : St :=
  ⟨s.d, (s.b + rot ((F i s.b s.c s.d + s.a + kTab.getD i 0 + wrd l (4 * G i)) % 4294967296) (rTab.getD (i / 16 * 4 + i % 4) 0)) % 4294967296, s.b, s.c⟩
def rounds (l : List Int) (s : St) : Nat → St
  | 0 => s
  | n + 1 => stp l n (rounds l s n)
def blk (s : St) (l : List Int) : St :=
  ⟨(s.a + (rounds l s 64).a) % 4294967296, (s.b + (rounds l s 64).b) % 4294967296, (s.c + (rounds l s 64).c) % 4294967296, (s.d + (rounds l s 64).d) % 4294967296⟩
def blocks : Nat → St → List Int → St
  | 0, s, _ => s
  | n + 1, s, l => blocks n (blk s l) (l.drop 64)
def zeros (n : Nat) : List Int := List.replicate ((119 - n % 64) % 64) 0
def lenByte (n i : Nat) : Int := ((8 * n / 2 ^ (8 * i) % 256 : Nat) : Int)
def pad (l : List Int) : List Int := l ++ [128] ++ zeros l.length ++ (List.range 8).map (lenByte l.length)
def init : St := ⟨1732584193, 4023233417, 2562383102, 271733878⟩
def outByte (w k : Nat) : Int := ((w / 2 ^ (8 * k) % 256 : Nat) : Int)
def out (s : St) : List Int := (List.range 4).map (outByte s.a) ++ (List.range 4).map (outByte s.b) ++ (List.range 4).map (outByte s.c) ++ (List.range 4).map (outByte s.d)
def sum (l : List Int) : List Int := out (blocks ((pad l).length / 64) init (pad l))
def xb (m : Nat) (x : Int) : Int := ((x.toNat ^^^ m : Nat) : Int)
def fit (key : List Int) : List Int := if 64 < key.length then sum key else key
def block (key : List Int) : List Int := fit key ++ List.replicate (64 - (fit key).length) 0
def keyed (key text : List Int) : List Int := sum ((block key).map (xb 92) ++ sum ((block key).map (xb 54) ++ text))

theorem blocks_zero (s : St) (l : List Int) : blocks 0 s l = s := rfl
theorem blocks_succ (n : Nat) (s : St) (l : List Int) : blocks (n + 1) s l = blocks n (blk s l) (l.drop 64) := rfl
theorem sum_def (l : List Int) : sum l = out (blocks ((pad l).length / 64) init (pad l)) := rfl
theorem pad_def (l : List Int) : l ++ [128] ++ zeros l.length ++ (List.range 8).map (lenByte l.length) = pad l := rfl
theorem rot_lt (x k : Nat) (hx : x < 4294967296) : rot x k < 4294967296 := by
  unfold rot
  exact Nat.or_lt_two_pow (n := 32) (by omega) (Nat.lt_of_le_of_lt (Nat.div_le_self _ _) (by omega))
theorem F_lt (i b c d : Nat) (hb : b < 4294967296) (hc : c < 4294967296) (hd : d < 4294967296) : F i b c d < 4294967296 := by
  have x (n : Nat) (hn : n < 4294967296) : 4294967295 ^^^ n < 4294967296 := Nat.xor_lt_two_pow (n := 32) (by omega) (by omega)
  unfold F
  split
  · exact Nat.or_lt_two_pow (n := 32) (Nat.lt_of_le_of_lt Nat.and_le_left (by omega)) (Nat.lt_of_le_of_lt Nat.and_le_right (by omega))
  split
  · exact Nat.or_lt_two_pow (n := 32) (Nat.lt_of_le_of_lt Nat.and_le_left (by omega)) (Nat.lt_of_le_of_lt Nat.and_le_right (by omega))
  split
  · exact Nat.xor_lt_two_pow (n := 32) (Nat.xor_lt_two_pow (n := 32) (by omega) (by omega)) (by omega)
  · exact Nat.xor_lt_two_pow (n := 32) (by omega) (Nat.or_lt_two_pow (n := 32) (by omega) (by have := x d hd; omega))
theorem stp_ok (l : List Int) (i : Nat) (s : St) (h : s.ok) : (stp l i s).ok := by
  obtain ⟨h1, h2, h3, h4⟩ := h
  exact ⟨h4, Nat.mod_lt _ (by omega), h2, h3⟩
theorem rounds_ok (l : List Int) (s : St) (h : s.ok) : ∀ n, (rounds l s n).ok
  | 0 => h
  | n + 1 => stp_ok l n _ (rounds_ok l s h n)
theorem blk_ok (s : St) (l : List Int) : (blk s l).ok := ⟨Nat.mod_lt _ (by omega), Nat.mod_lt _ (by omega), Nat.mod_lt _ (by omega), Nat.mod_lt _ (by omega)⟩
theorem init_ok : init.ok := ⟨by decide, by decide, by decide, by decide⟩
theorem G_lt (i : Nat) (h : i < 64) : G i < 16 := by
  unfold G
  split <;> (try split) <;> (try split) <;> omega
theorem out_length (s : St) : (out s).length = 16 := rfl
theorem sum_length (l : List Int) : (sum l).length = 16 := rfl
theorem pad_length (l : List Int) : (pad l).length = l.length + 1 + (119 - l.length % 64) % 64 + 8 := by simp [pad, zeros]; omega
theorem pad_mod (l : List Int) : (pad l).length % 64 = 0 := by rw [pad_length]; omega
theorem fit_length (key : List Int) : (fit key).length ≤ 64 := by
  unfold fit; split
  · rw [sum_length]; omega
  · omega
theorem block_length (key : List Int) : (block key).length = 64 := by have := fit_length key; simp [block]; omega
theorem xor_not (d : Nat) (hd : d < 4294967296) : 4294967295 ^^^ d = 4294967295 - d := by
  have h := BitVec.toNat_not (x := BitVec.ofNat 32 d)
  have e : (BitVec.ofNat 32 d).toNat = d := by simp; omega
  rw [e] at h
  have h2 : (~~~ BitVec.ofNat 32 d) = BitVec.allOnes 32 ^^^ BitVec.ofNat 32 d := by ext i; simp only [BitVec.getElem_not, BitVec.getElem_xor, BitVec.getElem_allOnes, Bool.true_xor]
  rw [h2, BitVec.toNat_xor, e, BitVec.toNat_allOnes] at h
  simpa using h
theorem F_one (i b c d : Nat) (hi : i / 16 = 1) (hd : d < 4294967296) : F i b c d = (b &&& d) ||| (c &&& (4294967295 - d)) := by
  unfold F
  rw [if_neg (by omega), if_pos hi, xor_not d hd, Nat.and_comm d b, Nat.and_comm _ c]

/-- Bytes of a list. -/
def Bytes (l : List Int) : Prop := ∀ x ∈ l, 0 ≤ x ∧ x < 256
theorem Bytes.getD {l : List Int} (h : Bytes l) (i : Nat) : 0 ≤ l.getD i 0 ∧ l.getD i 0 < 256 := by
  rw [List.getD_eq_getElem?_getD]
  by_cases hi : i < l.length
  · rw [List.getElem?_eq_getElem hi]; exact h _ (List.getElem_mem hi)
  · rw [List.getElem?_eq_none (by omega)]; simp
theorem Bytes.append {l k : List Int} (h : Bytes l) (h' : Bytes k) : Bytes (l ++ k) := fun x hx => (List.mem_append.1 hx).elim (h x) (h' x)
theorem Bytes.drop {l : List Int} (h : Bytes l) (n : Nat) : Bytes (l.drop n) := fun x hx => h x (List.mem_of_mem_drop hx)
theorem Bytes.replicate (n : Nat) : Bytes (List.replicate n 0) := fun x hx => by obtain ⟨_, rfl⟩ := List.mem_replicate.1 hx; omega
theorem lenByte_ok (n i : Nat) : 0 ≤ lenByte n i ∧ lenByte n i < 256 := by unfold lenByte; omega
theorem outByte_ok (n i : Nat) : 0 ≤ outByte n i ∧ outByte n i < 256 := by unfold outByte; omega
theorem out_bytes (s : St) : Bytes (out s) := by
  intro x hx
  unfold out at hx
  simp only [List.mem_append, List.mem_map] at hx
  rcases hx with ((⟨k, _, rfl⟩ | ⟨k, _, rfl⟩) | ⟨k, _, rfl⟩) | ⟨k, _, rfl⟩ <;> exact outByte_ok _ _
theorem sum_bytes (l : List Int) : Bytes (sum l) := out_bytes _
theorem pad_bytes {l : List Int} (h : Bytes l) : Bytes (pad l) := by
  unfold pad
  refine ((h.append ?_).append (Bytes.replicate _)).append ?_
  · intro x hx; obtain rfl := List.mem_singleton.1 hx; omega
  · intro x hx; obtain ⟨k, _, rfl⟩ := List.mem_map.1 hx; exact lenByte_ok _ _
theorem xb_ok (m : Nat) (x : Int) (hm : m < 256) (hx : 0 ≤ x ∧ x < 256) : 0 ≤ xb m x ∧ xb m x < 256 := by
  unfold xb
  have := Nat.xor_lt_two_pow (n := 8) (x := x.toNat) (y := m) (by omega) (by omega)
  omega
theorem map_xb_bytes {l : List Int} (m : Nat) (hm : m < 256) (h : Bytes l) : Bytes (l.map (xb m)) := by
  intro x hx; obtain ⟨y, hy, rfl⟩ := List.mem_map.1 hx; exact xb_ok m y hm (h y hy)
theorem fit_bytes {key : List Int} (h : Bytes key) : Bytes (fit key) := by unfold fit; split; exact sum_bytes _; exact h
theorem block_bytes {key : List Int} (h : Bytes key) : Bytes (block key) := (fit_bytes h).append (Bytes.replicate _)
theorem wrd_lt {l : List Int} (h : Bytes l) (i : Nat) : wrd l i < 4294967296 := by
  have h0 := h.getD i; have h1 := h.getD (i + 1); have h2 := h.getD (i + 2); have h3 := h.getD (i + 3)
  unfold wrd; omega
theorem wrd_drop (l : List Int) (n i : Nat) : wrd (l.drop n) i = wrd l (n + i) := by
  have e : ∀ j, (l.drop n).getD j 0 = l.getD (n + j) 0 := fun j => by simp [List.getD_eq_getElem?_getD]
  unfold wrd; simp only [e]; rfl
/-- The laws of the keyed sum. -/
theorem keyed_sum (key text : List Int) (h : 64 < key.length) : keyed (sum key) text = keyed key text := by
  have e : fit (sum key) = fit key := by
    have : fit key = sum key := if_pos h
    rw [this]; unfold fit; rw [if_neg (by rw [sum_length]; omega)]
  unfold keyed block; rw [e]
theorem keyed_zeros (key text : List Int) (n : Nat) (h : key.length + n ≤ 64) : keyed (key ++ List.replicate n 0) text = keyed key text := by
  have e : block (key ++ List.replicate n 0) = block key := by
    have e1 : fit (key ++ List.replicate n 0) = key ++ List.replicate n 0 := if_neg (by simp; omega)
    have e2 : fit key = key := if_neg (by omega)
    unfold block
    rw [e1, e2, List.append_assoc, List.replicate_append_replicate]
    congr 2
    simp; omega
  unfold keyed; rw [e]
theorem known_abc : (sum [97, 98, 99]).getD 0 0 = 144 ∧ (sum [97, 98, 99]).getD 1 0 = 1 ∧ (sum [97, 98, 99]).getD 14 0 = 127 ∧ (sum [97, 98, 99]).getD 15 0 = 114 := by decide +kernel
end Go.Proofs.YtalignlbbdeeiaaDoor.Md5
