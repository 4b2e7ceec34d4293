/- Lines that are a word and a domain, in plain Lean. -/
import Derived.Test.YteiknmcmaemcoaaDoorVy
namespace Go.Proofs.YteiknmcmaemcoaaDoor
set_option linter.unusedVariables false
set_option linter.unusedSimpArgs false
theorem splitOn_all (p : UInt8 → Bool) (c : UInt8) (hc : p c = true) : ∀ l : V.Bs, (∀ x ∈ V.splitOn c l, x.all p = true) → l.all p = true
  | [], _ => rfl
  | x :: l, h => by
    unfold V.splitOn at h
    by_cases hx : x = c
    · rw [if_pos hx] at h
      rw [List.all_cons, hx, hc, splitOn_all p c hc l (fun y hy => h y (by simp [hy]))]
      rfl
    · rw [if_neg hx] at h
      have ih := splitOn_all p c hc l
      cases hs : V.splitOn c l with
      | nil => exact absurd hs (V.splitOn_ne c l)
      | cons a t =>
        rw [hs] at h ih
        have h1 := h (x :: a) (by simp)
        rw [List.all_cons, Bool.and_eq_true] at h1
        rw [List.all_cons, h1.1, ih (fun y hy => by
          rcases List.mem_cons.1 hy with rfl | hy
          · exact h1.2
          · exact h y (by simp [hy]))]
        rfl
theorem okL_okByte (c : UInt8) : (V.isPlain c || c == 45) = true → okByte c = true := by
  have h : ∀ n : Nat, n < 256 → (V.isPlain (UInt8.ofNat n) || UInt8.ofNat n == 45) = true → okByte (UInt8.ofNat n) = true := by decide +kernel
  have := h c.toNat c.toNat_lt
  simpa using this
theorem domain_ok (t : V.Bs) (h : V.domain t = true) : t.all okByte = true := by
  unfold V.domain V.parts at h
  rw [Bool.and_eq_true, List.all_eq_true] at h
  refine splitOn_all okByte 46 (by decide) t (fun x hx => ?_)
  have := h.2 x hx
  unfold V.label at this
  simp only [Bool.and_eq_true] at this
  rw [List.all_eq_true]
  intro y hy
  exact okL_okByte y (List.all_eq_true.1 this.1.1.1.1 y hy)
theorem told_read (l : V.Bs) : (V.told l).1 = V.read l := by
  unfold V.told
  cases V.read l <;> rfl
def ehloW : V.Bs := [69, 72, 76, 79, 32]
def etrnW : V.Bs := [69, 84, 82, 78, 32]
def atrnW : V.Bs := [65, 84, 82, 78, 32]
theorem ehlo_read (t : V.Bs) : V.read (ehloW ++ t) = V.namedO 1 t := by
  have e : ehloW ++ t = 69 :: 72 :: 76 :: 79 :: 32 :: t := rfl
  rw [e]
  have h1 : V.aloneB (69 :: 72 :: 76 :: 79 :: 32 :: t) = false := by simp [V.aloneB, aloneT, V.fold, V.low]
  have h2 : V.tryT (69 :: 72 :: 76 :: 79 :: 32 :: t) readT = some (V.namedO 1 t) := by simp [V.tryT, readT, V.after, V.fold, V.low]
  unfold V.read
  rw [h1, h2]
  rfl
theorem etrn_read (t : V.Bs) : V.read (etrnW ++ t) = V.namedO 9 t := by
  have e : etrnW ++ t = 69 :: 84 :: 82 :: 78 :: 32 :: t := rfl
  rw [e]
  have h1 : V.aloneB (69 :: 84 :: 82 :: 78 :: 32 :: t) = false := by simp [V.aloneB, aloneT, V.fold, V.low]
  have h2 : V.tryT (69 :: 84 :: 82 :: 78 :: 32 :: t) readT = some (V.namedO 9 t) := by simp [V.tryT, readT, V.after, V.fold, V.low]
  unfold V.read
  rw [h1, h2]
  rfl
theorem atrn_read (t : V.Bs) : V.read (atrnW ++ t) = V.namedO 11 t := by
  have e : atrnW ++ t = 65 :: 84 :: 82 :: 78 :: 32 :: t := rfl
  rw [e]
  have h1 : V.aloneB (65 :: 84 :: 82 :: 78 :: 32 :: t) = false := by simp [V.aloneB, aloneT, V.fold, V.low]
  have h2 : V.tryT (65 :: 84 :: 82 :: 78 :: 32 :: t) readT = some (V.namedO 11 t) := by simp [V.tryT, readT, V.after, V.fold, V.low]
  unfold V.read
  rw [h1, h2]
  rfl
theorem word_parse (W wd t : V.Bs) (k : Int) (hW : W.length = 5) (hok : W.all okByte = true) (hf : ∀ t, V.fold (V.first (W ++ t)) = wd) (hk : (wd.isEmpty || !decide (wd ∈ wordsL)) = false) (hr : V.read (W ++ t) = V.namedO k t) (hl : t.length ≤ 505) :
    (V.parse (W ++ t)).1 = V.namedO k t := by
  unfold V.parse
  rw [if_neg (by rw [List.length_append]; omega), List.all_append, hok, Bool.true_and]
  by_cases ha : t.all okByte = true
  · rw [if_pos ha, hf]
    unfold V.known
    rw [hk, if_neg (by decide), told_read, hr]
  · rw [if_neg ha]
    unfold V.namedO
    rw [if_neg (fun h => ha (domain_ok t h))]
theorem ehlo_parse (t : V.Bs) (hl : t.length ≤ 505) : (V.parse (ehloW ++ t)).1 = V.namedO 1 t :=
  word_parse ehloW [101, 104, 108, 111] t 1 rfl rfl (fun t => by simp [V.first, ehloW, V.cutAt, V.fold, V.low]) (by decide +kernel) (ehlo_read t) hl
theorem etrn_parse (t : V.Bs) (hl : t.length ≤ 505) : (V.parse (etrnW ++ t)).1 = V.namedO 9 t :=
  word_parse etrnW [101, 116, 114, 110] t 9 rfl rfl (fun t => by simp [V.first, etrnW, V.cutAt, V.fold, V.low]) (by decide +kernel) (etrn_read t) hl
theorem atrn_parse (t : V.Bs) (hl : t.length ≤ 505) : (V.parse (atrnW ++ t)).1 = V.namedO 11 t :=
  word_parse atrnW [97, 116, 114, 110] t 11 rfl rfl (fun t => by simp [V.first, atrnW, V.cutAt, V.fold, V.low]) (by decide +kernel) (atrn_read t) hl
/-- What Parse answers where the line's command is known. -/
theorem uni_named (W t : V.Bs) (k : Int) (h : (V.parse (W ++ t)).1 = V.namedO k t) :
    (V.domain t = true → V.cmd (W ++ t) = ⟨k, t, V.noPath, []⟩ ∧ V.code (W ++ t) = 0) ∧ (V.domain t = false → V.cmd (W ++ t) = V.noCmd ∧ V.code (W ++ t) ≠ 0) := by
  unfold V.namedO at h
  constructor
  · intro hd
    rw [if_pos hd] at h
    exact ⟨by unfold V.cmd; rw [h]; rfl, code_zero _ _ h⟩
  · intro hd
    rw [if_neg (by rw [hd]; decide)] at h
    refine ⟨by unfold V.cmd; rw [h]; rfl, ?_⟩
    have := code_pos _ h
    unfold V.code
    omega
end Go.Proofs.YteiknmcmaemcoaaDoor
