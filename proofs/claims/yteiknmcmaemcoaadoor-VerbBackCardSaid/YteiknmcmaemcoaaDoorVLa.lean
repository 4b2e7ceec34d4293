/- VRFY's line read, in plain Lean. No Go. -/
import Derived.Test.YteiknmcmaemcoaaDoorVy
namespace Go.Proofs.YteiknmcmaemcoaaDoor
set_option linter.unusedVariables false
set_option linter.unusedSimpArgs false
theorem vrfy_read (t : V.Bs) (ht : t ≠ []) : V.read (lVRFY ++ t) = some ⟨6, t, V.noPath, []⟩ := by
  have e : lVRFY ++ t = 86 :: 82 :: 70 :: 89 :: 32 :: t := rfl
  rw [e]
  have h1 : V.aloneB (86 :: 82 :: 70 :: 89 :: 32 :: t) = false := by
    simp [V.aloneB, aloneT, V.fold, V.low]
  have h2 : V.tryT (86 :: 82 :: 70 :: 89 :: 32 :: t) readT = none := by
    simp [V.tryT, readT, V.after, V.fold, V.low]
  have h3 : V.after (86 :: 82 :: 70 :: 89 :: 32 :: t) noopB = none := by
    simp [V.after, noopB, V.fold, V.low]
  have h4 : V.after (86 :: 82 :: 70 :: 89 :: 32 :: t) vrfyB = some t := by
    simp [V.after, vrfyB, V.fold, V.low]
  unfold V.read
  rw [h1, h2]
  unfold V.tail
  rw [h3, h4]
  cases t with
  | nil => exact absurd rfl ht
  | cons a b => rfl
theorem vrfy_parse (t : V.Bs) (ht : t ≠ []) (hl : t.length ≤ 505) (ha : t.all okByte = true) : V.parse (lVRFY ++ t) = (some ⟨6, t, V.noPath, []⟩, 0) := by
  unfold V.parse
  rw [if_neg (by simp [lVRFY]; omega), if_pos (by rw [List.all_append, ha]; rfl)]
  have hf : V.fold (V.first (lVRFY ++ t)) = [118, 114, 102, 121] := by
    simp [V.first, lVRFY, V.cutAt, V.fold, V.low]
  rw [hf]
  unfold V.known
  rw [if_neg (by decide +kernel)]
  unfold V.told
  rw [vrfy_read t ht]
def longL (x : UInt8) (n : Nat) : V.Bs := lVRFY ++ List.replicate n x
theorem long_all (x : UInt8) (n : Nat) (h1 : 33 ≤ x.toNat) (h2 : x.toNat ≤ 126) : (List.replicate n x).all okByte = true := by
  rw [List.all_eq_true]
  intro y hy
  obtain rfl := List.eq_of_mem_replicate hy
  simp [okByte, UInt8.le_iff_toNat_le]
  omega
theorem long_code1 (x : UInt8) (n : Nat) (h : 505 < n) : V.code (longL x n) = 500 := by
  unfold V.code V.parse
  rw [if_pos (by simp [longL, lVRFY]; omega)]
theorem long_cmd1 (x : UInt8) (n : Nat) (h : 505 < n) : V.cmd (longL x n) = V.noCmd := by
  unfold V.cmd V.parse
  rw [if_pos (by simp [longL, lVRFY]; omega)]
  rfl
theorem long_parse (x : UInt8) (n : Nat) (hn : n ≠ 0) (h : n ≤ 505) (h1 : 33 ≤ x.toNat) (h2 : x.toNat ≤ 126) : V.parse (longL x n) = (some ⟨6, List.replicate n x, V.noPath, []⟩, 0) :=
  vrfy_parse _ (by intro e; have := congrArg List.length e; rw [List.length_replicate] at this; exact hn this) (by rw [List.length_replicate]; exact h) (long_all x n h1 h2)
theorem long_line (x : UInt8) (n : Nat) : V.line ⟨6, List.replicate n x, V.noPath, []⟩ = longL x n := by
  unfold V.line V.lineB
  rw [show V.lookT (⟨6, List.replicate n x, V.noPath, []⟩ : V.Cmd).kind (lineT (⟨6, List.replicate n x, V.noPath, []⟩ : V.Cmd).text ((V.ptext V.noPath).getD [])) = longL x n from rfl]
  simp
theorem long_text (x : UInt8) (n : Nat) (hn : n ≠ 0) (h : n ≤ 505) (h1 : 33 ≤ x.toNat) (h2 : x.toNat ≤ 126) : V.text ⟨6, List.replicate n x, V.noPath, []⟩ = some (longL x n) := by
  unfold V.text
  rw [long_line, long_parse x n hn h h1 h2, if_pos rfl]
end Go.Proofs.YteiknmcmaemcoaaDoor
