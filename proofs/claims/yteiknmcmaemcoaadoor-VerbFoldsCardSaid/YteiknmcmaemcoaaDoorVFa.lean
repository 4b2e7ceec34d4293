/- A line whose first four letters are turned is read alike, in plain Lean. -/
import Derived.Test.YteiknmcmaemcoaaDoorVy
namespace Go.Proofs.YteiknmcmaemcoaaDoor
set_option linter.unusedVariables false
set_option linter.unusedSimpArgs false
theorem low_flip (c : UInt8) (h : (decide (97 ≤ c ∧ c ≤ 122) || decide (65 ≤ c ∧ c ≤ 90)) = true) : V.low (c ^^^ 32) = V.low c := by
  have h' : ∀ n : Nat, n < 256 → (decide (97 ≤ UInt8.ofNat n ∧ UInt8.ofNat n ≤ 122) || decide (65 ≤ UInt8.ofNat n ∧ UInt8.ofNat n ≤ 90)) = true → V.low (UInt8.ofNat n ^^^ 32) = V.low (UInt8.ofNat n) := by decide +kernel
  have e := h' c.toNat c.toNat_lt
  rw [UInt8.ofNat_toNat] at e
  exact e h
theorem low_ok (c : UInt8) : okByte (V.low c) = okByte c := by
  have h' : ∀ n : Nat, n < 256 → okByte (V.low (UInt8.ofNat n)) = okByte (UInt8.ofNat n) := by decide +kernel
  have e := h' c.toNat c.toNat_lt
  rw [UInt8.ofNat_toNat] at e
  exact e
theorem low_32 (c : UInt8) : V.low c = 32 ↔ c = 32 := by
  have h' : ∀ n : Nat, n < 256 → (V.low (UInt8.ofNat n) = 32 ↔ UInt8.ofNat n = 32) := by decide +kernel
  have e := h' c.toNat c.toNat_lt
  rw [UInt8.ofNat_toNat] at e
  exact e
theorem fold_all (l : V.Bs) : (V.fold l).all okByte = l.all okByte := by
  unfold V.fold
  rw [List.all_map]
  congr 1
  funext c
  exact low_ok c
theorem fold_len (l : V.Bs) : (V.fold l).length = l.length := by unfold V.fold; rw [List.length_map]
theorem cut_fold : ∀ l : V.Bs, V.cutAt 32 (V.fold l) = (V.cutAt 32 l).map fun p => (V.fold p.1, V.fold p.2)
  | [] => rfl
  | x :: l => by
    show V.cutAt 32 (V.low x :: V.fold l) = _
    unfold V.cutAt
    by_cases hx : x = 32
    · rw [if_pos hx, if_pos ((low_32 x).2 hx)]; rfl
    · rw [if_neg hx, if_neg (fun h => hx ((low_32 x).1 h)), cut_fold l]
      cases V.cutAt 32 l with
      | none => rfl
      | some p => rfl
theorem first_fold (l : V.Bs) : V.fold (V.first l) = V.first (V.fold l) := by
  unfold V.first
  rw [cut_fold]
  cases V.cutAt 32 l with
  | none => rfl
  | some p => rfl
theorem after_same {l m : V.Bs} (hF : V.fold l = V.fold m) (hD : l.drop 4 = m.drop 4) (b : V.Bs) (hb : 4 ≤ b.length) : V.after l b = V.after m b := by
  have hl : l.length = m.length := by rw [← fold_len l, hF, fold_len]
  have ht : V.fold (l.take b.length) = V.fold (m.take b.length) := by
    unfold V.fold at hF ⊢
    rw [List.map_take, List.map_take, hF]
  have hd : l.drop b.length = m.drop b.length := by
    have e : ∀ x : V.Bs, x.drop b.length = (x.drop 4).drop (b.length - 4) := fun x => by rw [List.drop_drop]; congr 1; omega
    rw [e l, e m, hD]
  unfold V.after
  rw [hl, ht, hd]
theorem try_same {l m : V.Bs} (hF : V.fold l = V.fold m) (hD : l.drop 4 = m.drop 4) : ∀ T : List (V.Bs × Int × Bool), (∀ x ∈ T, 4 ≤ x.1.length) → V.tryT l T = V.tryT m T
  | [], _ => rfl
  | x :: T, h => by
    unfold V.tryT
    rw [after_same hF hD x.1 (h x (by simp)), try_same hF hD T (fun y hy => h y (by simp [hy]))]
theorem read_same {l m : V.Bs} (hF : V.fold l = V.fold m) (hD : l.drop 4 = m.drop 4) : V.read l = V.read m := by
  unfold V.read V.aloneB V.aloneK V.tail
  rw [hF, try_same hF hD readT (by decide), after_same hF hD noopB (by decide), after_same hF hD vrfyB (by decide)]
theorem parse_same {l m : V.Bs} (hF : V.fold l = V.fold m) (hD : l.drop 4 = m.drop 4) : V.parse l = V.parse m := by
  have hl : l.length = m.length := by rw [← fold_len l, hF, fold_len]
  have ha : l.all okByte = m.all okByte := by rw [← fold_all l, hF, fold_all]
  unfold V.parse V.known V.told V.strange
  rw [hl, ha, first_fold, first_fold, hF, read_same hF hD, after_same hF hD authB (by decide)]
theorem code_long (l : V.Bs) (h : 510 < l.length) : V.code l = 500 := by
  unfold V.code V.parse
  rw [if_pos h]
theorem code_bad (l : V.Bs) (h : l.length ≤ 510) (ha : l.all okByte = false) : V.code l = 500 := by
  unfold V.code V.parse
  rw [if_neg (by omega), if_neg (by rw [ha]; decide)]
theorem fold_set (l : V.Bs) (i : Nat) (c : UInt8) (hi : i < l.length) (h : V.low c = V.low (l.getD i 0)) : V.fold (l.set i c) = V.fold l := by
  unfold V.fold
  rw [List.map_set, h]
  apply List.ext_getElem?
  intro j
  by_cases hj : i = j
  · subst hj
    rw [List.getElem?_set_self (by simpa using hi), List.getElem?_map, List.getD_eq_getElem?_getD, List.getElem?_eq_getElem hi]
    rfl
  · rw [List.getElem?_set_ne hj]
theorem drop_set (l : V.Bs) (i n : Nat) (c : UInt8) (hi : i < n) : (l.set i c).drop n = l.drop n := List.drop_set_of_lt hi
end Go.Proofs.YteiknmcmaemcoaaDoor
