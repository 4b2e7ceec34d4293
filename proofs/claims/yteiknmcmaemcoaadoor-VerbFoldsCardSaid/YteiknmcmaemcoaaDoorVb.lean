/- What path's Fold answers. -/
import Derived.Test.YteiknmcmaemcoaaDoorProg
import Derived.WalkKit
import Derived.WalkLawsBesides
import Derived.Outline
import Derived.LoopTactic
import Derived.Lib.Hide
import Derived.Deep.QuietTactic
import Derived.BigQuiet
import Derived.Deep.LoopGhost
import Derived.Deep.DeepCutAuto
import Derived.Deep.CutBlock
import Derived.Deep.RegionHeld3
import Derived.Deep.RegionWith
import Derived.Deep.WholeRow
import Derived.Laws.Rows
import Derived.Laws.Tables
import Derived.Laws.ResultCell
import Derived.StillTailTactics
import Derived.Deep.DeepMust
import Derived.IntWalk
import Derived.KernelRfl
import Derived.Test.YteiknmcmaemcoaaDoorWWords
import Derived.Test.YteiknmcmaemcoaaDoorWLast
import Derived.Test.YteiknmcmaemcoaaDoorWMore
import Derived.RegionTactic
import Derived.Laws.IdiomStrings
import Derived.Laws.BytesArg
import Derived.Test.YteiknmcmaemcoaaDoorVa
namespace Go.Proofs.YteiknmcmaemcoaaDoor
open Go.RowKit
open Go.Proofs.YteiknmcmaemcoaaDoorW.PrintWords
set_option linter.unusedVariables false
set_option linter.unusedSimpArgs false
/-- A list of bytes as a string. -/
def str (l : V.Bs) : ByteArray := ⟨l.toArray⟩
def lst (s : ByteArray) : V.Bs := s.data.toList
theorem str_lst (s : ByteArray) : str (lst s) = s := by cases s; simp [str, lst]
theorem lst_str (l : V.Bs) : lst (str l) = l := by simp [str, lst]
theorem lst_length (s : ByteArray) : (lst s).length = s.size := by rw [lst, Array.length_toList]; rfl
theorem str_size (l : V.Bs) : (str l).size = l.length := by rw [← lst_length, lst_str]
theorem str_inj {a b : V.Bs} : str a = str b ↔ a = b := ⟨fun h => by rw [← lst_str a, h, lst_str], fun h => by rw [h]⟩
theorem str_eqB (a b : ByteArray) : (a.toList == b.toList) = decide (lst a = lst b) := by
  have e : ∀ s : ByteArray, s.toList = lst s := fun s => ByteArray.toList_eq s
  rw [e, e, Bool.eq_iff_iff]; simp
/-- A text folded. -/
def foldB (s : ByteArray) : ByteArray := str (V.fold (lst s))
theorem frozen_row {w : World} {b j k m t : Nat} {cs : Array Value} (h : w.heap[b]? = some (.cells cs t (k, m))) (hj : j < k) : w.frozen? ⟨b, j, none⟩ = false := by
  simp [World.frozen?, h]
  try omega
theorem setCell_row (w : World) (g i : Nat) (cs : Array Value) (t : TypeId) (fr : Nat × Nat) (v : Value) (hg : w.heap[g]? = some (.cells cs t fr)) :
    (w.setCell ⟨g, i, none⟩ v).heap[g]? = some (.cells (cs.setIfInBounds i v) t fr) := by
  rw [setCell_eq_setRow w g i cs t fr v hg]
  exact setRow_heap w g cs _ t _ hg
theorem bytes_conv (s : ByteArray) : ∃ (cp : World → Nat) (W1 : World → World) (cs : World → Array Value) (kk : World → Nat), ∀ w, (convert 9 37 (.string s)).run Tryd.prog w = .ok (.slice (some ⟨w.heap.size, 0, none⟩) s.size (cp w)) (W1 w) ∧ Below w.heap.size w (W1 w) ∧ (W1 w).heap[w.heap.size]? = some (.cells (cs w) 5 (kk w, kk w + 1)) ∧ (∀ j, j < s.size → (cs w)[j]? = some (.int .u8 ((lst s).getD j 0).toNat)) ∧ s.size ≤ kk w ∧ s.size ≤ cp w := by
  refine ⟨fun w => grownCap w s.size 0 5, fun w => _, fun w => bytesRow s (grownCap w s.size 0 5), fun w => (bytesRow s (grownCap w s.size 0 5)).size, fun w => ⟨run_bytes_of_string w 9 37 5 s Tryd.underlying9 Tryd.underlying37 Tryd.underlying5, ?_, ?_, ?_, ?_, ?_⟩⟩
  · exact ((Below.refl _ _).drew).alloc (Nat.le_refl _) _
  · exact heap_alloc_new w.drew _
  · intro j hj
    rw [bytesRow_at s _ j hj]
    have e : (lst s)[j]? = some (s.data[j]) := by
      rw [lst, Array.getElem?_toList, Array.getElem?_eq_getElem hj]
    rw [List.getD_eq_getElem?_getD, e]; rfl
  · simp only [bytesRow]
    simp
  · exact grownCap_ge _ _ _ _
/-- What stands at j behind n rounds. -/
def half (l : V.Bs) (n j : Nat) : UInt8 := if j < n then V.low (l.getD j 0) else l.getD j 0
theorem low_up (c : UInt8) (h0 : 65 ≤ c.toNat) (h1 : c.toNat ≤ 90) : ((V.low c).toNat : Int) = IntKind.u8.wrap (IntKind.u8.wrap ((c.toNat : Int) + 97) - 65) := by
  have h : ∀ n, n < 256 → 65 ≤ n → n ≤ 90 → ((V.low (UInt8.ofNat n)).toNat : Int) = IntKind.u8.wrap (IntKind.u8.wrap ((n : Int) + 97) - 65) := by decide +kernel
  have := h c.toNat c.toNat_lt h0 h1
  simpa using this
theorem low_not (c : UInt8) (h : ¬ (65 ≤ c.toNat ∧ c.toNat ≤ 90)) : V.low c = c := by
  unfold V.low
  rw [if_neg]
  intro h'
  simp only [UInt8.le_iff_toNat_le] at h'
  exact h h'
theorem half_all (l : V.Bs) (n : Nat) : (l.length = n) → strOfNums ((List.range n).map fun j => ((half l n j).toNat : Int)) = str (V.fold l) := by
  intro hn
  subst hn
  apply ByteArray.ext
  simp only [strOfNums, str]
  congr 1
  rw [List.map_map]
  apply List.ext_getElem?
  intro i
  simp only [List.getElem?_map, V.fold]
  by_cases hi : i < l.length
  · rw [List.getElem?_range hi]
    simp [half, hi]
  · rw [List.getElem?_eq_none (by simp; omega), List.getElem?_eq_none (by omega)]
    rfl
set_option maxRecDepth 100000 in
set_option maxHeartbeats 1000000 in
theorem fold_any (s : ByteArray) (w : World) (hs : s.size ≤ 1000000) :
    Calls Tryd.prog 17 #[.string s] w fun e w' => e = .returned (.string (foldB s)) ∧ Below w.heap.size w w' := by
  obtain ⟨cp, W1, cs, kk, hcv⟩ := bytes_conv s
  have hcr := fun w => (hcv w).1
  have HCV := Aside0.mk (fun w => (hcv w).2)
  clear hcv
  go_enter Tryd.func17, Tryd.ntmps17
  go_wp2_with (fail)
  go_loopg [10] s.size (fun g v10 wr => ∃ (n : Nat) (cs' : Array Value) (k m : Nat), n ≤ s.size ∧ g + n = s.size ∧ v10 = .int .i64 n ∧ Aside0 (wr.heap[w.heap.size]? = some (.cells cs' 5 (k, m)) ∧ s.size ≤ k ∧ (∀ j, j < s.size → cs'[j]? = some (.int .u8 (half (lst s) n j).toNat)) ∧ Below w.heap.size w wr))
  case atStart =>
    obtain ⟨h1, h2, h3, h4, h5⟩ := HCV.out w
    exact ⟨0, _, _, _, by omega, by omega, rfl, ⟨h2, h4, fun j hj => by rw [h3 j hj]; simp [half], h1⟩⟩
  case round =>
    obtain ⟨n, cs', k, m, hn, hg, rfl, H⟩ := hrel
    obtain ⟨wx, rfl⟩ : ∃ wz : World, wz = wr := ⟨_, rfl⟩
    by_cases hlt : n < s.size
    · obtain ⟨hb, hk, hc, hB⟩ := H.out
      have hcell : wx.cell? ⟨w.heap.size, n, none⟩ = some (.int .u8 (half (lst s) n n).toNat) := by rw [cell_of_row wx _ _ _ _ _ hb]; exact hc n hlt
      have hfr : wx.frozen? ⟨w.heap.size, n, none⟩ = false := frozen_row hb (by omega)
      have e0 : half (lst s) n n = (lst s).getD n 0 := by simp [half]
      rw [e0] at hcell
      obtain ⟨c, hc0⟩ : ∃ c, c = (lst s).getD n 0 := ⟨_, rfl⟩
      rw [← hc0] at hcell
      obtain ⟨x, hx⟩ : ∃ x : Int, x = (c.toNat : Int) := ⟨_, rfl⟩
      rw [← hx] at hcell
      have hx0 : 0 ≤ x := by omega
      have hx1 : x < 256 := by have := c.toNat_lt; omega
      have hlt' : (n : Int) < (s.size : Int) := by omega
      have h0 : (0 : Int) ≤ (n : Int) := by omega
      have HX := Aside0.mk hx
      have HC := Aside0.mk hc0
      have HR := Aside0.mk (And.intro hb (And.intro hk (And.intro hc hB)))
      clear hx hc0 hb hk hc hB e0 H HCV hcr
      go_wp2_with (fail)
      · go_roundg (gk - 1)
        case measure => omega
        case rel =>
          obtain ⟨hb, hk, hc, hB⟩ := HR.out
          refine ⟨n + 1, _, _, _, by omega, by omega, by go_num, ⟨setCell_row _ _ _ _ _ _ _ hb, hk, fun j hj => ?_, hB.setCell (Nat.le_refl _) _⟩⟩
          have hx := HX.out
          by_cases hjn : n = j
          · subst hjn
            have hsz : n < cs'.size := (Array.getElem?_eq_some_iff.1 (hc n hj)).1
            rw [Array.getElem?_setIfInBounds_self_of_lt hsz]
            have e1 : half (lst s) (n + 1) n = V.low c := by unfold half; rw [if_pos (by omega), ← HC.out]
            rw [e1]
            unfold V.low
            rw [if_pos (by simp only [UInt8.le_iff_toNat_le]; constructor <;> (simp; omega))]
            congr 3
            rw [UInt8.toNat_add]
            simp
            omega
          · rw [Array.getElem?_setIfInBounds_ne hjn, hc j hj]
            congr 4
            unfold half
            by_cases hj2 : j < n
            · rw [if_pos hj2, if_pos (by omega)]
            · rw [if_neg hj2, if_neg (by omega)]
      all_goals
        go_roundg (gk - 1)
        case measure => omega
        case rel =>
          obtain ⟨hb, hk, hc, hB⟩ := HR.out
          refine ⟨n + 1, _, _, _, by omega, by omega, by go_num, ⟨hb, hk, fun j hj => ?_, hB⟩⟩
          have hx := HX.out
          rw [hc j hj]
          congr 4
          unfold half
          by_cases hjn : n = j
          · subst hjn
            rw [if_neg (by omega), if_pos (by omega), ← HC.out, low_not c (by omega)]
          · by_cases hj2 : j < n
            · rw [if_pos hj2, if_pos (by omega)]
            · rw [if_neg hj2, if_neg (by omega)]
    · have hne : n = s.size := by omega
      subst hne
      obtain ⟨hb, hk, hc, hB⟩ := H.out
      have hstr : (convert 37 9 (.slice (some ⟨w.heap.size, 0, none⟩) s.size (cp w))).run Tryd.prog wx = .ok (.string (foldB s)) wx := by
        have h := run_convert_bytes_arg (P := Tryd.prog) wx 37 5 Tryd.underlying37 Tryd.underlying5 w.heap.size 0 s.size (cp w) ((List.range s.size).map fun j => ((half (lst s) s.size j).toNat : Int)) (by simp) (fun i hi => by
          rw [Nat.zero_add, cell_of_row wx _ _ _ _ _ hb, hc i hi]
          simp [List.getD_eq_getElem?_getD, hi]) 9 Tryd.underlying9
        rw [half_all _ _ (lst_length s)] at h
        exact h
      have HB := Aside0.mk hB
      clear hb hk hc hB H HCV hcr
      go_wp2_with (fail)
      go_ret
      exact ⟨rfl, HB.out⟩
end Go.Proofs.YteiknmcmaemcoaaDoor
