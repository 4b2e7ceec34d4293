/- What cram's Hex answers. -/
import Derived.Test.YtalignlbbdeeiaaDoorProg
import Derived.WalkKit
import Derived.WalkLawsBesides
import Derived.Outline
import Derived.LoopTactic
import Derived.Lib.Hide
import Derived.Deep.QuietTactic
import Derived.BigQuiet
import Derived.Deep.LoopGhost
import Derived.Deep.DeepCutAuto
import Derived.Deep.CutBlock
import Derived.Deep.RegionHeld3
import Derived.Deep.RegionWith
import Derived.Deep.WholeRow
import Derived.Laws.Rows
import Derived.Laws.Tables
import Derived.Laws.ResultCell
import Derived.StillTailTactics
import Derived.Deep.DeepMust
import Derived.IntWalk
import Derived.KernelRfl
import Derived.Test.YtalignlbbdeeiaaDoorWWords
import Derived.Test.YtalignlbbdeeiaaDoorWLast
import Derived.Test.YtalignlbbdeeiaaDoorWMore
import Derived.RegionTactic
import Derived.Test.YtalignlbbdeeiaaDoorBuild
import Derived.Test.YtalignlbbdeeiaaDoorShelf
namespace Go.Proofs.YtalignlbbdeeiaaDoor
open Go.RowKit
open Go.Proofs.YtalignlbbdeeiaaDoorW.PrintWords
set_option linter.unusedVariables false
set_option linter.unusedSimpArgs false
theorem byteCells_append (a b : List UInt8) : Lib.byteCells (a ++ b) = Lib.byteCells a ++ Lib.byteCells b := by simp [Lib.byteCells]
theorem byteCells_length (a : List UInt8) : (Lib.byteCells a).length = a.length := by simp [Lib.byteCells]
theorem dig_of (q : Int) (h0 : 0 ≤ q) (h1 : q < 16) (D : ByteArray) (hD : D = digits) (hi : q.toNat < D.size) : D[q.toNat] = dig q.toNat := by
  subst hD
  obtain ⟨n, rfl⟩ : ∃ n : Nat, q = n := ⟨q.toNat, by omega⟩
  have hn : n < 16 := by omega
  simp only [Int.toNat_natCast] at hi ⊢
  clear h0 h1
  revert n
  decide +kernel
theorem hexs_take (l : List Int) (n : Nat) (hn : n < l.length) (x : Int) (hx : l.getD n 0 = x) (h : 0 ≤ x) : hexs (l.take (n + 1)) = hexs (l.take n) ++ [dig (x / 16).toNat, dig (x % 16).toNat] := by
  have e1 : l.take (n + 1) = l.take n ++ [x] := by
    rw [List.take_succ_eq_append_getElem hn, ← hx]; simp [List.getD_eq_getElem?_getD, hn]
  have e2 : (x / 16).toNat = x.toNat / 16 := by omega
  have e3 : (x % 16).toNat = x.toNat % 16 := by omega
  rw [e1, e2, e3]
  simp [hexs]
set_option maxRecDepth 100000 in
set_option maxHeartbeats 1000000 in
theorem chex_any (A : Option Addr) (c : Nat) (l : List Int) (w : World) (hr : CB w A l) (hb : Md5.Bytes l) (hl : l.length ≤ 100000) :
    Calls Tryd.prog 14 #[.slice A l.length c] w fun e w' => e = .returned (.string ⟨(hexs l).toArray⟩) ∧ Below w.heap.size w w' := by
  have HR := Aside0.mk hr
  have HB := Aside0.mk hb
  clear hr hb
  go_enter Tryd.func14, Tryd.ntmps14
  go_wp2_with (fail)
  go_loopg [8] l.length (fun g v8 wr => ∃ n : Nat, n ≤ l.length ∧ g + n = l.length ∧ v8 = .int .i64 n ∧ Aside0 (Lib.IsBuilder 41 5 w.heap.size w.heap.size (Lib.byteCells (hexs (l.take n))) wr) ∧ Aside0 (Below w.heap.size w wr))
  case atStart => exact ⟨0, by omega, by omega, rfl, ⟨Lib.fresh_isBuilder _ _ w⟩, ⟨(Below.refl _ _).alloc (Nat.le_refl _) _⟩⟩
  case round =>
  obtain ⟨n, hn, hg, rfl, H1, H2⟩ := hrel
  obtain ⟨wx, rfl⟩ : ∃ wz : World, wz = wr := ⟨_, rfl⟩
  by_cases hlt : n < l.length
  · obtain ⟨ad, rfl, hc⟩ := Kd.at_int (Kd.C_below HR.out H2.out) n (by omega) (by omega)
    have hx := HB.out.getD n
    have hn0 : (n : Int).toNat = n := by omega
    rw [hn0] at hc
    have e1 : rd l n = l.getD n 0 := rfl
    rw [e1] at hc
    generalize hxe : l.getD n 0 = x at *
    have HX := Aside0.mk hxe
    clear e1 hxe
    have hlt' : (n : Int) < (l.length : Int) := by omega
    have h0 : (0 : Int) ≤ (n : Int) := by omega
    have hlh : (Lib.byteCells (hexs (l.take n))).length ≤ 200000 := by rw [byteCells_length, hexs_length]; simp; omega
    have hst := hexs_take l n hlt x HX.out hx.1
    have HST := Aside0.mk hst
    clear hst
    go_wp2_with (first | (go_at_call 18; with_reducible refine Calls.mono (byte_any w.heap.size w.heap.size _ _ wx H1.out (by omega) (by exact H2.out.size)) ?_; rintro e w1 ⟨rfl, g1, g2⟩; have H3 := Aside0.mk g1; have H4 := Aside0.mk g2; clear g1 g2) | (go_at_call 18; with_reducible refine Calls.mono (byte_any w.heap.size w.heap.size _ _ w1 H3.out (by rw [List.length_append]; simp; omega) (by exact Nat.le_trans H2.out.size H4.out.size)) ?_; rintro e w2 ⟨rfl, g1, g2⟩; have H5 := Aside0.mk g1; have H6 := Aside0.mk g2; clear g1 g2))
    go_roundg (gk - 1)
    case measure => omega
    case rel =>
      refine ⟨n + 1, by omega, by omega, by go_num, ⟨?_⟩, ⟨H2.out.trans (H4.out.trans H6.out)⟩⟩
      have h := H5.out
      rw [dig_of (x / 16) (by omega) (by omega) ⟨#[48, 49, 50, 51, 52, 53, 54, 55, 56, 57, 97, 98, 99, 100, 101, 102]⟩ rfl, dig_of (x % 16) (by omega) (by omega) ⟨#[48, 49, 50, 51, 52, 53, 54, 55, 56, 57, 97, 98, 99, 100, 101, 102]⟩ rfl] at h
      rw [HST.out, byteCells_append]
      simpa [Lib.byteCells] using h
  · have hne : n = l.length := by omega
    have e : l.take n = l := by rw [hne, List.take_length]
    rw [e] at H1
    have t1 : decide ((n : Int) < (l.length : Int)) = false := by simp; omega
    have t2 : decide (n < l.length) = false := by simp; omega
    clear hne e
    go_wp2_with (first | (go_at_call 19; with_reducible refine Calls.mono (Tryd.Builder_String_any w.heap.size w.heap.size (hexs l) wx H1.out (by exact H2.out.size)) ?_; rintro e w3 ⟨rfl, g⟩; have H3 := Aside0.mk g; clear g))
    go_ret
    exact ⟨rfl, H2.out.trans H3.out⟩
end Go.Proofs.YtalignlbbdeeiaaDoor
