/- What the reference's Hex answers. -/
import Derived.Test.YtalignlbbdeeiaaDoorProg
import Derived.WalkKit
import Derived.WalkLawsBesides
import Derived.Outline
import Derived.LoopTactic
import Derived.Lib.Hide
import Derived.Deep.QuietTactic
import Derived.BigQuiet
import Derived.Deep.LoopGhost
import Derived.Deep.DeepCutAuto
import Derived.Deep.CutBlock
import Derived.Deep.RegionHeld3
import Derived.Deep.RegionWith
import Derived.Deep.WholeRow
import Derived.Laws.Rows
import Derived.Laws.Tables
import Derived.Laws.ResultCell
import Derived.StillTailTactics
import Derived.Deep.DeepMust
import Derived.IntWalk
import Derived.KernelRfl
import Derived.Test.YtalignlbbdeeiaaDoorWWords
import Derived.Test.YtalignlbbdeeiaaDoorWLast
import Derived.Test.YtalignlbbdeeiaaDoorWMore
import Derived.RegionTactic
import Derived.Test.YtalignlbbdeeiaaDoorWakes
namespace Go.Proofs.YtalignlbbdeeiaaDoor
open Go.RowKit
open Go.Proofs.YtalignlbbdeeiaaDoorW.PrintWords
set_option linter.unusedVariables false
set_option linter.unusedSimpArgs false
def dig (x : Nat) : UInt8 := if x < 10 then UInt8.ofNat (48 + x) else UInt8.ofNat (87 + x)
def hexs (l : List Int) : List UInt8 := l.flatMap fun x => [dig (x.toNat / 16), dig (x.toNat % 16)]
def digits : ByteArray := { data := #[48, 49, 50, 51, 52, 53, 54, 55, 56, 57, 97, 98, 99, 100, 101, 102] }
theorem dig_at (q : Int) (h0 : 0 ≤ q) (h1 : q < 16) : digits.extract q.toNat (q + 1).toNat = ⟨#[dig q.toNat]⟩ := by
  obtain ⟨n, rfl⟩ : ∃ n : Nat, q = n := ⟨q.toNat, by omega⟩
  have hn : n < 16 := by omega
  have e : ((n : Int) + 1).toNat = n + 1 := by omega
  rw [e, Int.toNat_natCast]
  clear e h0 h1
  revert n
  decide +kernel
theorem dig_run (q : Int) (h0 : 0 ≤ q) (h1 : q < 16) (w : World) : (Instr.slice 9 (.string digits) (some (.int .u8 q)) (some (.int .u8 (q + 1))) none).run Tryd.prog w = .ok (.string ⟨#[dig q.toNat]⟩) w := by
  rw [run_slice_string w 9 digits .u8 .u8 q (q + 1) Tryd.underlying9 h0 (by omega) (by have : (digits.size : Int) = 16 := rfl; omega), dig_at q h0 h1]
theorem wrap_dig (q : Int) (h0 : 0 ≤ q) (h1 : q < 16) : IntKind.u8.wrap (q + 1) = q + 1 := by
  simp [IntKind.wrap, IntKind.signed, IntKind.bits]; omega
theorem hexs_step (l : List Int) (n : Nat) (hn : n < l.length) (x : Int) (hx : l.getD n 0 = x) (h : 0 ≤ x) : ((⟨(hexs (l.take n)).toArray⟩ : ByteArray) ++ ⟨#[dig (x / 16).toNat]⟩) ++ ⟨#[dig (x % 16).toNat]⟩ = ⟨(hexs (l.take (n + 1))).toArray⟩ := by
  have e1 : l.take (n + 1) = l.take n ++ [x] := by
    rw [List.take_succ_eq_append_getElem hn, ← hx]; simp [List.getD_eq_getElem?_getD, hn]
  have e2 : (x / 16).toNat = x.toNat / 16 := by omega
  have e3 : (x % 16).toNat = x.toNat % 16 := by omega
  rw [e1, e2, e3]
  apply ByteArray.ext
  simp [hexs, ByteArray.data_append]
theorem hexs_length : ∀ l : List Int, (hexs l).length = 2 * l.length
  | [] => rfl
  | x :: l => by have := hexs_length l; simp [hexs] at this ⊢; omega
theorem put_run (a b : ByteArray) (ha : a.size ≤ 1000000) (hb : b.size ≤ 1000000) (w : World) : (Op.stringOp .add a b).run Tryd.prog w = .ok (.string (a ++ b)) w := run_string_add_sum w a b (by omega)
set_option maxRecDepth 100000 in
set_option maxHeartbeats 4000000 in
theorem hex_any (A : Option Addr) (c : Nat) (l : List Int) (w : World) (hr : CB w A l) (hb : Md5.Bytes l) (hl : l.length ≤ 100000) :
    Calls Tryd.prog 15 #[.slice A l.length c] w fun e w' => e = .returned (.string ⟨(hexs l).toArray⟩) ∧ ∃ n, w' = w.drewN n := by
  have HR := Aside0.mk hr
  have HB := Aside0.mk hb
  clear hr hb
  obtain ⟨D, hD⟩ : ∃ D, D = digits := ⟨_, rfl⟩
  have HD := Aside0.mk hD
  have hd : ({ data := #[48, 49, 50, 51, 52, 53, 54, 55, 56, 57, 97, 98, 99, 100, 101, 102] } : ByteArray) = D := hD.symm
  clear hD
  go_enter Tryd.func15, Tryd.ntmps15
  go_wp2_with (fail)
  rw [hd]
  clear hd
  go_loopg [4, 5] l.length (fun g v4 v5 wr => ∃ n m : Nat, n ≤ l.length ∧ g + n = l.length ∧ v4 = .string ⟨(hexs (l.take n)).toArray⟩ ∧ v5 = .int .i64 n ∧ wr = w.drewN m)
  case atStart => exact ⟨0, 0, by omega, by omega, rfl, rfl, rfl⟩
  case round =>
    obtain ⟨n, m, hn, hg, rfl, rfl, rfl⟩ := hrel
    by_cases hlt : n < l.length
    · obtain ⟨ad, rfl, hc⟩ := Kd.at_int HR.out n (by omega) (by omega)
      have hx := HB.out.getD n
      have hn0 : (n : Int).toNat = n := by omega
      rw [hn0] at hc
      have e1 : rd l n = l.getD n 0 := rfl
      rw [e1] at hc
      generalize hxe : l.getD n 0 = x at *
      have HX := Aside0.mk hxe
      clear e1 hxe
      have hlt' : (n : Int) < (l.length : Int) := by omega
      have h0 : (0 : Int) ≤ (n : Int) := by omega
      obtain ⟨T, hT⟩ : ∃ T : ByteArray, T = ⟨(hexs (l.take n)).toArray⟩ := ⟨_, rfl⟩
      obtain ⟨P1, hP1⟩ : ∃ P : ByteArray, P = ⟨#[dig (x / 16).toNat]⟩ := ⟨_, rfl⟩
      obtain ⟨P2, hP2⟩ : ∃ P : ByteArray, P = ⟨#[dig (x % 16).toNat]⟩ := ⟨_, rfl⟩
      have hTs : T.size ≤ 200000 := by have := hexs_length (l.take n); rw [hT]; simp [ByteArray.size] at this ⊢; omega
      have hP1s : P1.size = 1 := by rw [hP1]; rfl
      have hP2s : P2.size = 1 := by rw [hP2]; rfl
      have hs1 : ∀ w, (Instr.slice 9 (.string D) (some (.int .u8 (x / 16))) (some (.int .u8 (x / 16 + 1))) none).run Tryd.prog w = .ok (.string P1) w := by rw [HD.out, hP1]; exact dig_run _ (by omega) (by omega)
      have hs2 : ∀ w, (Instr.slice 9 (.string D) (some (.int .u8 (x % 16))) (some (.int .u8 (x % 16 + 1))) none).run Tryd.prog w = .ok (.string P2) w := by rw [HD.out, hP2]; exact dig_run _ (by omega) (by omega)
      have hw1 := wrap_dig (x / 16) (by omega) (by omega)
      have hw2 := wrap_dig (x % 16) (by omega) (by omega)
      obtain ⟨T1, hT1⟩ : ∃ T1, T1 = T ++ P1 := ⟨_, rfl⟩
      have hT1s : T1.size ≤ 200001 := by rw [hT1, ByteArray.size_append]; omega
      obtain ⟨T2, hT2⟩ : ∃ T2, T2 = T1 ++ P2 := ⟨_, rfl⟩
      have ha1 : ∀ w, (Op.stringOp .add T P1).run Tryd.prog w = .ok (.string T1) w := by rw [hT1]; exact put_run T P1 (by omega) (by omega)
      have ha2 : ∀ w, (Op.stringOp .add T1 P2).run Tryd.prog w = .ok (.string T2) w := by rw [hT2]; exact put_run T1 P2 (by omega) (by omega)
      have hst : T2 = ⟨(hexs (l.take (n + 1))).toArray⟩ := by rw [hT2, hT1, hT, hP1, hP2]; exact hexs_step l n hlt x HX.out hx.1
      have HST := Aside0.mk hst
      rw [← hT]
      clear hT hP1 hP2 hT1 hT2 hst hTs hT1s hP1s hP2s
      go_wp2_with (fail)
      go_quiet (fail)
      go_wp2
      go_roundg (gk - 1)
      case measure => omega
      case rel => exact ⟨n + 1, _, by omega, by omega, by rw [HST.out], by go_num, rfl⟩
    · obtain rfl : n = l.length := by omega
      rw [List.take_length]
      go_wp2
      go_ret
      exact ⟨rfl, m, rfl⟩
end Go.Proofs.YtalignlbbdeeiaaDoor
