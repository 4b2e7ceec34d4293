-- PRINTED BY print.sh 35421559b90ae4d0a3588c463048766b98c2df88dd9212a6774a882060cdf62d: not written by this session
import Derived.Test.YtbkfdejcmimhgaaProg
import Derived.Below
import Derived.Deep.Draws
import Derived.Deep.AppendLies
import Derived.Maps.AppendAt
import Derived.OwnWalk
import Derived.Laws.BytesArg
import Derived.Laws.MakeOwn
import Derived.Laws.OwnMore
import Derived.Deep.OwnRows
import Derived.Tactics
import Derived.Lib.ConvBytes
import Derived.Laws.Slices
import Derived.WalkKit
import Derived.KernelRfl
import Derived.RowKit3
import Derived.Deep.LoopGhost
import Derived.Deep.QuietTactic
import Derived.BigQuiet
import Derived.WideLaws
import Derived.Deep.DeepCutAuto
import Derived.Deep.CutBlock
import Derived.Deep.RegionHeld3
import Derived.Laws.Rows
import Derived.Lib.AppendStr
import Derived.ArgAppend
import Derived.Laws.IdiomCopy
import Derived.OrdersHeld
import Derived.Laws.BitsLemmas
import Derived.RowKit
import Derived.Test.YtbkfdejcmimhgaaWWords
import Derived.Test.YtbkfdejcmimhgaaWLast
import Derived.Test.YtbkfdejcmimhgaaWTab
import Derived.Test.YtbkfdejcmimhgaaWFour
import Derived.Test.YtbkfdejcmimhgaaWQPut
import Derived.Test.YtbkfdejcmimhgaaWApart
import Derived.Test.YtbkfdejcmimhgaaWArr
import Derived.Test.YtbkfdejcmimhgaaWZeros
import Derived.Test.YtbkfdejcmimhgaaWFoot
import Derived.Test.YtbkfdejcmimhgaaWKept
import Derived.Test.YtbkfdejcmimhgaaWShare
import Derived.Test.YtbkfdejcmimhgaaWN
import Derived.Test.YtbkfdejcmimhgaaWFootNe
import Derived.Test.YtbkfdejcmimhgaaWAt
import Derived.Test.YtbkfdejcmimhgaaWEqStruct
import Derived.Test.YtbkfdejcmimhgaaWRepsOne
import Derived.Test.YtbkfdejcmimhgaaWInv
import Derived.Test.YtbkfdejcmimhgaaWInvWords
import Derived.Test.YtbkfdejcmimhgaaWGuard
import Derived.Test.YtbkfdejcmimhgaaWNEv
import Derived.Test.YtbkfdejcmimhgaaWMore
namespace Go.Proofs.Ytbkfdejcmimhgaa.PDiaryExact
open Go.RowKit Go.Proofs.YtbkfdejcmimhgaaW.PrintWords Go.Proofs.YtbkfdejcmimhgaaW.PrintLast Go.Proofs.YtbkfdejcmimhgaaW.PrintMore
attribute [local go_sem] max2_int min2_int max_two min_two max_three min_three max_four min_four   -- for this text's walks alone
set_option linter.unusedVariables false
set_option linter.unusedSimpArgs false



def errW : Option Int → Value
  | none => .nilIface
  | some c => .iface 0 (.int .i64 c)
theorem errW_none : errW none = .nilIface := rfl
theorem errW_some (c : Int) : errW (some c) = .iface 0 (.int .i64 c) := rfl

theorem info3 : (Try.prog.info? 3).map (fun i => (i.zero, i.size, i.bytes)) = some (some (.int .i64 0), 1, 8) := by kernel_rfl
theorem info5 : (Try.prog.info? 5).map (fun i => (i.zero, i.size, i.bytes)) = some (some (.int .u8 0), 1, 1) := by kernel_rfl
theorem info32 : (Try.prog.info? 32).map (fun i => (i.zero, i.size, i.bytes)) = some (some (.agg #[(.bool false), (.string ⟨#[]⟩), (.string ⟨#[]⟩)]), 3, 40) := by kernel_rfl
theorem info36 : (Try.prog.info? 36).map (fun i => (i.zero, i.size, i.bytes)) = some (some (.agg #[(.bool false), (.string ⟨#[]⟩), (.string ⟨#[]⟩), (.slice none 0 0), (.slice none 0 0), (.bool false), (.string ⟨#[]⟩), (.int .i64 0)]), 8, 120) := by kernel_rfl
theorem info39 : (Try.prog.info? 39).map (fun i => (i.zero, i.size, i.bytes)) = some (some (.agg #[(.int .i64 0), (.bool false), (.string ⟨#[]⟩), (.string ⟨#[]⟩), (.slice none 0 0), (.slice none 0 0), (.bool false), (.string ⟨#[]⟩), (.int .i64 0), (.int .i64 0), (.slice none 0 0), (.int .i64 0), (.int .i64 0), (.int .i64 0), (.slice none 0 0)]), 15, 208) := by kernel_rfl
-- the values' own types
/-! #### struct type 32 -/
structure S32 where
  f0 : Bool
  f1 : ByteArray
  f2 : ByteArray
def z32 : S32 := ⟨false, (⟨#[]⟩ : ByteArray), (⟨#[]⟩ : ByteArray)⟩
def k32 : Kd S32 := Kd.iso (Kd.pair Kd.bool (Kd.pair Kd.string Kd.string)) (fun x : S32 => (x.f0, x.f1, x.f2))
theorem k32_open {w : World} {x : S32} {cs : List Value} (h : k32.K w x cs) : cs = [.bool x.f0, .string x.f1, .string x.f2] := by
  obtain ⟨_, _, rfl, rfl, ⟨_, _, rfl, rfl, rfl⟩⟩ := h
  exact rfl
theorem k32_openM {w : World} {base : Nat} {ok : Nat → Prop} {x : S32} {cs : List Value} (h : k32.M w base ok x cs) : cs = [.bool x.f0, .string x.f1, .string x.f2] := by
  obtain ⟨_, _, rfl, rfl, ⟨_, _, rfl, rfl, rfl⟩⟩ := h
  exact rfl
theorem k32_mk (w : World) (x : S32)  : k32.K w x [.bool x.f0, .string x.f1, .string x.f2] := ⟨[.bool x.f0], [.string x.f1, .string x.f2], rfl, rfl, ⟨[.string x.f1], [.string x.f2], rfl, rfl, rfl⟩⟩
theorem k32_mkM (w : World) (base : Nat) (ok : Nat → Prop) (x : S32)  : k32.M w base ok x [.bool x.f0, .string x.f1, .string x.f2] := ⟨[.bool x.f0], [.string x.f1, .string x.f2], rfl, rfl, ⟨[.string x.f1], [.string x.f2], rfl, rfl, rfl⟩⟩
theorem k32_mkF (W : World) (ok : Nat → Prop) (x : S32) : Kd.FK k32 W ok x [.bool x.f0, .string x.f1, .string x.f2] := fun W2 _ => k32_mk W2 x
def rd_T32 (xs : List S32) (i : Int) : S32 := xs.getD i.toNat z32
theorem at_T32 {w : World} {A : Option Addr} {n : Nat} {xs : List S32} (h : Kd.C k32 w A n xs) (i : Int) (h0 : 0 ≤ i) (h1 : i < n) : ∃ ad , A = some ad ∧ w.cell? (ad.add (i.toNat * 3)) = some (.bool (rd_T32 xs i).f0) ∧ w.cell? ⟨(ad.add (i.toNat * 3)).block, (ad.add (i.toNat * 3)).off + 1, none⟩ = some (.string (rd_T32 xs i).f1) ∧ w.cell? ⟨(ad.add (i.toNat * 3)).block, (ad.add (i.toNat * 3)).off + 2, none⟩ = some (.string (rd_T32 xs i).f2) := by
  obtain ⟨ad, c, e, _, hK, hc0⟩ := Kd.C_get h z32 i h0 h1
  have hc : ∀ j u, c[j]? = some u → w.cell? (ad.add (i.toNat * 3 + j)) = some u := hc0
  obtain rfl := k32_open hK
  exact ⟨ad, e, hc 0 _ rfl, by rw [← add_field _ _ 1 (by omega)]; exact hc 1 _ rfl, by rw [← add_field _ _ 2 (by omega)]; exact hc 2 _ rfl⟩

def rd_L3 (xs : List (List S32)) (i : Int) : (List S32) := xs.getD i.toNat ([] : List S32)
theorem at_L3 {w : World} {A : Option Addr} {n : Nat} {xs : List (List S32)} (h : Kd.C (Kd.slice 32 k32) w A n xs) (i : Int) (h0 : 0 ≤ i) (h1 : i < n) : ∃ ad A0 c0, A = some ad ∧ w.cell? (ad.add i.toNat) = some (.slice A0 (rd_L3 xs i).length c0) ∧ (rd_L3 xs i).length ≤ c0 ∧ k32.C w A0 (rd_L3 xs i).length (rd_L3 xs i) := by
  obtain ⟨ad, c, e, _, hK, hc0⟩ := Kd.C_get h ([] : List S32) i h0 h1
  have hc : ∀ j u, c[j]? = some u → w.cell? (ad.add (i.toNat * 1 + j)) = some u := hc0
  obtain ⟨A0, c0, rfl, l0, g0⟩ := hK
  exact ⟨ad, A0, c0, e, by have hq := hc 0 _ rfl; rwa [Nat.mul_one, Nat.add_zero] at hq, l0, g0⟩

def rd_L5 (xs : List (List Int)) (i : Int) : (List Int) := xs.getD i.toNat ([] : List Int)
theorem at_L5 {w : World} {A : Option Addr} {n : Nat} {xs : List (List Int)} (h : Kd.C (Kd.slice 5 (Kd.int .u8)) w A n xs) (i : Int) (h0 : 0 ≤ i) (h1 : i < n) : ∃ ad A0 c0, A = some ad ∧ w.cell? (ad.add i.toNat) = some (.slice A0 (rd_L5 xs i).length c0) ∧ (rd_L5 xs i).length ≤ c0 ∧ (Kd.int .u8).C w A0 (rd_L5 xs i).length (rd_L5 xs i) := by
  obtain ⟨ad, c, e, _, hK, hc0⟩ := Kd.C_get h ([] : List Int) i h0 h1
  have hc : ∀ j u, c[j]? = some u → w.cell? (ad.add (i.toNat * 1 + j)) = some u := hc0
  obtain ⟨A0, c0, rfl, l0, g0⟩ := hK
  exact ⟨ad, A0, c0, e, by have hq := hc 0 _ rfl; rwa [Nat.mul_one, Nat.add_zero] at hq, l0, g0⟩

/-! #### struct type 36 -/
structure S36 where
  f0 : S32
  f1 : (List S32)
  f2 : (List Int)
  f3 : Bool
  f4 : ByteArray
  f5 : Int
def z36 : S36 := ⟨z32, ([] : List S32), ([] : List Int), false, (⟨#[]⟩ : ByteArray), (0 : Int)⟩
def k36 : Kd S36 := Kd.iso (Kd.pair k32 (Kd.pair (Kd.slice 32 k32) (Kd.pair (Kd.slice 5 (Kd.int .u8)) (Kd.pair Kd.bool (Kd.pair Kd.string (Kd.int .i64)))))) (fun x : S36 => (x.f0, x.f1, x.f2, x.f3, x.f4, x.f5))
theorem k36_open {w : World} {x : S36} {cs : List Value} (h : k36.K w x cs) : ∃ A3 c3 A4 c4, cs = [.bool x.f0.f0, .string x.f0.f1, .string x.f0.f2, .slice A3 x.f1.length c3, .slice A4 x.f2.length c4, .bool x.f3, .string x.f4, .int .i64 x.f5] ∧ x.f1.length ≤ c3 ∧ k32.C w A3 x.f1.length x.f1 ∧ x.f2.length ≤ c4 ∧ (Kd.int .u8).C w A4 x.f2.length x.f2 := by
  obtain ⟨_, _, rfl, s0, ⟨_, _, rfl, ⟨A3, c3, rfl, l3, g3⟩, ⟨_, _, rfl, ⟨A4, c4, rfl, l4, g4⟩, ⟨_, _, rfl, rfl, ⟨_, _, rfl, rfl, rfl⟩⟩⟩⟩⟩ := h
  obtain rfl := k32_open s0
  exact ⟨A3, c3, A4, c4, rfl, l3, g3, l4, g4⟩
theorem k36_openM {w : World} {base : Nat} {ok : Nat → Prop} {x : S36} {cs : List Value} (h : k36.M w base ok x cs) : ∃ v3 v4, cs = [.bool x.f0.f0, .string x.f0.f1, .string x.f0.f2, v3, v4, .bool x.f3, .string x.f4, .int .i64 x.f5] ∧ k32.R 32 w base ok v3 x.f1 ∧ (Kd.int .u8).R 5 w base ok v4 x.f2 := by
  obtain ⟨_, _, rfl, s0, ⟨_, _, rfl, ⟨v3, rfl, g3⟩, ⟨_, _, rfl, ⟨v4, rfl, g4⟩, ⟨_, _, rfl, rfl, ⟨_, _, rfl, rfl, rfl⟩⟩⟩⟩⟩ := h
  obtain rfl := k32_openM s0
  exact ⟨v3, v4, rfl, g3, g4⟩
theorem k36_mk (w : World) (x : S36) {A3 : Option Addr} {c3 : Nat} (l3 : x.f1.length ≤ c3) (g3 : k32.C w A3 x.f1.length x.f1) {A4 : Option Addr} {c4 : Nat} (l4 : x.f2.length ≤ c4) (g4 : (Kd.int .u8).C w A4 x.f2.length x.f2) : k36.K w x [.bool x.f0.f0, .string x.f0.f1, .string x.f0.f2, .slice A3 x.f1.length c3, .slice A4 x.f2.length c4, .bool x.f3, .string x.f4, .int .i64 x.f5] := ⟨[.bool x.f0.f0, .string x.f0.f1, .string x.f0.f2], [.slice A3 x.f1.length c3, .slice A4 x.f2.length c4, .bool x.f3, .string x.f4, .int .i64 x.f5], rfl, (k32_mk w x.f0 ), ⟨[.slice A3 x.f1.length c3], [.slice A4 x.f2.length c4, .bool x.f3, .string x.f4, .int .i64 x.f5], rfl, ⟨A3, c3, rfl, l3, g3⟩, ⟨[.slice A4 x.f2.length c4], [.bool x.f3, .string x.f4, .int .i64 x.f5], rfl, ⟨A4, c4, rfl, l4, g4⟩, ⟨[.bool x.f3], [.string x.f4, .int .i64 x.f5], rfl, rfl, ⟨[.string x.f4], [.int .i64 x.f5], rfl, rfl, rfl⟩⟩⟩⟩⟩
theorem k36_mkM (w : World) (base : Nat) (ok : Nat → Prop) (x : S36) {v3 : Value} (g3 : k32.R 32 w base ok v3 x.f1) {v4 : Value} (g4 : (Kd.int .u8).R 5 w base ok v4 x.f2) : k36.M w base ok x [.bool x.f0.f0, .string x.f0.f1, .string x.f0.f2, v3, v4, .bool x.f3, .string x.f4, .int .i64 x.f5] := ⟨[.bool x.f0.f0, .string x.f0.f1, .string x.f0.f2], [v3, v4, .bool x.f3, .string x.f4, .int .i64 x.f5], rfl, (k32_mkM w base ok x.f0 ), ⟨[v3], [v4, .bool x.f3, .string x.f4, .int .i64 x.f5], rfl, ⟨v3, rfl, g3⟩, ⟨[v4], [.bool x.f3, .string x.f4, .int .i64 x.f5], rfl, ⟨v4, rfl, g4⟩, ⟨[.bool x.f3], [.string x.f4, .int .i64 x.f5], rfl, rfl, ⟨[.string x.f4], [.int .i64 x.f5], rfl, rfl, rfl⟩⟩⟩⟩⟩
theorem k36_openF {W : World} {ok : Nat → Prop} {x : S36} {cs : List Value} (h : Kd.FK k36 W ok x cs) : ∃ A3 c3 A4 c4, cs = [.bool x.f0.f0, .string x.f0.f1, .string x.f0.f2, .slice A3 x.f1.length c3, .slice A4 x.f2.length c4, .bool x.f3, .string x.f4, .int .i64 x.f5] ∧ x.f1.length ≤ c3 ∧ Kd.F k32 W ok A3 x.f1.length x.f1 ∧ x.f2.length ≤ c4 ∧ Kd.F (Kd.int .u8) W ok A4 x.f2.length x.f2 := by
  obtain ⟨A3, c3, A4, c4, rfl, l3, _, l4, _⟩ := k36_open (Kd.FK_now h)
  exact ⟨A3, c3, A4, c4, rfl, l3, (fun W' hW => by obtain ⟨A3_, c3_, A4_, c4_, he, l3_, g3_, l4_, g4_⟩ := k36_open (h W' hW); injection (Option.some.inj (show some (Value.slice A3 x.f1.length c3) = some (Value.slice A3_ x.f1.length c3_) from congrArg (fun l => l[3]?) he)) with ha_ _ _; rw [ha_]; exact g3_), l4, (fun W' hW => by obtain ⟨A3_, c3_, A4_, c4_, he, l3_, g3_, l4_, g4_⟩ := k36_open (h W' hW); injection (Option.some.inj (show some (Value.slice A4 x.f2.length c4) = some (Value.slice A4_ x.f2.length c4_) from congrArg (fun l => l[4]?) he)) with ha_ _ _; rw [ha_]; exact g4_)⟩
theorem k36_mkF (W : World) (ok : Nat → Prop) (x : S36) {A3 : Option Addr} {c3 : Nat} (l3 : x.f1.length ≤ c3) (g3 : Kd.F k32 W ok A3 x.f1.length x.f1) {A4 : Option Addr} {c4 : Nat} (l4 : x.f2.length ≤ c4) (g4 : Kd.F (Kd.int .u8) W ok A4 x.f2.length x.f2) : Kd.FK k36 W ok x [.bool x.f0.f0, .string x.f0.f1, .string x.f0.f2, .slice A3 x.f1.length c3, .slice A4 x.f2.length c4, .bool x.f3, .string x.f4, .int .i64 x.f5] := fun W2 hW => k36_mk W2 x l3 (g3 W2 hW) l4 (g4 W2 hW)
def rd_T36 (xs : List S36) (i : Int) : S36 := xs.getD i.toNat z36
theorem at_T36 {w : World} {A : Option Addr} {n : Nat} {xs : List S36} (h : Kd.C k36 w A n xs) (i : Int) (h0 : 0 ≤ i) (h1 : i < n) : ∃ ad A3 c3 A4 c4, A = some ad ∧ w.cell? (ad.add (i.toNat * 8)) = some (.bool (rd_T36 xs i).f0.f0) ∧ w.cell? ⟨(ad.add (i.toNat * 8)).block, (ad.add (i.toNat * 8)).off + 1, none⟩ = some (.string (rd_T36 xs i).f0.f1) ∧ w.cell? ⟨(ad.add (i.toNat * 8)).block, (ad.add (i.toNat * 8)).off + 2, none⟩ = some (.string (rd_T36 xs i).f0.f2) ∧ w.cell? ⟨(ad.add (i.toNat * 8)).block, (ad.add (i.toNat * 8)).off + 3, none⟩ = some (.slice A3 (rd_T36 xs i).f1.length c3) ∧ w.cell? ⟨(ad.add (i.toNat * 8)).block, (ad.add (i.toNat * 8)).off + 4, none⟩ = some (.slice A4 (rd_T36 xs i).f2.length c4) ∧ w.cell? ⟨(ad.add (i.toNat * 8)).block, (ad.add (i.toNat * 8)).off + 5, none⟩ = some (.bool (rd_T36 xs i).f3) ∧ w.cell? ⟨(ad.add (i.toNat * 8)).block, (ad.add (i.toNat * 8)).off + 6, none⟩ = some (.string (rd_T36 xs i).f4) ∧ w.cell? ⟨(ad.add (i.toNat * 8)).block, (ad.add (i.toNat * 8)).off + 7, none⟩ = some (.int .i64 (rd_T36 xs i).f5) ∧ (rd_T36 xs i).f1.length ≤ c3 ∧ k32.C w A3 (rd_T36 xs i).f1.length (rd_T36 xs i).f1 ∧ (rd_T36 xs i).f2.length ≤ c4 ∧ (Kd.int .u8).C w A4 (rd_T36 xs i).f2.length (rd_T36 xs i).f2 := by
  obtain ⟨ad, c, e, _, hK, hc0⟩ := Kd.C_get h z36 i h0 h1
  have hc : ∀ j u, c[j]? = some u → w.cell? (ad.add (i.toNat * 8 + j)) = some u := hc0
  obtain ⟨A3, c3, A4, c4, rfl, l3, g3, l4, g4⟩ := k36_open hK
  exact ⟨ad, A3, c3, A4, c4, e, hc 0 _ rfl, by rw [← add_field _ _ 1 (by omega)]; exact hc 1 _ rfl, by rw [← add_field _ _ 2 (by omega)]; exact hc 2 _ rfl, by rw [← add_field _ _ 3 (by omega)]; exact hc 3 _ rfl, by rw [← add_field _ _ 4 (by omega)]; exact hc 4 _ rfl, by rw [← add_field _ _ 5 (by omega)]; exact hc 5 _ rfl, by rw [← add_field _ _ 6 (by omega)]; exact hc 6 _ rfl, by rw [← add_field _ _ 7 (by omega)]; exact hc 7 _ rfl, l3, g3, l4, g4⟩

def rd_L8 (xs : List (List Int)) (i : Int) : (List Int) := xs.getD i.toNat ([] : List Int)
theorem at_L8 {w : World} {A : Option Addr} {n : Nat} {xs : List (List Int)} (h : Kd.C (Kd.slice 3 (Kd.int .i64)) w A n xs) (i : Int) (h0 : 0 ≤ i) (h1 : i < n) : ∃ ad A0 c0, A = some ad ∧ w.cell? (ad.add i.toNat) = some (.slice A0 (rd_L8 xs i).length c0) ∧ (rd_L8 xs i).length ≤ c0 ∧ (Kd.int .i64).C w A0 (rd_L8 xs i).length (rd_L8 xs i) := by
  obtain ⟨ad, c, e, _, hK, hc0⟩ := Kd.C_get h ([] : List Int) i h0 h1
  have hc : ∀ j u, c[j]? = some u → w.cell? (ad.add (i.toNat * 1 + j)) = some u := hc0
  obtain ⟨A0, c0, rfl, l0, g0⟩ := hK
  exact ⟨ad, A0, c0, e, by have hq := hc 0 _ rfl; rwa [Nat.mul_one, Nat.add_zero] at hq, l0, g0⟩

/-! #### struct type 39 -/
structure S39 where
  f0 : Int
  f1 : S36
  f2 : Int
  f3 : (List Int)
  f4 : Int
  f5 : Int
  f6 : Int
  f7 : (List Int)
def z39 : S39 := ⟨(0 : Int), z36, (0 : Int), ([] : List Int), (0 : Int), (0 : Int), (0 : Int), ([] : List Int)⟩
def k39 : Kd S39 := Kd.iso (Kd.pair (Kd.int .i64) (Kd.pair k36 (Kd.pair (Kd.int .i64) (Kd.pair (Kd.slice 3 (Kd.int .i64)) (Kd.pair (Kd.int .i64) (Kd.pair (Kd.int .i64) (Kd.pair (Kd.int .i64) (Kd.slice 5 (Kd.int .u8))))))))) (fun x : S39 => (x.f0, x.f1, x.f2, x.f3, x.f4, x.f5, x.f6, x.f7))
theorem k39_open {w : World} {x : S39} {cs : List Value} (h : k39.K w x cs) : ∃ A4 c4 A5 c5 A10 c10 A14 c14, cs = [.int .i64 x.f0, .bool x.f1.f0.f0, .string x.f1.f0.f1, .string x.f1.f0.f2, .slice A4 x.f1.f1.length c4, .slice A5 x.f1.f2.length c5, .bool x.f1.f3, .string x.f1.f4, .int .i64 x.f1.f5, .int .i64 x.f2, .slice A10 x.f3.length c10, .int .i64 x.f4, .int .i64 x.f5, .int .i64 x.f6, .slice A14 x.f7.length c14] ∧ x.f1.f1.length ≤ c4 ∧ k32.C w A4 x.f1.f1.length x.f1.f1 ∧ x.f1.f2.length ≤ c5 ∧ (Kd.int .u8).C w A5 x.f1.f2.length x.f1.f2 ∧ x.f3.length ≤ c10 ∧ (Kd.int .i64).C w A10 x.f3.length x.f3 ∧ x.f7.length ≤ c14 ∧ (Kd.int .u8).C w A14 x.f7.length x.f7 := by
  obtain ⟨_, _, rfl, rfl, ⟨_, _, rfl, s1, ⟨_, _, rfl, rfl, ⟨_, _, rfl, ⟨A10, c10, rfl, l10, g10⟩, ⟨_, _, rfl, rfl, ⟨_, _, rfl, rfl, ⟨_, _, rfl, rfl, ⟨A14, c14, rfl, l14, g14⟩⟩⟩⟩⟩⟩⟩⟩ := h
  obtain ⟨A4, c4, A5, c5, rfl, l4, g4, l5, g5⟩ := k36_open s1
  exact ⟨A4, c4, A5, c5, A10, c10, A14, c14, rfl, l4, g4, l5, g5, l10, g10, l14, g14⟩
theorem k39_openM {w : World} {base : Nat} {ok : Nat → Prop} {x : S39} {cs : List Value} (h : k39.M w base ok x cs) : ∃ v4 v5 v10 v14, cs = [.int .i64 x.f0, .bool x.f1.f0.f0, .string x.f1.f0.f1, .string x.f1.f0.f2, v4, v5, .bool x.f1.f3, .string x.f1.f4, .int .i64 x.f1.f5, .int .i64 x.f2, v10, .int .i64 x.f4, .int .i64 x.f5, .int .i64 x.f6, v14] ∧ k32.R 32 w base ok v4 x.f1.f1 ∧ (Kd.int .u8).R 5 w base ok v5 x.f1.f2 ∧ (Kd.int .i64).R 3 w base ok v10 x.f3 ∧ (Kd.int .u8).R 5 w base ok v14 x.f7 := by
  obtain ⟨_, _, rfl, rfl, ⟨_, _, rfl, s1, ⟨_, _, rfl, rfl, ⟨_, _, rfl, ⟨v10, rfl, g10⟩, ⟨_, _, rfl, rfl, ⟨_, _, rfl, rfl, ⟨_, _, rfl, rfl, ⟨v14, rfl, g14⟩⟩⟩⟩⟩⟩⟩⟩ := h
  obtain ⟨v4, v5, rfl, g4, g5⟩ := k36_openM s1
  exact ⟨v4, v5, v10, v14, rfl, g4, g5, g10, g14⟩
theorem k39_mk (w : World) (x : S39) {A4 : Option Addr} {c4 : Nat} (l4 : x.f1.f1.length ≤ c4) (g4 : k32.C w A4 x.f1.f1.length x.f1.f1) {A5 : Option Addr} {c5 : Nat} (l5 : x.f1.f2.length ≤ c5) (g5 : (Kd.int .u8).C w A5 x.f1.f2.length x.f1.f2) {A10 : Option Addr} {c10 : Nat} (l10 : x.f3.length ≤ c10) (g10 : (Kd.int .i64).C w A10 x.f3.length x.f3) {A14 : Option Addr} {c14 : Nat} (l14 : x.f7.length ≤ c14) (g14 : (Kd.int .u8).C w A14 x.f7.length x.f7) : k39.K w x [.int .i64 x.f0, .bool x.f1.f0.f0, .string x.f1.f0.f1, .string x.f1.f0.f2, .slice A4 x.f1.f1.length c4, .slice A5 x.f1.f2.length c5, .bool x.f1.f3, .string x.f1.f4, .int .i64 x.f1.f5, .int .i64 x.f2, .slice A10 x.f3.length c10, .int .i64 x.f4, .int .i64 x.f5, .int .i64 x.f6, .slice A14 x.f7.length c14] := ⟨[.int .i64 x.f0], [.bool x.f1.f0.f0, .string x.f1.f0.f1, .string x.f1.f0.f2, .slice A4 x.f1.f1.length c4, .slice A5 x.f1.f2.length c5, .bool x.f1.f3, .string x.f1.f4, .int .i64 x.f1.f5, .int .i64 x.f2, .slice A10 x.f3.length c10, .int .i64 x.f4, .int .i64 x.f5, .int .i64 x.f6, .slice A14 x.f7.length c14], rfl, rfl, ⟨[.bool x.f1.f0.f0, .string x.f1.f0.f1, .string x.f1.f0.f2, .slice A4 x.f1.f1.length c4, .slice A5 x.f1.f2.length c5, .bool x.f1.f3, .string x.f1.f4, .int .i64 x.f1.f5], [.int .i64 x.f2, .slice A10 x.f3.length c10, .int .i64 x.f4, .int .i64 x.f5, .int .i64 x.f6, .slice A14 x.f7.length c14], rfl, (k36_mk w x.f1 l4 g4 l5 g5), ⟨[.int .i64 x.f2], [.slice A10 x.f3.length c10, .int .i64 x.f4, .int .i64 x.f5, .int .i64 x.f6, .slice A14 x.f7.length c14], rfl, rfl, ⟨[.slice A10 x.f3.length c10], [.int .i64 x.f4, .int .i64 x.f5, .int .i64 x.f6, .slice A14 x.f7.length c14], rfl, ⟨A10, c10, rfl, l10, g10⟩, ⟨[.int .i64 x.f4], [.int .i64 x.f5, .int .i64 x.f6, .slice A14 x.f7.length c14], rfl, rfl, ⟨[.int .i64 x.f5], [.int .i64 x.f6, .slice A14 x.f7.length c14], rfl, rfl, ⟨[.int .i64 x.f6], [.slice A14 x.f7.length c14], rfl, rfl, ⟨A14, c14, rfl, l14, g14⟩⟩⟩⟩⟩⟩⟩⟩
theorem k39_mkM (w : World) (base : Nat) (ok : Nat → Prop) (x : S39) {v4 : Value} (g4 : k32.R 32 w base ok v4 x.f1.f1) {v5 : Value} (g5 : (Kd.int .u8).R 5 w base ok v5 x.f1.f2) {v10 : Value} (g10 : (Kd.int .i64).R 3 w base ok v10 x.f3) {v14 : Value} (g14 : (Kd.int .u8).R 5 w base ok v14 x.f7) : k39.M w base ok x [.int .i64 x.f0, .bool x.f1.f0.f0, .string x.f1.f0.f1, .string x.f1.f0.f2, v4, v5, .bool x.f1.f3, .string x.f1.f4, .int .i64 x.f1.f5, .int .i64 x.f2, v10, .int .i64 x.f4, .int .i64 x.f5, .int .i64 x.f6, v14] := ⟨[.int .i64 x.f0], [.bool x.f1.f0.f0, .string x.f1.f0.f1, .string x.f1.f0.f2, v4, v5, .bool x.f1.f3, .string x.f1.f4, .int .i64 x.f1.f5, .int .i64 x.f2, v10, .int .i64 x.f4, .int .i64 x.f5, .int .i64 x.f6, v14], rfl, rfl, ⟨[.bool x.f1.f0.f0, .string x.f1.f0.f1, .string x.f1.f0.f2, v4, v5, .bool x.f1.f3, .string x.f1.f4, .int .i64 x.f1.f5], [.int .i64 x.f2, v10, .int .i64 x.f4, .int .i64 x.f5, .int .i64 x.f6, v14], rfl, (k36_mkM w base ok x.f1 g4 g5), ⟨[.int .i64 x.f2], [v10, .int .i64 x.f4, .int .i64 x.f5, .int .i64 x.f6, v14], rfl, rfl, ⟨[v10], [.int .i64 x.f4, .int .i64 x.f5, .int .i64 x.f6, v14], rfl, ⟨v10, rfl, g10⟩, ⟨[.int .i64 x.f4], [.int .i64 x.f5, .int .i64 x.f6, v14], rfl, rfl, ⟨[.int .i64 x.f5], [.int .i64 x.f6, v14], rfl, rfl, ⟨[.int .i64 x.f6], [v14], rfl, rfl, ⟨v14, rfl, g14⟩⟩⟩⟩⟩⟩⟩⟩
theorem k39_openF {W : World} {ok : Nat → Prop} {x : S39} {cs : List Value} (h : Kd.FK k39 W ok x cs) : ∃ A4 c4 A5 c5 A10 c10 A14 c14, cs = [.int .i64 x.f0, .bool x.f1.f0.f0, .string x.f1.f0.f1, .string x.f1.f0.f2, .slice A4 x.f1.f1.length c4, .slice A5 x.f1.f2.length c5, .bool x.f1.f3, .string x.f1.f4, .int .i64 x.f1.f5, .int .i64 x.f2, .slice A10 x.f3.length c10, .int .i64 x.f4, .int .i64 x.f5, .int .i64 x.f6, .slice A14 x.f7.length c14] ∧ x.f1.f1.length ≤ c4 ∧ Kd.F k32 W ok A4 x.f1.f1.length x.f1.f1 ∧ x.f1.f2.length ≤ c5 ∧ Kd.F (Kd.int .u8) W ok A5 x.f1.f2.length x.f1.f2 ∧ x.f3.length ≤ c10 ∧ Kd.F (Kd.int .i64) W ok A10 x.f3.length x.f3 ∧ x.f7.length ≤ c14 ∧ Kd.F (Kd.int .u8) W ok A14 x.f7.length x.f7 := by
  obtain ⟨A4, c4, A5, c5, A10, c10, A14, c14, rfl, l4, _, l5, _, l10, _, l14, _⟩ := k39_open (Kd.FK_now h)
  exact ⟨A4, c4, A5, c5, A10, c10, A14, c14, rfl, l4, (fun W' hW => by obtain ⟨A4_, c4_, A5_, c5_, A10_, c10_, A14_, c14_, he, l4_, g4_, l5_, g5_, l10_, g10_, l14_, g14_⟩ := k39_open (h W' hW); injection (Option.some.inj (show some (Value.slice A4 x.f1.f1.length c4) = some (Value.slice A4_ x.f1.f1.length c4_) from congrArg (fun l => l[4]?) he)) with ha_ _ _; rw [ha_]; exact g4_), l5, (fun W' hW => by obtain ⟨A4_, c4_, A5_, c5_, A10_, c10_, A14_, c14_, he, l4_, g4_, l5_, g5_, l10_, g10_, l14_, g14_⟩ := k39_open (h W' hW); injection (Option.some.inj (show some (Value.slice A5 x.f1.f2.length c5) = some (Value.slice A5_ x.f1.f2.length c5_) from congrArg (fun l => l[5]?) he)) with ha_ _ _; rw [ha_]; exact g5_), l10, (fun W' hW => by obtain ⟨A4_, c4_, A5_, c5_, A10_, c10_, A14_, c14_, he, l4_, g4_, l5_, g5_, l10_, g10_, l14_, g14_⟩ := k39_open (h W' hW); injection (Option.some.inj (show some (Value.slice A10 x.f3.length c10) = some (Value.slice A10_ x.f3.length c10_) from congrArg (fun l => l[10]?) he)) with ha_ _ _; rw [ha_]; exact g10_), l14, (fun W' hW => by obtain ⟨A4_, c4_, A5_, c5_, A10_, c10_, A14_, c14_, he, l4_, g4_, l5_, g5_, l10_, g10_, l14_, g14_⟩ := k39_open (h W' hW); injection (Option.some.inj (show some (Value.slice A14 x.f7.length c14) = some (Value.slice A14_ x.f7.length c14_) from congrArg (fun l => l[14]?) he)) with ha_ _ _; rw [ha_]; exact g14_)⟩
theorem k39_mkF (W : World) (ok : Nat → Prop) (x : S39) {A4 : Option Addr} {c4 : Nat} (l4 : x.f1.f1.length ≤ c4) (g4 : Kd.F k32 W ok A4 x.f1.f1.length x.f1.f1) {A5 : Option Addr} {c5 : Nat} (l5 : x.f1.f2.length ≤ c5) (g5 : Kd.F (Kd.int .u8) W ok A5 x.f1.f2.length x.f1.f2) {A10 : Option Addr} {c10 : Nat} (l10 : x.f3.length ≤ c10) (g10 : Kd.F (Kd.int .i64) W ok A10 x.f3.length x.f3) {A14 : Option Addr} {c14 : Nat} (l14 : x.f7.length ≤ c14) (g14 : Kd.F (Kd.int .u8) W ok A14 x.f7.length x.f7) : Kd.FK k39 W ok x [.int .i64 x.f0, .bool x.f1.f0.f0, .string x.f1.f0.f1, .string x.f1.f0.f2, .slice A4 x.f1.f1.length c4, .slice A5 x.f1.f2.length c5, .bool x.f1.f3, .string x.f1.f4, .int .i64 x.f1.f5, .int .i64 x.f2, .slice A10 x.f3.length c10, .int .i64 x.f4, .int .i64 x.f5, .int .i64 x.f6, .slice A14 x.f7.length c14] := fun W2 hW => k39_mk W2 x l4 (g4 W2 hW) l5 (g5 W2 hW) l10 (g10 W2 hW) l14 (g14 W2 hW)
def rd_T39 (xs : List S39) (i : Int) : S39 := xs.getD i.toNat z39
theorem at_T39 {w : World} {A : Option Addr} {n : Nat} {xs : List S39} (h : Kd.C k39 w A n xs) (i : Int) (h0 : 0 ≤ i) (h1 : i < n) : ∃ ad A4 c4 A5 c5 A10 c10 A14 c14, A = some ad ∧ w.cell? (ad.add (i.toNat * 15)) = some (.int .i64 (rd_T39 xs i).f0) ∧ w.cell? ⟨(ad.add (i.toNat * 15)).block, (ad.add (i.toNat * 15)).off + 1, none⟩ = some (.bool (rd_T39 xs i).f1.f0.f0) ∧ w.cell? ⟨(ad.add (i.toNat * 15)).block, (ad.add (i.toNat * 15)).off + 2, none⟩ = some (.string (rd_T39 xs i).f1.f0.f1) ∧ w.cell? ⟨(ad.add (i.toNat * 15)).block, (ad.add (i.toNat * 15)).off + 3, none⟩ = some (.string (rd_T39 xs i).f1.f0.f2) ∧ w.cell? ⟨(ad.add (i.toNat * 15)).block, (ad.add (i.toNat * 15)).off + 4, none⟩ = some (.slice A4 (rd_T39 xs i).f1.f1.length c4) ∧ w.cell? ⟨(ad.add (i.toNat * 15)).block, (ad.add (i.toNat * 15)).off + 5, none⟩ = some (.slice A5 (rd_T39 xs i).f1.f2.length c5) ∧ w.cell? ⟨(ad.add (i.toNat * 15)).block, (ad.add (i.toNat * 15)).off + 6, none⟩ = some (.bool (rd_T39 xs i).f1.f3) ∧ w.cell? ⟨(ad.add (i.toNat * 15)).block, (ad.add (i.toNat * 15)).off + 7, none⟩ = some (.string (rd_T39 xs i).f1.f4) ∧ w.cell? ⟨(ad.add (i.toNat * 15)).block, (ad.add (i.toNat * 15)).off + 8, none⟩ = some (.int .i64 (rd_T39 xs i).f1.f5) ∧ w.cell? ⟨(ad.add (i.toNat * 15)).block, (ad.add (i.toNat * 15)).off + 9, none⟩ = some (.int .i64 (rd_T39 xs i).f2) ∧ w.cell? ⟨(ad.add (i.toNat * 15)).block, (ad.add (i.toNat * 15)).off + 10, none⟩ = some (.slice A10 (rd_T39 xs i).f3.length c10) ∧ w.cell? ⟨(ad.add (i.toNat * 15)).block, (ad.add (i.toNat * 15)).off + 11, none⟩ = some (.int .i64 (rd_T39 xs i).f4) ∧ w.cell? ⟨(ad.add (i.toNat * 15)).block, (ad.add (i.toNat * 15)).off + 12, none⟩ = some (.int .i64 (rd_T39 xs i).f5) ∧ w.cell? ⟨(ad.add (i.toNat * 15)).block, (ad.add (i.toNat * 15)).off + 13, none⟩ = some (.int .i64 (rd_T39 xs i).f6) ∧ w.cell? ⟨(ad.add (i.toNat * 15)).block, (ad.add (i.toNat * 15)).off + 14, none⟩ = some (.slice A14 (rd_T39 xs i).f7.length c14) ∧ (rd_T39 xs i).f1.f1.length ≤ c4 ∧ k32.C w A4 (rd_T39 xs i).f1.f1.length (rd_T39 xs i).f1.f1 ∧ (rd_T39 xs i).f1.f2.length ≤ c5 ∧ (Kd.int .u8).C w A5 (rd_T39 xs i).f1.f2.length (rd_T39 xs i).f1.f2 ∧ (rd_T39 xs i).f3.length ≤ c10 ∧ (Kd.int .i64).C w A10 (rd_T39 xs i).f3.length (rd_T39 xs i).f3 ∧ (rd_T39 xs i).f7.length ≤ c14 ∧ (Kd.int .u8).C w A14 (rd_T39 xs i).f7.length (rd_T39 xs i).f7 := by
  obtain ⟨ad, c, e, _, hK, hc0⟩ := Kd.C_get h z39 i h0 h1
  have hc : ∀ j u, c[j]? = some u → w.cell? (ad.add (i.toNat * 15 + j)) = some u := hc0
  obtain ⟨A4, c4, A5, c5, A10, c10, A14, c14, rfl, l4, g4, l5, g5, l10, g10, l14, g14⟩ := k39_open hK
  exact ⟨ad, A4, c4, A5, c5, A10, c10, A14, c14, e, hc 0 _ rfl, by rw [← add_field _ _ 1 (by omega)]; exact hc 1 _ rfl, by rw [← add_field _ _ 2 (by omega)]; exact hc 2 _ rfl, by rw [← add_field _ _ 3 (by omega)]; exact hc 3 _ rfl, by rw [← add_field _ _ 4 (by omega)]; exact hc 4 _ rfl, by rw [← add_field _ _ 5 (by omega)]; exact hc 5 _ rfl, by rw [← add_field _ _ 6 (by omega)]; exact hc 6 _ rfl, by rw [← add_field _ _ 7 (by omega)]; exact hc 7 _ rfl, by rw [← add_field _ _ 8 (by omega)]; exact hc 8 _ rfl, by rw [← add_field _ _ 9 (by omega)]; exact hc 9 _ rfl, by rw [← add_field _ _ 10 (by omega)]; exact hc 10 _ rfl, by rw [← add_field _ _ 11 (by omega)]; exact hc 11 _ rfl, by rw [← add_field _ _ 12 (by omega)]; exact hc 12 _ rfl, by rw [← add_field _ _ 13 (by omega)]; exact hc 13 _ rfl, by rw [← add_field _ _ 14 (by omega)]; exact hc 14 _ rfl, l4, g4, l5, g5, l10, g10, l14, g14⟩

end Go.Proofs.Ytbkfdejcmimhgaa.PDiaryExact
