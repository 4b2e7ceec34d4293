/- Two diaries that tell the same: the law's 'same'. -/
import Derived.Test.YtbkfdejcmimhgaaProg
import Derived.WalkKit
import Derived.WalkLawsBesides
import Derived.Outline
import Derived.LoopTactic
import Derived.Lib.Hide
import Derived.Deep.QuietTactic
import Derived.BigQuiet
import Derived.Deep.LoopGhost
import Derived.Deep.DeepCutAuto
import Derived.Deep.CutBlock
import Derived.Deep.RegionHeld3
import Derived.Deep.RegionWith
import Derived.Deep.WholeRow
import Derived.Laws.Rows
import Derived.Laws.Tables
import Derived.Laws.ResultCell
import Derived.StillTailTactics
import Derived.Deep.DeepMust
import Derived.IntWalk
import Derived.KernelRfl
import Derived.Test.YtbkfdejcmimhgaaVa
import Derived.RegionTactic
import Derived.Test.YtbkfdejcmimhgaaEd
import Derived.Test.YtbkfdejcmimhgaaSame
namespace Go.Proofs.Ytbkfdejcmimhgaa
open Go.RowKit Go.Proofs.YtbkfdejcmimhgaaW.PrintWords Go.Proofs.YtbkfdejcmimhgaaW.PrintMore Go.Proofs.Ytbkfdejcmimhgaa.PDiaryExact
set_option linter.unusedVariables false
set_option linter.unusedSimpArgs false
def SmG (g h : Nat) (off : Bool) (life safe us kept er : Int) (n m : Nat) (Ar A5 A7 : Option Addr) (cr c5 c7 : Nat) : Nat → Value → Prop
  | 0, v | 8, v | 17, v | 27, v | 36, v | 43, v => v = (.pointer (some ⟨g, 0, none⟩))
  | 1, v | 5, v => v = (.bool off)
  | 2, v | 3, v | 10, v | 11, v | 19, v | 20, v | 29, v | 30, v | 38, v | 45, v | 46, v => v = (.pointer (some ⟨h, 0, none⟩))
  | 4, v => v = (.pointer (some ⟨h, 3, none⟩))
  | 6, v | 7, v | 14, v | 15, v | 16, v | 24, v | 25, v | 26, v | 33, v | 34, v | 35, v | 40, v | 41, v | 42, v | 49, v | 50, v | 51, v | 54, v | 55, v | 56, v | 59, v | 60, v | 61, v => v = (.bool true)
  | 9, v | 13, v => v = (.int .i64 life)
  | 12, v => v = (.pointer (some ⟨h, 4, none⟩))
  | 18, v | 23, v => v = (.int .i64 n)
  | 21, v => v = (.pointer (some ⟨h, 1, none⟩))
  | 22, v => v = (.slice Ar n cr)
  | 28, v | 32, v => v = (.int .i64 safe)
  | 31, v => v = (.pointer (some ⟨h, 2, none⟩))
  | 37, v | 39, v => v = (.int .i64 us)
  | 44, v | 48, v => v = (.int .i64 kept)
  | 47, v => v = (.pointer (some ⟨h, 7, none⟩))
  | 52, v | 53, v => v = (.int .i64 er)
  | 57, v => v = (.slice A5 m c5)
  | 58, v => v = (.slice A7 m c7)
  | _, _ => True
def SmF (g h : Nat) (off : Bool) (life safe us kept er : Int) (n m : Nat) (Ar A5 A7 : Option Addr) (cr c5 c7 : Nat) (i : Nat) (v : Value) (_ : World) : Prop := SmG g h off life safe us kept er n m Ar A5 A7 cr c5 c7 i v
theorem SmF.stab (g h : Nat) (off : Bool) (life safe us kept er : Int) (n m : Nat) (Ar A5 A7 : Option Addr) (cr c5 c7 : Nat) : ∀ i v w1 w2, SmF g h off life safe us kept er n m Ar A5 A7 cr c5 c7 i v w1 → Below w1.heap.size w1 w2 → SmF g h off life safe us kept er n m Ar A5 A7 cr c5 c7 i v w2 := fun i v w1 w2 h _ => h
set_option maxRecDepth 100000 in
abbrev ops36 : Array Oper := #[{ dst := some 19, op := Go.Op.move (Go.Operand.tmp 0), type := 24, pos := "law.go:49", after := #[], guard := none }, { dst := some 20, op := Go.Op.call { callee := Go.Callee.value (Go.Operand.func 24), args := #[Go.Operand.tmp 19], argTypes := #[24] }, type := 4, pos := "law.go:49", after := #[{ on := 0, ground := Go.Ground.data }], guard := none }, { dst := some 21, op := Go.Op.move (Go.Operand.tmp 1), type := 55, pos := "law.go:49", after := #[], guard := none }, { dst := some 22, op := Go.Op.nilCheck (Go.Operand.tmp 21), type := 0, pos := "law.go:49", after := #[{ on := 2, ground := Go.Ground.data }], guard := none }, { dst := some 23, op := Go.Op.fieldAddr 72 (Go.Operand.tmp 22) 3, type := 0, pos := "law.go:49", after := #[{ on := 3, ground := Go.Ground.data }], guard := none }, { dst := some 24, op := Go.Op.load 4 (Go.Operand.tmp 23), type := 4, pos := "law.go:49", after := #[{ on := 4, ground := Go.Ground.data }], guard := none }, { dst := some 25, op := Go.Op.binOp Go.BinOp.eql 4 (Go.Operand.tmp 20) (Go.Operand.tmp 24) 4, type := 4, pos := "law.go:49", after := #[{ on := 1, ground := Go.Ground.data }, { on := 5, ground := Go.Ground.data }], guard := none }, { dst := some 26, op := Go.Op.move (Go.Operand.tmp 25), type := 4, pos := "law.go:49", after := #[{ on := 6, ground := Go.Ground.data }, { on := 1, ground := Go.Ground.chain }], guard := none }, { dst := some 27, op := Go.Op.move (Go.Operand.tmp 0), type := 24, pos := "law.go:49", after := #[{ on := 7, ground := Go.Ground.guard }], guard := some (7, true) }, { dst := some 28, op := Go.Op.call { callee := Go.Callee.value (Go.Operand.func 18), args := #[Go.Operand.tmp 27], argTypes := #[24] }, type := 3, pos := "law.go:49", after := #[{ on := 8, ground := Go.Ground.data }, { on := 7, ground := Go.Ground.chain }, { on := 7, ground := Go.Ground.guard }], guard := some (7, true) }, { dst := some 29, op := Go.Op.move (Go.Operand.tmp 1), type := 55, pos := "law.go:49", after := #[{ on := 7, ground := Go.Ground.guard }], guard := some (7, true) }, { dst := some 30, op := Go.Op.nilCheck (Go.Operand.tmp 29), type := 0, pos := "law.go:49", after := #[{ on := 10, ground := Go.Ground.data }, { on := 7, ground := Go.Ground.guard }], guard := some (7, true) }, { dst := some 31, op := Go.Op.fieldAddr 72 (Go.Operand.tmp 30) 4, type := 0, pos := "law.go:49", after := #[{ on := 11, ground := Go.Ground.data }, { on := 7, ground := Go.Ground.guard }], guard := some (7, true) }, { dst := some 32, op := Go.Op.load 3 (Go.Operand.tmp 31), type := 3, pos := "law.go:49", after := #[{ on := 12, ground := Go.Ground.data }, { on := 7, ground := Go.Ground.guard }], guard := some (7, true) }, { dst := some 33, op := Go.Op.binOp Go.BinOp.eql 3 (Go.Operand.tmp 28) (Go.Operand.tmp 32) 3, type := 4, pos := "law.go:49", after := #[{ on := 9, ground := Go.Ground.data }, { on := 13, ground := Go.Ground.data }, { on := 7, ground := Go.Ground.guard }], guard := some (7, true) }, { dst := some 34, op := Go.Op.pick (Go.Operand.tmp 26) (Go.Operand.tmp 33) (Go.Operand.const (Go.Value.bool false)), type := 4, pos := "law.go:49", after := #[{ on := 7, ground := Go.Ground.data }, { on := 14, ground := Go.Ground.data }], guard := none }, { dst := some 35, op := Go.Op.move (Go.Operand.tmp 34), type := 4, pos := "law.go:49", after := #[{ on := 15, ground := Go.Ground.data }, { on := 9, ground := Go.Ground.chain }], guard := none }, { dst := some 36, op := Go.Op.move (Go.Operand.tmp 0), type := 24, pos := "law.go:49", after := #[{ on := 16, ground := Go.Ground.guard }], guard := some (16, true) }, { dst := some 37, op := Go.Op.call { callee := Go.Callee.value (Go.Operand.func 23), args := #[Go.Operand.tmp 36], argTypes := #[24] }, type := 3, pos := "law.go:49", after := #[{ on := 17, ground := Go.Ground.data }, { on := 16, ground := Go.Ground.chain }, { on := 16, ground := Go.Ground.guard }], guard := some (16, true) }, { dst := some 38, op := Go.Op.move (Go.Operand.tmp 1), type := 55, pos := "law.go:49", after := #[{ on := 16, ground := Go.Ground.guard }], guard := some (16, true) }, { dst := some 39, op := Go.Op.nilCheck (Go.Operand.tmp 38), type := 0, pos := "law.go:49", after := #[{ on := 19, ground := Go.Ground.data }, { on := 16, ground := Go.Ground.guard }], guard := some (16, true) }, { dst := some 40, op := Go.Op.fieldAddr 72 (Go.Operand.tmp 39) 1, type := 0, pos := "law.go:49", after := #[{ on := 20, ground := Go.Ground.data }, { on := 16, ground := Go.Ground.guard }], guard := some (16, true) }, { dst := some 41, op := Go.Op.load 22 (Go.Operand.tmp 40), type := 22, pos := "law.go:49", after := #[{ on := 21, ground := Go.Ground.data }, { on := 16, ground := Go.Ground.guard }], guard := some (16, true) }, { dst := some 42, op := Go.Op.call { callee := Go.Callee.builtin Go.Builtin.len, args := #[Go.Operand.tmp 41], argTypes := #[22] }, type := 3, pos := "law.go:49", after := #[{ on := 22, ground := Go.Ground.data }, { on := 16, ground := Go.Ground.guard }], guard := some (16, true) }, { dst := some 43, op := Go.Op.binOp Go.BinOp.eql 3 (Go.Operand.tmp 37) (Go.Operand.tmp 42) 3, type := 4, pos := "law.go:49", after := #[{ on := 18, ground := Go.Ground.data }, { on := 23, ground := Go.Ground.data }, { on := 16, ground := Go.Ground.guard }], guard := some (16, true) }, { dst := some 44, op := Go.Op.pick (Go.Operand.tmp 35) (Go.Operand.tmp 43) (Go.Operand.const (Go.Value.bool false)), type := 4, pos := "law.go:49", after := #[{ on := 16, ground := Go.Ground.data }, { on := 24, ground := Go.Ground.data }], guard := none }, { dst := some 45, op := Go.Op.move (Go.Operand.tmp 44), type := 4, pos := "law.go:49", after := #[{ on := 25, ground := Go.Ground.data }, { on := 18, ground := Go.Ground.chain }], guard := none }, { dst := some 46, op := Go.Op.move (Go.Operand.tmp 0), type := 24, pos := "law.go:49", after := #[{ on := 26, ground := Go.Ground.guard }], guard := some (26, true) }, { dst := some 47, op := Go.Op.call { callee := Go.Callee.value (Go.Operand.func 25), args := #[Go.Operand.tmp 46], argTypes := #[24] }, type := 3, pos := "law.go:49", after := #[{ on := 27, ground := Go.Ground.data }, { on := 26, ground := Go.Ground.chain }, { on := 26, ground := Go.Ground.guard }], guard := some (26, true) }, { dst := some 48, op := Go.Op.move (Go.Operand.tmp 1), type := 55, pos := "law.go:49", after := #[{ on := 26, ground := Go.Ground.guard }], guard := some (26, true) }, { dst := some 49, op := Go.Op.nilCheck (Go.Operand.tmp 48), type := 0, pos := "law.go:49", after := #[{ on := 29, ground := Go.Ground.data }, { on := 26, ground := Go.Ground.guard }], guard := some (26, true) }, { dst := some 50, op := Go.Op.fieldAddr 72 (Go.Operand.tmp 49) 2, type := 0, pos := "law.go:49", after := #[{ on := 30, ground := Go.Ground.data }, { on := 26, ground := Go.Ground.guard }], guard := some (26, true) }, { dst := some 51, op := Go.Op.load 3 (Go.Operand.tmp 50), type := 3, pos := "law.go:49", after := #[{ on := 31, ground := Go.Ground.data }, { on := 26, ground := Go.Ground.guard }], guard := some (26, true) }, { dst := some 52, op := Go.Op.binOp Go.BinOp.eql 3 (Go.Operand.tmp 47) (Go.Operand.tmp 51) 3, type := 4, pos := "law.go:49", after := #[{ on := 28, ground := Go.Ground.data }, { on := 32, ground := Go.Ground.data }, { on := 26, ground := Go.Ground.guard }], guard := some (26, true) }, { dst := some 53, op := Go.Op.pick (Go.Operand.tmp 45) (Go.Operand.tmp 52) (Go.Operand.const (Go.Value.bool false)), type := 4, pos := "law.go:49", after := #[{ on := 26, ground := Go.Ground.data }, { on := 33, ground := Go.Ground.data }], guard := none }, { dst := some 54, op := Go.Op.move (Go.Operand.tmp 53), type := 4, pos := "law.go:49", after := #[{ on := 34, ground := Go.Ground.data }, { on := 28, ground := Go.Ground.chain }], guard := none }, { dst := some 55, op := Go.Op.move (Go.Operand.tmp 0), type := 24, pos := "law.go:49", after := #[{ on := 35, ground := Go.Ground.guard }], guard := some (35, true) }, { dst := some 56, op := Go.Op.call { callee := Go.Callee.value (Go.Operand.func 28), args := #[Go.Operand.tmp 55], argTypes := #[24] }, type := 3, pos := "law.go:49", after := #[{ on := 36, ground := Go.Ground.data }, { on := 35, ground := Go.Ground.chain }, { on := 35, ground := Go.Ground.guard }], guard := some (35, true) }, { dst := some 57, op := Go.Op.move (Go.Operand.tmp 1), type := 55, pos := "law.go:49", after := #[{ on := 35, ground := Go.Ground.guard }], guard := some (35, true) }, { dst := some 58, op := Go.Op.call { callee := Go.Callee.value (Go.Operand.func 46), args := #[Go.Operand.tmp 57], argTypes := #[55] }, type := 3, pos := "law.go:49", after := #[{ on := 38, ground := Go.Ground.data }, { on := 37, ground := Go.Ground.chain }, { on := 35, ground := Go.Ground.guard }], guard := some (35, true) }, { dst := some 59, op := Go.Op.binOp Go.BinOp.eql 3 (Go.Operand.tmp 56) (Go.Operand.tmp 58) 3, type := 4, pos := "law.go:49", after := #[{ on := 37, ground := Go.Ground.data }, { on := 39, ground := Go.Ground.data }, { on := 35, ground := Go.Ground.guard }], guard := some (35, true) }, { dst := some 60, op := Go.Op.pick (Go.Operand.tmp 54) (Go.Operand.tmp 59) (Go.Operand.const (Go.Value.bool false)), type := 4, pos := "law.go:49", after := #[{ on := 35, ground := Go.Ground.data }, { on := 40, ground := Go.Ground.data }], guard := none }, { dst := some 61, op := Go.Op.move (Go.Operand.tmp 60), type := 4, pos := "law.go:49", after := #[{ on := 41, ground := Go.Ground.data }, { on := 39, ground := Go.Ground.chain }], guard := none }, { dst := some 62, op := Go.Op.move (Go.Operand.tmp 0), type := 24, pos := "law.go:49", after := #[{ on := 42, ground := Go.Ground.guard }], guard := some (42, true) }, { dst := some 63, op := Go.Op.call { callee := Go.Callee.value (Go.Operand.func 20), args := #[Go.Operand.tmp 62], argTypes := #[24] }, type := 3, pos := "law.go:49", after := #[{ on := 43, ground := Go.Ground.data }, { on := 42, ground := Go.Ground.chain }, { on := 42, ground := Go.Ground.guard }], guard := some (42, true) }, { dst := some 64, op := Go.Op.move (Go.Operand.tmp 1), type := 55, pos := "law.go:49", after := #[{ on := 42, ground := Go.Ground.guard }], guard := some (42, true) }, { dst := some 65, op := Go.Op.nilCheck (Go.Operand.tmp 64), type := 0, pos := "law.go:49", after := #[{ on := 45, ground := Go.Ground.data }, { on := 42, ground := Go.Ground.guard }], guard := some (42, true) }, { dst := some 66, op := Go.Op.fieldAddr 72 (Go.Operand.tmp 65) 7, type := 0, pos := "law.go:49", after := #[{ on := 46, ground := Go.Ground.data }, { on := 42, ground := Go.Ground.guard }], guard := some (42, true) }, { dst := some 67, op := Go.Op.load 3 (Go.Operand.tmp 66), type := 3, pos := "law.go:49", after := #[{ on := 47, ground := Go.Ground.data }, { on := 42, ground := Go.Ground.guard }], guard := some (42, true) }, { dst := some 68, op := Go.Op.binOp Go.BinOp.eql 3 (Go.Operand.tmp 63) (Go.Operand.tmp 67) 3, type := 4, pos := "law.go:49", after := #[{ on := 44, ground := Go.Ground.data }, { on := 48, ground := Go.Ground.data }, { on := 42, ground := Go.Ground.guard }], guard := some (42, true) }, { dst := some 69, op := Go.Op.pick (Go.Operand.tmp 61) (Go.Operand.tmp 68) (Go.Operand.const (Go.Value.bool false)), type := 4, pos := "law.go:49", after := #[{ on := 42, ground := Go.Ground.data }, { on := 49, ground := Go.Ground.data }], guard := none }, { dst := some 70, op := Go.Op.move (Go.Operand.tmp 69), type := 4, pos := "law.go:49", after := #[{ on := 50, ground := Go.Ground.data }, { on := 44, ground := Go.Ground.chain }], guard := none }, { dst := some 71, op := Go.Op.move (Go.Operand.tmp 6), type := 25, pos := "law.go:49", after := #[{ on := 51, ground := Go.Ground.guard }], guard := some (51, true) }, { dst := some 72, op := Go.Op.move (Go.Operand.tmp 8), type := 25, pos := "law.go:49", after := #[{ on := 51, ground := Go.Ground.guard }], guard := some (51, true) }, { dst := some 73, op := Go.Op.binOp Go.BinOp.eql 25 (Go.Operand.tmp 71) (Go.Operand.tmp 72) 25, type := 4, pos := "law.go:49", after := #[{ on := 52, ground := Go.Ground.data }, { on := 53, ground := Go.Ground.data }, { on := 51, ground := Go.Ground.guard }], guard := some (51, true) }, { dst := some 74, op := Go.Op.pick (Go.Operand.tmp 70) (Go.Operand.tmp 73) (Go.Operand.const (Go.Value.bool false)), type := 4, pos := "law.go:49", after := #[{ on := 51, ground := Go.Ground.data }, { on := 54, ground := Go.Ground.data }], guard := none }, { dst := some 75, op := Go.Op.move (Go.Operand.tmp 74), type := 4, pos := "law.go:49", after := #[{ on := 55, ground := Go.Ground.data }, { on := 51, ground := Go.Ground.chain }], guard := none }, { dst := some 76, op := Go.Op.move (Go.Operand.tmp 5), type := 22, pos := "law.go:49", after := #[{ on := 56, ground := Go.Ground.guard }], guard := some (56, true) }, { dst := some 77, op := Go.Op.move (Go.Operand.tmp 7), type := 22, pos := "law.go:49", after := #[{ on := 56, ground := Go.Ground.guard }], guard := some (56, true) }, { dst := some 78, op := Go.Op.call { callee := Go.Callee.value (Go.Operand.func 19), args := #[Go.Operand.tmp 76, Go.Operand.tmp 77], argTypes := #[22, 22] }, type := 4, pos := "law.go:49", after := #[{ on := 57, ground := Go.Ground.data }, { on := 58, ground := Go.Ground.data }, { on := 56, ground := Go.Ground.chain }, { on := 56, ground := Go.Ground.guard }], guard := some (56, true) }, { dst := some 79, op := Go.Op.pick (Go.Operand.tmp 75) (Go.Operand.tmp 78) (Go.Operand.const (Go.Value.bool false)), type := 4, pos := "law.go:49", after := #[{ on := 56, ground := Go.Ground.data }, { on := 59, ground := Go.Ground.data }], guard := none }, { dst := some 4, op := Go.Op.assign (Go.Operand.tmp 79), type := 4, pos := "law.go:49", after := #[{ on := 60, ground := Go.Ground.data }, { on := 59, ground := Go.Ground.chain }, { on := 0, ground := Go.Ground.phase }, { on := 1, ground := Go.Ground.phase }, { on := 2, ground := Go.Ground.phase }, { on := 3, ground := Go.Ground.phase }, { on := 4, ground := Go.Ground.phase }, { on := 5, ground := Go.Ground.phase }, { on := 6, ground := Go.Ground.phase }, { on := 7, ground := Go.Ground.phase }, { on := 8, ground := Go.Ground.phase }, { on := 9, ground := Go.Ground.phase }, { on := 10, ground := Go.Ground.phase }, { on := 11, ground := Go.Ground.phase }, { on := 12, ground := Go.Ground.phase }, { on := 13, ground := Go.Ground.phase }, { on := 14, ground := Go.Ground.phase }, { on := 15, ground := Go.Ground.phase }, { on := 16, ground := Go.Ground.phase }, { on := 17, ground := Go.Ground.phase }, { on := 18, ground := Go.Ground.phase }, { on := 19, ground := Go.Ground.phase }, { on := 20, ground := Go.Ground.phase }, { on := 21, ground := Go.Ground.phase }, { on := 22, ground := Go.Ground.phase }, { on := 23, ground := Go.Ground.phase }, { on := 24, ground := Go.Ground.phase }, { on := 25, ground := Go.Ground.phase }, { on := 26, ground := Go.Ground.phase }, { on := 27, ground := Go.Ground.phase }, { on := 28, ground := Go.Ground.phase }, { on := 29, ground := Go.Ground.phase }, { on := 30, ground := Go.Ground.phase }, { on := 31, ground := Go.Ground.phase }, { on := 32, ground := Go.Ground.phase }, { on := 33, ground := Go.Ground.phase }, { on := 34, ground := Go.Ground.phase }, { on := 35, ground := Go.Ground.phase }, { on := 36, ground := Go.Ground.phase }, { on := 37, ground := Go.Ground.phase }, { on := 38, ground := Go.Ground.phase }, { on := 39, ground := Go.Ground.phase }, { on := 40, ground := Go.Ground.phase }, { on := 41, ground := Go.Ground.phase }, { on := 42, ground := Go.Ground.phase }, { on := 43, ground := Go.Ground.phase }, { on := 44, ground := Go.Ground.phase }, { on := 45, ground := Go.Ground.phase }, { on := 46, ground := Go.Ground.phase }, { on := 47, ground := Go.Ground.phase }, { on := 48, ground := Go.Ground.phase }, { on := 49, ground := Go.Ground.phase }, { on := 50, ground := Go.Ground.phase }, { on := 51, ground := Go.Ground.phase }, { on := 52, ground := Go.Ground.phase }, { on := 53, ground := Go.Ground.phase }, { on := 54, ground := Go.Ground.phase }, { on := 55, ground := Go.Ground.phase }, { on := 56, ground := Go.Ground.phase }, { on := 57, ground := Go.Ground.phase }, { on := 58, ground := Go.Ground.phase }, { on := 59, ground := Go.Ground.phase }, { on := 60, ground := Go.Ground.phase }], guard := none }]
set_option maxRecDepth 100000 in
set_option maxHeartbeats 8000000 in
theorem same_last (Q : Exit → Act → World → Prop) (t2 t3 t4 t9 t10 t11 t12 t13 t14 t15 t16 t17 t18 : Value) (g h : Nat) (off : Bool) (life safe us kept er : Int) (n m : Nat) (Ar A5 A7 : Option Addr) (cr c5 c7 : Nat) (s r : DSt) (xs : List S39) (S T : Nat → Prop) (w : World) (HD : Aside0 (Dy w S g s)) (HR : Aside0 (Ry w T h r)) (HH : Aside0 (w.heap[h]? = some (.cells #[.int .i64 r.limit, .slice Ar n cr, .int .i64 safe, .bool off, .int .i64 life, .int .i64 r.armed, .int .i64 r.keep, .int .i64 kept] 72 (0, 0))))
    (HO : Aside0 (s.off = off)) (HLF : Aside0 (s.life = life)) (HN : Aside0 ((s.recs.length : Int) = (n : Int))) (HSF : Aside0 (s.safe = safe)) (HUS : Aside0 (us = roomsOf s.recs)) (HUR : Aside0 (us = roomsOf r.recs)) (HKP : Aside0 (s.kept = kept)) (HFN : Aside0 (Fine s.recs)) (HFR : Aside0 (Fine r.recs)) (HLE : Aside0 (s.recs.length ≤ 1000000)) (HLR : Aside0 (r.recs.length ≤ 1000000))
    (HSM : Aside0 (∀ y ∈ xs, Small y)) (HXL : Aside0 (xs.length ≤ 1000)) (HC5 : Aside0 (k39.C w A5 m xs)) (HL5 : Aside0 (m ≤ c5)) (HC7 : Aside0 (k39.C w A7 m xs)) (HL7 : Aside0 (m ≤ c7))
    (hQ : ∀ (x : Array Value) (W : World), x.getD 4 undef = .bool true → Below w.heap.size w W → Q .normal ⟨x, []⟩ W) : (Code.region 3 ops36 true).wp Try.prog Q ⟨List.toArray (Value.pointer (some ⟨g, 0, none⟩) :: Value.pointer (some ⟨h, 0, none⟩) :: t2 :: t3 :: t4 :: Value.slice A5 m c5 :: Value.int .i64 er :: Value.slice A7 m c7 :: Value.int .i64 er :: t9 :: t10 :: t11 :: t12 :: t13 :: t14 :: t15 :: t16 :: t17 :: t18 :: undef :: undef :: undef :: undef :: undef :: undef :: undef :: undef :: undef :: undef :: undef :: undef :: undef :: undef :: undef :: undef :: undef :: undef :: undef :: undef :: undef :: undef :: undef :: undef :: undef :: undef :: undef :: undef :: undef :: undef :: undef :: undef :: undef :: undef :: undef :: undef :: undef :: undef :: undef :: undef :: undef :: undef :: undef :: undef :: undef :: undef :: undef :: undef :: undef :: undef :: undef :: undef :: undef :: undef :: undef :: undef :: undef :: undef :: undef :: undef :: undef :: []), []⟩ w := by
  refine Facts.region_any (n := 0 + 62) #[false, false, false, false, false, false, false, false, false, false, false, false, false, false, false, false, false, false, false, false, false, false, false, false, false, false, false, false, false, false, false, false, false, false, false, false, false, false, false, false, false, false, false, false, false, false, false, false, false, false, false, false, false, false, false, false, false, false, false, false, false, false] (by kernel_rfl) rfl (by kernel_rfl) (fun W0 hW0 hB0 => ?_)
  have hB1 : Below w.heap.size w W0 := hB0 _
  clear hW0 hB0
  refine Facts.wpAny_eval [(0, some 19), (1, some 20), (2, some 21), (3, some 22), (4, some 23), (5, some 24), (6, some 25), (7, some 26), (8, some 27), (9, some 28), (10, some 29), (11, some 30), (12, some 31), (13, some 32), (14, some 33), (15, some 34), (16, some 35), (17, some 36), (18, some 37), (19, some 38), (20, some 39), (21, some 40), (22, some 41), (23, some 42), (24, some 43), (25, some 44), (26, some 45), (27, some 46), (28, some 47), (29, some 48), (30, some 49), (31, some 50), (32, some 51), (33, some 52), (34, some 53), (35, some 54), (36, some 55), (37, some 56), (38, some 57), (39, some 58), (40, some 59), (41, some 60), (42, some 61), (43, some 62), (44, some 63), (45, some 64), (46, some 65), (47, some 66), (48, some 67), (49, some 68), (50, some 69), (51, some 70), (52, some 71), (53, some 72), (54, some 73), (55, some 74), (56, some 75), (57, some 76), (58, some 77), (59, some 78), (60, some 79), (61, some 4)] _ #[true, true, true, true, true, true, true, true, true, true, true, true, true, true, true, true, true, true, true, true, true, true, true, true, true, true, true, true, true, true, true, true, true, true, true, true, true, true, true, true, true, true, true, true, true, true, true, true, true, true, true, true, true, true, true, true, true, true, true, true, true, true] (by kernel_rfl) 0 _ _ (fun w1 w2 => Below w1.heap.size w1 w2) (SmF g h off life safe us kept er n m Ar A5 A7 cr c5 c7) Facts.below_refl Facts.below_tr (SmF.stab _ _ _ _ _ _ _ _ _ _ _ _ _ _ _ _) ?hopB ?HB (fun i => if i = 61 then t4 else undef) (by kernel_rfl)
  case hopB =>
    intro z hz o ho V X hR hpre K hK
    simp only [List.mem_cons, List.not_mem_nil, or_false] at hz
    rcases hz with rfl | rfl | rfl | rfl | rfl | rfl | rfl | rfl | rfl | rfl | rfl | rfl | rfl | rfl | rfl | rfl | rfl | rfl | rfl | rfl | rfl | rfl | rfl | rfl | rfl | rfl | rfl | rfl | rfl | rfl | rfl | rfl | rfl | rfl | rfl | rfl | rfl | rfl | rfl | rfl | rfl | rfl | rfl | rfl | rfl | rfl | rfl | rfl | rfl | rfl | rfl | rfl | rfl | rfl | rfl | rfl | rfl | rfl | rfl | rfl | rfl | rfl
    · obtain rfl := Option.some.inj ho
      refine Facts.OpDo.value (by kernel_rfl) rfl (v := (.pointer (some ⟨g, 0, none⟩))) (w1 := X) ?_ (hK _ _ rfl (Below.refl _ _))
      simp only [Facts.acE, Act.put, List.setIfInBounds_toArray, List.set_cons_zero, List.set_cons_succ]
      go_simp
    · obtain rfl := Option.some.inj ho
      have f0 : V 0 = (.pointer (some ⟨g, 0, none⟩)) := hpre { on := 0, ground := .data } (by simp) rfl rfl
      refine Facts.OpDo.goes Try.func24 (by kernel_rfl) rfl #[V 0] (by kernel_rfl) rfl rfl (by kernel_rfl) ?_
      rw [f0]
      refine (doff_at X _ g s off HO.out (HD.out.below (hB1.trans (hR.mono hB1.size)))).mono ?_
      rintro e w' ⟨rfl, rfl⟩
      exact ⟨_, rfl, hK _ _ rfl (Below.refl _ _)⟩
    · obtain rfl := Option.some.inj ho
      refine Facts.OpDo.value (by kernel_rfl) rfl (v := (.pointer (some ⟨h, 0, none⟩))) (w1 := X) ?_ (hK _ _ rfl (Below.refl _ _))
      simp only [Facts.acE, Act.put, List.setIfInBounds_toArray, List.set_cons_zero, List.set_cons_succ]
      go_simp
    · obtain rfl := Option.some.inj ho
      have f2 : V 2 = (.pointer (some ⟨h, 0, none⟩)) := hpre { on := 2, ground := .data } (by simp) rfl rfl
      refine Facts.OpDo.value (by kernel_rfl) rfl (v := (.pointer (some ⟨h, 0, none⟩))) (w1 := X) ?_ (hK _ _ rfl (Below.refl _ _))
      simp only [Facts.acE, f2, Act.put, List.setIfInBounds_toArray, List.set_cons_zero, List.set_cons_succ]
      go_simp
    · obtain rfl := Option.some.inj ho
      have f3 : V 3 = (.pointer (some ⟨h, 0, none⟩)) := hpre { on := 3, ground := .data } (by simp) rfl rfl
      refine Facts.OpDo.value (by kernel_rfl) rfl (v := (.pointer (some ⟨h, 3, none⟩))) (w1 := X) ?_ (hK _ _ rfl (Below.refl _ _))
      simp only [Facts.acE, f3, Act.put, List.setIfInBounds_toArray, List.set_cons_zero, List.set_cons_succ]
      go_simp
    · obtain rfl := Option.some.inj ho
      have f4 : V 4 = (.pointer (some ⟨h, 3, none⟩)) := hpre { on := 4, ground := .data } (by simp) rfl rfl
      have hc : X.cell? ⟨h, 3, none⟩ = some (.bool off) := rc_cell (keep_blk HH.out (hB1.trans (hR.mono hB1.size))) 3 _ rfl
      refine Facts.OpDo.value (by kernel_rfl) rfl (v := (.bool off)) (w1 := X) ?_ (hK _ _ rfl (Below.refl _ _))
      simp only [Facts.acE, f4, Act.put, List.setIfInBounds_toArray, List.set_cons_zero, List.set_cons_succ]
      go_simp
    · obtain rfl := Option.some.inj ho
      have f1 : V 1 = (.bool off) := hpre { on := 1, ground := .data } (by simp) rfl rfl
      have f5 : V 5 = (.bool off) := hpre { on := 5, ground := .data } (by simp) rfl rfl
      refine Facts.OpDo.value (by kernel_rfl) rfl (v := (.bool true)) (w1 := X) ?_ (hK _ _ rfl (Below.refl _ _))
      simp only [Facts.acE, f1, f5, Act.put, List.setIfInBounds_toArray, List.set_cons_zero, List.set_cons_succ]
      go_simp
    · obtain rfl := Option.some.inj ho
      have f6 : V 6 = (.bool true) := hpre { on := 6, ground := .data } (by simp) rfl rfl
      refine Facts.OpDo.value (by kernel_rfl) rfl (v := (.bool true)) (w1 := X) ?_ (hK _ _ rfl (Below.refl _ _))
      simp only [Facts.acE, f6, Act.put, List.setIfInBounds_toArray, List.set_cons_zero, List.set_cons_succ]
      go_simp
    · obtain rfl := Option.some.inj ho
      have f7 : V 7 = (.bool true) := hpre { on := 7, ground := .guard } (by simp) rfl rfl
      refine Facts.OpDo.value (by simp only [Facts.acE, f7, Act.put, List.setIfInBounds_toArray, List.set_cons_zero, List.set_cons_succ]; kernel_rfl) rfl (v := (.pointer (some ⟨g, 0, none⟩))) (w1 := X) ?_ (hK _ _ rfl (Below.refl _ _))
      simp only [Facts.acE, f7, Act.put, List.setIfInBounds_toArray, List.set_cons_zero, List.set_cons_succ]
      go_simp
    · obtain rfl := Option.some.inj ho
      have f7 : V 7 = (.bool true) := hpre { on := 7, ground := .guard } (by simp) rfl rfl
      have f8 : V 8 = (.pointer (some ⟨g, 0, none⟩)) := hpre { on := 8, ground := .data } (by simp) rfl rfl
      refine Facts.OpDo.goes Try.func18 (by kernel_rfl) rfl #[V 8] (by simp only [Facts.acE, f7, Act.put, List.setIfInBounds_toArray, List.set_cons_zero, List.set_cons_succ]; kernel_rfl) rfl rfl (by kernel_rfl) ?_
      rw [f8]
      refine (dlife_at X _ g s life HLF.out (HD.out.below (hB1.trans (hR.mono hB1.size)))).mono ?_
      rintro e w' ⟨rfl, rfl⟩
      exact ⟨_, rfl, hK _ _ rfl (Below.refl _ _)⟩
    · obtain rfl := Option.some.inj ho
      have f7 : V 7 = (.bool true) := hpre { on := 7, ground := .guard } (by simp) rfl rfl
      refine Facts.OpDo.value (by simp only [Facts.acE, f7, Act.put, List.setIfInBounds_toArray, List.set_cons_zero, List.set_cons_succ]; kernel_rfl) rfl (v := (.pointer (some ⟨h, 0, none⟩))) (w1 := X) ?_ (hK _ _ rfl (Below.refl _ _))
      simp only [Facts.acE, f7, Act.put, List.setIfInBounds_toArray, List.set_cons_zero, List.set_cons_succ]
      go_simp
    · obtain rfl := Option.some.inj ho
      have f7 : V 7 = (.bool true) := hpre { on := 7, ground := .guard } (by simp) rfl rfl
      have f10 : V 10 = (.pointer (some ⟨h, 0, none⟩)) := hpre { on := 10, ground := .data } (by simp) rfl rfl
      refine Facts.OpDo.value (by simp only [Facts.acE, f7, Act.put, List.setIfInBounds_toArray, List.set_cons_zero, List.set_cons_succ]; kernel_rfl) rfl (v := (.pointer (some ⟨h, 0, none⟩))) (w1 := X) ?_ (hK _ _ rfl (Below.refl _ _))
      simp only [Facts.acE, f7, f10, Act.put, List.setIfInBounds_toArray, List.set_cons_zero, List.set_cons_succ]
      go_simp
    · obtain rfl := Option.some.inj ho
      have f7 : V 7 = (.bool true) := hpre { on := 7, ground := .guard } (by simp) rfl rfl
      have f11 : V 11 = (.pointer (some ⟨h, 0, none⟩)) := hpre { on := 11, ground := .data } (by simp) rfl rfl
      refine Facts.OpDo.value (by simp only [Facts.acE, f7, Act.put, List.setIfInBounds_toArray, List.set_cons_zero, List.set_cons_succ]; kernel_rfl) rfl (v := (.pointer (some ⟨h, 4, none⟩))) (w1 := X) ?_ (hK _ _ rfl (Below.refl _ _))
      simp only [Facts.acE, f7, f11, Act.put, List.setIfInBounds_toArray, List.set_cons_zero, List.set_cons_succ]
      go_simp
    · obtain rfl := Option.some.inj ho
      have f7 : V 7 = (.bool true) := hpre { on := 7, ground := .guard } (by simp) rfl rfl
      have f12 : V 12 = (.pointer (some ⟨h, 4, none⟩)) := hpre { on := 12, ground := .data } (by simp) rfl rfl
      have hc : X.cell? ⟨h, 4, none⟩ = some (.int .i64 life) := rc_cell (keep_blk HH.out (hB1.trans (hR.mono hB1.size))) 4 _ rfl
      refine Facts.OpDo.value (by simp only [Facts.acE, f7, Act.put, List.setIfInBounds_toArray, List.set_cons_zero, List.set_cons_succ]; kernel_rfl) rfl (v := (.int .i64 life)) (w1 := X) ?_ (hK _ _ rfl (Below.refl _ _))
      simp only [Facts.acE, f7, f12, Act.put, List.setIfInBounds_toArray, List.set_cons_zero, List.set_cons_succ]
      go_simp
    · obtain rfl := Option.some.inj ho
      have f7 : V 7 = (.bool true) := hpre { on := 7, ground := .guard } (by simp) rfl rfl
      have f9 : V 9 = (.int .i64 life) := hpre { on := 9, ground := .data } (by simp) rfl rfl
      have f13 : V 13 = (.int .i64 life) := hpre { on := 13, ground := .data } (by simp) rfl rfl
      refine Facts.OpDo.value (by simp only [Facts.acE, f7, Act.put, List.setIfInBounds_toArray, List.set_cons_zero, List.set_cons_succ]; kernel_rfl) rfl (v := (.bool true)) (w1 := X) ?_ (hK _ _ rfl (Below.refl _ _))
      simp only [Facts.acE, f7, f9, f13, Act.put, List.setIfInBounds_toArray, List.set_cons_zero, List.set_cons_succ]
      go_simp
    · obtain rfl := Option.some.inj ho
      have f7 : V 7 = (.bool true) := hpre { on := 7, ground := .data } (by simp) rfl rfl
      have f14 : V 14 = (.bool true) := hpre { on := 14, ground := .data } (by simp) rfl rfl
      refine Facts.OpDo.value (by kernel_rfl) rfl (v := (.bool true)) (w1 := X) ?_ (hK _ _ rfl (Below.refl _ _))
      simp only [Facts.acE, f7, f14, Act.put, List.setIfInBounds_toArray, List.set_cons_zero, List.set_cons_succ]
      go_simp
    · obtain rfl := Option.some.inj ho
      have f15 : V 15 = (.bool true) := hpre { on := 15, ground := .data } (by simp) rfl rfl
      refine Facts.OpDo.value (by kernel_rfl) rfl (v := (.bool true)) (w1 := X) ?_ (hK _ _ rfl (Below.refl _ _))
      simp only [Facts.acE, f15, Act.put, List.setIfInBounds_toArray, List.set_cons_zero, List.set_cons_succ]
      go_simp
    · obtain rfl := Option.some.inj ho
      have f16 : V 16 = (.bool true) := hpre { on := 16, ground := .guard } (by simp) rfl rfl
      refine Facts.OpDo.value (by simp only [Facts.acE, f16, Act.put, List.setIfInBounds_toArray, List.set_cons_zero, List.set_cons_succ]; kernel_rfl) rfl (v := (.pointer (some ⟨g, 0, none⟩))) (w1 := X) ?_ (hK _ _ rfl (Below.refl _ _))
      simp only [Facts.acE, f16, Act.put, List.setIfInBounds_toArray, List.set_cons_zero, List.set_cons_succ]
      go_simp
    · obtain rfl := Option.some.inj ho
      have f16 : V 16 = (.bool true) := hpre { on := 16, ground := .guard } (by simp) rfl rfl
      have f17 : V 17 = (.pointer (some ⟨g, 0, none⟩)) := hpre { on := 17, ground := .data } (by simp) rfl rfl
      refine Facts.OpDo.goes Try.func23 (by kernel_rfl) rfl #[V 17] (by simp only [Facts.acE, f16, Act.put, List.setIfInBounds_toArray, List.set_cons_zero, List.set_cons_succ]; kernel_rfl) rfl rfl (by kernel_rfl) ?_
      rw [f17]
      refine (dlen_at X _ g s n HN.out (HD.out.below (hB1.trans (hR.mono hB1.size)))).mono ?_
      rintro e w' ⟨rfl, rfl⟩
      exact ⟨_, rfl, hK _ _ rfl (Below.refl _ _)⟩
    · obtain rfl := Option.some.inj ho
      have f16 : V 16 = (.bool true) := hpre { on := 16, ground := .guard } (by simp) rfl rfl
      refine Facts.OpDo.value (by simp only [Facts.acE, f16, Act.put, List.setIfInBounds_toArray, List.set_cons_zero, List.set_cons_succ]; kernel_rfl) rfl (v := (.pointer (some ⟨h, 0, none⟩))) (w1 := X) ?_ (hK _ _ rfl (Below.refl _ _))
      simp only [Facts.acE, f16, Act.put, List.setIfInBounds_toArray, List.set_cons_zero, List.set_cons_succ]
      go_simp
    · obtain rfl := Option.some.inj ho
      have f16 : V 16 = (.bool true) := hpre { on := 16, ground := .guard } (by simp) rfl rfl
      have f19 : V 19 = (.pointer (some ⟨h, 0, none⟩)) := hpre { on := 19, ground := .data } (by simp) rfl rfl
      refine Facts.OpDo.value (by simp only [Facts.acE, f16, Act.put, List.setIfInBounds_toArray, List.set_cons_zero, List.set_cons_succ]; kernel_rfl) rfl (v := (.pointer (some ⟨h, 0, none⟩))) (w1 := X) ?_ (hK _ _ rfl (Below.refl _ _))
      simp only [Facts.acE, f16, f19, Act.put, List.setIfInBounds_toArray, List.set_cons_zero, List.set_cons_succ]
      go_simp
    · obtain rfl := Option.some.inj ho
      have f16 : V 16 = (.bool true) := hpre { on := 16, ground := .guard } (by simp) rfl rfl
      have f20 : V 20 = (.pointer (some ⟨h, 0, none⟩)) := hpre { on := 20, ground := .data } (by simp) rfl rfl
      refine Facts.OpDo.value (by simp only [Facts.acE, f16, Act.put, List.setIfInBounds_toArray, List.set_cons_zero, List.set_cons_succ]; kernel_rfl) rfl (v := (.pointer (some ⟨h, 1, none⟩))) (w1 := X) ?_ (hK _ _ rfl (Below.refl _ _))
      simp only [Facts.acE, f16, f20, Act.put, List.setIfInBounds_toArray, List.set_cons_zero, List.set_cons_succ]
      go_simp
    · obtain rfl := Option.some.inj ho
      have f16 : V 16 = (.bool true) := hpre { on := 16, ground := .guard } (by simp) rfl rfl
      have f21 : V 21 = (.pointer (some ⟨h, 1, none⟩)) := hpre { on := 21, ground := .data } (by simp) rfl rfl
      have hc : X.cell? ⟨h, 1, none⟩ = some (.slice Ar n cr) := rc_cell (keep_blk HH.out (hB1.trans (hR.mono hB1.size))) 1 _ rfl
      refine Facts.OpDo.value (by simp only [Facts.acE, f16, Act.put, List.setIfInBounds_toArray, List.set_cons_zero, List.set_cons_succ]; kernel_rfl) rfl (v := (.slice Ar n cr)) (w1 := X) ?_ (hK _ _ rfl (Below.refl _ _))
      simp only [Facts.acE, f16, f21, Act.put, List.setIfInBounds_toArray, List.set_cons_zero, List.set_cons_succ]
      go_simp
    · obtain rfl := Option.some.inj ho
      have f16 : V 16 = (.bool true) := hpre { on := 16, ground := .guard } (by simp) rfl rfl
      have f22 : V 22 = (.slice Ar n cr) := hpre { on := 22, ground := .data } (by simp) rfl rfl
      refine Facts.OpDo.value (by simp only [Facts.acE, f16, Act.put, List.setIfInBounds_toArray, List.set_cons_zero, List.set_cons_succ]; kernel_rfl) rfl (v := (.int .i64 n)) (w1 := X) ?_ (hK _ _ rfl (Below.refl _ _))
      simp only [Facts.acE, f16, f22, Act.put, List.setIfInBounds_toArray, List.set_cons_zero, List.set_cons_succ]
      go_simp
    · obtain rfl := Option.some.inj ho
      have f16 : V 16 = (.bool true) := hpre { on := 16, ground := .guard } (by simp) rfl rfl
      have f18 : V 18 = (.int .i64 n) := hpre { on := 18, ground := .data } (by simp) rfl rfl
      have f23 : V 23 = (.int .i64 n) := hpre { on := 23, ground := .data } (by simp) rfl rfl
      refine Facts.OpDo.value (by simp only [Facts.acE, f16, Act.put, List.setIfInBounds_toArray, List.set_cons_zero, List.set_cons_succ]; kernel_rfl) rfl (v := (.bool true)) (w1 := X) ?_ (hK _ _ rfl (Below.refl _ _))
      simp only [Facts.acE, f16, f18, f23, Act.put, List.setIfInBounds_toArray, List.set_cons_zero, List.set_cons_succ]
      go_simp
    · obtain rfl := Option.some.inj ho
      have f16 : V 16 = (.bool true) := hpre { on := 16, ground := .data } (by simp) rfl rfl
      have f24 : V 24 = (.bool true) := hpre { on := 24, ground := .data } (by simp) rfl rfl
      refine Facts.OpDo.value (by kernel_rfl) rfl (v := (.bool true)) (w1 := X) ?_ (hK _ _ rfl (Below.refl _ _))
      simp only [Facts.acE, f16, f24, Act.put, List.setIfInBounds_toArray, List.set_cons_zero, List.set_cons_succ]
      go_simp
    · obtain rfl := Option.some.inj ho
      have f25 : V 25 = (.bool true) := hpre { on := 25, ground := .data } (by simp) rfl rfl
      refine Facts.OpDo.value (by kernel_rfl) rfl (v := (.bool true)) (w1 := X) ?_ (hK _ _ rfl (Below.refl _ _))
      simp only [Facts.acE, f25, Act.put, List.setIfInBounds_toArray, List.set_cons_zero, List.set_cons_succ]
      go_simp
    · obtain rfl := Option.some.inj ho
      have f26 : V 26 = (.bool true) := hpre { on := 26, ground := .guard } (by simp) rfl rfl
      refine Facts.OpDo.value (by simp only [Facts.acE, f26, Act.put, List.setIfInBounds_toArray, List.set_cons_zero, List.set_cons_succ]; kernel_rfl) rfl (v := (.pointer (some ⟨g, 0, none⟩))) (w1 := X) ?_ (hK _ _ rfl (Below.refl _ _))
      simp only [Facts.acE, f26, Act.put, List.setIfInBounds_toArray, List.set_cons_zero, List.set_cons_succ]
      go_simp
    · obtain rfl := Option.some.inj ho
      have f26 : V 26 = (.bool true) := hpre { on := 26, ground := .guard } (by simp) rfl rfl
      have f27 : V 27 = (.pointer (some ⟨g, 0, none⟩)) := hpre { on := 27, ground := .data } (by simp) rfl rfl
      refine Facts.OpDo.goes Try.func25 (by kernel_rfl) rfl #[V 27] (by simp only [Facts.acE, f26, Act.put, List.setIfInBounds_toArray, List.set_cons_zero, List.set_cons_succ]; kernel_rfl) rfl rfl (by kernel_rfl) ?_
      rw [f27]
      refine (dsafe_at X _ g s safe HSF.out (HD.out.below (hB1.trans (hR.mono hB1.size)))).mono ?_
      rintro e w' ⟨rfl, rfl⟩
      exact ⟨_, rfl, hK _ _ rfl (Below.refl _ _)⟩
    · obtain rfl := Option.some.inj ho
      have f26 : V 26 = (.bool true) := hpre { on := 26, ground := .guard } (by simp) rfl rfl
      refine Facts.OpDo.value (by simp only [Facts.acE, f26, Act.put, List.setIfInBounds_toArray, List.set_cons_zero, List.set_cons_succ]; kernel_rfl) rfl (v := (.pointer (some ⟨h, 0, none⟩))) (w1 := X) ?_ (hK _ _ rfl (Below.refl _ _))
      simp only [Facts.acE, f26, Act.put, List.setIfInBounds_toArray, List.set_cons_zero, List.set_cons_succ]
      go_simp
    · obtain rfl := Option.some.inj ho
      have f26 : V 26 = (.bool true) := hpre { on := 26, ground := .guard } (by simp) rfl rfl
      have f29 : V 29 = (.pointer (some ⟨h, 0, none⟩)) := hpre { on := 29, ground := .data } (by simp) rfl rfl
      refine Facts.OpDo.value (by simp only [Facts.acE, f26, Act.put, List.setIfInBounds_toArray, List.set_cons_zero, List.set_cons_succ]; kernel_rfl) rfl (v := (.pointer (some ⟨h, 0, none⟩))) (w1 := X) ?_ (hK _ _ rfl (Below.refl _ _))
      simp only [Facts.acE, f26, f29, Act.put, List.setIfInBounds_toArray, List.set_cons_zero, List.set_cons_succ]
      go_simp
    · obtain rfl := Option.some.inj ho
      have f26 : V 26 = (.bool true) := hpre { on := 26, ground := .guard } (by simp) rfl rfl
      have f30 : V 30 = (.pointer (some ⟨h, 0, none⟩)) := hpre { on := 30, ground := .data } (by simp) rfl rfl
      refine Facts.OpDo.value (by simp only [Facts.acE, f26, Act.put, List.setIfInBounds_toArray, List.set_cons_zero, List.set_cons_succ]; kernel_rfl) rfl (v := (.pointer (some ⟨h, 2, none⟩))) (w1 := X) ?_ (hK _ _ rfl (Below.refl _ _))
      simp only [Facts.acE, f26, f30, Act.put, List.setIfInBounds_toArray, List.set_cons_zero, List.set_cons_succ]
      go_simp
    · obtain rfl := Option.some.inj ho
      have f26 : V 26 = (.bool true) := hpre { on := 26, ground := .guard } (by simp) rfl rfl
      have f31 : V 31 = (.pointer (some ⟨h, 2, none⟩)) := hpre { on := 31, ground := .data } (by simp) rfl rfl
      have hc : X.cell? ⟨h, 2, none⟩ = some (.int .i64 safe) := rc_cell (keep_blk HH.out (hB1.trans (hR.mono hB1.size))) 2 _ rfl
      refine Facts.OpDo.value (by simp only [Facts.acE, f26, Act.put, List.setIfInBounds_toArray, List.set_cons_zero, List.set_cons_succ]; kernel_rfl) rfl (v := (.int .i64 safe)) (w1 := X) ?_ (hK _ _ rfl (Below.refl _ _))
      simp only [Facts.acE, f26, f31, Act.put, List.setIfInBounds_toArray, List.set_cons_zero, List.set_cons_succ]
      go_simp
    · obtain rfl := Option.some.inj ho
      have f26 : V 26 = (.bool true) := hpre { on := 26, ground := .guard } (by simp) rfl rfl
      have f28 : V 28 = (.int .i64 safe) := hpre { on := 28, ground := .data } (by simp) rfl rfl
      have f32 : V 32 = (.int .i64 safe) := hpre { on := 32, ground := .data } (by simp) rfl rfl
      refine Facts.OpDo.value (by simp only [Facts.acE, f26, Act.put, List.setIfInBounds_toArray, List.set_cons_zero, List.set_cons_succ]; kernel_rfl) rfl (v := (.bool true)) (w1 := X) ?_ (hK _ _ rfl (Below.refl _ _))
      simp only [Facts.acE, f26, f28, f32, Act.put, List.setIfInBounds_toArray, List.set_cons_zero, List.set_cons_succ]
      go_simp
    · obtain rfl := Option.some.inj ho
      have f26 : V 26 = (.bool true) := hpre { on := 26, ground := .data } (by simp) rfl rfl
      have f33 : V 33 = (.bool true) := hpre { on := 33, ground := .data } (by simp) rfl rfl
      refine Facts.OpDo.value (by kernel_rfl) rfl (v := (.bool true)) (w1 := X) ?_ (hK _ _ rfl (Below.refl _ _))
      simp only [Facts.acE, f26, f33, Act.put, List.setIfInBounds_toArray, List.set_cons_zero, List.set_cons_succ]
      go_simp
    · obtain rfl := Option.some.inj ho
      have f34 : V 34 = (.bool true) := hpre { on := 34, ground := .data } (by simp) rfl rfl
      refine Facts.OpDo.value (by kernel_rfl) rfl (v := (.bool true)) (w1 := X) ?_ (hK _ _ rfl (Below.refl _ _))
      simp only [Facts.acE, f34, Act.put, List.setIfInBounds_toArray, List.set_cons_zero, List.set_cons_succ]
      go_simp
    · obtain rfl := Option.some.inj ho
      have f35 : V 35 = (.bool true) := hpre { on := 35, ground := .guard } (by simp) rfl rfl
      refine Facts.OpDo.value (by simp only [Facts.acE, f35, Act.put, List.setIfInBounds_toArray, List.set_cons_zero, List.set_cons_succ]; kernel_rfl) rfl (v := (.pointer (some ⟨g, 0, none⟩))) (w1 := X) ?_ (hK _ _ rfl (Below.refl _ _))
      simp only [Facts.acE, f35, Act.put, List.setIfInBounds_toArray, List.set_cons_zero, List.set_cons_succ]
      go_simp
    · obtain rfl := Option.some.inj ho
      have f35 : V 35 = (.bool true) := hpre { on := 35, ground := .guard } (by simp) rfl rfl
      have f36 : V 36 = (.pointer (some ⟨g, 0, none⟩)) := hpre { on := 36, ground := .data } (by simp) rfl rfl
      refine Facts.OpDo.goes Try.func28 (by kernel_rfl) rfl #[V 36] (by simp only [Facts.acE, f35, Act.put, List.setIfInBounds_toArray, List.set_cons_zero, List.set_cons_succ]; kernel_rfl) rfl rfl (by kernel_rfl) ?_
      rw [f36]
      refine (dused_at X _ g s us HUS.out (HD.out.below (hB1.trans (hR.mono hB1.size))) HFN.out HLE.out).mono ?_
      rintro e w' ⟨rfl, hb⟩
      exact ⟨_, rfl, hK _ _ rfl hb⟩
    · obtain rfl := Option.some.inj ho
      have f35 : V 35 = (.bool true) := hpre { on := 35, ground := .guard } (by simp) rfl rfl
      refine Facts.OpDo.value (by simp only [Facts.acE, f35, Act.put, List.setIfInBounds_toArray, List.set_cons_zero, List.set_cons_succ]; kernel_rfl) rfl (v := (.pointer (some ⟨h, 0, none⟩))) (w1 := X) ?_ (hK _ _ rfl (Below.refl _ _))
      simp only [Facts.acE, f35, Act.put, List.setIfInBounds_toArray, List.set_cons_zero, List.set_cons_succ]
      go_simp
    · obtain rfl := Option.some.inj ho
      have f35 : V 35 = (.bool true) := hpre { on := 35, ground := .guard } (by simp) rfl rfl
      have f38 : V 38 = (.pointer (some ⟨h, 0, none⟩)) := hpre { on := 38, ground := .data } (by simp) rfl rfl
      refine Facts.OpDo.goes Try.func46 (by kernel_rfl) rfl #[V 38] (by simp only [Facts.acE, f35, Act.put, List.setIfInBounds_toArray, List.set_cons_zero, List.set_cons_succ]; kernel_rfl) rfl rfl (by kernel_rfl) ?_
      rw [f38]
      refine (rused_at X _ h r us HUR.out (HR.out.below (hB1.trans (hR.mono hB1.size))) HFR.out HLR.out).mono ?_
      rintro e w' ⟨rfl, hb⟩
      exact ⟨_, rfl, hK _ _ rfl hb⟩
    · obtain rfl := Option.some.inj ho
      have f35 : V 35 = (.bool true) := hpre { on := 35, ground := .guard } (by simp) rfl rfl
      have f37 : V 37 = (.int .i64 us) := hpre { on := 37, ground := .data } (by simp) rfl rfl
      have f39 : V 39 = (.int .i64 us) := hpre { on := 39, ground := .data } (by simp) rfl rfl
      refine Facts.OpDo.value (by simp only [Facts.acE, f35, Act.put, List.setIfInBounds_toArray, List.set_cons_zero, List.set_cons_succ]; kernel_rfl) rfl (v := (.bool true)) (w1 := X) ?_ (hK _ _ rfl (Below.refl _ _))
      simp only [Facts.acE, f35, f37, f39, Act.put, List.setIfInBounds_toArray, List.set_cons_zero, List.set_cons_succ]
      go_simp
    · obtain rfl := Option.some.inj ho
      have f35 : V 35 = (.bool true) := hpre { on := 35, ground := .data } (by simp) rfl rfl
      have f40 : V 40 = (.bool true) := hpre { on := 40, ground := .data } (by simp) rfl rfl
      refine Facts.OpDo.value (by kernel_rfl) rfl (v := (.bool true)) (w1 := X) ?_ (hK _ _ rfl (Below.refl _ _))
      simp only [Facts.acE, f35, f40, Act.put, List.setIfInBounds_toArray, List.set_cons_zero, List.set_cons_succ]
      go_simp
    · obtain rfl := Option.some.inj ho
      have f41 : V 41 = (.bool true) := hpre { on := 41, ground := .data } (by simp) rfl rfl
      refine Facts.OpDo.value (by kernel_rfl) rfl (v := (.bool true)) (w1 := X) ?_ (hK _ _ rfl (Below.refl _ _))
      simp only [Facts.acE, f41, Act.put, List.setIfInBounds_toArray, List.set_cons_zero, List.set_cons_succ]
      go_simp
    · obtain rfl := Option.some.inj ho
      have f42 : V 42 = (.bool true) := hpre { on := 42, ground := .guard } (by simp) rfl rfl
      refine Facts.OpDo.value (by simp only [Facts.acE, f42, Act.put, List.setIfInBounds_toArray, List.set_cons_zero, List.set_cons_succ]; kernel_rfl) rfl (v := (.pointer (some ⟨g, 0, none⟩))) (w1 := X) ?_ (hK _ _ rfl (Below.refl _ _))
      simp only [Facts.acE, f42, Act.put, List.setIfInBounds_toArray, List.set_cons_zero, List.set_cons_succ]
      go_simp
    · obtain rfl := Option.some.inj ho
      have f42 : V 42 = (.bool true) := hpre { on := 42, ground := .guard } (by simp) rfl rfl
      have f43 : V 43 = (.pointer (some ⟨g, 0, none⟩)) := hpre { on := 43, ground := .data } (by simp) rfl rfl
      refine Facts.OpDo.goes Try.func20 (by kernel_rfl) rfl #[V 43] (by simp only [Facts.acE, f42, Act.put, List.setIfInBounds_toArray, List.set_cons_zero, List.set_cons_succ]; kernel_rfl) rfl rfl (by kernel_rfl) ?_
      rw [f43]
      refine (dkept_at X _ g s kept HKP.out (HD.out.below (hB1.trans (hR.mono hB1.size)))).mono ?_
      rintro e w' ⟨rfl, rfl⟩
      exact ⟨_, rfl, hK _ _ rfl (Below.refl _ _)⟩
    · obtain rfl := Option.some.inj ho
      have f42 : V 42 = (.bool true) := hpre { on := 42, ground := .guard } (by simp) rfl rfl
      refine Facts.OpDo.value (by simp only [Facts.acE, f42, Act.put, List.setIfInBounds_toArray, List.set_cons_zero, List.set_cons_succ]; kernel_rfl) rfl (v := (.pointer (some ⟨h, 0, none⟩))) (w1 := X) ?_ (hK _ _ rfl (Below.refl _ _))
      simp only [Facts.acE, f42, Act.put, List.setIfInBounds_toArray, List.set_cons_zero, List.set_cons_succ]
      go_simp
    · obtain rfl := Option.some.inj ho
      have f42 : V 42 = (.bool true) := hpre { on := 42, ground := .guard } (by simp) rfl rfl
      have f45 : V 45 = (.pointer (some ⟨h, 0, none⟩)) := hpre { on := 45, ground := .data } (by simp) rfl rfl
      refine Facts.OpDo.value (by simp only [Facts.acE, f42, Act.put, List.setIfInBounds_toArray, List.set_cons_zero, List.set_cons_succ]; kernel_rfl) rfl (v := (.pointer (some ⟨h, 0, none⟩))) (w1 := X) ?_ (hK _ _ rfl (Below.refl _ _))
      simp only [Facts.acE, f42, f45, Act.put, List.setIfInBounds_toArray, List.set_cons_zero, List.set_cons_succ]
      go_simp
    · obtain rfl := Option.some.inj ho
      have f42 : V 42 = (.bool true) := hpre { on := 42, ground := .guard } (by simp) rfl rfl
      have f46 : V 46 = (.pointer (some ⟨h, 0, none⟩)) := hpre { on := 46, ground := .data } (by simp) rfl rfl
      refine Facts.OpDo.value (by simp only [Facts.acE, f42, Act.put, List.setIfInBounds_toArray, List.set_cons_zero, List.set_cons_succ]; kernel_rfl) rfl (v := (.pointer (some ⟨h, 7, none⟩))) (w1 := X) ?_ (hK _ _ rfl (Below.refl _ _))
      simp only [Facts.acE, f42, f46, Act.put, List.setIfInBounds_toArray, List.set_cons_zero, List.set_cons_succ]
      go_simp
    · obtain rfl := Option.some.inj ho
      have f42 : V 42 = (.bool true) := hpre { on := 42, ground := .guard } (by simp) rfl rfl
      have f47 : V 47 = (.pointer (some ⟨h, 7, none⟩)) := hpre { on := 47, ground := .data } (by simp) rfl rfl
      have hc : X.cell? ⟨h, 7, none⟩ = some (.int .i64 kept) := rc_cell (keep_blk HH.out (hB1.trans (hR.mono hB1.size))) 7 _ rfl
      refine Facts.OpDo.value (by simp only [Facts.acE, f42, Act.put, List.setIfInBounds_toArray, List.set_cons_zero, List.set_cons_succ]; kernel_rfl) rfl (v := (.int .i64 kept)) (w1 := X) ?_ (hK _ _ rfl (Below.refl _ _))
      simp only [Facts.acE, f42, f47, Act.put, List.setIfInBounds_toArray, List.set_cons_zero, List.set_cons_succ]
      go_simp
    · obtain rfl := Option.some.inj ho
      have f42 : V 42 = (.bool true) := hpre { on := 42, ground := .guard } (by simp) rfl rfl
      have f44 : V 44 = (.int .i64 kept) := hpre { on := 44, ground := .data } (by simp) rfl rfl
      have f48 : V 48 = (.int .i64 kept) := hpre { on := 48, ground := .data } (by simp) rfl rfl
      refine Facts.OpDo.value (by simp only [Facts.acE, f42, Act.put, List.setIfInBounds_toArray, List.set_cons_zero, List.set_cons_succ]; kernel_rfl) rfl (v := (.bool true)) (w1 := X) ?_ (hK _ _ rfl (Below.refl _ _))
      simp only [Facts.acE, f42, f44, f48, Act.put, List.setIfInBounds_toArray, List.set_cons_zero, List.set_cons_succ]
      go_simp
    · obtain rfl := Option.some.inj ho
      have f42 : V 42 = (.bool true) := hpre { on := 42, ground := .data } (by simp) rfl rfl
      have f49 : V 49 = (.bool true) := hpre { on := 49, ground := .data } (by simp) rfl rfl
      refine Facts.OpDo.value (by kernel_rfl) rfl (v := (.bool true)) (w1 := X) ?_ (hK _ _ rfl (Below.refl _ _))
      simp only [Facts.acE, f42, f49, Act.put, List.setIfInBounds_toArray, List.set_cons_zero, List.set_cons_succ]
      go_simp
    · obtain rfl := Option.some.inj ho
      have f50 : V 50 = (.bool true) := hpre { on := 50, ground := .data } (by simp) rfl rfl
      refine Facts.OpDo.value (by kernel_rfl) rfl (v := (.bool true)) (w1 := X) ?_ (hK _ _ rfl (Below.refl _ _))
      simp only [Facts.acE, f50, Act.put, List.setIfInBounds_toArray, List.set_cons_zero, List.set_cons_succ]
      go_simp
    · obtain rfl := Option.some.inj ho
      have f51 : V 51 = (.bool true) := hpre { on := 51, ground := .guard } (by simp) rfl rfl
      refine Facts.OpDo.value (by simp only [Facts.acE, f51, Act.put, List.setIfInBounds_toArray, List.set_cons_zero, List.set_cons_succ]; kernel_rfl) rfl (v := (.int .i64 er)) (w1 := X) ?_ (hK _ _ rfl (Below.refl _ _))
      simp only [Facts.acE, f51, Act.put, List.setIfInBounds_toArray, List.set_cons_zero, List.set_cons_succ]
      go_simp
    · obtain rfl := Option.some.inj ho
      have f51 : V 51 = (.bool true) := hpre { on := 51, ground := .guard } (by simp) rfl rfl
      refine Facts.OpDo.value (by simp only [Facts.acE, f51, Act.put, List.setIfInBounds_toArray, List.set_cons_zero, List.set_cons_succ]; kernel_rfl) rfl (v := (.int .i64 er)) (w1 := X) ?_ (hK _ _ rfl (Below.refl _ _))
      simp only [Facts.acE, f51, Act.put, List.setIfInBounds_toArray, List.set_cons_zero, List.set_cons_succ]
      go_simp
    · obtain rfl := Option.some.inj ho
      have f51 : V 51 = (.bool true) := hpre { on := 51, ground := .guard } (by simp) rfl rfl
      have f52 : V 52 = (.int .i64 er) := hpre { on := 52, ground := .data } (by simp) rfl rfl
      have f53 : V 53 = (.int .i64 er) := hpre { on := 53, ground := .data } (by simp) rfl rfl
      refine Facts.OpDo.value (by simp only [Facts.acE, f51, Act.put, List.setIfInBounds_toArray, List.set_cons_zero, List.set_cons_succ]; kernel_rfl) rfl (v := (.bool true)) (w1 := X) ?_ (hK _ _ rfl (Below.refl _ _))
      simp only [Facts.acE, f51, f52, f53, Act.put, List.setIfInBounds_toArray, List.set_cons_zero, List.set_cons_succ]
      go_simp
    · obtain rfl := Option.some.inj ho
      have f51 : V 51 = (.bool true) := hpre { on := 51, ground := .data } (by simp) rfl rfl
      have f54 : V 54 = (.bool true) := hpre { on := 54, ground := .data } (by simp) rfl rfl
      refine Facts.OpDo.value (by kernel_rfl) rfl (v := (.bool true)) (w1 := X) ?_ (hK _ _ rfl (Below.refl _ _))
      simp only [Facts.acE, f51, f54, Act.put, List.setIfInBounds_toArray, List.set_cons_zero, List.set_cons_succ]
      go_simp
    · obtain rfl := Option.some.inj ho
      have f55 : V 55 = (.bool true) := hpre { on := 55, ground := .data } (by simp) rfl rfl
      refine Facts.OpDo.value (by kernel_rfl) rfl (v := (.bool true)) (w1 := X) ?_ (hK _ _ rfl (Below.refl _ _))
      simp only [Facts.acE, f55, Act.put, List.setIfInBounds_toArray, List.set_cons_zero, List.set_cons_succ]
      go_simp
    · obtain rfl := Option.some.inj ho
      have f56 : V 56 = (.bool true) := hpre { on := 56, ground := .guard } (by simp) rfl rfl
      refine Facts.OpDo.value (by simp only [Facts.acE, f56, Act.put, List.setIfInBounds_toArray, List.set_cons_zero, List.set_cons_succ]; kernel_rfl) rfl (v := (.slice A5 m c5)) (w1 := X) ?_ (hK _ _ rfl (Below.refl _ _))
      simp only [Facts.acE, f56, Act.put, List.setIfInBounds_toArray, List.set_cons_zero, List.set_cons_succ]
      go_simp
    · obtain rfl := Option.some.inj ho
      have f56 : V 56 = (.bool true) := hpre { on := 56, ground := .guard } (by simp) rfl rfl
      refine Facts.OpDo.value (by simp only [Facts.acE, f56, Act.put, List.setIfInBounds_toArray, List.set_cons_zero, List.set_cons_succ]; kernel_rfl) rfl (v := (.slice A7 m c7)) (w1 := X) ?_ (hK _ _ rfl (Below.refl _ _))
      simp only [Facts.acE, f56, Act.put, List.setIfInBounds_toArray, List.set_cons_zero, List.set_cons_succ]
      go_simp
    · obtain rfl := Option.some.inj ho
      have f56 : V 56 = (.bool true) := hpre { on := 56, ground := .guard } (by simp) rfl rfl
      have f57 : V 57 = (.slice A5 m c5) := hpre { on := 57, ground := .data } (by simp) rfl rfl
      have f58 : V 58 = (.slice A7 m c7) := hpre { on := 58, ground := .data } (by simp) rfl rfl
      refine Facts.OpDo.goes Try.func19 (by kernel_rfl) rfl #[V 57, V 58] (by simp only [Facts.acE, f56, Act.put, List.setIfInBounds_toArray, List.set_cons_zero, List.set_cons_succ]; kernel_rfl) rfl rfl (by kernel_rfl) ?_
      rw [f57, f58]
      refine (recs_at X A5 c5 m A7 c7 m xs HSM.out HXL.out (Kd.C_below HC5.out (hB1.trans (hR.mono hB1.size))) HL5.out (Kd.C_below HC7.out (hB1.trans (hR.mono hB1.size))) HL7.out).mono ?_
      rintro e w' ⟨rfl, hb⟩
      exact ⟨_, rfl, hK _ _ rfl hb⟩
    · obtain rfl := Option.some.inj ho
      have f56 : V 56 = (.bool true) := hpre { on := 56, ground := .data } (by simp) rfl rfl
      have f59 : V 59 = (.bool true) := hpre { on := 59, ground := .data } (by simp) rfl rfl
      refine Facts.OpDo.value (by kernel_rfl) rfl (v := (.bool true)) (w1 := X) ?_ (hK _ _ rfl (Below.refl _ _))
      simp only [Facts.acE, f56, f59, Act.put, List.setIfInBounds_toArray, List.set_cons_zero, List.set_cons_succ]
      go_simp
    · obtain rfl := Option.some.inj ho
      have f60 : V 60 = (.bool true) := hpre { on := 60, ground := .data } (by simp) rfl rfl
      refine Facts.OpDo.value (by kernel_rfl) rfl (v := (.bool true)) (w1 := X) ?_ (hK _ _ rfl (Below.refl _ _))
      simp only [Facts.acE, f60, Act.put, List.setIfInBounds_toArray, List.set_cons_zero, List.set_cons_succ]
      go_simp
  case HB =>
    intro V X hR hΦ
    have f61 := hΦ (61, some 4) (by simp)
    simp only [SmF, SmG] at f61
    refine Facts.wpAny_done (by kernel_rfl) ?_
    refine hQ _ _ ?_ (hB1.trans (hR.mono hB1.size))
    simp only [Facts.acE, f61, Act.put, List.setIfInBounds_toArray, List.set_cons_zero, List.set_cons_succ]
    rfl
end Go.Proofs.Ytbkfdejcmimhgaa
