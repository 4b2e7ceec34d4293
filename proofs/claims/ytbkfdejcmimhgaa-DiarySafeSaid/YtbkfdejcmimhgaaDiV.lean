/- The last test of DiarySafe. -/
import Derived.Test.YtbkfdejcmimhgaaProg
import Derived.WalkKit
import Derived.WalkLawsBesides
import Derived.Outline
import Derived.LoopTactic
import Derived.Lib.Hide
import Derived.Deep.QuietTactic
import Derived.BigQuiet
import Derived.Deep.LoopGhost
import Derived.Deep.DeepCutAuto
import Derived.Deep.CutBlock
import Derived.Deep.RegionHeld3
import Derived.Deep.RegionWith
import Derived.Deep.WholeRow
import Derived.Laws.Rows
import Derived.Laws.Tables
import Derived.Laws.ResultCell
import Derived.StillTailTactics
import Derived.Deep.DeepMust
import Derived.IntWalk
import Derived.KernelRfl
import Derived.Test.YtbkfdejcmimhgaaWWords
import Derived.Test.YtbkfdejcmimhgaaWLast
import Derived.Test.YtbkfdejcmimhgaaWMore
import Derived.RegionTactic
import Derived.Test.YtbkfdejcmimhgaaDiT
import Derived.Test.YtbkfdejcmimhgaaDiSa
namespace Go.Proofs.Ytbkfdejcmimhgaa
open Go.RowKit Go.Proofs.YtbkfdejcmimhgaaW.PrintWords Go.Proofs.YtbkfdejcmimhgaaW.PrintMore Go.Proofs.Ytbkfdejcmimhgaa.PDiaryExact
set_option linter.unusedVariables false
set_option linter.unusedSimpArgs false
def sfV (l more : List S39) (kk : Nat) : DSt := ⟨131072, l ++ more.take kk, (l.length : Int) + kk, false, 1, 0, 0, kk⟩
def sfpv (A A9 Am : Option Addr) (n c n9 c9 nm cm kk : Nat) (E : Int) : Nat → Option Value
  | 0 => some (.int .i64 0)
  | 1 | 2 | 10 => some (.bool true)
  | 3 => some (.slice A9 n9 c9)
  | 4 => some (.slice A n c)
  | 6 => some (.slice Am nm cm)
  | 7 => some (.int .i64 E)
  | 8 => some (.slice Am kk cm)
  | _ => none
def SfI (W0 : World) (l k2 : List S39) (pv : Nat → Option Value) (L : Nat → Bool) (V : Nat → Value) (w : World) : Prop :=
  (∀ i v, pv i = some v → L i = true → V i = v) ∧ Below W0.heap.size W0 w ∧ (L 9 = false → L 5 = true → Kd.N k39 39 w W0.heap.size (fun _ => True) (V 5) l) ∧ (L 10 = false → L 9 = true → Kd.N k39 39 w W0.heap.size (fun _ => True) (V 9) (l ++ k2)) ∧ (L 9 = true → L 5 = true) ∧ (L 10 = true → L 9 = true)
section
variable {W0 w : World} {l k2 : List S39} {pv : Nat → Option Value} {L : Nat → Bool} {V : Nat → Value}
theorem SfI.pv_up (h : ∀ i v, pv i = some v → L i = true → V i = v) (i : Nat) (v : Value) (hv : ∀ u, pv i = some u → u = v) : ∀ j u, pv j = some u → put1 L i j = true → Facts.up V i v j = u := fun j u hu hj => by
  by_cases e : j = i
  · subst e; rw [hv u hu]; simp [Facts.up]
  · simp only [put1, if_neg e] at hj; simp only [Facts.up, if_neg e]; exact h j u hu hj
theorem SfI.pure (h : SfI W0 l k2 pv L V w) (i : Nat) (v : Value) (hv : pv i = some v) (h5 : i ≠ 5) (h9 : i ≠ 9) (h10 : i ≠ 10) : SfI W0 l k2 pv (put1 L i) (Facts.up V i v) w := by
  obtain ⟨a, b, c, d, e, f⟩ := h
  refine ⟨SfI.pv_up a i v (fun u hu => by rw [hv] at hu; exact (Option.some.inj hu).symm), b, ?_, ?_, ?_, ?_⟩
  all_goals simpa only [put1, Facts.up, if_neg (Ne.symm h5), if_neg (Ne.symm h9), if_neg (Ne.symm h10)]
theorem SfI.twins (h : SfI W0 l k2 pv L V w) (h5 : L 5 = false) (hp : pv 5 = none) (v : Value) (w' : World) (hN : Kd.N k39 39 w' w.heap.size (fun k => w.heap.size ≤ k) v l) (hb : Below w.heap.size w w') : SfI W0 l k2 pv (put1 L 5) (Facts.up V 5 v) w' := by
  obtain ⟨a, b, c, d, e, f⟩ := h
  have h9 : L 9 = false := by
    cases q : L 9 with
    | false => rfl
    | true => rw [e q] at h5; cases h5
  have h10 : L 10 = false := by
    cases q : L 10 with
    | false => rfl
    | true => rw [f q] at h9; cases h9
  refine ⟨SfI.pv_up a 5 v (fun u hu => by rw [hp] at hu; cases hu), b.trans (hb.mono b.size), ?_, ?_, ?_, ?_⟩
  · intro _ _
    have e5 : Facts.up V 5 v 5 = v := by simp [Facts.up]
    rw [e5]
    exact Kd.N_mono (Kd.N_lower hN b.size) (fun _ _ => trivial)
  · intro _ q; simp [put1, h9] at q
  · intro _; simp [put1]
  · intro q; simp [put1, h10] at q
theorem SfI.appended (h : SfI W0 l k2 pv L V w) (h5 : L 5 = true) (h9 : L 9 = false) (hp : pv 9 = none) (v : Value) (w' : World) (hN : Kd.N k39 39 w' W0.heap.size (fun _ => True) v (l ++ k2)) (hb : Below W0.heap.size W0 w') : SfI W0 l k2 pv (put1 L 9) (Facts.up V 9 v) w' := by
  obtain ⟨a, b, c, d, e, f⟩ := h
  have h10 : L 10 = false := by
    cases q : L 10 with
    | false => rfl
    | true => rw [f q] at h9; cases h9
  refine ⟨SfI.pv_up a 9 v (fun u hu => by rw [hp] at hu; cases hu), hb, ?_, ?_, ?_, ?_⟩
  · intro q; simp [put1] at q
  · intro _ _
    have e9 : Facts.up V 9 v 9 = v := by simp [Facts.up]
    rw [e9]
    exact hN
  · intro _; simp [put1, h5]
  · intro q; simp [put1, h10] at q
theorem SfI.asked (h : SfI W0 l k2 pv L V w) (h9 : L 9 = true) (hp : pv 10 = some (.bool true)) (w' : World) (hb : Below w.heap.size w w') : SfI W0 l k2 pv (put1 L 10) (Facts.up V 10 (.bool true)) w' := by
  obtain ⟨a, b, c, d, e, f⟩ := h
  refine ⟨SfI.pv_up a 10 _ (fun u hu => by rw [hp] at hu; exact (Option.some.inj hu).symm), b.trans (hb.mono b.size), ?_, ?_, ?_, ?_⟩
  · intro q; simp [put1, h9] at q
  · intro q; simp [put1] at q
  · intro _; simp [put1, e h9]
  · intro _; simp [put1, h9]
end
/-- What the operations of the last test yield. -/
def SfG (g : Nat) (A : Option Addr) (n c : Nat) (E : Int) : Nat → Value → Prop
  | 11, v | 12, v | 16, v | 17, v | 18, v | 25, v | 26, v | 27, v | 28, v | 29, v | 30, v => v = .bool true
  | 13, v | 19, v => v = .pointer (some ⟨g, 0, none⟩)
  | 14, v | 15, v | 23, v => v = .int .i64 E
  | 20, v | 24, v => v = .int .i64 ((n : Int) + E)
  | 21, v => v = .slice A n c
  | 22, v => v = .int .i64 n
  | _, _ => True
def SfF (g : Nat) (A : Option Addr) (n c kk : Nat) (E : Int) (i : Nat) (v : Value) (_ : World) : Prop := SfG g A n c E i v
theorem SfF.stab (g : Nat) (A : Option Addr) (n c kk : Nat) (E : Int) : ∀ i v w1 w2, SfF g A n c kk E i v w1 → Below w1.heap.size w1 w2 → SfF g A n c kk E i v w2 := fun i v w1 w2 h _ => h
set_option maxRecDepth 100000 in
abbrev ops27 : Array Oper := #[{ dst := some 119, op := Go.Op.move (Go.Operand.tmp 8), type := 25, pos := "law.go:139", after := #[], guard := none }, { dst := some 120, op := Go.Op.binOp Go.BinOp.eql 25 (Go.Operand.tmp 119) (Go.Operand.const (Go.Value.int Go.IntKind.i64 0)) 25, type := 4, pos := "law.go:139", after := #[{ on := 0, ground := Go.Ground.data }], guard := none }, { dst := some 121, op := Go.Op.move (Go.Operand.tmp 120), type := 4, pos := "law.go:139", after := #[{ on := 1, ground := Go.Ground.data }], guard := none }, { dst := some 122, op := Go.Op.move (Go.Operand.tmp 16), type := 22, pos := "law.go:139", after := #[{ on := 2, ground := Go.Ground.guard }], guard := some (2, true) }, { dst := some 123, op := Go.Op.move (Go.Operand.tmp 0), type := 22, pos := "law.go:139", after := #[{ on := 2, ground := Go.Ground.guard }], guard := some (2, true) }, { dst := some 124, op := Go.Op.call { callee := Go.Callee.value (Go.Operand.func 27), args := #[Go.Operand.tmp 123], argTypes := #[22] }, type := 22, pos := "law.go:139", after := #[{ on := 4, ground := Go.Ground.data }, { on := 2, ground := Go.Ground.chain }, { on := 2, ground := Go.Ground.guard }], guard := some (2, true) }, { dst := some 125, op := Go.Op.move (Go.Operand.tmp 1), type := 22, pos := "law.go:139", after := #[{ on := 2, ground := Go.Ground.guard }], guard := some (2, true) }, { dst := some 126, op := Go.Op.move (Go.Operand.tmp 13), type := 3, pos := "law.go:139", after := #[{ on := 2, ground := Go.Ground.guard }], guard := some (2, true) }, { dst := some 127, op := Go.Op.slice 22 (Go.Operand.tmp 125) none (some (Go.Operand.tmp 126)) none, type := 22, pos := "law.go:139", after := #[{ on := 6, ground := Go.Ground.data }, { on := 7, ground := Go.Ground.data }, { on := 2, ground := Go.Ground.guard }], guard := some (2, true) }, { dst := some 128, op := Go.Op.call { callee := Go.Callee.builtin Go.Builtin.append, args := #[Go.Operand.tmp 124, Go.Operand.tmp 127], argTypes := #[22, 22] }, type := 22, pos := "law.go:139", after := #[{ on := 5, ground := Go.Ground.data }, { on := 8, ground := Go.Ground.data }, { on := 5, ground := Go.Ground.chain }, { on := 2, ground := Go.Ground.guard }], guard := some (2, true) }, { dst := some 129, op := Go.Op.call { callee := Go.Callee.value (Go.Operand.func 19), args := #[Go.Operand.tmp 122, Go.Operand.tmp 128], argTypes := #[22, 22] }, type := 4, pos := "law.go:139", after := #[{ on := 3, ground := Go.Ground.data }, { on := 9, ground := Go.Ground.data }, { on := 9, ground := Go.Ground.chain }, { on := 2, ground := Go.Ground.guard }], guard := some (2, true) }, { dst := some 130, op := Go.Op.pick (Go.Operand.tmp 121) (Go.Operand.tmp 129) (Go.Operand.const (Go.Value.bool false)), type := 4, pos := "law.go:139", after := #[{ on := 2, ground := Go.Ground.data }, { on := 10, ground := Go.Ground.data }], guard := none }, { dst := some 131, op := Go.Op.move (Go.Operand.tmp 130), type := 4, pos := "law.go:139", after := #[{ on := 11, ground := Go.Ground.data }, { on := 10, ground := Go.Ground.chain }], guard := none }, { dst := some 132, op := Go.Op.move (Go.Operand.tmp 7), type := 24, pos := "law.go:139", after := #[{ on := 12, ground := Go.Ground.guard }], guard := some (12, true) }, { dst := some 133, op := Go.Op.call { callee := Go.Callee.value (Go.Operand.func 20), args := #[Go.Operand.tmp 132], argTypes := #[24] }, type := 3, pos := "law.go:139", after := #[{ on := 13, ground := Go.Ground.data }, { on := 12, ground := Go.Ground.chain }, { on := 12, ground := Go.Ground.guard }], guard := some (12, true) }, { dst := some 134, op := Go.Op.move (Go.Operand.tmp 13), type := 3, pos := "law.go:139", after := #[{ on := 12, ground := Go.Ground.guard }], guard := some (12, true) }, { dst := some 135, op := Go.Op.binOp Go.BinOp.eql 3 (Go.Operand.tmp 133) (Go.Operand.tmp 134) 3, type := 4, pos := "law.go:139", after := #[{ on := 14, ground := Go.Ground.data }, { on := 15, ground := Go.Ground.data }, { on := 12, ground := Go.Ground.guard }], guard := some (12, true) }, { dst := some 136, op := Go.Op.pick (Go.Operand.tmp 131) (Go.Operand.tmp 135) (Go.Operand.const (Go.Value.bool false)), type := 4, pos := "law.go:139", after := #[{ on := 12, ground := Go.Ground.data }, { on := 16, ground := Go.Ground.data }], guard := none }, { dst := some 137, op := Go.Op.move (Go.Operand.tmp 136), type := 4, pos := "law.go:139", after := #[{ on := 17, ground := Go.Ground.data }, { on := 14, ground := Go.Ground.chain }], guard := none }, { dst := some 138, op := Go.Op.move (Go.Operand.tmp 7), type := 24, pos := "law.go:139", after := #[{ on := 18, ground := Go.Ground.guard }], guard := some (18, true) }, { dst := some 139, op := Go.Op.call { callee := Go.Callee.value (Go.Operand.func 25), args := #[Go.Operand.tmp 138], argTypes := #[24] }, type := 3, pos := "law.go:139", after := #[{ on := 19, ground := Go.Ground.data }, { on := 18, ground := Go.Ground.chain }, { on := 18, ground := Go.Ground.guard }], guard := some (18, true) }, { dst := some 140, op := Go.Op.move (Go.Operand.tmp 0), type := 22, pos := "law.go:139", after := #[{ on := 18, ground := Go.Ground.guard }], guard := some (18, true) }, { dst := some 141, op := Go.Op.call { callee := Go.Callee.builtin Go.Builtin.len, args := #[Go.Operand.tmp 140], argTypes := #[22] }, type := 3, pos := "law.go:139", after := #[{ on := 21, ground := Go.Ground.data }, { on := 18, ground := Go.Ground.guard }], guard := some (18, true) }, { dst := some 142, op := Go.Op.move (Go.Operand.tmp 13), type := 3, pos := "law.go:139", after := #[{ on := 18, ground := Go.Ground.guard }], guard := some (18, true) }, { dst := some 143, op := Go.Op.binOp Go.BinOp.add 3 (Go.Operand.tmp 141) (Go.Operand.tmp 142) 3, type := 3, pos := "law.go:139", after := #[{ on := 22, ground := Go.Ground.data }, { on := 23, ground := Go.Ground.data }, { on := 18, ground := Go.Ground.guard }], guard := some (18, true) }, { dst := some 144, op := Go.Op.binOp Go.BinOp.eql 3 (Go.Operand.tmp 139) (Go.Operand.tmp 143) 3, type := 4, pos := "law.go:139", after := #[{ on := 20, ground := Go.Ground.data }, { on := 24, ground := Go.Ground.data }, { on := 18, ground := Go.Ground.guard }], guard := some (18, true) }, { dst := some 145, op := Go.Op.pick (Go.Operand.tmp 137) (Go.Operand.tmp 144) (Go.Operand.const (Go.Value.bool false)), type := 4, pos := "law.go:139", after := #[{ on := 18, ground := Go.Ground.data }, { on := 25, ground := Go.Ground.data }], guard := none }, { dst := some 146, op := Go.Op.move (Go.Operand.tmp 145), type := 4, pos := "law.go:139", after := #[{ on := 26, ground := Go.Ground.data }, { on := 20, ground := Go.Ground.chain }], guard := none }, { dst := some 147, op := Go.Op.call { callee := Go.Callee.value (Go.Operand.func 14), args := #[], argTypes := #[] }, type := 4, pos := "law.go:139", after := #[{ on := 27, ground := Go.Ground.chain }, { on := 27, ground := Go.Ground.guard }], guard := some (27, true) }, { dst := some 148, op := Go.Op.pick (Go.Operand.tmp 146) (Go.Operand.tmp 147) (Go.Operand.const (Go.Value.bool false)), type := 4, pos := "law.go:139", after := #[{ on := 27, ground := Go.Ground.data }, { on := 28, ground := Go.Ground.data }], guard := none }, { dst := some 6, op := Go.Op.assign (Go.Operand.tmp 148), type := 4, pos := "law.go:139", after := #[{ on := 29, ground := Go.Ground.data }, { on := 28, ground := Go.Ground.chain }, { on := 0, ground := Go.Ground.phase }, { on := 1, ground := Go.Ground.phase }, { on := 2, ground := Go.Ground.phase }, { on := 3, ground := Go.Ground.phase }, { on := 4, ground := Go.Ground.phase }, { on := 5, ground := Go.Ground.phase }, { on := 6, ground := Go.Ground.phase }, { on := 7, ground := Go.Ground.phase }, { on := 8, ground := Go.Ground.phase }, { on := 9, ground := Go.Ground.phase }, { on := 10, ground := Go.Ground.phase }, { on := 11, ground := Go.Ground.phase }, { on := 12, ground := Go.Ground.phase }, { on := 13, ground := Go.Ground.phase }, { on := 14, ground := Go.Ground.phase }, { on := 15, ground := Go.Ground.phase }, { on := 16, ground := Go.Ground.phase }, { on := 17, ground := Go.Ground.phase }, { on := 18, ground := Go.Ground.phase }, { on := 19, ground := Go.Ground.phase }, { on := 20, ground := Go.Ground.phase }, { on := 21, ground := Go.Ground.phase }, { on := 22, ground := Go.Ground.phase }, { on := 23, ground := Go.Ground.phase }, { on := 24, ground := Go.Ground.phase }, { on := 25, ground := Go.Ground.phase }, { on := 26, ground := Go.Ground.phase }, { on := 27, ground := Go.Ground.phase }, { on := 28, ground := Go.Ground.phase }, { on := 29, ground := Go.Ground.phase }], guard := none }]

theorem append_rows_ {α : Type} {P : Program} {ops : Array Oper} {Q : Exit → Act → World → Prop} {o : Oper} {d' : Option Tmp} {a : Act} {K : Act → World → Prop} (d : Kd α) {w0 W : World} (base : Nat) (hw : Region.wanted o (yielded ops a.tmps) = true) (hN : o.dst = d') (s x : Operand) (t e : TypeId) (z : Value) (bytes : Nat)
    (ho : o.op = .call { callee := .builtin .append, args := #[s, x], argTypes := #[t, t] })
    (ht : P.underlying t = some (.slice e)) (hinfo : (P.info? e).map (fun i => (i.zero, i.size, i.bytes)) = some (some z, d.sz, bytes)) (hz : z.cells.size = d.sz) (hs0 : 0 < d.sz) (hb0 : 0 < bytes)
    (v : Value) (xs ys : List α) (A : Option Addr) (m c : Nat) (ok okp : Nat → Prop) (hs : a.eval s = v) (hx : a.eval x = .slice A m c)
    (HO : Kd.N d e W base ok v xs) (HR : Kd.F d W okp A m ys) (hokp : ∀ k, okp k → ok k ∧ some k ≠ v.ownBlock) (hfresh : ∀ k, W.heap.size ≤ k → ok k)
    (HB : Below base w0 W) (hbase : base ≤ W.heap.size) (hl : (xs.length + m) * bytes ≤ 140737488355328)
    (h : ∀ v1 w1, Kd.N d e w1 base ok v1 (xs ++ ys) → Below base w0 w1 → K (a.put d' v1) w1) : Facts.OpDo P ops Q o d' a W K := by
  subst hN
  exact ⟨Kd.N_append_rows_step d base hw s x t e z bytes ho ht hinfo hz hs0 hb0 v xs ys A m c ok okp hs hx HO HR hokp hfresh HB hbase hl (fun v1 w1 h1 h2 _ _ => h v1 w1 h1 h2)⟩
set_option maxRecDepth 100000 in
set_option maxHeartbeats 8000000 in
theorem safe_last (Q : Exit → Act → World → Prop) (t2 t3 t4 t5 t6 t9 t10 t11 t12 t14 t15 t17 t18 t19 t20 t21 t22 t23 t24 t25 t26 t27 t28 t29 t30 t31 t32 t33 t34 t35 t36 t37 t38 t39 t40 t41 t42 t43 t44 t45 t46 t47 t48 t49 t50 t51 t52 t53 t54 t55 t56 t57 t58 t59 t60 t61 t62 t63 t64 t65 t66 t67 t68 t69 t70 t71 t72 t73 t74 t75 t76 t77 t78 t79 t80 t81 t82 t83 t84 t85 t86 t87 t88 t89 t90 t91 t92 t93 t94 t95 t96 t97 t98 t99 t100 t101 t102 t103 t104 t105 t106 t107 t108 t109 t110 t111 t112 t113 t114 t115 t116 t117 t118 : Value) (l more : List S39) (A A9 Am : Option Addr) (c c9 cm g1 kk n9 B : Nat) (E : Int) (w w10 : World) (h60 : l.length ≤ 60) (m60 : more.length ≤ 60) (hkl : kk ≤ more.length) (HE : Aside0 ((kk : Int) = E))
    (HV : Aside0 (Kd.F k39 w (fun j => j < B) A l.length l)) (HVK : Aside0 (Kd.F k39 w (fun j => j < B) Am kk (more.take kk))) (hc : l.length ≤ c) (HCUT : Aside0 (∀ W : World, (Instr.slice 22 (.slice Am more.length cm) none (some (.int .i64 E)) none).run Try.prog W = .ok (.slice Am kk cm) W))
    (HF : Aside0 (Fine l)) (HSMM : Aside0 (∀ y ∈ l ++ more.take kk, Small y)) (HG : Aside0 (Below B w w10)) (HZ : Aside0 (B ≤ w10.heap.size)) (HD : Aside0 (Db B w10 g1 (sfV l more kk))) (HC : Aside0 (k39.C w10 A9 n9 (l ++ more.take kk))) (HL : Aside0 (n9 ≤ c9))
    (hQ : ∀ (x : Array Value) (W : World), x.getD 6 undef = .bool true → Below B w W → Q .normal ⟨x, []⟩ W) : (Code.region 27 ops27 true).wp Try.prog Q ⟨List.toArray (Value.slice A l.length c :: Value.slice Am more.length cm :: t2 :: t3 :: t4 :: t5 :: t6 :: Value.pointer (some ⟨g1, 0, none⟩) :: Value.int .i64 0 :: t9 :: t10 :: t11 :: t12 :: Value.int .i64 E :: t14 :: t15 :: Value.slice A9 n9 c9 :: t17 :: t18 :: t19 :: t20 :: t21 :: t22 :: t23 :: t24 :: t25 :: t26 :: t27 :: t28 :: t29 :: t30 :: t31 :: t32 :: t33 :: t34 :: t35 :: t36 :: t37 :: t38 :: t39 :: t40 :: t41 :: t42 :: t43 :: t44 :: t45 :: t46 :: t47 :: t48 :: t49 :: t50 :: t51 :: t52 :: t53 :: t54 :: t55 :: t56 :: t57 :: t58 :: t59 :: t60 :: t61 :: t62 :: t63 :: t64 :: t65 :: t66 :: t67 :: t68 :: t69 :: t70 :: t71 :: t72 :: t73 :: t74 :: t75 :: t76 :: t77 :: t78 :: t79 :: t80 :: t81 :: t82 :: t83 :: t84 :: t85 :: t86 :: t87 :: t88 :: t89 :: t90 :: t91 :: t92 :: t93 :: t94 :: t95 :: t96 :: t97 :: t98 :: t99 :: t100 :: t101 :: t102 :: t103 :: t104 :: t105 :: t106 :: t107 :: t108 :: t109 :: t110 :: t111 :: t112 :: t113 :: t114 :: t115 :: t116 :: t117 :: t118 :: undef :: undef :: undef :: undef :: undef :: undef :: undef :: undef :: undef :: undef :: undef :: undef :: undef :: undef :: undef :: undef :: undef :: undef :: undef :: undef :: undef :: undef :: undef :: undef :: undef :: undef :: undef :: undef :: undef :: undef :: []), []⟩ w10 := by
  have hE0 : 0 ≤ E := by rw [← HE.out]; omega
  have hE1 : E ≤ 60 := by rw [← HE.out]; omega
  have HSE := Aside0.mk (show (sfV l more kk).safe = (l.length : Int) + E by show (l.length : Int) + kk = _; rw [HE.out])
  refine Facts.region_any (n := 20 + 11) #[false, false, false, false, false, false, false, false, false, false, false, false, false, false, false, false, false, false, false, false, false, false, false, false, false, false, false, false, false, false, false] (by kernel_rfl) rfl (by kernel_rfl) (fun W0 hW0 hB0 => ?_)
  have hB1 : Below w10.heap.size w10 W0 := hB0 _
  clear hW0 hB0
  have ZN := Aside0.mk (show B ≤ W0.heap.size from Nat.le_trans HZ.out hB1.size)
  refine Facts.wpAny_inv [(0, some 119), (1, some 120), (2, some 121), (3, some 122), (4, some 123), (5, some 124), (6, some 125), (7, some 126), (8, some 127), (9, some 128), (10, some 129)] _ #[true, true, true, true, true, true, true, true, true, true, true, false, false, false, false, false, false, false, false, false, false, false, false, false, false, false, false, false, false, false, false] (by kernel_rfl) 20 _ _ (SfI W0 l (more.take kk) (sfpv A A9 Am l.length c n9 c9 more.length cm kk E)) ?hop ?H (fun _ => undef) (by kernel_rfl) ?hI
  case hI =>
    refine ⟨fun i v _ h => ?_, Below.refl _ _, fun _ h => ?_, fun _ h => ?_, fun h => ?_, fun h => ?_⟩
    · exfalso
      revert h
      match i with
      | 0 | 1 | 2 | 3 | 4 | 5 | 6 | 7 | 8 | 9 | 10 | 11 | 12 | 13 | 14 | 15 | 16 | 17 | 18 | 19 | 20 | 21 | 22 | 23 | 24 | 25 | 26 | 27 | 28 | 29 | 30 => exact (by decide)
      | n + 31 => simp
    all_goals exact absurd h (by decide)
  case hop =>
    intro z hz o ho L V X hI hL hpre K hK
    simp only [List.mem_cons, List.not_mem_nil, or_false] at hz
    rcases hz with rfl | rfl | rfl | rfl | rfl | rfl | rfl | rfl | rfl | rfl | rfl
    · obtain rfl := Option.some.inj ho
      refine Facts.OpDo.value (by kernel_rfl) rfl (v := (.int .i64 0)) (w1 := X) ?_ (hK _ _ (hI.pure 0 _ rfl (by decide) (by decide) (by decide)))
      simp only [Facts.acE, Act.put, List.setIfInBounds_toArray, List.set_cons_zero, List.set_cons_succ]
      go_simp
    · obtain rfl := Option.some.inj ho
      have f0 : V 0 = (.int .i64 0) := hI.1 0 _ rfl (hpre { on := 0, ground := .data } (by simp) rfl rfl)
      refine Facts.OpDo.value (by kernel_rfl) rfl (v := (.bool true)) (w1 := X) ?_ (hK _ _ (hI.pure 1 _ rfl (by decide) (by decide) (by decide)))
      simp only [Facts.acE, f0, Act.put, List.setIfInBounds_toArray, List.set_cons_zero, List.set_cons_succ]
      go_simp
    · obtain rfl := Option.some.inj ho
      have f1 : V 1 = .bool true := hI.1 1 _ rfl (hpre { on := 1, ground := .data } (by simp) rfl rfl)
      refine Facts.OpDo.value (by kernel_rfl) rfl (v := (.bool true)) (w1 := X) ?_ (hK _ _ (hI.pure 2 _ rfl (by decide) (by decide) (by decide)))
      simp only [Facts.acE, f1, Act.put, List.setIfInBounds_toArray, List.set_cons_zero, List.set_cons_succ]
      go_simp
    · obtain rfl := Option.some.inj ho
      have f2 : V 2 = .bool true := hI.1 2 _ rfl (hpre { on := 2, ground := .guard } (by simp) rfl rfl)
      refine Facts.OpDo.value (by simp only [Facts.acE, f2, Act.put, List.setIfInBounds_toArray, List.set_cons_zero, List.set_cons_succ]; kernel_rfl) rfl (v := (.slice A9 n9 c9)) (w1 := X) ?_ (hK _ _ (hI.pure 3 _ rfl (by decide) (by decide) (by decide)))
      simp only [Facts.acE, f2, Act.put, List.setIfInBounds_toArray, List.set_cons_zero, List.set_cons_succ]
      go_simp
    · obtain rfl := Option.some.inj ho
      have f2 : V 2 = .bool true := hI.1 2 _ rfl (hpre { on := 2, ground := .guard } (by simp) rfl rfl)
      refine Facts.OpDo.value (by simp only [Facts.acE, f2, Act.put, List.setIfInBounds_toArray, List.set_cons_zero, List.set_cons_succ]; kernel_rfl) rfl (v := (.slice A l.length c)) (w1 := X) ?_ (hK _ _ (hI.pure 4 _ rfl (by decide) (by decide) (by decide)))
      simp only [Facts.acE, f2, Act.put, List.setIfInBounds_toArray, List.set_cons_zero, List.set_cons_succ]
      go_simp
    · obtain rfl := Option.some.inj ho
      have f2 : V 2 = .bool true := hI.1 2 _ rfl (hpre { on := 2, ground := .guard } (by simp) rfl rfl)
      have f4 : V 4 = (.slice A l.length c) := hI.1 4 _ rfl (hpre { on := 4, ground := .data } (by simp) rfl rfl)
      refine Facts.OpDo.goes Try.func27 (by kernel_rfl) rfl #[V 4] (by simp only [Facts.acE, f2, Act.put, List.setIfInBounds_toArray, List.set_cons_zero, List.set_cons_succ]; kernel_rfl) rfl rfl (by kernel_rfl) ?_
      rw [f4]
      refine (rtwins_any A c l X (Kd.F_now (Kd.F_step HV.out (fun j hj _ => ((HG.out.trans (hB1.mono HZ.out)).trans (hI.2.1.mono ZN.out)).block j hj))) HF.out.lites (by omega)).mono ?_
      rintro e w' ⟨v, rfl, hN, hb⟩
      exact ⟨_, rfl, hK _ _ (hI.twins hL rfl _ _ hN hb)⟩
    · obtain rfl := Option.some.inj ho
      have f2 : V 2 = .bool true := hI.1 2 _ rfl (hpre { on := 2, ground := .guard } (by simp) rfl rfl)
      refine Facts.OpDo.value (by simp only [Facts.acE, f2, Act.put, List.setIfInBounds_toArray, List.set_cons_zero, List.set_cons_succ]; kernel_rfl) rfl (v := (.slice Am more.length cm)) (w1 := X) ?_ (hK _ _ (hI.pure 6 _ rfl (by decide) (by decide) (by decide)))
      simp only [Facts.acE, f2, Act.put, List.setIfInBounds_toArray, List.set_cons_zero, List.set_cons_succ]
      go_simp
    · obtain rfl := Option.some.inj ho
      have f2 : V 2 = .bool true := hI.1 2 _ rfl (hpre { on := 2, ground := .guard } (by simp) rfl rfl)
      refine Facts.OpDo.value (by simp only [Facts.acE, f2, Act.put, List.setIfInBounds_toArray, List.set_cons_zero, List.set_cons_succ]; kernel_rfl) rfl (v := (.int .i64 E)) (w1 := X) ?_ (hK _ _ (hI.pure 7 _ rfl (by decide) (by decide) (by decide)))
      simp only [Facts.acE, f2, Act.put, List.setIfInBounds_toArray, List.set_cons_zero, List.set_cons_succ]
      go_simp
    · obtain rfl := Option.some.inj ho
      have f2 : V 2 = .bool true := hI.1 2 _ rfl (hpre { on := 2, ground := .guard } (by simp) rfl rfl)
      have f6 : V 6 = (.slice Am more.length cm) := hI.1 6 _ rfl (hpre { on := 6, ground := .data } (by simp) rfl rfl)
      have f7 : V 7 = (.int .i64 E) := hI.1 7 _ rfl (hpre { on := 7, ground := .data } (by simp) rfl rfl)
      refine Facts.OpDo.value (by simp only [Facts.acE, f2, Act.put, List.setIfInBounds_toArray, List.set_cons_zero, List.set_cons_succ]; kernel_rfl) rfl (v := (.slice Am kk cm)) (w1 := X) ?_ (hK _ _ (hI.pure 8 _ rfl (by decide) (by decide) (by decide)))
      simp only [Facts.acE, f2, f6, f7, Act.put, List.setIfInBounds_toArray, List.set_cons_zero, List.set_cons_succ]
      have hcut := HCUT.out
      go_simp
    · obtain rfl := Option.some.inj ho
      have f2 : V 2 = .bool true := hI.1 2 _ rfl (hpre { on := 2, ground := .guard } (by simp) rfl rfl)
      have f8 : V 8 = (.slice Am kk cm) := hI.1 8 _ rfl (hpre { on := 8, ground := .data } (by simp) rfl rfl)
      have l5 : L 5 = true := hpre { on := 5, ground := .data } (by simp) rfl rfl
      have hN := hI.2.2.1 hL l5
      refine append_rows_ k39 (w0 := W0) W0.heap.size (by simp only [Facts.acE, f2, Act.put, List.setIfInBounds_toArray, List.set_cons_zero, List.set_cons_succ]; kernel_rfl) rfl (.tmp 124) (.tmp 127) 22 39 (.agg #[.int .i64 0, .bool false, .string ⟨#[]⟩, .string ⟨#[]⟩, .slice none 0 0, .slice none 0 0, .bool false, .string ⟨#[]⟩, .int .i64 0, .int .i64 0, .slice none 0 0, .int .i64 0, .int .i64 0, .int .i64 0, .slice none 0 0]) 208 rfl Try.underlying22 info39 rfl (by decide) (by omega) (V 5) l (more.take kk) Am kk cm (fun _ => True) (fun j => j < B) (by kernel_rfl) (by simp only [Facts.acE, f8, Act.put, List.setIfInBounds_toArray, List.set_cons_zero, List.set_cons_succ]; kernel_rfl) hN ?_ (fun k hk => ⟨trivial, fun e => ?_⟩) (fun _ _ => trivial) hI.2.1 hI.2.1.size (by omega) ?_
      · exact Kd.F_step HVK.out (fun j hj _ => ((HG.out.trans (hB1.mono HZ.out)).trans (hI.2.1.mono ZN.out)).block j hj)
      · have h1 := Kd.N_base hN k e.symm
        have h2 := ZN.out
        omega
      · intro v1 w1 h1 h2
        exact hK _ _ (hI.appended l5 hL rfl v1 w1 h1 h2)
    · obtain rfl := Option.some.inj ho
      have f2 : V 2 = .bool true := hI.1 2 _ rfl (hpre { on := 2, ground := .guard } (by simp) rfl rfl)
      have f3 : V 3 = (.slice A9 n9 c9) := hI.1 3 _ rfl (hpre { on := 3, ground := .data } (by simp) rfl rfl)
      have l9 : L 9 = true := hpre { on := 9, ground := .data } (by simp) rfl rfl
      have hN := hI.2.2.2.1 hL l9
      obtain ⟨A7, c7, e7⟩ := Kd.N_slice hN
      rw [e7] at hN
      have hr := Kd.N_reads' hN
      refine Facts.OpDo.goes Try.func19 (by kernel_rfl) rfl #[V 3, V 9] (by simp only [Facts.acE, f2, Act.put, List.setIfInBounds_toArray, List.set_cons_zero, List.set_cons_succ]; kernel_rfl) rfl rfl (by kernel_rfl) ?_
      rw [f3, e7]
      refine (recs_at X A9 c9 n9 A7 c7 (l ++ more.take kk).length (l ++ more.take kk) HSMM.out (by show (l ++ more.take kk).length ≤ 1000; rw [List.length_append, List.length_take]; omega) (Kd.C_below HC.out (hB1.trans (hI.2.1.mono hB1.size))) HL.out hr.2.2 hr.2.1).mono ?_
      rintro e w' ⟨rfl, hb⟩
      exact ⟨_, rfl, hK _ _ (hI.asked l9 rfl _ hb)⟩
  case H =>
    intro V X hI
    have f0 : V 0 = (.int .i64 0) := hI.1 0 _ rfl rfl
    have f1 : V 1 = .bool true := hI.1 1 _ rfl rfl
    have f2 : V 2 = .bool true := hI.1 2 _ rfl rfl
    have f3 : V 3 = (.slice A9 n9 c9) := hI.1 3 _ rfl rfl
    have f4 : V 4 = (.slice A l.length c) := hI.1 4 _ rfl rfl
    have f6 : V 6 = (.slice Am more.length cm) := hI.1 6 _ rfl rfl
    have f7 : V 7 = (.int .i64 E) := hI.1 7 _ rfl rfl
    have f8 : V 8 = (.slice Am kk cm) := hI.1 8 _ rfl rfl
    have f10 : V 10 = .bool true := hI.1 10 _ rfl rfl
    have HX := Aside0.mk hI.2.1
    clear hI
    simp only [Facts.acE, f0, f1, f2, f3, f4, f6, f7, f8, f10, Act.put, List.setIfInBounds_toArray, List.set_cons_zero, List.set_cons_succ]
    clear f0 f1 f2 f3 f4 f6 f7 f8 f10
    generalize V 5 = u5
    generalize V 9 = u9
    clear V
    have i1 : IntKind.i64.wrap ((l.length : Int) + E) = (l.length : Int) + E := IntWalk.i64_in _ (by omega)
    have HXB := Aside0.mk (hB1.trans (HX.out.mono hB1.size))
    refine Facts.wpAny_eval [(11, some 130), (12, some 131), (13, some 132), (14, some 133), (15, some 134), (16, some 135), (17, some 136), (18, some 137), (19, some 138), (20, some 139), (21, some 140), (22, some 141), (23, some 142), (24, some 143), (25, some 144), (26, some 145), (27, some 146), (28, some 147), (29, some 148), (30, some 6)] _ #[true, true, true, true, true, true, true, true, true, true, true, true, true, true, true, true, true, true, true, true, true, true, true, true, true, true, true, true, true, true, true] (by kernel_rfl) 0 _ _ (fun w1 w2 => Below w1.heap.size w1 w2) (SfF g1 A l.length c kk E) Facts.below_refl Facts.below_tr (SfF.stab _ _ _ _ _ _) ?hopB ?HB (fun i => if i = 30 then t6 else undef) (by kernel_rfl)
    case hopB =>
      intro z hz o ho V X hR hpre K hK
      simp only [List.mem_cons, List.not_mem_nil, or_false] at hz
      rcases hz with rfl | rfl | rfl | rfl | rfl | rfl | rfl | rfl | rfl | rfl | rfl | rfl | rfl | rfl | rfl | rfl | rfl | rfl | rfl | rfl
      · obtain rfl := Option.some.inj ho
        refine Facts.OpDo.value (by kernel_rfl) rfl (v := (.bool true)) (w1 := X) ?_ (hK _ _ rfl (Below.refl _ _))
        simp only [Facts.acE, Act.put, List.setIfInBounds_toArray, List.set_cons_zero, List.set_cons_succ]
        go_simp
      · obtain rfl := Option.some.inj ho
        have f11 : V 11 = .bool true := hpre { on := 11, ground := .data } (by simp) rfl rfl
        refine Facts.OpDo.value (by kernel_rfl) rfl (v := (.bool true)) (w1 := X) ?_ (hK _ _ rfl (Below.refl _ _))
        simp only [Facts.acE, f11, Act.put, List.setIfInBounds_toArray, List.set_cons_zero, List.set_cons_succ]
        go_simp
      · obtain rfl := Option.some.inj ho
        have f12 : V 12 = .bool true := hpre { on := 12, ground := .guard } (by simp) rfl rfl
        refine Facts.OpDo.value (by simp only [Facts.acE, f12, Act.put, List.setIfInBounds_toArray, List.set_cons_zero, List.set_cons_succ]; kernel_rfl) rfl (v := (.pointer (some ⟨g1, 0, none⟩))) (w1 := X) ?_ (hK _ _ rfl (Below.refl _ _))
        simp only [Facts.acE, f12, Act.put, List.setIfInBounds_toArray, List.set_cons_zero, List.set_cons_succ]
        go_simp
      · obtain rfl := Option.some.inj ho
        have f12 : V 12 = .bool true := hpre { on := 12, ground := .guard } (by simp) rfl rfl
        have f13 : V 13 = (.pointer (some ⟨g1, 0, none⟩)) := hpre { on := 13, ground := .data } (by simp) rfl rfl
        refine Facts.OpDo.goes Try.func20 (by kernel_rfl) rfl #[V 13] (by simp only [Facts.acE, f12, Act.put, List.setIfInBounds_toArray, List.set_cons_zero, List.set_cons_succ]; kernel_rfl) rfl rfl (by kernel_rfl) ?_
        rw [f13]
        refine (dkept_at X _ g1 (sfV l more kk) E HE.out ((HD.out.after (HXB.out.trans (hR.mono HXB.out.size))))).mono ?_
        rintro e w' ⟨rfl, rfl⟩
        exact ⟨_, rfl, hK _ _ rfl (Below.refl _ _)⟩
      · obtain rfl := Option.some.inj ho
        have f12 : V 12 = .bool true := hpre { on := 12, ground := .guard } (by simp) rfl rfl
        refine Facts.OpDo.value (by simp only [Facts.acE, f12, Act.put, List.setIfInBounds_toArray, List.set_cons_zero, List.set_cons_succ]; kernel_rfl) rfl (v := (.int .i64 E)) (w1 := X) ?_ (hK _ _ rfl (Below.refl _ _))
        simp only [Facts.acE, f12, Act.put, List.setIfInBounds_toArray, List.set_cons_zero, List.set_cons_succ]
        go_simp
      · obtain rfl := Option.some.inj ho
        have f12 : V 12 = .bool true := hpre { on := 12, ground := .guard } (by simp) rfl rfl
        have f14 : V 14 = (.int .i64 E) := hpre { on := 14, ground := .data } (by simp) rfl rfl
        have f15 : V 15 = (.int .i64 E) := hpre { on := 15, ground := .data } (by simp) rfl rfl
        refine Facts.OpDo.value (by simp only [Facts.acE, f12, Act.put, List.setIfInBounds_toArray, List.set_cons_zero, List.set_cons_succ]; kernel_rfl) rfl (v := (.bool true)) (w1 := X) ?_ (hK _ _ rfl (Below.refl _ _))
        simp only [Facts.acE, f12, f14, f15, Act.put, List.setIfInBounds_toArray, List.set_cons_zero, List.set_cons_succ]
        go_simp
      · obtain rfl := Option.some.inj ho
        have f12 : V 12 = .bool true := hpre { on := 12, ground := .data } (by simp) rfl rfl
        have f16 : V 16 = .bool true := hpre { on := 16, ground := .data } (by simp) rfl rfl
        refine Facts.OpDo.value (by kernel_rfl) rfl (v := (.bool true)) (w1 := X) ?_ (hK _ _ rfl (Below.refl _ _))
        simp only [Facts.acE, f12, f16, Act.put, List.setIfInBounds_toArray, List.set_cons_zero, List.set_cons_succ]
        go_simp
      · obtain rfl := Option.some.inj ho
        have f17 : V 17 = .bool true := hpre { on := 17, ground := .data } (by simp) rfl rfl
        refine Facts.OpDo.value (by kernel_rfl) rfl (v := (.bool true)) (w1 := X) ?_ (hK _ _ rfl (Below.refl _ _))
        simp only [Facts.acE, f17, Act.put, List.setIfInBounds_toArray, List.set_cons_zero, List.set_cons_succ]
        go_simp
      · obtain rfl := Option.some.inj ho
        have f18 : V 18 = .bool true := hpre { on := 18, ground := .guard } (by simp) rfl rfl
        refine Facts.OpDo.value (by simp only [Facts.acE, f18, Act.put, List.setIfInBounds_toArray, List.set_cons_zero, List.set_cons_succ]; kernel_rfl) rfl (v := (.pointer (some ⟨g1, 0, none⟩))) (w1 := X) ?_ (hK _ _ rfl (Below.refl _ _))
        simp only [Facts.acE, f18, Act.put, List.setIfInBounds_toArray, List.set_cons_zero, List.set_cons_succ]
        go_simp
      · obtain rfl := Option.some.inj ho
        have f18 : V 18 = .bool true := hpre { on := 18, ground := .guard } (by simp) rfl rfl
        have f19 : V 19 = (.pointer (some ⟨g1, 0, none⟩)) := hpre { on := 19, ground := .data } (by simp) rfl rfl
        refine Facts.OpDo.goes Try.func25 (by kernel_rfl) rfl #[V 19] (by simp only [Facts.acE, f18, Act.put, List.setIfInBounds_toArray, List.set_cons_zero, List.set_cons_succ]; kernel_rfl) rfl rfl (by kernel_rfl) ?_
        rw [f19]
        refine (dsafe_at X _ g1 (sfV l more kk) ((l.length : Int) + E) HSE.out ((HD.out.after (HXB.out.trans (hR.mono HXB.out.size))))).mono ?_
        rintro e w' ⟨rfl, rfl⟩
        exact ⟨_, rfl, hK _ _ rfl (Below.refl _ _)⟩
      · obtain rfl := Option.some.inj ho
        have f18 : V 18 = .bool true := hpre { on := 18, ground := .guard } (by simp) rfl rfl
        refine Facts.OpDo.value (by simp only [Facts.acE, f18, Act.put, List.setIfInBounds_toArray, List.set_cons_zero, List.set_cons_succ]; kernel_rfl) rfl (v := (.slice A l.length c)) (w1 := X) ?_ (hK _ _ rfl (Below.refl _ _))
        simp only [Facts.acE, f18, Act.put, List.setIfInBounds_toArray, List.set_cons_zero, List.set_cons_succ]
        go_simp
      · obtain rfl := Option.some.inj ho
        have f18 : V 18 = .bool true := hpre { on := 18, ground := .guard } (by simp) rfl rfl
        have f21 : V 21 = (.slice A l.length c) := hpre { on := 21, ground := .data } (by simp) rfl rfl
        refine Facts.OpDo.value (by simp only [Facts.acE, f18, Act.put, List.setIfInBounds_toArray, List.set_cons_zero, List.set_cons_succ]; kernel_rfl) rfl (v := (.int .i64 l.length)) (w1 := X) ?_ (hK _ _ rfl (Below.refl _ _))
        simp only [Facts.acE, f18, f21, Act.put, List.setIfInBounds_toArray, List.set_cons_zero, List.set_cons_succ]
        go_simp
      · obtain rfl := Option.some.inj ho
        have f18 : V 18 = .bool true := hpre { on := 18, ground := .guard } (by simp) rfl rfl
        refine Facts.OpDo.value (by simp only [Facts.acE, f18, Act.put, List.setIfInBounds_toArray, List.set_cons_zero, List.set_cons_succ]; kernel_rfl) rfl (v := (.int .i64 E)) (w1 := X) ?_ (hK _ _ rfl (Below.refl _ _))
        simp only [Facts.acE, f18, Act.put, List.setIfInBounds_toArray, List.set_cons_zero, List.set_cons_succ]
        go_simp
      · obtain rfl := Option.some.inj ho
        have f18 : V 18 = .bool true := hpre { on := 18, ground := .guard } (by simp) rfl rfl
        have f22 : V 22 = (.int .i64 l.length) := hpre { on := 22, ground := .data } (by simp) rfl rfl
        have f23 : V 23 = (.int .i64 E) := hpre { on := 23, ground := .data } (by simp) rfl rfl
        refine Facts.OpDo.value (by simp only [Facts.acE, f18, Act.put, List.setIfInBounds_toArray, List.set_cons_zero, List.set_cons_succ]; kernel_rfl) rfl (v := (.int .i64 ((l.length : Int) + E))) (w1 := X) ?_ (hK _ _ rfl (Below.refl _ _))
        simp only [Facts.acE, f18, f22, f23, Act.put, List.setIfInBounds_toArray, List.set_cons_zero, List.set_cons_succ]
        go_simp
      · obtain rfl := Option.some.inj ho
        have f18 : V 18 = .bool true := hpre { on := 18, ground := .guard } (by simp) rfl rfl
        have f20 : V 20 = (.int .i64 ((l.length : Int) + E)) := hpre { on := 20, ground := .data } (by simp) rfl rfl
        have f24 : V 24 = (.int .i64 ((l.length : Int) + E)) := hpre { on := 24, ground := .data } (by simp) rfl rfl
        refine Facts.OpDo.value (by simp only [Facts.acE, f18, Act.put, List.setIfInBounds_toArray, List.set_cons_zero, List.set_cons_succ]; kernel_rfl) rfl (v := (.bool true)) (w1 := X) ?_ (hK _ _ rfl (Below.refl _ _))
        simp only [Facts.acE, f18, f20, f24, Act.put, List.setIfInBounds_toArray, List.set_cons_zero, List.set_cons_succ]
        go_simp
      · obtain rfl := Option.some.inj ho
        have f18 : V 18 = .bool true := hpre { on := 18, ground := .data } (by simp) rfl rfl
        have f25 : V 25 = .bool true := hpre { on := 25, ground := .data } (by simp) rfl rfl
        refine Facts.OpDo.value (by kernel_rfl) rfl (v := (.bool true)) (w1 := X) ?_ (hK _ _ rfl (Below.refl _ _))
        simp only [Facts.acE, f18, f25, Act.put, List.setIfInBounds_toArray, List.set_cons_zero, List.set_cons_succ]
        go_simp
      · obtain rfl := Option.some.inj ho
        have f26 : V 26 = .bool true := hpre { on := 26, ground := .data } (by simp) rfl rfl
        refine Facts.OpDo.value (by kernel_rfl) rfl (v := (.bool true)) (w1 := X) ?_ (hK _ _ rfl (Below.refl _ _))
        simp only [Facts.acE, f26, Act.put, List.setIfInBounds_toArray, List.set_cons_zero, List.set_cons_succ]
        go_simp
      · obtain rfl := Option.some.inj ho
        have f27 : V 27 = .bool true := hpre { on := 27, ground := .guard } (by simp) rfl rfl
        refine Facts.OpDo.goes Try.func14 (by kernel_rfl) rfl #[] (by simp only [Facts.acE, f27, Act.put, List.setIfInBounds_toArray, List.set_cons_zero, List.set_cons_succ]; kernel_rfl) rfl rfl (by kernel_rfl) ?_
        refine (wakesD_any X).mono ?_
        rintro e w' ⟨rfl, h1⟩
        exact ⟨_, rfl, hK _ _ rfl h1⟩
      · obtain rfl := Option.some.inj ho
        have f27 : V 27 = .bool true := hpre { on := 27, ground := .data } (by simp) rfl rfl
        have f28 : V 28 = .bool true := hpre { on := 28, ground := .data } (by simp) rfl rfl
        refine Facts.OpDo.value (by kernel_rfl) rfl (v := (.bool true)) (w1 := X) ?_ (hK _ _ rfl (Below.refl _ _))
        simp only [Facts.acE, f27, f28, Act.put, List.setIfInBounds_toArray, List.set_cons_zero, List.set_cons_succ]
        go_simp
      · obtain rfl := Option.some.inj ho
        have f29 : V 29 = .bool true := hpre { on := 29, ground := .data } (by simp) rfl rfl
        refine Facts.OpDo.value (by kernel_rfl) rfl (v := (.bool true)) (w1 := X) ?_ (hK _ _ rfl (Below.refl _ _))
        simp only [Facts.acE, f29, Act.put, List.setIfInBounds_toArray, List.set_cons_zero, List.set_cons_succ]
        go_simp
    case HB =>
      intro V X hR hΦ
      have f30 := hΦ (30, some 6) (by simp)
      simp only [SfF, SfG] at f30
      refine Facts.wpAny_done (by kernel_rfl) ?_
      refine hQ _ _ ?_ (HG.out.trans ((HXB.out.trans (hR.mono HXB.out.size)).mono HZ.out))
      simp only [Facts.acE, f30, Act.put, List.setIfInBounds_toArray, List.set_cons_zero, List.set_cons_succ]
      rfl
end Go.Proofs.Ytbkfdejcmimhgaa
