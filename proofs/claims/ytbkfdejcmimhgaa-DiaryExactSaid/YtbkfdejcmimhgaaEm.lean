/- The two drawn steps of DiaryExact: Put and Renew, of the diary and of the reference's. -/
import Derived.Test.YtbkfdejcmimhgaaProg
import Derived.WalkKit
import Derived.WalkLawsBesides
import Derived.Outline
import Derived.LoopTactic
import Derived.Lib.Hide
import Derived.Deep.QuietTactic
import Derived.BigQuiet
import Derived.Deep.LoopGhost
import Derived.Deep.DeepCutAuto
import Derived.Deep.CutBlock
import Derived.Deep.RegionHeld3
import Derived.Deep.RegionWith
import Derived.Deep.WholeRow
import Derived.Laws.Rows
import Derived.Laws.Tables
import Derived.Laws.ResultCell
import Derived.StillTailTactics
import Derived.Deep.DeepMust
import Derived.IntWalk
import Derived.KernelRfl
import Derived.Test.YtbkfdejcmimhgaaVa
import Derived.RegionTactic
import Derived.Test.YtbkfdejcmimhgaaEk
namespace Go.Proofs.Ytbkfdejcmimhgaa
open Go.RowKit Go.Proofs.YtbkfdejcmimhgaaW.PrintWords Go.Proofs.YtbkfdejcmimhgaaW.PrintMore Go.Proofs.Ytbkfdejcmimhgaa.PDiaryExact
set_option linter.unusedVariables false
set_option linter.unusedSimpArgs false
/-- Where two calls stand: a and b are their places; p ahead of a. -/
def TwI (B : Nat) (U : Nat → Prop) (W0 : World) (g h : Nat) (s t s1 t1 : DSt) (a b p : Nat) (pv : Nat → Option Value) (L : Nat → Bool) (V : Nat → Value) (w : World) : Prop :=
  (∀ i v, pv i = some v → L i = true → V i = v) ∧ (L a = false → w = W0) ∧ (L a = true → L b = false → Pair B U w g h s1 t ∧ Sd B U W0 w) ∧ (L b = true → Pair B U w g h s1 t1 ∧ Sd B U W0 w) ∧ (L b = true → L a = true) ∧ (L a = true → L p = true)
section
variable {B : Nat} {U : Nat → Prop} {W0 w : World} {g h : Nat} {s t s1 t1 : DSt} {a b p : Nat} {pv : Nat → Option Value} {L : Nat → Bool} {V : Nat → Value}
theorem TwI.sd (hI : TwI B U W0 g h s t s1 t1 a b p pv L V w) : Sd B U W0 w := by
  cases e : L a with
  | false => rw [hI.2.1 e]; exact Sd.refl _ _ _
  | true =>
    cases e2 : L b with
    | false => exact (hI.2.2.1 e e2).2
    | true => exact (hI.2.2.2.1 e2).2
theorem TwI.pvs (h : ∀ i v, pv i = some v → L i = true → V i = v) (i : Nat) (v : Value) (hv : pv i = some v) : ∀ j u, pv j = some u → put1 L i j = true → Facts.up V i v j = u := fun j u hu hj => by
  by_cases e : j = i
  · subst e; rw [hv] at hu; injection hu with hu; simp [Facts.up, hu]
  · simp only [put1, if_neg e] at hj; simp only [Facts.up, if_neg e]; exact h j u hu hj
theorem TwI.pure (hI : TwI B U W0 g h s t s1 t1 a b p pv L V w) (i : Nat) (v : Value) (hv : pv i = some v) (ha : i ≠ a) (hb : i ≠ b) : TwI B U W0 g h s t s1 t1 a b p pv (put1 L i) (Facts.up V i v) w := by
  obtain ⟨x1, x2, x3, x4, x5, x6⟩ := hI
  refine ⟨TwI.pvs x1 i v hv, ?_, ?_, ?_, ?_, ?_⟩
  · simpa only [put1, if_neg (Ne.symm ha)] using x2
  · simpa only [put1, if_neg (Ne.symm ha), if_neg (Ne.symm hb)] using x3
  · simpa only [put1, if_neg (Ne.symm hb)] using x4
  · simpa only [put1, if_neg (Ne.symm ha), if_neg (Ne.symm hb)] using x5
  · intro q
    have q' : L a = true := by simpa only [put1, if_neg (Ne.symm ha)] using q
    simp only [put1]
    split
    · rfl
    · exact x6 q'
theorem TwI.real (hI : TwI B U W0 g h s t s1 t1 a b p pv L V w) (hab : a ≠ b) (hpa : p ≠ a) (hL : L a = false) (hp : L p = true) (v : Value) (hv : pv a = some v) (w' : World) (hP : Pair B U w' g h s1 t) (hS : Sd B U w w') : TwI B U W0 g h s t s1 t1 a b p pv (put1 L a) (Facts.up V a v) w' := by
  have hw := hI.2.1 hL
  obtain ⟨x1, x2, x3, x4, x5, x6⟩ := hI
  have hb : L b = false := by
    cases e : L b with
    | false => rfl
    | true => rw [x5 e] at hL; cases hL
  subst hw
  refine ⟨TwI.pvs x1 a v hv, fun q => ?_, fun _ _ => ⟨hP, hS⟩, fun q => ?_, fun q => ?_, fun _ => ?_⟩
  · simp [put1] at q
  · simp only [put1, if_neg (Ne.symm hab)] at q; rw [hb] at q; cases q
  · simp [put1]
  · simp only [put1, if_neg hpa]; exact hp
theorem TwI.ref (hI : TwI B U W0 g h s t s1 t1 a b p pv L V w) (hab : a ≠ b) (hpb : p ≠ b) (hL : L b = false) (ha : L a = true) (v : Value) (hv : pv b = some v) (w' : World) (hP : Pair B U w' g h s1 t1) (hS : Sd B U w w') : TwI B U W0 g h s t s1 t1 a b p pv (put1 L b) (Facts.up V b v) w' := by
  have hs := hI.sd
  obtain ⟨x1, x2, x3, x4, x5, x6⟩ := hI
  refine ⟨TwI.pvs x1 b v hv, fun q => ?_, fun _ q => ?_, fun _ => ⟨hP, hs.trans hS⟩, fun _ => ?_, fun q => ?_⟩
  · simp only [put1, if_neg hab] at q; rw [ha] at q; cases q
  · simp [put1] at q
  · simp only [put1, if_neg hab]; exact ha
  · simp only [put1, if_neg hpb]; exact x6 ha
end
theorem F_elem {V : Nat → Prop} {W : World} {A : Option Addr} {l : List S39} (hF : Kd.F k39 W V A l.length l) (h0 : 0 < l.length) : ∃ (ad : Addr) (A4 : Option Addr) (c4 : Nat) (A5 : Option Addr) (c5 : Nat) (A10 : Option Addr) (c10 : Nat) (A14 : Option Addr) (c14 : Nat), A = some ad ∧ V ad.block ∧ ad.block < W.heap.size ∧ Kd.FK k39 W V (l.getD 0 z39) (recs15 (l.getD 0 z39) (.slice A4 (l.getD 0 z39).f1.f1.length c4) (.slice A5 (l.getD 0 z39).f1.f2.length c5) (.slice A10 (l.getD 0 z39).f3.length c10) (.slice A14 (l.getD 0 z39).f7.length c14)).toList ∧ ∀ (j : Nat) (u : Value), (recs15 (l.getD 0 z39) (.slice A4 (l.getD 0 z39).f1.f1.length c4) (.slice A5 (l.getD 0 z39).f1.f2.length c5) (.slice A10 (l.getD 0 z39).f3.length c10) (.slice A14 (l.getD 0 z39).f7.length c14)).toList[j]? = some u → W.cell? (ad.add j) = some u := by
  obtain ⟨ad, c, rfl, hcl, hK, hcc, hok⟩ := Kd.F_get hF z39 0 (by omega) (by omega)
  have e0 : (0 : Int).toNat = 0 := rfl
  rw [e0] at hK hcc
  obtain ⟨A4, c4, A5, c5, A10, c10, A14, c14, rfl, _⟩ := k39_openF hK
  have hcc' : ∀ (j : Nat) (u : Value), _ → W.cell? (ad.add j) = some u := fun j u hu => by have := hcc j u hu; rwa [Nat.zero_mul, Nat.zero_add] at this
  refine ⟨ad, A4, c4, A5, c5, A10, c10, A14, c14, rfl, hok (by show 0 < 15; decide), ?_, hK, hcc'⟩
  have h1 := hcc' 0 _ rfl
  rcases Nat.lt_or_ge ad.block W.heap.size with h2 | h2
  · exact h2
  · unfold World.cell? at h1
    rw [Array.getElem?_eq_none (by rw [add_block]; exact h2)] at h1
    simp at h1
theorem add_nought (a : Addr) : a.add 0 = a := by simp [Addr.add]
theorem add_field0 (a : Addr) (j : Nat) (hj : 0 < j) : a.add j = ⟨a.block, a.off + j, none⟩ := by
  have := add_field a 0 j hj
  rwa [Nat.zero_add, add_nought] at this
set_option maxRecDepth 100000 in
abbrev ops22 : Array Oper := #[{ dst := some 73, op := Go.Op.move (Go.Operand.tmp 5), type := 24, pos := "law.go:75", after := #[], guard := none }, { dst := some 74, op := Go.Op.move (Go.Operand.tmp 11), type := 22, pos := "law.go:75", after := #[], guard := none }, { dst := some 75, op := Go.Op.indexAddr 22 (Go.Operand.tmp 74) (Go.Operand.const (Go.Value.int Go.IntKind.i64 0)), type := 0, pos := "law.go:75", after := #[{ on := 1, ground := Go.Ground.data }], guard := none }, { dst := some 76, op := Go.Op.load 39 (Go.Operand.tmp 75), type := 39, pos := "law.go:75", after := #[{ on := 2, ground := Go.Ground.data }], guard := none }, { dst := some 77, op := Go.Op.call { callee := Go.Callee.value (Go.Operand.func 13), args := #[Go.Operand.tmp 73, Go.Operand.tmp 76], argTypes := #[24, 39] }, type := 25, pos := "law.go:75", after := #[{ on := 0, ground := Go.Ground.data }, { on := 3, ground := Go.Ground.data }], guard := none }, { dst := some 78, op := Go.Op.move (Go.Operand.tmp 7), type := 55, pos := "law.go:75", after := #[], guard := none }, { dst := some 79, op := Go.Op.fieldAddr 59 (Go.Operand.tmp 10) 1, type := 0, pos := "law.go:75", after := #[], guard := none }, { dst := some 80, op := Go.Op.load 22 (Go.Operand.tmp 79), type := 22, pos := "law.go:75", after := #[{ on := 6, ground := Go.Ground.data }], guard := none }, { dst := some 81, op := Go.Op.indexAddr 22 (Go.Operand.tmp 80) (Go.Operand.const (Go.Value.int Go.IntKind.i64 0)), type := 0, pos := "law.go:75", after := #[{ on := 7, ground := Go.Ground.data }], guard := none }, { dst := some 82, op := Go.Op.load 39 (Go.Operand.tmp 81), type := 39, pos := "law.go:75", after := #[{ on := 8, ground := Go.Ground.data }], guard := none }, { dst := some 83, op := Go.Op.call { callee := Go.Callee.value (Go.Operand.func 30), args := #[Go.Operand.tmp 78, Go.Operand.tmp 82], argTypes := #[55, 39] }, type := 25, pos := "law.go:75", after := #[{ on := 5, ground := Go.Ground.data }, { on := 9, ground := Go.Ground.data }, { on := 4, ground := Go.Ground.chain }], guard := none }, { dst := some 12, op := Go.Op.assign (Go.Operand.tmp 77), type := 25, pos := "law.go:75", after := #[{ on := 4, ground := Go.Ground.data }, { on := 10, ground := Go.Ground.chain }, { on := 0, ground := Go.Ground.phase }, { on := 1, ground := Go.Ground.phase }, { on := 2, ground := Go.Ground.phase }, { on := 3, ground := Go.Ground.phase }, { on := 4, ground := Go.Ground.phase }, { on := 5, ground := Go.Ground.textOnly Go.Departure.lateStores }, { on := 6, ground := Go.Ground.textOnly Go.Departure.lateStores }, { on := 7, ground := Go.Ground.textOnly Go.Departure.lateStores }, { on := 8, ground := Go.Ground.textOnly Go.Departure.lateStores }, { on := 9, ground := Go.Ground.textOnly Go.Departure.lateStores }, { on := 10, ground := Go.Ground.textOnly Go.Departure.lateStoresUnsure }], guard := none }, { dst := some 13, op := Go.Op.assign (Go.Operand.tmp 83), type := 25, pos := "law.go:75", after := #[{ on := 10, ground := Go.Ground.data }, { on := 11, ground := Go.Ground.chain }, { on := 0, ground := Go.Ground.phase }, { on := 1, ground := Go.Ground.phase }, { on := 2, ground := Go.Ground.phase }, { on := 3, ground := Go.Ground.phase }, { on := 4, ground := Go.Ground.phase }, { on := 5, ground := Go.Ground.phase }, { on := 6, ground := Go.Ground.phase }, { on := 7, ground := Go.Ground.phase }, { on := 8, ground := Go.Ground.phase }, { on := 9, ground := Go.Ground.phase }, { on := 10, ground := Go.Ground.phase }, { on := 11, ground := Go.Ground.phase }], guard := none }]
def exputpv (g h b0 n ci cr : Nat) (ai ar : Addr) (r : Int) (x0 : S39) (I4 I5 I10 I14 A4 A5 A10 A14 : Option Addr) (j4 j5 j10 j14 c4 c5 c10 c14 : Nat) : Nat → Option Value
  | 0 => some (.pointer (some ⟨g, 0, none⟩))
  | 1 => some (.slice (some ai) n ci)
  | 2 => some (.pointer (some ai))
  | 3 => some (.agg (recs15 x0 (.slice I4 x0.f1.f1.length j4) (.slice I5 x0.f1.f2.length j5) (.slice I10 x0.f3.length j10) (.slice I14 x0.f7.length j14)))
  | 4 => some (.int .i64 r)
  | 5 => some (.pointer (some ⟨h, 0, none⟩))
  | 6 => some (.pointer (some ⟨b0, 1, none⟩))
  | 7 => some (.slice (some ar) n cr)
  | 8 => some (.pointer (some ar))
  | 9 => some (.agg (recs15 x0 (.slice A4 x0.f1.f1.length c4) (.slice A5 x0.f1.f2.length c5) (.slice A10 x0.f3.length c10) (.slice A14 x0.f7.length c14)))
  | 10 => some (.int .i64 r)
  | 11 => some (.int .i64 r)
  | 12 => some (.int .i64 r)
  | _ => none
set_option maxRecDepth 100000 in
set_option maxHeartbeats 8000000 in
theorem exput_last (Q : Exit → Act → World → Prop) (t0 t1 t2 t3 t4 t6 t8 t9 t12 t13 t14 t15 t16 t17 t18 t19 t20 t21 t22 t23 t24 t25 t26 t27 t28 t29 t30 t31 t32 t33 t34 t35 t36 t37 t38 t39 t40 t41 t42 t43 t44 t45 t46 t47 t48 t49 t50 t51 t52 t53 t54 t55 t56 t57 t58 t59 t60 t61 t62 t63 t64 t65 t66 t67 t68 t69 t70 t71 t72 t73 t74 t75 t76 t77 t78 t79 t80 t81 t82 t83 t84 t85 t86 t87 t88 t89 t90 t91 t92 t93 t94 t95 t96 t97 t98 t99 t100 t101 t102 t103 t104 t105 t106 t107 t108 t109 t110 t111 t112 t113 t114 t115 t116 t117 t118 t119 t120 t121 t122 t123 t124 t125 t126 t127 t128 t129 t130 t131 t132 t133 t134 t135 t136 t137 t138 t139 t140 t141 t142 t143 t144 t145 t146 t147 t148 t149 t150 t151 t152 t153 t154 t155 t156 t157 t158 t159 t160 t161 t162 t163 t164 t165 t166 t167 t168 t169 t170 t171 t172 t173 t174 t175 t176 t177 t178 t179 t180 t181 : Value) (B i : Nat) (U : Nat → Prop) (w W1 : World) (g h b0 n : Nat) (Ai Ar : Option Addr) (ci cr : Nat) (s t : DSt) (l : List S39) (r : Int) (VI : Nat → Prop) (hP : Aside0 (Pair B U W1 g h s t)) (HB : Aside0 (Bd i s)) (HBT : Aside0 (Bd i t)) (hi : i ≤ 40) (hn : l.length = n) (HS : Aside0 (∀ y ∈ l, Small y)) (HFI : Aside0 (Kd.F k39 W1 VI Ai n l)) (HVU : Aside0 (∀ k, VI k → U k)) (HFA : Aside0 (Kd.F k39 W1 (fun k => k < B) Ar n l)) (HU0 : Aside0 (U b0)) (HL0 : Aside0 (b0 < W1.heap.size)) (HK1 : Aside0 (W1.cell? ⟨b0, 1, none⟩ = some (.slice Ar n cr))) (h0 : 0 < n) (HR : Aside0 ((s.put (l.getD 0 z39)).1 = r)) (HRT : Aside0 ((t.rput (l.getD 0 z39)).1 = r))
    (hQ : ∀ (v73 v74 v75 v76 v77 v78 v79 v80 v81 v82 v83 : Value) (W : World), Pair B U W g h (s.put (l.getD 0 z39)).2 (t.rput (l.getD 0 z39)).2 → Sd B U W1 W → Q .normal ⟨List.toArray (t0 :: t1 :: t2 :: t3 :: t4 :: Value.pointer (some ⟨g, 0, none⟩) :: t6 :: Value.pointer (some ⟨h, 0, none⟩) :: t8 :: t9 :: Value.pointer (some ⟨b0, 0, none⟩) :: Value.slice Ai n ci :: (.int .i64 r) :: (.int .i64 r) :: t14 :: t15 :: t16 :: t17 :: t18 :: t19 :: t20 :: t21 :: t22 :: t23 :: t24 :: t25 :: t26 :: t27 :: t28 :: t29 :: t30 :: t31 :: t32 :: t33 :: t34 :: t35 :: t36 :: t37 :: t38 :: t39 :: t40 :: t41 :: t42 :: t43 :: t44 :: t45 :: t46 :: t47 :: t48 :: t49 :: t50 :: t51 :: t52 :: t53 :: t54 :: t55 :: t56 :: t57 :: t58 :: t59 :: t60 :: t61 :: t62 :: t63 :: t64 :: t65 :: t66 :: t67 :: t68 :: t69 :: t70 :: t71 :: t72 :: v73 :: v74 :: v75 :: v76 :: v77 :: v78 :: v79 :: v80 :: v81 :: v82 :: v83 :: t84 :: t85 :: t86 :: t87 :: t88 :: t89 :: t90 :: t91 :: t92 :: t93 :: t94 :: t95 :: t96 :: t97 :: t98 :: t99 :: t100 :: t101 :: t102 :: t103 :: t104 :: t105 :: t106 :: t107 :: t108 :: t109 :: t110 :: t111 :: t112 :: t113 :: t114 :: t115 :: t116 :: t117 :: t118 :: t119 :: t120 :: t121 :: t122 :: t123 :: t124 :: t125 :: t126 :: t127 :: t128 :: t129 :: t130 :: t131 :: t132 :: t133 :: t134 :: t135 :: t136 :: t137 :: t138 :: t139 :: t140 :: t141 :: t142 :: t143 :: t144 :: t145 :: t146 :: t147 :: t148 :: t149 :: t150 :: t151 :: t152 :: t153 :: t154 :: t155 :: t156 :: t157 :: t158 :: t159 :: t160 :: t161 :: t162 :: t163 :: t164 :: t165 :: t166 :: t167 :: t168 :: t169 :: t170 :: t171 :: t172 :: t173 :: t174 :: t175 :: t176 :: t177 :: t178 :: t179 :: t180 :: t181 :: []), []⟩ W) : (Code.region 22 ops22 true).wp Try.prog Q ⟨List.toArray (t0 :: t1 :: t2 :: t3 :: t4 :: Value.pointer (some ⟨g, 0, none⟩) :: t6 :: Value.pointer (some ⟨h, 0, none⟩) :: t8 :: t9 :: Value.pointer (some ⟨b0, 0, none⟩) :: Value.slice Ai n ci :: t12 :: t13 :: t14 :: t15 :: t16 :: t17 :: t18 :: t19 :: t20 :: t21 :: t22 :: t23 :: t24 :: t25 :: t26 :: t27 :: t28 :: t29 :: t30 :: t31 :: t32 :: t33 :: t34 :: t35 :: t36 :: t37 :: t38 :: t39 :: t40 :: t41 :: t42 :: t43 :: t44 :: t45 :: t46 :: t47 :: t48 :: t49 :: t50 :: t51 :: t52 :: t53 :: t54 :: t55 :: t56 :: t57 :: t58 :: t59 :: t60 :: t61 :: t62 :: t63 :: t64 :: t65 :: t66 :: t67 :: t68 :: t69 :: t70 :: t71 :: t72 :: t73 :: t74 :: t75 :: t76 :: t77 :: t78 :: t79 :: t80 :: t81 :: t82 :: t83 :: t84 :: t85 :: t86 :: t87 :: t88 :: t89 :: t90 :: t91 :: t92 :: t93 :: t94 :: t95 :: t96 :: t97 :: t98 :: t99 :: t100 :: t101 :: t102 :: t103 :: t104 :: t105 :: t106 :: t107 :: t108 :: t109 :: t110 :: t111 :: t112 :: t113 :: t114 :: t115 :: t116 :: t117 :: t118 :: t119 :: t120 :: t121 :: t122 :: t123 :: t124 :: t125 :: t126 :: t127 :: t128 :: t129 :: t130 :: t131 :: t132 :: t133 :: t134 :: t135 :: t136 :: t137 :: t138 :: t139 :: t140 :: t141 :: t142 :: t143 :: t144 :: t145 :: t146 :: t147 :: t148 :: t149 :: t150 :: t151 :: t152 :: t153 :: t154 :: t155 :: t156 :: t157 :: t158 :: t159 :: t160 :: t161 :: t162 :: t163 :: t164 :: t165 :: t166 :: t167 :: t168 :: t169 :: t170 :: t171 :: t172 :: t173 :: t174 :: t175 :: t176 :: t177 :: t178 :: t179 :: t180 :: t181 :: []), []⟩ W1 := by
  subst hn
  obtain ⟨ai, I4, j4, I5, j5, I10, j10, I14, j14, rfl, hiv, hil, hik, hic⟩ := F_elem HFI.out h0
  obtain ⟨ar, A4, c4, A5, c5, A10, c10, A14, c14, rfl, hab, _, hak, hac⟩ := F_elem HFA.out h0
  have HX0 := Aside0.mk (show Small (l.getD 0 z39) from HS.out _ (by simp [List.getD_eq_getElem?_getD, h0]))
  obtain ⟨n, hn⟩ : ∃ n, n = l.length := ⟨_, rfl⟩
  generalize l.getD 0 z39 = x0 at *
  have HIU := Aside0.mk (HVU.out _ hiv)
  have HIL := Aside0.mk hil
  have HIK := Aside0.mk hik
  have HIC := Aside0.mk hic
  have HAB := Aside0.mk hab
  have HAK := Aside0.mk hak
  have HAC := Aside0.mk hac
  clear hiv hil hik hic hab hak hac HFI HFA
  rw [← hn] at h0 HK1 hQ ⊢
  have hni : (0 : Int) < (n : Int) := by omega
  clear hn
  refine Facts.region_any (n := 0 + 13) #[false, false, false, false, false, false, false, false, false, false, false, false, false] (by kernel_rfl) rfl (by kernel_rfl) (fun W0 hW0 hB0 => ?_)
  have hB1 : Below W1.heap.size W1 W0 := hB0 _
  clear hW0 hB0
  have hP0 := hP.out.below hB1
  have hS0 := Sd.of_below (U := U) hB1 hP.out.size
  have H0 := Aside0.mk hS0
  refine Facts.wpAny_inv [(0, some 73), (1, some 74), (2, some 75), (3, some 76), (4, some 77), (5, some 78), (6, some 79), (7, some 80), (8, some 81), (9, some 82), (10, some 83), (11, some 12), (12, some 13)] _ #[true, true, true, true, true, true, true, true, true, true, true, true, true] (by kernel_rfl) 0 _ _ (TwI B U W0 g h s t (s.put x0).2 (t.rput x0).2 4 10 3 (exputpv g h b0 n ci cr ai ar r x0 I4 I5 I10 I14 A4 A5 A10 A14 j4 j5 j10 j14 c4 c5 c10 c14)) ?hop ?H (fun i => ([t73, t74, t75, t76, t77, t78, t79, t80, t81, t82, t83, t12, t13] : List Value).getD i undef) (by kernel_rfl) ?hI
  case hI =>
    refine ⟨fun i v _ h => ?_, fun _ => rfl, fun h _ => ?_, fun h => ?_, fun h => ?_, fun h => ?_⟩
    · exfalso
      revert h
      match i with
      | 0 | 1 | 2 | 3 | 4 | 5 | 6 | 7 | 8 | 9 | 10 | 11 | 12 => exact (by decide)
      | n + 13 => simp
    all_goals exact absurd h (by decide)
  case hop =>
    intro z hz o ho L V X hI hL hpre K hK
    simp only [List.mem_cons, List.not_mem_nil, or_false] at hz
    rcases hz with rfl | rfl | rfl | rfl | rfl | rfl | rfl | rfl | rfl | rfl | rfl | rfl | rfl
    · obtain rfl := Option.some.inj ho
      refine Facts.OpDo.value (by kernel_rfl) rfl (v := (.pointer (some ⟨g, 0, none⟩))) (w1 := X) ?_ (hK _ _ (hI.pure 0 _ rfl (by decide) (by decide)))
      simp only [Facts.acE, Act.put, List.setIfInBounds_toArray, List.set_cons_zero, List.set_cons_succ]
      go_simp
    · obtain rfl := Option.some.inj ho
      refine Facts.OpDo.value (by kernel_rfl) rfl (v := (.slice (some ai) n ci)) (w1 := X) ?_ (hK _ _ (hI.pure 1 _ rfl (by decide) (by decide)))
      simp only [Facts.acE, Act.put, List.setIfInBounds_toArray, List.set_cons_zero, List.set_cons_succ]
      go_simp
    · obtain rfl := Option.some.inj ho
      have f1 : V 1 = (.slice (some ai) n ci) := hI.1 1 _ rfl (hpre { on := 1, ground := .data } (by simp) rfl rfl)
      refine Facts.OpDo.value (by kernel_rfl) rfl (v := (.pointer (some ai))) (w1 := X) ?_ (hK _ _ (hI.pure 2 _ rfl (by decide) (by decide)))
      simp only [Facts.acE, f1, Act.put, List.setIfInBounds_toArray, List.set_cons_zero, List.set_cons_succ]
      go_simp
    · obtain rfl := Option.some.inj ho
      have f2 : V 2 = (.pointer (some ai)) := hI.1 2 _ rfl (hpre { on := 2, ground := .data } (by simp) rfl rfl)
      have hX : X = W0 := hI.2.1 (by cases e : L 4 with | false => rfl | true => (rw [hI.2.2.2.2.2 e] at hL; cases hL))
      have hq := fun j u hu => (cell_same (W' := X) (by rw [add_block, hX]; exact hS0.2 _ HIU.out HIL.out)).trans (HIC.out j u hu)
      have q0 : X.cell? ai = some (.int .i64 x0.f0) := by have := hq 0 _ rfl; rwa [add_nought] at this
      have q1 : X.cell? ⟨ai.block, ai.off + 1, none⟩ = some (.bool x0.f1.f0.f0) := by have := hq 1 _ rfl; rwa [add_field0 _ 1 (by omega)] at this
      have q2 : X.cell? ⟨ai.block, ai.off + 2, none⟩ = some (.string x0.f1.f0.f1) := by have := hq 2 _ rfl; rwa [add_field0 _ 2 (by omega)] at this
      have q3 : X.cell? ⟨ai.block, ai.off + 3, none⟩ = some (.string x0.f1.f0.f2) := by have := hq 3 _ rfl; rwa [add_field0 _ 3 (by omega)] at this
      have q4 : X.cell? ⟨ai.block, ai.off + 4, none⟩ = some (.slice I4 x0.f1.f1.length j4) := by have := hq 4 _ rfl; rwa [add_field0 _ 4 (by omega)] at this
      have q5 : X.cell? ⟨ai.block, ai.off + 5, none⟩ = some (.slice I5 x0.f1.f2.length j5) := by have := hq 5 _ rfl; rwa [add_field0 _ 5 (by omega)] at this
      have q6 : X.cell? ⟨ai.block, ai.off + 6, none⟩ = some (.bool x0.f1.f3) := by have := hq 6 _ rfl; rwa [add_field0 _ 6 (by omega)] at this
      have q7 : X.cell? ⟨ai.block, ai.off + 7, none⟩ = some (.string x0.f1.f4) := by have := hq 7 _ rfl; rwa [add_field0 _ 7 (by omega)] at this
      have q8 : X.cell? ⟨ai.block, ai.off + 8, none⟩ = some (.int .i64 x0.f1.f5) := by have := hq 8 _ rfl; rwa [add_field0 _ 8 (by omega)] at this
      have q9 : X.cell? ⟨ai.block, ai.off + 9, none⟩ = some (.int .i64 x0.f2) := by have := hq 9 _ rfl; rwa [add_field0 _ 9 (by omega)] at this
      have q10 : X.cell? ⟨ai.block, ai.off + 10, none⟩ = some (.slice I10 x0.f3.length j10) := by have := hq 10 _ rfl; rwa [add_field0 _ 10 (by omega)] at this
      have q11 : X.cell? ⟨ai.block, ai.off + 11, none⟩ = some (.int .i64 x0.f4) := by have := hq 11 _ rfl; rwa [add_field0 _ 11 (by omega)] at this
      have q12 : X.cell? ⟨ai.block, ai.off + 12, none⟩ = some (.int .i64 x0.f5) := by have := hq 12 _ rfl; rwa [add_field0 _ 12 (by omega)] at this
      have q13 : X.cell? ⟨ai.block, ai.off + 13, none⟩ = some (.int .i64 x0.f6) := by have := hq 13 _ rfl; rwa [add_field0 _ 13 (by omega)] at this
      have q14 : X.cell? ⟨ai.block, ai.off + 14, none⟩ = some (.slice I14 x0.f7.length j14) := by have := hq 14 _ rfl; rwa [add_field0 _ 14 (by omega)] at this
      clear hq hX
      refine Facts.OpDo.value (by kernel_rfl) rfl (v := (.agg (recs15 x0 (.slice I4 x0.f1.f1.length j4) (.slice I5 x0.f1.f2.length j5) (.slice I10 x0.f3.length j10) (.slice I14 x0.f7.length j14)))) (w1 := X) ?_ (hK _ _ (hI.pure 3 _ rfl (by decide) (by decide)))
      simp only [Facts.acE, f2, Act.put, List.setIfInBounds_toArray, List.set_cons_zero, List.set_cons_succ]
      go_simp
    · obtain rfl := Option.some.inj ho
      have f0 : V 0 = (.pointer (some ⟨g, 0, none⟩)) := hI.1 0 _ rfl (hpre { on := 0, ground := .data } (by simp) rfl rfl)
      have f3 : V 3 = (.agg (recs15 x0 (.slice I4 x0.f1.f1.length j4) (.slice I5 x0.f1.f2.length j5) (.slice I10 x0.f3.length j10) (.slice I14 x0.f7.length j14))) := hI.1 3 _ rfl (hpre { on := 3, ground := .data } (by simp) rfl rfl)
      have l3 : L 3 = true := hpre { on := 3, ground := .data } (by simp) rfl rfl
      have hX := hI.2.1 hL
      refine Facts.OpDo.goes Try.func13 (by kernel_rfl) rfl #[V 0, V 3] (by kernel_rfl) rfl rfl (by kernel_rfl) ?_
      rw [f0, f3]
      refine (pair_put (hX ▸ hP0) HB.out hi x0 _ (Kd.FK_now (Kd.FK_step HIK.out (fun k hk hlt => by rw [hX]; exact hS0.2 k (HVU.out k hk) hlt))) HX0.out).mono ?_
      rintro e w' ⟨rfl, hp, hs⟩
      rw [HR.out]
      exact ⟨_, rfl, hK _ _ (hI.real (by decide) (by decide) hL l3 _ rfl w' hp hs)⟩
    · obtain rfl := Option.some.inj ho
      refine Facts.OpDo.value (by kernel_rfl) rfl (v := (.pointer (some ⟨h, 0, none⟩))) (w1 := X) ?_ (hK _ _ (hI.pure 5 _ rfl (by decide) (by decide)))
      simp only [Facts.acE, Act.put, List.setIfInBounds_toArray, List.set_cons_zero, List.set_cons_succ]
      go_simp
    · obtain rfl := Option.some.inj ho
      refine Facts.OpDo.value (by kernel_rfl) rfl (v := (.pointer (some ⟨b0, 1, none⟩))) (w1 := X) ?_ (hK _ _ (hI.pure 6 _ rfl (by decide) (by decide)))
      simp only [Facts.acE, Act.put, List.setIfInBounds_toArray, List.set_cons_zero, List.set_cons_succ]
      go_simp
    · obtain rfl := Option.some.inj ho
      have f6 : V 6 = (.pointer (some ⟨b0, 1, none⟩)) := hI.1 6 _ rfl (hpre { on := 6, ground := .data } (by simp) rfl rfl)
      have hc : X.cell? ⟨b0, 1, none⟩ = some (.slice (some ar) n cr) := (cell_same (W' := X) (a := ⟨b0, 1, none⟩) ((hS0.trans hI.sd).2 b0 HU0.out HL0.out)).trans HK1.out
      refine Facts.OpDo.value (by kernel_rfl) rfl (v := (.slice (some ar) n cr)) (w1 := X) ?_ (hK _ _ (hI.pure 7 _ rfl (by decide) (by decide)))
      simp only [Facts.acE, f6, Act.put, List.setIfInBounds_toArray, List.set_cons_zero, List.set_cons_succ]
      go_simp
    · obtain rfl := Option.some.inj ho
      have f7 : V 7 = (.slice (some ar) n cr) := hI.1 7 _ rfl (hpre { on := 7, ground := .data } (by simp) rfl rfl)
      refine Facts.OpDo.value (by kernel_rfl) rfl (v := (.pointer (some ar))) (w1 := X) ?_ (hK _ _ (hI.pure 8 _ rfl (by decide) (by decide)))
      simp only [Facts.acE, f7, Act.put, List.setIfInBounds_toArray, List.set_cons_zero, List.set_cons_succ]
      go_simp
    · obtain rfl := Option.some.inj ho
      have f8 : V 8 = (.pointer (some ar)) := hI.1 8 _ rfl (hpre { on := 8, ground := .data } (by simp) rfl rfl)
      have hq := fun j u hu => (cell_same (W' := X) (by rw [add_block]; exact (hS0.trans hI.sd).1.block _ HAB.out)).trans (HAC.out j u hu)
      have q0 : X.cell? ar = some (.int .i64 x0.f0) := by have := hq 0 _ rfl; rwa [add_nought] at this
      have q1 : X.cell? ⟨ar.block, ar.off + 1, none⟩ = some (.bool x0.f1.f0.f0) := by have := hq 1 _ rfl; rwa [add_field0 _ 1 (by omega)] at this
      have q2 : X.cell? ⟨ar.block, ar.off + 2, none⟩ = some (.string x0.f1.f0.f1) := by have := hq 2 _ rfl; rwa [add_field0 _ 2 (by omega)] at this
      have q3 : X.cell? ⟨ar.block, ar.off + 3, none⟩ = some (.string x0.f1.f0.f2) := by have := hq 3 _ rfl; rwa [add_field0 _ 3 (by omega)] at this
      have q4 : X.cell? ⟨ar.block, ar.off + 4, none⟩ = some (.slice A4 x0.f1.f1.length c4) := by have := hq 4 _ rfl; rwa [add_field0 _ 4 (by omega)] at this
      have q5 : X.cell? ⟨ar.block, ar.off + 5, none⟩ = some (.slice A5 x0.f1.f2.length c5) := by have := hq 5 _ rfl; rwa [add_field0 _ 5 (by omega)] at this
      have q6 : X.cell? ⟨ar.block, ar.off + 6, none⟩ = some (.bool x0.f1.f3) := by have := hq 6 _ rfl; rwa [add_field0 _ 6 (by omega)] at this
      have q7 : X.cell? ⟨ar.block, ar.off + 7, none⟩ = some (.string x0.f1.f4) := by have := hq 7 _ rfl; rwa [add_field0 _ 7 (by omega)] at this
      have q8 : X.cell? ⟨ar.block, ar.off + 8, none⟩ = some (.int .i64 x0.f1.f5) := by have := hq 8 _ rfl; rwa [add_field0 _ 8 (by omega)] at this
      have q9 : X.cell? ⟨ar.block, ar.off + 9, none⟩ = some (.int .i64 x0.f2) := by have := hq 9 _ rfl; rwa [add_field0 _ 9 (by omega)] at this
      have q10 : X.cell? ⟨ar.block, ar.off + 10, none⟩ = some (.slice A10 x0.f3.length c10) := by have := hq 10 _ rfl; rwa [add_field0 _ 10 (by omega)] at this
      have q11 : X.cell? ⟨ar.block, ar.off + 11, none⟩ = some (.int .i64 x0.f4) := by have := hq 11 _ rfl; rwa [add_field0 _ 11 (by omega)] at this
      have q12 : X.cell? ⟨ar.block, ar.off + 12, none⟩ = some (.int .i64 x0.f5) := by have := hq 12 _ rfl; rwa [add_field0 _ 12 (by omega)] at this
      have q13 : X.cell? ⟨ar.block, ar.off + 13, none⟩ = some (.int .i64 x0.f6) := by have := hq 13 _ rfl; rwa [add_field0 _ 13 (by omega)] at this
      have q14 : X.cell? ⟨ar.block, ar.off + 14, none⟩ = some (.slice A14 x0.f7.length c14) := by have := hq 14 _ rfl; rwa [add_field0 _ 14 (by omega)] at this
      clear hq
      refine Facts.OpDo.value (by kernel_rfl) rfl (v := (.agg (recs15 x0 (.slice A4 x0.f1.f1.length c4) (.slice A5 x0.f1.f2.length c5) (.slice A10 x0.f3.length c10) (.slice A14 x0.f7.length c14)))) (w1 := X) ?_ (hK _ _ (hI.pure 9 _ rfl (by decide) (by decide)))
      simp only [Facts.acE, f8, Act.put, List.setIfInBounds_toArray, List.set_cons_zero, List.set_cons_succ]
      go_simp
    · obtain rfl := Option.some.inj ho
      have f5 : V 5 = (.pointer (some ⟨h, 0, none⟩)) := hI.1 5 _ rfl (hpre { on := 5, ground := .data } (by simp) rfl rfl)
      have f9 : V 9 = (.agg (recs15 x0 (.slice A4 x0.f1.f1.length c4) (.slice A5 x0.f1.f2.length c5) (.slice A10 x0.f3.length c10) (.slice A14 x0.f7.length c14))) := hI.1 9 _ rfl (hpre { on := 9, ground := .data } (by simp) rfl rfl)
      have l4 : L 4 = true := hpre { on := 4, ground := .chain } (by simp) rfl rfl
      refine Facts.OpDo.goes Try.func30 (by kernel_rfl) rfl #[V 5, V 9] (by kernel_rfl) rfl rfl (by kernel_rfl) ?_
      rw [f5, f9]
      refine (pair_rput (hI.2.2.1 l4 hL).1 HBT.out hi x0 _ (Kd.FK_now (Kd.FK_step HAK.out (fun k hk _ => (hS0.trans hI.sd).1.block k hk))) HX0.out).mono ?_
      rintro e w' ⟨rfl, hp, hs⟩
      rw [HRT.out]
      exact ⟨_, rfl, hK _ _ (hI.ref (by decide) (by decide) hL l4 _ rfl w' hp hs)⟩
    · obtain rfl := Option.some.inj ho
      have f4 : V 4 = (.int .i64 r) := hI.1 4 _ rfl (hpre { on := 4, ground := .data } (by simp) rfl rfl)
      refine Facts.OpDo.value (by kernel_rfl) rfl (v := (.int .i64 r)) (w1 := X) ?_ (hK _ _ (hI.pure 11 _ rfl (by decide) (by decide)))
      simp only [Facts.acE, f4, Act.put, List.setIfInBounds_toArray, List.set_cons_zero, List.set_cons_succ]
      go_simp
    · obtain rfl := Option.some.inj ho
      have f10 : V 10 = (.int .i64 r) := hI.1 10 _ rfl (hpre { on := 10, ground := .data } (by simp) rfl rfl)
      refine Facts.OpDo.value (by kernel_rfl) rfl (v := (.int .i64 r)) (w1 := X) ?_ (hK _ _ (hI.pure 12 _ rfl (by decide) (by decide)))
      simp only [Facts.acE, f10, Act.put, List.setIfInBounds_toArray, List.set_cons_zero, List.set_cons_succ]
      go_simp
  case H =>
    intro V X hI
    have hend := hI.2.2.2.1 rfl
    have f11 : V 11 = (.int .i64 r) := hI.1 11 _ rfl rfl
    have f12 : V 12 = (.int .i64 r) := hI.1 12 _ rfl rfl
    refine Facts.wpAny_done (by kernel_rfl) ?_
    simp only [Facts.acE, f11, f12, Act.put, List.setIfInBounds_toArray, List.set_cons_zero, List.set_cons_succ]
    exact hQ _ _ _ _ _ _ _ _ _ _ _ X hend.1 (hS0.trans hend.2)
set_option maxRecDepth 100000 in
abbrev ops26 : Array Oper := #[{ dst := some 92, op := Go.Op.move (Go.Operand.tmp 5), type := 24, pos := "law.go:80", after := #[], guard := none }, { dst := some 93, op := Go.Op.move (Go.Operand.tmp 11), type := 22, pos := "law.go:80", after := #[], guard := none }, { dst := some 94, op := Go.Op.call { callee := Go.Callee.value (Go.Operand.func 26), args := #[Go.Operand.tmp 92, Go.Operand.tmp 93], argTypes := #[24, 22] }, type := 25, pos := "law.go:80", after := #[{ on := 0, ground := Go.Ground.data }, { on := 1, ground := Go.Ground.data }], guard := none }, { dst := some 95, op := Go.Op.move (Go.Operand.tmp 7), type := 55, pos := "law.go:80", after := #[], guard := none }, { dst := some 96, op := Go.Op.fieldAddr 59 (Go.Operand.tmp 10) 1, type := 0, pos := "law.go:80", after := #[], guard := none }, { dst := some 97, op := Go.Op.load 22 (Go.Operand.tmp 96), type := 22, pos := "law.go:80", after := #[{ on := 4, ground := Go.Ground.data }], guard := none }, { dst := some 98, op := Go.Op.call { callee := Go.Callee.value (Go.Operand.func 32), args := #[Go.Operand.tmp 95, Go.Operand.tmp 97], argTypes := #[55, 22] }, type := 25, pos := "law.go:80", after := #[{ on := 3, ground := Go.Ground.data }, { on := 5, ground := Go.Ground.data }, { on := 2, ground := Go.Ground.chain }], guard := none }, { dst := some 12, op := Go.Op.assign (Go.Operand.tmp 94), type := 25, pos := "law.go:80", after := #[{ on := 2, ground := Go.Ground.data }, { on := 6, ground := Go.Ground.chain }, { on := 0, ground := Go.Ground.phase }, { on := 1, ground := Go.Ground.phase }, { on := 2, ground := Go.Ground.phase }, { on := 3, ground := Go.Ground.textOnly Go.Departure.lateStores }, { on := 4, ground := Go.Ground.textOnly Go.Departure.lateStores }, { on := 5, ground := Go.Ground.textOnly Go.Departure.lateStores }, { on := 6, ground := Go.Ground.textOnly Go.Departure.lateStoresUnsure }], guard := none }, { dst := some 13, op := Go.Op.assign (Go.Operand.tmp 98), type := 25, pos := "law.go:80", after := #[{ on := 6, ground := Go.Ground.data }, { on := 7, ground := Go.Ground.chain }, { on := 0, ground := Go.Ground.phase }, { on := 1, ground := Go.Ground.phase }, { on := 2, ground := Go.Ground.phase }, { on := 3, ground := Go.Ground.phase }, { on := 4, ground := Go.Ground.phase }, { on := 5, ground := Go.Ground.phase }, { on := 6, ground := Go.Ground.phase }, { on := 7, ground := Go.Ground.phase }], guard := none }]
def exrenpv (g h b0 n ci cr : Nat) (Ai Ar : Option Addr) (r : Int) : Nat → Option Value
  | 0 => some (.pointer (some ⟨g, 0, none⟩))
  | 1 => some (.slice Ai n ci)
  | 2 => some (.int .i64 r)
  | 3 => some (.pointer (some ⟨h, 0, none⟩))
  | 4 => some (.pointer (some ⟨b0, 1, none⟩))
  | 5 => some (.slice Ar n cr)
  | 6 => some (.int .i64 r)
  | 7 => some (.int .i64 r)
  | 8 => some (.int .i64 r)
  | _ => none
set_option maxRecDepth 100000 in
set_option maxHeartbeats 8000000 in
theorem exren_last (Q : Exit → Act → World → Prop) (t0 t1 t2 t3 t4 t6 t8 t9 t12 t13 t14 t15 t16 t17 t18 t19 t20 t21 t22 t23 t24 t25 t26 t27 t28 t29 t30 t31 t32 t33 t34 t35 t36 t37 t38 t39 t40 t41 t42 t43 t44 t45 t46 t47 t48 t49 t50 t51 t52 t53 t54 t55 t56 t57 t58 t59 t60 t61 t62 t63 t64 t65 t66 t67 t68 t69 t70 t71 t72 t73 t74 t75 t76 t77 t78 t79 t80 t81 t82 t83 t84 t85 t86 t87 t88 t89 t90 t91 t92 t93 t94 t95 t96 t97 t98 t99 t100 t101 t102 t103 t104 t105 t106 t107 t108 t109 t110 t111 t112 t113 t114 t115 t116 t117 t118 t119 t120 t121 t122 t123 t124 t125 t126 t127 t128 t129 t130 t131 t132 t133 t134 t135 t136 t137 t138 t139 t140 t141 t142 t143 t144 t145 t146 t147 t148 t149 t150 t151 t152 t153 t154 t155 t156 t157 t158 t159 t160 t161 t162 t163 t164 t165 t166 t167 t168 t169 t170 t171 t172 t173 t174 t175 t176 t177 t178 t179 t180 t181 : Value) (B i : Nat) (U : Nat → Prop) (w W1 : World) (g h b0 n : Nat) (Ai Ar : Option Addr) (ci cr : Nat) (s t : DSt) (l : List S39) (r : Int) (VI : Nat → Prop) (hP : Aside0 (Pair B U W1 g h s t)) (HB : Aside0 (Bd i s)) (HBT : Aside0 (Bd i t)) (hi : i ≤ 40) (hn : l.length = n) (HS : Aside0 (∀ y ∈ l, Small y)) (HFI : Aside0 (Kd.F k39 W1 VI Ai n l)) (HVU : Aside0 (∀ k, VI k → U k)) (HFA : Aside0 (Kd.F k39 W1 (fun k => k < B) Ar n l)) (HU0 : Aside0 (U b0)) (HL0 : Aside0 (b0 < W1.heap.size)) (HK1 : Aside0 (W1.cell? ⟨b0, 1, none⟩ = some (.slice Ar n cr))) (HCI : Aside0 (l.length ≤ ci)) (HCR : Aside0 (l.length ≤ cr)) (HL60 : Aside0 (l.length ≤ 60)) (HR : Aside0 ((s.renew l).1 = r)) (HRT : Aside0 ((t.rrenew l).1 = r))
    (hQ : ∀ (v92 v93 v94 v95 v96 v97 v98 : Value) (W : World), Pair B U W g h (s.renew l).2 (t.rrenew l).2 → Sd B U W1 W → Q .normal ⟨List.toArray (t0 :: t1 :: t2 :: t3 :: t4 :: Value.pointer (some ⟨g, 0, none⟩) :: t6 :: Value.pointer (some ⟨h, 0, none⟩) :: t8 :: t9 :: Value.pointer (some ⟨b0, 0, none⟩) :: Value.slice Ai n ci :: (.int .i64 r) :: (.int .i64 r) :: t14 :: t15 :: t16 :: t17 :: t18 :: t19 :: t20 :: t21 :: t22 :: t23 :: t24 :: t25 :: t26 :: t27 :: t28 :: t29 :: t30 :: t31 :: t32 :: t33 :: t34 :: t35 :: t36 :: t37 :: t38 :: t39 :: t40 :: t41 :: t42 :: t43 :: t44 :: t45 :: t46 :: t47 :: t48 :: t49 :: t50 :: t51 :: t52 :: t53 :: t54 :: t55 :: t56 :: t57 :: t58 :: t59 :: t60 :: t61 :: t62 :: t63 :: t64 :: t65 :: t66 :: t67 :: t68 :: t69 :: t70 :: t71 :: t72 :: t73 :: t74 :: t75 :: t76 :: t77 :: t78 :: t79 :: t80 :: t81 :: t82 :: t83 :: t84 :: t85 :: t86 :: t87 :: t88 :: t89 :: t90 :: t91 :: v92 :: v93 :: v94 :: v95 :: v96 :: v97 :: v98 :: t99 :: t100 :: t101 :: t102 :: t103 :: t104 :: t105 :: t106 :: t107 :: t108 :: t109 :: t110 :: t111 :: t112 :: t113 :: t114 :: t115 :: t116 :: t117 :: t118 :: t119 :: t120 :: t121 :: t122 :: t123 :: t124 :: t125 :: t126 :: t127 :: t128 :: t129 :: t130 :: t131 :: t132 :: t133 :: t134 :: t135 :: t136 :: t137 :: t138 :: t139 :: t140 :: t141 :: t142 :: t143 :: t144 :: t145 :: t146 :: t147 :: t148 :: t149 :: t150 :: t151 :: t152 :: t153 :: t154 :: t155 :: t156 :: t157 :: t158 :: t159 :: t160 :: t161 :: t162 :: t163 :: t164 :: t165 :: t166 :: t167 :: t168 :: t169 :: t170 :: t171 :: t172 :: t173 :: t174 :: t175 :: t176 :: t177 :: t178 :: t179 :: t180 :: t181 :: []), []⟩ W) : (Code.region 26 ops26 true).wp Try.prog Q ⟨List.toArray (t0 :: t1 :: t2 :: t3 :: t4 :: Value.pointer (some ⟨g, 0, none⟩) :: t6 :: Value.pointer (some ⟨h, 0, none⟩) :: t8 :: t9 :: Value.pointer (some ⟨b0, 0, none⟩) :: Value.slice Ai n ci :: t12 :: t13 :: t14 :: t15 :: t16 :: t17 :: t18 :: t19 :: t20 :: t21 :: t22 :: t23 :: t24 :: t25 :: t26 :: t27 :: t28 :: t29 :: t30 :: t31 :: t32 :: t33 :: t34 :: t35 :: t36 :: t37 :: t38 :: t39 :: t40 :: t41 :: t42 :: t43 :: t44 :: t45 :: t46 :: t47 :: t48 :: t49 :: t50 :: t51 :: t52 :: t53 :: t54 :: t55 :: t56 :: t57 :: t58 :: t59 :: t60 :: t61 :: t62 :: t63 :: t64 :: t65 :: t66 :: t67 :: t68 :: t69 :: t70 :: t71 :: t72 :: t73 :: t74 :: t75 :: t76 :: t77 :: t78 :: t79 :: t80 :: t81 :: t82 :: t83 :: t84 :: t85 :: t86 :: t87 :: t88 :: t89 :: t90 :: t91 :: t92 :: t93 :: t94 :: t95 :: t96 :: t97 :: t98 :: t99 :: t100 :: t101 :: t102 :: t103 :: t104 :: t105 :: t106 :: t107 :: t108 :: t109 :: t110 :: t111 :: t112 :: t113 :: t114 :: t115 :: t116 :: t117 :: t118 :: t119 :: t120 :: t121 :: t122 :: t123 :: t124 :: t125 :: t126 :: t127 :: t128 :: t129 :: t130 :: t131 :: t132 :: t133 :: t134 :: t135 :: t136 :: t137 :: t138 :: t139 :: t140 :: t141 :: t142 :: t143 :: t144 :: t145 :: t146 :: t147 :: t148 :: t149 :: t150 :: t151 :: t152 :: t153 :: t154 :: t155 :: t156 :: t157 :: t158 :: t159 :: t160 :: t161 :: t162 :: t163 :: t164 :: t165 :: t166 :: t167 :: t168 :: t169 :: t170 :: t171 :: t172 :: t173 :: t174 :: t175 :: t176 :: t177 :: t178 :: t179 :: t180 :: t181 :: []), []⟩ W1 := by
  subst hn
  refine Facts.region_any (n := 0 + 9) #[false, false, false, false, false, false, false, false, false] (by kernel_rfl) rfl (by kernel_rfl) (fun W0 hW0 hB0 => ?_)
  have hB1 : Below W1.heap.size W1 W0 := hB0 _
  clear hW0 hB0
  have hP0 := hP.out.below hB1
  have hS0 := Sd.of_below (U := U) hB1 hP.out.size
  have H0 := Aside0.mk hS0
  refine Facts.wpAny_inv [(0, some 92), (1, some 93), (2, some 94), (3, some 95), (4, some 96), (5, some 97), (6, some 98), (7, some 12), (8, some 13)] _ #[true, true, true, true, true, true, true, true, true] (by kernel_rfl) 0 _ _ (TwI B U W0 g h s t (s.renew l).2 (t.rrenew l).2 2 6 1 (exrenpv g h b0 l.length ci cr Ai Ar r)) ?hop ?H (fun i => ([t92, t93, t94, t95, t96, t97, t98, t12, t13] : List Value).getD i undef) (by kernel_rfl) ?hI
  case hI =>
    refine ⟨fun i v _ h => ?_, fun _ => rfl, fun h _ => ?_, fun h => ?_, fun h => ?_, fun h => ?_⟩
    · exfalso
      revert h
      match i with
      | 0 | 1 | 2 | 3 | 4 | 5 | 6 | 7 | 8 => exact (by decide)
      | n + 9 => simp
    all_goals exact absurd h (by decide)
  case hop =>
    intro z hz o ho L V X hI hL hpre K hK
    simp only [List.mem_cons, List.not_mem_nil, or_false] at hz
    rcases hz with rfl | rfl | rfl | rfl | rfl | rfl | rfl | rfl | rfl
    · obtain rfl := Option.some.inj ho
      refine Facts.OpDo.value (by kernel_rfl) rfl (v := (.pointer (some ⟨g, 0, none⟩))) (w1 := X) ?_ (hK _ _ (hI.pure 0 _ rfl (by decide) (by decide)))
      simp only [Facts.acE, Act.put, List.setIfInBounds_toArray, List.set_cons_zero, List.set_cons_succ]
      go_simp
    · obtain rfl := Option.some.inj ho
      refine Facts.OpDo.value (by kernel_rfl) rfl (v := (.slice Ai l.length ci)) (w1 := X) ?_ (hK _ _ (hI.pure 1 _ rfl (by decide) (by decide)))
      simp only [Facts.acE, Act.put, List.setIfInBounds_toArray, List.set_cons_zero, List.set_cons_succ]
      go_simp
    · obtain rfl := Option.some.inj ho
      have f0 : V 0 = (.pointer (some ⟨g, 0, none⟩)) := hI.1 0 _ rfl (hpre { on := 0, ground := .data } (by simp) rfl rfl)
      have f1 : V 1 = (.slice Ai l.length ci) := hI.1 1 _ rfl (hpre { on := 1, ground := .data } (by simp) rfl rfl)
      have l1 : L 1 = true := hpre { on := 1, ground := .data } (by simp) rfl rfl
      have hX := hI.2.1 hL
      refine Facts.OpDo.goes Try.func26 (by kernel_rfl) rfl #[V 0, V 1] (by kernel_rfl) rfl rfl (by kernel_rfl) ?_
      rw [f0, f1]
      refine (pair_renew (hX ▸ hP0) HB.out hi l Ai ci VI (Kd.F_step HFI.out (fun k hk hlt => by rw [hX]; exact hS0.2 k (HVU.out k hk) hlt)) (fun k hk => .inr (HVU.out k hk)) HCI.out HL60.out HS.out).mono ?_
      rintro e w' ⟨rfl, hp, hs⟩
      rw [HR.out]
      exact ⟨_, rfl, hK _ _ (hI.real (by decide) (by decide) hL l1 _ rfl w' hp hs)⟩
    · obtain rfl := Option.some.inj ho
      refine Facts.OpDo.value (by kernel_rfl) rfl (v := (.pointer (some ⟨h, 0, none⟩))) (w1 := X) ?_ (hK _ _ (hI.pure 3 _ rfl (by decide) (by decide)))
      simp only [Facts.acE, Act.put, List.setIfInBounds_toArray, List.set_cons_zero, List.set_cons_succ]
      go_simp
    · obtain rfl := Option.some.inj ho
      refine Facts.OpDo.value (by kernel_rfl) rfl (v := (.pointer (some ⟨b0, 1, none⟩))) (w1 := X) ?_ (hK _ _ (hI.pure 4 _ rfl (by decide) (by decide)))
      simp only [Facts.acE, Act.put, List.setIfInBounds_toArray, List.set_cons_zero, List.set_cons_succ]
      go_simp
    · obtain rfl := Option.some.inj ho
      have f4 : V 4 = (.pointer (some ⟨b0, 1, none⟩)) := hI.1 4 _ rfl (hpre { on := 4, ground := .data } (by simp) rfl rfl)
      have hc : X.cell? ⟨b0, 1, none⟩ = some (.slice Ar l.length cr) := (cell_same (W' := X) (a := ⟨b0, 1, none⟩) ((hS0.trans hI.sd).2 b0 HU0.out HL0.out)).trans HK1.out
      refine Facts.OpDo.value (by kernel_rfl) rfl (v := (.slice Ar l.length cr)) (w1 := X) ?_ (hK _ _ (hI.pure 5 _ rfl (by decide) (by decide)))
      simp only [Facts.acE, f4, Act.put, List.setIfInBounds_toArray, List.set_cons_zero, List.set_cons_succ]
      go_simp
    · obtain rfl := Option.some.inj ho
      have f3 : V 3 = (.pointer (some ⟨h, 0, none⟩)) := hI.1 3 _ rfl (hpre { on := 3, ground := .data } (by simp) rfl rfl)
      have f5 : V 5 = (.slice Ar l.length cr) := hI.1 5 _ rfl (hpre { on := 5, ground := .data } (by simp) rfl rfl)
      have l2 : L 2 = true := hpre { on := 2, ground := .chain } (by simp) rfl rfl
      refine Facts.OpDo.goes Try.func32 (by kernel_rfl) rfl #[V 3, V 5] (by kernel_rfl) rfl rfl (by kernel_rfl) ?_
      rw [f3, f5]
      refine (pair_rrenew (hI.2.2.1 l2 hL).1 HBT.out hi l Ar cr (fun k => k < B) (Kd.F_step HFA.out (fun k hk _ => (hS0.trans hI.sd).1.block k hk)) (fun k hk => .inl hk) HCR.out HL60.out HS.out).mono ?_
      rintro e w' ⟨rfl, hp, hs⟩
      rw [HRT.out]
      exact ⟨_, rfl, hK _ _ (hI.ref (by decide) (by decide) hL l2 _ rfl w' hp hs)⟩
    · obtain rfl := Option.some.inj ho
      have f2 : V 2 = (.int .i64 r) := hI.1 2 _ rfl (hpre { on := 2, ground := .data } (by simp) rfl rfl)
      refine Facts.OpDo.value (by kernel_rfl) rfl (v := (.int .i64 r)) (w1 := X) ?_ (hK _ _ (hI.pure 7 _ rfl (by decide) (by decide)))
      simp only [Facts.acE, f2, Act.put, List.setIfInBounds_toArray, List.set_cons_zero, List.set_cons_succ]
      go_simp
    · obtain rfl := Option.some.inj ho
      have f6 : V 6 = (.int .i64 r) := hI.1 6 _ rfl (hpre { on := 6, ground := .data } (by simp) rfl rfl)
      refine Facts.OpDo.value (by kernel_rfl) rfl (v := (.int .i64 r)) (w1 := X) ?_ (hK _ _ (hI.pure 8 _ rfl (by decide) (by decide)))
      simp only [Facts.acE, f6, Act.put, List.setIfInBounds_toArray, List.set_cons_zero, List.set_cons_succ]
      go_simp
  case H =>
    intro V X hI
    have hend := hI.2.2.2.1 rfl
    have f7 : V 7 = (.int .i64 r) := hI.1 7 _ rfl rfl
    have f8 : V 8 = (.int .i64 r) := hI.1 8 _ rfl rfl
    refine Facts.wpAny_done (by kernel_rfl) ?_
    simp only [Facts.acE, f7, f8, Act.put, List.setIfInBounds_toArray, List.set_cons_zero, List.set_cons_succ]
    exact hQ _ _ _ _ _ _ _ X hend.1 (hS0.trans hend.2)
end Go.Proofs.Ytbkfdejcmimhgaa
