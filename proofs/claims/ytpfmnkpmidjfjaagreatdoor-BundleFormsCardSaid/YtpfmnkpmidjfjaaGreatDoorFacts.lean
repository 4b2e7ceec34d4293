/- A region that draws its order: its operations up to a set are told fact by fact, whatever the order. No Go, no program. -/
import Derived.Test.YtpfmnkpmidjfjaaGreatDoorFXa
import Derived.Below
import Derived.Laws.Rows
import Derived.Laws.Tables
import Derived.StillTailTactics
namespace Go.Proofs.YtpfmnkpmidjfjaaGreatDoor.Facts
open Go.Proofs.YtpfmnkpmidjfjaaGreatDoorW.PrintLast

def acE (a : Act) : List (Nat × Option Tmp) → (Nat → Value) → Act
  | [], _ => a
  | x :: ds, V => acE (a.put x.2 (V x.1)) ds V

def up (V : Nat → Value) (i : Nat) (v : Value) : Nat → Value := fun j => if j = i then v else V j

theorem put_put (a : Act) (d : Option Tmp) (u v : Value) : (a.put d u).put d v = a.put d v := by
  cases d with
  | none => rfl
  | some d => simp [Act.put]

theorem acE_put_other (ds : List (Nat × Option Tmp)) : ∀ (a : Act) (V : Nat → Value) (d : Option Tmp) (v : Value), (∀ x ∈ ds, ∀ t, d = some t → x.2 ≠ some t) →
    (acE a ds V).put d v = acE (a.put d v) ds V := by
  induction ds with
  | nil => intros; rfl
  | cons x ds ih =>
    intro a V d v h
    simp only [acE]
    rw [ih _ V d v (fun y hy => h y (List.mem_cons_of_mem _ hy)), Act.put_comm a v (V x.1) (h x List.mem_cons_self)]

theorem acE_congr (ds : List (Nat × Option Tmp)) : ∀ (a : Act) (V V' : Nat → Value), (∀ x ∈ ds, V x.1 = V' x.1) → acE a ds V = acE a ds V' := by
  induction ds with
  | nil => intros; rfl
  | cons x ds ih =>
    intro a V V' h
    simp only [acE]
    rw [h x List.mem_cons_self, ih _ V V' (fun y hy => h y (List.mem_cons_of_mem _ hy))]

/-- Each number once, each slot once. -/
def aloneB : List (Nat × Option Tmp) → Bool
  | [] => true
  | x :: ds => (ds.all fun y => x.1 != y.1 && (x.2 == none || x.2 != y.2)) && aloneB ds

theorem acE_up (ds : List (Nat × Option Tmp)) : ∀ (a : Act) (V : Nat → Value) (i : Nat) (d : Option Tmp) (v : Value), aloneB ds = true → (i, d) ∈ ds →
    (acE a ds V).put d v = acE a ds (up V i v) := by
  induction ds with
  | nil => intro _ _ _ _ _ _ h; cases h
  | cons x ds ih =>
    intro a V i d v hal hm
    simp only [aloneB, Bool.and_eq_true, List.all_eq_true, bne_iff_ne, Bool.or_eq_true, beq_iff_eq] at hal
    obtain ⟨hx, hal⟩ := hal
    simp only [acE]
    rcases List.mem_cons.1 hm with h | h
    · subst h
      rw [acE_put_other ds _ V d v (fun y hy t ht => by
        rcases (hx y hy).2 with h | h
        · simp only at h; rw [h] at ht; cases ht
        · simp only at h; rw [← ht]; exact fun e => h e.symm), put_put]
      have e : up V i v i = v := by simp [up]
      simp only [e]
      exact acE_congr ds _ _ _ (fun y hy => by
        have := (hx y hy).1
        simp only at this
        simp only [up]; rw [if_neg (fun e => this e.symm)])
    · have hne : ¬ x.1 = i := (hx _ h).1
      have e : up V i v x.1 = V x.1 := by simp only [up]; rw [if_neg hne]
      rw [e, ih _ V i d v hal h]

section
variable {P : Program} {ops : Array Oper} {Q : Exit → Act → World → Prop}

/-- Operation o is carried out (or passed over) in frame a, world w; then K. -/
structure OpDo (P : Program) (ops : Array Oper) (Q : Exit → Act → World → Prop) (o : Oper) (d : Option Tmp) (a : Act) (w : World) (K : Act → World → Prop) : Prop where mk ::
  (out : if Region.wanted o (yielded ops a.tmps) = true then Oper.wp P o a w K Q else K (a.put d undef) w)
theorem OpDo.call {o : Oper} {d : Option Tmp} {a : Act} {w : World} {K : Act → World → Prop} (f : FuncId) (args : Array Value) (hw : Region.wanted o (yielded ops a.tmps) = true) (hN : o.dst = d) (hrun : (execOp a.eval o).run P w = .ok (.enter f args) w)
    (h : Calls P f args w fun e w' => ∃ v, e = .returned v ∧ K (a.put d v) w') : OpDo P ops Q o d a w K := ⟨call_ f args hw hN hrun h⟩
theorem OpDo.goes {o : Oper} {d : Option Tmp} {a : Act} {w : World} {K : Act → World → Prop} {f : FuncId} {fn : Func} {asx : Array Operand} {ts : Array TypeId} (hf : P.funcs[f]? = some fn) (hname : (fn.name == "runtime.NumGoroutine") = false) (hb : fn.body.isSome = true)
    (args : Array Value) (hw : Region.wanted o (yielded ops a.tmps) = true) (hN : o.dst = d) (ho : o.op = .call { callee := .value (.func f), args := asx, argTypes := ts }) (hargs : asx.map a.eval = args)
    (h : Calls P f args w fun e w' => ∃ v, e = .returned v ∧ K (a.put d v) w') : OpDo P ops Q o d a w K := by
  exact ⟨goes_ hf hname hb args hw hN ho hargs h⟩
theorem OpDo.value {o : Oper} {d : Option Tmp} {a : Act} {w w1 : World} {v : Value} {K : Act → World → Prop} (hw : Region.wanted o (yielded ops a.tmps) = true) (hN : o.dst = d) (hrun : (execOp a.eval o).run P w = .ok (.value v) w1)
    (h : K (a.put d v) w1) : OpDo P ops Q o d a w K := ⟨value_ hw hN hrun h⟩
theorem OpDo.off {o : Oper} {d : Option Tmp} {a : Act} {w : World} {K : Act → World → Prop} (hw : Region.wanted o (yielded ops a.tmps) = false) (h : K (a.put d undef) w) : OpDo P ops Q o d a w K := ⟨off_ hw h⟩

/-- What is asked of the set, by the kernel: each number is an operation, not listed, with that slot; it waits for earlier ones of the set or listed ones alone; all else that is not listed waits for each of the set. -/
def evalB (ops : Array Oper) (ds : List (Nat × Option Tmp)) (l0 lE : Array Bool) : Bool :=
  aloneB ds && Region.closedB .any ops l0 && (l0.size == ops.size) && (lE.size == ops.size) &&
  (ds.all fun x => (match ops[x.1]? with
    | some o => o.dst == x.2 && o.after.all fun e => !Region.binds .any e || (decide (e.on < x.1) && (l0.getD e.on false || ds.any fun y => y.1 == e.on))
    | none => false) && !l0.getD x.1 true) &&
  ((List.range ops.size).all fun j => l0.getD j true || (ds.any fun y => y.1 == j) || ds.all fun x => Region.reachB .any ops x.1 ops.size j) &&
  ((List.range ops.size).all fun j => lE.getD j false == (l0.getD j false || ds.any fun y => y.1 == j))

theorem wpAny_eval (ds : List (Nat × Option Tmp)) (l0 lE : Array Bool) (hB : evalB ops ds l0 lE = true) (fuel : Nat) (a : Act) (w0 : World)
    (R : World → World → Prop) (Φ : Nat → Value → World → Prop)
    (Rrefl : ∀ w, R w w) (Rtrans : ∀ w1 w2 w3, R w1 w2 → R w2 w3 → R w1 w3) (stab : ∀ i v w1 w2, Φ i v w1 → R w1 w2 → Φ i v w2)
    (hop : ∀ x ∈ ds, ∀ o, ops[x.1]? = some o → ∀ (V : Nat → Value) (w : World), R w0 w → (∀ e ∈ o.after, Region.binds .any e = true → l0.getD e.on false = false → Φ e.on (V e.on) w) →
      ∀ K : Act → World → Prop, (∀ v w', Φ x.1 v w' → R w w' → K ((acE a ds V).put x.2 v) w') → OpDo P ops Q o x.2 (acE a ds V) w K)
    (H : ∀ (V : Nat → Value) (w : World), R w0 w → (∀ x ∈ ds, Φ x.1 (V x.1) w) → wpAny P .any ops Q fuel lE (acE a ds V) w)
    (V0 : Nat → Value) (hV0 : acE a ds V0 = a) : wpAny P .any ops Q (fuel + ds.length) l0 a w0 := by
  simp only [evalB, Bool.and_eq_true, beq_iff_eq, List.all_eq_true, List.mem_range] at hB
  obtain ⟨⟨⟨⟨⟨⟨hal, hcl⟩, hs0⟩, hsE⟩, hds⟩, hothers⟩, hE⟩ := hB
  have key : ∀ (m : Nat) (l : Array Bool) (V : Nat → Value) (w : World), l.size = ops.size → (ds.filter fun x => !l.getD x.1 false).length = m →
      (∀ j, j < ops.size → l0.getD j false = true → l.getD j false = true) →
      (∀ j, j < ops.size → l.getD j false = true → l0.getD j false = true ∨ ∃ x ∈ ds, x.1 = j) →
      ListedClosed .any ops l → R w0 w → (∀ x ∈ ds, l.getD x.1 false = true → Φ x.1 (V x.1) w) → wpAny P .any ops Q (fuel + m) l (acE a ds V) w := by
    intro m
    induction m with
    | zero =>
      intro l V w hsl hm h1 h2 hc hR hΦ
      have hall : ∀ x ∈ ds, l.getD x.1 false = true := by
        intro x hx
        have hnil := List.eq_nil_of_length_eq_zero hm
        rw [List.filter_eq_nil_iff] at hnil
        simpa using hnil x hx
      have hl : l = lE := by
        apply Array.ext (by omega)
        intro j hj1 hj2
        have hj : j < ops.size := by omega
        have e := hE j hj
        have g1 : l.getD j false = l[j] := by simp [hj1]
        have g2 : lE.getD j false = lE[j] := by simp [hj2]
        rw [g2] at e
        rw [← g1, e]
        cases hlj : l.getD j false with
        | true =>
          rcases h2 j hj hlj with h | ⟨x, hx, rfl⟩
          · rw [h, Bool.true_or]
          · have : (ds.any fun y => y.1 == x.1) = true := List.any_eq_true.2 ⟨x, hx, by simp⟩
            rw [this, Bool.or_true]
        | false =>
          symm
          rw [Bool.or_eq_false_iff]
          refine ⟨?_, ?_⟩
          · cases h : l0.getD j false with
            | false => rfl
            | true => rw [h1 j hj h] at hlj; cases hlj
          · rw [List.any_eq_false]
            intro y hy hyj
            simp only [beq_iff_eq] at hyj
            rw [← hyj, hall y hy] at hlj
            cases hlj
      subst hl
      exact H V w hR (fun x hx => hΦ x hx (hall x hx))
    | succ m ih =>
      intro l V w hsl hm h1 h2 hc hR hΦ
      -- an operation of the set that is not listed, the least one
      have hex : ∃ i, (∃ x ∈ ds, x.1 = i ∧ l.getD i false = false) ∧ ∀ i', i' < i → ¬ ∃ x ∈ ds, x.1 = i' ∧ l.getD i' false = false := by
        have hne : (ds.filter fun x => !l.getD x.1 false) ≠ [] := by intro h; rw [h] at hm; cases hm
        obtain ⟨y, hy⟩ := List.exists_mem_of_ne_nil _ hne
        rw [List.mem_filter] at hy
        have h0 : ∃ i, ∃ x ∈ ds, x.1 = i ∧ l.getD i false = false := ⟨y.1, y, hy.1, rfl, by simpa using hy.2⟩
        obtain ⟨i, hi⟩ := h0
        induction i using Nat.strongRecOn with
        | _ i ihi =>
          by_cases hlt : ∃ i', i' < i ∧ ∃ x ∈ ds, x.1 = i' ∧ l.getD i' false = false
          · obtain ⟨i', hi'lt, hi'⟩ := hlt
            exact ihi i' hi'lt hi'
          · exact ⟨i, hi, fun i' hi' hx => hlt ⟨i', hi', hx⟩⟩
      obtain ⟨i0, ⟨x0, hx0, rfl, hun0⟩, hmin⟩ := hex
      have hop0 := (hds x0 hx0).1
      have hx0lt : x0.1 < ops.size := by
        cases ho : ops[x0.1]? with
        | none => rw [ho] at hop0; cases hop0
        | some o => exact (Array.getElem?_eq_some_iff.1 ho).1
      have hun0' : l.getD x0.1 true = false := by
        have g1 : l.getD x0.1 false = l[x0.1]'(by omega) := by simp [show x0.1 < l.size by omega]
        have g2 : l.getD x0.1 true = l[x0.1]'(by omega) := by simp [show x0.1 < l.size by omega]
        rw [g2, ← g1]; exact hun0
      have hready0 : x0.1 ∈ Region.ready .any ops l := by
        rw [mem_ready]
        refine ⟨hun0', ?_⟩
        cases ho : ops[x0.1]? with
        | none => rw [ho] at hop0; cases hop0
        | some o =>
          rw [ho] at hop0
          simp only [Bool.and_eq_true, beq_iff_eq, Array.all_eq_true_iff_forall_mem, Bool.or_eq_true, Bool.not_eq_true', decide_eq_true_eq, List.any_eq_true] at hop0
          refine ⟨o, rfl, fun e he hb => ?_⟩
          rcases hop0.2 e he with h | ⟨hlt, h⟩
          · rw [h] at hb; cases hb
          · rcases h with h | ⟨y, hy, hye⟩
            · exact h1 _ (by omega) h
            · cases hle : l.getD e.on false with
              | true => rfl
              | false => exact absurd ⟨y, hy, hye, hle⟩ (hmin e.on hlt)
      show wpAny P .any ops Q (fuel + m + 1) l (acE a ds V) w
      refine ⟨fun h => (by rw [h] at hready0; cases hready0), fun i hi => ?_⟩
      obtain ⟨hiun, o, ho, hall⟩ := mem_ready.1 hi
      have hilt : i < ops.size := (Array.getElem?_eq_some_iff.1 ho).1
      have hiun' : l.getD i false = false := by
        have g1 : l.getD i false = l[i]'(by omega) := by simp [show i < l.size by omega]
        have g2 : l.getD i true = l[i]'(by omega) := by simp [show i < l.size by omega]
        rw [g1, ← g2]; exact hiun
      have hiE : ∃ x ∈ ds, x.1 = i := by
        have h := hothers i hilt
        simp only [Bool.or_eq_true, List.any_eq_true, List.all_eq_true, beq_iff_eq] at h
        rcases h with (h | h) | h
        · exfalso
          have g1 : l0.getD i true = l0[i]'(by omega) := by simp [show i < l0.size by omega]
          have g2 : l0.getD i false = l0[i]'(by omega) := by simp [show i < l0.size by omega]
          have := h1 i hilt (by rw [g2, ← g1]; exact h)
          rw [hiun'] at this; cases this
        · exact h
        · exact absurd hi (Region.reach_not_ready hc (h x0 hx0) hun0')
      obtain ⟨x, hx, rfl⟩ := hiE
      have hopx := (hds x hx).1
      rw [ho] at hopx
      simp only [Bool.and_eq_true, beq_iff_eq, Array.all_eq_true_iff_forall_mem, Bool.or_eq_true, Bool.not_eq_true', decide_eq_true_eq, List.any_eq_true] at hopx
      have hpre : ∀ e ∈ o.after, Region.binds .any e = true → l0.getD e.on false = false → Φ e.on (V e.on) w := by
        intro e he hb hnot
        rcases hopx.2 e he with h | ⟨hlt, h⟩
        · rw [h] at hb; cases hb
        · rcases h with h | ⟨y, hy, hye⟩
          · rw [h] at hnot; cases hnot
          · have := hΦ y hy (by rw [hye]; exact hall e he hb)
            rw [hye] at this
            exact this
      have hmain := hop x hx o ho V w hR hpre (fun a' w' => wpAny P .any ops Q (fuel + m) (l.setIfInBounds x.1 true) a' w') (fun v w' hΦv hRw => by
        rw [acE_up ds a V x.1 x.2 v hal hx]
        have hset : (l.setIfInBounds x.1 true).getD x.1 false = true := by simp [show x.1 < l.size by omega]
        refine ih (l.setIfInBounds x.1 true) (up V x.1 v) w' (by simpa using hsl) ?_ ?_ ?_ (hc.set hi) (Rtrans _ _ _ hR hRw) ?_
        · -- the count
          have hcount : ∀ (zs : List (Nat × Option Tmp)), aloneB zs = true → x ∈ zs → (∀ z ∈ zs, z ∈ ds) →
              (zs.filter fun y => !(l.setIfInBounds x.1 true).getD y.1 false).length + 1 = (zs.filter fun y => !l.getD y.1 false).length := by
            intro zs
            induction zs with
            | nil => intro _ h; cases h
            | cons z zs ihz =>
              intro halz hxz hsub
              simp only [aloneB, Bool.and_eq_true, List.all_eq_true, bne_iff_ne] at halz
              obtain ⟨hz, halz⟩ := halz
              rcases List.mem_cons.1 hxz with h | h
              · subst h
                have e1 : (!(l.setIfInBounds x.1 true).getD x.1 false) = false := by rw [hset]; rfl
                have e2 : (!l.getD x.1 false) = true := by rw [hiun']; rfl
                rw [List.filter_cons, List.filter_cons, if_neg (by rw [e1]; decide), if_pos e2, List.length_cons]
                congr 1
                have : (zs.filter fun y => !(l.setIfInBounds x.1 true).getD y.1 false) = zs.filter fun y => !l.getD y.1 false := by
                  apply List.filter_congr
                  intro y hy
                  rw [getD_set_ne false (hz y hy).1]
                rw [this]
              · have hne : x.1 ≠ z.1 := fun e => (hz x h).1 e.symm
                rw [List.filter_cons, List.filter_cons, getD_set_ne false hne]
                have := ihz halz h (fun y hy => hsub y (List.mem_cons_of_mem _ hy))
                split
                · simp only [List.length_cons]; omega
                · exact this
          have := hcount ds hal hx (fun _ h => h)
          omega
        · exact fun j hj h => getD_set_true (h1 j hj h)
        · intro j hj h
          by_cases hjx : x.1 = j
          · exact .inr ⟨x, hx, hjx⟩
          · rw [getD_set_ne false hjx] at h
            exact h2 j hj h
        · intro y hy h
          by_cases hyx : y.1 = x.1
          · have e : up V x.1 v y.1 = v := by simp [up, hyx]
            rw [e, hyx]; exact hΦv
          · have e : up V x.1 v y.1 = V y.1 := by simp [up, hyx]
            rw [e]
            rw [getD_set_ne false (fun e => hyx e.symm)] at h
            exact stab _ _ _ _ (hΦ y hy h) hRw)
      replace hmain := hmain.out
      unfold wpOp
      rw [ho]
      simp only
      split
      · rename_i hw
        rw [if_pos hw] at hmain
        exact .inl hmain
      · rename_i hw
        rw [if_neg hw] at hmain
        rw [hopx.1]
        exact hmain
  have := key ds.length l0 V0 w0 hs0 ?_ (fun _ _ h => h) (fun _ _ h => .inl h) (Region.closedB_spec hcl) (Rrefl _) ?_
  · rw [hV0] at this
    exact this
  · congr 1
    rw [List.filter_eq_self]
    intro x hx
    have h := (hds x hx).2
    have hxlt : x.1 < ops.size := by
      have h := (hds x hx).1
      cases ho : ops[x.1]? with
      | none => rw [ho] at h; cases h
      | some o => exact (Array.getElem?_eq_some_iff.1 ho).1
    have g1 : l0.getD x.1 true = l0[x.1]'(by omega) := by simp [show x.1 < l0.size by omega]
    have g2 : l0.getD x.1 false = l0[x.1]'(by omega) := by simp [show x.1 < l0.size by omega]
    rw [g2, ← g1]; exact h
  · intro x hx hl
    have h := (hds x hx).2
    have hxlt : x.1 < ops.size := by
      have h := (hds x hx).1
      cases ho : ops[x.1]? with
      | none => rw [ho] at h; cases h
      | some o => exact (Array.getElem?_eq_some_iff.1 ho).1
    have g1 : l0.getD x.1 true = l0[x.1]'(by omega) := by simp [show x.1 < l0.size by omega]
    have g2 : l0.getD x.1 false = l0[x.1]'(by omega) := by simp [show x.1 < l0.size by omega]
    rw [g1, ← g2, hl] at h
    cases h
theorem wpAny_one {i fuel : Nat} {o : Oper} {l : Array Bool} {a : Act} {w : World} (l' : Array Bool) (hi : ops[i]? = some o) (hr : (Region.ready .any ops l == [i]) = true) (hl : l.setIfInBounds i true = l')
    (h : ∀ K : Act → World → Prop, (∀ a' w', wpAny P .any ops Q fuel l' a' w' → K a' w') → OpDo P ops Q o o.dst a w K) :
    wpAny P .any ops Q (fuel + 1) l a w := by
  have hr' : Region.ready .any ops l = [i] := by simpa using hr
  subst hl
  refine ⟨fun h => (by rw [h] at hr'; cases hr'), fun j hj => ?_⟩
  rw [hr', List.mem_singleton] at hj
  subst hj
  have := h _ (fun _ _ h => h)
  replace this := this.out
  unfold wpOp
  rw [hi]
  simp only
  split
  · rename_i hw; rw [if_pos hw] at this; exact .inl this
  · rename_i hw; rw [if_neg hw] at this; exact this
theorem wpAny_done {fuel : Nat} {l : Array Bool} {a : Act} {w : World} (hr : (Region.ready .any ops l == []) = true) (h : Q .normal a w) : wpAny P .any ops Q fuel l a w := by
  have hr' : Region.ready .any ops l = [] := by simpa using hr
  cases fuel with
  | zero => exact ⟨hr', h⟩
  | succ n => exact ⟨fun _ => h, fun i hi => by rw [hr'] at hi; cases hi⟩
/-- A whole row stored; a whole row loaded; a new block. -/
theorem store_row_ {o : Oper} {a : Act} {w : World} {K : Act → World → Prop} (hw : Region.wanted o (yielded ops a.tmps) = true) (hN : o.dst = none) (ty : TypeId) (x y : Operand) (ho : o.op = .store ty x y)
    (g : Nat) (cells : Array Value) (hx : a.eval x = .pointer (some ⟨g, 0, none⟩)) (hy : a.eval y = .agg cells)
    (t : TypeId) (old : Array Value) (hg : w.heap[g]? = some (.cells old t (0, 0))) (hi : (P.info? ty).map (·.size) = some cells.size)
    (hold : old.size = cells.size) (h1 : cells.all (·.oneCell') = true)
    (h : K a (w.setRow g cells)) : OpDo P ops Q o o.dst a w K := by
  refine ⟨?_⟩
  rw [if_pos hw]
  exact wp_store_row ty x y ho g cells hx hy t old hg hi hold h1 (by rw [hN]; exact h)
theorem load_row_ {o : Oper} {d' : Option Tmp} {a : Act} {w : World} {K : Act → World → Prop} (hw : Region.wanted o (yielded ops a.tmps) = true) (hN : o.dst = d') (ty : TypeId) (x : Operand) (ho : o.op = .load ty x)
    (g : Nat) (hx : a.eval x = .pointer (some ⟨g, 0, none⟩)) (t : TypeId) (cs : Array Value) (fr : Nat × Nat) (d : TypeDesc) (hg : w.heap[g]? = some (.cells cs t fr))
    (hu : P.underlying ty = some d) (hd : (match d with | .struct _ | .array _ _ => true | _ => false) = true) (hi : (P.info? ty).map (·.size) = some cs.size)
    (h : K (a.put d' (.agg cs)) w) : OpDo P ops Q o d' a w K := by
  refine ⟨?_⟩
  rw [if_pos hw]
  exact wp_load_row ty x ho g hx t cs fr d hg hu hd hi (by rw [hN]; exact h)
end
theorem region_any {P : Program} {ops : Array Oper} {Q : Exit → Act → World → Prop} {id n : Nat} {a : Act} {w : World} (l : Array Bool) (hm : P.follows .mixedOrders = true) (hn : ops.size = n) (hl : Array.replicate n false = l)
    (h : ∀ W : World, W.heap = w.heap → (∀ B, Go.RowKit.Below B w W) → wpAny P .any ops Q n l a W) : (Code.region id ops true).wp P Q a w := by
  subst hn hl
  exact wp_region_any hm (h _ rfl fun _ => ⟨rfl, rfl, rfl, Nat.le_refl _, fun _ _ => rfl⟩)
theorem still_tail_drew {P : Program} {id : Nat} {Q : Exit → Act → World → Prop} {a : Act} {w : World} {l : List Oper} (n : Nat) (hm : P.follows .mixedOrders = true) (hB : Region.lexTailB .any l.toArray n = true)
    (h : wpStill P l.toArray w.drew (fun a' => wpList P l.toArray Q (l.drop n) a' w.drew) (l.take n) a) : (Code.region id l.toArray true).wp P Q a w := wp_region_still_tail n hm hB h
section
variable {P : Program} {ops : Array Oper} {Q : Exit → Act → World → Prop} {S : World → Prop} {ds : List Nat}
theorem lastL {i : Nat} {o : Oper} {d : Option Tmp} {fuel : Nat} {l : Array Bool} {a : Act} {w : World} (l' : Array Bool) (hi : ops[i]? = some o) (hN : o.dst = d) (hc : readyB .any ops l l' i = true) (hd : i ∈ ds)
    (h : ∀ K : Act → World → Prop, (∀ a' w', wpAnyLast P .any ops Q S ds fuel l' a' w' → K a' w') → OpDo P ops Q o d a w K) : wpAnyLast P .any ops Q S ds (fuel + 1) l a w :=
  last_ l' hi hN hc hd (fun K hK => (h K hK).out)
theorem OpDo.skip {o : Oper} {a : Act} {w w1 : World} {K : Act → World → Prop} (hw : Region.wanted o (yielded ops a.tmps) = true) (hN : o.dst = none) (hrun : (execOp a.eval o).run P w = .ok .skip w1)
    (h : K a w1) : OpDo P ops Q o none a w K := ⟨skip_ hw hN hrun h⟩
/-- An operation that yields one value in every world is taken first. -/
theorem pureL {i : Nat} {d : Option Tmp} {o : Oper} {fuel : Nat} {l : Array Bool} {a : Act} {w : World} (v : Value) (l' : Array Bool) (hi : ops[i]? = some o) (hN : o.dst = d) (hc : anyB .any ops l l' i = true)
    (hQ : ∀ c a w, Q (.panic c) (a.put o.dst v) w → Q (.panic c) a w) (hw : Region.wanted o (yielded ops a.tmps) = true) (hrun : ∀ w, (execOp a.eval o).run P w = .ok (.value v) w)
    (h : wpAnyLast P .any ops Q S ds fuel l' (a.put d v) w) : wpAnyLast P .any ops Q S ds (fuel + 1) l a w :=
  pure_ l' hi hN hc hQ (.inl ⟨hw, hrun⟩) rfl h
/-- A reading operation, in every world that meets S. -/
theorem takeL {i : Nat} {d : Option Tmp} {o : Oper} {fuel : Nat} {l : Array Bool} {a : Act} {w : World} (v : Value) (l' : Array Bool) (hi : ops[i]? = some o) (hN : o.dst = d) (hc : takeB .any ops ds l l' i = true)
    (hQ : ∀ c a w, Q (.panic c) (a.put o.dst v) w → Q (.panic c) a w) (hS : S w) (hw : Region.wanted o (yielded ops a.tmps) = true) (hrun : ∀ w, S w → (execOp a.eval o).run P w = .ok (.value v) w)
    (h : wpAnyLast P .any ops Q S ds fuel l' (a.put d v) w) : wpAnyLast P .any ops Q S ds (fuel + 1) l a w :=
  take_ l' hi hN hc hQ (.inl ⟨hw, hrun⟩) hS rfl h
theorem startL {id n : Nat} {a : Act} {w : World} (S : World → Prop) (ds : List Nat) (l : Array Bool) (hm : P.follows .mixedOrders = true) (hn : ops.size = n) (hl : Array.replicate n false = l) (hS : S w.drew)
    (h : wpAnyLast P .any ops Q S ds n l a w.drew) : (Code.region id ops true).wp P Q a w := start_ (S := S) (ds := ds) l hm hn hl hS (fun _ => h)
end
theorem below_refl (w : World) : Go.RowKit.Below w.heap.size w w := Go.RowKit.Below.refl _ _
theorem below_tr (w1 w2 w3 : World) (h : Go.RowKit.Below w1.heap.size w1 w2) (k : Go.RowKit.Below w2.heap.size w2 w3) : Go.RowKit.Below w1.heap.size w1 w3 :=
  h.trans (k.mono h.size)
theorem below_setRow {B : Nat} {w W : World} (h : Go.RowKit.Below B w W) {g : Nat} (hg : B ≤ g) (cs : Array Value) : Go.RowKit.Below B w (W.setRow g cs) :=
  h.trans ⟨rfl, rfl, rfl, by simp, fun k hk => setRow_other _ _ _ _ (by omega)⟩
theorem below_blk {w1 w2 : World} {b : Nat} {o : Obj} (h : w1.heap[b]? = some o) (k : Go.RowKit.Below w1.heap.size w1 w2) : w2.heap[b]? = some o :=
  (k.block b (Array.getElem?_eq_some_iff.1 h).1).trans h
end Go.Proofs.YtpfmnkpmidjfjaaGreatDoor.Facts
