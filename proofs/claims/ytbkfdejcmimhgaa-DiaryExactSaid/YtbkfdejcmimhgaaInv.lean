/- A region that draws its order, told by what holds at every stage. No Go, no program. -/
import Derived.Test.YtbkfdejcmimhgaaFacts
import Derived.Orders
namespace Go.Proofs.Ytbkfdejcmimhgaa.Facts
open Go.Proofs.YtbkfdejcmimhgaaW.PrintLast
section
variable {P : Program} {ops : Array Oper} {Q : Exit → Act → World → Prop}
/-- An operation told by a walk of a list of one. -/
theorem OpDo.of_list {o : Oper} {d : Option Tmp} {a : Act} {w : World} {K : Act → World → Prop} (hw : Region.wanted o (yielded ops a.tmps) = true) (_hN : o.dst = d)
    (h : wpList P ops (fun e a' w' => match e with | .normal => K a' w' | _ => False) [o] a w) : OpDo P ops Q o d a w K := by
  refine ⟨?_⟩
  rw [if_pos hw]
  unfold wpList at h
  rw [if_pos hw] at h
  rcases h with h | ⟨_, _, _, h⟩
  · unfold Oper.wp at *
    generalize (execOp a.eval o).run P w = r at *
    cases r with
    | ok n w' =>
      cases n with
      | value v => exact h
      | skip => exact h
      | defer d => exact h
      | enter f args =>
        refine Calls.mono h ?_
        intro e w2 he
        cases e with
        | returned v => exact he
        | panicked c => exact he.elim
        | outgrown => obtain ⟨_, _, h⟩ := he; exact h.elim
      | row r args => exact h
      | _ => exact h.elim
    | halt x w' =>
      cases x with
      | panic v => exact h.elim
      | _ => exact h.elim
  · exact h.elim
theorem wpAny_inv (ds : List (Nat × Option Tmp)) (l0 lE : Array Bool) (hB : evalB ops ds l0 lE = true) (fuel : Nat) (a : Act) (w0 : World)
    (I : (Nat → Bool) → (Nat → Value) → World → Prop)
    (hop : ∀ x ∈ ds, ∀ o, ops[x.1]? = some o → ∀ (L : Nat → Bool) (V : Nat → Value) (w : World), I L V w → L x.1 = false → (∀ e ∈ o.after, Region.binds .any e = true → l0.getD e.on false = false → L e.on = true) →
      ∀ K : Act → World → Prop, (∀ v w', I (fun j => if j = x.1 then true else L j) (up V x.1 v) w' → K ((acE a ds V).put x.2 v) w') → OpDo P ops Q o x.2 (acE a ds V) w K)
    (H : ∀ (V : Nat → Value) (w : World), I (fun j => lE.getD j false) V w → wpAny P .any ops Q fuel lE (acE a ds V) w)
    (V0 : Nat → Value) (hV0 : acE a ds V0 = a) (hI0 : I (fun j => l0.getD j false) V0 w0) : wpAny P .any ops Q (fuel + ds.length) l0 a w0 := by
  simp only [evalB, Bool.and_eq_true, beq_iff_eq, List.all_eq_true, List.mem_range] at hB
  obtain ⟨⟨⟨⟨⟨⟨hal, hcl⟩, hs0⟩, hsE⟩, hds⟩, hothers⟩, hE⟩ := hB
  have key : ∀ (m : Nat) (l : Array Bool) (V : Nat → Value) (w : World), l.size = ops.size → (ds.filter fun x => !l.getD x.1 false).length = m →
      (∀ j, j < ops.size → l0.getD j false = true → l.getD j false = true) →
      (∀ j, j < ops.size → l.getD j false = true → l0.getD j false = true ∨ ∃ x ∈ ds, x.1 = j) →
      ListedClosed .any ops l → I (fun j => l.getD j false) V w → wpAny P .any ops Q (fuel + m) l (acE a ds V) w := by
    intro m
    induction m with
    | zero =>
      intro l V w hsl hm h1 h2 hc hI
      have hall : ∀ x ∈ ds, l.getD x.1 false = true := by
        intro x hx
        have hnil := List.eq_nil_of_length_eq_zero hm
        rw [List.filter_eq_nil_iff] at hnil
        simpa using hnil x hx
      have hl : l = lE := by
        apply Array.ext (by omega)
        intro j hj1 hj2
        have hj : j < ops.size := by omega
        have e := hE j hj
        have g1 : l.getD j false = l[j] := by simp [hj1]
        have g2 : lE.getD j false = lE[j] := by simp [hj2]
        rw [g2] at e
        rw [← g1, e]
        cases hlj : l.getD j false with
        | true =>
          rcases h2 j hj hlj with h | ⟨x, hx, rfl⟩
          · rw [h, Bool.true_or]
          · have : (ds.any fun y => y.1 == x.1) = true := List.any_eq_true.2 ⟨x, hx, by simp⟩
            rw [this, Bool.or_true]
        | false =>
          symm
          rw [Bool.or_eq_false_iff]
          refine ⟨?_, ?_⟩
          · cases h : l0.getD j false with
            | false => rfl
            | true => rw [h1 j hj h] at hlj; cases hlj
          · rw [List.any_eq_false]
            intro y hy hyj
            simp only [beq_iff_eq] at hyj
            rw [← hyj, hall y hy] at hlj
            cases hlj
      subst hl
      exact H V w hI
    | succ m ih =>
      intro l V w hsl hm h1 h2 hc hI
      -- an operation of the set that is not listed, the least one
      have hex : ∃ i, (∃ x ∈ ds, x.1 = i ∧ l.getD i false = false) ∧ ∀ i', i' < i → ¬ ∃ x ∈ ds, x.1 = i' ∧ l.getD i' false = false := by
        have hne : (ds.filter fun x => !l.getD x.1 false) ≠ [] := by intro h; rw [h] at hm; cases hm
        obtain ⟨y, hy⟩ := List.exists_mem_of_ne_nil _ hne
        rw [List.mem_filter] at hy
        have h0 : ∃ i, ∃ x ∈ ds, x.1 = i ∧ l.getD i false = false := ⟨y.1, y, hy.1, rfl, by simpa using hy.2⟩
        obtain ⟨i, hi⟩ := h0
        induction i using Nat.strongRecOn with
        | _ i ihi =>
          by_cases hlt : ∃ i', i' < i ∧ ∃ x ∈ ds, x.1 = i' ∧ l.getD i' false = false
          · obtain ⟨i', hi'lt, hi'⟩ := hlt
            exact ihi i' hi'lt hi'
          · exact ⟨i, hi, fun i' hi' hx => hlt ⟨i', hi', hx⟩⟩
      obtain ⟨i0, ⟨x0, hx0, rfl, hun0⟩, hmin⟩ := hex
      have hop0 := (hds x0 hx0).1
      have hx0lt : x0.1 < ops.size := by
        cases ho : ops[x0.1]? with
        | none => rw [ho] at hop0; cases hop0
        | some o => exact (Array.getElem?_eq_some_iff.1 ho).1
      have hun0' : l.getD x0.1 true = false := by
        have g1 : l.getD x0.1 false = l[x0.1]'(by omega) := by simp [show x0.1 < l.size by omega]
        have g2 : l.getD x0.1 true = l[x0.1]'(by omega) := by simp [show x0.1 < l.size by omega]
        rw [g2, ← g1]; exact hun0
      have hready0 : x0.1 ∈ Region.ready .any ops l := by
        rw [mem_ready]
        refine ⟨hun0', ?_⟩
        cases ho : ops[x0.1]? with
        | none => rw [ho] at hop0; cases hop0
        | some o =>
          rw [ho] at hop0
          simp only [Bool.and_eq_true, beq_iff_eq, Array.all_eq_true_iff_forall_mem, Bool.or_eq_true, Bool.not_eq_true', decide_eq_true_eq, List.any_eq_true] at hop0
          refine ⟨o, rfl, fun e he hb => ?_⟩
          rcases hop0.2 e he with h | ⟨hlt, h⟩
          · rw [h] at hb; cases hb
          · rcases h with h | ⟨y, hy, hye⟩
            · exact h1 _ (by omega) h
            · cases hle : l.getD e.on false with
              | true => rfl
              | false => exact absurd ⟨y, hy, hye, hle⟩ (hmin e.on hlt)
      show wpAny P .any ops Q (fuel + m + 1) l (acE a ds V) w
      refine ⟨fun h => (by rw [h] at hready0; cases hready0), fun i hi => ?_⟩
      obtain ⟨hiun, o, ho, hall⟩ := mem_ready.1 hi
      have hilt : i < ops.size := (Array.getElem?_eq_some_iff.1 ho).1
      have hiun' : l.getD i false = false := by
        have g1 : l.getD i false = l[i]'(by omega) := by simp [show i < l.size by omega]
        have g2 : l.getD i true = l[i]'(by omega) := by simp [show i < l.size by omega]
        rw [g1, ← g2]; exact hiun
      have hiE : ∃ x ∈ ds, x.1 = i := by
        have h := hothers i hilt
        simp only [Bool.or_eq_true, List.any_eq_true, List.all_eq_true, beq_iff_eq] at h
        rcases h with (h | h) | h
        · exfalso
          have g1 : l0.getD i true = l0[i]'(by omega) := by simp [show i < l0.size by omega]
          have g2 : l0.getD i false = l0[i]'(by omega) := by simp [show i < l0.size by omega]
          have := h1 i hilt (by rw [g2, ← g1]; exact h)
          rw [hiun'] at this; cases this
        · exact h
        · exact absurd hi (Region.reach_not_ready hc (h x0 hx0) hun0')
      obtain ⟨x, hx, rfl⟩ := hiE
      have hopx := (hds x hx).1
      rw [ho] at hopx
      simp only [Bool.and_eq_true, beq_iff_eq, Array.all_eq_true_iff_forall_mem, Bool.or_eq_true, Bool.not_eq_true', decide_eq_true_eq, List.any_eq_true] at hopx
      have hpre : ∀ e ∈ o.after, Region.binds .any e = true → l0.getD e.on false = false → l.getD e.on false = true := fun e he hb _ => hall e he hb
      have hmain := hop x hx o ho (fun j => l.getD j false) V w hI hiun' hpre (fun a' w' => wpAny P .any ops Q (fuel + m) (l.setIfInBounds x.1 true) a' w') (fun v w' hIv => by
        rw [acE_up ds a V x.1 x.2 v hal hx]
        have hset : (l.setIfInBounds x.1 true).getD x.1 false = true := by simp [show x.1 < l.size by omega]
        refine ih (l.setIfInBounds x.1 true) (up V x.1 v) w' (by simpa using hsl) ?_ ?_ ?_ (hc.set hi) ?_
        · -- the count
          have hcount : ∀ (zs : List (Nat × Option Tmp)), aloneB zs = true → x ∈ zs → (∀ z ∈ zs, z ∈ ds) →
              (zs.filter fun y => !(l.setIfInBounds x.1 true).getD y.1 false).length + 1 = (zs.filter fun y => !l.getD y.1 false).length := by
            intro zs
            induction zs with
            | nil => intro _ h; cases h
            | cons z zs ihz =>
              intro halz hxz hsub
              simp only [aloneB, Bool.and_eq_true, List.all_eq_true, bne_iff_ne] at halz
              obtain ⟨hz, halz⟩ := halz
              rcases List.mem_cons.1 hxz with h | h
              · subst h
                have e1 : (!(l.setIfInBounds x.1 true).getD x.1 false) = false := by rw [hset]; rfl
                have e2 : (!l.getD x.1 false) = true := by rw [hiun']; rfl
                rw [List.filter_cons, List.filter_cons, if_neg (by rw [e1]; decide), if_pos e2, List.length_cons]
                congr 1
                have : (zs.filter fun y => !(l.setIfInBounds x.1 true).getD y.1 false) = zs.filter fun y => !l.getD y.1 false := by
                  apply List.filter_congr
                  intro y hy
                  rw [getD_set_ne false (hz y hy).1]
                rw [this]
              · have hne : x.1 ≠ z.1 := fun e => (hz x h).1 e.symm
                rw [List.filter_cons, List.filter_cons, getD_set_ne false hne]
                have := ihz halz h (fun y hy => hsub y (List.mem_cons_of_mem _ hy))
                split
                · simp only [List.length_cons]; omega
                · exact this
          have := hcount ds hal hx (fun _ h => h)
          omega
        · exact fun j hj h => getD_set_true (h1 j hj h)
        · intro j hj h
          by_cases hjx : x.1 = j
          · exact .inr ⟨x, hx, hjx⟩
          · rw [getD_set_ne false hjx] at h
            exact h2 j hj h
        · have e : (fun j => (l.setIfInBounds x.1 true).getD j false) = fun j => if j = x.1 then true else l.getD j false := by
            funext j
            by_cases hjx : j = x.1
            · rw [if_pos hjx, hjx]; exact hset
            · rw [if_neg hjx, getD_set_ne false (fun e => hjx e.symm)]
          rw [e]; exact hIv)
      replace hmain := hmain.out
      unfold wpOp
      rw [ho]
      simp only
      split
      · rename_i hw
        rw [if_pos hw] at hmain
        exact .inl hmain
      · rename_i hw
        rw [if_neg hw] at hmain
        rw [hopx.1]
        exact hmain
  have := key ds.length l0 V0 w0 hs0 ?_ (fun _ _ h => h) (fun _ _ h => .inl h) (Region.closedB_spec hcl) hI0
  · rw [hV0] at this
    exact this
  · congr 1
    rw [List.filter_eq_self]
    intro x hx
    have h := (hds x hx).2
    have hxlt : x.1 < ops.size := by
      have h := (hds x hx).1
      cases ho : ops[x.1]? with
      | none => rw [ho] at h; cases h
      | some o => exact (Array.getElem?_eq_some_iff.1 ho).1
    have g1 : l0.getD x.1 true = l0[x.1]'(by omega) := by simp [show x.1 < l0.size by omega]
    have g2 : l0.getD x.1 false = l0[x.1]'(by omega) := by simp [show x.1 < l0.size by omega]
    rw [g2, ← g1]; exact h
end
end Go.Proofs.Ytbkfdejcmimhgaa.Facts
