/- What is read is written, and read again so, in plain Lean. No Go. -/
import Derived.Test.YteiknmcmaemcoaaDoorVDm
import Derived.Test.YteiknmcmaemcoaaDoorVLa
namespace Go.Proofs.YteiknmcmaemcoaaDoor
set_option linter.unusedVariables false
set_option linter.unusedSimpArgs false
theorem after_some {l b r : V.Bs} (h : V.after l b = some r) : l = l.take b.length ++ r ∧ l.length = b.length + r.length := by
  unfold V.after at h
  split at h
  · rename_i hc
    obtain rfl := Option.some.inj h
    exact ⟨(List.take_append_drop _ _).symm, by rw [List.length_drop]; omega⟩
  · cases h
theorem pparse_text {l : V.Bs} {p : V.Path} (h : V.pparse l = some p) : V.ptext p = some l := by
  unfold V.pparse at h
  split at h
  · rename_i hl
    obtain rfl := Option.some.inj h
    rw [hl]
    rfl
  · split at h
    · rename_i hc
      split at h
      · cases h
      · rename_i a b hcut
        split at h
        · rename_i hk
          obtain rfl := Option.some.inj h
          unfold V.ptext
          rw [if_pos hk, if_neg (by simp)]
          obtain ⟨hx, _⟩ := V.cutAt_some hcut
          cases l with
          | nil => simp at hc
          | cons x t =>
            rw [List.head?_cons, List.tail_cons] at hc
            obtain ⟨h1, h2⟩ := hc
            obtain rfl := Option.some.inj h1
            rw [List.tail_cons] at hx
            have e : t = t.dropLast ++ [62] := by
              obtain ⟨ys, rfl⟩ := List.getLast?_eq_some_iff.1 h2
              rw [List.dropLast_concat]
            rw [hx] at e
            conv => rhs; rw [e]
            simp
        · cases h
    · cases h
theorem find_some (l : V.Bs) : ∀ (ws : List V.Bs) (k n : Nat), V.find l ws k = some n → ∃ w, w ∈ ws ∧ ws.getD (n - k) [] = w ∧ V.fold w = V.fold l
  | [], k, n, h => by simp [V.find] at h
  | x :: t, k, n, h => by
    have hlt := V.find_lt l (x :: t) k n h
    unfold V.find at h
    split at h
    · rename_i hx
      simp at h; subst h
      exact ⟨x, by simp, by simp, hx⟩
    · have h3 := V.find_lt l t (k + 1) n h
      obtain ⟨w, h1, h2, hf⟩ := find_some l t (k + 1) n h
      refine ⟨w, by simp [h1], ?_, hf⟩
      have e : n - k = (n - (k + 1)) + 1 := by omega
      rw [e, List.getD_cons_succ, h2]
theorem one_some {l w : V.Bs} {ws : List V.Bs} (h : V.one l ws = some w) : w ∈ ws ∧ V.fold w = V.fold l := by
  unfold V.one at h
  cases hf : V.find l ws 0 with
  | none => rw [hf] at h; cases h
  | some n =>
    rw [hf] at h
    obtain ⟨x, h1, h2, h3⟩ := find_some l ws 0 n hf
    have : w = x := by rw [← h2]; exact (Option.some.inj h).symm
    rw [this]
    exact ⟨h1, h3⟩
theorem len_fold {l m : V.Bs} (h : V.fold l = V.fold m) : l.length = m.length := by
  have := congrArg List.length h
  unfold V.fold at this
  rwa [List.length_map, List.length_map] at this
/-- A parameter's word. -/
def V.word (q : Prm) : V.Bs := q.1 ++ 61 :: q.2
def okW (c : UInt8) : Bool := okByte c && !decide (c = 32)
theorem key_self : ∀ w ∈ keyWords, V.one w keyWords = some w ∧ w.all okW = true ∧ 61 ∉ w := by decide +kernel
theorem full_self : ∀ w ∈ [wFULL, wHDRS], V.one w [wFULL, wHDRS] = some w ∧ w.all okW = true := by decide +kernel
theorem never_self : ∀ w ∈ [wNEVER, wFAILURE], V.one w [wNEVER, wFAILURE] = some w ∧ w.all okW = true := by decide +kernel
/-- A value is kept so that it is read again as it is. -/
theorem value_again {k : Int} {key val : V.Bs} (h : (V.value k key val).2 = true) (hv : val.all okW = true) :
    V.value k key (V.value k key val).1 = ((V.value k key val).1, true) ∧ (V.value k key val).1.length = val.length ∧ (V.value k key val).1.all okW = true := by
  unfold V.value at h ⊢
  by_cases h1 : k = 2 ∧ key = wSIZE
  · simp only [if_pos h1] at h ⊢
    exact ⟨by rw [h], trivial, hv⟩
  · simp only [if_neg h1] at h ⊢
    by_cases h2 : k = 2 ∧ key = wRET
    · simp only [if_pos h2] at h ⊢
      cases ho : V.one val [wFULL, wHDRS] with
      | none => rw [ho] at h; cases h
      | some w =>
        obtain ⟨hm, hf⟩ := one_some ho
        obtain ⟨e1, e2⟩ := full_self w hm
        simp only [Option.getD_some, e1, Option.isSome_some]
        exact ⟨trivial, len_fold hf, e2⟩
    · simp only [if_neg h2] at h ⊢
      by_cases h3 : k = 3 ∧ key = wNOTIFY
      · simp only [if_pos h3] at h ⊢
        cases ho : V.one val [wNEVER, wFAILURE] with
        | none => rw [ho] at h; cases h
        | some w =>
          obtain ⟨hm, hf⟩ := one_some ho
          obtain ⟨e1, e2⟩ := never_self w hm
          simp only [Option.getD_some, e1, Option.isSome_some]
          exact ⟨trivial, len_fold hf, e2⟩
      · simp only [if_neg h3] at h
        cases h
theorem eqs_word (q : Prm) (h : 61 ∉ q.1) : V.eqs (V.word q) = (q.1, q.2, true) := by
  have e : ∀ (a b : V.Bs), 61 ∉ a → V.cutAt 61 (a ++ 61 :: b) = some (a, b) := by
    intro a
    induction a with
    | nil => intro b _; simp [V.cutAt]
    | cons x a ih =>
      intro b hn
      show V.cutAt 61 (x :: (a ++ 61 :: b)) = _
      unfold V.cutAt
      rw [if_neg (fun hx => hn (by simp [hx])), ih b (fun hm => hn (by simp [hm]))]
  unfold V.eqs V.word
  rw [e q.1 q.2 h]
theorem pstep_some {k : Int} {x : V.Bs} {acc out : List Prm} (h : V.pstep k x acc = some out) (hx : x.all okW = true) :
    ∃ q : Prm, out = acc ++ [q] ∧ (V.word q).length = x.length ∧ (V.word q).all okW = true ∧ V.pstep k (V.word q) acc = some out := by
  cases hc : V.cutAt 61 x with
  | none =>
    have hE : V.eqs x = (x, [], false) := by unfold V.eqs; rw [hc]
    unfold V.pstep at h
    simp [hE] at h
  | some ab =>
    obtain ⟨a, b⟩ := ab
    have hE : V.eqs x = (a, b, true) := by unfold V.eqs; rw [hc]
    obtain ⟨hx1, hx2⟩ := V.cutAt_some hc
    cases ho : V.one a keyWords with
    | none =>
      unfold V.pstep at h
      simp [hE, ho] at h
    | some w =>
      obtain ⟨hm, hf⟩ := one_some ho
      obtain ⟨w1, w2, w3⟩ := key_self w hm
      have h0 := h
      unfold V.pstep at h
      simp only [hE, ho, Option.getD_some, Option.isSome_some] at h
      split at h
      · rename_i hcond
        simp only [Bool.and_eq_true, Bool.true_and] at hcond
        obtain ⟨hv, htw⟩ := hcond
        have hb : b.all okW = true := by
          rw [hx1, List.all_append, List.all_cons, Bool.and_eq_true, Bool.and_eq_true] at hx
          exact hx.2.2
        obtain ⟨v1, v2, v3⟩ := value_again hv hb
        refine ⟨(w, (V.value k w b).1), (Option.some.inj h).symm, ?_, ?_, ?_⟩
        · unfold V.word
          rw [hx1, List.length_append, List.length_append, List.length_cons, List.length_cons, len_fold hf, v2]
        · unfold V.word
          rw [List.all_append, List.all_cons, w2, v3]
          decide
        · unfold V.pstep
          simp only [eqs_word (w, (V.value k w b).1) w3, w1, Option.getD_some, Option.isSome_some, v1]
          rw [if_pos (by simp only [Bool.true_and]; exact htw)]
          exact h
      · cases h
theorem prmB_word (q : Prm) : V.prmB q = 32 :: V.word q := rfl
theorem params_some {k : Int} : ∀ (ws : List V.Bs) (acc ps : List Prm), V.params k ws acc = some ps → (∀ x ∈ ws, x.all okW = true) →
    ∃ qs : List Prm, ps = acc ++ qs ∧ (qs.flatMap V.prmB).length = (ws.flatMap (fun x => 32 :: x)).length ∧ (∀ q ∈ qs, (V.word q).all okW = true) ∧ V.params k (qs.map V.word) acc = some ps
  | [], acc, ps, h, _ => by
    refine ⟨[], ?_, rfl, by simp, h⟩
    rw [List.append_nil]
    unfold V.params at h
    exact (Option.some.inj h).symm
  | x :: ws, acc, ps, h, hx => by
    unfold V.params at h
    cases hp : V.pstep k x acc with
    | none => rw [hp] at h; cases h
    | some out =>
      rw [hp] at h
      obtain ⟨q, h1, h2, h3, h4⟩ := pstep_some hp (hx x (by simp))
      obtain ⟨qs, g1, g2, g3, g4⟩ := params_some ws out ps h (fun y hy => hx y (by simp [hy]))
      refine ⟨q :: qs, by rw [g1, h1]; simp, ?_, ?_, ?_⟩
      · rw [List.flatMap_cons, List.flatMap_cons, List.length_append, List.length_append, g2, prmB_word, List.length_cons, List.length_cons, h2]
      · intro y hy
        rcases List.mem_cons.1 hy with rfl | hy
        · exact h3
        · exact g3 y hy
      · rw [List.map_cons, V.params, h4]
        exact g4
theorem cut_eq (c : UInt8) : ∀ (a b : V.Bs), c ∉ a → V.cutAt c (a ++ c :: b) = some (a, b)
  | [], b, _ => by simp [V.cutAt]
  | x :: a, b, hn => by
    show V.cutAt c (x :: (a ++ c :: b)) = _
    unfold V.cutAt
    rw [if_neg (fun hx => hn (by simp [hx])), cut_eq c a b (fun hm => hn (by simp [hm]))]
theorem split_words : ∀ (qs : List Prm) (h : V.Bs), 32 ∉ h → (∀ q ∈ qs, 32 ∉ V.word q) → V.splitOn 32 (h ++ qs.flatMap V.prmB) = h :: qs.map V.word
  | [], h, hn, _ => by
    rw [List.flatMap_nil, List.append_nil, V.splitOn_cut, V.cutAt_none.2 hn]
    rfl
  | q :: qs, h, hn, hq => by
    rw [List.flatMap_cons, prmB_word, List.cons_append, V.splitOn_cut, cut_eq 32 h _ hn]
    show h :: V.splitOn 32 (V.word q ++ _) = _
    rw [split_words qs (V.word q) (hq q (by simp)) (fun y hy => hq y (by simp [hy]))]
    rfl
theorem split_join (c : UInt8) : ∀ (l h : V.Bs) (ws : List V.Bs), V.splitOn c l = h :: ws → l = h ++ ws.flatMap (fun x => c :: x) ∧ c ∉ h ∧ ∀ x ∈ ws, c ∉ x
  | [], h, ws, e => by
    unfold V.splitOn at e
    simp at e
    obtain ⟨rfl, rfl⟩ := e
    simp
  | x :: l, h, ws, e => by
    unfold V.splitOn at e
    by_cases hx : x = c
    · rw [if_pos hx] at e
      obtain ⟨rfl, rfl⟩ := List.cons.inj e
      cases hs : V.splitOn c l with
      | nil => exact absurd hs (V.splitOn_ne c l)
      | cons a t =>
        obtain ⟨h1, h2, h3⟩ := split_join c l a t hs
        refine ⟨by rw [List.flatMap_cons, List.nil_append, hx, List.cons_append, ← h1], by simp, ?_⟩
        intro y hy
        rcases List.mem_cons.1 hy with rfl | hy
        · exact h2
        · exact h3 y hy
    · rw [if_neg hx] at e
      cases hs : V.splitOn c l with
      | nil => exact absurd hs (V.splitOn_ne c l)
      | cons a t =>
        rw [hs] at e
        obtain ⟨rfl, rfl⟩ := List.cons.inj e
        obtain ⟨h1, h2, h3⟩ := split_join c l a t hs
        refine ⟨by rw [List.cons_append, ← h1], ?_, h3⟩
        intro hm
        rcases List.mem_cons.1 hm with hm | hm
        · exact hx hm.symm
        · exact h2 hm
theorem okW_ok {l : V.Bs} (h : l.all okW = true) : l.all okByte = true ∧ 32 ∉ l := by
  rw [List.all_eq_true] at h
  constructor
  · rw [List.all_eq_true]
    intro x hx
    have := h x hx
    unfold okW at this
    rw [Bool.and_eq_true] at this
    exact this.1
  · intro hm
    have := h 32 hm
    exact absurd this (by decide)
theorem okW_of {l : V.Bs} (h : l.all okByte = true) (hn : 32 ∉ l) : l.all okW = true := by
  rw [List.all_eq_true] at h ⊢
  intro x hx
  unfold okW
  have hne : x ≠ 32 := fun e => hn (by rw [← e]; exact hx)
  rw [h x hx, decide_eq_false hne]
  rfl
theorem flat_all (p : UInt8 → Bool) : ∀ (ws : List V.Bs), (ws.flatMap (fun x => 32 :: x)).all p = true → ∀ x ∈ ws, x.all p = true
  | [], _ => by simp
  | y :: ws, h => by
    rw [List.flatMap_cons, List.all_append, List.all_cons, Bool.and_eq_true, Bool.and_eq_true] at h
    intro x hx
    rcases List.mem_cons.1 hx with rfl | hx
    · exact h.1.2
    · exact flat_all p ws h.2 x hx
theorem flat_ok : ∀ (qs : List Prm), (∀ q ∈ qs, (V.word q).all okW = true) → (qs.flatMap V.prmB).all okByte = true
  | [], _ => rfl
  | q :: qs, h => by
    rw [List.flatMap_cons, List.all_append, prmB_word, List.all_cons, (okW_ok (h q (by simp))).1, flat_ok qs (fun y hy => h y (by simp [hy]))]
    rfl
/-- A mailbox with parameters, written as it is kept, is read as it is. -/
theorem mailbox_again {k : Int} {l : V.Bs} {c : V.Cmd} (h : V.mailbox k l = some c) (ha : l.all okByte = true) :
    c.kind = k ∧ c.text = [] ∧ ∃ m, m = (V.ptext c.path).getD [] ++ c.prms.flatMap V.prmB ∧ m.length = l.length ∧ m.all okByte = true ∧ V.mailbox k m = some c := by
  cases hs : V.splitOn 32 l with
  | nil => exact absurd hs (V.splitOn_ne 32 l)
  | cons b ws =>
    obtain ⟨s1, s2, s3⟩ := split_join 32 l b ws hs
    have h0 := h
    unfold V.mailbox at h
    rw [hs, List.headD_cons, List.tail_cons] at h
    cases hp : V.pparse b with
    | none => rw [hp] at h; cases h
    | some p =>
      cases hw : V.params k ws [] with
      | none => rw [hp, hw] at h; cases h
      | some ps =>
        rw [hp, hw] at h
        unfold V.mbox at h
        simp only at h
        split at h
        · cases h
        · rename_i hnn
          obtain rfl := Option.some.inj h
          rw [s1, List.all_append, Bool.and_eq_true] at ha
          have hws : ∀ x ∈ ws, x.all okW = true := fun x hx => okW_of (flat_all okByte ws ha.2 x hx) (s3 x hx)
          obtain ⟨qs, g1, g2, g3, g4⟩ := params_some ws [] ps hw hws
          rw [List.nil_append] at g1
          subst g1
          have hpt := pparse_text hp
          refine ⟨rfl, rfl, _, rfl, ?_, ?_, ?_⟩
          · show ((V.ptext p).getD [] ++ ps.flatMap V.prmB).length = _
            rw [hpt, Option.getD_some, List.length_append, g2, s1, List.length_append]
          · show ((V.ptext p).getD [] ++ ps.flatMap V.prmB).all okByte = true
            rw [hpt, Option.getD_some, List.all_append, ha.1, flat_ok ps g3]
            rfl
          · show V.mailbox k ((V.ptext p).getD [] ++ ps.flatMap V.prmB) = _
            unfold V.mailbox
            rw [hpt, Option.getD_some, split_words ps b s2 (fun q hq => (okW_ok (g3 q hq)).2), List.headD_cons, List.tail_cons, hp, g4]
            unfold V.mbox
            simp only
            rw [if_neg hnn]
theorem mail_read (t : V.Bs) : V.read (lMAIL ++ t) = V.mailbox 2 t := by
  have e : lMAIL ++ t = 77 :: 65 :: 73 :: 76 :: 32 :: 70 :: 82 :: 79 :: 77 :: 58 :: t := rfl
  rw [e]
  have h1 : V.aloneB (77 :: 65 :: 73 :: 76 :: 32 :: 70 :: 82 :: 79 :: 77 :: 58 :: t) = false := by simp [V.aloneB, aloneT, V.fold, V.low]
  have h2 : V.tryT (77 :: 65 :: 73 :: 76 :: 32 :: 70 :: 82 :: 79 :: 77 :: 58 :: t) readT = some (V.mailbox 2 t) := by simp [V.tryT, readT, V.after, V.fold, V.low]
  unfold V.read
  rw [h1, h2]
  rfl
theorem rcpt_read (t : V.Bs) : V.read (lRCPT ++ t) = V.mailbox 3 t := by
  have e : lRCPT ++ t = 82 :: 67 :: 80 :: 84 :: 32 :: 84 :: 79 :: 58 :: t := rfl
  rw [e]
  have h1 : V.aloneB (82 :: 67 :: 80 :: 84 :: 32 :: 84 :: 79 :: 58 :: t) = false := by simp [V.aloneB, aloneT, V.fold, V.low]
  have h2 : V.tryT (82 :: 67 :: 80 :: 84 :: 32 :: 84 :: 79 :: 58 :: t) readT = some (V.mailbox 3 t) := by simp [V.tryT, readT, V.after, V.fold, V.low]
  unfold V.read
  rw [h1, h2]
  rfl
theorem pre_parse (W wd t : V.Bs) (hok : W.all okByte = true) (hf : V.fold (V.first (W ++ t)) = wd) (hk : (wd.isEmpty || !decide (wd ∈ wordsL)) = false) (hl : W.length + t.length ≤ 510) (ha : t.all okByte = true) :
    (V.parse (W ++ t)).1 = V.read (W ++ t) := by
  unfold V.parse
  rw [if_neg (by rw [List.length_append]; omega), List.all_append, hok, ha, if_pos (by rfl), hf]
  unfold V.known
  rw [hk, if_neg (by decide), told_read]
theorem mail_parse (t : V.Bs) (hl : t.length ≤ 500) (ha : t.all okByte = true) : (V.parse (lMAIL ++ t)).1 = V.mailbox 2 t := by
  rw [pre_parse lMAIL [109, 97, 105, 108] t rfl (by simp [V.first, lMAIL, V.cutAt, V.fold, V.low]) (by decide +kernel) (by show 10 + _ ≤ _; omega) ha, mail_read]
theorem rcpt_parse (t : V.Bs) (hl : t.length ≤ 502) (ha : t.all okByte = true) : (V.parse (lRCPT ++ t)).1 = V.mailbox 3 t := by
  rw [pre_parse lRCPT [114, 99, 112, 116] t rfl (by simp [V.first, lRCPT, V.cutAt, V.fold, V.low]) (by decide +kernel) (by show 8 + _ ≤ _; omega) ha, rcpt_read]
theorem line_of (c : V.Cmd) (m : V.Bs) (W : V.Bs) (h : V.lineB c = W ++ (V.ptext c.path).getD []) (hm : m = (V.ptext c.path).getD [] ++ c.prms.flatMap V.prmB) : V.line c = W ++ m := by
  unfold V.line
  rw [h, hm, List.append_assoc]
theorem try_some {l : V.Bs} {o : Option V.Cmd} : ∀ {T : List (V.Bs × Int × Bool)}, V.tryT l T = some o → ∃ x ∈ T, ∃ r, V.after l x.1 = some r ∧ o = if x.2.2 then V.mailbox x.2.1 r else V.namedO x.2.1 r
  | [], h => by cases h
  | x :: T, h => by
    unfold V.tryT at h
    cases ha : V.after l x.1 with
    | none =>
      rw [ha] at h
      obtain ⟨y, hy, r, h1, h2⟩ := try_some h
      exact ⟨y, by simp [hy], r, h1, h2⟩
    | some r =>
      rw [ha] at h
      exact ⟨x, by simp, r, ha, (Option.some.inj h).symm⟩
theorem read_of_parse {l : V.Bs} {c : V.Cmd} (h : (V.parse l).1 = some c) : l.length ≤ 510 ∧ l.all okByte = true ∧ V.read l = some c := by
  unfold V.parse at h
  split at h
  · cases h
  · rename_i hl
    split at h
    · rename_i ha
      refine ⟨by omega, ha, ?_⟩
      unfold V.known at h
      split at h
      · cases h
      · rw [told_read] at h
        exact h
    · cases h
theorem text_of {c : V.Cmd} (h : (V.parse (V.line c)).1 = some c) : V.text c = some (V.line c) := by
  unfold V.text
  rw [if_pos h]
theorem domain_ne {r : V.Bs} (h : V.domain r = true) : r ≠ [] := by
  intro e
  rw [e] at h
  exact absurd h (by decide)
theorem named_again (k : Int) (W r : V.Bs) (c : V.Cmd) (h : V.namedO k r = some c) (hp : (V.parse (W ++ r)).1 = V.namedO k r) (hl : r ≠ [] → V.line ⟨k, r, V.noPath, []⟩ = W ++ r) : (V.parse (V.line c)).1 = some c := by
  have h0 := h
  unfold V.namedO at h
  split at h
  · rename_i hd
    obtain rfl := Option.some.inj h
    rw [hl (domain_ne hd), hp, h0]
  · cases h
theorem alone_again : ∀ p ∈ aloneT, (V.parse (V.line ⟨V.look p.1 aloneT, [], V.noPath, []⟩)).1 = some ⟨V.look p.1 aloneT, [], V.noPath, []⟩ := by decide +kernel
theorem noop_again : (V.parse (V.line ⟨7, [], V.noPath, []⟩)).1 = some ⟨7, [], V.noPath, []⟩ := by decide +kernel
theorem back_plain (l : V.Bs) (c : V.Cmd) (h : (V.parse l).1 = some c) : V.text c = some (V.line c) := by
  obtain ⟨hl, ha, hr⟩ := read_of_parse h
  refine text_of ?_
  unfold V.read at hr
  split at hr
  · rename_i hb
    obtain rfl := Option.some.inj hr
    unfold V.aloneB at hb
    obtain ⟨p, hp, he⟩ := List.any_eq_true.1 hb
    have e := of_decide_eq_true he
    unfold V.aloneK
    rw [← e]
    exact alone_again p hp
  · split at hr
    · rename_i o ho
      subst hr
      obtain ⟨x, hx, r, h1, h2⟩ := try_some ho
      obtain ⟨e1, e2⟩ := after_some h1
      have har : r.all okByte = true := by
        rw [e1, List.all_append, Bool.and_eq_true] at ha
        exact ha.2
      have hx' : x = ([101, 104, 108, 111, 32], 1, false) ∨ x = ([104, 101, 108, 111, 32], 1, false) ∨ x = ([109, 97, 105, 108, 32, 102, 114, 111, 109, 58], 2, true) ∨ x = ([114, 99, 112, 116, 32, 116, 111, 58], 3, true) ∨ x = ([101, 116, 114, 110, 32], 9, false) ∨ x = ([97, 116, 114, 110, 32], 11, false) := by
        simpa [readT] using hx
      have hehlo : r.length ≤ 505 → some c = V.namedO 1 r → (V.parse (V.line c)).1 = some c := fun hr hc => named_again 1 ehloW r c hc.symm (ehlo_parse r hr) (fun _ => by simp [V.line, V.lineB, V.lookT, lineT, ehloW, lEHLO])
      rcases hx' with rfl | rfl | rfl | rfl | rfl | rfl
      · exact hehlo (by simp at e2; omega) h2
      · exact hehlo (by simp at e2; omega) h2
      · obtain ⟨k1, k2, m, m1, m2, m3, m4⟩ := mailbox_again (k := 2) h2.symm har
        have e3 : r.length ≤ 500 := by simp at e2; omega
        rw [line_of c m lMAIL (by unfold V.lineB; rw [k1, k2]; simp [V.lookT, lineT]) m1, mail_parse m (by omega) m3, m4]
      · obtain ⟨k1, k2, m, m1, m2, m3, m4⟩ := mailbox_again (k := 3) h2.symm har
        have e3 : r.length ≤ 502 := by simp at e2; omega
        rw [line_of c m lRCPT (by unfold V.lineB; rw [k1, k2]; simp [V.lookT, lineT]) m1, rcpt_parse m (by omega) m3, m4]
      · exact named_again 9 etrnW r c h2.symm (etrn_parse r (by simp at e2; omega)) (fun _ => by simp [V.line, V.lineB, V.lookT, lineT, etrnW, lETRN])
      · exact named_again 11 atrnW r c h2.symm (atrn_parse r (by simp at e2; omega)) (fun hn => by simp [V.line, V.lineB, V.lookT, lineT, atrnW, lATRN, hn])
    · unfold V.tail at hr
      split at hr
      · obtain rfl := Option.some.inj hr
        exact noop_again
      · split at hr
        · rename_i r hv
          split at hr
          · cases hr
          · rename_i hne
            obtain rfl := Option.some.inj hr
            obtain ⟨e1, e2⟩ := after_some hv
            have har : r.all okByte = true := by
              rw [e1, List.all_append, Bool.and_eq_true] at ha
              exact ha.2
            have e : V.line ⟨6, r, V.noPath, []⟩ = lVRFY ++ r := by simp [V.line, V.lineB, V.lookT, lineT]
            rw [e, vrfy_parse r (fun e => hne (by rw [e]; rfl)) (by simp [vrfyB] at e2; omega) har]
        · cases hr
theorem ptext_len {p : V.Path} {b : V.Bs} (h : V.ptext p = some b) : p.loc.length ≤ b.length ∧ p.dom.length ≤ b.length := by
  unfold V.ptext at h
  split at h
  · rename_i hc
    split at h
    · rename_i hn
      unfold V.check at hc
      rw [hn] at hc
      simp at hc
      rw [hc.1, hc.2]
      simp
    · obtain rfl := Option.some.inj h
      simp only [List.length_append, List.length_cons, List.length_nil, List.cons_append]
      omega
  · cases h
theorem mailbox_fit {k : Int} {l : V.Bs} {c : V.Cmd} (h : V.mailbox k l = some c) (ha : l.all okByte = true) (hl : l.length ≤ 510) (hk : (Lit.int .i64 k).wf = true) : Fit c := by
  obtain ⟨k1, k2, m, m1, m2, m3, m4⟩ := mailbox_again h ha
  have hp : ∃ b, V.ptext c.path = some b := by
    unfold V.mailbox at h
    cases hp : V.pparse ((V.splitOn 32 l).headD []) with
    | none => rw [hp] at h; cases h
    | some p =>
      cases hw : V.params k (V.splitOn 32 l).tail [] with
      | none => rw [hp, hw] at h; cases h
      | some ps =>
        rw [hp, hw] at h
        unfold V.mbox at h
        simp only at h
        split at h
        · cases h
        · obtain rfl := Option.some.inj h
          exact ⟨_, pparse_text hp⟩
  obtain ⟨b, hb⟩ := hp
  rw [hb, Option.getD_some] at m1
  obtain ⟨p1, p2⟩ := ptext_len hb
  have e : b.length + (c.prms.flatMap V.prmB).length ≤ 510 := by rw [← List.length_append, ← m1]; omega
  have e2 : ∀ l : List Prm, l.length ≤ (l.flatMap V.prmB).length := by
    intro l
    induction l with
    | nil => simp
    | cons x l ih =>
      rw [List.flatMap_cons, List.length_append, List.length_cons]
      have : 1 ≤ (V.prmB x).length := by unfold V.prmB; simp
      omega
  have e3 := e2 c.prms
  exact ⟨by rw [k1]; exact hk, by rw [k2]; simp, by omega, by omega, by omega, by omega⟩
theorem alone_wf : ∀ p ∈ aloneT, (Lit.int .i64 (V.look p.1 aloneT)).wf = true := by decide +kernel
theorem named_fit {k : Int} {r : V.Bs} {c : V.Cmd} (h : V.namedO k r = some c) (hl : r.length ≤ 510) (hk : (Lit.int .i64 k).wf = true) : Fit c := by
  unfold V.namedO at h
  split at h
  · obtain rfl := Option.some.inj h
    exact ⟨hk, by show r.length ≤ _; omega, Nat.zero_le _, Nat.zero_le _, Nat.zero_le _, Nat.zero_le _⟩
  · cases h
/-- What is read is not too long. -/
theorem fit_parse {l : V.Bs} {c : V.Cmd} (h : (V.parse l).1 = some c) : Fit c := by
  obtain ⟨hl, ha, hr⟩ := read_of_parse h
  unfold V.read at hr
  split at hr
  · rename_i hb
    obtain rfl := Option.some.inj hr
    unfold V.aloneB at hb
    obtain ⟨p, hp, he⟩ := List.any_eq_true.1 hb
    have e := of_decide_eq_true he
    refine ⟨?_, Nat.zero_le _, Nat.zero_le _, Nat.zero_le _, Nat.zero_le _, Nat.zero_le _⟩
    show (Lit.int .i64 (V.aloneK l)).wf = true
    unfold V.aloneK
    rw [← e]
    exact alone_wf p hp
  · split at hr
    · rename_i o ho
      subst hr
      obtain ⟨x, hx, r, h1, h2⟩ := try_some ho
      obtain ⟨e1, e2⟩ := after_some h1
      have har : r.all okByte = true := by
        rw [e1, List.all_append, Bool.and_eq_true] at ha
        exact ha.2
      have hk : ∀ x ∈ readT, (Lit.int .i64 x.2.1).wf = true := by decide +kernel
      split at h2
      · exact mailbox_fit h2.symm har (by omega) (hk x hx)
      · exact named_fit h2.symm (by omega) (hk x hx)
    · unfold V.tail at hr
      split at hr
      · obtain rfl := Option.some.inj hr
        exact ⟨by decide, by decide, by decide, by decide, by decide, by decide⟩
      · split at hr
        · rename_i r hv
          split at hr
          · cases hr
          · obtain rfl := Option.some.inj hr
            obtain ⟨e1, e2⟩ := after_some hv
            exact ⟨(by decide : (Lit.int .i64 6).wf = true), by show r.length ≤ _; omega, Nat.zero_le _, Nat.zero_le _, Nat.zero_le _, Nat.zero_le _⟩
        · cases hr
/-- A text that is written is the command's line, and is read as it. -/
theorem text_some {c : V.Cmd} {t : V.Bs} (h : V.text c = some t) : (V.parse t).1 = some c ∧ t.length ≤ 510 := by
  unfold V.text at h
  split at h
  · rename_i hp
    obtain rfl := Option.some.inj h
    exact ⟨hp, (read_of_parse hp).1⟩
  · cases h
end Go.Proofs.YteiknmcmaemcoaaDoor
