/- Arguments that are slices of Bools, paths, commands: opened to the values' own types. -/
import Derived.Test.YteiknmcmaemcoaaDoorProg
import Derived.WalkKit
import Derived.WalkLawsBesides
import Derived.Outline
import Derived.LoopTactic
import Derived.Lib.Hide
import Derived.Deep.QuietTactic
import Derived.BigQuiet
import Derived.Deep.LoopGhost
import Derived.Deep.DeepCutAuto
import Derived.Deep.CutBlock
import Derived.Deep.RegionHeld3
import Derived.Deep.RegionWith
import Derived.Deep.WholeRow
import Derived.Laws.Rows
import Derived.Laws.Tables
import Derived.Laws.ResultCell
import Derived.StillTailTactics
import Derived.Deep.DeepMust
import Derived.IntWalk
import Derived.KernelRfl
import Derived.Test.YteiknmcmaemcoaaDoorWWords
import Derived.Test.YteiknmcmaemcoaaDoorWLast
import Derived.Test.YteiknmcmaemcoaaDoorWMore
import Derived.Deep.Slices
import Derived.WideShapes
import Derived.SizedLaws
import Derived.ChangeArms
import Derived.Test.YteiknmcmaemcoaaDoorVy
namespace Go.Proofs.YteiknmcmaemcoaaDoor
open Go.RowKit Go.Proofs.YteiknmcmaemcoaaDoorW.PrintWords
set_option linter.unusedVariables false
set_option linter.unusedSimpArgs false
section
variable {H : Type} {α β : Type} (enc : TypeId × Value → H) (P : Program) (w : World) (base : Nat) (spare : Nat → Bool) (held : Bool)
/-- What reads as data of type t, within the form's reach, is a value of this kind, with that property. -/
def Opens (d : Kd α) (G : α → Prop) (t : TypeId) : Prop := ∀ fuel cs x, DataW.trod enc P w base spare held fuel t cs = some x → (∀ n ∈ x.1.weights P t, n ≤ reachBytes) → ∃ y, d.K w y cs ∧ G y
/-- Likewise the cells of fields from o on. -/
def OpensF (d : Kd α) (G : α → Prop) (o : Nat) (fs : List Field) : Prop := ∀ n cs, cs.length = d.sz → (∀ f ∈ fs, ∃ y, DataW.trod enc P w base spare held n f.type ((cs.drop (f.offset - o)).take (P.cellsOf f.type)) = some y ∧ ∀ n ∈ y.1.weights P f.type, n ≤ reachBytes) → ∃ y, d.K w y cs ∧ G y
def OkA {α : Type} : α → Prop := fun _ => True
def OkI (k : IntKind) (n : Int) : Prop := (Lit.int k n).wf = true
def OkS (s : ByteArray) : Prop := s.size ≤ 140737488351232
def OkL {α : Type} (G : α → Prop) (l : List α) : Prop := l.length ≤ 140737488351232 ∧ ∀ z ∈ l, G z
def OkP {α β : Type} (G : α → Prop) (K : β → Prop) (x : α × β) : Prop := G x.1 ∧ K x.2
theorem weightsAll_mem {e : TypeId} {l : List (DataW H)} {d : DataW H} (hd : d ∈ l) {n : Nat} (hn : n ∈ d.weights P e) : n ∈ DataW.weightsAll P e l := by
  induction l with
  | nil => cases hd
  | cons a l ih =>
    simp only [DataW.weightsAll, List.mem_append]
    rcases List.mem_cons.1 hd with rfl | h
    · exact .inl hn
    · exact .inr (ih h)
variable {enc P w base spare held}
theorem opens_int {k : IntKind} {t : TypeId} (ht : P.underlying t = some (.int k)) : Opens enc P w base spare held (Kd.int k) (OkI k) t := fun fuel cs x h _ => by
  obtain ⟨n, rfl, _, hw⟩ := DataW.trod_int ht h
  exact ⟨n, rfl, hw⟩
theorem opens_bool {t : TypeId} (ht : P.underlying t = some .bool) : Opens enc P w base spare held Kd.bool OkA t := fun fuel cs x h _ => by
  obtain ⟨n, rfl, _⟩ := DataW.trod_bool ht h
  exact ⟨n, rfl, trivial⟩
theorem opens_string {t : TypeId} (ht : P.underlying t = some .string) : Opens enc P w base spare held Kd.string OkS t := fun fuel cs x h hw => by
  obtain ⟨n, rfl, rfl, _⟩ := DataW.trod_string ht h
  have := hw n.data.toList.length (by simp [DataW.weights])
  exact ⟨n, rfl, by rw [Array.length_toList] at this; exact this⟩
theorem opens_C {d : Kd α} {G : α → Prop} {t e : TypeId} (ht : P.underlying t = some (.slice e)) (hsz : P.cellsOf e = d.sz) (hby : 1 ≤ P.bytesOf e) (hd : Opens enc P w base spare held d G e) (fuel : Nat) (cs : List Value) (x : DataW H × List MemPlace) (h : DataW.trod enc P w base spare held fuel t cs = some x) (hw : ∀ n ∈ x.1.weights P t, n ≤ reachBytes) : ∃ (y : List α) (A : Option Addr) (c : Nat), cs = [.slice A y.length c] ∧ y.length ≤ c ∧ c ≤ maxLen ∧ d.C w A y.length y ∧ OkL G y := by
  rcases Go.Deep.open_slice ht h with ⟨rfl, rfl⟩ | ⟨a, len, cap, m, n, D, Pl, rfl, hb, hl, hm, hmm, rfl, hi⟩
  · exact ⟨[], none, 0, rfl, Nat.le_refl 0, Nat.zero_le _, Kd.C_nil d w, Nat.zero_le _, fun z hz => by cases hz⟩
  · have hlm : len ≤ m := by rw [hmm]; split <;> omega
    have hk : ∀ i, ∃ y : Option α, i < len → ∃ z cs', y = some z ∧ w.cells? base (a.add (i * P.cellsOf e)) (P.cellsOf e) = some cs' ∧ d.K w z cs' ∧ G z := by
      intro i
      by_cases hil : i < len
      · obtain ⟨cs', h1, h2⟩ := hi i (by omega)
        obtain ⟨z, hz, hg⟩ := hd _ _ _ h2 (fun n hn => hw n (by
          simp only [DataW.weights, ht, List.mem_cons, List.mem_append]
          exact .inr (.inl (weightsAll_mem P (d := D i) (List.mem_map.2 ⟨i, List.mem_range.2 hil, rfl⟩) hn))))
        exact ⟨some z, fun _ => ⟨z, cs', rfl, h1, hz, hg⟩⟩
      · exact ⟨none, fun hh => absurd hh hil⟩
    obtain ⟨f, hf⟩ := Classical.axiomOfChoice hk
    have hall : ∀ i, i < len → ∃ z cs', f i = some z ∧ w.cells? base (a.add (i * P.cellsOf e)) (P.cellsOf e) = some cs' ∧ d.K w z cs' ∧ G z := hf
    have hlen : ((List.range len).filterMap f).length = len ∧ ∀ i, i < len → ((List.range len).filterMap f)[i]? = f i := by
      have key : ∀ m, m ≤ len → ((List.range m).filterMap f).length = m ∧ ∀ i, i < m → ((List.range m).filterMap f)[i]? = f i := by
        intro m
        induction m with
        | zero => intro _; exact ⟨rfl, fun i hi => absurd hi (by omega)⟩
        | succ m ih =>
          intro hm
          obtain ⟨i1, i2⟩ := ih (by omega)
          obtain ⟨z, cs', hz, _⟩ := hall m (by omega)
          have e : (List.range (m + 1)).filterMap f = (List.range m).filterMap f ++ [z] := by
            rw [List.range_succ, List.filterMap_append]
            simp [hz]
          rw [e]
          refine ⟨by simp [i1], fun i hi => ?_⟩
          by_cases him : i < m
          · rw [List.getElem?_append_left (by omega)]; exact i2 i him
          · obtain rfl : i = m := by omega
            rw [List.getElem?_append_right (by omega), i1, Nat.sub_self, hz]; rfl
      exact key len (Nat.le_refl _)
    obtain ⟨l1, l2⟩ := hlen
    have hlen47 : len ≤ 140737488351232 := by
      have h1 := hw _ (by simp only [DataW.weights, ht]; exact List.mem_cons_self)
      rw [List.length_map, List.length_range, List.length_map, List.length_range] at h1
      have h2 : len * 1 ≤ (len + (m - len)) * P.bytesOf e := Nat.mul_le_mul (Nat.le_add_right _ _) hby
      unfold reachBytes at h1
      omega
    refine ⟨(List.range len).filterMap f, some a, cap, by rw [l1], by rw [l1]; exact hl, hm, ⟨rfl, by rw [l1]; unfold maxLen at hm; omega, fun _ => ⟨a, rfl, fun j p hp => ?_⟩⟩, by rw [l1]; exact hlen47, fun z hz => ?_⟩
    · have hj : j < len := by
        have := (List.getElem?_eq_some_iff.1 hp).1
        omega
      obtain ⟨z, cs', hz, hc, hK, _⟩ := hall j hj
      have hpz : p = z := by rw [l2 j hj, hz] at hp; injection hp with hp; exact hp.symm
      subst hpz
      obtain ⟨_, hcl, hat⟩ := World.cells?_some hc
      refine ⟨cs', by rw [hcl, hsz], hK, fun i u hu => ?_⟩
      have hil := (List.getElem?_eq_some_iff.1 hu).1
      rw [← Go.Deep.add_add, ← hsz, hat i (by omega), hu]
    · obtain ⟨j, hj, he⟩ := List.getElem_of_mem hz
      rw [l1] at hj
      obtain ⟨z', cs', hz', _, _, hg⟩ := hall j hj
      have h3 := l2 j hj
      rw [List.getElem?_eq_getElem (by rw [l1]; exact hj), he, hz'] at h3
      injection h3 with h3
      rw [h3]
      exact hg
theorem opens_slice {d : Kd α} {G : α → Prop} {t e : TypeId} (ht : P.underlying t = some (.slice e)) (hsz : P.cellsOf e = d.sz) (hby : 1 ≤ P.bytesOf e) (hd : Opens enc P w base spare held d G e) : Opens enc P w base spare held (Kd.slice e d) (OkL G) t := fun fuel cs x h hw => by
  obtain ⟨y, A, c, rfl, hl, _, hC, hG⟩ := opens_C ht hsz hby hd fuel cs x h hw
  exact ⟨y, ⟨A, c, rfl, hl, hC⟩, hG⟩
theorem opensF_one {d : Kd α} {G : α → Prop} {o : Nat} {f : Field} (ho : f.offset = o) (hsz : P.cellsOf f.type = d.sz) (hd : Opens enc P w base spare held d G f.type) : OpensF enc P w base spare held d G o [f] := fun n cs hl h => by
  obtain ⟨y, hy, hw⟩ := h f (by simp)
  rw [ho, Nat.sub_self, List.drop_zero, hsz, ← hl, List.take_length] at hy
  exact hd _ _ _ hy hw
theorem opensF_pair {a : Kd α} {b : Kd β} {G : α → Prop} {K : β → Prop} {o : Nat} {f : Field} {fs : List Field} (ho : f.offset = o) (hsz : P.cellsOf f.type = a.sz) (ha : Opens enc P w base spare held a G f.type) (hfs : ∀ g ∈ fs, o + a.sz ≤ g.offset) (hb : OpensF enc P w base spare held b K (o + a.sz) fs) : OpensF enc P w base spare held (Kd.pair a b) (OkP G K) o (f :: fs) := fun n cs hl h => by
  have hl' : cs.length = a.sz + b.sz := hl
  obtain ⟨y, hy, hw⟩ := h f (by simp)
  rw [ho, Nat.sub_self, List.drop_zero, hsz] at hy
  obtain ⟨x, hx, hgx⟩ := ha _ _ _ hy hw
  obtain ⟨z, hz, hgz⟩ := hb n (cs.drop a.sz) (by rw [List.length_drop]; omega) (fun g hg => by
    obtain ⟨y, hy, hw⟩ := h g (by simp [hg])
    have := hfs g hg
    exact ⟨y, by rw [List.drop_drop, show a.sz + (g.offset - (o + a.sz)) = g.offset - o by omega]; exact hy, hw⟩)
  exact ⟨(x, z), ⟨cs.take a.sz, cs.drop a.sz, (List.take_append_drop _ _).symm, hx, hz⟩, hgx, hgz⟩
theorem opens_struct {d : Kd α} {G : α → Prop} {t : TypeId} {fs : Array Field} (f : β → α) (hf : ∀ y, ∃ x, f x = y) (ht : P.underlying t = some (.struct fs)) (hsz : P.cellsOf t = d.sz) (hd : OpensF enc P w base spare held d G 0 fs.toList) : Opens enc P w base spare held (Kd.iso d f) (fun x => G (f x)) t := fun fuel cs x h hw => by
  obtain ⟨xs, n, _, rfl, hl, hlen, hg⟩ := DataW.trod_struct ht h
  obtain ⟨y, hy, hgy⟩ := hd n cs (by rw [hl, hsz]) (fun g hg' => by
    obtain ⟨i, hi, he⟩ := List.getElem_of_mem hg'
    have h1 : fs[i]? = some g := by rw [← he]; simp at hi; simp [hi]
    have h2 := hg i g h1
    have hlt : i < xs.length := by rw [hlen]; simpa using hi
    rw [List.getElem?_eq_getElem hlt] at h2
    refine ⟨_, by rw [Nat.sub_zero]; exact h2, fun n hn => hw n ?_⟩
    simp only [DataW.weights, ht]
    exact DataW.weights_mem_each (j := i) (t := g.type) (d := xs[i].1) (by simp at hi; rw [List.getElem?_map]; simp [hi, ← he]) (by rw [List.getElem?_map, List.getElem?_eq_getElem hlt]; rfl) n hn)
  obtain ⟨x, rfl⟩ := hf y
  exact ⟨x, hy, hgy⟩
end
theorem cells_int : Tryd.prog.cellsOf 3 = 1 := by kernel_rfl
theorem cells_bool : Tryd.prog.cellsOf 4 = 1 := by kernel_rfl
theorem cells_string : Tryd.prog.cellsOf 9 = 1 := by kernel_rfl
theorem cells_path : Tryd.prog.cellsOf 23 = 3 := by kernel_rfl
theorem cells_param : Tryd.prog.cellsOf 46 = 2 := by kernel_rfl
theorem cells_params : Tryd.prog.cellsOf 24 = 1 := by kernel_rfl
theorem cells_cmd : Tryd.prog.cellsOf 26 = 6 := by kernel_rfl
theorem bytes_bool : 1 ≤ Tryd.prog.bytesOf 4 := of_decide_eq_true (by kernel_rfl)
theorem bytes_param : 1 ≤ Tryd.prog.bytesOf 46 := of_decide_eq_true (by kernel_rfl)
def kpath : Kd V.Path := Kd.iso (Kd.pair Kd.bool (Kd.pair Kd.string Kd.string)) (fun p : V.Path => (p.null, str p.loc, str p.dom))
def kcm : Kd V.Cmd := Kd.iso (Kd.pair (Kd.int .i64) (Kd.pair Kd.string (Kd.pair kpath (Kd.slice 46 kp)))) (fun c : V.Cmd => (c.kind, str c.text, c.path, c.prms))
def OkPrm (x : Prm) : Prop := OkP OkS OkS (str x.1, str x.2)
def OkPath (x : V.Path) : Prop := OkP OkA (OkP OkS OkS) (x.null, str x.loc, str x.dom)
def OkCmd (c : V.Cmd) : Prop := OkP (OkI .i64) (OkP OkS (OkP OkPath (OkL OkPrm))) (c.kind, str c.text, c.path, c.prms)
section
variable {H : Type} {enc : TypeId × Value → H} {w : World} {base : Nat} {spare : Nat → Bool} {held : Bool}
theorem opens_prm : Opens enc Tryd.prog w base spare held kp OkPrm 46 :=
  opens_struct _ (fun y => ⟨(lst y.1, lst y.2), by simp only [str_lst]⟩) Tryd.underlying46 cells_param (opensF_pair rfl cells_string (opens_string Tryd.underlying9) (by decide) (opensF_one rfl cells_string (opens_string Tryd.underlying9)))
theorem opens_path : Opens enc Tryd.prog w base spare held kpath OkPath 23 :=
  opens_struct _ (fun y => ⟨⟨y.1, lst y.2.1, lst y.2.2⟩, by simp only [str_lst]⟩) Tryd.underlying23 cells_path (opensF_pair rfl cells_bool (opens_bool Tryd.underlying4) (by decide) (opensF_pair rfl cells_string (opens_string Tryd.underlying9) (by decide) (opensF_one rfl cells_string (opens_string Tryd.underlying9))))
theorem opens_cmd : Opens enc Tryd.prog w base spare held kcm OkCmd 26 :=
  opens_struct _ (fun y => ⟨⟨y.1, lst y.2.1, y.2.2.1, y.2.2.2⟩, by simp only [str_lst]⟩) Tryd.underlying26 cells_cmd (opensF_pair rfl cells_int (opens_int Tryd.underlying3) (by decide) (opensF_pair rfl cells_string (opens_string Tryd.underlying9) (by decide) (opensF_pair rfl cells_path opens_path (by decide) (opensF_one rfl cells_params (opens_slice Tryd.underlying24 cells_param bytes_param opens_prm)))))
set_option maxRecDepth 100000 in
/-- An argument that is a slice of Bools. -/
theorem open_bools {r : Reach} {b0 : Nat} {v : Value} {d : DataW H} {p : List MemPlace} {ts : List TypeId} {ds : List (DataW H)} {j : Nat} (hsz : (DataW.weightsEach Tryd.prog ts ds).all (· ≤ reachBytes) = true) (hts : ts[j]? = some 36) (hds : ds[j]? = some d) (hv : Value.okWide Tryd.prog w r b0 36 v) (h : DataW.Trod enc Tryd.prog w base spare held 36 v d p) : ∃ (x : List Bool) (A : Option Addr) (c : Nat), v = .slice A x.length c ∧ x.length ≤ c ∧ c ≤ maxLen ∧ Kd.bool.C w A x.length x ∧ OkL OkA x := by
  obtain ⟨a, len, cap, rfl⟩ := Go.WideShapes.okWide_slice Tryd.underlying36 hv
  obtain ⟨fuel, hf⟩ := h
  obtain ⟨y, A, c, hy, hl, hm, hC, hG⟩ := opens_C Tryd.underlying36 cells_bool bytes_bool (opens_bool Tryd.underlying4) _ _ _ hf (fun n hn => by simpa using List.all_eq_true.1 hsz n (DataW.weights_mem_each hts hds n hn))
  exact ⟨y, A, c, by simpa [Value.cells] using hy, hl, hm, hC, hG⟩
set_option maxRecDepth 100000 in
/-- An argument that is a path. -/
theorem open_path {r : Reach} {b0 : Nat} {v : Value} {d : DataW H} {p : List MemPlace} {ts : List TypeId} {ds : List (DataW H)} {j : Nat} (hsz : (DataW.weightsEach Tryd.prog ts ds).all (· ≤ reachBytes) = true) (hts : ts[j]? = some 23) (hds : ds[j]? = some d) (hv : Value.okWide Tryd.prog w r b0 23 v) (h : DataW.Trod enc Tryd.prog w base spare held 23 v d p) : ∃ x : V.Path, v = .agg #[.bool x.null, .string (str x.loc), .string (str x.dom)] ∧ OkPath x := by
  obtain ⟨cs, rfl, _⟩ := Go.WideShapes.okWide_struct Tryd.underlying23 hv
  obtain ⟨fuel, hf⟩ := h
  obtain ⟨y, hy, hg⟩ := opens_path _ _ _ hf (fun n hn => by simpa using List.all_eq_true.1 hsz n (DataW.weights_mem_each hts hds n hn))
  obtain ⟨_, _, e1, rfl, _, _, rfl, rfl, rfl⟩ := hy
  refine ⟨y, ?_, hg⟩
  congr 1
  apply Array.toList_inj.1
  simpa [Value.cells] using e1
set_option maxRecDepth 100000 in
/-- An argument that is a command. -/
theorem open_cmd {r : Reach} {b0 : Nat} {v : Value} {d : DataW H} {p : List MemPlace} {ts : List TypeId} {ds : List (DataW H)} {j : Nat} (hsz : (DataW.weightsEach Tryd.prog ts ds).all (· ≤ reachBytes) = true) (hts : ts[j]? = some 26) (hds : ds[j]? = some d) (hv : Value.okWide Tryd.prog w r b0 26 v) (h : DataW.Trod enc Tryd.prog w base spare held 26 v d p) : ∃ (c : V.Cmd) (A : Option Addr) (q : Nat), v = cagg c A q ∧ Kd.C kp w A c.prms.length c.prms ∧ OkCmd c := by
  obtain ⟨cs, rfl, _⟩ := Go.WideShapes.okWide_struct Tryd.underlying26 hv
  obtain ⟨fuel, hf⟩ := h
  obtain ⟨y, hy, hg⟩ := opens_cmd _ _ _ hf (fun n hn => by simpa using List.all_eq_true.1 hsz n (DataW.weights_mem_each hts hds n hn))
  obtain ⟨_, _, e1, rfl, _, _, rfl, rfl, _, _, rfl, ⟨_, _, rfl, rfl, _, _, rfl, rfl, rfl⟩, A, q, rfl, _, hC⟩ := hy
  refine ⟨y, A, q, ?_, hC, hg⟩
  unfold cagg
  congr 1
  apply Array.toList_inj.1
  simpa [Value.cells] using e1
end
end Go.Proofs.YteiknmcmaemcoaaDoor
