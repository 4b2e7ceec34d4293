/- Params: where a key stands among them. -/
import Derived.Test.YteiknmcmaemcoaaDoorProg
import Derived.WalkKit
import Derived.WalkLawsBesides
import Derived.Outline
import Derived.LoopTactic
import Derived.Lib.Hide
import Derived.Deep.QuietTactic
import Derived.BigQuiet
import Derived.Deep.LoopGhost
import Derived.Deep.DeepCutAuto
import Derived.Deep.CutBlock
import Derived.Deep.RegionHeld3
import Derived.Deep.RegionWith
import Derived.Deep.WholeRow
import Derived.Laws.Rows
import Derived.Laws.Tables
import Derived.Laws.ResultCell
import Derived.StillTailTactics
import Derived.Deep.DeepMust
import Derived.IntWalk
import Derived.KernelRfl
import Derived.Test.YteiknmcmaemcoaaDoorWWords
import Derived.Test.YteiknmcmaemcoaaDoorWLast
import Derived.Test.YteiknmcmaemcoaaDoorWMore
import Derived.RegionTactic
import Derived.Test.YteiknmcmaemcoaaDoorVj
namespace Go.Proofs.YteiknmcmaemcoaaDoor
open Go.RowKit Go.Lib
open Go.Proofs.YteiknmcmaemcoaaDoorW.PrintWords
set_option linter.unusedVariables false
set_option linter.unusedSimpArgs false
abbrev Prm := V.Bs × V.Bs
/-- A parameter's two cells. -/
def kp : Kd Prm := Kd.iso (Kd.pair Kd.string Kd.string) (fun x : Prm => (str x.1, str x.2))
theorem kp_open {w : World} {x : Prm} {cs : List Value} (h : kp.K w x cs) : cs = [.string (str x.1), .string (str x.2)] := by
  obtain ⟨_, _, rfl, rfl, rfl⟩ := h
  exact rfl
theorem kp_mk (w : World) (x : Prm) : kp.K w x [.string (str x.1), .string (str x.2)] := ⟨[.string (str x.1)], [.string (str x.2)], rfl, rfl, rfl⟩
theorem kp_mkM (w : World) (base : Nat) (ok : Nat → Prop) (x : Prm) : kp.M w base ok x [.string (str x.1), .string (str x.2)] := ⟨[.string (str x.1)], [.string (str x.2)], rfl, rfl, rfl⟩
theorem kp_at {w : World} {A : Option Addr} {n : Nat} {xs : List Prm} (h : Kd.C kp w A n xs) (i : Nat) (h1 : i < n) (x : Prm) (hx : x = xs.getD i ([], [])) : ∃ ad, A = some ad ∧ w.cell? (ad.add (i * 2)) = some (.string (str x.1)) ∧ w.cell? ⟨(ad.add (i * 2)).block, (ad.add (i * 2)).off + 1, none⟩ = some (.string (str x.2)) := by
  subst hx
  obtain ⟨ad, c, e, _, hK, hc0⟩ := Kd.C_get h ([], []) (i : Int) (by omega) (by omega)
  have e0 : (i : Int).toNat = i := by omega
  rw [e0] at hK hc0
  have hc : ∀ j u, c[j]? = some u → w.cell? (ad.add (i * 2 + j)) = some u := hc0
  obtain rfl := kp_open hK
  exact ⟨ad, e, hc 0 _ rfl, by rw [← add_field _ _ 1 (by omega)]; exact hc 1 _ rfl⟩
/-- The first parameter of a key. -/
def V.pfind (key : V.Bs) (xs : List Prm) (k : Nat) : Option Nat := match xs with
  | [] => none
  | x :: t => if x.1 = key then some k else V.pfind key t (k + 1)
def V.pfindI (key : V.Bs) (xs : List Prm) : Int := match V.pfind key xs 0 with
  | none => -1
  | some k => k
theorem V.pfind_drop (key : V.Bs) (xs : List Prm) : ∀ n, n ≤ xs.length → (∀ j, j < n → ¬ (xs.getD j ([], [])).1 = key) → V.pfind key xs 0 = V.pfind key (xs.drop n) n := by
  intro n
  induction n with
  | zero => intro _ _; rfl
  | succ n ih =>
    intro hn h
    rw [ih (by omega) (fun j hj => h j (by omega))]
    have h2 := h n (by omega)
    rw [List.getD_eq_getElem?_getD, List.getElem?_eq_getElem (by omega)] at h2
    rw [List.drop_eq_getElem_cons (by omega), V.pfind, if_neg (by simpa using h2)]
theorem V.pfind_lt (key : V.Bs) : ∀ (xs : List Prm) (k n : Nat), V.pfind key xs k = some n → k ≤ n ∧ n < k + xs.length
  | [], k, n, h => by simp [V.pfind] at h
  | x :: t, k, n, h => by
    unfold V.pfind at h
    split at h
    · simp at h; subst h; simp
    · have := V.pfind_lt key t (k + 1) n h; simp; omega
theorem V.pfind_any (key : V.Bs) : ∀ (xs : List Prm) (k : Nat), (V.pfind key xs k).isSome = xs.any (fun x => decide (x.1 = key))
  | [], k => rfl
  | x :: t, k => by
    unfold V.pfind
    by_cases h : x.1 = key
    · simp [h]
    · rw [if_neg h, V.pfind_any key t (k + 1)]; simp [h]
theorem Below.cell_on {w w' : World} (h : Below w.heap.size w w') {p : Addr} {v : Value} (hp : w.cell? p = some v) : w'.cell? p = some v :=
  (h.cell (World.block_lt_of_cell? _ _ hp)).trans hp
set_option maxHeartbeats 1000000 in
theorem cl_params (x : Prm) (key : V.Bs) (B : Nat) (w : World) (hc : w.cell? ⟨B, 0, none⟩ = some (.string (str key))) :
    Calls Tryd.prog 61 #[.agg #[.string (str x.1), .string (str x.2)], .pointer (some ⟨B, 0, none⟩)] w fun e w' => e = .returned (.bool (decide (x.1 = key))) ∧ Below w.heap.size w w' := by
  have hB : B < w.heap.size := World.block_lt_of_cell? _ _ hc
  have hne : B ≠ w.heap.size := by omega
  have he : ((str x.1).toList == (str key).toList) = decide (x.1 = key) := by rw [str_eqB, lst_str, lst_str]
  have HE := Aside0.mk he
  clear he
  go_enter Tryd.func61, Tryd.ntmps61
  go_wp2_with (fail)
  go_ret
  refine ⟨?_, (Below.refl _ _).alloc (Nat.le_refl _) _⟩
  rw [← HE.out]
  rfl
set_option maxRecDepth 100000 in
set_option maxHeartbeats 1000000 in
theorem idxp_params (xs : List Prm) (key : V.Bs) (A : Option Addr) (c B : Nat) (w : World) (hx : Kd.C kp w A xs.length xs) (hn : xs.length ≤ 1000000) (hc : w.cell? ⟨B, 0, none⟩ = some (.string (str key))) :
    Calls Tryd.prog 36 #[.slice A xs.length c, .func (.func 61) #[] #[.pointer (some ⟨B, 0, none⟩)]] w fun e w' => e = .returned (.int .i64 (V.pfindI key xs)) ∧ Below w.heap.size w w' := by
  obtain ⟨T, hT⟩ : ∃ T, T = V.pfindI key xs := ⟨_, rfl⟩
  rw [← hT]
  have HT := Aside0.mk hT
  have HX := Aside0.mk hx
  have HC := Aside0.mk hc
  clear hT hx hc
  go_enter Tryd.func36, Tryd.ntmps36
  go_wp2_with (fail)
  go_loopg [8] xs.length (fun g v8 wr => ∃ n : Nat, n ≤ xs.length ∧ g + n = xs.length ∧ v8 = .int .i64 n ∧ Aside0 ((∀ j, j < n → ¬ (xs.getD j ([], [])).1 = key) ∧ Below w.heap.size w wr))
  case atStart => exact ⟨0, by omega, by omega, rfl, ⟨fun j hj => by omega, Below.refl _ _⟩⟩
  case round =>
    obtain ⟨n, hn2, hg, rfl, H⟩ := hrel
    obtain ⟨wx, rfl⟩ : ∃ wz : World, wz = wr := ⟨_, rfl⟩
    by_cases hlt : n < xs.length
    · obtain ⟨x, hx⟩ : ∃ x, x = xs.getD n ([], []) := ⟨_, rfl⟩
      obtain ⟨ad, rfl, hc0, hc1⟩ := kp_at HX.out n hlt x hx
      have c0 := Below.cell_on H.out.2 hc0
      have c1 := Below.cell_on H.out.2 hc1
      have hkey := Below.cell_on H.out.2 HC.out
      have hlt' : (n : Int) < (xs.length : Int) := by omega
      have h0 : (0 : Int) ≤ (n : Int) := by omega
      have Hparams := Aside0.mk hx
      have HK := Aside0.mk hkey
      clear hx hkey hc0 hc1
      by_cases hp : x.1 = key
      · have hT : T = n := by
          rw [HT.out]
          unfold V.pfindI
          rw [V.pfind_drop key xs n hn2 H.out.1, List.drop_eq_getElem_cons hlt, V.pfind, if_pos]
          rw [← hp, Hparams.out, List.getD_eq_getElem?_getD, List.getElem?_eq_getElem hlt]; rfl
        have HTF := Aside0.mk hT
        have HP := Aside0.mk hp
        clear hT hp
        go_wp2_with (first | (go_at_call 61; (with_reducible refine Calls.mono (cl_params x key B wx HK.out) ?_); rintro e w1 ⟨rfl, h⟩; have H1 := Aside0.mk h; clear h; rw [decide_eq_true HP.out]))
        go_ret
        exact ⟨by rw [HTF.out]; rfl, H.out.2.trans (H1.out.mono H.out.2.size)⟩
      · have HP := Aside0.mk hp
        clear hp
        go_wp2_with (first | (go_at_call 61; (with_reducible refine Calls.mono (cl_params x key B wx HK.out) ?_); rintro e w1 ⟨rfl, h⟩; have H1 := Aside0.mk h; clear h; rw [decide_eq_false HP.out]))
        go_roundg (gk - 1)
        case measure => omega
        case rel =>
          refine ⟨n + 1, by omega, by omega, by go_num, ⟨fun j hj => ?_, H.out.2.trans (H1.out.mono H.out.2.size)⟩⟩
          by_cases hjn : j = n
          · subst hjn
            rw [← Hparams.out]
            exact HP.out
          · exact H.out.1 j (by omega)
    · have hne : n = xs.length := by omega
      have hT : T = -1 := by
        rw [HT.out]
        unfold V.pfindI
        rw [V.pfind_drop key xs n hn2 H.out.1, hne, List.drop_length]
        rfl
      have HTF := Aside0.mk hT
      have t1 : decide ((n : Int) < (xs.length : Int)) = false := by simp; omega
      have t2 : decide (n < xs.length) = false := by simp; omega
      clear hT hne
      go_wp2_with (fail)
      go_ret
      exact ⟨by rw [HTF.out]; rfl, H.out.2⟩
set_option maxHeartbeats 1000000 in
theorem cl_param (x : Prm) (key : V.Bs) (B : Nat) (w : World) (hc : w.cell? ⟨B, 0, none⟩ = some (.string (str key))) :
    Calls Tryd.prog 37 #[.agg #[.string (str x.1), .string (str x.2)], .pointer (some ⟨B, 0, none⟩)] w fun e w' => e = .returned (.bool (decide (x.1 = key))) ∧ Below w.heap.size w w' := by
  have hB : B < w.heap.size := World.block_lt_of_cell? _ _ hc
  have hne : B ≠ w.heap.size := by omega
  have he : ((str x.1).toList == (str key).toList) = decide (x.1 = key) := by rw [str_eqB, lst_str, lst_str]
  have HE := Aside0.mk he
  clear he
  go_enter Tryd.func37, Tryd.ntmps37
  go_wp2_with (fail)
  go_ret
  refine ⟨?_, (Below.refl _ _).alloc (Nat.le_refl _) _⟩
  rw [← HE.out]
  rfl
set_option maxRecDepth 100000 in
set_option maxHeartbeats 1000000 in
theorem idxp_param (xs : List Prm) (key : V.Bs) (A : Option Addr) (c B : Nat) (w : World) (hx : Kd.C kp w A xs.length xs) (hn : xs.length ≤ 1000000) (hc : w.cell? ⟨B, 0, none⟩ = some (.string (str key))) :
    Calls Tryd.prog 36 #[.slice A xs.length c, .func (.func 37) #[] #[.pointer (some ⟨B, 0, none⟩)]] w fun e w' => e = .returned (.int .i64 (V.pfindI key xs)) ∧ Below w.heap.size w w' := by
  obtain ⟨T, hT⟩ : ∃ T, T = V.pfindI key xs := ⟨_, rfl⟩
  rw [← hT]
  have HT := Aside0.mk hT
  have HX := Aside0.mk hx
  have HC := Aside0.mk hc
  clear hT hx hc
  go_enter Tryd.func36, Tryd.ntmps36
  go_wp2_with (fail)
  go_loopg [8] xs.length (fun g v8 wr => ∃ n : Nat, n ≤ xs.length ∧ g + n = xs.length ∧ v8 = .int .i64 n ∧ Aside0 ((∀ j, j < n → ¬ (xs.getD j ([], [])).1 = key) ∧ Below w.heap.size w wr))
  case atStart => exact ⟨0, by omega, by omega, rfl, ⟨fun j hj => by omega, Below.refl _ _⟩⟩
  case round =>
    obtain ⟨n, hn2, hg, rfl, H⟩ := hrel
    obtain ⟨wx, rfl⟩ : ∃ wz : World, wz = wr := ⟨_, rfl⟩
    by_cases hlt : n < xs.length
    · obtain ⟨x, hx⟩ : ∃ x, x = xs.getD n ([], []) := ⟨_, rfl⟩
      obtain ⟨ad, rfl, hc0, hc1⟩ := kp_at HX.out n hlt x hx
      have c0 := Below.cell_on H.out.2 hc0
      have c1 := Below.cell_on H.out.2 hc1
      have hkey := Below.cell_on H.out.2 HC.out
      have hlt' : (n : Int) < (xs.length : Int) := by omega
      have h0 : (0 : Int) ≤ (n : Int) := by omega
      have Hparam := Aside0.mk hx
      have HK := Aside0.mk hkey
      clear hx hkey hc0 hc1
      by_cases hp : x.1 = key
      · have hT : T = n := by
          rw [HT.out]
          unfold V.pfindI
          rw [V.pfind_drop key xs n hn2 H.out.1, List.drop_eq_getElem_cons hlt, V.pfind, if_pos]
          rw [← hp, Hparam.out, List.getD_eq_getElem?_getD, List.getElem?_eq_getElem hlt]; rfl
        have HTF := Aside0.mk hT
        have HP := Aside0.mk hp
        clear hT hp
        go_wp2_with (first | (go_at_call 37; (with_reducible refine Calls.mono (cl_param x key B wx HK.out) ?_); rintro e w1 ⟨rfl, h⟩; have H1 := Aside0.mk h; clear h; rw [decide_eq_true HP.out]))
        go_ret
        exact ⟨by rw [HTF.out]; rfl, H.out.2.trans (H1.out.mono H.out.2.size)⟩
      · have HP := Aside0.mk hp
        clear hp
        go_wp2_with (first | (go_at_call 37; (with_reducible refine Calls.mono (cl_param x key B wx HK.out) ?_); rintro e w1 ⟨rfl, h⟩; have H1 := Aside0.mk h; clear h; rw [decide_eq_false HP.out]))
        go_roundg (gk - 1)
        case measure => omega
        case rel =>
          refine ⟨n + 1, by omega, by omega, by go_num, ⟨fun j hj => ?_, H.out.2.trans (H1.out.mono H.out.2.size)⟩⟩
          by_cases hjn : j = n
          · subst hjn
            rw [← Hparam.out]
            exact HP.out
          · exact H.out.1 j (by omega)
    · have hne : n = xs.length := by omega
      have hT : T = -1 := by
        rw [HT.out]
        unfold V.pfindI
        rw [V.pfind_drop key xs n hn2 H.out.1, hne, List.drop_length]
        rfl
      have HTF := Aside0.mk hT
      have t1 : decide ((n : Int) < (xs.length : Int)) = false := by simp; omega
      have t2 : decide (n < xs.length) = false := by simp; omega
      clear hT hne
      go_wp2_with (fail)
      go_ret
      exact ⟨by rw [HTF.out]; rfl, H.out.2⟩
set_option maxHeartbeats 1000000 in
theorem twice_any (xs : List Prm) (key : V.Bs) (A : Option Addr) (c B : Nat) (w : World) (hx : Kd.C kp w A xs.length xs) (hn : xs.length ≤ 1000000) (hc : w.cell? ⟨B, 0, none⟩ = some (.string (str key))) :
    Calls Tryd.prog 60 #[.slice A xs.length c, .func (.func 61) #[] #[.pointer (some ⟨B, 0, none⟩)]] w fun e w' => e = .returned (.bool (xs.any (fun x => decide (x.1 = key)))) ∧ Below w.heap.size w w' := by
  obtain ⟨T, hT⟩ : ∃ T, T = xs.any (fun x => decide (x.1 = key)) := ⟨_, rfl⟩
  rw [← hT]
  rw [← V.pfind_any key xs 0] at hT
  have hcon := idxp_params xs key A c B w hx hn hc
  obtain ⟨i, hi⟩ : ∃ i, i = V.pfindI key xs := ⟨_, rfl⟩
  rw [← hi] at hcon
  have hT2 : T = decide (i ≥ 0) := by
    rw [hT, hi]
    unfold V.pfindI
    cases V.pfind key xs 0 <;> simp
  have HT := Aside0.mk hT2
  have HC := Aside0.mk hcon
  clear hT hT2 hi hcon hx hc
  go_enter Tryd.func60, Tryd.ntmps60
  go_wp2_with (first | (go_at_call 36; (with_reducible refine Calls.mono HC.out ?_); rintro e w1 ⟨rfl, h⟩; have H1 := Aside0.mk h; clear h))
  go_ret
  exact ⟨by rw [HT.out]; rfl, H1.out⟩
end Go.Proofs.YteiknmcmaemcoaaDoor
