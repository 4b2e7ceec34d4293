/- What verb's params answers. -/
import Derived.Test.YteiknmcmaemcoaaDoorProg
import Derived.WalkKit
import Derived.WalkLawsBesides
import Derived.Outline
import Derived.LoopTactic
import Derived.Lib.Hide
import Derived.Deep.QuietTactic
import Derived.BigQuiet
import Derived.Deep.LoopGhost
import Derived.Deep.DeepCutAuto
import Derived.Deep.CutBlock
import Derived.Deep.RegionHeld3
import Derived.Deep.RegionWith
import Derived.Deep.WholeRow
import Derived.Laws.Rows
import Derived.Laws.Tables
import Derived.Laws.ResultCell
import Derived.StillTailTactics
import Derived.Deep.DeepMust
import Derived.IntWalk
import Derived.KernelRfl
import Derived.Test.YteiknmcmaemcoaaDoorWWords
import Derived.Test.YteiknmcmaemcoaaDoorWLast
import Derived.Test.YteiknmcmaemcoaaDoorWMore
import Derived.RegionTactic
import Derived.Test.YteiknmcmaemcoaaDoorVk
namespace Go.Proofs.YteiknmcmaemcoaaDoor
open Go.RowKit Go.Lib
open Go.Proofs.YteiknmcmaemcoaaDoorW.PrintWords
set_option linter.unusedVariables false
set_option linter.unusedSimpArgs false
/-- What stands ahead of the first =, and behind it; whether there is one. -/
def V.eqs (x : V.Bs) : V.Bs × V.Bs × Bool := match V.cutAt 61 x with
  | none => (x, [], false)
  | some (a, b) => (a, b, true)
def keyWords : List V.Bs := [wSIZE, wRET, wNOTIFY]
/-- One parameter more. -/
def V.pstep (k : Int) (x : V.Bs) (acc : List Prm) : Option (List Prm) :=
  let c := V.eqs x
  let o := V.one c.1 keyWords
  let v := V.value k (o.getD []) c.2.1
  if c.2.2 && o.isSome && v.2 && !acc.any (fun y => decide (y.1 = o.getD [])) then some (acc ++ [(o.getD [], v.1)]) else none
def V.params (k : Int) : List V.Bs → List Prm → Option (List Prm)
  | [], acc => some acc
  | x :: ws, acc => match V.pstep k x acc with
    | none => none
    | some acc' => V.params k ws acc'
theorem V.params_drop (k : Int) (ws : List V.Bs) (n : Nat) (hn : n < ws.length) (x : V.Bs) (hx : x = ws.getD n []) (acc : List Prm) : V.params k (ws.drop n) acc = match V.pstep k x acc with | none => none | some acc' => V.params k (ws.drop (n + 1)) acc' := by
  have e : ws.drop n = x :: ws.drop (n + 1) := by
    rw [List.drop_eq_getElem_cons hn, hx, List.getD_eq_getElem?_getD, List.getElem?_eq_getElem hn]; rfl
  rw [e, V.params]
theorem eqs_cut (x : V.Bs) : Lib.cut x [61] = V.eqs x := by
  rw [V.cut_one]
  unfold V.eqs
  cases V.cutAt 61 x with
  | none => rfl
  | some ab => rfl
theorem eqs_length (x : V.Bs) : (V.eqs x).1.length ≤ x.length ∧ (V.eqs x).2.1.length ≤ x.length := by
  unfold V.eqs
  cases h : V.cutAt 61 x with
  | none => simp
  | some ab =>
    obtain ⟨a, b⟩ := ab
    obtain ⟨h1, _⟩ := V.cutAt_some h
    have := congrArg List.length h1
    simp at this ⊢
    omega
theorem infoP : (Tryd.prog.info? 46).map (fun i => (i.zero, i.size, i.bytes)) = some (some (.agg #[.string ⟨#[]⟩, .string ⟨#[]⟩]), 2, 32) := by kernel_rfl
theorem cut_at (x : V.Bs) (hx : x.length ≤ 100000) (w : World) (hv : Vars w) :
    Calls Tryd.prog 16 #[.string (str x), .string ⟨#[61]⟩] w fun e w' => e = .returned (.tuple #[.string (str (V.eqs x).1), .string (str (V.eqs x).2.1), .bool (V.eqs x).2.2]) ∧ Below w.heap.size w w' := by
  obtain ⟨m, hm⟩ := hv.mx
  refine (Tryd.strings_Cut (str x) ⟨#[61]⟩ m w (by rw [str_size]; omega) hm).mono ?_
  rintro e w' ⟨rfl, q, rfl⟩
  refine ⟨?_, below_drewN' (Below.refl _ _) q⟩
  have e0 : (str x).data.toList = x := lst_str x
  have e1 : (⟨#[61]⟩ : ByteArray).data.toList = [61] := rfl
  rw [e0, e1, eqs_cut]
  rfl
theorem four_cases : ∀ (a b c d : Bool), ¬ (a = true ∧ b = true ∧ c = true ∧ d = false) → a = false ∨ (a = true ∧ b = false) ∨ (a = true ∧ b = true ∧ c = false) ∨ (a = true ∧ b = true ∧ c = true ∧ d = true) := by decide
def parPost (T : Option (List Prm)) (B N : Nat) (e : Ending) (w' : World) : Prop := match T with
  | none => e = .returned (.tuple #[noSl, .bool false])
  | some xs => ∃ v, e = .returned (.tuple #[v, .bool true]) ∧ kp.R 46 w' B (fun _ => True) v xs ∧ xs.length ≤ N
set_option maxRecDepth 100000 in
set_option maxHeartbeats 4000000 in
theorem params_any (k : Int) (ws : List V.Bs) (hws : ∀ x ∈ ws, x.length ≤ 100000) (hn : ws.length ≤ 100000) (b off c : Nat) (w : World) (hv : Vars w)
    (hb : ∀ j, j < ws.length → w.cell? ⟨b, off + j, none⟩ = some (.string (str (ws.getD j [])))) :
    Calls Tryd.prog 45 #[.int .i64 k, .slice (some ⟨b, off, none⟩) ws.length c] w fun e w' => parPost (V.params k ws []) w.heap.size ws.length e w' ∧ Below w.heap.size w w' := by
  obtain ⟨T, hT⟩ : ∃ T, T = V.params k ws [] := ⟨_, rfl⟩
  rw [← hT]
  have HT := Aside0.mk hT
  have HB := Aside0.mk hb
  have HV := Aside0.mk hv
  clear hT hb hv
  go_enter Tryd.func45, Tryd.ntmps45
  go_wp2_with (fail)
  go_loopg [6, 18] ws.length (fun g v6 v18 wr => ∃ (n : Nat) (xs : List Prm), n ≤ ws.length ∧ g + n = ws.length ∧ v18 = .int .i64 n ∧ Aside0 (V.params k (ws.drop n) xs = T ∧ xs.length ≤ n ∧ kp.R 46 wr w.heap.size (fun _ => True) v6 xs ∧ Below w.heap.size w wr))
  case atStart => exact ⟨0, [], by omega, by omega, rfl, ⟨HT.out.symm, by simp, Kd.R_nil _ _ _ _ _, Below.refl _ _⟩⟩
  case round =>
    obtain ⟨n, xs, hn2, hg, rfl, H⟩ := hrel
    obtain ⟨wx, rfl⟩ : ∃ wz : World, wz = wr := ⟨_, rfl⟩
    by_cases hlt : n < ws.length
    · obtain ⟨x, hx⟩ : ∃ x, x = ws.getD n [] := ⟨_, rfl⟩
      have hxl : x.length ≤ 100000 := by
        rw [hx, List.getD_eq_getElem?_getD, List.getElem?_eq_getElem hlt]; exact hws _ (List.getElem_mem hlt)
      have hcell := Below.cell_on H.out.2.2.2 (HB.out n hlt)
      rw [← hx] at hcell
      have hstep := V.params_drop k ws n hlt x hx xs
      rw [H.out.1] at hstep
      obtain ⟨A, cc, hv6, hcc, hC⟩ := Kd.R_reads H.out.2.2.1
      subst hv6
      obtain ⟨ea, eb, ec, hE⟩ : ∃ ea eb ec, V.eqs x = (ea, eb, ec) := ⟨_, _, _, rfl⟩
      have hel0 := eqs_length x
      rw [hE] at hel0
      have hel : ea.length ≤ 100000 ∧ eb.length ≤ 100000 := ⟨Nat.le_trans hel0.1 hxl, Nat.le_trans hel0.2 hxl⟩
      have hcut := fun w hv => cut_at x hxl w hv
      rw [hE] at hcut
      have hlt' : (n : Int) < (ws.length : Int) := by omega
      have h0 : (0 : Int) ≤ (n : Int) := by omega
      have HCU := Aside0.mk hcut
      have HEL := Aside0.mk hel
      have HE := Aside0.mk hE
      have HS := Aside0.mk hstep
      have HCC := Aside0.mk hcc
      have HRC := Aside0.mk hC
      have HVX := Aside0.mk (HV.out.go H.out.2.2.2)
      clear hx hcut hel hel0 hE hstep hcc hC hws
      go_upto_region 6 with (first | (go_at_call 16; (with_reducible refine Calls.mono (HCU.out _ HVX.out) ?_); rintro e w1 ⟨rfl, h⟩; have H1 := Aside0.mk h; clear h))
      obtain ⟨o, ho⟩ : ∃ o, o = V.one ea keyWords := ⟨_, rfl⟩
      have HON := Aside0.mk (one_three wSIZE wRET wNOTIFY ⟨#[83, 73, 90, 69]⟩ ⟨#[82, 69, 84]⟩ ⟨#[78, 79, 84, 73, 70, 89]⟩ rfl rfl rfl (by decide) (by decide) (by decide) (str ea) (by rw [str_size]; have := HEL.out.1; omega) w1)
      have HO := Aside0.mk ho
      clear ho
      go_upto_region 7 with (first | (go_at_call 58; (with_reducible refine Calls.mono HON.out ?_); rintro e w2 ⟨rfl, h⟩; have H2 := Aside0.mk h; clear h; unfold oRes; rw [lst_str]; rw [show [wSIZE, wRET, wNOTIFY] = keyWords from rfl, ← HO.out]))
      obtain ⟨nm, hnm⟩ : ∃ nm, nm = o.getD [] := ⟨_, rfl⟩
      rw [← hnm]
      obtain ⟨W2, hW2⟩ : ∃ W2, W2 = w2.alloc (.cells #[.string (str nm)] 9) := ⟨_, rfl⟩
      rw [← hW2]
      obtain ⟨G, hG⟩ : ∃ G, G = w2.heap.size := ⟨_, rfl⟩
      rw [← hG]
      have hnc : W2.cell? ⟨G, 0, none⟩ = some (.string (str nm)) := by rw [hW2, hG]; simp
      have hb2 : Below wx.heap.size wx W2 := by
        rw [hW2]
        exact (H1.out.trans (H2.out.mono H1.out.size)).alloc (Nat.le_trans H1.out.size H2.out.size) _
      obtain ⟨vv, vr, hval⟩ : ∃ vv vr, V.value k nm eb = (vv, vr) := ⟨_, _, rfl⟩
      have hcv : ∀ w, Vars w → Calls Tryd.prog 59 #[.int .i64 k, .string (str nm), .string (str eb)] w fun e w' => e = .returned (.tuple #[.string (str vv), .bool vr]) ∧ Below w.heap.size w w' := by
        intro w hv
        have h := value_any k (str nm) (str eb) w (by rw [str_size]; exact HEL.out.2) hv
        rw [lst_str, lst_str, hval] at h
        exact h
      have HCV := Aside0.mk hcv
      have HB2 := Aside0.mk hb2
      have HNC := Aside0.mk hnc
      have HNM := Aside0.mk hnm
      have HVL := Aside0.mk hval
      have HVX2 := Aside0.mk (HVX.out.go hb2)
      clear hW2 hG hcv hb2 hval hnm H1 H2 HON HCU
      go_upto_region 8 with (first | (go_at_call 59; (with_reducible refine Calls.mono (HCV.out _ HVX2.out) ?_); rintro e w3 ⟨rfl, h⟩; have H3 := Aside0.mk h; clear h))
      have HC3 := Aside0.mk (Kd.C_below (Kd.C_below HRC.out HB2.out) H3.out)
      have HNC3 := Aside0.mk (Below.cell_on H3.out HNC.out)
      obtain ⟨tw, htw⟩ : ∃ tw, tw = xs.any (fun y => decide (y.1 = nm)) := ⟨_, rfl⟩
      have htc := twice_any xs nm A cc G w3 HC3.out (by have := H.out.2.1; omega) HNC3.out
      rw [← htw] at htc
      have HTC := Aside0.mk htc
      have HTW := Aside0.mk htw
      clear htc htw hnc
      go_upto_region 9 with (first | (go_at_call 60; (with_reducible refine Calls.mono HTC.out ?_); rintro e w4 ⟨rfl, h⟩; have H4 := Aside0.mk h; clear h))
      have hb4 : Below wx.heap.size wx w4 := (HB2.out.trans (H3.out.mono HB2.out.size)).trans (H4.out.mono (Nat.le_trans HB2.out.size H3.out.size))
      have hbw4 : Below w.heap.size w w4 := H.out.2.2.2.trans (hb4.mono H.out.2.2.2.size)
      have hR4 := Kd.R_below H.out.2.2.1 hb4
      have hnc4 := Below.cell_on H4.out HNC3.out
      have hst : V.pstep k x xs = if ec && o.isSome && vr && !tw then some (xs ++ [(nm, vv)]) else none := by
        unfold V.pstep
        rw [HE.out]
        simp only
        rw [← HO.out, ← HNM.out, HVL.out, ← HTW.out]
      have HST := Aside0.mk hst
      have HB4 := Aside0.mk hbw4
      have HR4 := Aside0.mk hR4
      clear hst hb4 hbw4 hR4
      by_cases hall : ec = true ∧ o.isSome = true ∧ vr = true ∧ tw = false
      · obtain ⟨rfl, ho1, rfl, rfl⟩ := hall
        have hT : V.params k (ws.drop (n + 1)) (xs ++ [(nm, vv)]) = T := by
          rw [HS.out, HST.out, ho1]
          rfl
        have HTT := Aside0.mk hT
        rw [ho1]
        clear hT ho1
        go_wp2_with (first | ((with_reducible refine gate_builtin (b := .append) (xs := #[.tmp 57, .tmp 61]) rfl ?_); at_builtin; refine Kd.R_append kp (w0 := w) w.heap.size rfl (.tmp 57) (.tmp 61) 24 46 (.agg #[.string ⟨#[]⟩, .string ⟨#[]⟩]) 32 rfl Tryd.underlying24 infoP rfl (by decide) (by omega) (.slice A xs.length cc) xs (nm, vv) [.string (str nm), .string (str vv)] (fun _ => True) (fun _ => False) rfl rfl (kp_mkM _ _ _ (nm, vv)) (fun _ hk => hk.elim) (fun _ _ => trivial) HR4.out HB4.out HB4.out.size (by have := H.out.2.1; omega) ?_; intro v1 w5 hR5 hB5 hg5 hat5; have HR5 := Aside0.mk hR5; have HB5 := Aside0.mk hB5; clear hR5 hB5 hg5 hat5))
        go_roundg (gk - 1)
        case measure => omega
        case rel =>
          exact ⟨n + 1, xs ++ [(nm, vv)], by omega, by omega, by go_num, ⟨HTT.out, by have := H.out.2.1; simp; omega, HR5.out, HB5.out⟩⟩
      · have hT : T = none := by
          rw [HS.out, HST.out, if_neg]
          intro h
          simp only [Bool.and_eq_true, Bool.not_eq_true'] at h
          exact hall ⟨h.1.1.1, h.1.1.2, h.1.2, h.2⟩
        have hcases := four_cases _ _ _ _ hall
        have HTT := Aside0.mk hT
        clear hT hall
        rcases hcases with rfl | ⟨rfl, ho1⟩ | ⟨rfl, ho1, rfl⟩ | ⟨rfl, ho1, rfl, rfl⟩
        · go_wp2_with (fail)
          go_ret2
          exact ⟨by rw [HTT.out]; rfl, HB4.out⟩
        · rw [ho1]
          clear ho1
          go_wp2_with (fail)
          go_ret2
          exact ⟨by rw [HTT.out]; rfl, HB4.out⟩
        · rw [ho1]
          clear ho1
          go_wp2_with (fail)
          go_ret2
          exact ⟨by rw [HTT.out]; rfl, HB4.out⟩
        · rw [ho1]
          clear ho1
          go_wp2_with (fail)
          go_ret2
          exact ⟨by rw [HTT.out]; rfl, HB4.out⟩
    · have hne : n = ws.length := by omega
      have hT : T = some xs := by rw [← H.out.1, hne, List.drop_length]; rfl
      have HTT := Aside0.mk hT
      have t1 : decide ((n : Int) < (ws.length : Int)) = false := by simp; omega
      have t2 : decide (n < ws.length) = false := by simp; omega
      clear hT hne
      go_wp2_with (fail)
      go_ret2
      refine ⟨?_, H.out.2.2.2⟩
      rw [HTT.out]
      exact ⟨_, rfl, H.out.2.2.1, by have := H.out.2.1; omega⟩
end Go.Proofs.YteiknmcmaemcoaaDoor
