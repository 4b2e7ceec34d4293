/- Texts of this seat, one behind the other: the plain law, the walks. -/
import Derived.Test.YteiknmcmaemcoaaGreatDoorProg
import Derived.WalkKit
import Derived.WalkLawsBesides
import Derived.Outline
import Derived.LoopTactic
import Derived.Lib.Hide
import Derived.Deep.QuietTactic
import Derived.BigQuiet
import Derived.Deep.LoopGhost
import Derived.Deep.DeepCutAuto
import Derived.Deep.CutBlock
import Derived.Deep.RegionHeld3
import Derived.Deep.RegionWith
import Derived.Deep.WholeRow
import Derived.Laws.Rows
import Derived.Laws.Tables
import Derived.Laws.ResultCell
import Derived.StillTailTactics
import Derived.Deep.DeepMust
import Derived.IntWalk
import Derived.KernelRfl
import Derived.Test.YteiknmcmaemcoaaGreatDoorEXa
import Derived.RegionTactic
import Derived.Lib.SlicesS
import Derived.Maps.OwnSet
import Derived.HandedShaped
import Derived.Handed
import Derived.MakeChecks
import Derived.Stop.LaidErr
import Derived.Lib.LaidTab
import Derived.Test.YteiknmcmaemcoaaGreatDoorRows
import Derived.Deep.Slices
import Derived.WideShapes
import Derived.SizedLaws
import Derived.ChangeArms
import Derived.Laws.DeepStrings4
import Derived.Lib.AtoiTie
import Derived.Test.YteiknmcmaemcoaaGreatDoorEMa
/- What verb's Parse answers. -/
namespace Go.Proofs.YteiknmcmaemcoaaGreatDoor
open Go.RowKit Go.Lib
open Go.Proofs.YteiknmcmaemcoaaGreatDoorW.PrintWords
set_option linter.unusedVariables false
set_option linter.unusedSimpArgs false
def okByte (c : UInt8) : Bool := decide (32 ≤ c ∧ c ≤ 126)
def wordsB : V.Bs := [101, 104, 108, 111, 32, 104, 101, 108, 111, 32, 109, 97, 105, 108, 32, 114, 99, 112, 116, 32, 100, 97, 116, 97, 32, 114, 115, 101, 116, 32, 113, 117, 105, 116, 32, 110, 111, 111, 112, 32, 118, 114, 102, 121, 32, 101, 116, 114, 110, 32, 97, 117, 116, 104, 32, 97, 116, 114, 110]
/-- The first words. -/
def wordsL : List V.Bs := V.splitOn 32 wordsB
/-- What stands ahead of the first blank. -/
def V.first (l : V.Bs) : V.Bs := match V.cutAt 32 l with
  | none => l
  | some (a, _) => a
def V.told (l : V.Bs) : Option V.Cmd × Int := match V.read l with
  | some c => (some c, 0)
  | none => (none, if V.strange l then 504 else 501)
def V.known (l wd : V.Bs) : Option V.Cmd × Int := if wd.isEmpty || !decide (wd ∈ wordsL) then (none, 500) else V.told l
def V.parse (l : V.Bs) : Option V.Cmd × Int :=
  if 510 < l.length then (none, 500) else
  if l.all okByte then V.known l (V.fold (V.first l)) else (none, 500)
theorem first_length (l : V.Bs) : (V.first l).length ≤ l.length := by
  unfold V.first
  cases h : V.cutAt 32 l with
  | none => simp
  | some ab =>
    obtain ⟨a, b⟩ := ab
    obtain ⟨h1, _⟩ := V.cutAt_some h
    have := congrArg List.length h1
    simp at this ⊢
    omega
theorem first_cut (s : ByteArray) (w : World) (hs : s.size ≤ 100000) (hv : Vars w) :
    Calls Tryz.prog 18 #[.string s, .string ⟨#[32]⟩] w fun e w' => (∃ (b : ByteArray) (c : Bool), e = .returned (.tuple #[.string (str (V.first (lst s))), .string b, .bool c])) ∧ Below w.heap.size w w' := by
  obtain ⟨m, hm⟩ := hv.mx
  refine (Tryz.strings_Cut s ⟨#[32]⟩ m w (by omega) hm).mono ?_
  rintro e w' ⟨rfl, q, rfl⟩
  refine ⟨⟨⟨(Lib.cut s.data.toList [32]).2.1.toArray⟩, (Lib.cut s.data.toList [32]).2.2, ?_⟩, below_drewN' (Below.refl _ _) q⟩
  have e1 : (⟨#[32]⟩ : ByteArray).data.toList = [32] := rfl
  have e2 : (Lib.cut s.data.toList [32]).1 = V.first (lst s) := by
    have h := V.cut_one 32 (lst s)
    unfold V.first
    show (Lib.cut (lst s) [32]).1 = _
    rw [h]
    cases V.cutAt 32 (lst s) <;> rfl
  rw [e1, e2]
  rfl
theorem contains_any (ws : List V.Bs) (b t c : Nat) (x : V.Bs) (w : World) (hn : ws.length ≤ 100000) (hb : w.heap[b]? = some (.cells ((ws.map fun l => Value.string (str l))).toArray t (0, 0))) :
    Calls Tryz.prog 20 #[.slice (some ⟨b, 0, none⟩) ws.length c, .string (str x)] w fun e w' => e = .returned (.bool (decide (x ∈ ws))) ∧ w = w' := by
  have h := Tryz.slices_Contains_string b 0 ws.length c (ws.map str) (str x) w (by simp) (by omega) (fun j hj => by
    rw [List.length_map] at hj
    rw [Nat.zero_add, cell_of_row w b _ _ _ _ hb, List.getElem?_toArray, List.getElem?_map, List.getElem?_eq_getElem hj, List.getD_eq_getElem?_getD, List.getElem?_map, List.getElem?_eq_getElem hj]
    rfl)
  refine h.mono ?_
  rintro e w' ⟨rfl, rfl⟩
  refine ⟨?_, rfl⟩
  congr 3
  rw [Bool.eq_iff_iff, Lib.containsS_iff]
  simp [List.take_of_length_le, str_inj]
set_option maxRecDepth 100000 in
set_option maxHeartbeats 4000000 in
theorem parse_any (s : ByteArray) (w : World) (hs : s.size ≤ 100000) (hv : Vars w) :
    Calls Tryz.prog 6 #[.string s] w fun e w' => cmdPost (V.parse (lst s)).1 (.int .i64 0) (.int .i64 (V.parse (lst s)).2) w.heap.size e w' ∧ Below w.heap.size w w' := by
  obtain ⟨T, hT⟩ : ∃ T, T = V.parse (lst s) := ⟨_, rfl⟩
  rw [← hT]
  have HT := Aside0.mk hT
  have HV := Aside0.mk hv
  obtain ⟨wR, hwR⟩ : ∃ wR, wR = w.alloc (.cells zeroC 26) := ⟨_, rfl⟩
  have hbR : Below w.heap.size w wR := by rw [hwR]; exact (Below.refl _ w).alloc (Nat.le_refl _) _
  have hrow : wR.heap[w.heap.size]? = some (.cells zeroC 26 (0, 0)) := by rw [hwR]; exact heap_alloc_new _ _
  have hsz : wR.heap.size = w.heap.size + 1 := by rw [hwR]; simp
  have hrows : ∀ wx, Below wR.heap.size wR wx → wx.heap[w.heap.size]? = some (.cells zeroC 26 (0, 0)) ∧ Below w.heap.size w wx := fun wx h => ⟨(h.block _ (by omega)).trans hrow, hbR.trans (h.mono hbR.size)⟩
  have HVR := Aside0.mk (hv.go hbR)
  have HRO := Aside0.mk hrows
  have HSZ := Aside0.mk hsz
  obtain ⟨⟨c0, c1, c2, c3, c4, c5⟩, f0, f1, f2, f3, f4, f5⟩ := cells6 hrow
  clear hT hv hbR hrow hsz hrows
  go_enter Tryz.func6, Tryz.ntmps6
  go_upto_region 1 with (fail)
  rw [← hwR]
  clear hwR
  by_cases hlong : 510 < s.size
  · have hT : T = (none, 500) := by rw [HT.out]; unfold V.parse; rw [lst_length, if_pos hlong]
    have HTF := Aside0.mk hT
    have t1 : decide ((510 : Int) < (s.size : Int)) = true := by simp; omega
    have t2 : decide (510 < s.size) = true := by simp; omega
    clear hT hlong
    go_wp2_with (fail)
    refine bodyPost_ret (v := .tuple #[cval V.noCmd noSl, .int .i64 500]) ?_ rfl ⟨by rw [HTF.out]; rfl, below6 (HRO.out wR (Below.refl _ _)).2 (Nat.le_refl _)⟩
    exact results_ct (by rfl) _ _ w.heap.size 26 _ (0, 0) _ rfl (row6 (HRO.out wR (Below.refl _ _)).1) Tryz.underlying26 rfl (by kernel_rfl) _ rfl
  · have hT : T = if (lst s).all okByte then V.known (lst s) (V.fold (V.first (lst s))) else (none, 500) := by
      rw [HT.out]; unfold V.parse; rw [lst_length, if_neg hlong]
    have HT1 := Aside0.mk hT
    have t1 : decide ((510 : Int) < (s.size : Int)) = false := by simp; omega
    have t2 : decide (510 < s.size) = false := by simp; omega
    have hs5 : s.size ≤ 510 := by omega
    clear hT hlong
    go_upto_region 4 with (fail)
    clear t1 t2
    go_loopg [17] s.size (fun g v17 wr => ∃ n : Nat, n ≤ s.size ∧ g + n = s.size ∧ v17 = .int .i64 n ∧ wr = wR ∧ Aside0 (((lst s).take n).all okByte = true))
    case atStart => exact ⟨0, by omega, by omega, rfl, rfl, ⟨by simp⟩⟩
    case round =>
      obtain ⟨n, hn, hg, rfl, rfl, H⟩ := hrel
      by_cases hlt : n < s.size
      · obtain ⟨c, hc⟩ : ∃ c, c = (lst s).getD n 0 := ⟨_, rfl⟩
        obtain ⟨x, hx⟩ : ∃ x : Int, x = (c.toNat : Int) := ⟨_, rfl⟩
        have hix := fun w => index_str s n hlt c hc x hx w
        have hstep := all_take (lst s) okByte n (by rw [lst_length]; exact hlt) c hc
        have hbad := all_false (lst s) okByte n (by rw [lst_length]; exact hlt) c hc
        have hok : okByte c = decide (32 ≤ x ∧ x ≤ 126) := by
          subst hx; unfold okByte; simp only [UInt8.le_iff_toNat_le]; apply decide_eq_decide.2; constructor <;> (simp; omega)
        have hlt' : (n : Int) < (s.size : Int) := by omega
        have h0 : (0 : Int) ≤ (n : Int) := by omega
        have HX := Aside0.mk hx
        have HS := Aside0.mk hstep
        have HB := Aside0.mk hbad
        have HOK := Aside0.mk hok
        clear hx hc hstep hbad hok
        by_cases hgood : 32 ≤ x ∧ x ≤ 126
        · obtain ⟨g1, g2⟩ := hgood
          have t1 : decide (x < 32) = false := by simp; omega
          have t2 : decide (126 < x) = false := by simp; omega
          go_wp2_with (fail)
          go_roundg (gk - 1)
          case measure => omega
          case rel => exact ⟨n + 1, by omega, by omega, by go_num, rfl, ⟨by rw [HS.out, H.out, HOK.out]; simp; omega⟩⟩
        · have hT : T = (none, 500) := by
            rw [HT1.out, HB.out (by rw [HOK.out]; exact decide_eq_false hgood)]
            rfl
          have HTF := Aside0.mk hT
          have hRR := HRO.out wr (Below.refl _ _)
          have RR := Aside0.mk hRR
          clear hT hRR
          by_cases g1 : x < 32
          · clear hgood
            go_wp2_with (fail)
            refine bodyPost_ret (v := .tuple #[cval V.noCmd noSl, .int .i64 500]) ?_ rfl ⟨by rw [HTF.out]; rfl, below6 RR.out.2 (Nat.le_refl _)⟩
            exact results_ct (by rfl) _ _ w.heap.size 26 _ (0, 0) _ rfl (row6 RR.out.1) Tryz.underlying26 rfl (by kernel_rfl) _ rfl
          · have g2 : 126 < x := by omega
            have t1 : decide (x < 32) = false := by simp; omega
            clear hgood
            go_wp2_with (fail)
            refine bodyPost_ret (v := .tuple #[cval V.noCmd noSl, .int .i64 500]) ?_ rfl ⟨by rw [HTF.out]; rfl, below6 RR.out.2 (Nat.le_refl _)⟩
            exact results_ct (by rfl) _ _ w.heap.size 26 _ (0, 0) _ rfl (row6 RR.out.1) Tryz.underlying26 rfl (by kernel_rfl) _ rfl
      · have hne : n = s.size := by omega
        have e : (lst s).take n = lst s := by rw [hne, ← lst_length, List.take_length]
        rw [e] at H
        obtain ⟨fi, hfi⟩ : ∃ fi, fi = V.first (lst s) := ⟨_, rfl⟩
        obtain ⟨wd, hwd⟩ : ∃ wd, wd = V.fold fi := ⟨_, rfl⟩
        have hT : T = V.known (lst s) wd := by
          rw [HT1.out, H.out, hwd, hfi]; rfl
        have HT2 := Aside0.mk hT
        have t1 : decide ((n : Int) < (s.size : Int)) = false := by simp; omega
        have t2 : decide (n < s.size) = false := by simp; omega
        have hfc := first_cut s wr hs HVR.out
        rw [← hfi] at hfc
        have hfl : fi.length ≤ 510 := by rw [hfi]; have := first_length (lst s); rw [lst_length] at this; omega
        have hfo : ∀ w, Calls Tryz.prog 19 #[.string (str fi)] w fun e w' => e = .returned (.string (str wd)) ∧ Below w.heap.size w w' := by
          intro w
          have h := fold_any (str fi) w (by rw [str_size]; omega)
          unfold foldB at h
          rw [lst_str, ← hwd] at h
          exact h
        have HFC := Aside0.mk hfc
        have HFO := Aside0.mk hfo
        clear hT hne e hfc hfo hfi hwd c0 c1 c2 c3 c4 c5 f0 f1 f2 f3 f4 f5
        go_upto_region 11 with (first | (go_at_call 18; (with_reducible refine Calls.mono HFC.out ?_); rintro e w1 ⟨⟨cb, cc, rfl⟩, h⟩; have H1 := Aside0.mk h; clear h) | (go_at_call 19; (with_reducible refine Calls.mono (HFO.out _) ?_); rintro e w2 ⟨rfl, h⟩; have H2 := Aside0.mk h; clear h))
        have hb2 : Below wr.heap.size wr w2 := H1.out.trans (H2.out.mono H1.out.size)
        have HB2 := Aside0.mk hb2
        have hemp : (str wd).toList.isEmpty = wd.isEmpty := by rw [emp_str, lst_str]
        obtain ⟨D, hD⟩ : ∃ D, D = str wordsB := ⟨_, rfl⟩
        have hdd : ({ data := #[101, 104, 108, 111, 32, 104, 101, 108, 111, 32, 109, 97, 105, 108, 32, 114, 99, 112, 116, 32, 100, 97, 116, 97, 32, 114, 115, 101, 116, 32, 113, 117, 105, 116, 32, 110, 111, 111, 112, 32, 118, 114, 102, 121, 32, 101, 116, 114, 110, 32, 97, 117, 116, 104, 32, 97, 116, 114, 110] } : ByteArray) = D := hD.symm
        have hsp := split_any D 32 w2 (by rw [hD]; decide) (HVR.out.go hb2) ⟨#[32]⟩ rfl
        rw [show lst D = wordsB by rw [hD, lst_str]] at hsp
        have HSP := Aside0.mk hsp
        clear hb2 hD hsp t1 t2
        rw [hdd]
        clear hdd
        cases hwe : wd.isEmpty with
        | true =>
          have hT : T = (none, 500) := by rw [HT2.out]; unfold V.known; rw [hwe]; rfl
          have HTF := Aside0.mk hT
          have hRR := HRO.out w2 HB2.out
          have RR := Aside0.mk hRR
          obtain ⟨⟨c0, c1, c2, c3, c4, c5⟩, f0, f1, f2, f3, f4, f5⟩ := cells6 hRR.1
          rw [hwe] at hemp
          clear hT hRR hwe
          go_wp2_with (fail)
          refine bodyPost_ret (v := .tuple #[cval V.noCmd noSl, .int .i64 500]) ?_ rfl ⟨by rw [HTF.out]; rfl, below6 RR.out.2 (Nat.le_refl _)⟩
          exact results_ct (by rfl) _ _ w.heap.size 26 _ (0, 0) _ rfl (row6 RR.out.1) Tryz.underlying26 rfl (by kernel_rfl) _ rfl
        | false =>
          have HWE := Aside0.mk hwe
          rw [hwe] at hemp
          have hcon : ∀ (w3 : World) (n : Nat), n = (V.splitOn 32 wordsB).length → w3 = w2.alloc (.cells (((V.splitOn 32 wordsB).map fun l => Value.string (str l))).toArray 9) → Calls Tryz.prog 20 #[.slice (some ⟨w2.heap.size, 0, none⟩) n n, .string (str wd)] w3 fun e w' => e = .returned (.bool (decide (wd ∈ wordsL))) ∧ w3 = w' := by
            intro w3 n hn hw3
            subst hn
            exact contains_any (V.splitOn 32 wordsB) w2.heap.size 9 _ wd w3 (by decide) (by rw [hw3]; exact heap_alloc_new _ _)
          have HCO := Aside0.mk hcon
          clear hcon hwe
          cases hin : decide (wd ∈ wordsL) with
          | false =>
            have hT : T = (none, 500) := by rw [HT2.out]; unfold V.known; rw [HWE.out, hin]; rfl
            have HTF := Aside0.mk hT
            have HIN := Aside0.mk hin
            clear hT hin
            go_wp2_with (first | (go_at_call 21; (with_reducible refine Calls.mono HSP.out ?_); rintro e w3 ⟨n3, hn3, rfl, hw3⟩; have HN3 := Aside0.mk hn3; have HW3 := Aside0.mk hw3; have HB3 := Aside0.mk (show Below w2.heap.size w2 w3 by rw [hw3]; exact (Below.refl _ _).alloc (Nat.le_refl _) _); clear hn3 hw3; have RR := Aside0.mk (HRO.out w3 (HB2.out.trans (HB3.out.mono HB2.out.size))); obtain ⟨⟨c0, c1, c2, c3, c4, c5⟩, f0, f1, f2, f3, f4, f5⟩ := cells6 RR.out.1) | (go_at_call 20; (with_reducible refine Calls.mono (HCO.out w3 n3 HN3.out HW3.out) ?_); rintro e w4 ⟨rfl, rfl⟩; rw [HIN.out]))
            refine bodyPost_ret (v := .tuple #[cval V.noCmd noSl, .int .i64 500]) ?_ rfl ⟨by rw [HTF.out]; rfl, below6 RR.out.2 (Nat.le_refl _)⟩
            exact results_ct (by rfl) _ _ w.heap.size 26 _ (0, 0) _ rfl (row6 RR.out.1) Tryz.underlying26 rfl (by kernel_rfl) _ rfl
          | true =>
            have hT : T = V.told (lst s) := by rw [HT2.out]; unfold V.known; rw [HWE.out, hin]; rfl
            have HT3 := Aside0.mk hT
            have HIN := Aside0.mk hin
            clear hT hin
            go_upto_region 13 with (first | (go_at_call 21; (with_reducible refine Calls.mono HSP.out ?_); rintro e w3 ⟨n3, hn3, rfl, hw3⟩; have HN3 := Aside0.mk hn3; have HW3 := Aside0.mk hw3; have HB3 := Aside0.mk (show Below w2.heap.size w2 w3 by rw [hw3]; exact (Below.refl _ _).alloc (Nat.le_refl _) _); clear hn3 hw3) | (go_at_call 20; (with_reducible refine Calls.mono (HCO.out w3 n3 HN3.out HW3.out) ?_); rintro e w4 ⟨rfl, rfl⟩; rw [HIN.out]))
            have hb3 : Below wr.heap.size wr w3 := HB2.out.trans (HB3.out.mono HB2.out.size)
            have hrd := read_any s w3 (by omega) (HVR.out.go hb3)
            have HRB := Aside0.mk hb3
            have HST := Aside0.mk (fun w => strange_any s w hs)
            clear hb3
            cases hrr : V.read (lst s) with
            | some c =>
              have hT : T = (some c, 0) := by rw [HT3.out]; unfold V.told; rw [hrr]
              have HTF := Aside0.mk hT
              rw [hrr] at hrd
              have HRD := Aside0.mk hrd
              clear hT hrr hrd
              go_wp2_with (first | (go_at_call 22; (with_reducible refine Calls.mono HRD.out ?_); rintro e w5 ⟨h5, h⟩; obtain ⟨v5, rfl, hR5, hl5⟩ := h5; obtain ⟨A5, q5, rfl, _, _⟩ := Kd.R_reads hR5; unfold cval cv; have HR5 := Aside0.mk hR5; have HL5 := Aside0.mk hl5; have H5 := Aside0.mk (HRB.out.trans (h.mono HRB.out.size)); have hROW := ((H5.out.alloc H5.out.size (.cells #[.int .i64 c.kind, .string (str c.text), .bool c.path.null, .string (str c.path.loc), .string (str c.path.dom), .slice A5 c.prms.length q5] 26))); have ROW := Aside0.mk (HRO.out _ hROW); clear h hR5 hl5 hROW; obtain ⟨⟨c0, c1, c2, c3, c4, c5⟩, f0, f1, f2, f3, f4, f5⟩ := cells6 ROW.out.1))
              refine bodyPost_ret (v := .tuple #[cval c (.slice A5 c.prms.length q5), .int .i64 0]) ?_ rfl ⟨?_, below6 ROW.out.2 (Nat.le_refl _)⟩
              · exact results_ct (by rfl) _ _ w.heap.size 26 _ (0, 0) _ rfl (row6 ROW.out.1) Tryz.underlying26 rfl (by kernel_rfl) _ rfl
              · rw [HTF.out]
                have hz := HRB.out.size
                have hz2 := HSZ.out
                exact ⟨_, rfl, fin_R (Kd.R_alloc HR5.out _) (by omega) (by omega), HL5.out⟩
            | none =>
              rw [hrr] at hrd
              have HRD := Aside0.mk hrd
              cases hst : V.strange (lst s) with
              | true =>
                have hT : T = (none, 504) := by rw [HT3.out]; unfold V.told; rw [hrr, hst]; rfl
                have HTF := Aside0.mk hT
                have HSG := Aside0.mk hst
                clear hT hrr hrd hst
                go_wp2_with (first | (go_at_call 22; (with_reducible refine Calls.mono HRD.out ?_); rintro e w5 ⟨h5, h⟩; obtain rfl : e = .returned (.tuple #[cval V.noCmd noSl, .bool false]) := h5; unfold cval cv V.noCmd V.noPath noSl; have H5 := Aside0.mk ((HRB.out.trans (h.mono HRB.out.size)).alloc (Nat.le_trans HRB.out.size h.size) (.cells #[.int .i64 0, .string (str []), .bool false, .string (str []), .string (str []), .slice none 0 0] 26)); clear h) | (go_at_call 23; (with_reducible refine Calls.mono (HST.out _) ?_); rintro e w6 ⟨rfl, h⟩; have ROW := Aside0.mk (HRO.out _ (H5.out.trans (h.mono H5.out.size))); clear h; obtain ⟨⟨c0, c1, c2, c3, c4, c5⟩, f0, f1, f2, f3, f4, f5⟩ := cells6 ROW.out.1; rw [HSG.out]))
                refine bodyPost_ret (v := .tuple #[cval V.noCmd noSl, .int .i64 504]) ?_ rfl ⟨by rw [HTF.out]; rfl, below6 ROW.out.2 (Nat.le_refl _)⟩
                exact results_ct (by rfl) _ _ w.heap.size 26 _ (0, 0) _ rfl (row6 ROW.out.1) Tryz.underlying26 rfl (by kernel_rfl) _ rfl
              | false =>
                have hT : T = (none, 501) := by rw [HT3.out]; unfold V.told; rw [hrr, hst]; rfl
                have HTF := Aside0.mk hT
                have HSG := Aside0.mk hst
                clear hT hrr hrd hst
                go_wp2_with (first | (go_at_call 22; (with_reducible refine Calls.mono HRD.out ?_); rintro e w5 ⟨h5, h⟩; obtain rfl : e = .returned (.tuple #[cval V.noCmd noSl, .bool false]) := h5; unfold cval cv V.noCmd V.noPath noSl; have H5 := Aside0.mk ((HRB.out.trans (h.mono HRB.out.size)).alloc (Nat.le_trans HRB.out.size h.size) (.cells #[.int .i64 0, .string (str []), .bool false, .string (str []), .string (str []), .slice none 0 0] 26)); clear h) | (go_at_call 23; (with_reducible refine Calls.mono (HST.out _) ?_); rintro e w6 ⟨rfl, h⟩; have ROW := Aside0.mk (HRO.out _ (H5.out.trans (h.mono H5.out.size))); clear h; obtain ⟨⟨c0, c1, c2, c3, c4, c5⟩, f0, f1, f2, f3, f4, f5⟩ := cells6 ROW.out.1; rw [HSG.out]))
                refine bodyPost_ret (v := .tuple #[cval V.noCmd noSl, .int .i64 501]) ?_ rfl ⟨by rw [HTF.out]; rfl, below6 ROW.out.2 (Nat.le_refl _)⟩
                exact results_ct (by rfl) _ _ w.heap.size 26 _ (0, 0) _ rfl (row6 ROW.out.1) Tryz.underlying26 rfl (by kernel_rfl) _ rfl
end Go.Proofs.YteiknmcmaemcoaaGreatDoor
/- What verb's line answers. -/
namespace Go.Proofs.YteiknmcmaemcoaaGreatDoor
open Go.RowKit Go.Lib Go.Maps
open Go.Proofs.YteiknmcmaemcoaaGreatDoorW.PrintWords
set_option linter.unusedVariables false
set_option linter.unusedSimpArgs false
/-- The entries of a map from numbers to texts, the last one put ahead. -/
def V.texts (T : List (Int × V.Bs)) : DataW Unit := T.foldr (fun p m => m.put (.int .i64 p.1) (.lit (.string p.2))) (.map [])
theorem V.texts_map : ∀ T, IsMap (V.texts T)
  | [] => isMap_empty
  | p :: T => (V.texts_map T).put _ _
def V.lookT (k : Int) : List (Int × V.Bs) → V.Bs
  | [] => []
  | p :: T => if p.1 = k then p.2 else V.lookT k T
theorem V.texts_at (k : Int) : ∀ T, (V.texts T).atKey (.int .i64 k) (.lit (.string [])) = .lit (.string (V.lookT k T))
  | [] => rfl
  | p :: T => by
    show ((V.texts T).put (.int .i64 p.1) (.lit (.string p.2))).atKey (.int .i64 k) _ = _
    unfold V.lookT
    by_cases h : p.1 = k
    · subst h
      rw [atKey_put_same (k := .int .i64 p.1) (V.texts_map T) trivial, if_pos rfl]
    · rw [atKey_put_other (by intro e; injection e with _ e; exact h e.symm), V.texts_at k T, if_neg h]
def lEHLO : V.Bs := [69, 72, 76, 79, 32]
def lMAIL : V.Bs := [77, 65, 73, 76, 32, 70, 82, 79, 77, 58]
def lRCPT : V.Bs := [82, 67, 80, 84, 32, 84, 79, 58]
def lDATA : V.Bs := [68, 65, 84, 65]
def lRSET : V.Bs := [82, 83, 69, 84]
def lVRFY : V.Bs := [86, 82, 70, 89, 32]
def lNOOP : V.Bs := [78, 79, 79, 80]
def lQUIT : V.Bs := [81, 85, 73, 84]
def lETRN : V.Bs := [69, 84, 82, 78, 32]
def lAUTH : V.Bs := [65, 85, 84, 72, 32, 67, 82, 65, 77, 45, 77, 68, 53]
def lATRN : V.Bs := [65, 84, 82, 78]
def lineT (t box : V.Bs) : List (Int × V.Bs) := [(11, lATRN), (10, lAUTH), (9, lETRN ++ t), (8, lQUIT), (7, lNOOP), (6, lVRFY ++ t), (5, lRSET), (4, lDATA), (3, lRCPT ++ box), (2, lMAIL ++ box), (1, lEHLO ++ t)]
def V.prmB (p : Prm) : V.Bs := 32 :: p.1 ++ 61 :: p.2
def V.lineB (c : V.Cmd) : V.Bs := V.lookT c.kind (lineT c.text ((V.ptext c.path).getD [])) ++ (if c.kind = 11 ∧ c.text ≠ [] then 32 :: c.text else [])
/-- A command's line. -/
def V.line (c : V.Cmd) : V.Bs := V.lineB c ++ c.prms.flatMap V.prmB
theorem plainStr_inv {H : Type} {P : Program} {e : TypeId} (he : P.underlying e = some .string) {v : Value} {z : DataW H × List MemPlace} (h : plainElem P e v = some z) : ∃ s : ByteArray, v = .string s ∧ z = (.lit (.string s.data.toList), []) := by
  unfold plainElem at h
  rw [he] at h
  cases v <;> simp at h
  obtain ⟨h1, h2⟩ := h
  exact ⟨_, rfl, h2.symm⟩
theorem wpList_lookup_own_str {P : Program} (w : World) {ops : Array Oper} {rest : List Oper} {o : Oper} {a : Act} {Q : Exit → Act → World → Prop} (hg : o.guard = none) (m x : Operand) (t : TypeId) (hop : o.op = Op.lookup t m x false)
    (k e : TypeId) (K : Keyed P k) (ht : P.underlying t = some (.map k e)) (he : P.underlying e = some .string) (hz : (zeroValue e).run P w = .ok (.string ByteArray.empty) w) (b n : Nat) (D : DataW Unit)
    (hm : a.eval m = .map (some b)) (hown : w.ownsMap P k (plainElem P e) b n D) (key : Value) (kl : Lit) (hx : a.eval x = key) (hkey : keyOf P k key = some kl)
    (hK : ∀ s : ByteArray, D.atKey kl (.lit (.string [])) = .lit (.string s.data.toList) → wpList P ops Q rest (a.put o.dst (.string s)) w) :
    wpList P ops Q (o :: rest) a w := by
  refine wpList_plain hg fun K' hK' => ?_
  obtain ⟨v, ps, hrun, hv⟩ := hown.lookup K ht hz (plainElem_string (H := Unit) he (s := ByteArray.empty) (by unfold maxLen; decide)) hkey
  obtain ⟨s, rfl, hs⟩ := plainStr_inv he hv
  unfold Oper.wp
  simp [execOp, hop, hm, hx, hrun, Result.andThen]
  exact hK' _ _ (hK s (congrArg Prod.fst hs))
theorem lawI : Keyed Tryz.prog 3 := int_keyed Tryz.underlying3
theorem zeroS (w : World) : (zeroValue 9).run Tryz.prog w = .ok (.string ByteArray.empty) w := by kernel_rfl
abbrev ownI (w : World) (b n : Nat) (T : List (Int × V.Bs)) : Prop := w.ownsMap Tryz.prog 3 (plainElem Tryz.prog 9) b n (V.texts T)
theorem insI_step {ops : Array Oper} {rest : List Oper} {o : Oper} {a : Act} {Q : Exit → Act → World → Prop} (w : World) (hg : o.guard = none) (k : Int) (v : Operand) (hop : o.op = Op.insert 75 (.tmp 14) (.const (.int .i64 k)) v)
    (b n : Nat) (T : List (Int × V.Bs)) (hm : a.eval (.tmp 14) = .map (some b)) (hown : ownI w b n T) (hn : n ≤ 100) (hk : (Lit.int .i64 k).wf = true) (S : ByteArray) (hv : a.eval v = .string S) (hS : S.size ≤ 1000000) (x : V.Bs) (hx : x = lst S)
    (hq : ∀ w', ownI w' b (n + 1) ((k, x) :: T) → w.grownBy w' (some b) → wpList Tryz.prog ops Q rest (a.put o.dst undef) w') : wpList Tryz.prog ops Q (o :: rest) a w := by
  subst hx
  exact wpList_insert_own w hg _ _ _ _ hop 3 9 lawI Tryz.underlying75 _ b n (V.texts T) hm hown (by unfold maxLen; omega) _ _ (.int .i64 k) rfl hv (keyOf_int_mk Tryz.underlying3 hk) (.lit (.string (lst S))) [] (plainElem_string Tryz.underlying9 (by unfold maxLen; omega)) hq
theorem cat2 {a b : V.Bs} {A B C : ByteArray} (hA : A = str a) (hB : B = str b) (hC : C = str (a ++ b)) (ha : a.length ≤ 1000000) (hb : b.length ≤ 1000000) (w : World) : (Op.stringOp .add A B).run Tryz.prog w = .ok (.string C) w :=
  cat_run A B C (by rw [hC, hA, hB, str_append]) (by rw [hA, str_size]; exact ha) (by rw [hB, str_size]; exact hb) w
/-- What an insert keeps. -/
def Kept2 (g M : Nat) (v0 v1 : Value) (w0 w : World) (R : Array Value) : Prop := w.cell? ⟨g, 0, none⟩ = some v0 ∧ w.cell? ⟨g, 1, none⟩ = some v1 ∧ w.heap[g]? = some (.cells R 26 (0, 0)) ∧ Below g w0 w ∧ M < w.heap.size
theorem kept2 {g M : Nat} {v0 v1 : Value} {w0 w w' : World} {R : Array Value} (hg : w.grownBy w' (some M)) (h : Kept2 g M v0 v1 w0 w R) (hne : g ≠ M) (hlt : g < M) : Kept2 g M v0 v1 w0 w' R := by
  obtain ⟨h0, h1, h2, h3, h4⟩ := h
  have hl : g < w.heap.size := (Array.getElem?_eq_some_iff.1 h2).1
  have e := hg.block g hl (by intro e; injection e with e; exact hne e)
  have h2' := e.trans h2
  refine ⟨?_, ?_, h2', h3.grown hg (by omega) (fun j hj => by cases hj; omega), Nat.lt_of_lt_of_le h4 hg.size⟩
  · rw [← h0]; unfold World.cell?; rw [e]
  · rw [← h1]; unfold World.cell?; rw [e]
theorem flat_take (xs : List Prm) (n : Nat) (hn : n < xs.length) (x : Prm) (hx : x = xs.getD n ([], [])) : (xs.take (n + 1)).flatMap V.prmB = (xs.take n).flatMap V.prmB ++ V.prmB x := by
  have e : xs.take (n + 1) = xs.take n ++ [x] := by
    rw [List.take_succ_eq_append_getElem hn, hx]; simp [List.getD_eq_getElem?_getD, hn]
  rw [e, List.flatMap_append]
  simp
theorem flat_len (xs : List Prm) (n : Nat) : ((xs.take n).flatMap V.prmB).length ≤ (xs.flatMap V.prmB).length := by
  conv => rhs; rw [← List.take_append_drop n xs]
  rw [List.flatMap_append, List.length_append]
  omega
theorem look_le (k : Int) : ∀ (T : List (Int × V.Bs)), (∀ x ∈ T, x.2.length ≤ 50000) → (V.lookT k T).length ≤ 50000
  | [], _ => by simp [V.lookT]
  | p :: T, h => by
    unfold V.lookT
    split
    · exact h p (by simp)
    · exact look_le k T (fun x hx => h x (by simp [hx]))
set_option maxRecDepth 100000 in
set_option maxHeartbeats 4000000 in
theorem line_any (k : Int) (t : ByteArray) (n : Bool) (l d : ByteArray) (A : Option Addr) (q : Nat) (xs : List Prm) (w : World) (hk : (Lit.int .i64 k).wf = true) (ht : t.size ≤ 10000) (hl : l.size ≤ 10000) (hd : d.size ≤ 10000) (hx : Kd.C kp w A xs.length xs) (hn : xs.length ≤ 10000)
    (hlen : (xs.flatMap V.prmB).length ≤ 100000) (hv : Vars w) :
    Calls Tryz.prog 31 #[.agg #[.int .i64 k, .string t, .bool n, .string l, .string d, .slice A xs.length q]] w fun e w' => e = .returned (.string (str (V.line ⟨k, lst t, ⟨n, lst l, lst d⟩, xs⟩))) ∧ Below w.heap.size w w' := by
  obtain ⟨T, hT⟩ : ∃ T, T = V.line ⟨k, lst t, ⟨n, lst l, lst d⟩, xs⟩ := ⟨_, rfl⟩
  rw [← hT]
  have HT := Aside0.mk hT
  obtain ⟨w0, hw0⟩ : ∃ w0, w0 = w.alloc (.cells #[.int .i64 k, .string t, .bool n, .string l, .string d, .slice A xs.length q] 26) := ⟨_, rfl⟩
  have hb0 : Below w.heap.size w w0 := by rw [hw0]; exact (Below.refl _ w).alloc (Nat.le_refl _) _
  have hr0 : w0.heap[w.heap.size]? = some (.cells #[.int .i64 k, .string t, .bool n, .string l, .string d, .slice A xs.length q] 26 (0, 0)) := by rw [hw0]; exact heap_alloc_new _ _
  have hs0 : w.heap.size < w0.heap.size := (Array.getElem?_eq_some_iff.1 hr0).1
  obtain ⟨bx, hbx⟩ : ∃ bx, bx = (V.ptext ⟨n, lst l, lst d⟩).getD [] := ⟨_, rfl⟩
  obtain ⟨er, her⟩ : ∃ er, er = errOf (V.check ⟨n, lst l, lst d⟩) := ⟨_, rfl⟩
  have hpt : Calls Tryz.prog 49 #[.agg #[.bool n, .string l, .string d]] w0 fun e w' => e = .returned (.tuple #[.string (str bx), .int .i64 er]) ∧ Below w0.heap.size w0 w' := by
    have h := ptext_any n l d w0 (by omega) (by omega) (hv.go hb0)
    have e : textB n l d = str bx := by
      unfold textB
      rw [hbx]
      cases V.ptext ⟨n, lst l, lst d⟩ <;> rfl
    rw [e, ← her] at h
    exact h
  have hbl : bx.length ≤ 20003 := by
    rw [hbx]
    unfold V.ptext
    split
    · split
      · simp
      · simp [lst_length]; omega
    · simp
  obtain ⟨⟨a0, a1, a2, a3, a4, a5⟩, _⟩ := cells6 hr0
  have HPT := Aside0.mk hpt
  have HR0 := Aside0.mk hr0
  have HB0 := Aside0.mk hb0
  have HBX := Aside0.mk hbx
  have HX := Aside0.mk hx
  have hmm := @run_makeMap Tryz.prog
  obtain ⟨SE, hSE⟩ : ∃ S, S = str (lEHLO ++ lst t) := ⟨_, rfl⟩
  obtain ⟨SM, hSM⟩ : ∃ S, S = str (lMAIL ++ bx) := ⟨_, rfl⟩
  obtain ⟨SR, hSR⟩ : ∃ S, S = str (lRCPT ++ bx) := ⟨_, rfl⟩
  obtain ⟨SV, hSV⟩ : ∃ S, S = str (lVRFY ++ lst t) := ⟨_, rfl⟩
  obtain ⟨SN, hSN⟩ : ∃ S, S = str (lETRN ++ lst t) := ⟨_, rfl⟩
  have htl : (lst t).length ≤ 10000 := by rw [lst_length]; exact ht
  have f1 := cat2 (A := ⟨#[69, 72, 76, 79, 32]⟩) (B := t) (a := lEHLO) rfl (str_lst t).symm hSE (by decide) (by omega)
  have f2 := cat2 (A := ⟨#[77, 65, 73, 76, 32, 70, 82, 79, 77, 58]⟩) (B := str bx) (a := lMAIL) rfl rfl hSM (by decide) (by omega)
  have f3 := cat2 (A := ⟨#[82, 67, 80, 84, 32, 84, 79, 58]⟩) (B := str bx) (a := lRCPT) rfl rfl hSR (by decide) (by omega)
  have f4 := cat2 (A := ⟨#[86, 82, 70, 89, 32]⟩) (B := t) (a := lVRFY) rfl (str_lst t).symm hSV (by decide) (by omega)
  have f5 := cat2 (A := ⟨#[69, 84, 82, 78, 32]⟩) (B := t) (a := lETRN) rfl (str_lst t).symm hSN (by decide) (by omega)
  have sE : SE.size ≤ 1000000 := by rw [hSE, str_size]; simp [lEHLO]; omega
  have sM : SM.size ≤ 1000000 := by rw [hSM, str_size]; simp [lMAIL]; omega
  have sR : SR.size ≤ 1000000 := by rw [hSR, str_size]; simp [lRCPT]; omega
  have sV : SV.size ≤ 1000000 := by rw [hSV, str_size]; simp [lVRFY]; omega
  have sN : SN.size ≤ 1000000 := by rw [hSN, str_size]; simp [lETRN]; omega
  have HSE := Aside0.mk (show lEHLO ++ lst t = lst SE by rw [hSE, lst_str])
  have HSM := Aside0.mk (show lMAIL ++ bx = lst SM by rw [hSM, lst_str])
  have HSR := Aside0.mk (show lRCPT ++ bx = lst SR by rw [hSR, lst_str])
  have HSV := Aside0.mk (show lVRFY ++ lst t = lst SV by rw [hSV, lst_str])
  have HSN := Aside0.mk (show lETRN ++ lst t = lst SN by rw [hSN, lst_str])
  have HV := Aside0.mk hv
  clear hT hpt hr0 hb0 hbx hx her hSE hSM hSR hSV hSN hv
  go_enter Tryz.func31, Tryz.ntmps31
  go_upto_region 1 with (fail)
  rw [← hw0]
  clear hw0
  go_upto_region 2 with (first | (go_at_call 49; (with_reducible refine Calls.mono HPT.out ?_); rintro e w1 ⟨rfl, h⟩; have H1 := Aside0.mk h; clear h))
  obtain ⟨wM, hwM⟩ : ∃ wM, wM = w1.alloc (.map #[] 0) := ⟨_, rfl⟩
  obtain ⟨M, hM⟩ : ∃ M, M = w1.heap.size := ⟨_, rfl⟩
  have hr1 : w1.heap[w.heap.size]? = some (.cells #[.int .i64 k, .string t, .bool n, .string l, .string d, .slice A xs.length q] 26 (0, 0)) := (H1.out.block _ hs0).trans HR0.out
  have hrM : wM.heap[w.heap.size]? = some (.cells #[.int .i64 k, .string t, .bool n, .string l, .string d, .slice A xs.length q] 26 (0, 0)) := by
    rw [hwM, heap_alloc_old _ _ (Nat.lt_of_lt_of_le hs0 H1.out.size)]; exact hr1
  have hb1 : Below w.heap.size w w1 := HB0.out.trans (H1.out.mono HB0.out.size)
  obtain ⟨⟨m0, m1, _⟩, _⟩ := cells6 hrM
  have hkc : Kept2 w.heap.size M (.int .i64 k) (.string t) w wM #[.int .i64 k, .string t, .bool n, .string l, .string d, .slice A xs.length q] := by
    refine ⟨m0, m1, hrM, ?_, ?_⟩
    · rw [hwM]; exact hb1.alloc (Nat.le_trans (Nat.le_of_lt hs0) H1.out.size) _
    · rw [hwM, hM]; simp
  have hown : ownI wM M 0 [] := by rw [hwM, hM]; exact World.ownsMap_made w1 Tryz.prog 3 (plainElem (H := Unit) Tryz.prog 9)
  have hlt : w.heap.size < M := by rw [hM]; exact Nat.lt_of_lt_of_le hs0 H1.out.size
  have HLT := Aside0.mk hlt
  have HNE := Aside0.mk (show w.heap.size ≠ M by omega)
  have HO := Aside0.mk hown
  have KC := Aside0.mk hkc
  clear hr1 hrM hb1 hkc hown hlt a0 a1 a2 a3 a4 a5
  have hmk : (Instr.makeMap 75 none).run Tryz.prog w1 = .ok (.map (some M)) wM := by rw [hmm, hwM, hM]
  clear hmm hwM hM
  go_upto_region 3 with (first | ((with_reducible refine gate_ (.insert 75 (.tmp 14) (.const (.int .i64 1)) (.tmp 17)) rfl ?_); refine insI_step _ rfl 1 _ rfl M 0 [] rfl HO.out (by decide) (by decide) SE rfl (by omega) (lEHLO ++ lst t) HSE.out ?_; intro w0 ho hg; have HO0 := Aside0.mk ho; have KC0 := Aside0.mk (kept2 hg KC.out HNE.out HLT.out); have k0_0 := KC0.out.1; have k1_0 := KC0.out.2.1; clear ho hg) | ((with_reducible refine gate_ (.insert 75 (.tmp 14) (.const (.int .i64 2)) (.tmp 19)) rfl ?_); refine insI_step _ rfl 2 _ rfl M 1 [(1, lEHLO ++ lst t)] rfl HO0.out (by decide) (by decide) SM rfl (by omega) (lMAIL ++ bx) HSM.out ?_; intro w1 ho hg; have HO1 := Aside0.mk ho; have KC1 := Aside0.mk (kept2 hg KC0.out HNE.out HLT.out); have k0_1 := KC1.out.1; have k1_1 := KC1.out.2.1; clear ho hg) | ((with_reducible refine gate_ (.insert 75 (.tmp 14) (.const (.int .i64 3)) (.tmp 21)) rfl ?_); refine insI_step _ rfl 3 _ rfl M 2 [(2, lMAIL ++ bx), (1, lEHLO ++ lst t)] rfl HO1.out (by decide) (by decide) SR rfl (by omega) (lRCPT ++ bx) HSR.out ?_; intro w2 ho hg; have HO2 := Aside0.mk ho; have KC2 := Aside0.mk (kept2 hg KC1.out HNE.out HLT.out); have k0_2 := KC2.out.1; have k1_2 := KC2.out.2.1; clear ho hg) | ((with_reducible refine gate_ (.insert 75 (.tmp 14) (.const (.int .i64 4)) (.const (.string { data := #[68, 65, 84, 65] }))) rfl ?_); refine insI_step _ rfl 4 _ rfl M 3 [(3, lRCPT ++ bx), (2, lMAIL ++ bx), (1, lEHLO ++ lst t)] rfl HO2.out (by decide) (by decide) { data := #[68, 65, 84, 65] } rfl (by decide) (lDATA) rfl ?_; intro w3 ho hg; have HO3 := Aside0.mk ho; have KC3 := Aside0.mk (kept2 hg KC2.out HNE.out HLT.out); have k0_3 := KC3.out.1; have k1_3 := KC3.out.2.1; clear ho hg) | ((with_reducible refine gate_ (.insert 75 (.tmp 14) (.const (.int .i64 5)) (.const (.string { data := #[82, 83, 69, 84] }))) rfl ?_); refine insI_step _ rfl 5 _ rfl M 4 [(4, lDATA), (3, lRCPT ++ bx), (2, lMAIL ++ bx), (1, lEHLO ++ lst t)] rfl HO3.out (by decide) (by decide) { data := #[82, 83, 69, 84] } rfl (by decide) (lRSET) rfl ?_; intro w4 ho hg; have HO4 := Aside0.mk ho; have KC4 := Aside0.mk (kept2 hg KC3.out HNE.out HLT.out); have k0_4 := KC4.out.1; have k1_4 := KC4.out.2.1; clear ho hg) | ((with_reducible refine gate_ (.insert 75 (.tmp 14) (.const (.int .i64 6)) (.tmp 24)) rfl ?_); refine insI_step _ rfl 6 _ rfl M 5 [(5, lRSET), (4, lDATA), (3, lRCPT ++ bx), (2, lMAIL ++ bx), (1, lEHLO ++ lst t)] rfl HO4.out (by decide) (by decide) SV rfl (by omega) (lVRFY ++ lst t) HSV.out ?_; intro w5 ho hg; have HO5 := Aside0.mk ho; have KC5 := Aside0.mk (kept2 hg KC4.out HNE.out HLT.out); have k0_5 := KC5.out.1; have k1_5 := KC5.out.2.1; clear ho hg) | ((with_reducible refine gate_ (.insert 75 (.tmp 14) (.const (.int .i64 7)) (.const (.string { data := #[78, 79, 79, 80] }))) rfl ?_); refine insI_step _ rfl 7 _ rfl M 6 [(6, lVRFY ++ lst t), (5, lRSET), (4, lDATA), (3, lRCPT ++ bx), (2, lMAIL ++ bx), (1, lEHLO ++ lst t)] rfl HO5.out (by decide) (by decide) { data := #[78, 79, 79, 80] } rfl (by decide) (lNOOP) rfl ?_; intro w6 ho hg; have HO6 := Aside0.mk ho; have KC6 := Aside0.mk (kept2 hg KC5.out HNE.out HLT.out); have k0_6 := KC6.out.1; have k1_6 := KC6.out.2.1; clear ho hg) | ((with_reducible refine gate_ (.insert 75 (.tmp 14) (.const (.int .i64 8)) (.const (.string { data := #[81, 85, 73, 84] }))) rfl ?_); refine insI_step _ rfl 8 _ rfl M 7 [(7, lNOOP), (6, lVRFY ++ lst t), (5, lRSET), (4, lDATA), (3, lRCPT ++ bx), (2, lMAIL ++ bx), (1, lEHLO ++ lst t)] rfl HO6.out (by decide) (by decide) { data := #[81, 85, 73, 84] } rfl (by decide) (lQUIT) rfl ?_; intro w7 ho hg; have HO7 := Aside0.mk ho; have KC7 := Aside0.mk (kept2 hg KC6.out HNE.out HLT.out); have k0_7 := KC7.out.1; have k1_7 := KC7.out.2.1; clear ho hg) | ((with_reducible refine gate_ (.insert 75 (.tmp 14) (.const (.int .i64 9)) (.tmp 27)) rfl ?_); refine insI_step _ rfl 9 _ rfl M 8 [(8, lQUIT), (7, lNOOP), (6, lVRFY ++ lst t), (5, lRSET), (4, lDATA), (3, lRCPT ++ bx), (2, lMAIL ++ bx), (1, lEHLO ++ lst t)] rfl HO7.out (by decide) (by decide) SN rfl (by omega) (lETRN ++ lst t) HSN.out ?_; intro w8 ho hg; have HO8 := Aside0.mk ho; have KC8 := Aside0.mk (kept2 hg KC7.out HNE.out HLT.out); have k0_8 := KC8.out.1; have k1_8 := KC8.out.2.1; clear ho hg) | ((with_reducible refine gate_ (.insert 75 (.tmp 14) (.const (.int .i64 10)) (.const (.string { data := #[65, 85, 84, 72, 32, 67, 82, 65, 77, 45, 77, 68, 53] }))) rfl ?_); refine insI_step _ rfl 10 _ rfl M 9 [(9, lETRN ++ lst t), (8, lQUIT), (7, lNOOP), (6, lVRFY ++ lst t), (5, lRSET), (4, lDATA), (3, lRCPT ++ bx), (2, lMAIL ++ bx), (1, lEHLO ++ lst t)] rfl HO8.out (by decide) (by decide) { data := #[65, 85, 84, 72, 32, 67, 82, 65, 77, 45, 77, 68, 53] } rfl (by decide) (lAUTH) rfl ?_; intro w9 ho hg; have HO9 := Aside0.mk ho; have KC9 := Aside0.mk (kept2 hg KC8.out HNE.out HLT.out); have k0_9 := KC9.out.1; have k1_9 := KC9.out.2.1; clear ho hg) | ((with_reducible refine gate_ (.insert 75 (.tmp 14) (.const (.int .i64 11)) (.const (.string { data := #[65, 84, 82, 78] }))) rfl ?_); refine insI_step _ rfl 11 _ rfl M 10 [(10, lAUTH), (9, lETRN ++ lst t), (8, lQUIT), (7, lNOOP), (6, lVRFY ++ lst t), (5, lRSET), (4, lDATA), (3, lRCPT ++ bx), (2, lMAIL ++ bx), (1, lEHLO ++ lst t)] rfl HO9.out (by decide) (by decide) { data := #[65, 84, 82, 78] } rfl (by decide) (lATRN) rfl ?_; intro w10 ho hg; have HO10 := Aside0.mk ho; have KC10 := Aside0.mk (kept2 hg KC9.out HNE.out HLT.out); have k0_10 := KC10.out.1; have k1_10 := KC10.out.2.1; clear ho hg) | ((with_reducible refine gate_dst (N := 31) rfl ?_); refine wpList_lookup_own_str _ rfl _ _ 75 rfl 3 9 lawI Tryz.underlying75 Tryz.underlying9 (zeroS _) M 11 (V.texts [(11, lATRN), (10, lAUTH), (9, lETRN ++ lst t), (8, lQUIT), (7, lNOOP), (6, lVRFY ++ lst t), (5, lRSET), (4, lDATA), (3, lRCPT ++ bx), (2, lMAIL ++ bx), (1, lEHLO ++ lst t)]) rfl HO10.out (.int .i64 k) (.int .i64 k) rfl (keyOf_int_mk Tryz.underlying3 hk) ?_; intro S hat; have HAT := Aside0.mk hat; clear hat))
  have hS : lst S = V.lookT k (lineT (lst t) bx) := by
    have h := HAT.out
    rw [V.texts_at] at h
    injection h with h
    injection h with h
    exact h.symm
  have hSl : (lst S).length ≤ 50000 := by
    rw [hS]
    have hb : ∀ x ∈ lineT (lst t) bx, x.2.length ≤ 50000 := by
      intro x hx
      simp only [lineT, List.mem_cons, List.not_mem_nil, or_false] at hx
      rcases hx with rfl | rfl | rfl | rfl | rfl | rfl | rfl | rfl | rfl | rfl | rfl <;> simp [lEHLO, lMAIL, lRCPT, lDATA, lRSET, lVRFY, lNOOP, lQUIT, lETRN, lAUTH, lATRN] <;> omega
    exact look_le k _ hb
  obtain ⟨base, hbase⟩ : ∃ base, base = lst S ++ (if k = 11 ∧ lst t ≠ [] then 32 :: lst t else []) := ⟨_, rfl⟩
  have hbl2 : base.length ≤ 60001 := by rw [hbase]; simp; split <;> simp <;> omega
  have hT : T = base ++ xs.flatMap V.prmB := by
    rw [HT.out, hbase, hS]
    unfold V.line V.lineB
    rw [← HBX.out]
  have HTT := Aside0.mk hT
  have hemp : t.toList.isEmpty = (lst t).isEmpty := emp_str t
  have HBASE := Aside0.mk hbase
  have HKC := KC10
  clear hT hS HAT HO HO0 HO1 HO2 HO3 HO4 HO5 HO6 HO7 HO8 HO9 HO10 KC KC0 KC1 KC2 KC3 KC4 KC5 KC6 KC7 KC8 KC9 KC10 HSE HSM HSR HSV HSN hmk f1 f2 f3 f4 f5 k0_0 k0_1 k0_2 k0_3 k0_4 k0_5 k0_6 k0_7 k0_8 k0_9 k1_0 k1_1 k1_2 k1_3 k1_4 k1_5 k1_6 k1_7 k1_8 k1_9
  obtain ⟨tst, htst⟩ : ∃ b, b = decide (k = 11 ∧ lst t ≠ []) := ⟨_, rfl⟩
  have HTST := Aside0.mk htst
  clear htst
  go_cut [39] (fun v39 wc => v39 = .bool tst ∧ wc = w10)
  case first =>
    by_cases hk11 : k = 11
    · subst hk11
      cases htz : (lst t).isEmpty with
      | true =>
        rw [htz] at hemp
        have hb : tst = false := by rw [HTST.out]; simp [List.isEmpty_iff.1 htz]
        subst hb
        clear hbase htz
        go_wp2_with (fail)
        go_meet
        case rel => exact ⟨rfl, rfl⟩
      | false =>
        rw [htz] at hemp
        have hb : tst = true := by
          rw [HTST.out]
          simp
          intro h
          rw [h] at htz
          simp at htz
        subst hb
        clear hbase htz
        go_wp2_with (fail)
        go_meet
        case rel => exact ⟨rfl, rfl⟩
    · have hb : tst = false := by rw [HTST.out]; simp [hk11]
      subst hb
      have t1 : decide (k = 11) = false := decide_eq_false hk11
      have t2 : (k == 11) = false := by simp [hk11]
      clear hbase hk11
      go_wp2_with (fail)
      go_meet
      case rel => exact ⟨rfl, rfl⟩
  case rest =>
  obtain ⟨rfl, rfl⟩ := hcut
  obtain ⟨w10, rfl⟩ : ∃ wz : World, wz = wc := ⟨_, rfl⟩
  apply_assumption
  go_cut [5] (fun v5 wc => v5 = .string (str base) ∧ wc = w10)
  case first =>
    cases htf : tst with
    | true =>
      have hbe : base = lst S ++ (32 :: lst t) := by
        rw [HBASE.out, if_pos]
        have h := HTST.out
        rw [htf] at h
        exact of_decide_eq_true h.symm
      obtain ⟨X, hX⟩ : ∃ X, X = str (32 :: lst t) := ⟨_, rfl⟩
      have g1 := cat2 (A := ⟨#[32]⟩) (B := t) (C := X) (a := [32]) rfl (str_lst t).symm hX (by decide) (by omega)
      have g2 := cat2 (A := S) (B := X) (C := str base) (str_lst S).symm hX (by rw [hbe]) (by omega) (by simp; omega)
      clear hbase hbe htf hX
      go_wp2_with (fail)
      go_meet
      case rel => exact ⟨rfl, rfl⟩
    | false =>
      have hbe : base = lst S := by
        rw [HBASE.out, if_neg, List.append_nil]
        have h := HTST.out
        rw [htf] at h
        exact of_decide_eq_false h.symm
      have HBE := Aside0.mk hbe
      clear hbase hbe htf
      go_wp2_with (fail)
      go_meet
      case rel => exact ⟨by rw [HBE.out, str_lst], rfl⟩
  case rest =>
  obtain ⟨rfl, rfl⟩ := hcut
  obtain ⟨wx, rfl⟩ : ∃ wz : World, wz = wc := ⟨_, rfl⟩
  clear hbase k0_10 k1_10
  have hC10 := Kd.C_below HX.out (HKC.out.2.2.2.1)
  have HC10 := Aside0.mk hC10
  obtain ⟨⟨c0, c1, c2, c3, c4, c5⟩, e0, e1, e2, e3, e4, e5⟩ := cells6 HKC.out.2.2.1
  clear hC10
  go_upto_region 6 with (fail)
  go_loopg [5, 48] xs.length (fun g v5 v48 wr => ∃ j : Nat, j ≤ xs.length ∧ g + j = xs.length ∧ v48 = .int .i64 j ∧ v5 = .string (str (base ++ (xs.take j).flatMap V.prmB)) ∧ Aside0 (Below wx.heap.size wx wr))
  case atStart => exact ⟨0, by omega, by omega, rfl, by simp, ⟨Below.refl _ _⟩⟩
  case round =>
    obtain ⟨j, hj, hg, rfl, rfl, H⟩ := hrel
    obtain ⟨wy, rfl⟩ : ∃ wz : World, wz = wr := ⟨_, rfl⟩
    by_cases hlt : j < xs.length
    · obtain ⟨x, hx⟩ : ∃ x, x = xs.getD j ([], []) := ⟨_, rfl⟩
      obtain ⟨ad, rfl, p0, p1⟩ := kp_at (Kd.C_below HC10.out H.out) j hlt x hx
      have hft := flat_take xs j hlt x hx
      have hfl := flat_len xs (j + 1)
      rw [hft, List.length_append] at hfl
      have hpl : (V.prmB x).length ≤ 100000 := by omega
      have hpl2 : x.1.length + x.2.length + 2 ≤ 100000 := by unfold V.prmB at hpl; simp at hpl; omega
      have hlt' : (j : Int) < (xs.length : Int) := by omega
      have h0 : (0 : Int) ≤ (j : Int) := by omega
      obtain ⟨X1, hX1⟩ : ∃ X, X = str (32 :: x.1) := ⟨_, rfl⟩
      obtain ⟨X2, hX2⟩ : ∃ X, X = str (32 :: x.1 ++ [61]) := ⟨_, rfl⟩
      obtain ⟨X3, hX3⟩ : ∃ X, X = str (V.prmB x) := ⟨_, rfl⟩
      obtain ⟨Y, hY⟩ : ∃ Y, Y = str (base ++ (xs.take j).flatMap V.prmB) := ⟨_, rfl⟩
      obtain ⟨Z, hZ⟩ : ∃ Z, Z = str (base ++ (xs.take (j + 1)).flatMap V.prmB) := ⟨_, rfl⟩
      have g1 := cat2 (A := ⟨#[32]⟩) (B := str x.1) (C := X1) (a := [32]) rfl rfl hX1 (by decide) (by omega)
      have g2 := cat2 (A := X1) (B := ⟨#[61]⟩) (C := X2) (b := [61]) hX1 rfl hX2 (by simp; omega) (by decide)
      have g3 := cat2 (A := X2) (B := str x.2) (C := X3) hX2 rfl (by rw [hX3]; unfold V.prmB; simp) (by simp; omega) (by omega)
      have g4 := cat2 (A := Y) (B := X3) (C := Z) hY hX3 (by rw [hZ, hft, List.append_assoc]) (by rw [List.length_append]; omega) (by omega)
      have HZ := Aside0.mk hZ
      rw [← hY]
      clear hX1 hX2 hX3 hY hZ hft hfl hx hpl
      go_wp2_with (fail)
      go_roundg (gk - 1)
      case measure => omega
      case rel => exact ⟨j + 1, by omega, by omega, by go_num, by rw [HZ.out], ⟨H.out.alloc H.out.size _⟩⟩
    · have hne : j = xs.length := by omega
      have hT : T = base ++ (xs.take j).flatMap V.prmB := by rw [HTT.out, hne, List.take_length]
      rw [← hT]
      have t1 : decide ((j : Int) < (xs.length : Int)) = false := by simp; omega
      have t2 : decide (j < xs.length) = false := by simp; omega
      clear hT hne
      go_wp2_with (fail)
      go_ret
      exact ⟨rfl, HKC.out.2.2.2.1.trans (H.out.mono HKC.out.2.2.2.1.size)⟩
end Go.Proofs.YteiknmcmaemcoaaGreatDoor
/- What slices.Equal of params, verb's same and Param answer. -/
namespace Go.Proofs.YteiknmcmaemcoaaGreatDoor
open Go.RowKit Go.Lib
open Go.Proofs.YteiknmcmaemcoaaGreatDoorW.PrintWords Go.Proofs.YteiknmcmaemcoaaGreatDoorW.PrintLast Go.Proofs.YteiknmcmaemcoaaGreatDoorW.PrintMore
set_option linter.unusedVariables false
set_option linter.unusedSimpArgs false
theorem eqPath (d : Nat) (w : World) (x0 y0 : Bool) (x1 y1 : ByteArray) (x2 y2 : ByteArray) :
    (Op.equalIn (d + 2) 23 (.agg #[.bool x0, .string x1, .string x2]) (.agg #[.bool y0, .string y1, .string y2])).run Tryz.prog w = .ok (x0 == y0 && (x1.toList == y1.toList && (x2.toList == y2.toList))) w := by
  refine eqA_of Tryz.underlying23 (by kernel_rfl) ?_
  refine eqf_cons (by rfl) (by go_simp; rfl) (by go_simp; rfl) (by go_simp) ?_
  refine eqf_cons (by rfl) (by go_simp; rfl) (by go_simp; rfl) (by go_simp) ?_
  exact eqf_last (by rfl) (by go_simp; rfl) (by go_simp; rfl) (by go_simp)
theorem eqParam (d : Nat) (w : World) (x0 y0 : ByteArray) (x1 y1 : ByteArray) :
    (Op.equalIn (d + 2) 47 (.agg #[.string x0, .string x1]) (.agg #[.string y0, .string y1])).run Tryz.prog w = .ok (x0.toList == y0.toList && (x1.toList == y1.toList)) w := by
  refine eqA_of Tryz.underlying47 (by kernel_rfl) ?_
  refine eqf_cons (by rfl) (by go_simp; rfl) (by go_simp; rfl) (by go_simp) ?_
  exact eqf_last (by rfl) (by go_simp; rfl) (by go_simp; rfl) (by go_simp)
attribute [local go_sem high] eqPath eqParam
theorem prm_eq (x y : Prm) : ((str x.1).toList == (str y.1).toList && ((str x.2).toList == (str y.2).toList)) = decide (x = y) := by
  rw [str_eqB, str_eqB, lst_str, lst_str, lst_str, lst_str, Bool.eq_iff_iff]
  simp [Prod.ext_iff]
theorem drawn_below {w w' : World} (h : Drawn0 w w') : Below w.heap.size w w' := by
  obtain ⟨n, rfl⟩ := h
  exact below_drewN' (Below.refl _ _) n
set_option maxRecDepth 100000 in
set_option maxHeartbeats 2000000 in
theorem equal_any (xs ys : List Prm) (A1 A2 : Option Addr) (c1 c2 : Nat) (w : World) (hx : Kd.C kp w A1 xs.length xs) (hy : Kd.C kp w A2 ys.length ys) (hn : xs.length ≤ 1000000) :
    Calls Tryz.prog 50 #[.slice A1 xs.length c1, .slice A2 ys.length c2] w fun e w' => e = .returned (.bool (decide (xs = ys))) ∧ Below w.heap.size w w' := by
  obtain ⟨T, hT⟩ : ∃ T, T = decide (xs = ys) := ⟨_, rfl⟩
  rw [← hT]
  have HT := Aside0.mk hT
  have HX := Aside0.mk hx
  have HY := Aside0.mk hy
  clear hT hx hy
  go_enter Tryz.func50, Tryz.ntmps50
  by_cases hlen : xs.length = ys.length
  · have t1 : ((xs.length : Int) != (ys.length : Int)) = false := by simp [hlen]
    have t2 : ((xs.length : Int) == (ys.length : Int)) = true := by simp [hlen]
    have HL := Aside0.mk hlen
    clear hlen
    go_wp2
    go_loopg [13] xs.length (fun g v13 wr => ∃ n : Nat, n ≤ xs.length ∧ g + n = xs.length ∧ v13 = .int .i64 n ∧ Aside0 (xs.take n = ys.take n ∧ Drawn0 w wr))
    case atStart => exact ⟨0, by omega, by omega, rfl, ⟨by simp, Drawn0.refl _⟩⟩
    case round =>
      obtain ⟨n, hn2, hg, rfl, H⟩ := hrel
      obtain ⟨wx, rfl⟩ : ∃ wz : World, wz = wr := ⟨_, rfl⟩
      have HB := Aside0.mk (drawn_below H.out.2)
      by_cases hlt : n < xs.length
      · obtain ⟨x, hx⟩ : ∃ x, x = xs.getD n ([], []) := ⟨_, rfl⟩
        obtain ⟨y, hy⟩ : ∃ y, y = ys.getD n ([], []) := ⟨_, rfl⟩
        have hlty : n < ys.length := by rw [← HL.out]; exact hlt
        obtain ⟨ad, rfl, p0, p1⟩ := kp_at (Kd.C_below HX.out HB.out) n hlt x hx
        obtain ⟨ae, rfl, q0, q1⟩ := kp_at (Kd.C_below HY.out HB.out) n hlty y hy
        have hpe := prm_eq x y
        have ex : xs.take (n + 1) = xs.take n ++ [x] := by
          rw [List.take_succ_eq_append_getElem hlt, hx]; simp [List.getD_eq_getElem?_getD, hlt]
        have ey : ys.take (n + 1) = ys.take n ++ [y] := by
          rw [List.take_succ_eq_append_getElem hlty, hy]; simp [List.getD_eq_getElem?_getD, hlty]
        have hlt' : (n : Int) < (xs.length : Int) := by omega
        have hlty' : (n : Int) < (ys.length : Int) := by omega
        have h0 : (0 : Int) ≤ (n : Int) := by omega
        have HEX := Aside0.mk ex
        have HEY := Aside0.mk ey
        clear hx hy ex ey
        by_cases hxy : x = y
        · have HXY := Aside0.mk hxy
          have tt : (!((str x.1).toList == (str y.1).toList) || (!((str x.2).toList == (str y.2).toList))) = false := by
            rw [← Bool.not_and, hpe, decide_eq_true hxy]; rfl
          clear hxy hpe
          go_wp2
          repeat (go_quiet (fail); try go_wp2)
          go_roundg (gk - 1)
          case measure => omega
          case rel =>
            refine ⟨n + 1, by omega, by omega, by go_num, ⟨?_, by repeat (first | exact Drawn0.refl _ | exact H.out.2 | apply Drawn0.step)⟩⟩
            rw [HEX.out, HEY.out, H.out.1, HXY.out]
        · have hT : T = false := by
            rw [HT.out]
            apply decide_eq_false
            intro h
            have e1 := HEX.out
            rw [h, HEY.out, ← H.out.1] at e1
            have e2 := List.append_cancel_left e1
            simp at e2
            exact hxy e2.symm
          have HTF := Aside0.mk hT
          have tt : (!((str x.1).toList == (str y.1).toList) || (!((str x.2).toList == (str y.2).toList))) = true := by
            rw [← Bool.not_and, hpe, decide_eq_false hxy]; rfl
          clear hxy hpe hT
          go_wp2
          repeat (go_quiet (fail); try go_wp2)
          go_ret
          refine ⟨by rw [HTF.out]; rfl, ?_⟩
          exact drawn_below (by repeat (first | exact Drawn0.refl _ | exact H.out.2 | apply Drawn0.step))
      · have hne : n = xs.length := by omega
        have hT : T = true := by
          rw [HT.out]
          have h := H.out.1
          rw [hne, List.take_length, HL.out, List.take_length] at h
          exact decide_eq_true h
        have HTF := Aside0.mk hT
        have t3 : decide ((n : Int) < (xs.length : Int)) = false := by simp; omega
        have t4 : decide (n < xs.length) = false := by simp; omega
        clear hT hne
        go_wp2
        go_ret
        exact ⟨by rw [HTF.out]; rfl, HB.out⟩
  · have hT : T = false := by rw [HT.out]; exact decide_eq_false (fun h => hlen (by rw [h]))
    have HTF := Aside0.mk hT
    have t1 : ((xs.length : Int) != (ys.length : Int)) = true := by simp; omega
    have t2 : ((xs.length : Int) == (ys.length : Int)) = false := by simp; omega
    clear hT hlen
    go_wp2
    go_ret
    exact ⟨by rw [HTF.out]; rfl, Below.refl _ _⟩
/-- The cells of a command that came in or was answered. -/
def V.sameB (a b : V.Cmd) : Bool := decide (a.kind = b.kind) && decide (a.text = b.text) && decide (a.path = b.path) && decide (a.prms = b.prms)
theorem sameB_eq (a b : V.Cmd) : V.sameB a b = decide (a = b) := by
  unfold V.sameB
  obtain ⟨k, t, p, x⟩ := a
  obtain ⟨k2, t2, p2, x2⟩ := b
  rw [Bool.eq_iff_iff]
  simp [and_assoc]
set_option maxRecDepth 100000 in
set_option maxHeartbeats 4000000 in
theorem same_any (a b : V.Cmd) (A1 A2 : Option Addr) (q1 q2 : Nat) (w : World) (hx : Kd.C kp w A1 a.prms.length a.prms) (hy : Kd.C kp w A2 b.prms.length b.prms) (hn : a.prms.length ≤ 1000000) :
    Calls Tryz.prog 32 #[.agg #[.int .i64 a.kind, .string (str a.text), .bool a.path.null, .string (str a.path.loc), .string (str a.path.dom), .slice A1 a.prms.length q1], .agg #[.int .i64 b.kind, .string (str b.text), .bool b.path.null, .string (str b.path.loc), .string (str b.path.dom), .slice A2 b.prms.length q2]] w fun e w' => e = .returned (.bool (decide (a = b))) ∧ Below w.heap.size w w' := by
  obtain ⟨T, hT⟩ : ∃ T, T = decide (a = b) := ⟨_, rfl⟩
  rw [← hT]
  rw [← sameB_eq] at hT
  unfold V.sameB at hT
  obtain ⟨k1, t1, ⟨n1, l1, d1⟩, xs⟩ := a
  obtain ⟨k2, t2, ⟨n2, l2, d2⟩, ys⟩ := b
  simp only at hx hy hn hT ⊢
  have HT := Aside0.mk hT
  obtain ⟨w1, hw1⟩ : ∃ w1, w1 = (w.alloc (.cells #[.int .i64 k1, .string (str t1), .bool n1, .string (str l1), .string (str d1), .slice A1 xs.length q1] 26)).alloc (.cells #[.int .i64 k2, .string (str t2), .bool n2, .string (str l2), .string (str d2), .slice A2 ys.length q2] 26) := ⟨_, rfl⟩
  have hb1 : Below w.heap.size w w1 := by rw [hw1]; exact ((Below.refl _ w).alloc (Nat.le_refl _) _).alloc (by simp) _
  have HEQ := Aside0.mk (equal_any xs ys A1 A2 q1 q2 w1 (Kd.C_below hx hb1) (Kd.C_below hy hb1) hn)
  have HB1 := Aside0.mk hb1
  have et : ((str t1).toList == (str t2).toList) = decide (t1 = t2) := by rw [str_eqB, lst_str, lst_str]
  have ep : (n1 == n2 && ((str l1).toList == (str l2).toList && ((str d1).toList == (str d2).toList))) = decide ((⟨n1, l1, d1⟩ : V.Path) = ⟨n2, l2, d2⟩) := by
    rw [str_eqB, str_eqB, lst_str, lst_str, lst_str, lst_str, Bool.eq_iff_iff]
    simp
  clear hT hb1 hx hy
  subst hw1
  go_enter Tryz.func32, Tryz.ntmps32
  cases hk : decide (k1 = k2) with
  | false =>
    have hT : T = false := by rw [HT.out, hk]; rfl
    have HTF := Aside0.mk hT
    have u1 : (k1 == k2) = false := by simpa using hk
    clear hT
    go_wp2_with (fail)
    go_ret
    exact ⟨by rw [HTF.out]; rfl, HB1.out⟩
  | true =>
    have u1 : (k1 == k2) = true := by simpa using hk
    have HK := Aside0.mk hk
    cases ht : decide (t1 = t2) with
    | false =>
      have hT : T = false := by rw [HT.out, hk, ht]; rfl
      have HTF := Aside0.mk hT
      rw [ht] at et
      clear hT ht hk
      go_wp2_with (fail)
      go_ret
      exact ⟨by rw [HTF.out]; rfl, HB1.out⟩
    | true =>
      rw [ht] at et
      have HTT := Aside0.mk ht
      cases hp : decide ((⟨n1, l1, d1⟩ : V.Path) = ⟨n2, l2, d2⟩) with
      | false =>
        have hT : T = false := by rw [HT.out, hk, ht, hp]; rfl
        have HTF := Aside0.mk hT
        rw [hp] at ep
        clear hT ht hk hp
        go_wp2_with (fail)
        go_ret
        exact ⟨by rw [HTF.out]; rfl, HB1.out⟩
      | true =>
        have hT : T = decide (xs = ys) := by rw [HT.out, hk, ht, hp]; rfl
        have HTF := Aside0.mk hT
        rw [hp] at ep
        clear hT ht hk hp
        go_wp2_with (first | (go_at_call 50; (with_reducible refine Calls.mono HEQ.out ?_); rintro e w2 ⟨rfl, h⟩; have H2 := Aside0.mk h; clear h))
        go_ret
        exact ⟨by rw [HTF.out]; rfl, HB1.out.trans (H2.out.mono HB1.out.size)⟩
end Go.Proofs.YteiknmcmaemcoaaGreatDoor
/- What verb's Text and Param, and wherrykeep's Cmd answer. -/
namespace Go.Proofs.YteiknmcmaemcoaaGreatDoor
open Go.RowKit Go.Lib
open Go.Proofs.YteiknmcmaemcoaaGreatDoorW.PrintWords Go.Proofs.YteiknmcmaemcoaaGreatDoorW.PrintLast Go.Proofs.YteiknmcmaemcoaaGreatDoorW.PrintMore
set_option linter.unusedVariables false
set_option linter.unusedSimpArgs false
/-- A command's value in memory. -/
abbrev cagg (c : V.Cmd) (A : Option Addr) (q : Nat) : Value := .agg #[.int .i64 c.kind, .string (str c.text), .bool c.path.null, .string (str c.path.loc), .string (str c.path.dom), .slice A c.prms.length q]
/-- A command that is not too long. -/
structure Fit (c : V.Cmd) : Prop where
  kind : (Lit.int .i64 c.kind).wf = true
  text : c.text.length ≤ 10000
  loc : c.path.loc.length ≤ 10000
  dom : c.path.dom.length ≤ 10000
  cnt : c.prms.length ≤ 10000
  prms : (c.prms.flatMap V.prmB).length ≤ 30000
theorem lineB_len (c : V.Cmd) (h : Fit c) : (V.lineB c).length ≤ 60000 := by
  have hb : ((V.ptext c.path).getD []).length ≤ 20003 := by
    unfold V.ptext
    have := h.loc
    have := h.dom
    split
    · split
      · simp
      · simp; omega
    · simp
  have ht := h.text
  unfold V.lineB
  rw [List.length_append]
  have h1 : (V.lookT c.kind (lineT c.text ((V.ptext c.path).getD []))).length ≤ 40000 := by
    have hb2 : ∀ x ∈ lineT c.text ((V.ptext c.path).getD []), x.2.length ≤ 40000 := by
      intro x hx
      simp only [lineT, List.mem_cons, List.not_mem_nil, or_false] at hx
      rcases hx with rfl | rfl | rfl | rfl | rfl | rfl | rfl | rfl | rfl | rfl | rfl <;> simp [lEHLO, lMAIL, lRCPT, lDATA, lRSET, lVRFY, lNOOP, lQUIT, lETRN, lAUTH, lATRN] <;> omega
    have : ∀ (T : List (Int × V.Bs)), (∀ x ∈ T, x.2.length ≤ 40000) → (V.lookT c.kind T).length ≤ 40000 := by
      intro T
      induction T with
      | nil => intro _; simp [V.lookT]
      | cons p T ih =>
        intro h
        unfold V.lookT
        split
        · exact h p (by simp)
        · exact ih (fun x hx => h x (by simp [hx]))
    exact this _ hb2
  have h2 : (if c.kind = 11 ∧ c.text ≠ [] then 32 :: c.text else []).length ≤ 10001 := by
    split
    · simp; omega
    · simp
  omega
theorem line_len (c : V.Cmd) (h : Fit c) : (V.line c).length ≤ 90000 := by
  unfold V.line
  rw [List.length_append]
  have := lineB_len c h
  have := h.prms
  omega
theorem line_at (c : V.Cmd) (A : Option Addr) (q : Nat) (w : World) (h : Fit c) (hx : Kd.C kp w A c.prms.length c.prms) (hv : Vars w) :
    Calls Tryz.prog 31 #[cagg c A q] w fun e w' => e = .returned (.string (str (V.line c))) ∧ Below w.heap.size w w' := by
  have h1 := line_any c.kind (str c.text) c.path.null (str c.path.loc) (str c.path.dom) A q c.prms w h.kind (by rw [str_size]; exact h.text) (by rw [str_size]; exact h.loc) (by rw [str_size]; exact h.dom) hx h.cnt (by have := h.prms; omega) hv
  rw [lst_str, lst_str, lst_str] at h1
  exact h1
/-- A command's line, if it is read as it was. -/
def V.text (c : V.Cmd) : Option V.Bs := if (V.parse (V.line c)).1 = some c then some (V.line c) else none
def textV (o : Option V.Bs) : Value := .tuple #[.string (str (o.getD [])), .int .i64 (errOf o.isSome)]
theorem code_pos (l : V.Bs) (h : (V.parse l).1 = none) : (V.parse l).2 = 500 ∨ (V.parse l).2 = 501 ∨ (V.parse l).2 = 504 := by
  revert h
  unfold V.parse
  split
  · intro _; left; rfl
  · split
    · unfold V.known
      split
      · intro _; left; rfl
      · unfold V.told
        split
        · intro h; cases h
        · intro _
          show (if V.strange l = true then (504 : Int) else 501) = 500 ∨ _
          split
          · right; right; rfl
          · right; left; rfl
    · intro _; left; rfl
theorem code_zero (l : V.Bs) (c : V.Cmd) (h : (V.parse l).1 = some c) : (V.parse l).2 = 0 := by
  revert h
  unfold V.parse
  split
  · intro h; cases h
  · split
    · unfold V.known
      split
      · intro h; cases h
      · unfold V.told
        split
        · intro _; rfl
        · intro h; cases h
    · intro h; cases h
set_option maxRecDepth 100000 in
set_option maxHeartbeats 4000000 in
theorem text_any (c : V.Cmd) (A : Option Addr) (q : Nat) (w : World) (hf : Fit c) (hx : Kd.C kp w A c.prms.length c.prms) (hv : Vars w) :
    Calls Tryz.prog 8 #[cagg c A q] w fun e w' => e = .returned (textV (V.text c)) ∧ Below w.heap.size w w' := by
  obtain ⟨T, hT⟩ : ∃ T, T = textV (V.text c) := ⟨_, rfl⟩
  rw [← hT]
  have HT := Aside0.mk hT
  obtain ⟨w0, hw0⟩ : ∃ w0, w0 = w.alloc (.cells #[.int .i64 c.kind, .string (str c.text), .bool c.path.null, .string (str c.path.loc), .string (str c.path.dom), .slice A c.prms.length q] 26) := ⟨_, rfl⟩
  have hb0 : Below w.heap.size w w0 := by rw [hw0]; exact (Below.refl _ w).alloc (Nat.le_refl _) _
  have hr0 : w0.heap[w.heap.size]? = some (.cells #[.int .i64 c.kind, .string (str c.text), .bool c.path.null, .string (str c.path.loc), .string (str c.path.dom), .slice A c.prms.length q] 26 (0, 0)) := by rw [hw0]; exact heap_alloc_new _ _
  have hs0 : w.heap.size < w0.heap.size := (Array.getElem?_eq_some_iff.1 hr0).1
  obtain ⟨S, hS⟩ : ∃ S, S = str (V.line c) := ⟨_, rfl⟩
  have hli := line_at c A q w0 hf (Kd.C_below hx hb0) (hv.go hb0)
  rw [← hS] at hli
  have hSs : S.size ≤ 100000 := by rw [hS, str_size]; have := line_len c hf; omega
  obtain ⟨P, hP⟩ : ∃ P, P = V.parse (V.line c) := ⟨_, rfl⟩
  have hpa : ∀ w, Vars w → Calls Tryz.prog 6 #[.string S] w fun e w' => cmdPost P.1 (.int .i64 0) (.int .i64 P.2) w.heap.size e w' ∧ Below w.heap.size w w' := by
    intro w hv
    have h := parse_any S w hSs hv
    rw [hS, lst_str, ← hP, ← hS] at h
    exact h
  have hrow : ∀ wx, Below w0.heap.size w0 wx → wx.heap[w.heap.size]? = some (.cells #[.int .i64 c.kind, .string (str c.text), .bool c.path.null, .string (str c.path.loc), .string (str c.path.dom), .slice A c.prms.length q] 26 (0, 0)) := fun wx h => (h.block _ hs0).trans hr0
  have HLI := Aside0.mk hli
  have HPA := Aside0.mk hpa
  have HP := Aside0.mk hP
  have HS := Aside0.mk hS
  have HRO := Aside0.mk hrow
  have HB0 := Aside0.mk hb0
  have HX := Aside0.mk hx
  have HF := Aside0.mk hf
  have HV0 := Aside0.mk (hv.go hb0)
  obtain ⟨⟨a0, a1, a2, a3, a4, a5⟩, _⟩ := cells6 hr0
  clear hT hb0 hr0 hli hpa hP hS hrow hx hf hv hs0
  go_enter Tryz.func8, Tryz.ntmps8
  go_upto_region 1 with (fail)
  rw [← hw0]
  clear hw0
  cases hp1 : P.1 with
  | none =>
    have hT : T = .tuple #[.string ByteArray.empty, .int .i64 5] := by
      rw [HT.out]; unfold V.text; rw [← HP.out, hp1, if_neg (by intro h; cases h)]; rfl
    have hcode : P.2 ≠ 0 := by
      have h := code_pos (V.line c) (by rw [← HP.out]; exact hp1)
      rw [← HP.out] at h
      omega
    have HTF := Aside0.mk hT
    obtain ⟨cd, hcd⟩ : ∃ cd, cd = P.2 := ⟨_, rfl⟩
    have hpn : ∀ w, Vars w → Calls Tryz.prog 6 #[.string S] w fun e w' => e = .returned (.tuple #[.agg #[.int .i64 0, .string (str []), .bool false, .string (str []), .string (str []), .slice none 0 0], .int .i64 cd]) ∧ Below w.heap.size w w' := by
      intro w hv
      have h := HPA.out w hv
      rw [hp1, ← hcd] at h
      exact h
    have HPN := Aside0.mk hpn
    have t1 : (cd != 0) = true := by rw [hcd]; simp [hcode]
    clear hT hcode hcd hpn hp1
    go_wp2_with (first | (go_at_call 31; (with_reducible refine Calls.mono HLI.out ?_); rintro e w1 ⟨rfl, h⟩; have H1 := Aside0.mk h; clear h) | (go_at_call 6; (with_reducible refine Calls.mono (HPN.out _ (HV0.out.go H1.out)) ?_); rintro e w2 ⟨rfl, h⟩; have H2 := Aside0.mk h; clear h))
    go_ret2
    exact ⟨by rw [HTF.out]; rfl, (HB0.out.trans ((H1.out.trans (H2.out.mono H1.out.size)).mono HB0.out.size)).alloc (Nat.le_trans HB0.out.size (Nat.le_trans H1.out.size H2.out.size)) _⟩
  | some b =>
    have hcode : P.2 = 0 := by
      have h := code_zero (V.line c) b (by rw [← HP.out]; exact hp1)
      rw [← HP.out] at h
      exact h
    have hT : T = textV (if b = c then some (V.line c) else none) := by
      rw [HT.out]; unfold V.text; rw [← HP.out, hp1]; simp only [Option.some.injEq]
    have hps : ∀ w, Vars w → Calls Tryz.prog 6 #[.string S] w fun e w' => (∃ (B : Option Addr) (qb : Nat), e = .returned (.tuple #[cagg b B qb, .int .i64 0]) ∧ Kd.C kp w' B b.prms.length b.prms ∧ b.prms.length ≤ 100000) ∧ Below w.heap.size w w' := by
      intro w hv
      refine (HPA.out w hv).mono ?_
      rintro e w' ⟨h, hb⟩
      rw [hp1] at h
      obtain ⟨v, rfl, hR, hl⟩ := h
      obtain ⟨B, qb, rfl, _, hC⟩ := Kd.R_reads hR
      exact ⟨⟨B, qb, rfl, hC, hl⟩, hb⟩
    have HTT := Aside0.mk hT
    have HPS := Aside0.mk hps
    clear hT hcode hps hp1
    go_upto_region 3 with (first | (go_at_call 31; (with_reducible refine Calls.mono HLI.out ?_); rintro e w1 ⟨rfl, h⟩; have H1 := Aside0.mk h; clear h) | (go_at_call 6; (with_reducible refine Calls.mono (HPS.out _ (HV0.out.go H1.out)) ?_); rintro e w2 ⟨⟨B, qb, rfl, hC, hl⟩, h⟩; have H2 := Aside0.mk h; have HC := Aside0.mk hC; have HL := Aside0.mk hl; clear h hC hl))
    obtain ⟨w3, hw3⟩ : ∃ w3, w3 = w2.alloc (.cells #[.int .i64 b.kind, .string (str b.text), .bool b.path.null, .string (str b.path.loc), .string (str b.path.dom), .slice B b.prms.length qb] 26) := ⟨_, rfl⟩
    rw [← hw3]
    obtain ⟨G, hG⟩ : ∃ G, G = w2.heap.size := ⟨_, rfl⟩
    rw [← hG]
    have hr3 : w3.heap[G]? = some (.cells #[.int .i64 b.kind, .string (str b.text), .bool b.path.null, .string (str b.path.loc), .string (str b.path.dom), .slice B b.prms.length qb] 26 (0, 0)) := by rw [hw3, hG]; exact heap_alloc_new _ _
    have hb23 : Below w2.heap.size w2 w3 := by rw [hw3]; exact (Below.refl _ _).alloc (Nat.le_refl _) _
    have hb13 : Below w0.heap.size w0 w3 := (H1.out.trans (H2.out.mono H1.out.size)).trans (hb23.mono (Nat.le_trans H1.out.size H2.out.size))
    have hrc := HRO.out w3 hb13
    have hbw3 : Below w.heap.size w w3 := HB0.out.trans (hb13.mono HB0.out.size)
    have HSM := Aside0.mk (same_any b c B A qb q w3 (Kd.C_below HC.out hb23) (Kd.C_below HX.out hbw3) (by have := HL.out; omega))
    have HBW := Aside0.mk hbw3
    obtain ⟨⟨b0, b1, b2, b3, b4, b5⟩, _⟩ := cells6 hr3
    obtain ⟨⟨d0, d1, d2, d3, d4, d5⟩, _⟩ := cells6 hrc
    clear hw3 hG hr3 hb23 hb13 hrc hbw3 a0 a1 a2 a3 a4 a5
    by_cases hbc : b = c
    · have hT : T = .tuple #[.string S, .int .i64 0] := by rw [HTT.out, if_pos hbc, HS.out]; rfl
      have HTF := Aside0.mk hT
      have HBC := Aside0.mk hbc
      clear hT hbc
      go_wp2_with (first | (go_at_call 32; (with_reducible refine Calls.mono HSM.out ?_); rintro e w4 ⟨rfl, h⟩; have H4 := Aside0.mk h; clear h; rw [decide_eq_true HBC.out]))
      go_ret2
      exact ⟨by rw [HTF.out]; rfl, HBW.out.trans (H4.out.mono HBW.out.size)⟩
    · have hT : T = .tuple #[.string ByteArray.empty, .int .i64 5] := by rw [HTT.out, if_neg hbc]; rfl
      have HTF := Aside0.mk hT
      have HBC := Aside0.mk hbc
      clear hT hbc
      go_wp2_with (first | (go_at_call 32; (with_reducible refine Calls.mono HSM.out ?_); rintro e w4 ⟨rfl, h⟩; have H4 := Aside0.mk h; clear h; rw [decide_eq_false HBC.out]))
      go_ret2
      exact ⟨by rw [HTF.out]; rfl, HBW.out.trans (H4.out.mono HBW.out.size)⟩
end Go.Proofs.YteiknmcmaemcoaaGreatDoor
/- What verb's Param, wherrykeep's Path and Cmd, and the law's heavy answer. -/
namespace Go.Proofs.YteiknmcmaemcoaaGreatDoor
open Go.RowKit Go.Lib
open Go.Proofs.YteiknmcmaemcoaaGreatDoorW.PrintWords Go.Proofs.YteiknmcmaemcoaaGreatDoorW.PrintLast Go.Proofs.YteiknmcmaemcoaaGreatDoorW.PrintMore
set_option linter.unusedVariables false
set_option linter.unusedSimpArgs false
/-- The value of a parameter. -/
def V.param (key : V.Bs) (xs : List Prm) : Option V.Bs := match V.pfind key xs 0 with
  | none => none
  | some k => some (xs.getD k ([], [])).2
set_option maxRecDepth 100000 in
set_option maxHeartbeats 4000000 in
theorem param_any (c : V.Cmd) (A : Option Addr) (q : Nat) (key : V.Bs) (w : World) (hx : Kd.C kp w A c.prms.length c.prms) (hn : c.prms.length ≤ 1000000) :
    Calls Tryz.prog 10 #[cagg c A q, .string (str key)] w fun e w' => e = .returned (oRes (V.param key c.prms)) ∧ Below w.heap.size w w' := by
  obtain ⟨T, hT⟩ : ∃ T, T = oRes (V.param key c.prms) := ⟨_, rfl⟩
  rw [← hT]
  have HT := Aside0.mk hT
  obtain ⟨w1, hw1⟩ : ∃ w1, w1 = (w.alloc (.cells #[.int .i64 c.kind, .string (str c.text), .bool c.path.null, .string (str c.path.loc), .string (str c.path.dom), .slice A c.prms.length q] 26)).alloc (.cells #[.string (str key)] 9) := ⟨_, rfl⟩
  have hb1 : Below w.heap.size w w1 := by rw [hw1]; exact ((Below.refl _ w).alloc (Nat.le_refl _) _).alloc (by simp) _
  have hr1 : w1.heap[w.heap.size]? = some (.cells #[.int .i64 c.kind, .string (str c.text), .bool c.path.null, .string (str c.path.loc), .string (str c.path.dom), .slice A c.prms.length q] 26 (0, 0)) := by
    rw [hw1, heap_alloc_old _ _ (by simp)]; exact heap_alloc_new _ _
  have hk1 : w1.cell? ⟨w.heap.size + 1, 0, none⟩ = some (.string (str key)) := by
    rw [cell_of_row w1 _ _ _ _ _ (by rw [hw1]; exact alloc_two _ _ _)]; rfl
  have hs1 : w.heap.size < w1.heap.size := (Array.getElem?_eq_some_iff.1 hr1).1
  have hcx := Kd.C_below hx hb1
  have hix := idxp_param c.prms key A q (w.heap.size + 1) w1 hcx hn hk1
  have hrow : ∀ wx, Below w1.heap.size w1 wx → wx.heap[w.heap.size]? = some (.cells #[.int .i64 c.kind, .string (str c.text), .bool c.path.null, .string (str c.path.loc), .string (str c.path.dom), .slice A c.prms.length q] 26 (0, 0)) := fun wx h => (h.block _ hs1).trans hr1
  have HIX := Aside0.mk hix
  have HRO := Aside0.mk hrow
  have HCX := Aside0.mk hcx
  have HB1 := Aside0.mk hb1
  obtain ⟨⟨a0, a1, a2, a3, a4, a5⟩, _⟩ := cells6 hr1
  clear hT hb1 hr1 hk1 hs1 hcx hix hrow hx
  go_enter Tryz.func10, Tryz.ntmps10
  go_upto_region 1 with (fail)
  rw [← hw1]
  clear hw1
  cases hf : V.pfind key c.prms 0 with
  | none =>
    have hT : T = .tuple #[.string ByteArray.empty, .bool false] := by rw [HT.out]; unfold V.param; rw [hf]; rfl
    have hv : V.pfindI key c.prms = -1 := by unfold V.pfindI; rw [hf]
    have HTF := Aside0.mk hT
    have HV := Aside0.mk hv
    clear hT hv hf
    go_wp2_with (first | (go_at_call 34; (with_reducible refine Calls.mono HIX.out ?_); rintro e w2 ⟨rfl, h⟩; have H2 := Aside0.mk h; clear h; rw [HV.out]))
    go_ret2
    exact ⟨by rw [HTF.out]; rfl, HB1.out.trans (H2.out.mono HB1.out.size)⟩
  | some k =>
    have hk := V.pfind_lt _ _ _ _ hf
    have hkl : k < c.prms.length := by omega
    obtain ⟨x, hx⟩ : ∃ x, x = c.prms.getD k ([], []) := ⟨_, rfl⟩
    have hT : T = .tuple #[.string (str x.2), .bool true] := by rw [HT.out, hx]; unfold V.param; rw [hf]; rfl
    have hv : V.pfindI key c.prms = k := by unfold V.pfindI; rw [hf]
    have HTF := Aside0.mk hT
    have HV := Aside0.mk hv
    have hk1 : (k : Int) < (c.prms.length : Int) := by omega
    have hk0 : (0 : Int) ≤ (k : Int) := by omega
    obtain ⟨ad, rfl, p0, p1⟩ := kp_at HCX.out k hkl x hx
    have HP1 := Aside0.mk p1
    clear hT hv hf hk hx p0 p1
    go_wp2_with (first | (go_at_call 34; (with_reducible refine Calls.mono HIX.out ?_); rintro e w2 ⟨rfl, h⟩; have H2 := Aside0.mk h; have p1 := Below.cell_on h HP1.out; have hrc := HRO.out _ h; clear h a0 a1 a2 a3 a4 a5; obtain ⟨⟨a0, a1, a2, a3, a4, a5⟩, _⟩ := cells6 hrc; clear hrc; rw [HV.out]))
    go_ret2
    exact ⟨by rw [HTF.out]; rfl, HB1.out.trans (H2.out.mono HB1.out.size)⟩
set_option maxRecDepth 100000 in
theorem kpath_any (p r : V.Path) (w : World) :
    Calls Tryz.prog 17 #[.agg #[.bool p.null, .string (str p.loc), .string (str p.dom)], .agg #[.bool r.null, .string (str r.loc), .string (str r.dom)]] w fun e w' => e = .returned (.bool (decide (p = r))) ∧ Below w.heap.size w w' := by
  obtain ⟨T, hT⟩ : ∃ T, T = decide (p = r) := ⟨_, rfl⟩
  rw [← hT]
  obtain ⟨n1, l1, d1⟩ := p
  obtain ⟨n2, l2, d2⟩ := r
  simp only
  have e1 : ((str l1).toList == (str l2).toList) = decide (l1 = l2) := by rw [str_eqB, lst_str, lst_str]
  have e2 : ((str d1).toList == (str d2).toList) = decide (d1 = d2) := by rw [str_eqB, lst_str, lst_str]
  have hT2 : T = ((n1 == n2) && decide (l1 = l2) && decide (d1 = d2)) := by rw [hT, Bool.eq_iff_iff]; simp [and_assoc]
  have HT := Aside0.mk hT2
  clear hT hT2
  go_enter Tryz.func17, Tryz.ntmps17
  cases hn : (n1 == n2) with
  | false =>
    have hT : T = false := by rw [HT.out, hn]; rfl
    have HTF := Aside0.mk hT
    clear hT
    go_wp2_with (fail)
    go_ret
    exact ⟨by rw [HTF.out]; rfl, ((Below.refl _ w).alloc (Nat.le_refl _) _).alloc (by simp) _⟩
  | true =>
    cases hl : decide (l1 = l2) with
    | false =>
      have hT : T = false := by rw [HT.out, hn, hl]; rfl
      have HTF := Aside0.mk hT
      rw [hl] at e1
      clear hT hl
      go_wp2_with (fail)
      go_ret
      exact ⟨by rw [HTF.out]; rfl, ((Below.refl _ w).alloc (Nat.le_refl _) _).alloc (by simp) _⟩
    | true =>
      have hT : T = decide (d1 = d2) := by rw [HT.out, hn, hl]; rfl
      rw [hl] at e1
      rw [← hT] at e2
      clear hT hl
      go_wp2_with (fail)
      go_ret
      exact ⟨rfl, ((Below.refl _ w).alloc (Nat.le_refl _) _).alloc (by simp) _⟩
end Go.Proofs.YteiknmcmaemcoaaGreatDoor
/- What wherrykeep's Cmd answers. -/
namespace Go.Proofs.YteiknmcmaemcoaaGreatDoor
open Go.RowKit Go.Lib
open Go.Proofs.YteiknmcmaemcoaaGreatDoorW.PrintWords Go.Proofs.YteiknmcmaemcoaaGreatDoorW.PrintLast Go.Proofs.YteiknmcmaemcoaaGreatDoorW.PrintMore
set_option linter.unusedVariables false
set_option linter.unusedSimpArgs false
theorem kcmd_and (k1 k2 : Int) (t1 t2 : V.Bs) (p1 p2 : V.Path) (xs ys : List Prm) : decide ((⟨k1, t1, p1, xs⟩ : V.Cmd) = ⟨k2, t2, p2, ys⟩) = (decide (k1 = k2) && (decide (t1 = t2) && (decide (p1 = p2) && (decide (xs.length = ys.length) && decide (xs = ys))))) := by
  rw [Bool.eq_iff_iff]
  simp
  intro _ _ _ h
  rw [h]
set_option maxRecDepth 100000 in
set_option maxHeartbeats 4000000 in
theorem kcmd_any (a b : V.Cmd) (A1 A2 : Option Addr) (q1 q2 : Nat) (w : World) (hx : Kd.C kp w A1 a.prms.length a.prms) (hy : Kd.C kp w A2 b.prms.length b.prms) (hn : a.prms.length ≤ 1000000) :
    Calls Tryz.prog 12 #[cagg a A1 q1, cagg b A2 q2] w fun e w' => e = .returned (.bool (decide (a = b))) ∧ Below w.heap.size w w' := by
  obtain ⟨T, hT⟩ : ∃ T, T = decide (a = b) := ⟨_, rfl⟩
  rw [← hT]
  obtain ⟨k1, t1, p1, xs⟩ := a
  obtain ⟨k2, t2, p2, ys⟩ := b
  simp only at hx hy hn ⊢
  rw [kcmd_and] at hT
  have HT := Aside0.mk hT
  obtain ⟨w1, hw1⟩ : ∃ w1, w1 = (w.alloc (.cells #[.int .i64 k1, .string (str t1), .bool p1.null, .string (str p1.loc), .string (str p1.dom), .slice A1 xs.length q1] 26)).alloc (.cells #[.int .i64 k2, .string (str t2), .bool p2.null, .string (str p2.loc), .string (str p2.dom), .slice A2 ys.length q2] 26) := ⟨_, rfl⟩
  have hb1 : Below w.heap.size w w1 := by rw [hw1]; exact ((Below.refl _ w).alloc (Nat.le_refl _) _).alloc (by simp) _
  have hra : w1.heap[w.heap.size]? = some (.cells #[.int .i64 k1, .string (str t1), .bool p1.null, .string (str p1.loc), .string (str p1.dom), .slice A1 xs.length q1] 26 (0, 0)) := by
    rw [hw1, heap_alloc_old _ _ (by simp)]; exact heap_alloc_new _ _
  have hrb : w1.heap[w.heap.size + 1]? = some (.cells #[.int .i64 k2, .string (str t2), .bool p2.null, .string (str p2.loc), .string (str p2.dom), .slice A2 ys.length q2] 26 (0, 0)) := by
    rw [hw1]; exact alloc_two _ _ _
  have hsb : w.heap.size + 1 < w1.heap.size := (Array.getElem?_eq_some_iff.1 hrb).1
  have hrows : ∀ wx, Below w1.heap.size w1 wx → wx.heap[w.heap.size]? = some (.cells #[.int .i64 k1, .string (str t1), .bool p1.null, .string (str p1.loc), .string (str p1.dom), .slice A1 xs.length q1] 26 (0, 0)) ∧ wx.heap[w.heap.size + 1]? = some (.cells #[.int .i64 k2, .string (str t2), .bool p2.null, .string (str p2.loc), .string (str p2.dom), .slice A2 ys.length q2] 26 (0, 0)) := fun wx h => ⟨(h.block _ (by omega)).trans hra, (h.block _ hsb).trans hrb⟩
  have HRO := Aside0.mk hrows
  have HX := Aside0.mk (Kd.C_below hx hb1)
  have HY := Aside0.mk (Kd.C_below hy hb1)
  have HB1 := Aside0.mk hb1
  have HKP := Aside0.mk (kpath_any p1 p2 w1)
  have et : ((str t1).toList == (str t2).toList) = decide (t1 = t2) := by rw [str_eqB, lst_str, lst_str]
  obtain ⟨⟨a0, a1, a2, a3, a4, a5⟩, _⟩ := cells6 hra
  obtain ⟨⟨b0, b1, b2, b3, b4, b5⟩, _⟩ := cells6 hrb
  clear hT hb1 hx hy hra hrb hsb hrows
  go_enter Tryz.func12, Tryz.ntmps12
  go_upto_region 1 with (fail)
  rw [← hw1]
  clear hw1
  cases hk : decide (k1 = k2) with
  | false =>
    have hT : T = false := by rw [HT.out, hk]; rfl
    have HTF := Aside0.mk hT
    have u1 : (k1 != k2) = true := by simpa using hk
    clear hT hk
    go_wp2_with (fail)
    go_ret
    exact ⟨by rw [HTF.out]; rfl, HB1.out⟩
  | true =>
    have u1 : (k1 != k2) = false := by simpa using hk
    cases ht : decide (t1 = t2) with
    | false =>
      have hT : T = false := by rw [HT.out, hk, ht]; rfl
      have HTF := Aside0.mk hT
      rw [ht] at et
      clear hT hk ht
      go_wp2_with (fail)
      go_ret
      exact ⟨by rw [HTF.out]; rfl, HB1.out⟩
    | true =>
      rw [ht] at et
      cases hp : decide (p1 = p2) with
      | false =>
        have hT : T = false := by rw [HT.out, hk, ht, hp]; rfl
        have HTF := Aside0.mk hT
        have HPF := Aside0.mk hp
        clear hT hk ht hp
        go_wp2_with (first | (go_at_call 17; (with_reducible refine Calls.mono HKP.out ?_); rintro e w2 ⟨rfl, h⟩; have H2 := Aside0.mk h; clear h; rw [HPF.out]))
        go_ret
        exact ⟨by rw [HTF.out]; rfl, HB1.out.trans (H2.out.mono HB1.out.size)⟩
      | true =>
        have HPF := Aside0.mk hp
        cases hl : decide (xs.length = ys.length) with
        | false =>
          have hT : T = false := by rw [HT.out, hk, ht, hp, hl]; rfl
          have HTF := Aside0.mk hT
          have u2 : ((xs.length : Int) != (ys.length : Int)) = true := by have := of_decide_eq_false hl; simp; omega
          clear hT hk ht hp hl
          go_wp2_with (first | (go_at_call 17; (with_reducible refine Calls.mono HKP.out ?_); rintro e w2 ⟨rfl, h⟩; have H2 := Aside0.mk h; have hr := HRO.out _ h; clear h a0 a1 a2 a3 a4 a5 b0 b1 b2 b3 b4 b5; obtain ⟨⟨a0, a1, a2, a3, a4, a5⟩, _⟩ := cells6 hr.1; obtain ⟨⟨b0, b1, b2, b3, b4, b5⟩, _⟩ := cells6 hr.2; clear hr; rw [HPF.out]))
          go_ret
          exact ⟨by rw [HTF.out]; rfl, HB1.out.trans (H2.out.mono HB1.out.size)⟩
        | true =>
          have hT : T = decide (xs = ys) := by rw [HT.out, hk, ht, hp, hl]; rfl
          have HTT := Aside0.mk hT
          have hlen := of_decide_eq_true hl
          have HL := Aside0.mk hlen
          have u2 : ((xs.length : Int) != (ys.length : Int)) = false := by simp; omega
          clear hT hk ht hp hl hlen
          go_wp2_with (first | (go_at_call 17; (with_reducible refine Calls.mono HKP.out ?_); rintro e w2 ⟨rfl, h⟩; have H2 := Aside0.mk h; have hr := HRO.out _ h; clear h a0 a1 a2 a3 a4 a5 b0 b1 b2 b3 b4 b5; obtain ⟨⟨a0, a1, a2, a3, a4, a5⟩, _⟩ := cells6 hr.1; obtain ⟨⟨b0, b1, b2, b3, b4, b5⟩, _⟩ := cells6 hr.2; clear hr; rw [HPF.out]))
          clear a0 a1 a2 a3 a4 a5 b0 b1 b2 b3 b4 b5
          go_loopg [5] xs.length (fun g v5 wr => ∃ n : Nat, n ≤ xs.length ∧ g + n = xs.length ∧ v5 = .int .i64 n ∧ Aside0 (xs.take n = ys.take n ∧ Drawn0 w2 wr))
          case atStart => exact ⟨0, by omega, by omega, rfl, ⟨by simp, Drawn0.refl _⟩⟩
          case round =>
            obtain ⟨n, hn2, hg, rfl, H⟩ := hrel
            obtain ⟨wx, rfl⟩ : ∃ wz : World, wz = wr := ⟨_, rfl⟩
            have hbx : Below w1.heap.size w1 wx := H2.out.trans ((drawn_below H.out.2).mono H2.out.size)
            have HB := Aside0.mk hbx
            obtain ⟨hr1, hr2⟩ := HRO.out _ hbx
            obtain ⟨⟨a0, a1, a2, a3, a4, a5⟩, _⟩ := cells6 hr1
            obtain ⟨⟨b0, b1, b2, b3, b4, b5⟩, _⟩ := cells6 hr2
            clear hr1 hr2 hbx
            by_cases hlt : n < xs.length
            · obtain ⟨x, hx⟩ : ∃ x, x = xs.getD n ([], []) := ⟨_, rfl⟩
              obtain ⟨y, hy⟩ : ∃ y, y = ys.getD n ([], []) := ⟨_, rfl⟩
              have hlty : n < ys.length := by rw [← HL.out]; exact hlt
              obtain ⟨ad, rfl, p0, p1'⟩ := kp_at (Kd.C_below HX.out HB.out) n hlt x hx
              obtain ⟨ae, rfl, q0, q1'⟩ := kp_at (Kd.C_below HY.out HB.out) n hlty y hy
              have ek : ((str x.1).toList == (str y.1).toList) = decide (x.1 = y.1) := by rw [str_eqB, lst_str, lst_str]
              have ev : ((str x.2).toList == (str y.2).toList) = decide (x.2 = y.2) := by rw [str_eqB, lst_str, lst_str]
              have ex : xs.take (n + 1) = xs.take n ++ [x] := by
                rw [List.take_succ_eq_append_getElem hlt, hx]; simp [List.getD_eq_getElem?_getD, hlt]
              have ey : ys.take (n + 1) = ys.take n ++ [y] := by
                rw [List.take_succ_eq_append_getElem hlty, hy]; simp [List.getD_eq_getElem?_getD, hlty]
              have hlt' : (n : Int) < (xs.length : Int) := by omega
              have hlty' : (n : Int) < (ys.length : Int) := by omega
              have h0 : (0 : Int) ≤ (n : Int) := by omega
              have hbad : x ≠ y → T = false := by
                intro hxy
                rw [HTT.out]
                apply decide_eq_false
                intro h
                have e1 := ex
                rw [h, ey, ← H.out.1] at e1
                have e2 := List.append_cancel_left e1
                simp at e2
                exact hxy e2.symm
              have HBAD := Aside0.mk hbad
              have HEX := Aside0.mk ex
              have HEY := Aside0.mk ey
              clear hx hy ex ey hbad
              cases hxk : decide (x.1 = y.1) with
              | false =>
                have hT : T = false := HBAD.out (fun h => of_decide_eq_false hxk (by rw [h]))
                have HTF := Aside0.mk hT
                rw [hxk] at ek
                clear hT hxk
                go_wp2_with (fail)
                repeat (go_quiet (fail); try go_wp2_with (fail))
                go_ret
                exact ⟨by rw [HTF.out]; rfl, HB1.out.trans ((HB.out.trans ((drawn_below (by repeat (first | exact Drawn0.refl _ | apply Drawn0.step))).mono HB.out.size)).mono HB1.out.size)⟩
              | true =>
                cases hxv : decide (x.2 = y.2) with
                | false =>
                  have hT : T = false := HBAD.out (fun h => of_decide_eq_false hxv (by rw [h]))
                  have HTF := Aside0.mk hT
                  rw [hxk] at ek
                  rw [hxv] at ev
                  clear hT hxk hxv
                  go_wp2_with (fail)
                  repeat (go_quiet (fail); try go_wp2_with (fail))
                  go_ret
                  exact ⟨by rw [HTF.out]; rfl, HB1.out.trans ((HB.out.trans ((drawn_below (by repeat (first | exact Drawn0.refl _ | apply Drawn0.step))).mono HB.out.size)).mono HB1.out.size)⟩
                | true =>
                  have hxy : x = y := Prod.ext (of_decide_eq_true hxk) (of_decide_eq_true hxv)
                  have HXY := Aside0.mk hxy
                  rw [hxk] at ek
                  rw [hxv] at ev
                  clear hxy hxk hxv
                  go_wp2_with (fail)
                  repeat (go_quiet (fail); try go_wp2_with (fail))
                  go_roundg (gk - 1)
                  case measure => omega
                  case rel => exact ⟨n + 1, by omega, by omega, by go_num, ⟨by rw [HEX.out, HEY.out, H.out.1, HXY.out], by repeat (first | exact Drawn0.refl _ | exact H.out.2 | apply Drawn0.step)⟩⟩
            · have hne : n = xs.length := by omega
              have hT : T = true := by
                rw [HTT.out]
                have h := H.out.1
                rw [hne, List.take_length, HL.out, List.take_length] at h
                exact decide_eq_true h
              have HTF := Aside0.mk hT
              have t3 : decide ((n : Int) < (xs.length : Int)) = false := by simp; omega
              have t4 : decide (n < xs.length) = false := by simp; omega
              clear hT hne
              go_wp2_with (fail)
              go_ret
              exact ⟨by rw [HTF.out]; rfl, HB1.out.trans (HB.out.mono HB1.out.size)⟩
end Go.Proofs.YteiknmcmaemcoaaGreatDoor
/- The first line of wakes in plain Lean. No Go. -/
namespace Go.Proofs.YteiknmcmaemcoaaGreatDoor
set_option linter.unusedVariables false
set_option linter.unusedSimpArgs false
def wakeL : V.Bs := [109, 97, 105, 108, 32, 102, 114, 111, 109, 58, 60, 62, 32, 115, 105, 122, 101, 61, 53]
def wakeT : V.Bs := [77, 65, 73, 76, 32, 70, 82, 79, 77, 58, 60, 62, 32, 83, 73, 90, 69, 61, 53]
def wakeC : V.Cmd := ⟨2, [], ⟨true, [], []⟩, [(wSIZE, [53])]⟩
theorem number_five : V.number [53] = true := by decide +kernel
theorem wake_parse : V.parse wakeL = (some wakeC, 0) := by decide +kernel
theorem wake_frob : V.parse [70, 82, 79, 66] = (none, 500) := by decide +kernel
theorem wake_line : V.line wakeC = wakeT := by decide +kernel
theorem wake_back : V.parse wakeT = (some wakeC, 0) := by decide +kernel
theorem wake_text : V.text wakeC = some wakeT := by unfold V.text; rw [wake_line, wake_back]; rfl
theorem wake_param : V.param wSIZE wakeC.prms = some [53] := by decide +kernel
end Go.Proofs.YteiknmcmaemcoaaGreatDoor
/- What the law's wakes answers. -/
namespace Go.Proofs.YteiknmcmaemcoaaGreatDoor
open Go.RowKit Go.Lib
open Go.Proofs.YteiknmcmaemcoaaGreatDoorW.PrintWords Go.Proofs.YteiknmcmaemcoaaGreatDoorW.PrintLast Go.Proofs.YteiknmcmaemcoaaGreatDoorW.PrintMore
set_option linter.unusedVariables false
set_option linter.unusedSimpArgs false
/-- A line that is a command. -/
theorem parse_some (s : ByteArray) (c : V.Cmd) (cd : Int) (h : V.parse (lst s) = (some c, cd)) (w : World) (hs : s.size ≤ 100000) (hv : Vars w) :
    Calls Tryz.prog 6 #[.string s] w fun e w' => (∃ (A : Option Addr) (q : Nat), e = .returned (.tuple #[cagg c A q, .int .i64 0]) ∧ Kd.C kp w' A c.prms.length c.prms) ∧ Below w.heap.size w w' := by
  refine (parse_any s w hs hv).mono ?_
  rintro e w' ⟨h1, hb⟩
  rw [h] at h1
  obtain ⟨v, rfl, hR, hl⟩ := h1
  obtain ⟨A, q, rfl, _, hC⟩ := Kd.R_reads hR
  exact ⟨⟨A, q, rfl, hC⟩, hb⟩
/-- A line that is none. -/
theorem parse_none (s : ByteArray) (cd : Int) (h : V.parse (lst s) = (none, cd)) (w : World) (hs : s.size ≤ 100000) (hv : Vars w) :
    Calls Tryz.prog 6 #[.string s] w fun e w' => e = .returned (.tuple #[.agg #[.int .i64 0, .string (str []), .bool false, .string (str []), .string (str []), .slice none 0 0], .int .i64 cd]) ∧ Below w.heap.size w w' := by
  refine (parse_any s w hs hv).mono ?_
  rintro e w' ⟨h1, hb⟩
  rw [h] at h1
  exact ⟨h1, hb⟩
theorem wake_fit : Fit wakeC := ⟨by decide, by decide, by decide, by decide, by decide, by decide⟩
set_option maxRecDepth 100000 in
set_option maxHeartbeats 4000000 in
theorem wakes_any (w : World) (hv : Vars w) :
    Calls Tryz.prog 13 #[] w fun e w' => e = .returned (.bool true) ∧ Below w.heap.size w w' := by
  have hp1 := fun w hv => parse_some ⟨#[109, 97, 105, 108, 32, 102, 114, 111, 109, 58, 60, 62, 32, 115, 105, 122, 101, 61, 53]⟩ wakeC 0 wake_parse w (by decide) hv
  have hp2 := fun w hv => parse_none ⟨#[70, 82, 79, 66]⟩ 500 wake_frob w (by decide) hv
  obtain ⟨X, hX⟩ : ∃ X, X = str wakeT := ⟨_, rfl⟩
  have ht : ∀ (A : Option Addr) (q : Nat) (w : World), Kd.C kp w A wakeC.prms.length wakeC.prms → Vars w → Calls Tryz.prog 8 #[cagg wakeC A q] w fun e w' => e = .returned (.tuple #[.string X, .int .i64 0]) ∧ Below w.heap.size w w' := by
    intro A q w hC hv
    have h := text_any wakeC A q w wake_fit hC hv
    rw [wake_text] at h
    rw [hX]
    exact h
  have hpr : ∀ (A : Option Addr) (q : Nat) (w : World), Kd.C kp w A wakeC.prms.length wakeC.prms → Calls Tryz.prog 10 #[cagg wakeC A q, .string ⟨#[83, 73, 90, 69]⟩] w fun e w' => e = .returned (.tuple #[.string ⟨#[53]⟩, .bool true]) ∧ Below w.heap.size w w' := by
    intro A q w hC
    have h := param_any wakeC A q wSIZE w hC (by decide)
    rw [wake_param] at h
    exact h
  have hxe : (X.toList == [77, 65, 73, 76, 32, 70, 82, 79, 77, 58, 60, 62, 32, 83, 73, 90, 69, 61, 53]) = true := by rw [hX, ByteArray.toList_eq]; rfl
  have HP1 := Aside0.mk hp1
  have HP2 := Aside0.mk hp2
  have HT := Aside0.mk ht
  have HPR := Aside0.mk hpr
  have HV := Aside0.mk hv
  clear hp1 hp2 ht hpr hv hX
  obtain ⟨N, hN⟩ : ∃ N, N = wakeC.prms.length := ⟨_, rfl⟩
  go_enter Tryz.func13, Tryz.ntmps13
  go_upto_region 2 with (first | (go_at_call 6; (with_reducible refine Calls.mono (HP1.out _ HV.out) ?_); rintro e w1 ⟨⟨A, q, rfl, hC⟩, h⟩; have H1 := Aside0.mk h; have HC := Aside0.mk hC; clear h hC))
  obtain ⟨w2, hw2⟩ : ∃ w2, w2 = w1.alloc (.cells #[.int .i64 wakeC.kind, .string (str wakeC.text), .bool wakeC.path.null, .string (str wakeC.path.loc), .string (str wakeC.path.dom), .slice A wakeC.prms.length q] 26) := ⟨_, rfl⟩
  rw [← hw2]
  obtain ⟨G, hG⟩ : ∃ G, G = w1.heap.size := ⟨_, rfl⟩
  rw [← hG]
  have hr2 : w2.heap[G]? = some (.cells #[.int .i64 wakeC.kind, .string (str wakeC.text), .bool wakeC.path.null, .string (str wakeC.path.loc), .string (str wakeC.path.dom), .slice A wakeC.prms.length q] 26 (0, 0)) := by rw [hw2, hG]; exact heap_alloc_new _ _
  have hb12 : Below w1.heap.size w1 w2 := by rw [hw2]; exact (Below.refl _ _).alloc (Nat.le_refl _) _
  have hb2 : Below w.heap.size w w2 := H1.out.trans (hb12.mono H1.out.size)
  have hs2 : G < w2.heap.size := (Array.getElem?_eq_some_iff.1 hr2).1
  have hrow : ∀ wx, Below w2.heap.size w2 wx → wx.heap[G]? = some (.cells #[.int .i64 wakeC.kind, .string (str wakeC.text), .bool wakeC.path.null, .string (str wakeC.path.loc), .string (str wakeC.path.dom), .slice A wakeC.prms.length q] 26 (0, 0)) := fun wx h => (h.block _ hs2).trans hr2
  have HRO := Aside0.mk hrow
  have HB2 := Aside0.mk hb2
  have HC2 := Aside0.mk (Kd.C_below HC.out hb12)
  have HV2 := Aside0.mk (HV.out.go hb2)
  obtain ⟨⟨a0, a1, a2, a3, a4, a5⟩, _⟩ := cells6 hr2
  clear hw2 hG hr2 hb12 hb2 hs2 hrow
  go_upto_region 3 with (first | (go_at_call 8; (with_reducible refine Calls.mono (HT.out A q w2 HC2.out HV2.out) ?_); rintro e w3 ⟨rfl, h⟩; have H3 := Aside0.mk h; clear h))
  clear a0 a1 a2 a3 a4 a5
  obtain ⟨⟨a0, a1, a2, a3, a4, a5⟩, _⟩ := cells6 (HRO.out w3 H3.out)
  have HC3 := Aside0.mk (Kd.C_below HC2.out H3.out)
  go_upto_region 4 with (first | (go_at_call 10; (with_reducible refine Calls.mono (HPR.out A q w3 HC3.out) ?_); rintro e w4 ⟨rfl, h⟩; have H4 := Aside0.mk (H3.out.trans (h.mono H3.out.size)); clear h))
  clear a0 a1 a2 a3 a4 a5
  go_upto_region 5 with (first | (go_at_call 6; (with_reducible refine Calls.mono (HP2.out _ (HV2.out.go H4.out)) ?_); rintro e w5 ⟨rfl, h⟩; have H5 := Aside0.mk (H4.out.trans (h.mono H4.out.size)); clear h))
  obtain ⟨w6, hw6⟩ : ∃ w6, w6 = w5.alloc (.cells #[.int .i64 0, .string (str []), .bool false, .string (str []), .string (str []), .slice none 0 0] 26) := ⟨_, rfl⟩
  rw [← hw6]
  have H6 := Aside0.mk (show Below w2.heap.size w2 w6 by rw [hw6]; exact H5.out.alloc H5.out.size _)
  clear hw6
  have b0 : w6.cell? ⟨G, 0, none⟩ = some (.int .i64 2) := by rw [cell_of_row w6 G _ _ _ _ (HRO.out w6 H6.out)]; rfl
  have b2 : w6.cell? ⟨G, 2, none⟩ = some (.bool true) := by rw [cell_of_row w6 G _ _ _ _ (HRO.out w6 H6.out)]; rfl
  go_wp2_with (fail)
  go_ret
  exact ⟨rfl, HB2.out.trans (H6.out.mono HB2.out.size)⟩
end Go.Proofs.YteiknmcmaemcoaaGreatDoor
/- The library's variables out of the card's condition, and the card's wrap with the world's shape. -/
namespace Go.Proofs.YteiknmcmaemcoaaGreatDoor
open Go.RowKit Go.Lib
set_option linter.unusedVariables false
set_option linter.unusedSimpArgs false
theorem star_es : "*" ++ "errors.errorString" = "*errors.errorString" := by decide
theorem row_es (u : TypeId) (h : Tryz.prog.typeName? 3 u = some "*errors.errorString") : u = 133 :=
  typeName_ptr_named (nm := "errors.errorString") (by rw [star_es]; kernel_rfl) (by kernel_rfl) (by decide) u (by rw [star_es]; exact h)
theorem vars_of (W : World) (hL : laidMetH Tryz.prog [("math/bits.deBruijn32tab", Rows.laid_math_bits_deBruijn32tab), ("math/bits.deBruijn64tab", Rows.laid_math_bits_deBruijn64tab), ("internal/strconv.uint64pow10", Rows.laid_internal_strconv_uint64pow10), ("unicode/utf8.acceptRanges", Rows.laid_unicode_utf8_acceptRanges), ("strconv.ErrRange", Rows.laid_strconv_ErrRange), ("strconv.ErrSyntax", Rows.laid_strconv_ErrSyntax), ("unicode/utf8.first", Rows.laid_unicode_utf8_first)] W) (hsh : W.ShapedOpen Tryz.prog) : Vars W := by
  rw [MakeChecks.laidMetH_plain _ _ _ (by kernel_rfl)] at hL
  obtain ⟨a0, s0, hv0, -, -, -⟩ := laid_sentinel (ts := 9) hL.tail.tail.tail.tail (g := 4) (ti := 109) (by kernel_rfl) (by kernel_rfl) Tryz.underlying109 row_es Tryz.underlying133 Tryz.underlying135 rfl rfl Tryz.underlying9 (by kernel_rfl) (by kernel_rfl)
  obtain ⟨a1, s1, hv1, -, -, -⟩ := laid_sentinel (ts := 9) hL.tail.tail.tail.tail.tail (g := 3) (ti := 109) (by kernel_rfl) (by kernel_rfl) Tryz.underlying109 row_es Tryz.underlying133 Tryz.underlying135 rfl rfl Tryz.underlying9 (by kernel_rfl) (by kernel_rfl)
  have hp : TabIs Tryz.prog W "internal/strconv.uint64pow10" .u64 Lib.pow10Tab := tabIs_of_head (g := 5) (t := 137) (e := 120) (n := 20) (by kernel_rfl) (by kernel_rfl) (by kernel_rfl) (by kernel_rfl) (by kernel_rfl) (by kernel_rfl) hL.tail.tail
  obtain ⟨ps, ⟨g', t', cs, fuel, p, q, hg', ht', hvar, hd, _, _⟩, _⟩ := hL.tail
  refine ⟨?_, Tryz.laysM146.s1_3 W hsh, ⟨_, _, hv1⟩, ⟨_, _, hv0⟩, hp⟩
  have hg7 := hg'
  rw [show Tryz.prog.globalNamed "math/bits.deBruijn64tab" = some 7 from by kernel_rfl] at hg7
  obtain rfl := Option.some.inj hg7
  unfold World.var? at hvar
  rw [hg'] at hvar
  simp only [Option.bind_some] at hvar
  rcases Nat.lt_or_ge 7 W.heap.size with h | h
  · omega
  · rw [Array.getElem?_eq_none h] at hvar
    cases hvar
/-- The card's wrap, with the world's shape. -/
theorem returnsInHanded_shaped {H : Type} {enc : TypeId × Value → H} {a : Assume} {C : Checked} {os : Os} {f : FuncId} {fn : Func} {s : ChangeSpec} {conds : List PathCond} {apart fresh handsOn again : Bool} {X : World → Array Value → Prop}
    (hX : ∀ (w w' : World) (args : Array Value), w.heap = w'.heap → X w args → X w' args)
    (own : ownKnob C.prog.godebug = none) (started : os.Started) (noInit : C.prog.inits.idxOf? f = none) (hfn : C.prog.funcs[f]? = some fn)
    (witness : ∃ (w : World) (tape : Tape) (i : Input), w.os = os ∧ (w.forCall tape i).Shaped C.prog ∧ i.vars = [] ∧ Input.okWide C.prog (w.forCall tape i) .any w.heap.size f i ∧
      ((s.pre enc C.prog fn conds apart (w.forCall tape i).memory i.args ∧ X (w.forCall tape i).memory i.args) ∧ sizedMet enc C.prog fn (OpenSpec.ofChange s) apart (w.forCall tape i).memory i.args) ∧ a.holds C.prog (lone (Frame.enter C.prog f i.args .normal) [] (w.forCall tape i)))
    (contract : ∀ (W : World) (base : Nat) (args : Array Value) (ds gs : List (DataW H)) (before : List MemPlace),
      (∀ (j : Nat) t v, fn.params[j]? = some t → args[j]? = some v → Value.okWide C.prog W .any base t v) →
      DataW.Whole enc C.prog fn.params.toList s.vars apart W args.toList ds gs before →
      conds.all (PathCond.test C.prog ⟨fn.params.toList, ds, s.plain.varTypes C.prog, gs⟩) = true →
      (DataW.weightsEach C.prog (fn.params.toList ++ s.plain.varTypes C.prog) (ds ++ gs)).all (· ≤ reachBytes) = true → X W args →
      W.ShapedOpen C.prog →
      Calls C.prog f args W fun e W' => ∃ v, e = .returned v ∧ s.post enc C.prog fn apart fresh handsOn again W args v W') :
    ReturnsInHanded a C os f .any (fun w args => (s.pre enc C.prog fn conds apart w args ∧ X w args) ∧ sizedMet enc C.prog fn (OpenSpec.ofChange s) apart w args) (s.post enc C.prog fn apart fresh handsOn again) := by
  refine returnsInHanded_of_calls own started noInit witness ?_
  intro w tape i _ hsh _ hok hpre hholds
  obtain ⟨_, _, _, fn', hfn', _, _, _, _, hval⟩ := hok
  have e : fn' = fn := Option.some.inj (hfn'.symm.trans hfn)
  subst e
  obtain ⟨⟨⟨ds, gs, before, hw, hc⟩, hx⟩, hz⟩ := hpre
  have hw' := DataW.Whole.of_heap (w' := w.forCall tape i) (by rfl) hw
  refine (contract (w.forCall tape i) w.heap.size i.args ds gs before hval hw' hc (hz.weights hw) (hX _ _ _ (by rfl) hx) hsh).mono fun e W' ⟨v, he, hp⟩ => ?_
  subst he
  exact ChangeSpec.post_blind hp
end Go.Proofs.YteiknmcmaemcoaaGreatDoor
/- What the laws share: Parse's answer in one form. -/
namespace Go.Proofs.YteiknmcmaemcoaaGreatDoor
open Go.RowKit Go.Lib
open Go.Proofs.YteiknmcmaemcoaaGreatDoorW.PrintWords Go.Proofs.YteiknmcmaemcoaaGreatDoorW.PrintLast Go.Proofs.YteiknmcmaemcoaaGreatDoorW.PrintMore
set_option linter.unusedVariables false
set_option linter.unusedSimpArgs false
theorem rounds_small (nn : Int) (m : Nat) (h1 : 1 ≤ m) (h2 : m ≤ 65000) : ∃ q : Nat, wrap64 ((IntKind.u64.wrap nn).tmod (m : Int)) = q ∧ q < m := by
  have h0 : 0 ≤ IntKind.u64.wrap nn := by simp [IntKind.wrap, IntKind.signed, IntKind.bits]; omega
  rw [Int.tmod_eq_emod_of_nonneg h0]
  generalize IntKind.u64.wrap nn = x at *
  have h3 : 0 ≤ x % (m : Int) := Int.emod_nonneg _ (by omega)
  have h4 : x % (m : Int) < m := Int.emod_lt_of_pos _ (by omega)
  refine ⟨(x % (m : Int)).toNat, ?_, by omega⟩
  have : wrap64 (x % (m : Int)) = x % (m : Int) := by unfold wrap64; omega
  omega
/-- The command of a line, or none. -/
def V.cmd (l : V.Bs) : V.Cmd := (V.parse l).1.getD V.noCmd
/-- The number that answers it. -/
def V.code (l : V.Bs) : Int := (V.parse l).2
def uniPost (c : V.Cmd) (n : Int) (e : Ending) (w : World) : Prop := ∃ (A : Option Addr) (q : Nat), e = .returned (.tuple #[cagg c A q, .int .i64 n]) ∧ Kd.C kp w A c.prms.length c.prms ∧ c.prms.length ≤ 100000
theorem parse_uni (s : ByteArray) (w : World) (hs : s.size ≤ 100000) (hv : Vars w) :
    Calls Tryz.prog 6 #[.string s] w fun e w' => uniPost (V.cmd (lst s)) (V.code (lst s)) e w' ∧ Below w.heap.size w w' := by
  refine (parse_any s w hs hv).mono ?_
  rintro e w' ⟨h1, hb⟩
  refine ⟨?_, hb⟩
  unfold V.cmd V.code
  cases h : (V.parse (lst s)).1 with
  | none =>
    rw [h] at h1
    exact ⟨none, 0, h1, Kd.C_nil _ _, Nat.zero_le _⟩
  | some c =>
    rw [h] at h1
    obtain ⟨v, rfl, hR, hl⟩ := h1
    obtain ⟨A, q, rfl, _, hC⟩ := Kd.R_reads hR
    rw [code_zero _ _ h]
    exact ⟨A, q, rfl, hC, hl⟩
end Go.Proofs.YteiknmcmaemcoaaGreatDoor
/- Arguments that are slices of Bools, paths, commands: opened to the values' own types. -/
namespace Go.Proofs.YteiknmcmaemcoaaGreatDoor
open Go.RowKit Go.Proofs.YteiknmcmaemcoaaGreatDoorW.PrintWords
set_option linter.unusedVariables false
set_option linter.unusedSimpArgs false
section
variable {H : Type} {α β : Type} (enc : TypeId × Value → H) (P : Program) (w : World) (base : Nat) (spare : Nat → Bool) (held : Bool)
/-- What reads as data of type t, within the form's reach, is a value of this kind, with that property. -/
def Opens (d : Kd α) (G : α → Prop) (t : TypeId) : Prop := ∀ fuel cs x, DataW.trod enc P w base spare held fuel t cs = some x → (∀ n ∈ x.1.weights P t, n ≤ reachBytes) → ∃ y, d.K w y cs ∧ G y
/-- Likewise the cells of fields from o on. -/
def OpensF (d : Kd α) (G : α → Prop) (o : Nat) (fs : List Field) : Prop := ∀ n cs, cs.length = d.sz → (∀ f ∈ fs, ∃ y, DataW.trod enc P w base spare held n f.type ((cs.drop (f.offset - o)).take (P.cellsOf f.type)) = some y ∧ ∀ n ∈ y.1.weights P f.type, n ≤ reachBytes) → ∃ y, d.K w y cs ∧ G y
def OkA {α : Type} : α → Prop := fun _ => True
def OkI (k : IntKind) (n : Int) : Prop := (Lit.int k n).wf = true
def OkS (s : ByteArray) : Prop := s.size ≤ 140737488351232
def OkL {α : Type} (G : α → Prop) (l : List α) : Prop := l.length ≤ 140737488351232 ∧ ∀ z ∈ l, G z
def OkP {α β : Type} (G : α → Prop) (K : β → Prop) (x : α × β) : Prop := G x.1 ∧ K x.2
theorem weightsAll_mem {e : TypeId} {l : List (DataW H)} {d : DataW H} (hd : d ∈ l) {n : Nat} (hn : n ∈ d.weights P e) : n ∈ DataW.weightsAll P e l := by
  induction l with
  | nil => cases hd
  | cons a l ih =>
    simp only [DataW.weightsAll, List.mem_append]
    rcases List.mem_cons.1 hd with rfl | h
    · exact .inl hn
    · exact .inr (ih h)
variable {enc P w base spare held}
theorem opens_int {k : IntKind} {t : TypeId} (ht : P.underlying t = some (.int k)) : Opens enc P w base spare held (Kd.int k) (OkI k) t := fun fuel cs x h _ => by
  obtain ⟨n, rfl, _, hw⟩ := DataW.trod_int ht h
  exact ⟨n, rfl, hw⟩
theorem opens_bool {t : TypeId} (ht : P.underlying t = some .bool) : Opens enc P w base spare held Kd.bool OkA t := fun fuel cs x h _ => by
  obtain ⟨n, rfl, _⟩ := DataW.trod_bool ht h
  exact ⟨n, rfl, trivial⟩
theorem opens_string {t : TypeId} (ht : P.underlying t = some .string) : Opens enc P w base spare held Kd.string OkS t := fun fuel cs x h hw => by
  obtain ⟨n, rfl, rfl, _⟩ := DataW.trod_string ht h
  have := hw n.data.toList.length (by simp [DataW.weights])
  exact ⟨n, rfl, by rw [Array.length_toList] at this; exact this⟩
theorem opens_C {d : Kd α} {G : α → Prop} {t e : TypeId} (ht : P.underlying t = some (.slice e)) (hsz : P.cellsOf e = d.sz) (hby : 1 ≤ P.bytesOf e) (hd : Opens enc P w base spare held d G e) (fuel : Nat) (cs : List Value) (x : DataW H × List MemPlace) (h : DataW.trod enc P w base spare held fuel t cs = some x) (hw : ∀ n ∈ x.1.weights P t, n ≤ reachBytes) : ∃ (y : List α) (A : Option Addr) (c : Nat), cs = [.slice A y.length c] ∧ y.length ≤ c ∧ c ≤ maxLen ∧ d.C w A y.length y ∧ OkL G y := by
  rcases Go.Deep.open_slice ht h with ⟨rfl, rfl⟩ | ⟨a, len, cap, m, n, D, Pl, rfl, hb, hl, hm, hmm, rfl, hi⟩
  · exact ⟨[], none, 0, rfl, Nat.le_refl 0, Nat.zero_le _, Kd.C_nil d w, Nat.zero_le _, fun z hz => by cases hz⟩
  · have hlm : len ≤ m := by rw [hmm]; split <;> omega
    have hk : ∀ i, ∃ y : Option α, i < len → ∃ z cs', y = some z ∧ w.cells? base (a.add (i * P.cellsOf e)) (P.cellsOf e) = some cs' ∧ d.K w z cs' ∧ G z := by
      intro i
      by_cases hil : i < len
      · obtain ⟨cs', h1, h2⟩ := hi i (by omega)
        obtain ⟨z, hz, hg⟩ := hd _ _ _ h2 (fun n hn => hw n (by
          simp only [DataW.weights, ht, List.mem_cons, List.mem_append]
          exact .inr (.inl (weightsAll_mem P (d := D i) (List.mem_map.2 ⟨i, List.mem_range.2 hil, rfl⟩) hn))))
        exact ⟨some z, fun _ => ⟨z, cs', rfl, h1, hz, hg⟩⟩
      · exact ⟨none, fun hh => absurd hh hil⟩
    obtain ⟨f, hf⟩ := Classical.axiomOfChoice hk
    have hall : ∀ i, i < len → ∃ z cs', f i = some z ∧ w.cells? base (a.add (i * P.cellsOf e)) (P.cellsOf e) = some cs' ∧ d.K w z cs' ∧ G z := hf
    have hlen : ((List.range len).filterMap f).length = len ∧ ∀ i, i < len → ((List.range len).filterMap f)[i]? = f i := by
      have key : ∀ m, m ≤ len → ((List.range m).filterMap f).length = m ∧ ∀ i, i < m → ((List.range m).filterMap f)[i]? = f i := by
        intro m
        induction m with
        | zero => intro _; exact ⟨rfl, fun i hi => absurd hi (by omega)⟩
        | succ m ih =>
          intro hm
          obtain ⟨i1, i2⟩ := ih (by omega)
          obtain ⟨z, cs', hz, _⟩ := hall m (by omega)
          have e : (List.range (m + 1)).filterMap f = (List.range m).filterMap f ++ [z] := by
            rw [List.range_succ, List.filterMap_append]
            simp [hz]
          rw [e]
          refine ⟨by simp [i1], fun i hi => ?_⟩
          by_cases him : i < m
          · rw [List.getElem?_append_left (by omega)]; exact i2 i him
          · obtain rfl : i = m := by omega
            rw [List.getElem?_append_right (by omega), i1, Nat.sub_self, hz]; rfl
      exact key len (Nat.le_refl _)
    obtain ⟨l1, l2⟩ := hlen
    have hlen47 : len ≤ 140737488351232 := by
      have h1 := hw _ (by simp only [DataW.weights, ht]; exact List.mem_cons_self)
      rw [List.length_map, List.length_range, List.length_map, List.length_range] at h1
      have h2 : len * 1 ≤ (len + (m - len)) * P.bytesOf e := Nat.mul_le_mul (Nat.le_add_right _ _) hby
      unfold reachBytes at h1
      omega
    refine ⟨(List.range len).filterMap f, some a, cap, by rw [l1], by rw [l1]; exact hl, hm, ⟨rfl, by rw [l1]; unfold maxLen at hm; omega, fun _ => ⟨a, rfl, fun j p hp => ?_⟩⟩, by rw [l1]; exact hlen47, fun z hz => ?_⟩
    · have hj : j < len := by
        have := (List.getElem?_eq_some_iff.1 hp).1
        omega
      obtain ⟨z, cs', hz, hc, hK, _⟩ := hall j hj
      have hpz : p = z := by rw [l2 j hj, hz] at hp; injection hp with hp; exact hp.symm
      subst hpz
      obtain ⟨_, hcl, hat⟩ := World.cells?_some hc
      refine ⟨cs', by rw [hcl, hsz], hK, fun i u hu => ?_⟩
      have hil := (List.getElem?_eq_some_iff.1 hu).1
      rw [← Go.Deep.add_add, ← hsz, hat i (by omega), hu]
    · obtain ⟨j, hj, he⟩ := List.getElem_of_mem hz
      rw [l1] at hj
      obtain ⟨z', cs', hz', _, _, hg⟩ := hall j hj
      have h3 := l2 j hj
      rw [List.getElem?_eq_getElem (by rw [l1]; exact hj), he, hz'] at h3
      injection h3 with h3
      rw [h3]
      exact hg
theorem opens_slice {d : Kd α} {G : α → Prop} {t e : TypeId} (ht : P.underlying t = some (.slice e)) (hsz : P.cellsOf e = d.sz) (hby : 1 ≤ P.bytesOf e) (hd : Opens enc P w base spare held d G e) : Opens enc P w base spare held (Kd.slice e d) (OkL G) t := fun fuel cs x h hw => by
  obtain ⟨y, A, c, rfl, hl, _, hC, hG⟩ := opens_C ht hsz hby hd fuel cs x h hw
  exact ⟨y, ⟨A, c, rfl, hl, hC⟩, hG⟩
theorem opensF_one {d : Kd α} {G : α → Prop} {o : Nat} {f : Field} (ho : f.offset = o) (hsz : P.cellsOf f.type = d.sz) (hd : Opens enc P w base spare held d G f.type) : OpensF enc P w base spare held d G o [f] := fun n cs hl h => by
  obtain ⟨y, hy, hw⟩ := h f (by simp)
  rw [ho, Nat.sub_self, List.drop_zero, hsz, ← hl, List.take_length] at hy
  exact hd _ _ _ hy hw
theorem opensF_pair {a : Kd α} {b : Kd β} {G : α → Prop} {K : β → Prop} {o : Nat} {f : Field} {fs : List Field} (ho : f.offset = o) (hsz : P.cellsOf f.type = a.sz) (ha : Opens enc P w base spare held a G f.type) (hfs : ∀ g ∈ fs, o + a.sz ≤ g.offset) (hb : OpensF enc P w base spare held b K (o + a.sz) fs) : OpensF enc P w base spare held (Kd.pair a b) (OkP G K) o (f :: fs) := fun n cs hl h => by
  have hl' : cs.length = a.sz + b.sz := hl
  obtain ⟨y, hy, hw⟩ := h f (by simp)
  rw [ho, Nat.sub_self, List.drop_zero, hsz] at hy
  obtain ⟨x, hx, hgx⟩ := ha _ _ _ hy hw
  obtain ⟨z, hz, hgz⟩ := hb n (cs.drop a.sz) (by rw [List.length_drop]; omega) (fun g hg => by
    obtain ⟨y, hy, hw⟩ := h g (by simp [hg])
    have := hfs g hg
    exact ⟨y, by rw [List.drop_drop, show a.sz + (g.offset - (o + a.sz)) = g.offset - o by omega]; exact hy, hw⟩)
  exact ⟨(x, z), ⟨cs.take a.sz, cs.drop a.sz, (List.take_append_drop _ _).symm, hx, hz⟩, hgx, hgz⟩
theorem opens_struct {d : Kd α} {G : α → Prop} {t : TypeId} {fs : Array Field} (f : β → α) (hf : ∀ y, ∃ x, f x = y) (ht : P.underlying t = some (.struct fs)) (hsz : P.cellsOf t = d.sz) (hd : OpensF enc P w base spare held d G 0 fs.toList) : Opens enc P w base spare held (Kd.iso d f) (fun x => G (f x)) t := fun fuel cs x h hw => by
  obtain ⟨xs, n, _, rfl, hl, hlen, hg⟩ := DataW.trod_struct ht h
  obtain ⟨y, hy, hgy⟩ := hd n cs (by rw [hl, hsz]) (fun g hg' => by
    obtain ⟨i, hi, he⟩ := List.getElem_of_mem hg'
    have h1 : fs[i]? = some g := by rw [← he]; simp at hi; simp [hi]
    have h2 := hg i g h1
    have hlt : i < xs.length := by rw [hlen]; simpa using hi
    rw [List.getElem?_eq_getElem hlt] at h2
    refine ⟨_, by rw [Nat.sub_zero]; exact h2, fun n hn => hw n ?_⟩
    simp only [DataW.weights, ht]
    exact DataW.weights_mem_each (j := i) (t := g.type) (d := xs[i].1) (by simp at hi; rw [List.getElem?_map]; simp [hi, ← he]) (by rw [List.getElem?_map, List.getElem?_eq_getElem hlt]; rfl) n hn)
  obtain ⟨x, rfl⟩ := hf y
  exact ⟨x, hy, hgy⟩
end
theorem cells_int : Tryz.prog.cellsOf 3 = 1 := by kernel_rfl
theorem cells_bool : Tryz.prog.cellsOf 4 = 1 := by kernel_rfl
theorem cells_string : Tryz.prog.cellsOf 9 = 1 := by kernel_rfl
theorem cells_path : Tryz.prog.cellsOf 23 = 3 := by kernel_rfl
theorem cells_param : Tryz.prog.cellsOf 47 = 2 := by kernel_rfl
theorem cells_params : Tryz.prog.cellsOf 24 = 1 := by kernel_rfl
theorem cells_cmd : Tryz.prog.cellsOf 26 = 6 := by kernel_rfl
theorem bytes_bool : 1 ≤ Tryz.prog.bytesOf 4 := of_decide_eq_true (by kernel_rfl)
theorem bytes_param : 1 ≤ Tryz.prog.bytesOf 47 := of_decide_eq_true (by kernel_rfl)
def kpath : Kd V.Path := Kd.iso (Kd.pair Kd.bool (Kd.pair Kd.string Kd.string)) (fun p : V.Path => (p.null, str p.loc, str p.dom))
def kcm : Kd V.Cmd := Kd.iso (Kd.pair (Kd.int .i64) (Kd.pair Kd.string (Kd.pair kpath (Kd.slice 47 kp)))) (fun c : V.Cmd => (c.kind, str c.text, c.path, c.prms))
def OkPrm (x : Prm) : Prop := OkP OkS OkS (str x.1, str x.2)
def OkPath (x : V.Path) : Prop := OkP OkA (OkP OkS OkS) (x.null, str x.loc, str x.dom)
def OkCmd (c : V.Cmd) : Prop := OkP (OkI .i64) (OkP OkS (OkP OkPath (OkL OkPrm))) (c.kind, str c.text, c.path, c.prms)
section
variable {H : Type} {enc : TypeId × Value → H} {w : World} {base : Nat} {spare : Nat → Bool} {held : Bool}
theorem opens_prm : Opens enc Tryz.prog w base spare held kp OkPrm 47 :=
  opens_struct _ (fun y => ⟨(lst y.1, lst y.2), by simp only [str_lst]⟩) Tryz.underlying47 cells_param (opensF_pair rfl cells_string (opens_string Tryz.underlying9) (by decide) (opensF_one rfl cells_string (opens_string Tryz.underlying9)))
theorem opens_path : Opens enc Tryz.prog w base spare held kpath OkPath 23 :=
  opens_struct _ (fun y => ⟨⟨y.1, lst y.2.1, lst y.2.2⟩, by simp only [str_lst]⟩) Tryz.underlying23 cells_path (opensF_pair rfl cells_bool (opens_bool Tryz.underlying4) (by decide) (opensF_pair rfl cells_string (opens_string Tryz.underlying9) (by decide) (opensF_one rfl cells_string (opens_string Tryz.underlying9))))
theorem opens_cmd : Opens enc Tryz.prog w base spare held kcm OkCmd 26 :=
  opens_struct _ (fun y => ⟨⟨y.1, lst y.2.1, y.2.2.1, y.2.2.2⟩, by simp only [str_lst]⟩) Tryz.underlying26 cells_cmd (opensF_pair rfl cells_int (opens_int Tryz.underlying3) (by decide) (opensF_pair rfl cells_string (opens_string Tryz.underlying9) (by decide) (opensF_pair rfl cells_path opens_path (by decide) (opensF_one rfl cells_params (opens_slice Tryz.underlying24 cells_param bytes_param opens_prm)))))
set_option maxRecDepth 100000 in
/-- An argument that is a path. -/
theorem open_path {r : Reach} {b0 : Nat} {v : Value} {d : DataW H} {p : List MemPlace} {ts : List TypeId} {ds : List (DataW H)} {j : Nat} (hsz : (DataW.weightsEach Tryz.prog ts ds).all (· ≤ reachBytes) = true) (hts : ts[j]? = some 23) (hds : ds[j]? = some d) (hv : Value.okWide Tryz.prog w r b0 23 v) (h : DataW.Trod enc Tryz.prog w base spare held 23 v d p) : ∃ x : V.Path, v = .agg #[.bool x.null, .string (str x.loc), .string (str x.dom)] ∧ OkPath x := by
  obtain ⟨cs, rfl, _⟩ := Go.WideShapes.okWide_struct Tryz.underlying23 hv
  obtain ⟨fuel, hf⟩ := h
  obtain ⟨y, hy, hg⟩ := opens_path _ _ _ hf (fun n hn => by simpa using List.all_eq_true.1 hsz n (DataW.weights_mem_each hts hds n hn))
  obtain ⟨_, _, e1, rfl, _, _, rfl, rfl, rfl⟩ := hy
  refine ⟨y, ?_, hg⟩
  congr 1
  apply Array.toList_inj.1
  simpa [Value.cells] using e1
set_option maxRecDepth 100000 in
/-- An argument that is a command. -/
theorem open_cmd {r : Reach} {b0 : Nat} {v : Value} {d : DataW H} {p : List MemPlace} {ts : List TypeId} {ds : List (DataW H)} {j : Nat} (hsz : (DataW.weightsEach Tryz.prog ts ds).all (· ≤ reachBytes) = true) (hts : ts[j]? = some 26) (hds : ds[j]? = some d) (hv : Value.okWide Tryz.prog w r b0 26 v) (h : DataW.Trod enc Tryz.prog w base spare held 26 v d p) : ∃ (c : V.Cmd) (A : Option Addr) (q : Nat), v = cagg c A q ∧ Kd.C kp w A c.prms.length c.prms ∧ OkCmd c := by
  obtain ⟨cs, rfl, _⟩ := Go.WideShapes.okWide_struct Tryz.underlying26 hv
  obtain ⟨fuel, hf⟩ := h
  obtain ⟨y, hy, hg⟩ := opens_cmd _ _ _ hf (fun n hn => by simpa using List.all_eq_true.1 hsz n (DataW.weights_mem_each hts hds n hn))
  obtain ⟨_, _, e1, rfl, _, _, rfl, rfl, _, _, rfl, ⟨_, _, rfl, rfl, _, _, rfl, rfl, rfl⟩, A, q, rfl, _, hC⟩ := hy
  refine ⟨y, A, q, ?_, hC, hg⟩
  unfold cagg
  congr 1
  apply Array.toList_inj.1
  simpa [Value.cells] using e1
end
end Go.Proofs.YteiknmcmaemcoaaGreatDoor
/- (ZD) The reference's Domain answers as path's, in plain Lean. -/
namespace Go.Proofs.YteiknmcmaemcoaaGreatDoor
open Go.RowKit Go.Proofs.YteiknmcmaemcoaaGreatDoorW.PrintWords Go.Proofs.YteiknmcmaemcoaaGreatDoor.PVerbExact
set_option linter.unusedVariables false
set_option linter.unusedSimpArgs false
theorem bt_lst (s : ByteArray) (i : Nat) : bt s (i : Int) = (((lst s).getD i 0).toNat : Int) := by
  unfold bt
  simp only [Int.toNat_natCast]
  by_cases h : i < s.size
  · rw [dif_pos h]
    have : (lst s)[i]? = some (s.data[i]'h) := by rw [lst, Array.getElem?_toList, Array.getElem?_eq_getElem h]
    rw [List.getD_eq_getElem?_getD, this]
    rfl
  · rw [dif_neg h, List.getD_eq_getElem?_getD, List.getElem?_eq_none (by rw [lst_length]; omega)]
    rfl
def isLet (c : UInt8) : Bool := decide (97 ≤ c ∧ c ≤ 122) || decide (65 ≤ c ∧ c ≤ 90)
def isDig (c : UInt8) : Bool := decide (48 ≤ c ∧ c ≤ 57)
theorem letter_f (c : UInt8) : wherryref11_letter.f (c.toNat : Int) = some (isLet c) := by
  have h : ∀ n : Nat, n < 256 → wherryref11_letter.f (n : Int) = some (isLet (UInt8.ofNat n)) := by decide +kernel
  have := h c.toNat c.toNat_lt
  simpa using this
theorem digit_f (c : UInt8) : wherryref11_digit.f (c.toNat : Int) = some (isDig c) := by
  have h : ∀ n : Nat, n < 256 → wherryref11_digit.f (n : Int) = some (isDig (UInt8.ofNat n)) := by decide +kernel
  have := h c.toNat c.toNat_lt
  simpa using this
theorem plain_let (c : UInt8) : V.isPlain c = (isLet c || isDig c) := by
  simp [V.isPlain, isLet, isDig]
def okL (c : UInt8) : Bool := V.isPlain c || c == 45
theorem eq45 (c : UInt8) : decide ((c.toNat : Int) = 45) = (c == 45) := by
  rw [Bool.eq_iff_iff]; simp; constructor
  · intro h; apply UInt8.toNat_inj.1; simpa using (by omega : c.toNat = 45)
  · rintro rfl; rfl
theorem eq46 (c : UInt8) : decide ((c.toNat : Int) = 46) = (c == 46) := by
  rw [Bool.eq_iff_iff]; simp; constructor
  · intro h; apply UInt8.toNat_inj.1; simpa using (by omega : c.toNat = 46)
  · rintro rfl; rfl
theorem splitOn_none (c : UInt8) : ∀ a : V.Bs, (∀ x ∈ a, x ≠ c) → V.splitOn c a = [a]
  | [], _ => rfl
  | x :: a, h => by
    unfold V.splitOn
    rw [if_neg (h x (by simp)), splitOn_none c a (fun y hy => h y (by simp [hy]))]
theorem splitOn_app (c : UInt8) (r : V.Bs) : ∀ a : V.Bs, (∀ x ∈ a, x ≠ c) → V.splitOn c (a ++ c :: r) = a :: V.splitOn c r
  | [], _ => by simp [V.splitOn]
  | x :: a, h => by
    rw [List.cons_append]
    rw [V.splitOn, if_neg (h x (by simp)), splitOn_app c r a (fun y hy => h y (by simp [hy]))]
/-- A sign that no label has spoils the piece that it stands in. -/
theorem splitOn_bad (p : UInt8 → Bool) (c y : UInt8) (r : V.Bs) (hy : p y = false) (hyc : y ≠ c) : ∀ a : V.Bs, (∀ x ∈ a, x ≠ c) → ∃ b t, V.splitOn c (a ++ y :: r) = b :: t ∧ b.all p = false
  | [], _ => by
    simp only [List.nil_append]
    unfold V.splitOn
    rw [if_neg hyc]
    cases h : V.splitOn c r with
    | nil => exact ⟨[y], [], rfl, by simp [hy]⟩
    | cons a t => exact ⟨y :: a, t, rfl, by simp [hy]⟩
  | x :: a, h => by
    obtain ⟨b, t, e, hb⟩ := splitOn_bad p c y r hy hyc a (fun z hz => h z (by simp [hz]))
    rw [List.cons_append, V.splitOn, if_neg (h x (by simp)), e]
    exact ⟨x :: b, t, rfl, by simp [hb]⟩
theorem okL_dot : okL 46 = false := by decide
theorem label_okL (l : V.Bs) : V.label l = (l.all okL && !l.isEmpty && decide (l.length ≤ 63) && l.head? != some 45 && l.getLast? != some 45) := rfl
theorem wrap_small (x : Int) (h0 : -1000 ≤ x) (h1 : x ≤ 1000) : wrap64 x = x := by unfold wrap64; omega
theorem in_f (a b c : Int) : wherryref11_in.f a b c = some (decide (b ≤ a ∧ a ≤ c)) := by
  unfold wherryref11_in.f
  split
  · rename_i h; simp; omega
  · rename_i h; simp; omega
theorem dom_seg (l : V.Bs) (fr i : Nat) (hf : fr ≤ i) (hi : i ≤ l.length) : l.drop fr = (l.drop fr).take (i - fr) ++ l.drop i := by
  have e : l.drop i = (l.drop fr).drop (i - fr) := by rw [List.drop_drop]; congr 1; omega
  rw [e, List.take_append_drop]
theorem seg_len (l : V.Bs) (fr i : Nat) (hf : fr ≤ i) (hi : i ≤ l.length) : ((l.drop fr).take (i - fr)).length = i - fr := by simp; omega
theorem seg_head (l : V.Bs) (fr i : Nat) (hf : fr < i) (hi : i ≤ l.length) : ((l.drop fr).take (i - fr)).head? = some (l.getD fr 0) := by
  rw [List.head?_eq_getElem?, List.getElem?_take, if_pos (by omega), List.getElem?_drop, List.getD_eq_getElem?_getD, Nat.add_zero, List.getElem?_eq_getElem (by omega)]
  rfl
theorem seg_last (l : V.Bs) (fr i : Nat) (hf : fr < i) (hi : i ≤ l.length) : ((l.drop fr).take (i - fr)).getLast? = some (l.getD (i - 1) 0) := by
  rw [List.getLast?_eq_getElem?, seg_len l fr i (by omega) hi, List.getElem?_take, if_pos (by omega), List.getElem?_drop, List.getD_eq_getElem?_getD, show fr + (i - fr - 1) = i - 1 by omega, List.getElem?_eq_getElem (by omega)]
  rfl
theorem seg_label (l : V.Bs) (fr i : Nat) (hf : fr ≤ i) (hi : i ≤ l.length) (hok : ∀ x ∈ (l.drop fr).take (i - fr), okL x = true) :
    V.label ((l.drop fr).take (i - fr)) = (decide (1 ≤ i - fr ∧ i - fr ≤ 63) && !(l.getD fr 0 == 45) && !(l.getD (i - 1) 0 == 45)) := by
  rw [label_okL, List.all_eq_true.2 hok, seg_len l fr i hf hi]
  by_cases h : fr < i
  · rw [seg_head l fr i h hi, seg_last l fr i h hi]
    have hne : ((l.drop fr).take (i - fr)).isEmpty = false := by
      have := seg_len l fr i hf hi
      cases e : (l.drop fr).take (i - fr) with
      | nil => rw [e] at this; simp at this; omega
      | cons a b => rfl
    rw [hne]
    have h1 : decide (1 ≤ i - fr ∧ i - fr ≤ 63) = decide (i - fr ≤ 63) := by
      rw [Bool.eq_iff_iff]; simp; omega
    rw [h1]
    simp [bne]
  · have e : i - fr = 0 := by omega
    rw [e]
    simp
set_option maxHeartbeats 1000000 in
/-- One piece's end. -/
theorem dom_end (s : ByteArray) (hs : s.size ≤ 600) (i fr k : Nat) (hi : i ≤ s.size) (hf : fr ≤ i) (hok : ∀ x ∈ ((lst s).drop fr).take (i - fr), okL x = true) (R : Option Bool)
    (hR : wherryref11_Domain.l0 k s ((i + 1 : Nat) : Int) ((i + 1 : Nat) : Int) = R) :
    wherryref11_Domain.j1 (k + 1) s (fr : Int) (i : Int) false = if V.label (((lst s).drop fr).take (i - fr)) = true then R else some false := by
  have hl : (lst s).length = s.size := lst_length s
  rw [seg_label (lst s) fr i hf (by omega) hok]
  unfold wherryref11_Domain.j1
  rw [if_neg (by decide), in_f, wrap_small _ (by omega) (by omega), wrap_small _ (by omega) (by omega)]
  simp only [Option.bind_some, decide_eq_true_eq]
  by_cases h1 : 1 ≤ i - fr ∧ i - fr ≤ 63
  · rw [if_pos (by omega), if_pos (by omega), if_pos (by omega), bt_lst]
    have e1 : ((i : Int) - 1) = ((i - 1 : Nat) : Int) := by omega
    have e2 := eq45 ((lst s).getD fr 0)
    have e3 := eq45 ((lst s).getD (i - 1) 0)
    have e4 : ((i : Int) + 1) = ((i + 1 : Nat) : Int) := by omega
    rw [decide_eq_true h1]
    by_cases h2 : (((lst s).getD fr 0).toNat : Int) = 45
    · rw [if_pos h2, ← e2, decide_eq_true h2]; rfl
    · rw [if_neg h2, ← e2, decide_eq_false h2]
      rw [e1, if_pos (by omega), if_pos (by omega), bt_lst, wrap_small _ (by omega) (by omega), e4, hR]
      by_cases h3 : (((lst s).getD (i - 1) 0).toNat : Int) = 45
      · rw [if_pos h3, ← e3, decide_eq_true h3]; rfl
      · rw [if_neg h3, ← e3, decide_eq_false h3]; rfl
  · rw [if_neg (by omega), decide_eq_false h1]; rfl
theorem no_dot {l : V.Bs} (h : ∀ x ∈ l, okL x = true) : ∀ x ∈ l, x ≠ 46 := by
  rintro x hx rfl
  have := h _ hx
  rw [okL_dot] at this
  cases this
set_option maxHeartbeats 1000000 in
theorem dom_loop (s : ByteArray) (hs : s.size ≤ 600) : ∀ (m i fr k : Nat), s.size - i = m → i ≤ s.size → fr ≤ i → (∀ x ∈ ((lst s).drop fr).take (i - fr), okL x = true) →
    wherryref11_Domain.l0 (3 * m + 5 + k) s (fr : Int) (i : Int) = some ((V.splitOn 46 ((lst s).drop fr)).all V.label) := by
  have hl : (lst s).length = s.size := lst_length s
  intro m
  induction m with
  | zero =>
    intro i fr k hm hi hf hok
    have hin : i = s.size := by omega
    rw [show 3 * 0 + 5 + k = (k + 3) + 1 + 1 by omega]
    unfold wherryref11_Domain.l0
    rw [if_pos (by omega), if_neg (by omega), dom_end s hs i fr (k + 3) hi hf hok (some true) (by unfold wherryref11_Domain.l0; rw [if_neg (by omega)])]
    have e : (lst s).drop fr = ((lst s).drop fr).take (i - fr) := by
      rw [List.take_of_length_le (by simp; omega)]
    have e2 := splitOn_none 46 _ (no_dot hok)
    rw [← e] at e2 ⊢
    rw [e2]
    simp only [List.all_cons, List.all_nil, Bool.and_true]
    cases V.label ((lst s).drop fr) <;> rfl
  | succ m ih =>
    intro i fr k hm hi hf hok
    have hlt : i < s.size := by omega
    rw [show 3 * (m + 1) + 5 + k = (3 * m + 5 + k) + 1 + 1 + 1 by omega]
    rw [wherryref11_Domain.l0]
    rw [if_pos (by omega), if_pos (by omega), if_pos (by omega), bt_lst]
    obtain ⟨c, hc⟩ : ∃ c, c = (lst s).getD i 0 := ⟨_, rfl⟩
    rw [← hc]
    have hd : (lst s).drop i = c :: (lst s).drop (i + 1) := by
      rw [List.drop_eq_getElem_cons (by omega), hc, List.getD_eq_getElem?_getD, List.getElem?_eq_getElem (by omega)]; rfl
    have hseg := dom_seg (lst s) fr i hf (by omega)
    rw [hd] at hseg
    by_cases h46 : c = 46
    · subst h46
      have e : (((46 : UInt8).toNat : Int) != 46) = false := by decide
      rw [e, dom_end s hs i fr (3 * m + 5 + k + 1) (by omega) hf hok (some ((V.splitOn 46 ((lst s).drop (i + 1))).all V.label)) (by
        rw [show 3 * m + 5 + k + 1 = 3 * m + 5 + (k + 1) by omega]
        exact ih (i + 1) (i + 1) (k + 1) (by omega) (by omega) (by omega) (by rw [Nat.sub_self]; simp))]
      rw [hseg, splitOn_app 46 _ _ (no_dot hok), ← hseg]
      simp only [List.all_cons]
      cases V.label (((lst s).drop fr).take (i - fr)) <;> rfl
    · have e : ((c.toNat : Int) != 46) = true := by
        have := eq46 c
        rw [show (c == 46) = false by simpa using h46] at this
        simp at this
        simpa using this
      rw [e, wherryref11_Domain.j1, if_pos rfl, if_pos (by omega), if_pos (by omega), bt_lst, ← hc, letter_f, digit_f]
      have hgo : okL c = true → wherryref11_Domain.j2 (3 * m + 5 + k + 1) s (fr : Int) (i : Int) false = some ((V.splitOn 46 ((lst s).drop fr)).all V.label) := by
        intro hok'
        rw [wherryref11_Domain.j2, if_neg (by decide), wrap_small _ (by omega) (by omega)]
        exact ih (i + 1) fr k (by omega) (by omega) (by omega) (by
          intro x hx
          have e3 : ((lst s).drop fr).take (i + 1 - fr) = ((lst s).drop fr).take (i - fr) ++ [c] := by
            rw [show i + 1 - fr = (i - fr) + 1 by omega, List.take_add_one, List.getElem?_drop, show fr + (i - fr) = i by omega, List.getElem?_eq_getElem (by omega)]
            simp only [Option.toList_some]
            rw [hc, List.getD_eq_getElem?_getD, List.getElem?_eq_getElem (by omega)]
            rfl
          rw [e3] at hx
          rcases List.mem_append.1 hx with hx | hx
          · exact hok x hx
          · simp at hx; rw [hx]; exact hok')
      simp only [Option.bind_some]
      by_cases h1 : isLet c = true
      · rw [if_pos h1]
        exact hgo (by unfold okL; rw [plain_let, h1]; rfl)
      · rw [if_neg h1]
        by_cases h2 : isDig c = true
        · rw [if_pos h2]
          exact hgo (by unfold okL; rw [plain_let, h2]; simp)
        · rw [if_neg h2]
          by_cases h3 : c = 45
          · have e4 : ((c.toNat : Int) != 45) = false := by rw [h3]; decide
            rw [e4]
            exact hgo (by rw [h3]; decide)
          · have e4 : ((c.toNat : Int) != 45) = true := by
              have := eq45 c
              rw [show (c == 45) = false by simpa using h3] at this
              simp at this
              simpa using this
            rw [e4, wherryref11_Domain.j2, if_pos rfl]
            have hbad : okL c = false := by
              unfold okL
              rw [plain_let]
              simp at h1 h2
              rw [h1, h2, show (c == 45) = false by simpa using h3]
              rfl
            obtain ⟨b, t, eb, hb⟩ := splitOn_bad okL 46 c ((lst s).drop (i + 1)) hbad h46 _ (no_dot hok)
            rw [hseg, eb]
            simp only [List.all_cons]
            rw [label_okL, hb]
            rfl
theorem ref_domain2 (s : ByteArray) (hs : s.size ≤ 600) (k : Nat) (hk : 3 * s.size + 5 ≤ k) : wherryref11_Domain.f k s = some (V.domain (lst s)) := by
  obtain ⟨d, rfl⟩ : ∃ d, k = 3 * s.size + 5 + d := ⟨k - (3 * s.size + 5), by omega⟩
  unfold wherryref11_Domain.f
  rw [in_f]
  simp only [Option.bind_some, decide_eq_true_eq]
  unfold V.domain V.parts
  rw [lst_length]
  have hk := dom_loop s hs s.size 0 0 d (by omega) (by omega) (by omega) (by simp)
  rw [List.drop_zero] at hk
  by_cases h : s.size = 0
  · have : lst s = [] := List.eq_nil_of_length_eq_zero (by rw [lst_length]; exact h)
    rw [this, if_neg (by omega), show (V.splitOn 46 []).all V.label = false from by decide, Bool.and_false]
  · by_cases h2 : s.size ≤ 255
    · rw [if_pos (by omega), decide_eq_true h2]
      exact hk
    · rw [if_neg (by omega), decide_eq_false h2]; rfl
end Go.Proofs.YteiknmcmaemcoaaGreatDoor
/- (ZD) The reference's words answer as the program's, in plain Lean: Fold, first, among, begins, sign, mechanism. -/
namespace Go.Proofs.YteiknmcmaemcoaaGreatDoor
open Go.RowKit Go.Proofs.YteiknmcmaemcoaaGreatDoorW.PrintWords Go.Proofs.YteiknmcmaemcoaaGreatDoor.PVerbExact
set_option linter.unusedVariables false
set_option linter.unusedSimpArgs false
theorem ext_take (s : ByteArray) (n : Nat) : s.extract 0 n = str ((lst s).take n) := by
  rw [← str_lst (s.extract 0 n)]
  congr 1
  simp [lst, ByteArray.data_extract]
theorem ext_drop (s : ByteArray) (n : Nat) : s.extract n s.size = str ((lst s).drop n) := by
  rw [← str_lst (s.extract n s.size)]
  congr 1
  have hl := lst_length s
  unfold lst at hl
  simp [lst, ByteArray.data_extract]
  rw [List.take_of_length_le]
  simp
theorem ext_mid (s : ByteArray) (i j : Nat) : s.extract i j = str (((lst s).drop i).take (j - i)) := by
  rw [← str_lst (s.extract i j)]
  congr 1
  simp [lst, ByteArray.data_extract]
theorem nums_str (l : V.Bs) : strOfNums (l.map fun c => (c.toNat : Int)) = str l := by
  simp only [strOfNums, str]
  rw [List.map_map]
  have e2 : ((fun n : Int => UInt8.ofNat n.toNat) ∘ fun c : UInt8 => (c.toNat : Int)) = id := by
    funext c; simp
  first
  | rw [e2, List.map_id]
  | (congr 1; simp)
theorem toList_lst (s : ByteArray) : s.toList = lst s := ByteArray.toList_eq s
theorem low_nat (c : UInt8) : ((V.low c).toNat : Int) = if (c.toNat : Int) ≥ 65 then (if (c.toNat : Int) ≤ 90 then ((c.toNat : Int) + 32) % 256 else c.toNat) else c.toNat := by
  have h : ∀ n : Nat, n < 256 → ((V.low (UInt8.ofNat n)).toNat : Int) = if (n : Int) ≥ 65 then (if (n : Int) ≤ 90 then ((n : Int) + 32) % 256 else n) else n := by decide +kernel
  have e := h c.toNat c.toNat_lt
  rw [UInt8.ofNat_toNat] at e
  exact e
theorem wrap_sm (x : Int) (h0 : -100000 ≤ x) (h1 : x ≤ 100000) : wrap64 x = x := by unfold wrap64; omega
theorem getD_at (l : V.Bs) (i : Nat) (h : i < l.length) : l.take (i + 1) = l.take i ++ [l.getD i 0] := by
  rw [List.take_succ_eq_append_getElem h]; simp [List.getD_eq_getElem?_getD, h]
theorem fold_l0 (s : ByteArray) (hs : s.size ≤ 10000) : ∀ (m i k : Nat), s.size - i = m → i ≤ s.size → m + 1 ≤ k →
    wherryref11_Fold.l0 k s ((V.fold ((lst s).take i)).map fun c => (c.toNat : Int)) (i : Int) = some (str (V.fold (lst s)))
  | m, i, 0, hm, hi, hk => by omega
  | 0, i, k + 1, hm, hi, hk => by
    have e : i = s.size := by omega
    unfold wherryref11_Fold.l0
    rw [if_neg (by omega), nums_str, List.take_of_length_le (by rw [lst_length]; omega)]
  | m + 1, i, k + 1, hm, hi, hk => by
    have hlt : i < (lst s).length := by rw [lst_length]; omega
    have ih := fold_l0 s hs m (i + 1) k (by omega) (by omega) (by omega)
    have hlen : ((V.fold ((lst s).take i)).map fun c => (c.toNat : Int)).length < 140737488355328 := by
      unfold V.fold
      rw [List.length_map, List.length_map, List.length_take, lst_length]
      omega
    have e1 : (V.fold ((lst s).take (i + 1))).map (fun c => (c.toNat : Int)) = ((V.fold ((lst s).take i)).map fun c => (c.toNat : Int)) ++ [((V.low ((lst s).getD i 0)).toNat : Int)] := by
      rw [getD_at _ _ hlt]
      unfold V.fold
      rw [List.map_append, List.map_append]
      rfl
    rw [e1, low_nat] at ih
    rw [show ((i + 1 : Nat) : Int) = (i : Int) + 1 by omega] at ih
    unfold wherryref11_Fold.l0
    rw [if_pos (by omega), if_pos (by omega), bt_lst, wrap_sm _ (by omega) (by omega)]
    by_cases h1 : (((lst s).getD i 0).toNat : Int) ≥ 65
    · rw [if_pos h1]
      rw [if_pos h1] at ih
      by_cases h2 : (((lst s).getD i 0).toNat : Int) ≤ 90
      · rw [if_pos h2, if_pos hlen]
        rw [if_pos h2] at ih
        exact ih
      · rw [if_neg h2, if_pos hlen]
        rw [if_neg h2] at ih
        exact ih
    · rw [if_neg h1, if_pos hlen]
      rw [if_neg h1] at ih
      exact ih
theorem ref_fold (s : ByteArray) (hs : s.size ≤ 10000) (k : Nat) (hk : s.size + 1 ≤ k) : wherryref11_Fold.f k s = some (str (V.fold (lst s))) := by
  unfold wherryref11_Fold.f
  exact fold_l0 s hs s.size 0 k (by omega) (by omega) (by omega)
theorem cut_take (c : UInt8) : ∀ (l : V.Bs) (i : Nat), i < l.length → l.getD i 0 = c → (∀ j, j < i → l.getD j 0 ≠ c) → V.cutAt c l = some (l.take i, l.drop (i + 1))
  | [], i, h, _, _ => by simp at h
  | x :: l, 0, _, h, _ => by
    have hx : x = c := h
    simp [V.cutAt, hx]
  | x :: l, i + 1, hi, h, hn => by
    have hx : x ≠ c := hn 0 (by omega)
    unfold V.cutAt
    rw [if_neg hx, cut_take c l i (by simpa using hi) (by simpa using h) (fun j hj => by simpa using hn (j + 1) (by omega))]
    rfl
theorem cut_no (c : UInt8) (l : V.Bs) (h : ∀ j, j < l.length → l.getD j 0 ≠ c) : V.cutAt c l = none := by
  rw [V.cutAt_none]
  intro hm
  obtain ⟨j, hj, e⟩ := List.getElem_of_mem hm
  refine h j hj ?_
  rw [List.getD_eq_getElem?_getD, List.getElem?_eq_getElem hj]
  exact e
theorem eqInt (c d : UInt8) (n : Int) (hn : n = (d.toNat : Int)) : ((c.toNat : Int) = n) ↔ c = d := by
  subst hn
  constructor
  · intro h
    apply UInt8.toNat_inj.1
    omega
  · rintro rfl
    rfl
theorem first_l0 (s : ByteArray) (hs : s.size ≤ 10000) : ∀ (m i k : Nat), s.size - i = m → i ≤ s.size → m + s.size + 3 ≤ k → (∀ j, j < i → (lst s).getD j 0 ≠ 32) →
    wherryref11_first.l0 k s (i : Int) = some (str (V.fold (V.first (lst s))))
  | m, i, 0, hm, hi, hk, hn => by omega
  | 0, i, k + 1, hm, hi, hk, hn => by
    have e : i = s.size := by omega
    unfold wherryref11_first.l0
    rw [if_neg (by omega), ref_fold s hs k (by omega)]
    unfold V.first
    rw [cut_no 32 (lst s) (fun j hj => hn j (by rw [lst_length] at hj; omega))]
    rfl
  | m + 1, i, k + 1, hm, hi, hk, hn => by
    have hlt : i < (lst s).length := by rw [lst_length]; omega
    unfold wherryref11_first.l0
    rw [if_pos (by omega), if_pos (by omega), bt_lst]
    by_cases h : (lst s).getD i 0 = 32
    · rw [if_pos ((eqInt _ 32 32 rfl).2 h), if_pos (by omega), show ((i : Int)).toNat = i by omega, ext_take, ref_fold _ (by rw [str_size, List.length_take]; omega) k (by rw [str_size, List.length_take]; omega), lst_str]
      unfold V.first
      rw [cut_take 32 (lst s) i hlt h hn]
      rfl
    · rw [if_neg (fun e => h ((eqInt _ 32 32 rfl).1 e)), wrap_sm _ (by omega) (by omega)]
      exact first_l0 s hs m (i + 1) k (by omega) (by omega) (by omega) (fun j hj => by
        by_cases hji : j = i
        · rw [hji]; exact h
        · exact hn j (by omega))
theorem ref_first (s : ByteArray) (hs : s.size ≤ 10000) (k : Nat) (hk : 2 * s.size + 3 ≤ k) : wherryref11_first.f k s = some (str (V.fold (V.first (lst s)))) := by
  unfold wherryref11_first.f
  exact first_l0 s hs s.size 0 k (by omega) (by omega) (by omega) (fun j hj => by omega)
theorem among_l0 (s : ByteArray) (L : List ByteArray) (hL : L.length ≤ 100) : ∀ (m i k : Nat), L.length - i = m → i ≤ L.length → m + 1 ≤ k →
    wherryref11_among.l0 k s L (i : Int) = some ((L.drop i).any fun x => decide (lst x = lst s))
  | m, i, 0, hm, hi, hk => by omega
  | 0, i, k + 1, hm, hi, hk => by
    unfold wherryref11_among.l0
    rw [if_neg (by omega), List.drop_of_length_le (by omega)]
    rfl
  | m + 1, i, k + 1, hm, hi, hk => by
    have hlt : i < L.length := by omega
    have e : L.drop i = L[i] :: L.drop (i + 1) := List.drop_eq_getElem_cons hlt
    have er : rdOf ByteArray.empty L (i : Int) = L[i] := by
      unfold rdOf
      simp [List.getD_eq_getElem?_getD, hlt]
    unfold wherryref11_among.l0
    rw [if_pos (by omega), if_pos (by omega), er, toList_lst, toList_lst, e, List.any_cons]
    by_cases h : lst L[i] = lst s
    · rw [if_pos h, decide_eq_true h]; rfl
    · rw [if_neg h, decide_eq_false h, wrap_sm _ (by omega) (by omega), Bool.false_or]
      exact among_l0 s L hL m (i + 1) k (by omega) (by omega) (by omega)
theorem ref_among (s : ByteArray) (L : List ByteArray) (hL : L.length ≤ 100) (k : Nat) (hk : L.length + 1 ≤ k) : wherryref11_among.f k s L = some (L.any fun x => decide (lst x = lst s)) := by
  unfold wherryref11_among.f
  exact among_l0 s L hL L.length 0 k (by omega) (by omega) (by omega)
/-- What begins answers, for a beginning in small letters. -/
def begRes (o : Option V.Bs) : ByteArray × Bool := match o with
  | some r => (str r, true)
  | none => (⟨#[]⟩, false)
theorem ref_begins (s b : ByteArray) (hs : s.size ≤ 10000) (hb : V.fold (lst b) = lst b) (k : Nat) (hk : s.size + 1 ≤ k) : wherryref11_begins.f k s b = some (begRes (V.after (lst s) (lst b))) := by
  unfold wherryref11_begins.f V.after
  rw [lst_length, lst_length, hb]
  by_cases h : s.size < b.size
  · rw [if_pos (by omega), if_neg (fun e => by omega)]
    rfl
  · rw [if_neg (by omega), if_pos (by omega), if_pos (by omega), ext_take, ref_fold _ (by rw [str_size, List.length_take, lst_length]; omega) k (by rw [str_size, List.length_take, lst_length]; omega), lst_str]
    show (if (str (V.fold ((lst s).take b.size))).toList = b.toList then _ else _) = _
    rw [toList_lst, toList_lst, lst_str]
    by_cases h2 : V.fold ((lst s).take b.size) = lst b
    · rw [if_pos h2, if_pos ⟨by omega, h2⟩, ext_drop]
      rfl
    · rw [if_neg h2, if_neg (fun e => h2 e.2)]
      rfl
theorem ref_sign (c : UInt8) (k : Nat) (hk : 30 ≤ k) : wherryref11_sign.f k (c.toNat : Int) = some (V.isPlain c || V.marks.contains c) := by
  have h : ∀ n : Nat, n < 256 → wherryref11_sign.f 30 (n : Int) = some (V.isPlain (UInt8.ofNat n) || V.marks.contains (UInt8.ofNat n)) := by decide +kernel
  have e := h c.toNat c.toNat_lt
  rw [UInt8.ofNat_toNat] at e
  obtain ⟨d, rfl⟩ : ∃ d, k = 30 + d := ⟨k - 30, by omega⟩
  clear hk
  induction d with
  | zero => exact e
  | succ d ih => exact wherryref11_sign.mono (c.toNat : Int) (30 + d) _ ih
end Go.Proofs.YteiknmcmaemcoaaGreatDoor
/- (ZD) The reference's Local and Path answer as path's, in plain Lean. -/
namespace Go.Proofs.YteiknmcmaemcoaaGreatDoor
open Go.RowKit Go.Proofs.YteiknmcmaemcoaaGreatDoorW.PrintWords Go.Proofs.YteiknmcmaemcoaaGreatDoor.PVerbExact
set_option linter.unusedVariables false
set_option linter.unusedSimpArgs false
def sgn (c : UInt8) : Bool := V.isPlain c || V.marks.contains c
theorem atom_sgn (l : V.Bs) : V.atom l = (l.all sgn && !l.isEmpty) := rfl
theorem sgn_dot : sgn 46 = false := by decide
/-- All pieces are atoms. -/
def allN (l : V.Bs) : Bool := (V.splitOn 46 l).all V.atom
/-- Likewise, the first piece having begun. -/
def allE (l : V.Bs) : Bool := match V.splitOn 46 l with
  | [] => true
  | h :: t => h.all sgn && t.all V.atom
theorem allN_nil : allN [] = false := by decide
theorem allE_nil : allE [] = true := by decide
theorem allN_dot (l : V.Bs) : allN (46 :: l) = false := by
  unfold allN V.splitOn
  rw [if_pos rfl]
  rfl
theorem allE_dot (l : V.Bs) : allE (46 :: l) = allN l := by
  unfold allE allN
  rw [V.splitOn, if_pos rfl]
  rfl
theorem allN_cons (x : UInt8) (l : V.Bs) (h : x ≠ 46) : allN (x :: l) = (sgn x && allE l) := by
  unfold allN allE
  rw [V.splitOn, if_neg h]
  cases hs : V.splitOn 46 l with
  | nil => exact absurd hs (V.splitOn_ne 46 l)
  | cons a t =>
    simp only [List.all_cons, atom_sgn]
    simp [Bool.and_assoc]
theorem allE_cons (x : UInt8) (l : V.Bs) (h : x ≠ 46) : allE (x :: l) = (sgn x && allE l) := by
  unfold allE
  rw [V.splitOn, if_neg h]
  cases hs : V.splitOn 46 l with
  | nil => exact absurd hs (V.splitOn_ne 46 l)
  | cons a t =>
    simp only [List.all_cons]
    rw [Bool.and_assoc]
theorem all_last : ∀ l : V.Bs, l.getLast? = some 46 → allN l = false ∧ allE l = false
  | [], h => by cases h
  | [x], h => by
    have : x = 46 := by simpa using h
    subst this
    exact ⟨allN_dot _, by rw [allE_dot]; exact allN_nil⟩
  | x :: y :: l, h => by
    obtain ⟨h1, h2⟩ := all_last (y :: l) (by rw [← h]; rfl)
    by_cases hx : x = 46
    · subst hx
      exact ⟨allN_dot _, by rw [allE_dot]; exact h1⟩
    · exact ⟨by rw [allN_cons _ _ hx, h2, Bool.and_false], by rw [allE_cons _ _ hx, h2, Bool.and_false]⟩
/-- The loop of Local, as it goes. -/
def lgo (p : UInt8) : V.Bs → Bool
  | [] => true
  | x :: l => if x = 46 then (if p = 46 then false else lgo 46 l) else (sgn x && lgo x l)
theorem lgo_all : ∀ (l : V.Bs) (p : UInt8), l.getLast? ≠ some 46 → (p ≠ 46 → lgo p l = allE l) ∧ (l ≠ [] → lgo 46 l = allN l)
  | [], p, _ => ⟨fun _ => rfl, fun h => absurd rfl h⟩
  | x :: l, p, h => by
    have hl : l ≠ [] → l.getLast? ≠ some 46 := by
      intro hne
      cases l with
      | nil => exact absurd rfl hne
      | cons y l => intro e; exact h (by rw [← e]; rfl)
    have hl2 : l.getLast? ≠ some 46 := by
      cases l with
      | nil => intro e; cases e
      | cons y l => exact hl (by simp)
    constructor
    · intro hp
      unfold lgo
      by_cases hx : x = 46
      · subst hx
        have hne : l ≠ [] := by rintro rfl; exact h rfl
        rw [if_pos rfl, if_neg hp, allE_dot]
        exact (lgo_all l 46 hl2).2 hne
      · rw [if_neg hx, allE_cons _ _ hx, (lgo_all l x hl2).1 hx]
    · intro _
      unfold lgo
      by_cases hx : x = 46
      · subst hx
        rw [if_pos rfl, if_pos rfl, allN_dot]
      · rw [if_neg hx, allN_cons _ _ hx, (lgo_all l x hl2).1 hx]
theorem drop_getD (l : V.Bs) (i : Nat) (h : i < l.length) : l.drop i = l.getD i 0 :: l.drop (i + 1) := by
  rw [List.drop_eq_getElem_cons h, List.getD_eq_getElem?_getD, List.getElem?_eq_getElem h]; rfl
theorem local_l0 (s : ByteArray) (hs : s.size ≤ 600) (h0 : (lst s).getD 0 0 ≠ 46) : ∀ (m i k : Nat), s.size - i = m → i ≤ s.size → m + 31 ≤ k →
    wherryref11_Local.l0 k s (i : Int) = some (lgo (if i = 0 then 0 else (lst s).getD (i - 1) 0) ((lst s).drop i))
  | m, i, 0, hm, hi, hk => by omega
  | 0, i, k + 1, hm, hi, hk => by
    unfold wherryref11_Local.l0
    rw [if_neg (by omega), List.drop_of_length_le (by rw [lst_length]; omega)]
    rfl
  | m + 1, i, k + 1, hm, hi, hk => by
    have hlt : i < (lst s).length := by rw [lst_length]; omega
    have ih := local_l0 s hs h0 m (i + 1) k (by omega) (by omega) (by omega)
    rw [if_neg (by omega), show i + 1 - 1 = i by omega, show ((i + 1 : Nat) : Int) = (i : Int) + 1 by omega] at ih
    unfold wherryref11_Local.l0
    rw [if_pos (by omega), if_pos (by omega), bt_lst, drop_getD _ _ hlt, lgo]
    rw [wrap_sm ((i : Int) + 1) (by omega) (by omega), ih]
    by_cases h : (lst s).getD i 0 = 46
    · have hi0 : i ≠ 0 := by rintro rfl; exact h0 h
      rw [if_pos ((eqInt _ 46 46 rfl).2 h), if_pos h, if_neg hi0, wrap_sm _ (by omega) (by omega), if_pos (by omega), if_pos (by omega), show ((i : Int) - 1) = ((i - 1 : Nat) : Int) by omega, bt_lst]
      by_cases h2 : (lst s).getD (i - 1) 0 = 46
      · rw [if_pos ((eqInt _ 46 46 rfl).2 h2), if_pos h2]
      · rw [if_neg (fun e => h2 ((eqInt _ 46 46 rfl).1 e)), if_neg h2, h]
    · rw [if_neg (fun e => h ((eqInt _ 46 46 rfl).1 e)), if_neg h, ref_sign _ k (by omega)]
      show (if sgn ((lst s).getD i 0) = true then _ else _) = _
      cases sgn ((lst s).getD i 0) <;> rfl
theorem getLast_getD (l : V.Bs) (h : 0 < l.length) : l.getLast? = some (l.getD (l.length - 1) 0) := by
  rw [List.getLast?_eq_getElem?, List.getD_eq_getElem?_getD, List.getElem?_eq_getElem (by omega)]
  rfl
theorem ref_local (s : ByteArray) (hs : s.size ≤ 600) (k : Nat) (hk : s.size + 40 ≤ k) : wherryref11_Local.f k s = some (V.localOk (lst s)) := by
  obtain ⟨k, rfl⟩ : ∃ j, k = j + 1 := ⟨k - 1, by omega⟩
  have hl := lst_length s
  unfold wherryref11_Local.f V.localOk V.parts
  rw [in_f, hl]
  show (if decide (1 ≤ (s.size : Int) ∧ (s.size : Int) ≤ 64) = true then _ else _) = some (decide (s.size ≤ 64) && allN (lst s))
  by_cases h1 : 1 ≤ (s.size : Int) ∧ (s.size : Int) ≤ 64
  · have e0 := bt_lst s 0
    have e1 := bt_lst s (s.size - 1)
    rw [show ((0 : Nat) : Int) = 0 from rfl] at e0
    rw [show ((s.size - 1 : Nat) : Int) = (s.size : Int) - 1 by omega] at e1
    rw [if_pos (decide_eq_true h1), if_pos (by omega), e0, wrap_sm _ (by omega) (by omega), decide_eq_true (by omega), Bool.true_and]
    have hlast := getLast_getD (lst s) (by omega)
    rw [hl] at hlast
    by_cases h2 : (lst s).getD 0 0 = 46
    · rw [if_pos ((eqInt _ 46 46 rfl).2 h2)]
      have e : lst s = 46 :: (lst s).drop 1 := by
        have := drop_getD (lst s) 0 (by omega)
        rw [List.drop_zero, h2] at this
        exact this
      rw [e, allN_dot]
      rw [wherryref11_Local.j0]
      rw [if_pos rfl]
    · rw [if_neg (fun e => h2 ((eqInt _ 46 46 rfl).1 e)), if_pos (by omega), if_pos (by omega), e1]
      rw [wherryref11_Local.j0]
      by_cases h3 : (lst s).getD (s.size - 1) 0 = 46
      · rw [if_pos (by simpa using (eqInt _ 46 46 rfl).2 h3)]
        rw [h3] at hlast
        rw [(all_last _ hlast).1]
      · rw [if_neg (by intro e; exact h3 ((eqInt _ 46 46 rfl).1 (by simpa using e)))]
        have hl0 := local_l0 s hs h2 s.size 0 k (by omega) (by omega) (by omega)
        rw [if_pos rfl, List.drop_zero] at hl0
        have hg := (lgo_all (lst s) 0 (by rw [hlast]; intro e; exact h3 (Option.some.inj e))).1 (by decide)
        rw [hg] at hl0
        rw [show ((0 : Nat) : Int) = 0 from rfl] at hl0
        rw [hl0]
        have e : lst s = (lst s).getD 0 0 :: (lst s).drop 1 := by
          have := drop_getD (lst s) 0 (by omega)
          rwa [List.drop_zero] at this
        rw [e, allN_cons _ _ h2, allE_cons _ _ h2]
  · rw [if_neg (by simpa using h1)]
    rw [wherryref11_Local.j0]
    rw [if_pos rfl]
    by_cases h2 : s.size ≤ 64
    · have : lst s = [] := List.eq_nil_of_length_eq_zero (by omega)
      rw [this, allN_nil, Bool.and_false]
    · rw [decide_eq_false h2, Bool.false_and]
theorem ref_path (p : V.Path) (h1 : p.loc.length ≤ 600) (h2 : p.dom.length ≤ 600) (k : Nat) (hk : 3 * p.dom.length + p.loc.length + 45 ≤ k) : wherryref11_Path.f k p.null (str p.loc) (str p.dom) = some (V.check p) := by
  unfold wherryref11_Path.f V.check
  rw [toList_lst, toList_lst, lst_str, lst_str]
  have e1 := ref_local (str p.loc) (by rw [str_size]; exact h1) k (by rw [str_size]; omega)
  have e2 := ref_domain2 (str p.dom) (by rw [str_size]; exact h2) k (by rw [str_size]; omega)
  rw [lst_str] at e1 e2
  cases hn : p.null with
  | true =>
    rw [if_pos rfl]
    by_cases h : p.loc = []
    · rw [if_pos h, h]
      cases p.dom <;> rfl
    · rw [if_neg h]
      have : p.loc.isEmpty = false := by cases hl : p.loc with
        | nil => exact absurd hl h
        | cons a b => rfl
      rw [this]
      rfl
  | false =>
    rw [if_neg (by decide), e1]
    cases V.localOk p.loc with
    | true => simp [e2]
    | false => simp
end Go.Proofs.YteiknmcmaemcoaaGreatDoor
/- Lines that are a word and a domain, in plain Lean. -/
namespace Go.Proofs.YteiknmcmaemcoaaGreatDoor
set_option linter.unusedVariables false
set_option linter.unusedSimpArgs false
theorem splitOn_all (p : UInt8 → Bool) (c : UInt8) (hc : p c = true) : ∀ l : V.Bs, (∀ x ∈ V.splitOn c l, x.all p = true) → l.all p = true
  | [], _ => rfl
  | x :: l, h => by
    unfold V.splitOn at h
    by_cases hx : x = c
    · rw [if_pos hx] at h
      rw [List.all_cons, hx, hc, splitOn_all p c hc l (fun y hy => h y (by simp [hy]))]
      rfl
    · rw [if_neg hx] at h
      have ih := splitOn_all p c hc l
      cases hs : V.splitOn c l with
      | nil => exact absurd hs (V.splitOn_ne c l)
      | cons a t =>
        rw [hs] at h ih
        have h1 := h (x :: a) (by simp)
        rw [List.all_cons, Bool.and_eq_true] at h1
        rw [List.all_cons, h1.1, ih (fun y hy => by
          rcases List.mem_cons.1 hy with rfl | hy
          · exact h1.2
          · exact h y (by simp [hy]))]
        rfl
theorem okL_okByte (c : UInt8) : (V.isPlain c || c == 45) = true → okByte c = true := by
  have h : ∀ n : Nat, n < 256 → (V.isPlain (UInt8.ofNat n) || UInt8.ofNat n == 45) = true → okByte (UInt8.ofNat n) = true := by decide +kernel
  have := h c.toNat c.toNat_lt
  simpa using this
theorem domain_ok (t : V.Bs) (h : V.domain t = true) : t.all okByte = true := by
  unfold V.domain V.parts at h
  rw [Bool.and_eq_true, List.all_eq_true] at h
  refine splitOn_all okByte 46 (by decide) t (fun x hx => ?_)
  have := h.2 x hx
  unfold V.label at this
  simp only [Bool.and_eq_true] at this
  rw [List.all_eq_true]
  intro y hy
  exact okL_okByte y (List.all_eq_true.1 this.1.1.1.1 y hy)
theorem told_read (l : V.Bs) : (V.told l).1 = V.read l := by
  unfold V.told
  cases V.read l <;> rfl
def ehloW : V.Bs := [69, 72, 76, 79, 32]
def etrnW : V.Bs := [69, 84, 82, 78, 32]
def atrnW : V.Bs := [65, 84, 82, 78, 32]
theorem ehlo_read (t : V.Bs) : V.read (ehloW ++ t) = V.namedO 1 t := by
  have e : ehloW ++ t = 69 :: 72 :: 76 :: 79 :: 32 :: t := rfl
  rw [e]
  have h1 : V.aloneB (69 :: 72 :: 76 :: 79 :: 32 :: t) = false := by simp [V.aloneB, aloneT, V.fold, V.low]
  have h2 : V.tryT (69 :: 72 :: 76 :: 79 :: 32 :: t) readT = some (V.namedO 1 t) := by simp [V.tryT, readT, V.after, V.fold, V.low]
  unfold V.read
  rw [h1, h2]
  rfl
theorem etrn_read (t : V.Bs) : V.read (etrnW ++ t) = V.namedO 9 t := by
  have e : etrnW ++ t = 69 :: 84 :: 82 :: 78 :: 32 :: t := rfl
  rw [e]
  have h1 : V.aloneB (69 :: 84 :: 82 :: 78 :: 32 :: t) = false := by simp [V.aloneB, aloneT, V.fold, V.low]
  have h2 : V.tryT (69 :: 84 :: 82 :: 78 :: 32 :: t) readT = some (V.namedO 9 t) := by simp [V.tryT, readT, V.after, V.fold, V.low]
  unfold V.read
  rw [h1, h2]
  rfl
theorem atrn_read (t : V.Bs) : V.read (atrnW ++ t) = V.namedO 11 t := by
  have e : atrnW ++ t = 65 :: 84 :: 82 :: 78 :: 32 :: t := rfl
  rw [e]
  have h1 : V.aloneB (65 :: 84 :: 82 :: 78 :: 32 :: t) = false := by simp [V.aloneB, aloneT, V.fold, V.low]
  have h2 : V.tryT (65 :: 84 :: 82 :: 78 :: 32 :: t) readT = some (V.namedO 11 t) := by simp [V.tryT, readT, V.after, V.fold, V.low]
  unfold V.read
  rw [h1, h2]
  rfl
theorem word_parse (W wd t : V.Bs) (k : Int) (hW : W.length = 5) (hok : W.all okByte = true) (hf : ∀ t, V.fold (V.first (W ++ t)) = wd) (hk : (wd.isEmpty || !decide (wd ∈ wordsL)) = false) (hr : V.read (W ++ t) = V.namedO k t) (hl : t.length ≤ 505) :
    (V.parse (W ++ t)).1 = V.namedO k t := by
  unfold V.parse
  rw [if_neg (by rw [List.length_append]; omega), List.all_append, hok, Bool.true_and]
  by_cases ha : t.all okByte = true
  · rw [if_pos ha, hf]
    unfold V.known
    rw [hk, if_neg (by decide), told_read, hr]
  · rw [if_neg ha]
    unfold V.namedO
    rw [if_neg (fun h => ha (domain_ok t h))]
theorem ehlo_parse (t : V.Bs) (hl : t.length ≤ 505) : (V.parse (ehloW ++ t)).1 = V.namedO 1 t :=
  word_parse ehloW [101, 104, 108, 111] t 1 rfl rfl (fun t => by simp [V.first, ehloW, V.cutAt, V.fold, V.low]) (by decide +kernel) (ehlo_read t) hl
theorem etrn_parse (t : V.Bs) (hl : t.length ≤ 505) : (V.parse (etrnW ++ t)).1 = V.namedO 9 t :=
  word_parse etrnW [101, 116, 114, 110] t 9 rfl rfl (fun t => by simp [V.first, etrnW, V.cutAt, V.fold, V.low]) (by decide +kernel) (etrn_read t) hl
theorem atrn_parse (t : V.Bs) (hl : t.length ≤ 505) : (V.parse (atrnW ++ t)).1 = V.namedO 11 t :=
  word_parse atrnW [97, 116, 114, 110] t 11 rfl rfl (fun t => by simp [V.first, atrnW, V.cutAt, V.fold, V.low]) (by decide +kernel) (atrn_read t) hl
/-- What Parse answers where the line's command is known. -/
theorem uni_named (W t : V.Bs) (k : Int) (h : (V.parse (W ++ t)).1 = V.namedO k t) :
    (V.domain t = true → V.cmd (W ++ t) = ⟨k, t, V.noPath, []⟩ ∧ V.code (W ++ t) = 0) ∧ (V.domain t = false → V.cmd (W ++ t) = V.noCmd ∧ V.code (W ++ t) ≠ 0) := by
  unfold V.namedO at h
  constructor
  · intro hd
    rw [if_pos hd] at h
    exact ⟨by unfold V.cmd; rw [h]; rfl, code_zero _ _ h⟩
  · intro hd
    rw [if_neg (by rw [hd]; decide)] at h
    refine ⟨by unfold V.cmd; rw [h]; rfl, ?_⟩
    have := code_pos _ h
    unfold V.code
    omega
end Go.Proofs.YteiknmcmaemcoaaGreatDoor
/- VRFY's line read, in plain Lean. No Go. -/
namespace Go.Proofs.YteiknmcmaemcoaaGreatDoor
set_option linter.unusedVariables false
set_option linter.unusedSimpArgs false
theorem vrfy_read (t : V.Bs) (ht : t ≠ []) : V.read (lVRFY ++ t) = some ⟨6, t, V.noPath, []⟩ := by
  have e : lVRFY ++ t = 86 :: 82 :: 70 :: 89 :: 32 :: t := rfl
  rw [e]
  have h1 : V.aloneB (86 :: 82 :: 70 :: 89 :: 32 :: t) = false := by
    simp [V.aloneB, aloneT, V.fold, V.low]
  have h2 : V.tryT (86 :: 82 :: 70 :: 89 :: 32 :: t) readT = none := by
    simp [V.tryT, readT, V.after, V.fold, V.low]
  have h3 : V.after (86 :: 82 :: 70 :: 89 :: 32 :: t) noopB = none := by
    simp [V.after, noopB, V.fold, V.low]
  have h4 : V.after (86 :: 82 :: 70 :: 89 :: 32 :: t) vrfyB = some t := by
    simp [V.after, vrfyB, V.fold, V.low]
  unfold V.read
  rw [h1, h2]
  unfold V.tail
  rw [h3, h4]
  cases t with
  | nil => exact absurd rfl ht
  | cons a b => rfl
theorem vrfy_parse (t : V.Bs) (ht : t ≠ []) (hl : t.length ≤ 505) (ha : t.all okByte = true) : V.parse (lVRFY ++ t) = (some ⟨6, t, V.noPath, []⟩, 0) := by
  unfold V.parse
  rw [if_neg (by simp [lVRFY]; omega), if_pos (by rw [List.all_append, ha]; rfl)]
  have hf : V.fold (V.first (lVRFY ++ t)) = [118, 114, 102, 121] := by
    simp [V.first, lVRFY, V.cutAt, V.fold, V.low]
  rw [hf]
  unfold V.known
  rw [if_neg (by decide +kernel)]
  unfold V.told
  rw [vrfy_read t ht]
def longL (x : UInt8) (n : Nat) : V.Bs := lVRFY ++ List.replicate n x
theorem long_all (x : UInt8) (n : Nat) (h1 : 33 ≤ x.toNat) (h2 : x.toNat ≤ 126) : (List.replicate n x).all okByte = true := by
  rw [List.all_eq_true]
  intro y hy
  obtain rfl := List.eq_of_mem_replicate hy
  simp [okByte, UInt8.le_iff_toNat_le]
  omega
theorem long_code1 (x : UInt8) (n : Nat) (h : 505 < n) : V.code (longL x n) = 500 := by
  unfold V.code V.parse
  rw [if_pos (by simp [longL, lVRFY]; omega)]
theorem long_cmd1 (x : UInt8) (n : Nat) (h : 505 < n) : V.cmd (longL x n) = V.noCmd := by
  unfold V.cmd V.parse
  rw [if_pos (by simp [longL, lVRFY]; omega)]
  rfl
theorem long_parse (x : UInt8) (n : Nat) (hn : n ≠ 0) (h : n ≤ 505) (h1 : 33 ≤ x.toNat) (h2 : x.toNat ≤ 126) : V.parse (longL x n) = (some ⟨6, List.replicate n x, V.noPath, []⟩, 0) :=
  vrfy_parse _ (by intro e; have := congrArg List.length e; rw [List.length_replicate] at this; exact hn this) (by rw [List.length_replicate]; exact h) (long_all x n h1 h2)
theorem long_line (x : UInt8) (n : Nat) : V.line ⟨6, List.replicate n x, V.noPath, []⟩ = longL x n := by
  unfold V.line V.lineB
  rw [show V.lookT (⟨6, List.replicate n x, V.noPath, []⟩ : V.Cmd).kind (lineT (⟨6, List.replicate n x, V.noPath, []⟩ : V.Cmd).text ((V.ptext V.noPath).getD [])) = longL x n from rfl]
  simp
theorem long_text (x : UInt8) (n : Nat) (hn : n ≠ 0) (h : n ≤ 505) (h1 : 33 ≤ x.toNat) (h2 : x.toNat ≤ 126) : V.text ⟨6, List.replicate n x, V.noPath, []⟩ = some (longL x n) := by
  unfold V.text
  rw [long_line, long_parse x n hn h h1 h2, if_pos rfl]
end Go.Proofs.YteiknmcmaemcoaaGreatDoor
/- What is read is written, and read again so, in plain Lean. No Go. -/
namespace Go.Proofs.YteiknmcmaemcoaaGreatDoor
set_option linter.unusedVariables false
set_option linter.unusedSimpArgs false
theorem after_some {l b r : V.Bs} (h : V.after l b = some r) : l = l.take b.length ++ r ∧ l.length = b.length + r.length := by
  unfold V.after at h
  split at h
  · rename_i hc
    obtain rfl := Option.some.inj h
    exact ⟨(List.take_append_drop _ _).symm, by rw [List.length_drop]; omega⟩
  · cases h
theorem pparse_text {l : V.Bs} {p : V.Path} (h : V.pparse l = some p) : V.ptext p = some l := by
  unfold V.pparse at h
  split at h
  · rename_i hl
    obtain rfl := Option.some.inj h
    rw [hl]
    rfl
  · split at h
    · rename_i hc
      split at h
      · cases h
      · rename_i a b hcut
        split at h
        · rename_i hk
          obtain rfl := Option.some.inj h
          unfold V.ptext
          rw [if_pos hk, if_neg (by simp)]
          obtain ⟨hx, _⟩ := V.cutAt_some hcut
          cases l with
          | nil => simp at hc
          | cons x t =>
            rw [List.head?_cons, List.tail_cons] at hc
            obtain ⟨h1, h2⟩ := hc
            obtain rfl := Option.some.inj h1
            rw [List.tail_cons] at hx
            have e : t = t.dropLast ++ [62] := by
              obtain ⟨ys, rfl⟩ := List.getLast?_eq_some_iff.1 h2
              rw [List.dropLast_concat]
            rw [hx] at e
            conv => rhs; rw [e]
            simp
        · cases h
    · cases h
theorem find_some (l : V.Bs) : ∀ (ws : List V.Bs) (k n : Nat), V.find l ws k = some n → ∃ w, w ∈ ws ∧ ws.getD (n - k) [] = w ∧ V.fold w = V.fold l
  | [], k, n, h => by simp [V.find] at h
  | x :: t, k, n, h => by
    have hlt := V.find_lt l (x :: t) k n h
    unfold V.find at h
    split at h
    · rename_i hx
      simp at h; subst h
      exact ⟨x, by simp, by simp, hx⟩
    · have h3 := V.find_lt l t (k + 1) n h
      obtain ⟨w, h1, h2, hf⟩ := find_some l t (k + 1) n h
      refine ⟨w, by simp [h1], ?_, hf⟩
      have e : n - k = (n - (k + 1)) + 1 := by omega
      rw [e, List.getD_cons_succ, h2]
theorem one_some {l w : V.Bs} {ws : List V.Bs} (h : V.one l ws = some w) : w ∈ ws ∧ V.fold w = V.fold l := by
  unfold V.one at h
  cases hf : V.find l ws 0 with
  | none => rw [hf] at h; cases h
  | some n =>
    rw [hf] at h
    obtain ⟨x, h1, h2, h3⟩ := find_some l ws 0 n hf
    have : w = x := by rw [← h2]; exact (Option.some.inj h).symm
    rw [this]
    exact ⟨h1, h3⟩
theorem len_fold {l m : V.Bs} (h : V.fold l = V.fold m) : l.length = m.length := by
  have := congrArg List.length h
  unfold V.fold at this
  rwa [List.length_map, List.length_map] at this
/-- A parameter's word. -/
def V.word (q : Prm) : V.Bs := q.1 ++ 61 :: q.2
def okW (c : UInt8) : Bool := okByte c && !decide (c = 32)
theorem key_self : ∀ w ∈ keyWords, V.one w keyWords = some w ∧ w.all okW = true ∧ 61 ∉ w := by decide +kernel
theorem full_self : ∀ w ∈ [wFULL, wHDRS], V.one w [wFULL, wHDRS] = some w ∧ w.all okW = true := by decide +kernel
theorem never_self : ∀ w ∈ [wNEVER, wFAILURE], V.one w [wNEVER, wFAILURE] = some w ∧ w.all okW = true := by decide +kernel
/-- A value is kept so that it is read again as it is. -/
theorem value_again {k : Int} {key val : V.Bs} (h : (V.value k key val).2 = true) (hv : val.all okW = true) :
    V.value k key (V.value k key val).1 = ((V.value k key val).1, true) ∧ (V.value k key val).1.length = val.length ∧ (V.value k key val).1.all okW = true := by
  unfold V.value at h ⊢
  by_cases h1 : k = 2 ∧ key = wSIZE
  · simp only [if_pos h1] at h ⊢
    exact ⟨by rw [h], trivial, hv⟩
  · simp only [if_neg h1] at h ⊢
    by_cases h2 : k = 2 ∧ key = wRET
    · simp only [if_pos h2] at h ⊢
      cases ho : V.one val [wFULL, wHDRS] with
      | none => rw [ho] at h; cases h
      | some w =>
        obtain ⟨hm, hf⟩ := one_some ho
        obtain ⟨e1, e2⟩ := full_self w hm
        simp only [Option.getD_some, e1, Option.isSome_some]
        exact ⟨trivial, len_fold hf, e2⟩
    · simp only [if_neg h2] at h ⊢
      by_cases h3 : k = 3 ∧ key = wNOTIFY
      · simp only [if_pos h3] at h ⊢
        cases ho : V.one val [wNEVER, wFAILURE] with
        | none => rw [ho] at h; cases h
        | some w =>
          obtain ⟨hm, hf⟩ := one_some ho
          obtain ⟨e1, e2⟩ := never_self w hm
          simp only [Option.getD_some, e1, Option.isSome_some]
          exact ⟨trivial, len_fold hf, e2⟩
      · simp only [if_neg h3] at h
        cases h
theorem eqs_word (q : Prm) (h : 61 ∉ q.1) : V.eqs (V.word q) = (q.1, q.2, true) := by
  have e : ∀ (a b : V.Bs), 61 ∉ a → V.cutAt 61 (a ++ 61 :: b) = some (a, b) := by
    intro a
    induction a with
    | nil => intro b _; simp [V.cutAt]
    | cons x a ih =>
      intro b hn
      show V.cutAt 61 (x :: (a ++ 61 :: b)) = _
      unfold V.cutAt
      rw [if_neg (fun hx => hn (by simp [hx])), ih b (fun hm => hn (by simp [hm]))]
  unfold V.eqs V.word
  rw [e q.1 q.2 h]
theorem pstep_some {k : Int} {x : V.Bs} {acc out : List Prm} (h : V.pstep k x acc = some out) (hx : x.all okW = true) :
    ∃ q : Prm, out = acc ++ [q] ∧ (V.word q).length = x.length ∧ (V.word q).all okW = true ∧ V.pstep k (V.word q) acc = some out := by
  cases hc : V.cutAt 61 x with
  | none =>
    have hE : V.eqs x = (x, [], false) := by unfold V.eqs; rw [hc]
    unfold V.pstep at h
    simp [hE] at h
  | some ab =>
    obtain ⟨a, b⟩ := ab
    have hE : V.eqs x = (a, b, true) := by unfold V.eqs; rw [hc]
    obtain ⟨hx1, hx2⟩ := V.cutAt_some hc
    cases ho : V.one a keyWords with
    | none =>
      unfold V.pstep at h
      simp [hE, ho] at h
    | some w =>
      obtain ⟨hm, hf⟩ := one_some ho
      obtain ⟨w1, w2, w3⟩ := key_self w hm
      have h0 := h
      unfold V.pstep at h
      simp only [hE, ho, Option.getD_some, Option.isSome_some] at h
      split at h
      · rename_i hcond
        simp only [Bool.and_eq_true, Bool.true_and] at hcond
        obtain ⟨hv, htw⟩ := hcond
        have hb : b.all okW = true := by
          rw [hx1, List.all_append, List.all_cons, Bool.and_eq_true, Bool.and_eq_true] at hx
          exact hx.2.2
        obtain ⟨v1, v2, v3⟩ := value_again hv hb
        refine ⟨(w, (V.value k w b).1), (Option.some.inj h).symm, ?_, ?_, ?_⟩
        · unfold V.word
          rw [hx1, List.length_append, List.length_append, List.length_cons, List.length_cons, len_fold hf, v2]
        · unfold V.word
          rw [List.all_append, List.all_cons, w2, v3]
          decide
        · unfold V.pstep
          simp only [eqs_word (w, (V.value k w b).1) w3, w1, Option.getD_some, Option.isSome_some, v1]
          rw [if_pos (by simp only [Bool.true_and]; exact htw)]
          exact h
      · cases h
theorem prmB_word (q : Prm) : V.prmB q = 32 :: V.word q := rfl
theorem params_some {k : Int} : ∀ (ws : List V.Bs) (acc ps : List Prm), V.params k ws acc = some ps → (∀ x ∈ ws, x.all okW = true) →
    ∃ qs : List Prm, ps = acc ++ qs ∧ (qs.flatMap V.prmB).length = (ws.flatMap (fun x => 32 :: x)).length ∧ (∀ q ∈ qs, (V.word q).all okW = true) ∧ V.params k (qs.map V.word) acc = some ps
  | [], acc, ps, h, _ => by
    refine ⟨[], ?_, rfl, by simp, h⟩
    rw [List.append_nil]
    unfold V.params at h
    exact (Option.some.inj h).symm
  | x :: ws, acc, ps, h, hx => by
    unfold V.params at h
    cases hp : V.pstep k x acc with
    | none => rw [hp] at h; cases h
    | some out =>
      rw [hp] at h
      obtain ⟨q, h1, h2, h3, h4⟩ := pstep_some hp (hx x (by simp))
      obtain ⟨qs, g1, g2, g3, g4⟩ := params_some ws out ps h (fun y hy => hx y (by simp [hy]))
      refine ⟨q :: qs, by rw [g1, h1]; simp, ?_, ?_, ?_⟩
      · rw [List.flatMap_cons, List.flatMap_cons, List.length_append, List.length_append, g2, prmB_word, List.length_cons, List.length_cons, h2]
      · intro y hy
        rcases List.mem_cons.1 hy with rfl | hy
        · exact h3
        · exact g3 y hy
      · rw [List.map_cons, V.params, h4]
        exact g4
theorem cut_eq (c : UInt8) : ∀ (a b : V.Bs), c ∉ a → V.cutAt c (a ++ c :: b) = some (a, b)
  | [], b, _ => by simp [V.cutAt]
  | x :: a, b, hn => by
    show V.cutAt c (x :: (a ++ c :: b)) = _
    unfold V.cutAt
    rw [if_neg (fun hx => hn (by simp [hx])), cut_eq c a b (fun hm => hn (by simp [hm]))]
theorem split_words : ∀ (qs : List Prm) (h : V.Bs), 32 ∉ h → (∀ q ∈ qs, 32 ∉ V.word q) → V.splitOn 32 (h ++ qs.flatMap V.prmB) = h :: qs.map V.word
  | [], h, hn, _ => by
    rw [List.flatMap_nil, List.append_nil, V.splitOn_cut, V.cutAt_none.2 hn]
    rfl
  | q :: qs, h, hn, hq => by
    rw [List.flatMap_cons, prmB_word, List.cons_append, V.splitOn_cut, cut_eq 32 h _ hn]
    show h :: V.splitOn 32 (V.word q ++ _) = _
    rw [split_words qs (V.word q) (hq q (by simp)) (fun y hy => hq y (by simp [hy]))]
    rfl
theorem split_join (c : UInt8) : ∀ (l h : V.Bs) (ws : List V.Bs), V.splitOn c l = h :: ws → l = h ++ ws.flatMap (fun x => c :: x) ∧ c ∉ h ∧ ∀ x ∈ ws, c ∉ x
  | [], h, ws, e => by
    unfold V.splitOn at e
    simp at e
    obtain ⟨rfl, rfl⟩ := e
    simp
  | x :: l, h, ws, e => by
    unfold V.splitOn at e
    by_cases hx : x = c
    · rw [if_pos hx] at e
      obtain ⟨rfl, rfl⟩ := List.cons.inj e
      cases hs : V.splitOn c l with
      | nil => exact absurd hs (V.splitOn_ne c l)
      | cons a t =>
        obtain ⟨h1, h2, h3⟩ := split_join c l a t hs
        refine ⟨by rw [List.flatMap_cons, List.nil_append, hx, List.cons_append, ← h1], by simp, ?_⟩
        intro y hy
        rcases List.mem_cons.1 hy with rfl | hy
        · exact h2
        · exact h3 y hy
    · rw [if_neg hx] at e
      cases hs : V.splitOn c l with
      | nil => exact absurd hs (V.splitOn_ne c l)
      | cons a t =>
        rw [hs] at e
        obtain ⟨rfl, rfl⟩ := List.cons.inj e
        obtain ⟨h1, h2, h3⟩ := split_join c l a t hs
        refine ⟨by rw [List.cons_append, ← h1], ?_, h3⟩
        intro hm
        rcases List.mem_cons.1 hm with hm | hm
        · exact hx hm.symm
        · exact h2 hm
theorem okW_ok {l : V.Bs} (h : l.all okW = true) : l.all okByte = true ∧ 32 ∉ l := by
  rw [List.all_eq_true] at h
  constructor
  · rw [List.all_eq_true]
    intro x hx
    have := h x hx
    unfold okW at this
    rw [Bool.and_eq_true] at this
    exact this.1
  · intro hm
    have := h 32 hm
    exact absurd this (by decide)
theorem okW_of {l : V.Bs} (h : l.all okByte = true) (hn : 32 ∉ l) : l.all okW = true := by
  rw [List.all_eq_true] at h ⊢
  intro x hx
  unfold okW
  have hne : x ≠ 32 := fun e => hn (by rw [← e]; exact hx)
  rw [h x hx, decide_eq_false hne]
  rfl
theorem flat_all (p : UInt8 → Bool) : ∀ (ws : List V.Bs), (ws.flatMap (fun x => 32 :: x)).all p = true → ∀ x ∈ ws, x.all p = true
  | [], _ => by simp
  | y :: ws, h => by
    rw [List.flatMap_cons, List.all_append, List.all_cons, Bool.and_eq_true, Bool.and_eq_true] at h
    intro x hx
    rcases List.mem_cons.1 hx with rfl | hx
    · exact h.1.2
    · exact flat_all p ws h.2 x hx
theorem flat_ok : ∀ (qs : List Prm), (∀ q ∈ qs, (V.word q).all okW = true) → (qs.flatMap V.prmB).all okByte = true
  | [], _ => rfl
  | q :: qs, h => by
    rw [List.flatMap_cons, List.all_append, prmB_word, List.all_cons, (okW_ok (h q (by simp))).1, flat_ok qs (fun y hy => h y (by simp [hy]))]
    rfl
/-- A mailbox with parameters, written as it is kept, is read as it is. -/
theorem mailbox_again {k : Int} {l : V.Bs} {c : V.Cmd} (h : V.mailbox k l = some c) (ha : l.all okByte = true) :
    c.kind = k ∧ c.text = [] ∧ ∃ m, m = (V.ptext c.path).getD [] ++ c.prms.flatMap V.prmB ∧ m.length = l.length ∧ m.all okByte = true ∧ V.mailbox k m = some c := by
  cases hs : V.splitOn 32 l with
  | nil => exact absurd hs (V.splitOn_ne 32 l)
  | cons b ws =>
    obtain ⟨s1, s2, s3⟩ := split_join 32 l b ws hs
    have h0 := h
    unfold V.mailbox at h
    rw [hs, List.headD_cons, List.tail_cons] at h
    cases hp : V.pparse b with
    | none => rw [hp] at h; cases h
    | some p =>
      cases hw : V.params k ws [] with
      | none => rw [hp, hw] at h; cases h
      | some ps =>
        rw [hp, hw] at h
        unfold V.mbox at h
        simp only at h
        split at h
        · cases h
        · rename_i hnn
          obtain rfl := Option.some.inj h
          rw [s1, List.all_append, Bool.and_eq_true] at ha
          have hws : ∀ x ∈ ws, x.all okW = true := fun x hx => okW_of (flat_all okByte ws ha.2 x hx) (s3 x hx)
          obtain ⟨qs, g1, g2, g3, g4⟩ := params_some ws [] ps hw hws
          rw [List.nil_append] at g1
          subst g1
          have hpt := pparse_text hp
          refine ⟨rfl, rfl, _, rfl, ?_, ?_, ?_⟩
          · show ((V.ptext p).getD [] ++ ps.flatMap V.prmB).length = _
            rw [hpt, Option.getD_some, List.length_append, g2, s1, List.length_append]
          · show ((V.ptext p).getD [] ++ ps.flatMap V.prmB).all okByte = true
            rw [hpt, Option.getD_some, List.all_append, ha.1, flat_ok ps g3]
            rfl
          · show V.mailbox k ((V.ptext p).getD [] ++ ps.flatMap V.prmB) = _
            unfold V.mailbox
            rw [hpt, Option.getD_some, split_words ps b s2 (fun q hq => (okW_ok (g3 q hq)).2), List.headD_cons, List.tail_cons, hp, g4]
            unfold V.mbox
            simp only
            rw [if_neg hnn]
theorem mail_read (t : V.Bs) : V.read (lMAIL ++ t) = V.mailbox 2 t := by
  have e : lMAIL ++ t = 77 :: 65 :: 73 :: 76 :: 32 :: 70 :: 82 :: 79 :: 77 :: 58 :: t := rfl
  rw [e]
  have h1 : V.aloneB (77 :: 65 :: 73 :: 76 :: 32 :: 70 :: 82 :: 79 :: 77 :: 58 :: t) = false := by simp [V.aloneB, aloneT, V.fold, V.low]
  have h2 : V.tryT (77 :: 65 :: 73 :: 76 :: 32 :: 70 :: 82 :: 79 :: 77 :: 58 :: t) readT = some (V.mailbox 2 t) := by simp [V.tryT, readT, V.after, V.fold, V.low]
  unfold V.read
  rw [h1, h2]
  rfl
theorem rcpt_read (t : V.Bs) : V.read (lRCPT ++ t) = V.mailbox 3 t := by
  have e : lRCPT ++ t = 82 :: 67 :: 80 :: 84 :: 32 :: 84 :: 79 :: 58 :: t := rfl
  rw [e]
  have h1 : V.aloneB (82 :: 67 :: 80 :: 84 :: 32 :: 84 :: 79 :: 58 :: t) = false := by simp [V.aloneB, aloneT, V.fold, V.low]
  have h2 : V.tryT (82 :: 67 :: 80 :: 84 :: 32 :: 84 :: 79 :: 58 :: t) readT = some (V.mailbox 3 t) := by simp [V.tryT, readT, V.after, V.fold, V.low]
  unfold V.read
  rw [h1, h2]
  rfl
theorem pre_parse (W wd t : V.Bs) (hok : W.all okByte = true) (hf : V.fold (V.first (W ++ t)) = wd) (hk : (wd.isEmpty || !decide (wd ∈ wordsL)) = false) (hl : W.length + t.length ≤ 510) (ha : t.all okByte = true) :
    (V.parse (W ++ t)).1 = V.read (W ++ t) := by
  unfold V.parse
  rw [if_neg (by rw [List.length_append]; omega), List.all_append, hok, ha, if_pos (by rfl), hf]
  unfold V.known
  rw [hk, if_neg (by decide), told_read]
theorem mail_parse (t : V.Bs) (hl : t.length ≤ 500) (ha : t.all okByte = true) : (V.parse (lMAIL ++ t)).1 = V.mailbox 2 t := by
  rw [pre_parse lMAIL [109, 97, 105, 108] t rfl (by simp [V.first, lMAIL, V.cutAt, V.fold, V.low]) (by decide +kernel) (by show 10 + _ ≤ _; omega) ha, mail_read]
theorem rcpt_parse (t : V.Bs) (hl : t.length ≤ 502) (ha : t.all okByte = true) : (V.parse (lRCPT ++ t)).1 = V.mailbox 3 t := by
  rw [pre_parse lRCPT [114, 99, 112, 116] t rfl (by simp [V.first, lRCPT, V.cutAt, V.fold, V.low]) (by decide +kernel) (by show 8 + _ ≤ _; omega) ha, rcpt_read]
theorem line_of (c : V.Cmd) (m : V.Bs) (W : V.Bs) (h : V.lineB c = W ++ (V.ptext c.path).getD []) (hm : m = (V.ptext c.path).getD [] ++ c.prms.flatMap V.prmB) : V.line c = W ++ m := by
  unfold V.line
  rw [h, hm, List.append_assoc]
theorem try_some {l : V.Bs} {o : Option V.Cmd} : ∀ {T : List (V.Bs × Int × Bool)}, V.tryT l T = some o → ∃ x ∈ T, ∃ r, V.after l x.1 = some r ∧ o = if x.2.2 then V.mailbox x.2.1 r else V.namedO x.2.1 r
  | [], h => by cases h
  | x :: T, h => by
    unfold V.tryT at h
    cases ha : V.after l x.1 with
    | none =>
      rw [ha] at h
      obtain ⟨y, hy, r, h1, h2⟩ := try_some h
      exact ⟨y, by simp [hy], r, h1, h2⟩
    | some r =>
      rw [ha] at h
      exact ⟨x, by simp, r, ha, (Option.some.inj h).symm⟩
theorem read_of_parse {l : V.Bs} {c : V.Cmd} (h : (V.parse l).1 = some c) : l.length ≤ 510 ∧ l.all okByte = true ∧ V.read l = some c := by
  unfold V.parse at h
  split at h
  · cases h
  · rename_i hl
    split at h
    · rename_i ha
      refine ⟨by omega, ha, ?_⟩
      unfold V.known at h
      split at h
      · cases h
      · rw [told_read] at h
        exact h
    · cases h
theorem text_of {c : V.Cmd} (h : (V.parse (V.line c)).1 = some c) : V.text c = some (V.line c) := by
  unfold V.text
  rw [if_pos h]
theorem domain_ne {r : V.Bs} (h : V.domain r = true) : r ≠ [] := by
  intro e
  rw [e] at h
  exact absurd h (by decide)
theorem named_again (k : Int) (W r : V.Bs) (c : V.Cmd) (h : V.namedO k r = some c) (hp : (V.parse (W ++ r)).1 = V.namedO k r) (hl : r ≠ [] → V.line ⟨k, r, V.noPath, []⟩ = W ++ r) : (V.parse (V.line c)).1 = some c := by
  have h0 := h
  unfold V.namedO at h
  split at h
  · rename_i hd
    obtain rfl := Option.some.inj h
    rw [hl (domain_ne hd), hp, h0]
  · cases h
theorem alone_again : ∀ p ∈ aloneT, (V.parse (V.line ⟨V.look p.1 aloneT, [], V.noPath, []⟩)).1 = some ⟨V.look p.1 aloneT, [], V.noPath, []⟩ := by decide +kernel
theorem noop_again : (V.parse (V.line ⟨7, [], V.noPath, []⟩)).1 = some ⟨7, [], V.noPath, []⟩ := by decide +kernel
theorem back_plain (l : V.Bs) (c : V.Cmd) (h : (V.parse l).1 = some c) : V.text c = some (V.line c) := by
  obtain ⟨hl, ha, hr⟩ := read_of_parse h
  refine text_of ?_
  unfold V.read at hr
  split at hr
  · rename_i hb
    obtain rfl := Option.some.inj hr
    unfold V.aloneB at hb
    obtain ⟨p, hp, he⟩ := List.any_eq_true.1 hb
    have e := of_decide_eq_true he
    unfold V.aloneK
    rw [← e]
    exact alone_again p hp
  · split at hr
    · rename_i o ho
      subst hr
      obtain ⟨x, hx, r, h1, h2⟩ := try_some ho
      obtain ⟨e1, e2⟩ := after_some h1
      have har : r.all okByte = true := by
        rw [e1, List.all_append, Bool.and_eq_true] at ha
        exact ha.2
      have hx' : x = ([101, 104, 108, 111, 32], 1, false) ∨ x = ([104, 101, 108, 111, 32], 1, false) ∨ x = ([109, 97, 105, 108, 32, 102, 114, 111, 109, 58], 2, true) ∨ x = ([114, 99, 112, 116, 32, 116, 111, 58], 3, true) ∨ x = ([101, 116, 114, 110, 32], 9, false) ∨ x = ([97, 116, 114, 110, 32], 11, false) := by
        simpa [readT] using hx
      have hehlo : r.length ≤ 505 → some c = V.namedO 1 r → (V.parse (V.line c)).1 = some c := fun hr hc => named_again 1 ehloW r c hc.symm (ehlo_parse r hr) (fun _ => by simp [V.line, V.lineB, V.lookT, lineT, ehloW, lEHLO])
      rcases hx' with rfl | rfl | rfl | rfl | rfl | rfl
      · exact hehlo (by simp at e2; omega) h2
      · exact hehlo (by simp at e2; omega) h2
      · obtain ⟨k1, k2, m, m1, m2, m3, m4⟩ := mailbox_again (k := 2) h2.symm har
        have e3 : r.length ≤ 500 := by simp at e2; omega
        rw [line_of c m lMAIL (by unfold V.lineB; rw [k1, k2]; simp [V.lookT, lineT]) m1, mail_parse m (by omega) m3, m4]
      · obtain ⟨k1, k2, m, m1, m2, m3, m4⟩ := mailbox_again (k := 3) h2.symm har
        have e3 : r.length ≤ 502 := by simp at e2; omega
        rw [line_of c m lRCPT (by unfold V.lineB; rw [k1, k2]; simp [V.lookT, lineT]) m1, rcpt_parse m (by omega) m3, m4]
      · exact named_again 9 etrnW r c h2.symm (etrn_parse r (by simp at e2; omega)) (fun _ => by simp [V.line, V.lineB, V.lookT, lineT, etrnW, lETRN])
      · exact named_again 11 atrnW r c h2.symm (atrn_parse r (by simp at e2; omega)) (fun hn => by simp [V.line, V.lineB, V.lookT, lineT, atrnW, lATRN, hn])
    · unfold V.tail at hr
      split at hr
      · obtain rfl := Option.some.inj hr
        exact noop_again
      · split at hr
        · rename_i r hv
          split at hr
          · cases hr
          · rename_i hne
            obtain rfl := Option.some.inj hr
            obtain ⟨e1, e2⟩ := after_some hv
            have har : r.all okByte = true := by
              rw [e1, List.all_append, Bool.and_eq_true] at ha
              exact ha.2
            have e : V.line ⟨6, r, V.noPath, []⟩ = lVRFY ++ r := by simp [V.line, V.lineB, V.lookT, lineT]
            rw [e, vrfy_parse r (fun e => hne (by rw [e]; rfl)) (by simp [vrfyB] at e2; omega) har]
        · cases hr
theorem ptext_len {p : V.Path} {b : V.Bs} (h : V.ptext p = some b) : p.loc.length ≤ b.length ∧ p.dom.length ≤ b.length := by
  unfold V.ptext at h
  split at h
  · rename_i hc
    split at h
    · rename_i hn
      unfold V.check at hc
      rw [hn] at hc
      simp at hc
      rw [hc.1, hc.2]
      simp
    · obtain rfl := Option.some.inj h
      simp only [List.length_append, List.length_cons, List.length_nil, List.cons_append]
      omega
  · cases h
theorem mailbox_fit {k : Int} {l : V.Bs} {c : V.Cmd} (h : V.mailbox k l = some c) (ha : l.all okByte = true) (hl : l.length ≤ 510) (hk : (Lit.int .i64 k).wf = true) : Fit c := by
  obtain ⟨k1, k2, m, m1, m2, m3, m4⟩ := mailbox_again h ha
  have hp : ∃ b, V.ptext c.path = some b := by
    unfold V.mailbox at h
    cases hp : V.pparse ((V.splitOn 32 l).headD []) with
    | none => rw [hp] at h; cases h
    | some p =>
      cases hw : V.params k (V.splitOn 32 l).tail [] with
      | none => rw [hp, hw] at h; cases h
      | some ps =>
        rw [hp, hw] at h
        unfold V.mbox at h
        simp only at h
        split at h
        · cases h
        · obtain rfl := Option.some.inj h
          exact ⟨_, pparse_text hp⟩
  obtain ⟨b, hb⟩ := hp
  rw [hb, Option.getD_some] at m1
  obtain ⟨p1, p2⟩ := ptext_len hb
  have e : b.length + (c.prms.flatMap V.prmB).length ≤ 510 := by rw [← List.length_append, ← m1]; omega
  have e2 : ∀ l : List Prm, l.length ≤ (l.flatMap V.prmB).length := by
    intro l
    induction l with
    | nil => simp
    | cons x l ih =>
      rw [List.flatMap_cons, List.length_append, List.length_cons]
      have : 1 ≤ (V.prmB x).length := by unfold V.prmB; simp
      omega
  have e3 := e2 c.prms
  exact ⟨by rw [k1]; exact hk, by rw [k2]; simp, by omega, by omega, by omega, by omega⟩
theorem alone_wf : ∀ p ∈ aloneT, (Lit.int .i64 (V.look p.1 aloneT)).wf = true := by decide +kernel
theorem named_fit {k : Int} {r : V.Bs} {c : V.Cmd} (h : V.namedO k r = some c) (hl : r.length ≤ 510) (hk : (Lit.int .i64 k).wf = true) : Fit c := by
  unfold V.namedO at h
  split at h
  · obtain rfl := Option.some.inj h
    exact ⟨hk, by show r.length ≤ _; omega, Nat.zero_le _, Nat.zero_le _, Nat.zero_le _, Nat.zero_le _⟩
  · cases h
/-- What is read is not too long. -/
theorem fit_parse {l : V.Bs} {c : V.Cmd} (h : (V.parse l).1 = some c) : Fit c := by
  obtain ⟨hl, ha, hr⟩ := read_of_parse h
  unfold V.read at hr
  split at hr
  · rename_i hb
    obtain rfl := Option.some.inj hr
    unfold V.aloneB at hb
    obtain ⟨p, hp, he⟩ := List.any_eq_true.1 hb
    have e := of_decide_eq_true he
    refine ⟨?_, Nat.zero_le _, Nat.zero_le _, Nat.zero_le _, Nat.zero_le _, Nat.zero_le _⟩
    show (Lit.int .i64 (V.aloneK l)).wf = true
    unfold V.aloneK
    rw [← e]
    exact alone_wf p hp
  · split at hr
    · rename_i o ho
      subst hr
      obtain ⟨x, hx, r, h1, h2⟩ := try_some ho
      obtain ⟨e1, e2⟩ := after_some h1
      have har : r.all okByte = true := by
        rw [e1, List.all_append, Bool.and_eq_true] at ha
        exact ha.2
      have hk : ∀ x ∈ readT, (Lit.int .i64 x.2.1).wf = true := by decide +kernel
      split at h2
      · exact mailbox_fit h2.symm har (by omega) (hk x hx)
      · exact named_fit h2.symm (by omega) (hk x hx)
    · unfold V.tail at hr
      split at hr
      · obtain rfl := Option.some.inj hr
        exact ⟨by decide, by decide, by decide, by decide, by decide, by decide⟩
      · split at hr
        · rename_i r hv
          split at hr
          · cases hr
          · obtain rfl := Option.some.inj hr
            obtain ⟨e1, e2⟩ := after_some hv
            exact ⟨(by decide : (Lit.int .i64 6).wf = true), by show r.length ≤ _; omega, Nat.zero_le _, Nat.zero_le _, Nat.zero_le _, Nat.zero_le _⟩
        · cases hr
/-- A text that is written is the command's line, and is read as it. -/
theorem text_some {c : V.Cmd} {t : V.Bs} (h : V.text c = some t) : (V.parse t).1 = some c ∧ t.length ≤ 510 := by
  unfold V.text at h
  split at h
  · rename_i hp
    obtain rfl := Option.some.inj h
    exact ⟨hp, (read_of_parse hp).1⟩
  · cases h
end Go.Proofs.YteiknmcmaemcoaaGreatDoor
/- (ZD) The reference's Text and Digits: walks. -/
namespace Go.Proofs.YteiknmcmaemcoaaGreatDoor
open Go.RowKit Go.Lib
open Go.Proofs.YteiknmcmaemcoaaGreatDoorW.PrintWords Go.Proofs.YteiknmcmaemcoaaGreatDoorW.PrintLast Go.Proofs.YteiknmcmaemcoaaGreatDoorW.PrintMore
set_option linter.unusedVariables false
set_option linter.unusedSimpArgs false
/-- A mailbox's text, right or not. -/
def V.rtext (p : V.Path) : V.Bs := if p.null then [60, 62] else 60 :: p.loc ++ 64 :: p.dom ++ [62]
set_option maxRecDepth 100000 in
set_option maxHeartbeats 1000000 in
theorem rtext_any (p : V.Path) (w : World) (ha : p.loc.length ≤ 100000) (hb : p.dom.length ≤ 100000) :
    Calls Tryz.prog 15 #[.agg #[.bool p.null, .string (str p.loc), .string (str p.dom)]] w fun e w' => e = .returned (.string (str (V.rtext p))) ∧ Below w.heap.size w w' := by
  obtain ⟨n, l, d⟩ := p
  simp only at ha hb ⊢
  obtain ⟨X, hX⟩ : ∃ X, X = str (V.rtext ⟨n, l, d⟩) := ⟨_, rfl⟩
  rw [← hX]
  unfold V.rtext at hX
  obtain ⟨a, hA⟩ : ∃ a, a = str l := ⟨_, rfl⟩
  obtain ⟨b, hB⟩ : ∃ b, b = str d := ⟨_, rfl⟩
  rw [← hA, ← hB]
  have hsa : a.size ≤ 100000 := by rw [hA, str_size]; exact ha
  have hsb : b.size ≤ 100000 := by rw [hB, str_size]; exact hb
  obtain ⟨C1, hC1⟩ : ∃ C, C = (⟨#[60]⟩ : ByteArray) ++ a := ⟨_, rfl⟩
  obtain ⟨C2, hC2⟩ : ∃ C, C = C1 ++ (⟨#[64]⟩ : ByteArray) := ⟨_, rfl⟩
  obtain ⟨C3, hC3⟩ : ∃ C, C = C2 ++ b := ⟨_, rfl⟩
  obtain ⟨C4, hC4⟩ : ∃ C, C = C3 ++ (⟨#[62]⟩ : ByteArray) := ⟨_, rfl⟩
  have s1 : C1.size = 1 + a.size := by rw [hC1, ByteArray.size_append]; rfl
  have s2 : C2.size = C1.size + 1 := by rw [hC2, ByteArray.size_append]; rfl
  have s3 : C3.size = C2.size + b.size := by rw [hC3, ByteArray.size_append]
  have hcat1 := cat_run _ _ C1 hC1 (by decide) (by omega)
  have hcat2 := cat_run _ _ C2 hC2 (by omega) (by decide)
  have hcat3 := cat_run _ _ C3 hC3 (by omega) (by omega)
  have hcat4 := cat_run _ _ C4 hC4 (by omega) (by decide)
  have hC : C4 = str (60 :: l ++ 64 :: d ++ [62]) := by
    rw [← str_lst C4, hC4, hC3, hC2, hC1, hA, hB]
    simp only [lst_append, lst_str]
    congr 1
    simp [lst]
  have HCC := Aside0.mk hC
  clear hC1 hC2 hC3 hC4 s1 s2 s3 hC hA hB ha hb hsa hsb
  go_enter Tryz.func15, Tryz.ntmps15
  cases n with
  | true =>
    simp only [if_true] at hX
    have HX := Aside0.mk hX
    clear hX
    go_wp2_with (fail)
    go_ret
    exact ⟨by rw [HX.out]; rfl, (Below.refl _ w).alloc (Nat.le_refl _) _⟩
  | false =>
    simp only [Bool.false_eq_true, if_false] at hX
    have HX := Aside0.mk hX
    clear hX
    go_wp2_with (fail)
    go_ret
    exact ⟨by rw [HX.out, ← HCC.out]; rfl, (Below.refl _ w).alloc (Nat.le_refl _) _⟩
theorem dig_slice (M : Nat) (hM : M ≤ 9) (w : World) : (Instr.slice 9 (.string ⟨#[48, 49, 50, 51, 52, 53, 54, 55, 56, 57]⟩) (some (.int .i64 (M : Int))) (some (.int .i64 ((M : Int) + 1))) none).run Tryz.prog w = .ok (.string (str [UInt8.ofNat (48 + M)])) w := by
  rw [run_slice_string_if w 9 _ .i64 .i64 (M : Int) ((M : Int) + 1) Tryz.underlying9, if_pos ⟨by omega, by show (M : Int) + 1 ≤ 10; omega⟩, if_pos ⟨by omega, by omega⟩]
  have h : ∀ M : Nat, M ≤ 9 → (⟨#[48, 49, 50, 51, 52, 53, 54, 55, 56, 57]⟩ : ByteArray).extract (M : Int).toNat ((M : Int) + 1).toNat = str [UInt8.ofNat (48 + M)] := by decide
  rw [h M hM]
theorem digits_len (N : Nat) : ∀ k, N < 10 ^ (k + 1) → (Lib.decDigits N).length ≤ k + 1 := by
  induction N using Nat.strongRecOn with
  | _ N ih =>
    intro k hk
    rw [Lib.decDigits]
    split
    · simp
    · rename_i h
      cases k with
      | zero => omega
      | succ k =>
        have := ih (N / 10) (by omega) k (by rw [Nat.pow_succ] at hk; omega)
        rw [List.length_append, List.length_singleton]
        omega
set_option maxRecDepth 100000 in
set_option maxHeartbeats 1000000 in
theorem digits_any (N : Nat) (hN : N < 1000000000) (w : World) :
    Calls Tryz.prog 16 #[.int .i64 (N : Int)] w fun e w' => e = .returned (.string (str (Lib.decDigits N))) ∧ Below w.heap.size w w' := by
  obtain ⟨X, hX⟩ : ∃ X, X = str (Lib.decDigits N) := ⟨_, rfl⟩
  rw [← hX]
  have HX := Aside0.mk hX
  clear hX
  go_enter Tryz.func16, Tryz.ntmps16
  go_wp2_with (fail)
  go_loopg [0, 3] (N + 1) (fun g v0 v3 wr => ∃ (M : Nat) (S : V.Bs) (C : ByteArray), M + 1 ≤ g ∧ v0 = .int .i64 M ∧ v3 = .string C ∧ C.size ≤ 100 ∧ M < 1000000000 ∧ Aside0 (C = str S ∧ Lib.decDigits M ++ S = Lib.decDigits N ∧ S.length + (Lib.decDigits M).length ≤ 9) ∧ wr = w)
  case atStart =>
    have hl := digits_len N 8 (by omega)
    exact ⟨N, [], _, by omega, rfl, rfl, by decide, hN, ⟨rfl, List.append_nil _, by simpa using hl⟩, rfl⟩
  case round =>
    obtain ⟨M, S, C, hg, rfl, rfl, hC, hM, H, rfl⟩ := hrel
    obtain ⟨wx, rfl⟩ : ∃ wz : World, wz = wr := ⟨_, rfl⟩
    by_cases h9 : 9 < M
    · have h9' : (9 : Int) < (M : Int) := by omega
      have hr : Int.tmod (M : Int) 10 = ((M % 10 : Nat) : Int) := by rw [Int.tmod_eq_emod_of_nonneg (by omega)]; omega
      have hq : Int.tdiv (M : Int) 10 = ((M / 10 : Nat) : Int) := by rw [Int.tdiv_eq_ediv_of_nonneg (by omega)]; omega
      have hw : wrap64 (((M % 10 : Nat) : Int) + 1) = ((M % 10 : Nat) : Int) + 1 := by unfold wrap64; omega
      have hw2 : wrap64 ((M / 10 : Nat) : Int) = ((M / 10 : Nat) : Int) := by unfold wrap64; omega
      have hsl := dig_slice (M % 10) (by omega)
      obtain ⟨r, hr'⟩ : ∃ r : Nat, r = M % 10 := ⟨_, rfl⟩
      obtain ⟨qq, hq'⟩ : ∃ r : Nat, r = M / 10 := ⟨_, rfl⟩
      rw [← hr'] at hr hw hsl
      rw [← hq'] at hq hw2
      obtain ⟨D, hD⟩ : ∃ D, D = str [UInt8.ofNat (48 + r)] := ⟨_, rfl⟩
      rw [← hD] at hsl
      obtain ⟨E, hE⟩ : ∃ E, E = D ++ C := ⟨_, rfl⟩
      have hcat := cat_run D C E hE (by rw [hD, str_size]; simp) (by omega)
      have hES : E = str (UInt8.ofNat (48 + r) :: S) := by
        rw [hE, hD, H.out.1, ← str_append]; rfl
      have hdd : Lib.decDigits M = Lib.decDigits qq ++ [UInt8.ofNat (48 + r)] := by
        rw [Lib.decDigits, dif_neg (by omega), hq', hr']
      have HES := Aside0.mk hES
      have HDD := Aside0.mk hdd
      have HQ := Aside0.mk hq'
      clear hD hE hES hdd hr' hq'
      go_wp2_with (fail)
      go_roundg (gk - 1)
      case measure => have := HQ.out; omega
      case rel =>
        have hqq := HQ.out
        obtain ⟨h1, h2, h3⟩ := H.out
        rw [HDD.out] at h2 h3
        rw [List.length_append, List.length_singleton] at h3
        refine ⟨qq, UInt8.ofNat (48 + r) :: S, E, by omega, ?_, rfl, by rw [HES.out, str_size, List.length_cons]; omega, by omega, ⟨HES.out, by rw [← h2]; simp, by rw [List.length_cons]; omega⟩, rfl⟩
        refine congrArg (Value.int .i64) ?_
        first | rfl | (unfold wrap64; omega) | (simp; unfold wrap64; omega)
    · have h9' : decide ((9 : Int) < (M : Int)) = false := by simp; omega
      have h92 : decide (9 < M) = false := by simp; omega
      have hw : wrap64 ((M : Int) + 1) = (M : Int) + 1 := by unfold wrap64; omega
      have hsl := dig_slice M (by omega)
      obtain ⟨D, hD⟩ : ∃ D, D = str [UInt8.ofNat (48 + M)] := ⟨_, rfl⟩
      rw [← hD] at hsl
      obtain ⟨E, hE⟩ : ∃ E, E = D ++ C := ⟨_, rfl⟩
      have hcat := cat_run D C E hE (by rw [hD, str_size]; simp) (by omega)
      have hES : E = str (Lib.decDigits N) := by
        rw [hE, hD, H.out.1, ← str_append, ← H.out.2.1, Lib.decDigits, dif_pos (by omega)]
      have HES := Aside0.mk hES
      clear hD hE hES
      go_wp2_with (fail)
      go_ret
      exact ⟨by rw [HX.out, ← HES.out]; rfl, Below.refl _ _⟩
end Go.Proofs.YteiknmcmaemcoaaGreatDoor
/- (ZD) Lines that VerbParams writes, in plain Lean. No Go. -/
namespace Go.Proofs.YteiknmcmaemcoaaGreatDoor
set_option linter.unusedVariables false
set_option linter.unusedSimpArgs false
theorem decFrom_app : ∀ (l : V.Bs) (acc : Nat) (b : UInt8), Lib.decFrom acc (l ++ [b]) = (Lib.decFrom acc l).bind fun n => (Lib.digitVal b).map fun d => n * 10 + d
  | [], acc, b => by
    simp only [List.nil_append, Lib.decFrom]
    cases Lib.digitVal b <;> rfl
  | x :: l, acc, b => by
    rw [List.cons_append, Lib.decFrom, Lib.decFrom]
    cases Lib.digitVal x with
    | none => rfl
    | some d => exact decFrom_app l _ b
theorem digit_val (M : Nat) (h : M ≤ 9) : Lib.digitVal (UInt8.ofNat (48 + M)) = some M := by
  have : ∀ M : Nat, M ≤ 9 → Lib.digitVal (UInt8.ofNat (48 + M)) = some M := by decide
  exact this M h
theorem decFrom_digits (N : Nat) : Lib.decFrom 0 (Lib.decDigits N) = some N := by
  induction N using Nat.strongRecOn with
  | _ N ih =>
    rw [Lib.decDigits]
    split
    · rename_i h
      simp only [Lib.decFrom]
      rw [digit_val N (by omega)]
      simp
    · rename_i h
      rw [decFrom_app, ih (N / 10) (by omega), digit_val (N % 10) (by omega)]
      show some (N / 10 * 10 + N % 10) = some N
      congr 1
      omega
theorem digits_all (N : Nat) : ∀ c ∈ Lib.decDigits N, 48 ≤ c.toNat ∧ c.toNat ≤ 57 := by
  induction N using Nat.strongRecOn with
  | _ N ih =>
    rw [Lib.decDigits]
    split
    · rename_i h
      intro c hc
      rw [List.mem_singleton] at hc
      subst hc
      have : ∀ M : Nat, M ≤ 9 → 48 ≤ (UInt8.ofNat (48 + M)).toNat ∧ (UInt8.ofNat (48 + M)).toNat ≤ 57 := by decide
      exact this N (by omega)
    · rename_i h
      intro c hc
      rcases List.mem_append.1 hc with hc | hc
      · exact ih (N / 10) (by omega) c hc
      · rw [List.mem_singleton] at hc
        subst hc
        have : ∀ M : Nat, M ≤ 9 → 48 ≤ (UInt8.ofNat (48 + M)).toNat ∧ (UInt8.ofNat (48 + M)).toNat ≤ 57 := by decide
        exact this (N % 10) (by omega)
theorem digits_ne (N : Nat) : Lib.decDigits N ≠ [] := by
  rw [Lib.decDigits]
  split
  · simp
  · simp
/-- A row of digits, as Atoi reads it. -/
theorem atoi_plain (l : V.Bs) (hl : l.length ≤ 18) (hne : l ≠ []) (hd : ∀ c ∈ l, 48 ≤ c.toNat ∧ c.toNat ≤ 57) (v : Nat) (hv : Lib.decFrom 0 l = some v) : Lib.atoiAll l = .ok (v : Int) := by
  rw [Lib.atoiAll_short l hl]
  cases l with
  | nil => exact absurd rfl hne
  | cons c r =>
    have hc := hd c (by simp)
    have h1 : (c == 45) = false := by
      rw [beq_eq_false_iff_ne]; rintro rfl; exact absurd hc.1 (by decide)
    have h2 : (c == 43) = false := by
      rw [beq_eq_false_iff_ne]; rintro rfl; exact absurd hc.1 (by decide)
    rw [Lib.atoi, h1, h2]
    simp only [Bool.false_eq_true, if_false]
    unfold Lib.decNat
    rw [if_neg (by simp), hv]
    rfl
theorem itoa_nat (N : Nat) : Lib.itoa (N : Int) = Lib.decDigits N := by
  unfold Lib.itoa
  rw [if_neg (by omega)]
  simp
theorem number_digits (N : Nat) (hN : N < 1000000000) : V.number (Lib.decDigits N) = true := by
  have hl := digits_len N 8 (by omega)
  unfold V.number
  rw [atoi_plain _ (by omega) (digits_ne N) (digits_all N) N (decFrom_digits N)]
  simp only [itoa_nat]
  simp
  exact hl
theorem number_nought (N : Nat) (hN : N < 1000000000) : V.number (48 :: Lib.decDigits N) = false := by
  have hl := digits_len N 8 (by omega)
  have hf : Lib.decFrom 0 (48 :: Lib.decDigits N) = some N := by
    rw [Lib.decFrom]
    show (match Lib.digitVal 48 with | some d => Lib.decFrom (0 * 10 + d) (Lib.decDigits N) | none => none) = _
    rw [show Lib.digitVal 48 = some 0 from by decide]
    exact decFrom_digits N
  unfold V.number
  rw [atoi_plain _ (by simp; omega) (by simp) (by
    intro c hc
    rcases List.mem_cons.1 hc with rfl | hc
    · decide
    · exact digits_all N c hc) N hf]
  simp only [itoa_nat]
  have hne : Lib.decDigits N ≠ 48 :: Lib.decDigits N := by
    intro e
    have := congrArg List.length e
    simp at this
  rw [decide_eq_false hne]
  simp
theorem digits_okW (N : Nat) : (Lib.decDigits N).all okW = true := by
  rw [List.all_eq_true]
  intro c hc
  obtain ⟨h1, h2⟩ := digits_all N c hc
  have h : ∀ n : Nat, n < 256 → 48 ≤ n → n ≤ 57 → okW (UInt8.ofNat n) = true := by decide +kernel
  have := h c.toNat c.toNat_lt h1 h2
  rwa [UInt8.ofNat_toNat] at this
/-- Bytes of a local part, of a domain. -/
def okT (c : UInt8) : Bool := okW c && !decide (c = 64) && !decide (c = 62) && !decide (c = 60)
theorem loc_okT {l : V.Bs} (h : V.localOk l = true) : l.all okT = true := by
  unfold V.localOk V.parts at h
  rw [Bool.and_eq_true, List.all_eq_true] at h
  refine splitOn_all okT 46 (by decide) l (fun x hx => ?_)
  have := h.2 x hx
  unfold V.atom at this
  rw [Bool.and_eq_true] at this
  rw [List.all_eq_true] at this ⊢
  intro y hy
  have h2 := this.1 y hy
  have h3 : ∀ n : Nat, n < 256 → (V.isPlain (UInt8.ofNat n) || V.marks.contains (UInt8.ofNat n)) = true → okT (UInt8.ofNat n) = true := by decide +kernel
  have h4 := h3 y.toNat y.toNat_lt
  rw [UInt8.ofNat_toNat] at h4
  exact h4 h2
theorem dom_okT {l : V.Bs} (h : V.domain l = true) : l.all okT = true := by
  unfold V.domain V.parts at h
  rw [Bool.and_eq_true, List.all_eq_true] at h
  refine splitOn_all okT 46 (by decide) l (fun x hx => ?_)
  have := h.2 x hx
  unfold V.label at this
  simp only [Bool.and_eq_true] at this
  have h1 := this.1.1.1.1
  rw [List.all_eq_true] at h1 ⊢
  intro y hy
  have h2 := h1 y hy
  have h3 : ∀ n : Nat, n < 256 → (V.isPlain (UInt8.ofNat n) || (UInt8.ofNat n) == 45) = true → okT (UInt8.ofNat n) = true := by decide +kernel
  have h4 := h3 y.toNat y.toNat_lt
  rw [UInt8.ofNat_toNat] at h4
  exact h4 h2
theorem okT_not {l : V.Bs} (h : l.all okT = true) : l.all okW = true ∧ 64 ∉ l ∧ 62 ∉ l ∧ 32 ∉ l := by
  rw [List.all_eq_true] at h
  refine ⟨?_, ?_, ?_, ?_⟩
  · rw [List.all_eq_true]
    intro x hx
    have := h x hx
    unfold okT at this
    simp only [Bool.and_eq_true] at this
    exact this.1.1.1
  · intro hm; exact absurd (h 64 hm) (by decide)
  · intro hm; exact absurd (h 62 hm) (by decide)
  · intro hm; exact absurd (h 32 hm) (by decide)
theorem check_parts {p : V.Path} (h : V.check p = true) (hn : p.null = false) : V.localOk p.loc = true ∧ V.domain p.dom = true := by
  unfold V.check at h
  rw [hn] at h
  simpa using h
theorem loc_ne {l : V.Bs} (h : V.localOk l = true) : l ≠ [] := by
  rintro rfl
  exact absurd h (by decide)
/-- A right mailbox's text is read as it. -/
theorem pparse_rtext {p : V.Path} (h : V.check p = true) (hn : p.null = false) : V.pparse (V.rtext p) = some p ∧ (V.rtext p).all okW = true := by
  obtain ⟨h1, h2⟩ := check_parts h hn
  obtain ⟨a1, a2, a3, a4⟩ := okT_not (loc_okT h1)
  obtain ⟨b1, b2, b3, b4⟩ := okT_not (dom_okT h2)
  have e : V.rtext p = 60 :: ((p.loc ++ 64 :: p.dom) ++ [62]) := by
    unfold V.rtext
    rw [hn]
    simp
  constructor
  · rw [e]
    unfold V.pparse
    have hne : (60 :: ((p.loc ++ 64 :: p.dom) ++ [62]) : V.Bs) ≠ [60, 62] := by
      intro e
      have := congrArg List.length e
      simp only [List.length_cons, List.length_append, List.length_nil] at this
      omega
    rw [if_neg hne, List.head?_cons, List.tail_cons, List.getLast?_concat, if_pos ⟨rfl, rfl⟩, List.dropLast_concat, cut_eq 64 p.loc p.dom a2]
    have ep : (⟨false, p.loc, p.dom⟩ : V.Path) = p := by cases p; simp at hn; simp [hn]
    simp only
    rw [ep, if_pos h]
  · rw [e, List.all_cons, List.all_append, List.all_append, List.all_cons, a1, b1]
    decide
theorem mail_501 (t : V.Bs) (hl : t.length ≤ 500) (ha : t.all okByte = true) (hm : V.mailbox 2 t = none) : V.code (lMAIL ++ t) = 501 := by
  have e : lMAIL ++ t = 77 :: 65 :: 73 :: 76 :: 32 :: 70 :: 82 :: 79 :: 77 :: 58 :: t := rfl
  have hs : V.strange (lMAIL ++ t) = false := by rw [e]; simp [V.strange, V.after, authB, V.fold, V.low]
  have hf : V.fold (V.first (lMAIL ++ t)) = [109, 97, 105, 108] := by simp [V.first, lMAIL, V.cutAt, V.fold, V.low]
  unfold V.code V.parse
  rw [if_neg (by rw [List.length_append]; show ¬ 510 < 10 + _; omega), List.all_append, ha, if_pos (by rfl), hf]
  unfold V.known
  rw [if_neg (by decide +kernel)]
  unfold V.told
  rw [mail_read, hm, hs]
  rfl
theorem rcpt_501 (t : V.Bs) (hl : t.length ≤ 502) (ha : t.all okByte = true) (hm : V.mailbox 3 t = none) : V.code (lRCPT ++ t) = 501 := by
  have e : lRCPT ++ t = 82 :: 67 :: 80 :: 84 :: 32 :: 84 :: 79 :: 58 :: t := rfl
  have hs : V.strange (lRCPT ++ t) = false := by rw [e]; simp [V.strange, V.after, authB, V.fold, V.low]
  have hf : V.fold (V.first (lRCPT ++ t)) = [114, 99, 112, 116] := by simp [V.first, lRCPT, V.cutAt, V.fold, V.low]
  unfold V.code V.parse
  rw [if_neg (by rw [List.length_append]; show ¬ 510 < 8 + _; omega), List.all_append, ha, if_pos (by rfl), hf]
  unfold V.known
  rw [if_neg (by decide +kernel)]
  unfold V.told
  rw [rcpt_read, hm, hs]
  rfl
theorem mailbox_qs (k : Int) (p : V.Path) (qs : List Prm) (h : V.check p = true) (hn : p.null = false) (hq : ∀ q ∈ qs, (V.word q).all okW = true) :
    V.mailbox k (V.rtext p ++ qs.flatMap V.prmB) = V.mbox k (some p) (V.params k (qs.map V.word) []) ∧ (V.rtext p ++ qs.flatMap V.prmB).all okByte = true := by
  obtain ⟨h1, h2⟩ := pparse_rtext h hn
  obtain ⟨h3, h4⟩ := okW_ok h2
  constructor
  · unfold V.mailbox
    rw [split_words qs _ h4 (fun q hx => (okW_ok (hq q hx)).2), List.headD_cons, List.tail_cons, h1]
  · rw [List.all_append, h3, flat_ok qs hq]
    rfl
def wALWAYS : V.Bs := [65, 76, 87, 65, 89, 83]
theorem word_okW (a b : V.Bs) (ha : a.all okW = true) (hb : b.all okW = true) : (V.word (a, b)).all okW = true := by
  unfold V.word
  rw [List.all_append, List.all_cons, ha, hb]
  decide
theorem pstep_word (k : Int) (a b : V.Bs) (acc : List Prm) (h1 : V.one a keyWords = some a) (h2 : 61 ∉ a) : V.pstep k (V.word (a, b)) acc = if ((V.value k a b).2 && !acc.any (fun y => decide (y.1 = a))) = true then some (acc ++ [(a, (V.value k a b).1)]) else none := by
  unfold V.pstep
  simp only [eqs_word (a, b) h2, h1, Option.getD_some, Option.isSome_some, Bool.true_and]
theorem SIZE_self : V.one wSIZE keyWords = some wSIZE ∧ wSIZE.all okW = true ∧ 61 ∉ wSIZE := by decide +kernel
theorem RET_self : V.one wRET keyWords = some wRET ∧ wRET.all okW = true ∧ 61 ∉ wRET := by decide +kernel
theorem NOTIFY_self : V.one wNOTIFY keyWords = some wNOTIFY ∧ wNOTIFY.all okW = true ∧ 61 ∉ wNOTIFY := by decide +kernel
theorem value_size (b : V.Bs) : V.value 2 wSIZE b = (b, V.number b) := by unfold V.value; simp
theorem value_size3 (b : V.Bs) : V.value 3 wSIZE b = ([], false) := by unfold V.value; simp [wSIZE, wNOTIFY]
theorem value_never2 (b : V.Bs) : V.value 2 wNOTIFY b = ([], false) := by unfold V.value; simp [wSIZE, wNOTIFY, wRET]
theorem value_always : V.value 3 wNOTIFY wALWAYS = ([], false) := by decide +kernel
theorem value_hdrs : V.value 2 wRET [104, 100, 114, 115] = (wHDRS, true) := by decide +kernel
theorem rt_len (p : V.Path) (N : Nat) (hp : V.check p = true) (hn : p.null = false) (hN : N < 1000000000) (hl : p.loc.length + p.dom.length ≤ 200) : (V.rtext p).length ≤ 203 := by
  unfold V.rtext
  rw [hn]
  simp
  omega
def nB (N : Nat) : V.Bs := Lib.decDigits N
theorem nB_len (p : V.Path) (N : Nat) (hp : V.check p = true) (hn : p.null = false) (hN : N < 1000000000) (hl : p.loc.length + p.dom.length ≤ 200) : (nB N).length ≤ 9 := digits_len N 8 (by omega)
theorem pl0 (p : V.Path) (N : Nat) (hp : V.check p = true) (hn : p.null = false) (hN : N < 1000000000) (hl : p.loc.length + p.dom.length ≤ 200) : V.code (lMAIL ++ (V.rtext p ++ [(wSIZE, nB N), (wSIZE, nB N)].flatMap V.prmB)) = 501 := by
  have h1 := rt_len p N hp hn hN hl
  have h2 := nB_len p N hp hn hN hl
  obtain ⟨h3, h4⟩ := mailbox_qs 2 p [(wSIZE, nB N), (wSIZE, nB N)] hp hn (by
    intro q hq
    have : q = (wSIZE, nB N) := by simpa using hq
    rw [this]
    exact word_okW _ _ SIZE_self.2.1 (digits_okW N))
  refine mail_501 _ ?_ h4 ?_
  · simp [V.prmB, wSIZE]
    omega
  · rw [h3]
    simp only [List.map_cons, List.map_nil, V.params]
    rw [pstep_word 2 _ _ _ SIZE_self.1 SIZE_self.2.2, value_size, show V.number (nB N) = true from number_digits N hN]
    simp only [List.any_nil, Bool.not_false, Bool.and_true, if_true]
    rw [pstep_word 2 _ _ _ SIZE_self.1 SIZE_self.2.2]
    simp [V.mbox]
theorem pl1 (p : V.Path) (N : Nat) (hp : V.check p = true) (hn : p.null = false) (hN : N < 1000000000) (hl : p.loc.length + p.dom.length ≤ 200) : V.code (lMAIL ++ (V.rtext p ++ [(wNOTIFY, wNEVER)].flatMap V.prmB)) = 501 := by
  have h1 := rt_len p N hp hn hN hl
  obtain ⟨h3, h4⟩ := mailbox_qs 2 p [(wNOTIFY, wNEVER)] hp hn (by
    intro q hq
    have : q = (wNOTIFY, wNEVER) := by simpa using hq
    rw [this]
    exact word_okW _ _ NOTIFY_self.2.1 (by decide))
  refine mail_501 _ ?_ h4 ?_
  · simp [V.prmB, wNOTIFY, wNEVER]
    omega
  · rw [h3]
    simp only [List.map_cons, List.map_nil, V.params]
    rw [pstep_word 2 _ _ _ NOTIFY_self.1 NOTIFY_self.2.2, value_never2]
    simp [V.mbox]
theorem pl2 (p : V.Path) (N : Nat) (hp : V.check p = true) (hn : p.null = false) (hN : N < 1000000000) (hl : p.loc.length + p.dom.length ≤ 200) : V.code (lRCPT ++ (V.rtext p ++ [(wSIZE, nB N)].flatMap V.prmB)) = 501 := by
  have h1 := rt_len p N hp hn hN hl
  have h2 := nB_len p N hp hn hN hl
  obtain ⟨h3, h4⟩ := mailbox_qs 3 p [(wSIZE, nB N)] hp hn (by
    intro q hq
    have : q = (wSIZE, nB N) := by simpa using hq
    rw [this]
    exact word_okW _ _ SIZE_self.2.1 (digits_okW N))
  refine rcpt_501 _ ?_ h4 ?_
  · simp [V.prmB, wSIZE]
    omega
  · rw [h3]
    simp only [List.map_cons, List.map_nil, V.params]
    rw [pstep_word 3 _ _ _ SIZE_self.1 SIZE_self.2.2, value_size3]
    simp [V.mbox]
theorem pl3 : V.code (lRCPT ++ [60, 62]) = 501 := by decide +kernel
theorem pl4 (p : V.Path) (N : Nat) (hp : V.check p = true) (hn : p.null = false) (hN : N < 1000000000) (hl : p.loc.length + p.dom.length ≤ 200) : V.code (lMAIL ++ (V.rtext p ++ [(wSIZE, 48 :: nB N)].flatMap V.prmB)) = 501 := by
  have h1 := rt_len p N hp hn hN hl
  have h2 := nB_len p N hp hn hN hl
  obtain ⟨h3, h4⟩ := mailbox_qs 2 p [(wSIZE, 48 :: nB N)] hp hn (by
    intro q hq
    have : q = (wSIZE, 48 :: nB N) := by simpa using hq
    rw [this]
    exact word_okW _ _ SIZE_self.2.1 (by rw [List.all_cons, show (nB N).all okW = true from digits_okW N]; decide))
  refine mail_501 _ ?_ h4 ?_
  · simp [V.prmB, wSIZE]
    omega
  · rw [h3]
    simp only [List.map_cons, List.map_nil, V.params]
    rw [pstep_word 2 _ _ _ SIZE_self.1 SIZE_self.2.2, value_size, show V.number (48 :: nB N) = false from number_nought N hN]
    simp [V.mbox]
theorem pl5 (p : V.Path) (N : Nat) (hp : V.check p = true) (hn : p.null = false) (hN : N < 1000000000) (hl : p.loc.length + p.dom.length ≤ 200) : V.code (lMAIL ++ (V.rtext p ++ 32 :: 32 :: V.word (wSIZE, nB N))) = 501 := by
  have h1 := rt_len p N hp hn hN hl
  have h2 := nB_len p N hp hn hN hl
  obtain ⟨h5, h6⟩ := pparse_rtext hp hn
  obtain ⟨h7, h8⟩ := okW_ok h6
  have hw := word_okW _ _ SIZE_self.2.1 (digits_okW N)
  refine mail_501 _ ?_ ?_ ?_
  · simp [V.word, wSIZE]
    omega
  · rw [List.all_append, h7, List.all_cons, List.all_cons, (okW_ok (show (V.word (wSIZE, nB N)).all okW = true from hw)).1]
    decide
  · unfold V.mailbox
    have e : V.splitOn 32 (V.rtext p ++ 32 :: 32 :: V.word (wSIZE, nB N)) = V.rtext p :: [] :: V.splitOn 32 (V.word (wSIZE, nB N)) := by
      rw [V.splitOn_cut, cut_eq 32 _ _ h8]
      show V.rtext p :: V.splitOn 32 (32 :: V.word (wSIZE, nB N)) = _
      rw [V.splitOn, if_pos rfl]
    rw [e, List.headD_cons, List.tail_cons, h5, V.params, show V.pstep 2 [] [] = none from by decide +kernel]
    rfl
theorem pl6 (p : V.Path) (N : Nat) (hp : V.check p = true) (hn : p.null = false) (hN : N < 1000000000) (hl : p.loc.length + p.dom.length ≤ 200) : V.code (lMAIL ++ (32 :: V.rtext p)) = 501 := by
  have h1 := rt_len p N hp hn hN hl
  obtain ⟨h5, h6⟩ := pparse_rtext hp hn
  refine mail_501 _ (by simp; omega) ?_ ?_
  · rw [List.all_cons, (okW_ok h6).1]
    decide
  · unfold V.mailbox
    rw [V.splitOn, if_pos rfl, List.headD_cons, show V.pparse [] = none from by decide +kernel]
    rfl
theorem pl7 (p : V.Path) (N : Nat) (hp : V.check p = true) (hn : p.null = false) (hN : N < 1000000000) (hl : p.loc.length + p.dom.length ≤ 200) : V.code (lRCPT ++ (V.rtext p ++ [(wNOTIFY, wALWAYS)].flatMap V.prmB)) = 501 := by
  have h1 := rt_len p N hp hn hN hl
  obtain ⟨h3, h4⟩ := mailbox_qs 3 p [(wNOTIFY, wALWAYS)] hp hn (by
    intro q hq
    have : q = (wNOTIFY, wALWAYS) := by simpa using hq
    rw [this]
    exact word_okW _ _ NOTIFY_self.2.1 (by decide))
  refine rcpt_501 _ ?_ h4 ?_
  · simp [V.prmB, wNOTIFY, wALWAYS]
    omega
  · rw [h3]
    simp only [List.map_cons, List.map_nil, V.params]
    rw [pstep_word 3 _ _ _ NOTIFY_self.1 NOTIFY_self.2.2, value_always]
    simp [V.mbox]
theorem plG (p : V.Path) (N : Nat) (hp : V.check p = true) (hn : p.null = false) (hN : N < 1000000000) (hl : p.loc.length + p.dom.length ≤ 200) : (V.parse (lMAIL ++ (V.rtext p ++ [(wSIZE, nB N), (wRET, [104, 100, 114, 115])].flatMap V.prmB))).1 = some ⟨2, [], p, [(wSIZE, nB N), (wRET, wHDRS)]⟩ := by
  have h1 := rt_len p N hp hn hN hl
  have h2 := nB_len p N hp hn hN hl
  obtain ⟨h3, h4⟩ := mailbox_qs 2 p [(wSIZE, nB N), (wRET, [104, 100, 114, 115])] hp hn (by
    intro q hq
    have : q = (wSIZE, nB N) ∨ q = (wRET, [104, 100, 114, 115]) := by simpa using hq
    rcases this with rfl | rfl
    · exact word_okW _ _ SIZE_self.2.1 (digits_okW N)
    · exact word_okW _ _ RET_self.2.1 (by decide))
  rw [mail_parse _ (by simp [V.prmB, wSIZE, wRET]; omega) h4, h3]
  simp only [List.map_cons, List.map_nil, V.params]
  rw [pstep_word 2 _ _ _ SIZE_self.1 SIZE_self.2.2, value_size, show V.number (nB N) = true from number_digits N hN]
  simp only [List.any_nil, Bool.not_false, Bool.and_true, if_true]
  rw [pstep_word 2 _ _ _ RET_self.1 RET_self.2.2, value_hdrs]
  simp [V.mbox, wSIZE, wRET]
end Go.Proofs.YteiknmcmaemcoaaGreatDoor
