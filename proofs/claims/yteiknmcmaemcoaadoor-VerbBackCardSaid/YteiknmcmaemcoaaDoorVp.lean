/- What verb's Parse answers. -/
import Derived.Test.YteiknmcmaemcoaaDoorProg
import Derived.WalkKit
import Derived.WalkLawsBesides
import Derived.Outline
import Derived.LoopTactic
import Derived.Lib.Hide
import Derived.Deep.QuietTactic
import Derived.BigQuiet
import Derived.Deep.LoopGhost
import Derived.Deep.DeepCutAuto
import Derived.Deep.CutBlock
import Derived.Deep.RegionHeld3
import Derived.Deep.RegionWith
import Derived.Deep.WholeRow
import Derived.Laws.Rows
import Derived.Laws.Tables
import Derived.Laws.ResultCell
import Derived.StillTailTactics
import Derived.Deep.DeepMust
import Derived.IntWalk
import Derived.KernelRfl
import Derived.Test.YteiknmcmaemcoaaDoorWWords
import Derived.Test.YteiknmcmaemcoaaDoorWLast
import Derived.Test.YteiknmcmaemcoaaDoorWMore
import Derived.RegionTactic
import Derived.Lib.SlicesS
import Derived.Test.YteiknmcmaemcoaaDoorVo
namespace Go.Proofs.YteiknmcmaemcoaaDoor
open Go.RowKit Go.Lib
open Go.Proofs.YteiknmcmaemcoaaDoorW.PrintWords
set_option linter.unusedVariables false
set_option linter.unusedSimpArgs false
def okByte (c : UInt8) : Bool := decide (32 ≤ c ∧ c ≤ 126)
def wordsB : V.Bs := [101, 104, 108, 111, 32, 104, 101, 108, 111, 32, 109, 97, 105, 108, 32, 114, 99, 112, 116, 32, 100, 97, 116, 97, 32, 114, 115, 101, 116, 32, 113, 117, 105, 116, 32, 110, 111, 111, 112, 32, 118, 114, 102, 121, 32, 101, 116, 114, 110, 32, 97, 117, 116, 104, 32, 97, 116, 114, 110]
/-- The first words. -/
def wordsL : List V.Bs := V.splitOn 32 wordsB
/-- What stands ahead of the first blank. -/
def V.first (l : V.Bs) : V.Bs := match V.cutAt 32 l with
  | none => l
  | some (a, _) => a
def V.told (l : V.Bs) : Option V.Cmd × Int := match V.read l with
  | some c => (some c, 0)
  | none => (none, if V.strange l then 504 else 501)
def V.known (l wd : V.Bs) : Option V.Cmd × Int := if wd.isEmpty || !decide (wd ∈ wordsL) then (none, 500) else V.told l
def V.parse (l : V.Bs) : Option V.Cmd × Int :=
  if 510 < l.length then (none, 500) else
  if l.all okByte then V.known l (V.fold (V.first l)) else (none, 500)
theorem first_length (l : V.Bs) : (V.first l).length ≤ l.length := by
  unfold V.first
  cases h : V.cutAt 32 l with
  | none => simp
  | some ab =>
    obtain ⟨a, b⟩ := ab
    obtain ⟨h1, _⟩ := V.cutAt_some h
    have := congrArg List.length h1
    simp at this ⊢
    omega
theorem first_cut (s : ByteArray) (w : World) (hs : s.size ≤ 100000) (hv : Vars w) :
    Calls Tryd.prog 16 #[.string s, .string ⟨#[32]⟩] w fun e w' => (∃ (b : ByteArray) (c : Bool), e = .returned (.tuple #[.string (str (V.first (lst s))), .string b, .bool c])) ∧ Below w.heap.size w w' := by
  obtain ⟨m, hm⟩ := hv.mx
  refine (Tryd.strings_Cut s ⟨#[32]⟩ m w (by omega) hm).mono ?_
  rintro e w' ⟨rfl, q, rfl⟩
  refine ⟨⟨⟨(Lib.cut s.data.toList [32]).2.1.toArray⟩, (Lib.cut s.data.toList [32]).2.2, ?_⟩, below_drewN' (Below.refl _ _) q⟩
  have e1 : (⟨#[32]⟩ : ByteArray).data.toList = [32] := rfl
  have e2 : (Lib.cut s.data.toList [32]).1 = V.first (lst s) := by
    have h := V.cut_one 32 (lst s)
    unfold V.first
    show (Lib.cut (lst s) [32]).1 = _
    rw [h]
    cases V.cutAt 32 (lst s) <;> rfl
  rw [e1, e2]
  rfl
theorem contains_any (ws : List V.Bs) (b t c : Nat) (x : V.Bs) (w : World) (hn : ws.length ≤ 100000) (hb : w.heap[b]? = some (.cells ((ws.map fun l => Value.string (str l))).toArray t (0, 0))) :
    Calls Tryd.prog 18 #[.slice (some ⟨b, 0, none⟩) ws.length c, .string (str x)] w fun e w' => e = .returned (.bool (decide (x ∈ ws))) ∧ w = w' := by
  have h := Tryd.slices_Contains_string b 0 ws.length c (ws.map str) (str x) w (by simp) (by omega) (fun j hj => by
    rw [List.length_map] at hj
    rw [Nat.zero_add, cell_of_row w b _ _ _ _ hb, List.getElem?_toArray, List.getElem?_map, List.getElem?_eq_getElem hj, List.getD_eq_getElem?_getD, List.getElem?_map, List.getElem?_eq_getElem hj]
    rfl)
  refine h.mono ?_
  rintro e w' ⟨rfl, rfl⟩
  refine ⟨?_, rfl⟩
  congr 3
  rw [Bool.eq_iff_iff, Lib.containsS_iff]
  simp [List.take_of_length_le, str_inj]
set_option maxRecDepth 100000 in
set_option maxHeartbeats 4000000 in
theorem parse_any (s : ByteArray) (w : World) (hs : s.size ≤ 100000) (hv : Vars w) :
    Calls Tryd.prog 10 #[.string s] w fun e w' => cmdPost (V.parse (lst s)).1 (.int .i64 0) (.int .i64 (V.parse (lst s)).2) w.heap.size e w' ∧ Below w.heap.size w w' := by
  obtain ⟨T, hT⟩ : ∃ T, T = V.parse (lst s) := ⟨_, rfl⟩
  rw [← hT]
  have HT := Aside0.mk hT
  have HV := Aside0.mk hv
  obtain ⟨wR, hwR⟩ : ∃ wR, wR = w.alloc (.cells zeroC 26) := ⟨_, rfl⟩
  have hbR : Below w.heap.size w wR := by rw [hwR]; exact (Below.refl _ w).alloc (Nat.le_refl _) _
  have hrow : wR.heap[w.heap.size]? = some (.cells zeroC 26 (0, 0)) := by rw [hwR]; exact heap_alloc_new _ _
  have hsz : wR.heap.size = w.heap.size + 1 := by rw [hwR]; simp
  have hrows : ∀ wx, Below wR.heap.size wR wx → wx.heap[w.heap.size]? = some (.cells zeroC 26 (0, 0)) ∧ Below w.heap.size w wx := fun wx h => ⟨(h.block _ (by omega)).trans hrow, hbR.trans (h.mono hbR.size)⟩
  have HVR := Aside0.mk (hv.go hbR)
  have HRO := Aside0.mk hrows
  have HSZ := Aside0.mk hsz
  obtain ⟨⟨c0, c1, c2, c3, c4, c5⟩, f0, f1, f2, f3, f4, f5⟩ := cells6 hrow
  clear hT hv hbR hrow hsz hrows
  go_enter Tryd.func10, Tryd.ntmps10
  go_upto_region 1 with (fail)
  rw [← hwR]
  clear hwR
  by_cases hlong : 510 < s.size
  · have hT : T = (none, 500) := by rw [HT.out]; unfold V.parse; rw [lst_length, if_pos hlong]
    have HTF := Aside0.mk hT
    have t1 : decide ((510 : Int) < (s.size : Int)) = true := by simp; omega
    have t2 : decide (510 < s.size) = true := by simp; omega
    clear hT hlong
    go_wp2_with (fail)
    refine bodyPost_ret (v := .tuple #[cval V.noCmd noSl, .int .i64 500]) ?_ rfl ⟨by rw [HTF.out]; rfl, below6 (HRO.out wR (Below.refl _ _)).2 (Nat.le_refl _)⟩
    exact results_ct (by rfl) _ _ w.heap.size 26 _ (0, 0) _ rfl (row6 (HRO.out wR (Below.refl _ _)).1) Tryd.underlying26 rfl (by kernel_rfl) _ rfl
  · have hT : T = if (lst s).all okByte then V.known (lst s) (V.fold (V.first (lst s))) else (none, 500) := by
      rw [HT.out]; unfold V.parse; rw [lst_length, if_neg hlong]
    have HT1 := Aside0.mk hT
    have t1 : decide ((510 : Int) < (s.size : Int)) = false := by simp; omega
    have t2 : decide (510 < s.size) = false := by simp; omega
    have hs5 : s.size ≤ 510 := by omega
    clear hT hlong
    go_upto_region 4 with (fail)
    clear t1 t2
    go_loopg [17] s.size (fun g v17 wr => ∃ n : Nat, n ≤ s.size ∧ g + n = s.size ∧ v17 = .int .i64 n ∧ wr = wR ∧ Aside0 (((lst s).take n).all okByte = true))
    case atStart => exact ⟨0, by omega, by omega, rfl, rfl, ⟨by simp⟩⟩
    case round =>
      obtain ⟨n, hn, hg, rfl, rfl, H⟩ := hrel
      by_cases hlt : n < s.size
      · obtain ⟨c, hc⟩ : ∃ c, c = (lst s).getD n 0 := ⟨_, rfl⟩
        obtain ⟨x, hx⟩ : ∃ x : Int, x = (c.toNat : Int) := ⟨_, rfl⟩
        have hix := fun w => index_str s n hlt c hc x hx w
        have hstep := all_take (lst s) okByte n (by rw [lst_length]; exact hlt) c hc
        have hbad := all_false (lst s) okByte n (by rw [lst_length]; exact hlt) c hc
        have hok : okByte c = decide (32 ≤ x ∧ x ≤ 126) := by
          subst hx; unfold okByte; simp only [UInt8.le_iff_toNat_le]; apply decide_eq_decide.2; constructor <;> (simp; omega)
        have hlt' : (n : Int) < (s.size : Int) := by omega
        have h0 : (0 : Int) ≤ (n : Int) := by omega
        have HX := Aside0.mk hx
        have HS := Aside0.mk hstep
        have HB := Aside0.mk hbad
        have HOK := Aside0.mk hok
        clear hx hc hstep hbad hok
        by_cases hgood : 32 ≤ x ∧ x ≤ 126
        · obtain ⟨g1, g2⟩ := hgood
          have t1 : decide (x < 32) = false := by simp; omega
          have t2 : decide (126 < x) = false := by simp; omega
          go_wp2_with (fail)
          go_roundg (gk - 1)
          case measure => omega
          case rel => exact ⟨n + 1, by omega, by omega, by go_num, rfl, ⟨by rw [HS.out, H.out, HOK.out]; simp; omega⟩⟩
        · have hT : T = (none, 500) := by
            rw [HT1.out, HB.out (by rw [HOK.out]; exact decide_eq_false hgood)]
            rfl
          have HTF := Aside0.mk hT
          have hRR := HRO.out wr (Below.refl _ _)
          have RR := Aside0.mk hRR
          clear hT hRR
          by_cases g1 : x < 32
          · clear hgood
            go_wp2_with (fail)
            refine bodyPost_ret (v := .tuple #[cval V.noCmd noSl, .int .i64 500]) ?_ rfl ⟨by rw [HTF.out]; rfl, below6 RR.out.2 (Nat.le_refl _)⟩
            exact results_ct (by rfl) _ _ w.heap.size 26 _ (0, 0) _ rfl (row6 RR.out.1) Tryd.underlying26 rfl (by kernel_rfl) _ rfl
          · have g2 : 126 < x := by omega
            have t1 : decide (x < 32) = false := by simp; omega
            clear hgood
            go_wp2_with (fail)
            refine bodyPost_ret (v := .tuple #[cval V.noCmd noSl, .int .i64 500]) ?_ rfl ⟨by rw [HTF.out]; rfl, below6 RR.out.2 (Nat.le_refl _)⟩
            exact results_ct (by rfl) _ _ w.heap.size 26 _ (0, 0) _ rfl (row6 RR.out.1) Tryd.underlying26 rfl (by kernel_rfl) _ rfl
      · have hne : n = s.size := by omega
        have e : (lst s).take n = lst s := by rw [hne, ← lst_length, List.take_length]
        rw [e] at H
        obtain ⟨fi, hfi⟩ : ∃ fi, fi = V.first (lst s) := ⟨_, rfl⟩
        obtain ⟨wd, hwd⟩ : ∃ wd, wd = V.fold fi := ⟨_, rfl⟩
        have hT : T = V.known (lst s) wd := by
          rw [HT1.out, H.out, hwd, hfi]; rfl
        have HT2 := Aside0.mk hT
        have t1 : decide ((n : Int) < (s.size : Int)) = false := by simp; omega
        have t2 : decide (n < s.size) = false := by simp; omega
        have hfc := first_cut s wr hs HVR.out
        rw [← hfi] at hfc
        have hfl : fi.length ≤ 510 := by rw [hfi]; have := first_length (lst s); rw [lst_length] at this; omega
        have hfo : ∀ w, Calls Tryd.prog 17 #[.string (str fi)] w fun e w' => e = .returned (.string (str wd)) ∧ Below w.heap.size w w' := by
          intro w
          have h := fold_any (str fi) w (by rw [str_size]; omega)
          unfold foldB at h
          rw [lst_str, ← hwd] at h
          exact h
        have HFC := Aside0.mk hfc
        have HFO := Aside0.mk hfo
        clear hT hne e hfc hfo hfi hwd c0 c1 c2 c3 c4 c5 f0 f1 f2 f3 f4 f5
        go_upto_region 11 with (first | (go_at_call 16; (with_reducible refine Calls.mono HFC.out ?_); rintro e w1 ⟨⟨cb, cc, rfl⟩, h⟩; have H1 := Aside0.mk h; clear h) | (go_at_call 17; (with_reducible refine Calls.mono (HFO.out _) ?_); rintro e w2 ⟨rfl, h⟩; have H2 := Aside0.mk h; clear h))
        have hb2 : Below wr.heap.size wr w2 := H1.out.trans (H2.out.mono H1.out.size)
        have HB2 := Aside0.mk hb2
        have hemp : (str wd).toList.isEmpty = wd.isEmpty := by rw [emp_str, lst_str]
        obtain ⟨D, hD⟩ : ∃ D, D = str wordsB := ⟨_, rfl⟩
        have hdd : ({ data := #[101, 104, 108, 111, 32, 104, 101, 108, 111, 32, 109, 97, 105, 108, 32, 114, 99, 112, 116, 32, 100, 97, 116, 97, 32, 114, 115, 101, 116, 32, 113, 117, 105, 116, 32, 110, 111, 111, 112, 32, 118, 114, 102, 121, 32, 101, 116, 114, 110, 32, 97, 117, 116, 104, 32, 97, 116, 114, 110] } : ByteArray) = D := hD.symm
        have hsp := split_any D 32 w2 (by rw [hD]; decide) (HVR.out.go hb2) ⟨#[32]⟩ rfl
        rw [show lst D = wordsB by rw [hD, lst_str]] at hsp
        have HSP := Aside0.mk hsp
        clear hb2 hD hsp t1 t2
        rw [hdd]
        clear hdd
        cases hwe : wd.isEmpty with
        | true =>
          have hT : T = (none, 500) := by rw [HT2.out]; unfold V.known; rw [hwe]; rfl
          have HTF := Aside0.mk hT
          have hRR := HRO.out w2 HB2.out
          have RR := Aside0.mk hRR
          obtain ⟨⟨c0, c1, c2, c3, c4, c5⟩, f0, f1, f2, f3, f4, f5⟩ := cells6 hRR.1
          rw [hwe] at hemp
          clear hT hRR hwe
          go_wp2_with (fail)
          refine bodyPost_ret (v := .tuple #[cval V.noCmd noSl, .int .i64 500]) ?_ rfl ⟨by rw [HTF.out]; rfl, below6 RR.out.2 (Nat.le_refl _)⟩
          exact results_ct (by rfl) _ _ w.heap.size 26 _ (0, 0) _ rfl (row6 RR.out.1) Tryd.underlying26 rfl (by kernel_rfl) _ rfl
        | false =>
          have HWE := Aside0.mk hwe
          rw [hwe] at hemp
          have hcon : ∀ (w3 : World) (n : Nat), n = (V.splitOn 32 wordsB).length → w3 = w2.alloc (.cells (((V.splitOn 32 wordsB).map fun l => Value.string (str l))).toArray 9) → Calls Tryd.prog 18 #[.slice (some ⟨w2.heap.size, 0, none⟩) n n, .string (str wd)] w3 fun e w' => e = .returned (.bool (decide (wd ∈ wordsL))) ∧ w3 = w' := by
            intro w3 n hn hw3
            subst hn
            exact contains_any (V.splitOn 32 wordsB) w2.heap.size 9 _ wd w3 (by decide) (by rw [hw3]; exact heap_alloc_new _ _)
          have HCO := Aside0.mk hcon
          clear hcon hwe
          cases hin : decide (wd ∈ wordsL) with
          | false =>
            have hT : T = (none, 500) := by rw [HT2.out]; unfold V.known; rw [HWE.out, hin]; rfl
            have HTF := Aside0.mk hT
            have HIN := Aside0.mk hin
            clear hT hin
            go_wp2_with (first | (go_at_call 19; (with_reducible refine Calls.mono HSP.out ?_); rintro e w3 ⟨n3, hn3, rfl, hw3⟩; have HN3 := Aside0.mk hn3; have HW3 := Aside0.mk hw3; have HB3 := Aside0.mk (show Below w2.heap.size w2 w3 by rw [hw3]; exact (Below.refl _ _).alloc (Nat.le_refl _) _); clear hn3 hw3; have RR := Aside0.mk (HRO.out w3 (HB2.out.trans (HB3.out.mono HB2.out.size))); obtain ⟨⟨c0, c1, c2, c3, c4, c5⟩, f0, f1, f2, f3, f4, f5⟩ := cells6 RR.out.1) | (go_at_call 18; (with_reducible refine Calls.mono (HCO.out w3 n3 HN3.out HW3.out) ?_); rintro e w4 ⟨rfl, rfl⟩; rw [HIN.out]))
            refine bodyPost_ret (v := .tuple #[cval V.noCmd noSl, .int .i64 500]) ?_ rfl ⟨by rw [HTF.out]; rfl, below6 RR.out.2 (Nat.le_refl _)⟩
            exact results_ct (by rfl) _ _ w.heap.size 26 _ (0, 0) _ rfl (row6 RR.out.1) Tryd.underlying26 rfl (by kernel_rfl) _ rfl
          | true =>
            have hT : T = V.told (lst s) := by rw [HT2.out]; unfold V.known; rw [HWE.out, hin]; rfl
            have HT3 := Aside0.mk hT
            have HIN := Aside0.mk hin
            clear hT hin
            go_upto_region 13 with (first | (go_at_call 19; (with_reducible refine Calls.mono HSP.out ?_); rintro e w3 ⟨n3, hn3, rfl, hw3⟩; have HN3 := Aside0.mk hn3; have HW3 := Aside0.mk hw3; have HB3 := Aside0.mk (show Below w2.heap.size w2 w3 by rw [hw3]; exact (Below.refl _ _).alloc (Nat.le_refl _) _); clear hn3 hw3) | (go_at_call 18; (with_reducible refine Calls.mono (HCO.out w3 n3 HN3.out HW3.out) ?_); rintro e w4 ⟨rfl, rfl⟩; rw [HIN.out]))
            have hb3 : Below wr.heap.size wr w3 := HB2.out.trans (HB3.out.mono HB2.out.size)
            have hrd := read_any s w3 (by omega) (HVR.out.go hb3)
            have HRB := Aside0.mk hb3
            have HST := Aside0.mk (fun w => strange_any s w hs)
            clear hb3
            cases hrr : V.read (lst s) with
            | some c =>
              have hT : T = (some c, 0) := by rw [HT3.out]; unfold V.told; rw [hrr]
              have HTF := Aside0.mk hT
              rw [hrr] at hrd
              have HRD := Aside0.mk hrd
              clear hT hrr hrd
              go_wp2_with (first | (go_at_call 20; (with_reducible refine Calls.mono HRD.out ?_); rintro e w5 ⟨h5, h⟩; obtain ⟨v5, rfl, hR5, hl5⟩ := h5; obtain ⟨A5, q5, rfl, _, _⟩ := Kd.R_reads hR5; unfold cval cv; have HR5 := Aside0.mk hR5; have HL5 := Aside0.mk hl5; have H5 := Aside0.mk (HRB.out.trans (h.mono HRB.out.size)); have hROW := ((H5.out.alloc H5.out.size (.cells #[.int .i64 c.kind, .string (str c.text), .bool c.path.null, .string (str c.path.loc), .string (str c.path.dom), .slice A5 c.prms.length q5] 26))); have ROW := Aside0.mk (HRO.out _ hROW); clear h hR5 hl5 hROW; obtain ⟨⟨c0, c1, c2, c3, c4, c5⟩, f0, f1, f2, f3, f4, f5⟩ := cells6 ROW.out.1))
              refine bodyPost_ret (v := .tuple #[cval c (.slice A5 c.prms.length q5), .int .i64 0]) ?_ rfl ⟨?_, below6 ROW.out.2 (Nat.le_refl _)⟩
              · exact results_ct (by rfl) _ _ w.heap.size 26 _ (0, 0) _ rfl (row6 ROW.out.1) Tryd.underlying26 rfl (by kernel_rfl) _ rfl
              · rw [HTF.out]
                have hz := HRB.out.size
                have hz2 := HSZ.out
                exact ⟨_, rfl, fin_R (Kd.R_alloc HR5.out _) (by omega) (by omega), HL5.out⟩
            | none =>
              rw [hrr] at hrd
              have HRD := Aside0.mk hrd
              cases hst : V.strange (lst s) with
              | true =>
                have hT : T = (none, 504) := by rw [HT3.out]; unfold V.told; rw [hrr, hst]; rfl
                have HTF := Aside0.mk hT
                have HSG := Aside0.mk hst
                clear hT hrr hrd hst
                go_wp2_with (first | (go_at_call 20; (with_reducible refine Calls.mono HRD.out ?_); rintro e w5 ⟨h5, h⟩; obtain rfl : e = .returned (.tuple #[cval V.noCmd noSl, .bool false]) := h5; unfold cval cv V.noCmd V.noPath noSl; have H5 := Aside0.mk ((HRB.out.trans (h.mono HRB.out.size)).alloc (Nat.le_trans HRB.out.size h.size) (.cells #[.int .i64 0, .string (str []), .bool false, .string (str []), .string (str []), .slice none 0 0] 26)); clear h) | (go_at_call 21; (with_reducible refine Calls.mono (HST.out _) ?_); rintro e w6 ⟨rfl, h⟩; have ROW := Aside0.mk (HRO.out _ (H5.out.trans (h.mono H5.out.size))); clear h; obtain ⟨⟨c0, c1, c2, c3, c4, c5⟩, f0, f1, f2, f3, f4, f5⟩ := cells6 ROW.out.1; rw [HSG.out]))
                refine bodyPost_ret (v := .tuple #[cval V.noCmd noSl, .int .i64 504]) ?_ rfl ⟨by rw [HTF.out]; rfl, below6 ROW.out.2 (Nat.le_refl _)⟩
                exact results_ct (by rfl) _ _ w.heap.size 26 _ (0, 0) _ rfl (row6 ROW.out.1) Tryd.underlying26 rfl (by kernel_rfl) _ rfl
              | false =>
                have hT : T = (none, 501) := by rw [HT3.out]; unfold V.told; rw [hrr, hst]; rfl
                have HTF := Aside0.mk hT
                have HSG := Aside0.mk hst
                clear hT hrr hrd hst
                go_wp2_with (first | (go_at_call 20; (with_reducible refine Calls.mono HRD.out ?_); rintro e w5 ⟨h5, h⟩; obtain rfl : e = .returned (.tuple #[cval V.noCmd noSl, .bool false]) := h5; unfold cval cv V.noCmd V.noPath noSl; have H5 := Aside0.mk ((HRB.out.trans (h.mono HRB.out.size)).alloc (Nat.le_trans HRB.out.size h.size) (.cells #[.int .i64 0, .string (str []), .bool false, .string (str []), .string (str []), .slice none 0 0] 26)); clear h) | (go_at_call 21; (with_reducible refine Calls.mono (HST.out _) ?_); rintro e w6 ⟨rfl, h⟩; have ROW := Aside0.mk (HRO.out _ (H5.out.trans (h.mono H5.out.size))); clear h; obtain ⟨⟨c0, c1, c2, c3, c4, c5⟩, f0, f1, f2, f3, f4, f5⟩ := cells6 ROW.out.1; rw [HSG.out]))
                refine bodyPost_ret (v := .tuple #[cval V.noCmd noSl, .int .i64 501]) ?_ rfl ⟨by rw [HTF.out]; rfl, below6 ROW.out.2 (Nat.le_refl _)⟩
                exact results_ct (by rfl) _ _ w.heap.size 26 _ (0, 0) _ rfl (row6 ROW.out.1) Tryd.underlying26 rfl (by kernel_rfl) _ rfl
end Go.Proofs.YteiknmcmaemcoaaDoor
