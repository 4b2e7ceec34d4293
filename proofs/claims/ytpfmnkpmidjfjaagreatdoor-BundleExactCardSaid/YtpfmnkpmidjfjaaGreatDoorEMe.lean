/- Texts of this seat, one behind the other: the plain law, the walks. -/
import Derived.Test.YtpfmnkpmidjfjaaGreatDoorProg
import Derived.WalkKit
import Derived.WalkLawsBesides
import Derived.Outline
import Derived.LoopTactic
import Derived.Lib.Hide
import Derived.Deep.QuietTactic
import Derived.BigQuiet
import Derived.Deep.LoopGhost
import Derived.Deep.DeepCutAuto
import Derived.Deep.CutBlock
import Derived.Deep.RegionHeld3
import Derived.Deep.RegionWith
import Derived.Deep.WholeRow
import Derived.Laws.Rows
import Derived.Laws.Tables
import Derived.Laws.ResultCell
import Derived.StillTailTactics
import Derived.Deep.DeepMust
import Derived.IntWalk
import Derived.KernelRfl
import Derived.Test.YtpfmnkpmidjfjaaGreatDoorEXa
import Derived.RegionTactic
import Derived.Test.YtpfmnkpmidjfjaaGreatDoorEMa
import Derived.Test.YtpfmnkpmidjfjaaGreatDoorEMb
import Derived.Test.YtpfmnkpmidjfjaaGreatDoorEMc
import Derived.Test.YtpfmnkpmidjfjaaGreatDoorEMd
/- The reference's ReadBundle: what it answers. -/
namespace Go.Proofs.YtpfmnkpmidjfjaaGreatDoor
open Go.RowKit Go.Lib
open Go.Proofs.YtpfmnkpmidjfjaaGreatDoorW.PrintWords
set_option linter.unusedVariables false
set_option linter.unusedSimpArgs false
theorem addr_add0 (ad : Addr) : ad.add 0 = ad := by unfold Addr.add; simp
theorem sl_head {A : Option Addr} {n c E : Nat} (hE : E ≤ c) (W : World) : (Instr.slice 25 (.slice A n c) none (some (.int .i64 (E : Int))) none).run Tryz.prog W = .ok (.slice A E c) W := by
 obtain ⟨i, hi, hsz⟩ := infoU8i
 have ht := Tryz.underlying25
 have hel : Tryz.prog.elem 25 = 5 := by simp [Program.elem, ht]
 have hu : Tryz.prog.underlying 25 = some (.slice (Tryz.prog.elem 25)) := by rw [hel]; exact ht
 rw [run_slice_h W 25 A n c hu .i64 (E : Int) (by omega) (by omega), hel]
 simp [sizeOf, typeInfo, hi, hsz, sliced, Result.andThen]
 intro _
 cases A with
 | none => rfl
 | some a => simp [addr_add0]
theorem words_cells {w : World} {b : Nat} {v : Value} {WS : List B.Bs} (h : Kd.R Kd.string 9 w b (fun _ => True) v (WS.map str)) (hn : 0 < WS.length) : ∃ g c, v = .slice (some ⟨g, 0, none⟩) WS.length c ∧ WS.length ≤ c ∧ ∀ i, i < WS.length → w.cell? ⟨g, i, none⟩ = some (.string (str (WS.getD i []))) := by
 obtain ⟨A, c, rfl, hc, hC⟩ := Kd.R_reads h
 obtain ⟨inner, _, h2⟩ := Kd.R_own h
 rw [List.length_map] at *
 obtain ⟨ad, hA, hx⟩ := hC.2.2 hn
 rcases h2 with ⟨h2, _⟩ | ⟨g, cap, cur, h2, _⟩
 ·injection h2 with h3 h4 h5
  rw [hA] at h3; cases h3
 ·injection h2 with h3 h4 h5
  subst h3
  obtain rfl := Option.some.inj hA
  refine ⟨g, c, rfl, hc, fun i hi => ?_⟩
  obtain ⟨cs, k1, k2, k3⟩ := hx i (str (WS.getD i [])) (by rw [List.getElem?_map, List.getD_eq_getElem?_getD, List.getElem?_eq_getElem hi]; rfl)
  have k4 := k3 0 (.string (str (WS.getD i []))) (by rw [k2]; rfl)
  have e : (⟨g, 0, none⟩ : Addr).add (i * Kd.string.sz + 0) = ⟨g, i, none⟩ := by
   show (⟨g, 0, none⟩ : Addr).add (i * 1 + 0) = _
   unfold Addr.add
   by_cases hj : i * 1 + 0 = 0
   ·rw [if_pos hj]; simp at hj; rw [hj]
   ·rw [if_neg hj]; simp
  rw [e] at k4
  exact k4
theorem ints_cells {w : World} {b : Nat} {v : Value} {xs : List Int} (h : Kd.R (Kd.int .i64) 3 w b (fun _ => True) v xs) (hn : 0 < xs.length) : ∃ g c, v = .slice (some ⟨g, 0, none⟩) xs.length c ∧ ∀ i, i < xs.length → w.cell? ⟨g, i, none⟩ = some (.int .i64 (xs.getD i 0)) := by
 obtain ⟨A, c, rfl, hc, hC⟩ := Kd.R_reads h
 obtain ⟨inner, _, h2⟩ := Kd.R_own h
 obtain ⟨ad, hA, hx⟩ := hC.2.2 hn
 rcases h2 with ⟨h2, _⟩ | ⟨g, cap, cur, h2, _⟩
 ·injection h2 with h3 h4 h5
  rw [hA] at h3; cases h3
 ·injection h2 with h3 h4 h5
  subst h3
  obtain rfl := Option.some.inj hA
  refine ⟨g, c, rfl, fun i hi => ?_⟩
  obtain ⟨cs, k1, k2, k3⟩ := hx i (xs.getD i 0) (by rw [List.getD_eq_getElem?_getD, List.getElem?_eq_getElem hi]; rfl)
  have k4 := k3 0 (.int .i64 (xs.getD i 0)) (by rw [k2]; rfl)
  have e : (⟨g, 0, none⟩ : Addr).add (i * (Kd.int .i64).sz + 0) = ⟨g, i, none⟩ := by
   show (⟨g, 0, none⟩ : Addr).add (i * 1 + 0) = _
   unfold Addr.add
   by_cases hj : i * 1 + 0 = 0
   ·rw [if_pos hj]; simp at hj; rw [hj]
   ·rw [if_neg hj]; simp
  rw [e] at k4
  exact k4
theorem infoInt : (Tryz.prog.info? 3).map (fun i => (i.zero, i.size, i.bytes)) = some (some (.int .i64 0), 1, 8) := by kernel_rfl
def nadd (vs : List Int) (o : Option (List Int)) : Option (List Int) := match o with
 | none => none
 | some l => some (vs ++ l)
theorem nums_none {x : B.Bs} {l : List B.Bs} (h : B.number x = none) : B.numbers (x :: l) = none := by
 rw [B.numbers, h]
theorem nums_some {x : B.Bs} {l : List B.Bs} {v : Int} {vs : List Int} (h : B.number x = some v) : nadd vs (B.numbers (x :: l)) = nadd (vs ++ [v]) (B.numbers l) := by
 rw [B.numbers, h]
 simp only
 cases B.numbers l with
 | none => rfl
 | some y => unfold nadd; simp
theorem number_pos {x : B.Bs} {v : Int} (h : B.number x = some v) : 0 ≤ v := by
 unfold B.number at h
 split at h
 ·split at h
  ·rename_i h2
   obtain rfl := Option.some.inj h
   exact h2.1
  ·cases h
 ·cases h
theorem five {xs : List Int} (h : xs.length = 5) : ∃ x0 x1 x2 x3 x4, xs = [x0, x1, x2, x3, x4] := by
 match xs, h with
 | [x0, x1, x2, x3, x4], _ => exact ⟨x0, x1, x2, x3, x4, rfl⟩
theorem head_no {t line rest : B.Bs} (hc : B.cut t = some (line, rest)) (h : ¬ (V.splitOn 32 line).length = 6) : B.headOf t = none := by
 unfold B.headOf
 rw [hc]
 simp only
 cases hs : V.splitOn 32 line with
 | nil => rfl
 | cons w ws =>
  simp only
  rw [if_neg]
  rintro ⟨h1, _⟩
  rw [hs, List.length_cons] at h
  omega
theorem head_six {t line rest : B.Bs} (hc : B.cut t = some (line, rest)) (h : (V.splitOn 32 line).length = 6) : B.headOf t = if (V.splitOn 32 line).getD 0 [] = B.wBundle then (match B.numbers ((V.splitOn 32 line).drop 1) with
  | none => none
  | some vs => if vs.getD 0 0 ≤ 1 ∧ vs.getD 3 0 = (rest.length : Int) then some (vs, rest) else none) else none := by
 unfold B.headOf
 rw [hc]
 simp only
 cases hs : V.splitOn 32 line with
 | nil => rw [hs] at h; cases h
 | cons w ws =>
  rw [hs, List.length_cons] at h
  have h5 : ws.length = 5 := by omega
  simp only [h5, true_and, List.getD_cons_zero, List.drop_succ_cons, List.drop_zero]
  by_cases hw : w = B.wBundle
  ·rw [if_pos hw, if_pos hw]
   cases B.numbers ws with
   | none => rfl
   | some vs => rfl
  ·rw [if_neg hw, if_neg hw]
theorem rdmails_fit : ∀ (k : Nat) (l : B.Bs), l.length ≤ 100000 → (∀ m ∈ B.rdmails k l, B.Fit m) ∧ (B.rdmails k l).length ≤ k
 | 0, l, _ => by simp [B.rdmails]
 | k + 1, l, hl => by
  unfold B.rdmails
  cases hm : B.rdmail l with
  | none => simp
  | some q =>
   obtain ⟨m, r⟩ := q
   obtain ⟨h1, h2⟩ := mail_fit (B.rdmail_mail hm) hl
   obtain ⟨h3, h4⟩ := rdmails_fit k r (by omega)
   simp only
   refine ⟨fun x hx => ?_, by simp; omega⟩
   rcases List.mem_cons.1 hx with rfl | hx
   ·exact h1
   ·exact h3 x hx
set_option maxRecDepth 100000 in
set_option maxHeartbeats 8000000 in
theorem rreadb_any {A : Option Addr} {c : Nat} {t : B.Bs} (w : World) (hb : Bt w A c t) (hl : t.length ≤ 50000) :
  Calls Tryz.prog 16 #[.slice A t.length c] w fun e w' => readPost t e w' ∧ Below w.heap.size w w' := by
 have HBT := Aside0.mk hb
 have hcap := hb.cap
 obtain ⟨w0, hw0⟩ : ∃ w0, w0 = w.alloc (.cells #[.int .i64 0, .int .i64 0, .slice none 0 0] 24) := ⟨_, rfl⟩
 have H0 := Aside0.mk (show Below w.heap.size w w0 by rw [hw0]; exact (Below.refl _ _).alloc (Nat.le_refl _) _)
 have HR0 := Aside0.mk (show w0.heap[w.heap.size]? = some (.cells #[.int .i64 0, .int .i64 0, .slice none 0 0] 24 (0, 0)) by rw [hw0]; exact heap_alloc_new _ _)
 have HW0 := Aside0.mk hw0
 have hend := rend_any (HBT.out.on H0.out) (by omega : t.length ≤ 900000) 0 (Nat.zero_le _)
 have HRR := Aside0.mk (B.rread_eq t)
 clear hb hw0
 cases hc : B.cut t with
 | none =>
  unfold B.rend at hend
  rw [List.drop_zero, hc] at hend
  have HE := Aside0.mk hend
  have HNO := Aside0.mk (show B.read t = (B.none0, 5) by unfold B.read B.headOf; rw [hc])
  clear hend hc
  go_enter Tryz.func16, Tryz.ntmps16
  go_upto_region 1 with (fail)
  rw [← HW0.out]
  go_wp2_with (first | (go_at_call 37; (with_reducible refine Calls.mono (HE.out) ?_); rintro e w1 ⟨rfl, h⟩; have H1 := Aside0.mk (H0.out.trans (h.mono H0.out.size)); have HR1 := Aside0.mk (row_on h HR0.out); (clear h); (try clear a0 a1 a2 f0 f1 f2); obtain ⟨a0, a1, a2, f0, f1, f2⟩ := cells3 HR1.out))
  refine bodyPost_ret (v := .tuple #[.agg #[.int .i64 0, .int .i64 0, .slice none 0 0], .int .i64 5]) ?_ rfl ⟨⟨none, 0, by rw [HNO.out]; rfl, by rw [HNO.out]; exact bn_none _⟩, ?_⟩
  ·exact results_ct (by rfl) _ _ w.heap.size 24 _ (0, 0) _ rfl (row3 HR1.out) Tryz.underlying24 rfl (by kernel_rfl) _ rfl
  ·exact ((H1.out.setCell (Nat.le_refl _) _).setCell (Nat.le_refl _) _).setCell (Nat.le_refl _) _
 | some q =>
  obtain ⟨line, rest⟩ := q
  have hc0 : B.cut (t.drop 0) = some (line, rest) := hc
  obtain ⟨q1, q2, q3, q4⟩ := line_at hc0 (Nat.zero_le _)
  obtain ⟨E, hE⟩ : ∃ E, E = 0 + line.length := ⟨_, rfl⟩
  rw [← hE] at q1 q3 q4
  rw [q4] at hend
  have HE := Aside0.mk hend
  obtain ⟨A5, c5, hsl5, hbt5⟩ := rest_sl (A := A) (c := c) hc0 (Nat.zero_le _) hE
  have hEc : E ≤ c := by omega
  have hsl := sl_head (A := A) (n := t.length) (c := c) (E := E) hEc
  have HBR := Aside0.mk (hbt5 w HBT.out)
  have HBL := Aside0.mk (show Bt w A c line by
   have := HBT.out.take line.length (by omega)
   rw [List.drop_zero] at q2
   rw [q2] at this
   exact this)
  have hE1 : (E : Int) ≤ 50000 := by omega
  have hEl : line.length = E := by omega
  have HEL := Aside0.mk hEl
  have hrl : rest.length ≤ 50000 := by omega
  obtain ⟨WS, hWS⟩ : ∃ WS, WS = V.splitOn 32 line := ⟨_, rfl⟩
  have hwl : ∀ x ∈ WS, x.length ≤ 100000 := by
   intro x hx
   rw [hWS] at hx
   have := splitOn_mem 32 _ x hx
   omega
  have hwp : 0 < WS.length := by rw [hWS]; exact List.length_pos_iff.2 (V.splitOn_ne 32 line)
  have HWD := Aside0.mk (show ∀ W, Calls Tryz.prog 38 #[.string (str line)] W fun e w' => (∃ v, e = .returned v ∧ Kd.R Kd.string 9 w' W.heap.size (fun _ => True) v (WS.map str)) ∧ Below W.heap.size W w' from fun W => by
   have h := PBundleExact.wherryref11_words.calls ((str line).size + 2) (str line) _ W (ref_words (str line) (by rw [str_size]; omega))
   rw [lst_str, ← hWS] at h
   exact h.mono (fun e w' ⟨v, h1, h2, h3⟩ => ⟨⟨v, h1, h2⟩, h3⟩))
  have HWL := Aside0.mk hwl
  have hno := fun h => head_no hc h
  have hsix := fun h => head_six hc h
  rw [← hWS] at hno hsix
  have HCV := Aside0.mk (show ∀ W, Below w.heap.size w W → (convert 25 9 (.slice A E c)).run Tryz.prog W = .ok (.string (str line)) W from fun W hW => by rw [← HEL.out]; exact bt_string (HBL.out.on hW))
  clear hend q1 q2 q3 q4 hbt5 hc hc0 hWS hwl hE hEl
  go_enter Tryz.func16, Tryz.ntmps16
  go_upto_region 1 with (fail)
  rw [← HW0.out]
  go_upto_region 4 with (first | (go_at_call 37; (with_reducible refine Calls.mono (HE.out) ?_); rintro e w1 ⟨rfl, h⟩; have H1 := Aside0.mk (H0.out.trans (h.mono H0.out.size)); have HR1 := Aside0.mk (row_on h HR0.out); (clear h); (try clear a0 a1 a2 f0 f1 f2); obtain ⟨a0, a1, a2, f0, f1, f2⟩ := cells3 HR1.out))
  have hcv := HCV.out w1 H1.out
  go_upto_region 5 with (first | (go_at_call 38; (with_reducible refine Calls.mono (HWD.out _) ?_); rintro e w2 ⟨⟨v2, rfl, hs⟩, h⟩; have H2 := Aside0.mk (H1.out.trans (h.mono H1.out.size)); have HR2 := Aside0.mk (row_on h HR1.out); have HS2 := Aside0.mk hs; clear hs; (try clear hcv); (clear h); (try clear a0 a1 a2 f0 f1 f2); obtain ⟨a0, a1, a2, f0, f1, f2⟩ := cells3 HR2.out))
  obtain ⟨gw, cw, rfl, hcw, hcells⟩ := words_cells HS2.out hwp
  have HCW := Aside0.mk (show ∀ W, Below w2.heap.size w2 W → ∀ i, i < WS.length → W.cell? ⟨gw, i, none⟩ = some (.string (str (WS.getD i []))) from fun W hW i hi => cell_up hW (hcells i hi))
  clear hcells
  by_cases h6 : WS.length = 6
  ·have hsx := hsix h6
   clear hno hsix
   have h6I : ((WS.length : Int) == 6) = true := beq_iff_eq.2 (by omega)
   have h6J : ((WS.length : Int) != 6) = false := by rw [bne, h6I]; rfl
   have H6 := Aside0.mk h6
   have hw0 := HCW.out w2 (Below.refl _ _) 0 hwp
   obtain ⟨wd0, hwd0⟩ : ∃ x, x = WS.getD 0 [] := ⟨_, rfl⟩
   rw [← hwd0] at hw0 hsx
   clear hwd0 h6
   by_cases hwb : wd0 = B.wBundle
   ·rw [if_pos hwb] at hsx
    have HSX := Aside0.mk hsx
    have hne : ((str wd0).toList == [66, 85, 78, 68, 76, 69]) = true := by rw [eq_const _ _ _ rfl, lst_str]; exact decide_eq_true hwb
    clear hsx hwb
    go_upto_region 7 with (fail)
    go_wp2_with (fail)
    clear a0 a1 a2 f0 f1 f2
    go_loopg [6, 7] 5 (fun gf v6 v7 wr => ∃ (vs : List Int) (i : Nat), v7 = .int .i64 (i : Int) ∧ 1 ≤ i ∧ i + gf = 6 ∧ vs.length + 1 = i ∧ Aside0 (B.numbers (WS.drop 1) = nadd vs (B.numbers (WS.drop i))) ∧ Aside0 (Below w.heap.size w wr ∧ Below w2.heap.size w2 wr ∧ wr.heap[w.heap.size]? = some (.cells #[.int .i64 0, .int .i64 0, .slice none 0 0] 24 (0, 0)) ∧ Kd.R (Kd.int .i64) 3 wr w2.heap.size (fun _ => True) v6 vs))
    case atStart => exact ⟨[], 1, rfl, by omega, by omega, rfl, ⟨by unfold nadd; cases B.numbers (WS.drop 1) <;> rfl⟩, ⟨H2.out, Below.refl _ _, HR2.out, Kd.R_nil _ _ _ _ _⟩⟩
    case round =>
     obtain ⟨vs, i, rfl, hi1, hig, hvl, HN, H⟩ := hrel
     obtain ⟨w3, rfl⟩ : ∃ wz : World, wz = wr := ⟨_, rfl⟩
     obtain ⟨g1, rfl⟩ : ∃ z : Nat, z = gk := ⟨_, rfl⟩
     obtain ⟨A6, c6, rfl⟩ := Kd.R_slice H.out.2.2.2
     have H3 := Aside0.mk H.out.1
     have HB3 := Aside0.mk H.out.2.1
     have HR3 := Aside0.mk H.out.2.2.1
     have HI3 := Aside0.mk H.out.2.2.2
     clear H
     obtain ⟨a0, a1, a2, f0, f1, f2⟩ := cells3 HR3.out
     by_cases hi : i < 6
     ·have hiI : (i : Int) < 6 := by omega
      have hlt : i < WS.length := by have := H6.out; omega
      have hwi := HCW.out w3 HB3.out i hlt
      obtain ⟨x, hx⟩ : ∃ x, x = WS.getD i [] := ⟨_, rfl⟩
      rw [← hx] at hwi
      have hdr : WS.drop i = x :: WS.drop (i + 1) := by rw [List.drop_eq_getElem_cons hlt, hx, List.getD_eq_getElem?_getD, List.getElem?_eq_getElem hlt]; rfl
      have hxl : x.length ≤ 100000 := HWL.out x (by rw [hx]; exact getD_mem WS i hlt _)
      have hnum := rnumber_any x w3 hxl
      have hi0 : (0 : Int) ≤ (i : Int) := by omega
      have hiW : (i : Int) < (WS.length : Int) := by omega
      cases hn : B.number x with
      | none =>
       rw [hn] at hnum
       have HNM := Aside0.mk hnum
       have HNO := Aside0.mk (show B.read t = (B.none0, 5) by
        have h := HSX.out
        rw [HN.out, hdr, nums_none hn] at h
        unfold B.read
        rw [h]
        rfl)
       clear hnum hn hdr hx
       go_wp2_with (first | (go_at_call 39; (with_reducible refine Calls.mono (HNM.out) ?_); rintro e w4 ⟨rfl, h⟩; have H4 := Aside0.mk (H3.out.trans (h.mono H3.out.size)); have HR4 := Aside0.mk (row_on h HR3.out); (clear h); (try clear a0 a1 a2 f0 f1 f2); obtain ⟨a0, a1, a2, f0, f1, f2⟩ := cells3 HR4.out))
       refine bodyPost_ret (v := .tuple #[.agg #[.int .i64 0, .int .i64 0, .slice none 0 0], .int .i64 5]) ?_ rfl ⟨⟨none, 0, by rw [HNO.out]; rfl, by rw [HNO.out]; exact bn_none _⟩, ?_⟩
       ·exact results_ct (by rfl) _ _ w.heap.size 24 _ (0, 0) _ rfl (row3 HR4.out) Tryz.underlying24 rfl (by kernel_rfl) _ rfl
       ·exact ((H4.out.setCell (Nat.le_refl _) _).setCell (Nat.le_refl _) _).setCell (Nat.le_refl _) _
      | some v =>
       rw [hn] at hnum
       have HNM := Aside0.mk hnum
       have hv0 := number_pos hn
       have HN2 := Aside0.mk (show B.numbers (WS.drop 1) = nadd (vs ++ [v]) (B.numbers (WS.drop (i + 1))) by rw [HN.out, hdr, nums_some hn])
       have t1 : decide (v < 0) = false := by simp; omega
       have t2 : ¬ v < 0 := by omega
       clear hnum hn hdr hx
       go_wp2_with (first | (go_at_call 39; (with_reducible refine Calls.mono (HNM.out) ?_); rintro e w4 ⟨rfl, h⟩; have H4 := Aside0.mk (H3.out.trans (h.mono H3.out.size)); have HR4 := Aside0.mk (row_on h HR3.out); have HB4 := Aside0.mk (HB3.out.trans (h.mono HB3.out.size)); have HI4 := Aside0.mk (Kd.R_below HI3.out h); (clear h); (try clear a0 a1 a2 f0 f1 f2); obtain ⟨a0, a1, a2, f0, f1, f2⟩ := cells3 HR4.out) | ((with_reducible refine gate_builtin (b := .append) (xs := #[.tmp 49, .tmp 51]) rfl ?_); at_builtin; refine Kd.R_append (Kd.int .i64) (w0 := w2) w2.heap.size rfl (.tmp 49) (.tmp 51) 61 3 (.int .i64 0) 8 rfl Tryz.underlying61 infoInt rfl (by decide) (by omega) (.slice A6 vs.length c6) vs v [.int .i64 v] (fun _ => True) (fun _ => False) rfl rfl rfl (fun k hk => hk.elim) (fun _ _ => trivial) HI4.out HB4.out HB4.out.size (by omega) ?_; intro v1 w5 hR5 hB5 hg5 _; have HR5 := Aside0.mk ((hg5.block w.heap.size (Array.getElem?_eq_some_iff.1 HR4.out).1 (Kd.R_ne HI4.out HR4.out (by decide))).trans HR4.out); have HB5 := Aside0.mk hB5; obtain ⟨A7, c7, e⟩ := Kd.R_slice hR5; obtain ⟨N7, hN⟩ : ∃ N, N = (vs ++ [v]).length := ⟨_, rfl⟩; rw [← hN] at e; subst e; have HI5 := Aside0.mk hR5; have HN7 := Aside0.mk hN; clear hR5 hB5 hg5 hN; clear a0 a1 a2 f0 f1 f2; obtain ⟨a0, a1, a2, f0, f1, f2⟩ := cells3 HR5.out))
       go_roundg (g1 - 1)
       case measure => omega
       case rel =>
        have hn := HN7.out
        rw [List.length_append, List.length_singleton] at hn
        exact ⟨vs ++ [v], i + 1, by go_num, by omega, by omega, by rw [List.length_append, List.length_singleton]; omega, HN2, ⟨H2.out.trans (HB5.out.mono H2.out.size), HB5.out, HR5.out, HI5.out⟩⟩
     ·have hi6 : i = 6 := by omega
      subst hi6
      have hv5 : vs.length = 5 := by omega
      obtain ⟨x0, x1, x2, x3, x4, rfl⟩ := five hv5
      obtain ⟨gi, ci, e, hcells⟩ := ints_cells HI3.out (by simp)
      injection e with e1 e2 e3
      subst e1 e3
      have HCI := Aside0.mk (show ∀ W, Below w3.heap.size w3 W → W.cell? ⟨gi, 0, none⟩ = some (.int .i64 x0) ∧ W.cell? ⟨gi, 1, none⟩ = some (.int .i64 x1) ∧ W.cell? ⟨gi, 3, none⟩ = some (.int .i64 x3) ∧ W.cell? ⟨gi, 4, none⟩ = some (.int .i64 x4) from fun W hW => ⟨cell_up hW (hcells 0 (by simp)), cell_up hW (hcells 1 (by simp)), cell_up hW (hcells 3 (by simp)), cell_up hW (hcells 4 (by simp))⟩)
      have HHO := Aside0.mk (show B.headOf t = if x0 ≤ 1 ∧ x3 = (rest.length : Int) then some ([x0, x1, x2, x3, x4], rest) else none by
       have h := HSX.out
       have hd : WS.drop 6 = [] := List.drop_of_length_le (by have := H6.out; omega)
       rw [HN.out, hd] at h
       exact h)
      clear hcells hv5 hvl hig HN
      obtain ⟨n0, n1, n3, n4⟩ := HCI.out w3 (Below.refl _ _)
      by_cases hx0 : x0 ≤ 1
      ·have t1 : decide ((1 : Int) < x0) = false := by simp; omega
       have t2 : ¬ (1 : Int) < x0 := by omega
       by_cases hx3 : x3 = (rest.length : Int)
       ·have HHO2 := Aside0.mk (show B.headOf t = some ([x0, x1, x2, x3, x4], rest) by rw [HHO.out, if_pos ⟨hx0, hx3⟩])
        have t3 : (x3 == (rest.length : Int)) = true := beq_iff_eq.2 hx3
        have t4 : (x3 != (rest.length : Int)) = false := by rw [bne, t3]; rfl
        clear hx0 hx3 HHO
        go_upto_region 18 with (fail)
        have HLG := Aside0.mk (show ∀ W, Below w3.heap.size w3 W → Calls Tryz.prog 28 #[.slice A5 rest.length c5] W fun e w' => e = .returned (.int .i64 ((B.long rest : Nat) : Int)) ∧ Below W.heap.size W w' from fun W hW => rlong_any ((HBR.out.on H3.out).on hW) (by omega))
        clear n0 n1 n3
        clear a0 a1 a2 f0 f1 f2
        go_region_held3 (fun w' => w'.cell? ⟨gi, 4, none⟩ = some (.int .i64 x4)) (first | go_keep | exact q4) (first | (go_at_call 28; (with_reducible refine Calls.mono (HLG.out _ ?_) ?_); (first | exact Below.refl _ _ | exact (Below.refl _ _).drew); rintro e w4 ⟨rfl, h⟩; have hb4 : Below w3.heap.size w3 w4 := (by first | exact h | exact ((Below.refl _ _).drew).trans h); have HB4 := Aside0.mk hb4; obtain ⟨_, _, _, q4⟩ := HCI.out w4 hb4; clear h hb4))
        have H4 := Aside0.mk (H3.out.trans (HB4.out.mono H3.out.size))
        have HR4 := Aside0.mk (row_on HB4.out HR3.out)
        obtain ⟨a0, a1, a2, f0, f1, f2⟩ := cells3 HR4.out
        clear n4
        obtain ⟨lg, hlg⟩ : ∃ lg : Int, lg = ((B.long rest : Nat) : Int) := ⟨_, rfl⟩
        rw [← hlg]
        by_cases hx4 : x4 = lg
        ·have t5 : (x4 == lg) = true := beq_iff_eq.2 hx4
         have t6 : (x4 != lg) = false := by rw [bne, t5]; rfl
         have HRD := Aside0.mk (show B.read t = if B.bytes ⟨x0, x1, B.rdmails 5 rest⟩ = (t, 0) then (⟨x0, x1, B.rdmails 5 rest⟩, 0) else (B.none0, 5) by
          rw [← HRR.out]
          unfold B.rread
          rw [HHO2.out]
          simp only [List.getD_cons_zero, List.getD_cons_succ]
          rw [if_neg (fun h => h (by rw [hx4, hlg]))])
         clear hx4 hlg HHO2
         try rw [t6]
         go_upto_region 20 with (fail)
         obtain ⟨n0, n1, _, _⟩ := HCI.out w4 HB4.out
         have HS := Aside0.mk (show ∀ W, Below w4.heap.size w4 W → W.cell? ⟨gi, 0, none⟩ = some (.int .i64 x0) ∧ W.cell? ⟨gi, 1, none⟩ = some (.int .i64 x1) from fun W hW => let h := HCI.out W (HB4.out.trans (hW.mono HB4.out.size)); ⟨h.1, h.2.1⟩)
         clear a0 a1 a2 f0 f1 f2
         refine wp_region_held_drew (S := (fun w' => w'.cell? ⟨gi, 0, none⟩ = some (.int .i64 x0) ∧ w'.cell? ⟨gi, 1, none⟩ = some (.int .i64 x1))) (by kernel_rfl) ?_ (fun hHeld => ?_)
         ·first | (with_reducible exact HS.out _ (Below.refl _ _).drew) | (with_reducible exact HS.out _ H5B.out) | (with_reducible exact HS.out _ (((H5B.out.setCell HGE.out _).setCell HGE.out _).setCell HGE.out _)) | (with_reducible exact HS.out _ ((Below.refl w4.heap.size w4).alloc (Nat.le_refl _) _).drew) | (with_reducible exact HS.out _ (((((Below.refl w4.heap.size w4).alloc (Nat.le_refl _) _).setCell (Nat.le_refl _) _).setCell (Nat.le_refl _) _).setCell (Nat.le_refl _) _).drew)
         refine wpAnyH_take (i := 0) (oi := _) (v := ?_) rfl (by kernel_rfl) (by kernel_rfl) (by kernel_rfl) (fun _ _ _ h => h) (Or.inl ⟨by rfl, ?_⟩) (by assumption) ?_
         case refine_2 => (intro w hSw; (try dsimp only [List.getElem_toArray, List.getElem_cons_zero, List.getElem_cons_succ] at hSw ⊢); go_simp; (try with_reducible rfl))
         try simp only [Act.put, List.getElem_toArray, List.getElem_cons_zero, List.getElem_cons_succ, List.setIfInBounds_toArray, List.set_cons_zero, List.set_cons_succ]
         refine wpAnyH_take (i := 1) (oi := _) (v := ?_) rfl (by kernel_rfl) (by kernel_rfl) (by kernel_rfl) (fun _ _ _ h => h) (Or.inl ⟨by rfl, ?_⟩) (by assumption) ?_
         case refine_2 => (intro w hSw; (try dsimp only [List.getElem_toArray, List.getElem_cons_zero, List.getElem_cons_succ] at hSw ⊢); go_simp; (try with_reducible rfl))
         try simp only [Act.put, List.getElem_toArray, List.getElem_cons_zero, List.getElem_cons_succ, List.setIfInBounds_toArray, List.set_cons_zero, List.set_cons_succ]
         refine wpAnyH_take (i := 2) (oi := _) (v := ?_) rfl (by kernel_rfl) (by kernel_rfl) (by kernel_rfl) (fun _ _ _ h => h) (Or.inl ⟨by rfl, ?_⟩) (by assumption) ?_
         case refine_2 => (intro w hSw; (try dsimp only [List.getElem_toArray, List.getElem_cons_zero, List.getElem_cons_succ] at hSw ⊢); go_simp; (try with_reducible rfl))
         try simp only [Act.put, List.getElem_toArray, List.getElem_cons_zero, List.getElem_cons_succ, List.setIfInBounds_toArray, List.set_cons_zero, List.set_cons_succ]
         refine wpAnyH_take (i := 3) (oi := _) (v := ?_) rfl (by kernel_rfl) (by kernel_rfl) (by kernel_rfl) (fun _ _ _ h => h) (Or.inl ⟨by rfl, ?_⟩) (by assumption) ?_
         case refine_2 => (intro w hSw; (try dsimp only [List.getElem_toArray, List.getElem_cons_zero, List.getElem_cons_succ] at hSw ⊢); go_simp; (try with_reducible rfl))
         try simp only [Act.put, List.getElem_toArray, List.getElem_cons_zero, List.getElem_cons_succ, List.setIfInBounds_toArray, List.set_cons_zero, List.set_cons_succ]
         refine wpAnyH_take (i := 4) (oi := _) (v := ?_) rfl (by kernel_rfl) (by kernel_rfl) (by kernel_rfl) (fun _ _ _ h => h) (Or.inl ⟨by rfl, ?_⟩) (by assumption) ?_
         case refine_2 => (intro w hSw; (try dsimp only [List.getElem_toArray, List.getElem_cons_zero, List.getElem_cons_succ] at hSw ⊢); go_simp; (try with_reducible rfl))
         try simp only [Act.put, List.getElem_toArray, List.getElem_cons_zero, List.getElem_cons_succ, List.setIfInBounds_toArray, List.set_cons_zero, List.set_cons_succ]
         refine wpAnyH_take (i := 5) (oi := _) (v := ?_) rfl (by kernel_rfl) (by kernel_rfl) (by kernel_rfl) (fun _ _ _ h => h) (Or.inl ⟨by rfl, ?_⟩) (by assumption) ?_
         case refine_2 => (intro w hSw; (try dsimp only [List.getElem_toArray, List.getElem_cons_zero, List.getElem_cons_succ] at hSw ⊢); go_simp; (try with_reducible rfl))
         try simp only [Act.put, List.getElem_toArray, List.getElem_cons_zero, List.getElem_cons_succ, List.setIfInBounds_toArray, List.set_cons_zero, List.set_cons_succ]
         refine wpAnyH_take (i := 6) (oi := _) (v := ?_) rfl (by kernel_rfl) (by kernel_rfl) (by kernel_rfl) (fun _ _ _ h => h) (Or.inl ⟨by rfl, ?_⟩) (by assumption) ?_
         case refine_2 => (intro w hSw; (try dsimp only [List.getElem_toArray, List.getElem_cons_zero, List.getElem_cons_succ] at hSw ⊢); go_simp; (try with_reducible rfl))
         try simp only [Act.put, List.getElem_toArray, List.getElem_cons_zero, List.getElem_cons_succ, List.setIfInBounds_toArray, List.set_cons_zero, List.set_cons_succ]
         refine wpAnyH_ready (rs := [7]) (by kernel_rfl) (by simp) ?_
         refine (AllReadyH.cons (o := _) (by simp only [List.getElem?_toArray, List.getElem?_cons_zero, List.getElem?_cons_succ]; rfl) (fun K hK => ?_) AllReadyH.nil)
         go_simp
         refine hK.out _ _ ?_ (fun hHeld2 => ?_)
         ·first | (with_reducible exact HS.out _ (Below.refl _ _).drew) | (with_reducible exact HS.out _ H5B.out) | (with_reducible exact HS.out _ (((H5B.out.setCell HGE.out _).setCell HGE.out _).setCell HGE.out _)) | (with_reducible exact HS.out _ ((Below.refl w4.heap.size w4).alloc (Nat.le_refl _) _).drew) | (with_reducible exact HS.out _ (((((Below.refl w4.heap.size w4).alloc (Nat.le_refl _) _).setCell (Nat.le_refl _) _).setCell (Nat.le_refl _) _).setCell (Nat.le_refl _) _).drew)
         clear hK K hHeld
         have hHeld := hHeld2
         clear hHeld2
         try simp only [Act.put, List.getElem_toArray, List.getElem_cons_zero, List.getElem_cons_succ, List.setIfInBounds_toArray, List.set_cons_zero, List.set_cons_succ]
         obtain ⟨w5, hw5⟩ : ∃ w5, w5 = (w4.alloc (.cells #[.int .i64 0, .int .i64 0, .slice none 0 0] 24)).drew := ⟨_, rfl⟩
         obtain ⟨g, hgg⟩ : ∃ g, g = w4.heap.size := ⟨_, rfl⟩
         rw [← hw5, ← hgg]
         have HGE := Aside0.mk (show w4.heap.size ≤ g by rw [hgg]; exact Nat.le_refl _)
         have HZ := Aside0.mk (show w5.heap[g]? = some (.cells #[.int .i64 0, .int .i64 0, .slice none 0 0] 24 (0, 0)) by rw [hw5, hgg]; exact heap_alloc_new _ _)
         have H5B := Aside0.mk (show Below w4.heap.size w4 w5 by rw [hw5]; exact ((Below.refl w4.heap.size w4).alloc (Nat.le_refl _) _).drew)
         clear hw5 hgg
         obtain ⟨b0, b1, b2, g0, g1, g2⟩ := cells3 HZ.out
         refine wpAnyH_ready (rs := [8]) (by kernel_rfl) (by simp) ?_
         refine (AllReadyH.cons (o := _) (by simp only [List.getElem?_toArray, List.getElem?_cons_zero, List.getElem?_cons_succ]; rfl) (fun K hK => ?_) AllReadyH.nil)
         go_simp
         refine hK.out _ _ ?_ (fun hHeld2 => ?_)
         ·first | (with_reducible exact HS.out _ (Below.refl _ _).drew) | (with_reducible exact HS.out _ H5B.out) | (with_reducible exact HS.out _ (((H5B.out.setCell HGE.out _).setCell HGE.out _).setCell HGE.out _)) | (with_reducible exact HS.out _ ((Below.refl w4.heap.size w4).alloc (Nat.le_refl _) _).drew) | (with_reducible exact HS.out _ (((((Below.refl w4.heap.size w4).alloc (Nat.le_refl _) _).setCell (Nat.le_refl _) _).setCell (Nat.le_refl _) _).setCell (Nat.le_refl _) _).drew)
         clear hK K hHeld
         have hHeld := hHeld2
         clear hHeld2
         try simp only [Act.put, List.getElem_toArray, List.getElem_cons_zero, List.getElem_cons_succ, List.setIfInBounds_toArray, List.set_cons_zero, List.set_cons_succ]
         refine wpAnyH_done (by kernel_rfl) ?_ _
         obtain ⟨w6, hw6⟩ : ∃ w6, w6 = ((w5.setCell ⟨g, 0, none⟩ (.int .i64 x0)).setCell ⟨g, 1, none⟩ (.int .i64 x1)).setCell ⟨g, 2, none⟩ (.slice none 0 0) := ⟨_, rfl⟩
         rw [← hw6]
         have HG6 := Aside0.mk (show w6.heap[g]? = some (.cells #[.int .i64 x0, .int .i64 x1, .slice none 0 0] 24 (0, 0)) by rw [hw6]; exact row3 HZ.out)
         have H6B := Aside0.mk (show Below w4.heap.size w4 w6 by rw [hw6]; exact ((H5B.out.setCell HGE.out _).setCell HGE.out _).setCell HGE.out _)
         have H6 := Aside0.mk (H4.out.trans (H6B.out.mono H4.out.size))
         have HR6 := Aside0.mk (row_on H6B.out HR4.out)
         clear hw6 b0 b1 b2 g0 g1 g2 n0 n1
         have HGW := Aside0.mk (show w.heap.size < g from by have := HGE.out; have := (Array.getElem?_eq_some_iff.1 HR4.out).1; omega)
         go_wp2_with (fail)
         go_loopg [11] 5 (fun gf v11 wr => ∃ (ms : List B.Mail) (x : Nat) (v7 : Value), v11 = .int .i64 (x : Int) ∧ x ≤ rest.length ∧ ms.length + gf = 5 ∧ Aside0 (B.rdmails 5 rest = ms ++ B.rdmails gf (rest.drop x)) ∧ Aside0 (Below w.heap.size w wr ∧ g < wr.heap.size ∧ wr.heap[w.heap.size]? = some (.cells #[.int .i64 0, .int .i64 0, .slice none 0 0] 24 (0, 0)) ∧ wr.heap[g]? = some (.cells #[.int .i64 x0, .int .i64 x1, v7] 24 (0, 0)) ∧ Ns w.heap.size g wr v7 ms))
         case atStart => exact ⟨[], 0, .slice none 0 0, rfl, Nat.zero_le _, rfl, ⟨by simp⟩, ⟨H6.out, (Array.getElem?_eq_some_iff.1 HG6.out).1, HR6.out, HG6.out, Kd.N_nil _ _ _ _ _⟩⟩
         case round =>
          obtain ⟨ms, x, v7, rfl, hx, hg5, HT, H⟩ := hrel
          obtain ⟨w7, rfl⟩ : ∃ wz : World, wz = wr := ⟨_, rfl⟩
          obtain ⟨A7, c7, rfl⟩ := Kd.N_slice H.out.2.2.2.2
          have H7 := Aside0.mk H.out.1
          have HR7 := Aside0.mk H.out.2.2.1
          have HG7 := Aside0.mk H.out.2.2.2.1
          have HN7 := Aside0.mk H.out.2.2.2.2
          have HSX := Aside0.mk H.out.2.1
          clear H
          (try clear a0 a1 a2 f0 f1 f2 b0 b1 b2 g0 g1 g2)
          obtain ⟨⟨a0, a1, a2, f0, f1, f2⟩, b0, b1, b2, g0, g1, g2⟩ := And.intro (cells3 HR7.out) (cells3 HG7.out)
          by_cases hle : ms.length ≤ 4
          ·have hleI : (ms.length : Int) ≤ 4 := by omega
           obtain ⟨k, rfl⟩ : ∃ k, gk = k + 1 := ⟨gk - 1, by omega⟩
           have hml := rmailr_any w7 (HBR.out.on H7.out) hrl x hx
           cases hm : B.rdmail (rest.drop x) with
           | none =>
            rw [hm] at hml
            have HML := Aside0.mk hml
            clear hml
            go_upto_region 24 with (first | (go_at_call 40; (with_reducible refine Calls.mono (HML.out) ?_); rintro e w8 ⟨⟨n, l, d, A8, k8, c8, rfl⟩, h⟩; have H8 := Aside0.mk (H7.out.trans (h.mono H7.out.size)); have HR8 := Aside0.mk (row_on h HR7.out); have HG8 := Aside0.mk (row_on h HG7.out); have HN8 := Aside0.mk (Kd.N_below HN7.out h); (clear h); (try clear a0 a1 a2 f0 f1 f2 b0 b1 b2 g0 g1 g2); obtain ⟨⟨a0, a1, a2, f0, f1, f2⟩, b0, b1, b2, g0, g1, g2⟩ := And.intro (cells3 HR8.out) (cells3 HG8.out)))
            obtain ⟨w9, hw9⟩ : ∃ w9, w9 = w8.alloc (.cells #[.bool n, .string l, .string d, .slice A8 k8 c8, .slice none 0 0, .bool false, .string { data := #[] }, .int .i64 0] 46) := ⟨_, rfl⟩
            rw [← hw9]
            have hb9 : Below w8.heap.size w8 w9 := by rw [hw9]; exact (Below.refl _ _).alloc (Nat.le_refl _) _
            have H9 := Aside0.mk (H8.out.trans (hb9.mono H8.out.size))
            have HR9 := Aside0.mk (row_on hb9 HR8.out)
            have HG9 := Aside0.mk (row_on hb9 HG8.out)
            have HN9 := Aside0.mk (Kd.N_below HN8.out hb9)
            have HP9 := Aside0.mk (show w9.heap[w8.heap.size]? = some (.cells #[.bool n, .string l, .string d, .slice A8 k8 c8, .slice none 0 0, .bool false, .string { data := #[] }, .int .i64 0] 46 (0, 0)) by rw [hw9]; exact heap_alloc_new _ _)
            clear hw9 hb9
            (try clear a0 a1 a2 f0 f1 f2 b0 b1 b2 g0 g1 g2)
            obtain ⟨⟨a0, a1, a2, f0, f1, f2⟩, b0, b1, b2, g0, g1, g2⟩ := And.intro (cells3 HR9.out) (cells3 HG9.out)
            have h5 : decide ((ms.length : Int) ≤ 4) = true := by simp; omega
            have HMS := Aside0.mk (show B.rdmails 5 rest = ms from by rw [HT.out, B.rdmails, hm]; simp)
            obtain ⟨Y1, Y2, hY⟩ : ∃ Y1 Y2, B.bytes ⟨x0, x1, ms⟩ = (Y1, Y2) := ⟨_, _, rfl⟩
            have hmf := rdmails_fit 5 rest (by omega)
            rw [HMS.out] at hmf
            have hyl : Y1.length ≤ 4096 := by have := B.bytes_len ⟨x0, x1, ms⟩; rw [hY] at this; exact this
            have HBY := Aside0.mk (show ∀ W, Below w.heap.size w W → Ns w.heap.size g W (.slice A7 ms.length c7) ms → Calls Tryz.prog 14 #[.agg #[.int .i64 x0, .int .i64 x1, .slice A7 ms.length c7]] W fun e w' => (∃ A1 c1, e = .returned (.tuple #[.slice A1 Y1.length c1, .int .i64 Y2]) ∧ Bt w' A1 c1 Y1) ∧ Below W.heap.size W w' from by
             intro W hW hN
             obtain ⟨A', c', e, hc', hC⟩ := Kd.N_reads hN
             injection e with e1 e2 e3
             subst e1 e3
             have h := rbytes_any ⟨x0, x1, ms⟩ A7 c7 W ⟨hc', hC⟩ ⟨by show ms.length ≤ 1000; have := hmf.2; omega, hmf.1⟩
             rw [hY] at h
             exact h)
            have HKB := Aside0.mk (show ∀ W A1 c1, Below w.heap.size w W → Bt W A1 c1 Y1 → Calls Tryz.prog 21 #[.slice A1 Y1.length c1, .slice A t.length c] W fun e w' => e = .returned (.bool (decide (Y1 = t))) ∧ Below W.heap.size W w' from fun W A1 c1 hW hB => kbytes_any hB (HBT.out.on hW) (by omega) (by omega))
            have HRE := Aside0.mk (show B.read t = if (Y1, Y2) = (t, 0) then (⟨x0, x1, ms⟩, 0) else (B.none0, 5) by rw [HRD.out, HMS.out, hY])
            clear hY hmf hyl
            by_cases hy2 : Y2 = 0
            ·subst hy2
             by_cases hy1 : Y1 = t
             ·have HYES := Aside0.mk (show B.read t = (⟨x0, x1, ms⟩, 0) by rw [HRE.out, hy1, if_pos rfl])
              have HEQ := Aside0.mk (decide_eq_true hy1)
              clear hy1
              go_wp2_with (first | (go_at_call 14; (with_reducible refine Calls.mono (HBY.out _ H9.out HN9.out) ?_); rintro e w9a ⟨⟨A10, c10, rfl, hbt⟩, h⟩; have H9a := Aside0.mk (H9.out.trans (h.mono H9.out.size)); have HR9a := Aside0.mk (row_on h HR9.out); have HG9a := Aside0.mk (row_on h HG9.out); have HN9a := Aside0.mk (Kd.N_below HN9.out h); have HF9a := Aside0.mk hbt; clear hbt; (clear h); (try clear a0 a1 a2 f0 f1 f2 b0 b1 b2 g0 g1 g2); obtain ⟨⟨a0, a1, a2, f0, f1, f2⟩, b0, b1, b2, g0, g1, g2⟩ := And.intro (cells3 HR9a.out) (cells3 HG9a.out)) | (go_at_call 21; (with_reducible refine Calls.mono (HKB.out _ _ _ H9a.out HF9a.out) ?_); rintro e w9b ⟨rfl, h⟩; have H9b := Aside0.mk (H9a.out.trans (h.mono H9a.out.size)); have HR9b := Aside0.mk (row_on h HR9a.out); have HG9b := Aside0.mk (row_on h HG9a.out); have HN9b := Aside0.mk (Kd.N_below HN9a.out h); rw [HEQ.out]; (clear h); (try clear a0 a1 a2 f0 f1 f2 b0 b1 b2 g0 g1 g2); obtain ⟨⟨a0, a1, a2, f0, f1, f2⟩, b0, b1, b2, g0, g1, g2⟩ := And.intro (cells3 HR9b.out) (cells3 HG9b.out)))
              have hN := Kd.N_far (Kd.N_far (Kd.N_far HN9b.out (p := ⟨w.heap.size, 0, none⟩) (fun k hk => by have := HGW.out; show k ≠ w.heap.size; omega) (.int .i64 x0)) (p := ⟨w.heap.size, 1, none⟩) (fun k hk => by have := HGW.out; show k ≠ w.heap.size; omega) (.int .i64 x1)) (p := ⟨w.heap.size, 2, none⟩) (fun k hk => by have := HGW.out; show k ≠ w.heap.size; omega) (.slice A7 ms.length c7)
              refine bodyPost_ret (v := .tuple #[.agg #[.int .i64 x0, .int .i64 x1, .slice A7 ms.length c7], .int .i64 0]) ?_ rfl ⟨⟨A7, c7, by rw [HYES.out], ?_⟩, ?_⟩
              ·exact results_ct (by rfl) _ _ w.heap.size 24 _ (0, 0) _ rfl (row3 HR9b.out) Tryz.underlying24 rfl (by kernel_rfl) _ rfl
              ·rw [HYES.out]
               obtain ⟨A', c', e, hc', hC⟩ := Kd.N_reads hN
               injection e with e1 e2 e3
               subst e1 e3
               exact ⟨hc', hC⟩
              ·exact ((H9b.out.setCell (Nat.le_refl _) _).setCell (Nat.le_refl _) _).setCell (Nat.le_refl _) _
             ·have HNO := Aside0.mk (show B.read t = (B.none0, 5) by rw [HRE.out, if_neg]; intro h; exact hy1 (Prod.mk.inj h).1)
              have HEQ := Aside0.mk (decide_eq_false hy1)
              clear hy1
              go_wp2_with (first | (go_at_call 14; (with_reducible refine Calls.mono (HBY.out _ H9.out HN9.out) ?_); rintro e w9a ⟨⟨A10, c10, rfl, hbt⟩, h⟩; have H9a := Aside0.mk (H9.out.trans (h.mono H9.out.size)); have HR9a := Aside0.mk (row_on h HR9.out); have HG9a := Aside0.mk (row_on h HG9.out); have HN9a := Aside0.mk (Kd.N_below HN9.out h); have HF9a := Aside0.mk hbt; clear hbt; (clear h); (try clear a0 a1 a2 f0 f1 f2 b0 b1 b2 g0 g1 g2); obtain ⟨⟨a0, a1, a2, f0, f1, f2⟩, b0, b1, b2, g0, g1, g2⟩ := And.intro (cells3 HR9a.out) (cells3 HG9a.out)) | (go_at_call 21; (with_reducible refine Calls.mono (HKB.out _ _ _ H9a.out HF9a.out) ?_); rintro e w9b ⟨rfl, h⟩; have H9b := Aside0.mk (H9a.out.trans (h.mono H9a.out.size)); have HR9b := Aside0.mk (row_on h HR9a.out); have HG9b := Aside0.mk (row_on h HG9a.out); have HN9b := Aside0.mk (Kd.N_below HN9a.out h); rw [HEQ.out]; (clear h); (try clear a0 a1 a2 f0 f1 f2 b0 b1 b2 g0 g1 g2); obtain ⟨⟨a0, a1, a2, f0, f1, f2⟩, b0, b1, b2, g0, g1, g2⟩ := And.intro (cells3 HR9b.out) (cells3 HG9b.out)))
              refine bodyPost_ret (v := .tuple #[.agg #[.int .i64 0, .int .i64 0, .slice none 0 0], .int .i64 5]) ?_ rfl ⟨⟨none, 0, by rw [HNO.out]; rfl, by rw [HNO.out]; exact bn_none _⟩, ?_⟩
              ·exact results_ct (by rfl) _ _ w.heap.size 24 _ (0, 0) _ rfl (row3 HR9b.out) Tryz.underlying24 rfl (by kernel_rfl) _ rfl
              ·exact ((H9b.out.setCell (Nat.le_refl _) _).setCell (Nat.le_refl _) _).setCell (Nat.le_refl _) _
            ·have HNO := Aside0.mk (show B.read t = (B.none0, 5) by rw [HRE.out, if_neg]; intro h; exact hy2 (Prod.mk.inj h).2)
             have hz0 : (Y2 == 0) = false := beq_eq_false_iff_ne.2 hy2
             have hz1 : (Y2 != 0) = true := by rw [bne, hz0]; rfl
             clear hy2
             go_wp2_with (first | (go_at_call 14; (with_reducible refine Calls.mono (HBY.out _ H9.out HN9.out) ?_); rintro e w9a ⟨⟨A10, c10, rfl, hbt⟩, h⟩; have H9a := Aside0.mk (H9.out.trans (h.mono H9.out.size)); have HR9a := Aside0.mk (row_on h HR9.out); have HG9a := Aside0.mk (row_on h HG9.out); have HN9a := Aside0.mk (Kd.N_below HN9.out h); have HF9a := Aside0.mk hbt; clear hbt; (clear h); (try clear a0 a1 a2 f0 f1 f2 b0 b1 b2 g0 g1 g2); obtain ⟨⟨a0, a1, a2, f0, f1, f2⟩, b0, b1, b2, g0, g1, g2⟩ := And.intro (cells3 HR9a.out) (cells3 HG9a.out)))
             refine bodyPost_ret (v := .tuple #[.agg #[.int .i64 0, .int .i64 0, .slice none 0 0], .int .i64 5]) ?_ rfl ⟨⟨none, 0, by rw [HNO.out]; rfl, by rw [HNO.out]; exact bn_none _⟩, ?_⟩
             ·exact results_ct (by rfl) _ _ w.heap.size 24 _ (0, 0) _ rfl (row3 HR9a.out) Tryz.underlying24 rfl (by kernel_rfl) _ rfl
             ·exact ((H9a.out.setCell (Nat.le_refl _) _).setCell (Nat.le_refl _) _).setCell (Nat.le_refl _) _
           | some q =>
            obtain ⟨m, r2⟩ := q
            rw [hm] at hml
            have HML := Aside0.mk hml
            clear hml
            go_upto_region 24 with (first | (go_at_call 40; (with_reducible refine Calls.mono (HML.out) ?_); rintro e w8 ⟨⟨A8, c8, A9, c9, nx, rfl, hnl, hnx, hM⟩, h⟩; have H8 := Aside0.mk (H7.out.trans (h.mono H7.out.size)); have HR8 := Aside0.mk (row_on h HR7.out); have HG8 := Aside0.mk (row_on h HG7.out); have HN8 := Aside0.mk (Kd.N_below HN7.out h); have HNXL := Aside0.mk hnl; have HNX := Aside0.mk hnx; have HM8 := Aside0.mk (mail_FK hM); have HSZ := Aside0.mk h.size; clear hnl hnx hM; (clear h); (try clear a0 a1 a2 f0 f1 f2 b0 b1 b2 g0 g1 g2); obtain ⟨⟨a0, a1, a2, f0, f1, f2⟩, b0, b1, b2, g0, g1, g2⟩ := And.intro (cells3 HR8.out) (cells3 HG8.out)))
            obtain ⟨w9, hw9⟩ : ∃ w9, w9 = w8.alloc (.cells #[.bool m.frm.null, .string (str m.frm.loc), .string (str m.frm.dom), .slice A8 m.to.length c8, .slice A9 m.body.length c9, .bool m.quiet, .string (str m.helo), .int .i64 m.tm] 46) := ⟨_, rfl⟩
            rw [← hw9]
            have hb9 : Below w8.heap.size w8 w9 := by rw [hw9]; exact (Below.refl _ _).alloc (Nat.le_refl _) _
            have H9 := Aside0.mk (H8.out.trans (hb9.mono H8.out.size))
            have HR9 := Aside0.mk (row_on hb9 HR8.out)
            have HG9 := Aside0.mk (row_on hb9 HG8.out)
            have HN9 := Aside0.mk (Kd.N_below HN8.out hb9)
            have HP9 := Aside0.mk (show w9.heap[w8.heap.size]? = some (.cells #[.bool m.frm.null, .string (str m.frm.loc), .string (str m.frm.dom), .slice A8 m.to.length c8, .slice A9 m.body.length c9, .bool m.quiet, .string (str m.helo), .int .i64 m.tm] 46 (0, 0)) by rw [hw9]; exact heap_alloc_new _ _)
            have HM9 := Aside0.mk (Kd.FK_below HM8.out hb9)
            clear hw9 hb9
            (try clear a0 a1 a2 f0 f1 f2 b0 b1 b2 g0 g1 g2)
            obtain ⟨⟨a0, a1, a2, f0, f1, f2⟩, b0, b1, b2, g0, g1, g2⟩ := And.intro (cells3 HR9.out) (cells3 HG9.out)
            obtain ⟨⟨d0, d1, d2, d3, d4, d5, d6, d7⟩, _⟩ := cells8 HP9.out
            have HT2 := Aside0.mk (show B.rdmails 5 rest = (ms ++ [m]) ++ B.rdmails k (rest.drop nx) by
             rw [HT.out, B.rdmails, hm]
             simp only
             rw [HNX.out]
             simp)
            clear hm
            go_wp2_with (first | ((with_reducible refine gate_builtin (b := .append) (xs := #[.tmp 98, .tmp 100]) rfl ?_); at_builtin; refine Kd.N_append kMail (w0 := w) w.heap.size rfl (.tmp 98) (.tmp 100) 22 46 (.agg #[.bool false, .string ⟨#[]⟩, .string ⟨#[]⟩, .slice none 0 0, .slice none 0 0, .bool false, .string ⟨#[]⟩, .int .i64 0]) 120 rfl Tryz.underlying22 infoMail rfl (by decide) (by omega) (.slice A7 ms.length c7) ms m (mcs m A8 c8 A9 c9) (fun k => g < k) (fun k => w7.heap.size ≤ k) rfl rfl HM9.out (fun k hk => ⟨Nat.lt_of_lt_of_le HSX.out hk, fun e => absurd (Kd.N_lt HN7.out k e.symm) (by omega)⟩) (fun k hk => Nat.lt_of_lt_of_le HSX.out (Nat.le_trans HSZ.out (Nat.le_trans (Nat.le_of_lt (Array.getElem?_eq_some_iff.1 HP9.out).1) hk))) HN9.out H9.out H9.out.size (by omega) ?_; intro v9 w10 hN9 hB9 hg9 _; have HR9b := Aside0.mk ((hg9.block w.heap.size (Array.getElem?_eq_some_iff.1 HR9.out).1 (Kd.N_ne HN9.out HR9.out (by decide))).trans HR9.out); have HG9b := Aside0.mk ((hg9.block g (Array.getElem?_eq_some_iff.1 HG9.out).1 (Kd.N_ne HN9.out HG9.out (by decide))).trans HG9.out); have HB9 := Aside0.mk hB9; obtain ⟨A10, c10, e⟩ := Kd.N_slice hN9; obtain ⟨N10, hN10⟩ : ∃ N, N = (ms ++ [m]).length := ⟨_, rfl⟩; rw [← hN10] at e; subst e; have HN9b := Aside0.mk hN9; have HS9 := Aside0.mk hg9.size; clear hN9 hB9 hg9 hN10 d0 d1 d2 d3 d4 d5 d6 d7; clear a0 a1 a2 f0 f1 f2 b0 b1 b2 g0 g1 g2; obtain ⟨⟨a0, a1, a2, f0, f1, f2⟩, b0, b1, b2, g0, g1, g2⟩ := And.intro (cells3 HR9b.out) (cells3 HG9b.out)))
            go_roundg k
            case measure => omega
            case rel =>
             refine ⟨ms ++ [m], nx, .slice A10 N10 c10, rfl, HNXL.out, by simp; omega, HT2, ⟨HB9.out.setCell (Nat.le_of_lt HGW.out) _, ?_, ?_, row3_2 _ HG9b.out, ?_⟩⟩
             ·have h1 := HSX.out
              have h2 := HSZ.out
              have h3 := (Array.getElem?_eq_some_iff.1 HP9.out).1
              have h4 := HS9.out
              simp
              omega
             ·rw [Below.heap_setCell _ _ _ _ (show w.heap.size ≠ g from Nat.ne_of_lt HGW.out)]
              exact HR9b.out
             ·exact Kd.N_far HN9b.out (p := ⟨g, 2, none⟩) (fun k hk => by show k ≠ g; omega) (.slice A10 N10 c10)
          ·have hge : ms.length = 5 := by omega
           have h5 : decide ((ms.length : Int) ≤ 4) = false := by simp; omega
           have h5' : 4 < (ms.length : Int) := by omega
           have hg0 : gk = 0 := by omega
           subst hg0
           clear hge hle hg5
           have HMS := Aside0.mk (show B.rdmails 5 rest = ms from by rw [HT.out]; simp [B.rdmails])
           obtain ⟨Y1, Y2, hY⟩ : ∃ Y1 Y2, B.bytes ⟨x0, x1, ms⟩ = (Y1, Y2) := ⟨_, _, rfl⟩
           have hmf := rdmails_fit 5 rest (by omega)
           rw [HMS.out] at hmf
           have hyl : Y1.length ≤ 4096 := by have := B.bytes_len ⟨x0, x1, ms⟩; rw [hY] at this; exact this
           have HBY := Aside0.mk (show ∀ W, Below w.heap.size w W → Ns w.heap.size g W (.slice A7 ms.length c7) ms → Calls Tryz.prog 14 #[.agg #[.int .i64 x0, .int .i64 x1, .slice A7 ms.length c7]] W fun e w' => (∃ A1 c1, e = .returned (.tuple #[.slice A1 Y1.length c1, .int .i64 Y2]) ∧ Bt w' A1 c1 Y1) ∧ Below W.heap.size W w' from by
            intro W hW hN
            obtain ⟨A', c', e, hc', hC⟩ := Kd.N_reads hN
            injection e with e1 e2 e3
            subst e1 e3
            have h := rbytes_any ⟨x0, x1, ms⟩ A7 c7 W ⟨hc', hC⟩ ⟨by show ms.length ≤ 1000; have := hmf.2; omega, hmf.1⟩
            rw [hY] at h
            exact h)
           have HKB := Aside0.mk (show ∀ W A1 c1, Below w.heap.size w W → Bt W A1 c1 Y1 → Calls Tryz.prog 21 #[.slice A1 Y1.length c1, .slice A t.length c] W fun e w' => e = .returned (.bool (decide (Y1 = t))) ∧ Below W.heap.size W w' from fun W A1 c1 hW hB => kbytes_any hB (HBT.out.on hW) (by omega) (by omega))
           have HRE := Aside0.mk (show B.read t = if (Y1, Y2) = (t, 0) then (⟨x0, x1, ms⟩, 0) else (B.none0, 5) by rw [HRD.out, HMS.out, hY])
           clear hY hmf hyl
           by_cases hy2 : Y2 = 0
           ·subst hy2
            by_cases hy1 : Y1 = t
            ·have HYES := Aside0.mk (show B.read t = (⟨x0, x1, ms⟩, 0) by rw [HRE.out, hy1, if_pos rfl])
             have HEQ := Aside0.mk (decide_eq_true hy1)
             clear hy1
             go_wp2_with (first | (go_at_call 14; (with_reducible refine Calls.mono (HBY.out _ H7.out HN7.out) ?_); rintro e w7a ⟨⟨A10, c10, rfl, hbt⟩, h⟩; have H7a := Aside0.mk (H7.out.trans (h.mono H7.out.size)); have HR7a := Aside0.mk (row_on h HR7.out); have HG7a := Aside0.mk (row_on h HG7.out); have HN7a := Aside0.mk (Kd.N_below HN7.out h); have HF7a := Aside0.mk hbt; clear hbt; (clear h); (try clear a0 a1 a2 f0 f1 f2 b0 b1 b2 g0 g1 g2); obtain ⟨⟨a0, a1, a2, f0, f1, f2⟩, b0, b1, b2, g0, g1, g2⟩ := And.intro (cells3 HR7a.out) (cells3 HG7a.out)) | (go_at_call 21; (with_reducible refine Calls.mono (HKB.out _ _ _ H7a.out HF7a.out) ?_); rintro e w7b ⟨rfl, h⟩; have H7b := Aside0.mk (H7a.out.trans (h.mono H7a.out.size)); have HR7b := Aside0.mk (row_on h HR7a.out); have HG7b := Aside0.mk (row_on h HG7a.out); have HN7b := Aside0.mk (Kd.N_below HN7a.out h); rw [HEQ.out]; (clear h); (try clear a0 a1 a2 f0 f1 f2 b0 b1 b2 g0 g1 g2); obtain ⟨⟨a0, a1, a2, f0, f1, f2⟩, b0, b1, b2, g0, g1, g2⟩ := And.intro (cells3 HR7b.out) (cells3 HG7b.out)))
             have hN := Kd.N_far (Kd.N_far (Kd.N_far HN7b.out (p := ⟨w.heap.size, 0, none⟩) (fun k hk => by have := HGW.out; show k ≠ w.heap.size; omega) (.int .i64 x0)) (p := ⟨w.heap.size, 1, none⟩) (fun k hk => by have := HGW.out; show k ≠ w.heap.size; omega) (.int .i64 x1)) (p := ⟨w.heap.size, 2, none⟩) (fun k hk => by have := HGW.out; show k ≠ w.heap.size; omega) (.slice A7 ms.length c7)
             refine bodyPost_ret (v := .tuple #[.agg #[.int .i64 x0, .int .i64 x1, .slice A7 ms.length c7], .int .i64 0]) ?_ rfl ⟨⟨A7, c7, by rw [HYES.out], ?_⟩, ?_⟩
             ·exact results_ct (by rfl) _ _ w.heap.size 24 _ (0, 0) _ rfl (row3 HR7b.out) Tryz.underlying24 rfl (by kernel_rfl) _ rfl
             ·rw [HYES.out]
              obtain ⟨A', c', e, hc', hC⟩ := Kd.N_reads hN
              injection e with e1 e2 e3
              subst e1 e3
              exact ⟨hc', hC⟩
             ·exact ((H7b.out.setCell (Nat.le_refl _) _).setCell (Nat.le_refl _) _).setCell (Nat.le_refl _) _
            ·have HNO := Aside0.mk (show B.read t = (B.none0, 5) by rw [HRE.out, if_neg]; intro h; exact hy1 (Prod.mk.inj h).1)
             have HEQ := Aside0.mk (decide_eq_false hy1)
             clear hy1
             go_wp2_with (first | (go_at_call 14; (with_reducible refine Calls.mono (HBY.out _ H7.out HN7.out) ?_); rintro e w7a ⟨⟨A10, c10, rfl, hbt⟩, h⟩; have H7a := Aside0.mk (H7.out.trans (h.mono H7.out.size)); have HR7a := Aside0.mk (row_on h HR7.out); have HG7a := Aside0.mk (row_on h HG7.out); have HN7a := Aside0.mk (Kd.N_below HN7.out h); have HF7a := Aside0.mk hbt; clear hbt; (clear h); (try clear a0 a1 a2 f0 f1 f2 b0 b1 b2 g0 g1 g2); obtain ⟨⟨a0, a1, a2, f0, f1, f2⟩, b0, b1, b2, g0, g1, g2⟩ := And.intro (cells3 HR7a.out) (cells3 HG7a.out)) | (go_at_call 21; (with_reducible refine Calls.mono (HKB.out _ _ _ H7a.out HF7a.out) ?_); rintro e w7b ⟨rfl, h⟩; have H7b := Aside0.mk (H7a.out.trans (h.mono H7a.out.size)); have HR7b := Aside0.mk (row_on h HR7a.out); have HG7b := Aside0.mk (row_on h HG7a.out); have HN7b := Aside0.mk (Kd.N_below HN7a.out h); rw [HEQ.out]; (clear h); (try clear a0 a1 a2 f0 f1 f2 b0 b1 b2 g0 g1 g2); obtain ⟨⟨a0, a1, a2, f0, f1, f2⟩, b0, b1, b2, g0, g1, g2⟩ := And.intro (cells3 HR7b.out) (cells3 HG7b.out)))
             refine bodyPost_ret (v := .tuple #[.agg #[.int .i64 0, .int .i64 0, .slice none 0 0], .int .i64 5]) ?_ rfl ⟨⟨none, 0, by rw [HNO.out]; rfl, by rw [HNO.out]; exact bn_none _⟩, ?_⟩
             ·exact results_ct (by rfl) _ _ w.heap.size 24 _ (0, 0) _ rfl (row3 HR7b.out) Tryz.underlying24 rfl (by kernel_rfl) _ rfl
             ·exact ((H7b.out.setCell (Nat.le_refl _) _).setCell (Nat.le_refl _) _).setCell (Nat.le_refl _) _
           ·have HNO := Aside0.mk (show B.read t = (B.none0, 5) by rw [HRE.out, if_neg]; intro h; exact hy2 (Prod.mk.inj h).2)
            have hz0 : (Y2 == 0) = false := beq_eq_false_iff_ne.2 hy2
            have hz1 : (Y2 != 0) = true := by rw [bne, hz0]; rfl
            clear hy2
            go_wp2_with (first | (go_at_call 14; (with_reducible refine Calls.mono (HBY.out _ H7.out HN7.out) ?_); rintro e w7a ⟨⟨A10, c10, rfl, hbt⟩, h⟩; have H7a := Aside0.mk (H7.out.trans (h.mono H7.out.size)); have HR7a := Aside0.mk (row_on h HR7.out); have HG7a := Aside0.mk (row_on h HG7.out); have HN7a := Aside0.mk (Kd.N_below HN7.out h); have HF7a := Aside0.mk hbt; clear hbt; (clear h); (try clear a0 a1 a2 f0 f1 f2 b0 b1 b2 g0 g1 g2); obtain ⟨⟨a0, a1, a2, f0, f1, f2⟩, b0, b1, b2, g0, g1, g2⟩ := And.intro (cells3 HR7a.out) (cells3 HG7a.out)))
            refine bodyPost_ret (v := .tuple #[.agg #[.int .i64 0, .int .i64 0, .slice none 0 0], .int .i64 5]) ?_ rfl ⟨⟨none, 0, by rw [HNO.out]; rfl, by rw [HNO.out]; exact bn_none _⟩, ?_⟩
            ·exact results_ct (by rfl) _ _ w.heap.size 24 _ (0, 0) _ rfl (row3 HR7a.out) Tryz.underlying24 rfl (by kernel_rfl) _ rfl
            ·exact ((H7a.out.setCell (Nat.le_refl _) _).setCell (Nat.le_refl _) _).setCell (Nat.le_refl _) _
        ·have t5 : (x4 == lg) = false := beq_eq_false_iff_ne.2 hx4
         have t6 : (x4 != lg) = true := by rw [bne, t5]; rfl
         have HNO := Aside0.mk (show B.read t = (B.none0, 6) by unfold B.read; rw [HHO2.out]; simp only [List.getD_cons_zero, List.getD_cons_succ]; rw [if_pos (fun h => hx4 (by rw [h, hlg]))])
         clear hx4 hlg
         try rw [t6]
         go_wp2_with (fail)
         refine bodyPost_ret (v := .tuple #[.agg #[.int .i64 0, .int .i64 0, .slice none 0 0], .int .i64 6]) ?_ rfl ⟨⟨none, 0, by rw [HNO.out]; rfl, by rw [HNO.out]; exact bn_none _⟩, ?_⟩
         ·exact results_ct (by rfl) _ _ w.heap.size 24 _ (0, 0) _ rfl (row3 HR4.out) Tryz.underlying24 rfl (by kernel_rfl) _ rfl
         ·exact ((H4.out.setCell (Nat.le_refl _) _).setCell (Nat.le_refl _) _).setCell (Nat.le_refl _) _
       ·have HNO := Aside0.mk (show B.read t = (B.none0, 5) by unfold B.read; rw [HHO.out, if_neg (fun h => hx3 h.2)])
        have t3 : (x3 == (rest.length : Int)) = false := beq_eq_false_iff_ne.2 hx3
        have t4 : (x3 != (rest.length : Int)) = true := by rw [bne, t3]; rfl
        clear hx3
        go_wp2_with (fail)
        refine bodyPost_ret (v := .tuple #[.agg #[.int .i64 0, .int .i64 0, .slice none 0 0], .int .i64 5]) ?_ rfl ⟨⟨none, 0, by rw [HNO.out]; rfl, by rw [HNO.out]; exact bn_none _⟩, ?_⟩
        ·exact results_ct (by rfl) _ _ w.heap.size 24 _ (0, 0) _ rfl (row3 HR3.out) Tryz.underlying24 rfl (by kernel_rfl) _ rfl
        ·exact ((H3.out.setCell (Nat.le_refl _) _).setCell (Nat.le_refl _) _).setCell (Nat.le_refl _) _
      ·have HNO := Aside0.mk (show B.read t = (B.none0, 5) by unfold B.read; rw [HHO.out, if_neg (fun h => hx0 h.1)])
       have t1 : decide ((1 : Int) < x0) = true := by simp; omega
       have t2 : (1 : Int) < x0 := by omega
       clear hx0
       go_wp2_with (fail)
       refine bodyPost_ret (v := .tuple #[.agg #[.int .i64 0, .int .i64 0, .slice none 0 0], .int .i64 5]) ?_ rfl ⟨⟨none, 0, by rw [HNO.out]; rfl, by rw [HNO.out]; exact bn_none _⟩, ?_⟩
       ·exact results_ct (by rfl) _ _ w.heap.size 24 _ (0, 0) _ rfl (row3 HR3.out) Tryz.underlying24 rfl (by kernel_rfl) _ rfl
       ·exact ((H3.out.setCell (Nat.le_refl _) _).setCell (Nat.le_refl _) _).setCell (Nat.le_refl _) _
   ·rw [if_neg hwb] at hsx
    have HNO := Aside0.mk (show B.read t = (B.none0, 5) by unfold B.read; rw [hsx])
    have hne : ((str wd0).toList == [66, 85, 78, 68, 76, 69]) = false := by rw [eq_const _ _ _ rfl, lst_str]; exact decide_eq_false hwb
    clear hsx hwb
    go_wp2_with (fail)
    refine bodyPost_ret (v := .tuple #[.agg #[.int .i64 0, .int .i64 0, .slice none 0 0], .int .i64 5]) ?_ rfl ⟨⟨none, 0, by rw [HNO.out]; rfl, by rw [HNO.out]; exact bn_none _⟩, ?_⟩
    ·exact results_ct (by rfl) _ _ w.heap.size 24 _ (0, 0) _ rfl (row3 HR2.out) Tryz.underlying24 rfl (by kernel_rfl) _ rfl
    ·exact ((H2.out.setCell (Nat.le_refl _) _).setCell (Nat.le_refl _) _).setCell (Nat.le_refl _) _
  ·have HNO := Aside0.mk (show B.read t = (B.none0, 5) by unfold B.read; rw [hno h6])
   have h6I : ((WS.length : Int) == 6) = false := beq_eq_false_iff_ne.2 (by omega)
   have h6J : ((WS.length : Int) != 6) = true := by rw [bne, h6I]; rfl
   clear h6 hno hsix
   go_wp2_with (fail)
   refine bodyPost_ret (v := .tuple #[.agg #[.int .i64 0, .int .i64 0, .slice none 0 0], .int .i64 5]) ?_ rfl ⟨⟨none, 0, by rw [HNO.out]; rfl, by rw [HNO.out]; exact bn_none _⟩, ?_⟩
   ·exact results_ct (by rfl) _ _ w.heap.size 24 _ (0, 0) _ rfl (row3 HR2.out) Tryz.underlying24 rfl (by kernel_rfl) _ rfl
   ·exact ((H2.out.setCell (Nat.le_refl _) _).setCell (Nat.le_refl _) _).setCell (Nat.le_refl _) _
end Go.Proofs.YtpfmnkpmidjfjaaGreatDoor
/- BundlePacks, walked. -/
namespace Go.Proofs.YtpfmnkpmidjfjaaGreatDoor
open Go.RowKit Go.Lib
open Go.Proofs.YtpfmnkpmidjfjaaGreatDoorW.PrintWords
set_option linter.unusedVariables false
set_option linter.unusedSimpArgs false
theorem lights_fit {l : List B.Mail} (h : l.length ≤ 20 ∧ ∀ m ∈ l, B.Light 20000 m) : l.length ≤ 1000 ∧ ∀ m ∈ l, B.Fit m := ⟨by have := h.1; omega, fun m hm => (h.2 m hm).fit (by decide)⟩
theorem plains_fit {l : List B.Mail} (h : l.length ≤ 1000 ∧ ∀ m ∈ l, B.Fit m) (k : Nat) (o n : Int) : B.FitB ⟨o, n, (l.take k).map B.plain⟩ := ⟨by
 show ((l.take k).map B.plain).length ≤ 1000
 rw [List.length_map, List.length_take]; have := h.1; omega, fun m hm => by
 obtain ⟨m', hm', rfl⟩ := List.mem_map.1 hm
 exact plain_fit (h.2 m' (List.mem_of_mem_take hm'))⟩
abbrev Ng (g : Nat) (w : World) (v : Value) (ms : List B.Mail) : Prop := kMail.N 46 w (g + 1) (fun k => g < k) v ms
theorem Ng.set {g : Nat} {w : World} {v : Value} {ms : List B.Mail} (h : Ng g w v ms) (j : Nat) (u : Value) : Ng g (w.setCell ⟨g, j, none⟩ u) v ms := Kd.N_far h (fun k hk => by show k ≠ g; omega) u
theorem Mcells.all {w : World} {p : Addr} {m : B.Mail} {A : Option Addr} {c : Nat} {A2 : Option Addr} {c2 : Nat} (h : Mcells w p m A c A2 c2) : w.cell? p = some (.bool m.frm.null) ∧ w.cell? ⟨p.block, p.off + 1, none⟩ = some (.string (str m.frm.loc)) ∧ w.cell? ⟨p.block, p.off + 2, none⟩ = some (.string (str m.frm.dom)) ∧ w.cell? ⟨p.block, p.off + 3, none⟩ = some (.slice A m.to.length c) ∧ w.cell? ⟨p.block, p.off + 4, none⟩ = some (.slice A2 m.body.length c2) ∧ w.cell? ⟨p.block, p.off + 5, none⟩ = some (.bool m.quiet) ∧ w.cell? ⟨p.block, p.off + 6, none⟩ = some (.string (str m.helo)) ∧ w.cell? ⟨p.block, p.off + 7, none⟩ = some (.int .i64 m.tm) := ⟨h.k0, h.k1, h.k2, h.k3, h.k4, h.k5, h.k6, h.k7⟩
theorem setCell_row3 {w : World} {g t : Nat} {x0 x1 x2 : Value} (u : Value) (h : w.heap[g]? = some (.cells #[x0, x1, x2] t (0, 0))) : (w.setCell ⟨g, 2, none⟩ u).heap[g]? = some (.cells #[x0, x1, u] t (0, 0)) := setCell_row _ g 2 _ _ _ u h
end Go.Proofs.YtpfmnkpmidjfjaaGreatDoor
/- The reference's Pack: how many mails make a bundle. -/
namespace Go.Proofs.YtpfmnkpmidjfjaaGreatDoor
open Go.RowKit Go.Lib
open Go.Proofs.YtpfmnkpmidjfjaaGreatDoorW.PrintWords
set_option linter.unusedVariables false
set_option linter.unusedSimpArgs false
theorem packGo_step (l : List B.Mail) (o n : Int) (k : Nat) (hk : 1 ≤ k) : B.packGo l o n k = if (B.bytes ⟨o, n, (l.take k).map B.plain⟩).2 = 0 then k else B.packGo l o n (k - 1) := by
 obtain ⟨k, rfl⟩ : ∃ k', k = k' + 1 := ⟨k - 1, by omega⟩
 rfl
set_option maxRecDepth 100000 in
set_option maxHeartbeats 8000000 in
theorem rpack_any (l : List B.Mail) (A : Option Addr) (c : Nat) (o n : Int) (w : World) (hc : l.length ≤ c) (hx : kMail.C w A l.length l) (hn : l.length ≤ 1000) (hf : ∀ m ∈ l, B.Fit m) :
  Calls Tryz.prog 18 #[.slice A l.length c, .int .i64 o, .int .i64 n] w fun e w' => e = .returned (.int .i64 ((B.pack l o n : Nat) : Int)) ∧ Below w.heap.size w w' := by
 have HX := Aside0.mk hx
 have HC := Aside0.mk hc
 have HF := Aside0.mk hf
 obtain ⟨M, hM⟩ : ∃ M, M = min l.length 4 := ⟨_, rfl⟩
 have hPK : B.pack l o n = B.packGo l o n M := by unfold B.pack; rw [hM]
 rw [hPK]
 have hMl : M ≤ l.length := by omega
 have hM4 : M ≤ 4 := by omega
 have HMM := Aside0.mk hM
 clear hx hc hf hPK hM
 go_enter Tryz.func18, Tryz.ntmps18
 go_wp2_with (fail)
 go_loopg [7, 8] M (fun gf v7 v8 wr => ∃ (k r : Nat), v8 = .int .i64 (k : Int) ∧ v7 = .int .i64 (r : Int) ∧ 1 ≤ k ∧ k ≤ M + 1 ∧ gf + k = M + 1 ∧ Aside0 (r = B.packGo l o n (k - 1) ∧ Below w.heap.size w wr))
 case atStart => exact ⟨1, 0, rfl, rfl, by omega, by omega, by omega, ⟨rfl, Below.refl _ _⟩⟩
 case round =>
  obtain ⟨k, r, rfl, rfl, hk1, hk2, hgk, H⟩ := hrel
  obtain ⟨w1, rfl⟩ : ∃ wz : World, wz = wr := ⟨_, rfl⟩
  obtain ⟨go1, rfl⟩ : ∃ z : Nat, z = gk := ⟨_, rfl⟩
  by_cases hkM : k ≤ M
  ·have t1 : decide ((k : Int) ≤ (l.length : Int)) = true := by simp; omega
   have t2 : decide ((k : Int) ≤ 4) = true := by simp; omega
   have t3 : (k : Int) ≤ (l.length : Int) := by omega
   have t4 : (k : Int) ≤ 4 := by omega
   obtain ⟨L, hL⟩ : ∃ L, L = (l.take k).map B.plain := ⟨_, rfl⟩
   have hLl : L.length = k := by rw [hL, List.length_map, List.length_take]; omega
   obtain ⟨X1, X2, hX⟩ : ∃ X1 X2, B.bytes ⟨o, n, L⟩ = (X1, X2) := ⟨_, _, rfl⟩
   have HBY := Aside0.mk (show ∀ W A3 c3, kMail.C W A3 L.length L → k ≤ c3 → Calls Tryz.prog 14 #[.agg #[.int .i64 o, .int .i64 n, .slice A3 k c3]] W fun e w' => (∃ A1 c1, e = .returned (.tuple #[.slice A1 X1.length c1, .int .i64 X2])) ∧ Below W.heap.size W w' from fun W A3 c3 hC hc3 => by
    have h := rbytes_any ⟨o, n, L⟩ A3 c3 W ⟨by show L.length ≤ c3; omega, hC⟩ (by rw [hL]; exact plains_fit ⟨hn, HF.out⟩ k o n)
    rw [hX] at h
    simp only at h
    rw [hLl] at h
    exact h.mono (fun e w' h => ⟨by obtain ⟨A1, c1, h1, _⟩ := h.1; exact ⟨A1, c1, h1⟩, h.2⟩))
   have HP := Aside0.mk (show B.packGo l o n k = if X2 = 0 then k else r by rw [packGo_step l o n k hk1, ← hL, hX, H.out.1])
   have HL := Aside0.mk hL
   have HLl := Aside0.mk hLl
   obtain ⟨g, hg⟩ : ∃ g, g = w1.heap.size := ⟨_, rfl⟩
   have HG0 := Aside0.mk (show w.heap.size ≤ g by rw [hg]; exact H.out.2.size)
   have HGE := Aside0.mk hg
   have HB1 := Aside0.mk H.out.2
   clear hX hL hLl H
   go_upto_region 6 with (fail)
   rw [← hg]
   clear hg
   go_wp2_with (fail)
   go_loopg [10] k (fun gf v10 wr => ∃ (j : Nat), v10 = .int .i64 (j : Int) ∧ j ≤ k ∧ gf + j = k ∧ Aside0 (∃ A3 c3, wr.heap[g]? = some (.cells #[.int .i64 o, .int .i64 n, .slice A3 j c3] 24 (0, 0)) ∧ Ng g wr (.slice A3 j c3) ((l.take j).map B.plain) ∧ Below w.heap.size w wr))
   case atStart => exact ⟨0, rfl, by omega, by omega, ⟨none, 0, by rw [HGE.out]; exact heap_alloc_new _ _, Kd.N_nil _ _ _ _ _, HB1.out.alloc HB1.out.size _⟩⟩
   case round =>
    obtain ⟨j, rfl, hj, hgj, H⟩ := hrel
    obtain ⟨wx, rfl⟩ : ∃ wz : World, wz = wr := ⟨_, rfl⟩
    obtain ⟨go, rfl⟩ : ∃ z : Nat, z = gk := ⟨_, rfl⟩
    obtain ⟨A3, c3, hrow, hN, hB⟩ := H.out
    have HROW := Aside0.mk hrow
    have HN := Aside0.mk hN
    have HB := Aside0.mk hB
    clear hrow hN hB H
    obtain ⟨b0, b1, b2, g0, g1, g2⟩ := cells3 HROW.out
    by_cases hlt : j < k
    ·obtain ⟨m, hm⟩ : ∃ m, m = l.getD j B.noMail := ⟨_, rfl⟩
     have hjl : j < l.length := by omega
     obtain ⟨ad, A1, c1, A2, c2, rfl, hmc, hml⟩ := mail_at HX.out j hjl m hm
     obtain ⟨q0, q1, q2, q3, q4, q5, q6, q7⟩ := hmc.on HB.out
     have HEL := Aside0.mk hmc
     have h0 : (0 : Int) ≤ (j : Int) := by omega
     have hjl' : (j : Int) < (l.length : Int) := by omega
     have hfx : B.Fit m := HF.out _ (by rw [hm]; exact getD_mem l j hjl _)
     have hpl : ∀ W, Below wx.heap.size wx W → Calls Tryz.prog 26 #[.agg #[.bool m.frm.null, .string (str m.frm.loc), .string (str m.frm.dom), .slice A1 m.to.length c1, .slice A2 m.body.length c2, .bool m.quiet, .string (str m.helo), .int .i64 m.tm]] W fun e w' => (∃ A c A' c', e = .returned (.agg #[.bool m.frm.null, .string (str m.frm.loc), .string (str m.frm.dom), .slice A m.to.length c, .slice A' m.body.length c', .bool false, .string { data := #[] }, .int .i64 0]) ∧ Ps wx.heap.size w' (.slice A m.to.length c) m.to ∧ Ow wx.heap.size w' (.slice A' m.body.length c') m.body) ∧ Below W.heap.size W w' := fun W hW => (rplain_any m A1 c1 A2 c2 W ((hml.on HB.out).on hW) hfx).mono (by
      rintro e w' ⟨⟨A, c, A', c', rfl, h1, h2⟩, h3⟩
      exact ⟨⟨A, c, A', c', rfl, Kd.R_lower h1 hW.size, h2.low hW.size⟩, h3⟩)
     have HPL := Aside0.mk hpl
     have HQ0 := Aside0.mk (And.intro b2 (And.intro q0 (And.intro q1 (And.intro q2 (And.intro q3 (And.intro q4 (And.intro q5 (And.intro q6 q7))))))))
     have HNL := Aside0.mk (show ((l.take j).map B.plain).length ≤ 1000 by rw [List.length_map, List.length_take]; omega)
     clear hmc hml hfx hpl
     have hft := map_take B.plain l j hjl B.noMail
     rw [← hm] at hft
     have HFT := Aside0.mk hft
     have hlt' : (j : Int) < (k : Int) := by omega
     clear hm hft
     go_wp2_with (fail)
     have HS := Aside0.mk (fun W (hW : Below w.heap.size w W) => (HEL.out.on hW).all)
     refine wp_region_held_drew (S := (fun w' => w'.cell? (ad.add (j * 8)) = some (.bool m.frm.null) ∧ w'.cell? ⟨(ad.add (j * 8)).block, (ad.add (j * 8)).off + 1, none⟩ = some (.string (str m.frm.loc)) ∧ w'.cell? ⟨(ad.add (j * 8)).block, (ad.add (j * 8)).off + 2, none⟩ = some (.string (str m.frm.dom)) ∧ w'.cell? ⟨(ad.add (j * 8)).block, (ad.add (j * 8)).off + 3, none⟩ = some (.slice A1 m.to.length c1) ∧ w'.cell? ⟨(ad.add (j * 8)).block, (ad.add (j * 8)).off + 4, none⟩ = some (.slice A2 m.body.length c2) ∧ w'.cell? ⟨(ad.add (j * 8)).block, (ad.add (j * 8)).off + 5, none⟩ = some (.bool m.quiet) ∧ w'.cell? ⟨(ad.add (j * 8)).block, (ad.add (j * 8)).off + 6, none⟩ = some (.string (str m.helo)) ∧ w'.cell? ⟨(ad.add (j * 8)).block, (ad.add (j * 8)).off + 7, none⟩ = some (.int .i64 m.tm))) (by kernel_rfl) ?_ (fun hHeld => ?_)
     ·exact HS.out _ HB.out.drew
     refine wpAnyH_take (i := 0) (oi := _) (v := ?_) rfl (by kernel_rfl) (by kernel_rfl) (by kernel_rfl) (fun _ _ _ h => h) (Or.inl ⟨by rfl, ?_⟩) (by assumption) ?_
     case refine_2 => (intro w hSw; (try dsimp only [List.getElem_toArray, List.getElem_cons_zero, List.getElem_cons_succ] at hSw ⊢); go_simp; (try with_reducible rfl))
     try simp only [Act.put, List.getElem_toArray, List.getElem_cons_zero, List.getElem_cons_succ, List.setIfInBounds_toArray, List.set_cons_zero, List.set_cons_succ]
     refine wpAnyH_take (i := 2) (oi := _) (v := ?_) rfl (by kernel_rfl) (by kernel_rfl) (by kernel_rfl) (fun _ _ _ h => h) (Or.inl ⟨by rfl, ?_⟩) (by assumption) ?_
     case refine_2 => (intro w hSw; (try dsimp only [List.getElem_toArray, List.getElem_cons_zero, List.getElem_cons_succ] at hSw ⊢); go_simp; (try with_reducible rfl))
     try simp only [Act.put, List.getElem_toArray, List.getElem_cons_zero, List.getElem_cons_succ, List.setIfInBounds_toArray, List.set_cons_zero, List.set_cons_succ]
     refine wpAnyH_take (i := 3) (oi := _) (v := ?_) rfl (by kernel_rfl) (by kernel_rfl) (by kernel_rfl) (fun _ _ _ h => h) (Or.inl ⟨by rfl, ?_⟩) (by assumption) ?_
     case refine_2 => (intro w hSw; (try dsimp only [List.getElem_toArray, List.getElem_cons_zero, List.getElem_cons_succ] at hSw ⊢); go_simp; (try with_reducible rfl))
     try simp only [Act.put, List.getElem_toArray, List.getElem_cons_zero, List.getElem_cons_succ, List.setIfInBounds_toArray, List.set_cons_zero, List.set_cons_succ]
     refine wpAnyH_take (i := 4) (oi := _) (v := ?_) rfl (by kernel_rfl) (by kernel_rfl) (by kernel_rfl) (fun _ _ _ h => h) (Or.inl ⟨by rfl, ?_⟩) (by assumption) ?_
     case refine_2 => (intro w hSw; (try dsimp only [List.getElem_toArray, List.getElem_cons_zero, List.getElem_cons_succ] at hSw ⊢); go_simp; (try with_reducible rfl))
     try simp only [Act.put, List.getElem_toArray, List.getElem_cons_zero, List.getElem_cons_succ, List.setIfInBounds_toArray, List.set_cons_zero, List.set_cons_succ]
     refine wpAnyH_take (i := 5) (oi := _) (v := ?_) rfl (by kernel_rfl) (by kernel_rfl) (by kernel_rfl) (fun _ _ _ h => h) (Or.inl ⟨by rfl, ?_⟩) (by assumption) ?_
     case refine_2 => (intro w hSw; (try dsimp only [List.getElem_toArray, List.getElem_cons_zero, List.getElem_cons_succ] at hSw ⊢); go_simp; (try with_reducible rfl))
     try simp only [Act.put, List.getElem_toArray, List.getElem_cons_zero, List.getElem_cons_succ, List.setIfInBounds_toArray, List.set_cons_zero, List.set_cons_succ]
     refine wpAnyH_ready (rs := [1, 6]) (by kernel_rfl) (by simp) ?_
     refine (AllReadyH.cons (o := _) (by simp only [List.getElem?_toArray, List.getElem?_cons_zero, List.getElem?_cons_succ]; rfl) (fun K hK => ?_) (AllReadyH.cons (o := _) (by simp only [List.getElem?_toArray, List.getElem?_cons_zero, List.getElem?_cons_succ]; rfl) (fun K hK => ?_) AllReadyH.nil))
     ·skip
      go_simp
      refine hK.out _ _ ?_ (fun hHeld2 => ?_)
      ·first | (with_reducible exact HS.out _ HB.out.drew) | (with_reducible exact HS.out _ HB1.out) | (with_reducible exact HS.out _ (HB1.out.alloc HB1.out.size _)) | (with_reducible exact HS.out _ HB9.out) | (with_reducible exact HS.out _ (HB9.out.setCell HG0.out _))
      clear hK K hHeld
      have hHeld := hHeld2
      clear hHeld2
      try simp only [Act.put, List.getElem_toArray, List.getElem_cons_zero, List.getElem_cons_succ, List.setIfInBounds_toArray, List.set_cons_zero, List.set_cons_succ]
      refine wpAnyH_ready (rs := [6]) (by kernel_rfl) (by simp) ?_
      refine (AllReadyH.cons (o := _) (by simp only [List.getElem?_toArray, List.getElem?_cons_zero, List.getElem?_cons_succ]; rfl) (fun K hK => ?_) AllReadyH.nil)
      go_simp
      go_at_call 26
      (with_reducible refine Calls.mono (HPL.out _ ?_) ?_)
      ·(first | exact Below.refl _ _ | exact (Below.refl _ _).drew)
      rintro e w1 ⟨⟨At, ct, Ab, cb, rfl, hTo, hBo⟩, h⟩
      have hw : Below wx.heap.size wx w1 := (by first | exact h | exact ((Below.refl _ _).drew).trans h)
      have HW1 := Aside0.mk hw; have HTo := Aside0.mk hTo; have HBo := Aside0.mk hBo
      have HB1 := Aside0.mk (HB.out.trans (hw.mono HB.out.size))
      have hrow1 := row_on hw HROW.out
      have k2 := (cells3 hrow1).2.2.1; have k2a := fun o => (cells3 (row_on ((Below.refl w1.heap.size w1).alloc (Nat.le_refl _) o) hrow1)).2.2.1
      clear h hw hTo hBo hrow1
      go_wp2_with (fail)
      refine hK.out _ _ ?_ (fun hHeld2 => ?_)
      ·first | (with_reducible exact HS.out _ HB.out.drew) | (with_reducible exact HS.out _ HB1.out) | (with_reducible exact HS.out _ (HB1.out.alloc HB1.out.size _)) | (with_reducible exact HS.out _ HB9.out) | (with_reducible exact HS.out _ (HB9.out.setCell HG0.out _))
      clear hK K hHeld
      have hHeld := hHeld2
      clear hHeld2
      try simp only [Act.put, List.getElem_toArray, List.getElem_cons_zero, List.getElem_cons_succ, List.setIfInBounds_toArray, List.set_cons_zero, List.set_cons_succ]
      refine wpAnyH_ready (rs := [7]) (by kernel_rfl) (by simp) ?_
      refine (AllReadyH.cons (o := _) (by simp only [List.getElem?_toArray, List.getElem?_cons_zero, List.getElem?_cons_succ]; rfl) (fun K hK => ?_) AllReadyH.nil)
      go_simp
      refine hK.out _ _ ?_ (fun hHeld2 => ?_)
      ·first | (with_reducible exact HS.out _ HB.out.drew) | (with_reducible exact HS.out _ HB1.out) | (with_reducible exact HS.out _ (HB1.out.alloc HB1.out.size _)) | (with_reducible exact HS.out _ HB9.out) | (with_reducible exact HS.out _ (HB9.out.setCell HG0.out _))
      clear hK K hHeld
      have hHeld := hHeld2
      clear hHeld2
      try simp only [Act.put, List.getElem_toArray, List.getElem_cons_zero, List.getElem_cons_succ, List.setIfInBounds_toArray, List.set_cons_zero, List.set_cons_succ]
      refine wpAnyH_ready (rs := [8]) (by kernel_rfl) (by simp) ?_
      refine (AllReadyH.cons (o := _) (by simp only [List.getElem?_toArray, List.getElem?_cons_zero, List.getElem?_cons_succ]; rfl) (fun K hK => ?_) AllReadyH.nil)
      refine Kd.N_append_step kMail (w0 := wx) (g + 1) (by rfl) (.tmp 32) (.tmp 38) 22 46 (.agg #[.bool false, .string ⟨#[]⟩, .string ⟨#[]⟩, .slice none 0 0, .slice none 0 0, .bool false, .string ⟨#[]⟩, .int .i64 0]) 120 (by rfl) Tryz.underlying22 infoMail rfl (by decide) (by omega) (.slice A3 j c3) ((l.take j).map B.plain) (B.plain m) (mcs (B.plain m) At ct Ab cb) (fun k => g < k) (fun k => wx.heap.size ≤ k) (by rfl) (by rfl) (mail_FK (m := B.plain m) (kMail_mkM (m := B.plain m) HTo.out HBo.out)) (fun k hk => ⟨Nat.lt_of_lt_of_le (Array.getElem?_eq_some_iff.1 HROW.out).1 hk, fun e => absurd (Kd.N_lt HN.out k e.symm) (by omega)⟩) (fun k hk => Nat.lt_of_lt_of_le (Array.getElem?_eq_some_iff.1 (row_on HW1.out HROW.out)).1 hk) (Kd.N_below HN.out HW1.out) (HW1.out.mono (Array.getElem?_eq_some_iff.1 HROW.out).1) (Array.getElem?_eq_some_iff.1 (row_on HW1.out HROW.out)).1 (by have := HNL.out; omega) ?_
      intro v9 w9 hN9 hB9 hg9 _
      obtain ⟨A9, c9, e9⟩ := Kd.N_slice hN9
      obtain ⟨N9, hN9l⟩ : ∃ N, N = (((l.take j).map B.plain) ++ [B.plain m]).length := ⟨_, rfl⟩
      rw [← hN9l] at e9; subst e9
      have HN9 := Aside0.mk hN9; have HB9 := Aside0.mk (HB.out.trans (hB9.mono (Nat.le_succ_of_le HG0.out))); have HL9 := Aside0.mk hN9l; have hr9 := (hB9.block g (Nat.lt_succ_self g)).trans HROW.out; have HR9 := Aside0.mk hr9; have fr9 := (cells3 hr9).2.2.2.2.2; have k9 := (cells3 hr9).2.2.1; clear hN9 hB9 hg9 hN9l hr9
      refine hK.out _ _ ?_ (fun hHeld2 => ?_)
      ·first | (with_reducible exact HS.out _ HB.out.drew) | (with_reducible exact HS.out _ HB1.out) | (with_reducible exact HS.out _ (HB1.out.alloc HB1.out.size _)) | (with_reducible exact HS.out _ HB9.out) | (with_reducible exact HS.out _ (HB9.out.setCell HG0.out _))
      clear hK K hHeld
      have hHeld := hHeld2
      clear hHeld2
      try simp only [Act.put, List.getElem_toArray, List.getElem_cons_zero, List.getElem_cons_succ, List.setIfInBounds_toArray, List.set_cons_zero, List.set_cons_succ]
      refine wpAnyH_take (i := 9) (oi := _) (v := ?_) rfl (by kernel_rfl) (by kernel_rfl) (by kernel_rfl) (fun _ _ _ h => h) (Or.inl ⟨by rfl, ?_⟩) (by assumption) ?_
      case refine_2 => (intro w hSw; (try dsimp only [List.getElem_toArray, List.getElem_cons_zero, List.getElem_cons_succ] at hSw ⊢); go_simp; (try with_reducible rfl))
      try simp only [Act.put, List.getElem_toArray, List.getElem_cons_zero, List.getElem_cons_succ, List.setIfInBounds_toArray, List.set_cons_zero, List.set_cons_succ]
      refine wpAnyH_ready (rs := [10]) (by kernel_rfl) (by simp) ?_
      refine (AllReadyH.cons (o := _) (by simp only [List.getElem?_toArray, List.getElem?_cons_zero, List.getElem?_cons_succ]; rfl) (fun K hK => ?_) AllReadyH.nil)
      go_simp
      refine hK.out _ _ ?_ (fun hHeld2 => ?_)
      ·first | (with_reducible exact HS.out _ HB.out.drew) | (with_reducible exact HS.out _ HB1.out) | (with_reducible exact HS.out _ (HB1.out.alloc HB1.out.size _)) | (with_reducible exact HS.out _ HB9.out) | (with_reducible exact HS.out _ (HB9.out.setCell HG0.out _))
      clear hK K hHeld
      have hHeld := hHeld2
      clear hHeld2
      try simp only [Act.put, List.getElem_toArray, List.getElem_cons_zero, List.getElem_cons_succ, List.setIfInBounds_toArray, List.set_cons_zero, List.set_cons_succ]
      refine wpAnyH_done (by kernel_rfl) ?_ _
      have hl9 : N9 = j + 1 := by rw [HL9.out, List.length_append, List.length_map, List.length_take]; simp; omega
      subst hl9
      go_wp2_with (fail)
      go_roundg (go - 1)
      case measure => omega
      case rel => exact ⟨j + 1, by go_num, by omega, by omega, ⟨A9, c9, setCell_row3 _ HR9.out, by rw [HFT.out]; exact Ng.set HN9.out _ _, HB9.out.setCell HG0.out _⟩⟩
     ·skip
      go_simp
      go_at_call 26
      (with_reducible refine Calls.mono (HPL.out _ ?_) ?_)
      ·(first | exact Below.refl _ _ | exact (Below.refl _ _).drew)
      rintro e w1 ⟨⟨At, ct, Ab, cb, rfl, hTo, hBo⟩, h⟩
      have hw : Below wx.heap.size wx w1 := (by first | exact h | exact ((Below.refl _ _).drew).trans h)
      have HW1 := Aside0.mk hw; have HTo := Aside0.mk hTo; have HBo := Aside0.mk hBo
      have HB1 := Aside0.mk (HB.out.trans (hw.mono HB.out.size))
      have hrow1 := row_on hw HROW.out
      have k2 := (cells3 hrow1).2.2.1; have k2a := fun o => (cells3 (row_on ((Below.refl w1.heap.size w1).alloc (Nat.le_refl _) o) hrow1)).2.2.1
      clear h hw hTo hBo hrow1
      go_wp2_with (fail)
      refine hK.out _ _ ?_ (fun hHeld2 => ?_)
      ·first | (with_reducible exact HS.out _ HB.out.drew) | (with_reducible exact HS.out _ HB1.out) | (with_reducible exact HS.out _ (HB1.out.alloc HB1.out.size _)) | (with_reducible exact HS.out _ HB9.out) | (with_reducible exact HS.out _ (HB9.out.setCell HG0.out _))
      clear hK K hHeld
      have hHeld := hHeld2
      clear hHeld2
      try simp only [Act.put, List.getElem_toArray, List.getElem_cons_zero, List.getElem_cons_succ, List.setIfInBounds_toArray, List.set_cons_zero, List.set_cons_succ]
      refine wpAnyH_ready (rs := [1, 7]) (by kernel_rfl) (by simp) ?_
      refine (AllReadyH.cons (o := _) (by simp only [List.getElem?_toArray, List.getElem?_cons_zero, List.getElem?_cons_succ]; rfl) (fun K hK => ?_) (AllReadyH.cons (o := _) (by simp only [List.getElem?_toArray, List.getElem?_cons_zero, List.getElem?_cons_succ]; rfl) (fun K hK => ?_) AllReadyH.nil))
      ·skip
       go_simp
       refine hK.out _ _ ?_ (fun hHeld2 => ?_)
       ·first | (with_reducible exact HS.out _ HB.out.drew) | (with_reducible exact HS.out _ HB1.out) | (with_reducible exact HS.out _ (HB1.out.alloc HB1.out.size _)) | (with_reducible exact HS.out _ HB9.out) | (with_reducible exact HS.out _ (HB9.out.setCell HG0.out _))
       clear hK K hHeld
       have hHeld := hHeld2
       clear hHeld2
       try simp only [Act.put, List.getElem_toArray, List.getElem_cons_zero, List.getElem_cons_succ, List.setIfInBounds_toArray, List.set_cons_zero, List.set_cons_succ]
       refine wpAnyH_ready (rs := [7]) (by kernel_rfl) (by simp) ?_
       refine (AllReadyH.cons (o := _) (by simp only [List.getElem?_toArray, List.getElem?_cons_zero, List.getElem?_cons_succ]; rfl) (fun K hK => ?_) AllReadyH.nil)
       go_simp
       refine hK.out _ _ ?_ (fun hHeld2 => ?_)
       ·first | (with_reducible exact HS.out _ HB.out.drew) | (with_reducible exact HS.out _ HB1.out) | (with_reducible exact HS.out _ (HB1.out.alloc HB1.out.size _)) | (with_reducible exact HS.out _ HB9.out) | (with_reducible exact HS.out _ (HB9.out.setCell HG0.out _))
       clear hK K hHeld
       have hHeld := hHeld2
       clear hHeld2
       try simp only [Act.put, List.getElem_toArray, List.getElem_cons_zero, List.getElem_cons_succ, List.setIfInBounds_toArray, List.set_cons_zero, List.set_cons_succ]
       refine wpAnyH_ready (rs := [8]) (by kernel_rfl) (by simp) ?_
       refine (AllReadyH.cons (o := _) (by simp only [List.getElem?_toArray, List.getElem?_cons_zero, List.getElem?_cons_succ]; rfl) (fun K hK => ?_) AllReadyH.nil)
       refine Kd.N_append_step kMail (w0 := wx) (g + 1) (by rfl) (.tmp 32) (.tmp 38) 22 46 (.agg #[.bool false, .string ⟨#[]⟩, .string ⟨#[]⟩, .slice none 0 0, .slice none 0 0, .bool false, .string ⟨#[]⟩, .int .i64 0]) 120 (by rfl) Tryz.underlying22 infoMail rfl (by decide) (by omega) (.slice A3 j c3) ((l.take j).map B.plain) (B.plain m) (mcs (B.plain m) At ct Ab cb) (fun k => g < k) (fun k => wx.heap.size ≤ k) (by rfl) (by rfl) (mail_FK (m := B.plain m) (kMail_mkM (m := B.plain m) HTo.out HBo.out)) (fun k hk => ⟨Nat.lt_of_lt_of_le (Array.getElem?_eq_some_iff.1 HROW.out).1 hk, fun e => absurd (Kd.N_lt HN.out k e.symm) (by omega)⟩) (fun k hk => Nat.lt_of_lt_of_le (Array.getElem?_eq_some_iff.1 (row_on HW1.out HROW.out)).1 hk) (Kd.N_below HN.out HW1.out) (HW1.out.mono (Array.getElem?_eq_some_iff.1 HROW.out).1) (Array.getElem?_eq_some_iff.1 (row_on HW1.out HROW.out)).1 (by have := HNL.out; omega) ?_
       intro v9 w9 hN9 hB9 hg9 _
       obtain ⟨A9, c9, e9⟩ := Kd.N_slice hN9
       obtain ⟨N9, hN9l⟩ : ∃ N, N = (((l.take j).map B.plain) ++ [B.plain m]).length := ⟨_, rfl⟩
       rw [← hN9l] at e9; subst e9
       have HN9 := Aside0.mk hN9; have HB9 := Aside0.mk (HB.out.trans (hB9.mono (Nat.le_succ_of_le HG0.out))); have HL9 := Aside0.mk hN9l; have hr9 := (hB9.block g (Nat.lt_succ_self g)).trans HROW.out; have HR9 := Aside0.mk hr9; have fr9 := (cells3 hr9).2.2.2.2.2; have k9 := (cells3 hr9).2.2.1; clear hN9 hB9 hg9 hN9l hr9
       refine hK.out _ _ ?_ (fun hHeld2 => ?_)
       ·first | (with_reducible exact HS.out _ HB.out.drew) | (with_reducible exact HS.out _ HB1.out) | (with_reducible exact HS.out _ (HB1.out.alloc HB1.out.size _)) | (with_reducible exact HS.out _ HB9.out) | (with_reducible exact HS.out _ (HB9.out.setCell HG0.out _))
       clear hK K hHeld
       have hHeld := hHeld2
       clear hHeld2
       try simp only [Act.put, List.getElem_toArray, List.getElem_cons_zero, List.getElem_cons_succ, List.setIfInBounds_toArray, List.set_cons_zero, List.set_cons_succ]
       refine wpAnyH_take (i := 9) (oi := _) (v := ?_) rfl (by kernel_rfl) (by kernel_rfl) (by kernel_rfl) (fun _ _ _ h => h) (Or.inl ⟨by rfl, ?_⟩) (by assumption) ?_
       case refine_2 => (intro w hSw; (try dsimp only [List.getElem_toArray, List.getElem_cons_zero, List.getElem_cons_succ] at hSw ⊢); go_simp; (try with_reducible rfl))
       try simp only [Act.put, List.getElem_toArray, List.getElem_cons_zero, List.getElem_cons_succ, List.setIfInBounds_toArray, List.set_cons_zero, List.set_cons_succ]
       refine wpAnyH_ready (rs := [10]) (by kernel_rfl) (by simp) ?_
       refine (AllReadyH.cons (o := _) (by simp only [List.getElem?_toArray, List.getElem?_cons_zero, List.getElem?_cons_succ]; rfl) (fun K hK => ?_) AllReadyH.nil)
       go_simp
       refine hK.out _ _ ?_ (fun hHeld2 => ?_)
       ·first | (with_reducible exact HS.out _ HB.out.drew) | (with_reducible exact HS.out _ HB1.out) | (with_reducible exact HS.out _ (HB1.out.alloc HB1.out.size _)) | (with_reducible exact HS.out _ HB9.out) | (with_reducible exact HS.out _ (HB9.out.setCell HG0.out _))
       clear hK K hHeld
       have hHeld := hHeld2
       clear hHeld2
       try simp only [Act.put, List.getElem_toArray, List.getElem_cons_zero, List.getElem_cons_succ, List.setIfInBounds_toArray, List.set_cons_zero, List.set_cons_succ]
       refine wpAnyH_done (by kernel_rfl) ?_ _
       have hl9 : N9 = j + 1 := by rw [HL9.out, List.length_append, List.length_map, List.length_take]; simp; omega
       subst hl9
       go_wp2_with (fail)
       go_roundg (go - 1)
       case measure => omega
       case rel => exact ⟨j + 1, by go_num, by omega, by omega, ⟨A9, c9, setCell_row3 _ HR9.out, by rw [HFT.out]; exact Ng.set HN9.out _ _, HB9.out.setCell HG0.out _⟩⟩
      ·skip
       go_simp
       refine hK.out _ _ ?_ (fun hHeld2 => ?_)
       ·first | (with_reducible exact HS.out _ HB.out.drew) | (with_reducible exact HS.out _ HB1.out) | (with_reducible exact HS.out _ (HB1.out.alloc HB1.out.size _)) | (with_reducible exact HS.out _ HB9.out) | (with_reducible exact HS.out _ (HB9.out.setCell HG0.out _))
       clear hK K hHeld
       have hHeld := hHeld2
       clear hHeld2
       try simp only [Act.put, List.getElem_toArray, List.getElem_cons_zero, List.getElem_cons_succ, List.setIfInBounds_toArray, List.set_cons_zero, List.set_cons_succ]
       refine wpAnyH_ready (rs := [1]) (by kernel_rfl) (by simp) ?_
       refine (AllReadyH.cons (o := _) (by simp only [List.getElem?_toArray, List.getElem?_cons_zero, List.getElem?_cons_succ]; rfl) (fun K hK => ?_) AllReadyH.nil)
       go_simp
       refine hK.out _ _ ?_ (fun hHeld2 => ?_)
       ·first | (with_reducible exact HS.out _ HB.out.drew) | (with_reducible exact HS.out _ HB1.out) | (with_reducible exact HS.out _ (HB1.out.alloc HB1.out.size _)) | (with_reducible exact HS.out _ HB9.out) | (with_reducible exact HS.out _ (HB9.out.setCell HG0.out _))
       clear hK K hHeld
       have hHeld := hHeld2
       clear hHeld2
       try simp only [Act.put, List.getElem_toArray, List.getElem_cons_zero, List.getElem_cons_succ, List.setIfInBounds_toArray, List.set_cons_zero, List.set_cons_succ]
       refine wpAnyH_ready (rs := [8]) (by kernel_rfl) (by simp) ?_
       refine (AllReadyH.cons (o := _) (by simp only [List.getElem?_toArray, List.getElem?_cons_zero, List.getElem?_cons_succ]; rfl) (fun K hK => ?_) AllReadyH.nil)
       refine Kd.N_append_step kMail (w0 := wx) (g + 1) (by rfl) (.tmp 32) (.tmp 38) 22 46 (.agg #[.bool false, .string ⟨#[]⟩, .string ⟨#[]⟩, .slice none 0 0, .slice none 0 0, .bool false, .string ⟨#[]⟩, .int .i64 0]) 120 (by rfl) Tryz.underlying22 infoMail rfl (by decide) (by omega) (.slice A3 j c3) ((l.take j).map B.plain) (B.plain m) (mcs (B.plain m) At ct Ab cb) (fun k => g < k) (fun k => wx.heap.size ≤ k) (by rfl) (by rfl) (mail_FK (m := B.plain m) (kMail_mkM (m := B.plain m) HTo.out HBo.out)) (fun k hk => ⟨Nat.lt_of_lt_of_le (Array.getElem?_eq_some_iff.1 HROW.out).1 hk, fun e => absurd (Kd.N_lt HN.out k e.symm) (by omega)⟩) (fun k hk => Nat.lt_of_lt_of_le (Array.getElem?_eq_some_iff.1 (row_on HW1.out HROW.out)).1 hk) (Kd.N_below HN.out HW1.out) (HW1.out.mono (Array.getElem?_eq_some_iff.1 HROW.out).1) (Array.getElem?_eq_some_iff.1 (row_on HW1.out HROW.out)).1 (by have := HNL.out; omega) ?_
       intro v9 w9 hN9 hB9 hg9 _
       obtain ⟨A9, c9, e9⟩ := Kd.N_slice hN9
       obtain ⟨N9, hN9l⟩ : ∃ N, N = (((l.take j).map B.plain) ++ [B.plain m]).length := ⟨_, rfl⟩
       rw [← hN9l] at e9; subst e9
       have HN9 := Aside0.mk hN9; have HB9 := Aside0.mk (HB.out.trans (hB9.mono (Nat.le_succ_of_le HG0.out))); have HL9 := Aside0.mk hN9l; have hr9 := (hB9.block g (Nat.lt_succ_self g)).trans HROW.out; have HR9 := Aside0.mk hr9; have fr9 := (cells3 hr9).2.2.2.2.2; have k9 := (cells3 hr9).2.2.1; clear hN9 hB9 hg9 hN9l hr9
       refine hK.out _ _ ?_ (fun hHeld2 => ?_)
       ·first | (with_reducible exact HS.out _ HB.out.drew) | (with_reducible exact HS.out _ HB1.out) | (with_reducible exact HS.out _ (HB1.out.alloc HB1.out.size _)) | (with_reducible exact HS.out _ HB9.out) | (with_reducible exact HS.out _ (HB9.out.setCell HG0.out _))
       clear hK K hHeld
       have hHeld := hHeld2
       clear hHeld2
       try simp only [Act.put, List.getElem_toArray, List.getElem_cons_zero, List.getElem_cons_succ, List.setIfInBounds_toArray, List.set_cons_zero, List.set_cons_succ]
       refine wpAnyH_take (i := 9) (oi := _) (v := ?_) rfl (by kernel_rfl) (by kernel_rfl) (by kernel_rfl) (fun _ _ _ h => h) (Or.inl ⟨by rfl, ?_⟩) (by assumption) ?_
       case refine_2 => (intro w hSw; (try dsimp only [List.getElem_toArray, List.getElem_cons_zero, List.getElem_cons_succ] at hSw ⊢); go_simp; (try with_reducible rfl))
       try simp only [Act.put, List.getElem_toArray, List.getElem_cons_zero, List.getElem_cons_succ, List.setIfInBounds_toArray, List.set_cons_zero, List.set_cons_succ]
       refine wpAnyH_ready (rs := [10]) (by kernel_rfl) (by simp) ?_
       refine (AllReadyH.cons (o := _) (by simp only [List.getElem?_toArray, List.getElem?_cons_zero, List.getElem?_cons_succ]; rfl) (fun K hK => ?_) AllReadyH.nil)
       go_simp
       refine hK.out _ _ ?_ (fun hHeld2 => ?_)
       ·first | (with_reducible exact HS.out _ HB.out.drew) | (with_reducible exact HS.out _ HB1.out) | (with_reducible exact HS.out _ (HB1.out.alloc HB1.out.size _)) | (with_reducible exact HS.out _ HB9.out) | (with_reducible exact HS.out _ (HB9.out.setCell HG0.out _))
       clear hK K hHeld
       have hHeld := hHeld2
       clear hHeld2
       try simp only [Act.put, List.getElem_toArray, List.getElem_cons_zero, List.getElem_cons_succ, List.setIfInBounds_toArray, List.set_cons_zero, List.set_cons_succ]
       refine wpAnyH_done (by kernel_rfl) ?_ _
       have hl9 : N9 = j + 1 := by rw [HL9.out, List.length_append, List.length_map, List.length_take]; simp; omega
       subst hl9
       go_wp2_with (fail)
       go_roundg (go - 1)
       case measure => omega
       case rel => exact ⟨j + 1, by go_num, by omega, by omega, ⟨A9, c9, setCell_row3 _ HR9.out, by rw [HFT.out]; exact Ng.set HN9.out _ _, HB9.out.setCell HG0.out _⟩⟩
    ·have hne : k = j := by omega
     subst hne
     have t5 : decide ((k : Int) < (k : Int)) = false := by simp
     have hNr := (Kd.N_reads' HN.out).2
     rw [← HL.out, HLl.out] at hNr
     have hcr := hNr.2
     rw [← HLl.out] at hcr
     have HBY1 := Aside0.mk (HBY.out wx A3 c3 hcr hNr.1)
     clear hNr hcr
     by_cases hx2 : X2 = 0
     ·have hP2 := HP.out
      rw [if_pos hx2] at hP2
      have HP2 := Aside0.mk hP2
      clear hP2
      subst hx2
      go_wp2_with (first | (go_at_call 14; (with_reducible refine Calls.mono HBY1.out ?_); rintro e w11 ⟨⟨A11, c11, rfl⟩, h⟩; have H11 := Aside0.mk (HB.out.trans (h.mono HB.out.size)); clear h))
      go_roundg (go1 - 1)
      case measure => omega
      case rel => exact ⟨k + 1, k, by go_num, rfl, by omega, by omega, by omega, ⟨by rw [Nat.add_sub_cancel, HP2.out], H11.out⟩⟩
     ·have hP2 := HP.out
      rw [if_neg hx2] at hP2
      have HP2 := Aside0.mk hP2
      have e0 : (X2 == 0) = false := beq_eq_false_iff_ne.2 hx2
      clear hP2 hx2
      go_wp2_with (first | (go_at_call 14; (with_reducible refine Calls.mono HBY1.out ?_); rintro e w11 ⟨⟨A11, c11, rfl⟩, h⟩; have H11 := Aside0.mk (HB.out.trans (h.mono HB.out.size)); clear h))
      go_roundg (go1 - 1)
      case measure => omega
      case rel => exact ⟨k + 1, r, by go_num, rfl, by omega, by omega, by omega, ⟨by rw [Nat.add_sub_cancel, HP2.out], H11.out⟩⟩
  ·have hke : k = M + 1 := by omega
   have HRE := Aside0.mk (show r = B.packGo l o n M by rw [H.out.1, hke]; rfl)
   have HB1 := Aside0.mk H.out.2
   clear H
   by_cases hlM : M = 4
   ·have t1 : decide ((k : Int) ≤ (l.length : Int)) = decide ((k : Int) ≤ (l.length : Int)) := rfl
    have t2 : decide ((k : Int) ≤ 4) = false := by simp; omega
    have t4 : ¬ ((k : Int) ≤ 4) := by omega
    clear hlM
    by_cases hkl : (k : Int) ≤ (l.length : Int)
    ·go_wp2_with (fail)
     go_ret
     exact ⟨(by rw [HRE.out]; rfl), HB1.out⟩
    ·go_wp2_with (fail)
     go_ret
     exact ⟨(by rw [HRE.out]; rfl), HB1.out⟩
   ·have hkl : ¬ ((k : Int) ≤ (l.length : Int)) := by have := HMM.out; omega
    have t2 : decide ((k : Int) ≤ (l.length : Int)) = false := by simp; omega
    go_wp2_with (fail)
    go_ret
    exact ⟨(by rw [HRE.out]; rfl), HB1.out⟩
end Go.Proofs.YtpfmnkpmidjfjaaGreatDoor
