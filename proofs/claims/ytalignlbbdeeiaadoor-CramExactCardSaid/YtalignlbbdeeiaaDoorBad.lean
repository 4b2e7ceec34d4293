/- What the law CramBad answers. -/
import Derived.Test.YtalignlbbdeeiaaDoorProg
import Derived.WalkKit
import Derived.WalkLawsBesides
import Derived.Outline
import Derived.LoopTactic
import Derived.Lib.Hide
import Derived.Deep.QuietTactic
import Derived.BigQuiet
import Derived.Deep.LoopGhost
import Derived.Deep.DeepCutAuto
import Derived.Deep.CutBlock
import Derived.Deep.RegionHeld3
import Derived.Deep.RegionWith
import Derived.Deep.WholeRow
import Derived.Laws.Rows
import Derived.Laws.Tables
import Derived.Laws.ResultCell
import Derived.StillTailTactics
import Derived.Deep.DeepMust
import Derived.IntWalk
import Derived.KernelRfl
import Derived.Test.YtalignlbbdeeiaaDoorWWords
import Derived.Test.YtalignlbbdeeiaaDoorWLast
import Derived.Test.YtalignlbbdeeiaaDoorWMore
import Derived.RegionTactic
import Derived.Test.YtalignlbbdeeiaaDoorCDec
namespace Go.Proofs.YtalignlbbdeeiaaDoor
open Go.RowKit
open Go.Proofs.YtalignlbbdeeiaaDoorW.PrintWords
set_option linter.unusedVariables false
set_option linter.unusedSimpArgs false
theorem no_enc (s : List UInt8) (h : enc (dfold (nums (trim s))).2.2 ≠ s) (l : List Int) (hb : Md5.Bytes l) : enc l ≠ s := fun e => h (by rw [dec_back s l hb e]; exact e)
theorem cdec_no (S : ByteArray) (w : World) (hs : S.size ≤ 2000) (h : ∀ l, Md5.Bytes l → enc l ≠ S.data.toList) :
    Calls Tryd.prog 7 #[.string S] w fun e w' => e = .returned (.tuple #[.slice none 0 0, .int .i64 5]) ∧ Below w.heap.size w w' := by
  refine (cdec_any S w hs).mono ?_
  rintro e w' ⟨⟨v, l, _, _, hb, _, he⟩ | ⟨he, _⟩, hB⟩
  · exact absurd he (h l hb)
  · exact ⟨he, hB⟩
theorem cdec_yes (S : ByteArray) (l : List Int) (w : World) (hs : S.size ≤ 2000) (hb : Md5.Bytes l) (h : enc l = S.data.toList) :
    Calls Tryd.prog 7 #[.string S] w fun e w' => ∃ v, e = .returned (.tuple #[v, .int .i64 0]) ∧ RB w' w.heap.size (fun _ => True) v l ∧ Below w.heap.size w w' := by
  refine (cdec_any S w hs).mono ?_
  rintro e w' ⟨⟨v, l', he, hr, hb', _, hl⟩ | ⟨_, hn⟩, hB⟩
  · obtain rfl : l = l' := enc_inj _ l l' (Nat.le_refl _) hb hb' (h.trans hl.symm)
    exact ⟨v, he, hr, hB⟩
  · exact absurd h (hn l hb)
def bd : Nat → ByteArray
  | 0 => ⟨#[89, 81, 61]⟩
  | 1 => ⟨#[89, 82, 61, 61]⟩
  | 2 => ⟨#[89, 87, 70, 61]⟩
  | 3 => ⟨#[89, 61, 61, 61]⟩
  | 4 => ⟨#[89, 32, 81, 61]⟩
  | 5 => ⟨#[61, 89, 81, 61]⟩
  | 6 => ⟨#[89, 81, 61, 61, 89, 81, 61, 61]⟩
  | 7 => ⟨#[89, 95, 81, 61]⟩
  | 8 => ⟨#[61, 61, 61, 61]⟩
  | _ => ⟨#[89, 81, 61, 10]⟩
def bads : Array Value := #[.string (bd 0), .string (bd 1), .string (bd 2), .string (bd 3), .string (bd 4), .string (bd 5), .string (bd 6), .string (bd 7), .string (bd 8), .string (bd 9)]
theorem bads_at (q : Nat) (h : q < 10) : bads[q]? = some (.string (bd q)) := by
  match q, h with
  | 0, _ => rfl
  | 1, _ => rfl
  | 2, _ => rfl
  | 3, _ => rfl
  | 4, _ => rfl
  | 5, _ => rfl
  | 6, _ => rfl
  | 7, _ => rfl
  | 8, _ => rfl
  | 9, _ => rfl
theorem bd_no (q : Nat) (h : q < 10) : enc (dfold (nums (trim (bd q).data.toList))).2.2 ≠ (bd q).data.toList := by
  revert q
  decide +kernel
theorem bd_size (q : Nat) (h : q < 10) : (bd q).size ≤ 2000 := by
  revert q
  decide +kernel
set_option maxRecDepth 100000 in
set_option maxHeartbeats 2000000 in
theorem bad_any (nn : Int) (A : Option Addr) (c : Nat) (l : List Int) (w : World) (hnn : (Lit.int .i64 nn).wf = true) (hr : CB w A l) (hc : l.length ≤ c) (hb : Md5.Bytes l) :
    Calls Tryd.prog 4 #[.int .i64 nn, .slice A l.length c] w fun e w' => e = .returned (.bool true) ∧ Below w.heap.size w w' := by
  have HR := Aside0.mk hr
  have HB := Aside0.mk hb
  have HC := Aside0.mk hc
  clear hr hb hc
  go_enter Tryd.func4, Tryd.ntmps4
  by_cases hlen : 60 < l.length
  · have t1 : decide ((60 : Int) < (l.length : Int)) = true := by simp; omega
    have t2 : decide (60 < l.length) = true := by simp; omega
    go_wp2
    go_ret
    exact ⟨rfl, Below.refl _ _⟩
  · have t1 : decide ((60 : Int) < (l.length : Int)) = false := by simp; omega
    have t2 : decide (60 < l.length) = false := by simp; omega
    have hlen' : l.length ≤ 60 := by omega
    obtain ⟨E, hE⟩ : ∃ E, encB (l ++ [1, 2, 3]) = E := ⟨_, rfl⟩
    have hbl : Md5.Bytes (l ++ [1, 2, 3]) := HB.out.append (by intro x hx; simp at hx; omega)
    have hEs : E.data.toList.length = (l.length + 5) / 3 * 4 := by
      rw [← hE]
      show (enc (l ++ [1, 2, 3])).toArray.toList.length = _
      simp [enc_length]
    have hEz : E.size = (l.length + 5) / 3 * 4 := by rw [← hEs, Array.length_toList]; rfl
    have HE := Aside0.mk hE
    have HBL := Aside0.mk hbl
    have HEZ := Aside0.mk hEz
    obtain ⟨E2, hE2⟩ : ∃ E2, E2 = E ++ (⟨#[65]⟩ : ByteArray) := ⟨_, rfl⟩
    have ha1 : ∀ w, (Op.stringOp .add E { data := #[65] }).run Tryd.prog w = .ok (.string E2) w := by rw [hE2]; exact put_run E _ (by omega) (by decide)
    have hE2s : E2.size ≤ 2000 := by
      rw [hE2, ByteArray.size_append]
      have : (⟨#[65]⟩ : ByteArray).size = 1 := rfl
      omega
    have hE2n : ∀ l, Md5.Bytes l → enc l ≠ E2.data.toList := by
      intro l' _ h
      have h1 := congrArg List.length h
      rw [enc_length, hE2, ByteArray.data_append, Array.toList_append, List.length_append, hEs] at h1
      simp at h1
      omega
    have HE2 := Aside0.mk hE2n
    have hm1 : (l ++ [1, 2, 3]).length = l.length + 3 := by simp
    have HM1 := Aside0.mk hm1
    clear hE hbl hEs hEz hE2 hE2n hm1
    go_upto_region 4 with (first | (go_at_call 10; refine (twin_any A c l w HR.out (by omega)).mono ?_; rintro e w1 ⟨v, rfl, h1, h2⟩; obtain ⟨A1, c1, rfl, hc1, hr1⟩ := Kd.R_reads h1; have H1 := Aside0.mk h1; have H2 := Aside0.mk h2; clear h1 h2 hr1) | ((with_reducible refine gate_builtin (b := .append) (xs := #[.tmp 17, .tmp 18]) rfl ?_); at_builtin; refine Kd.R_append_rows (Kd.int .u8) (w0 := w) w.heap.size rfl (.tmp 17) (.tmp 18) 22 5 (.int .u8 0) 1 rfl Tryd.underlying22 infoU8 rfl (by decide) (by omega) (.slice A1 l.length c1) l [1, 2, 3] _ _ _ (fun _ => True) (fun _ => False) rfl rfl (Kd.R_alloc H1.out _) (CB_of_row (heap_alloc_new _ _) rfl (by simp)) (fun _ _ h => h) (fun _ h => h.elim) (fun _ _ => trivial) (H2.out.alloc H2.out.size _) (by have := H2.out.size; simp <;> omega) (by simp <;> omega) ?_; intro v2 w2 g1 g2 g3 g4; obtain ⟨A2, c2, rfl, hc2, hr2⟩ := Kd.R_reads g1; have G1 := Aside0.mk hr2; have G2 := Aside0.mk g2; clear g1 g2 g3 g4 hr2) | (go_at_call 6; refine (cenc_at A2 c2 _ (l ++ [1, 2, 3]) E w2 (by simp) HE.out G1.out HBL.out (by rw [HM1.out]; omega) hc2).mono ?_; rintro e w3 ⟨rfl, h3⟩; have H3 := Aside0.mk (G2.out.trans (h3.mono G2.out.size)); clear h3))
    clear H1 H2 G1 G2
    go_cut [6] (fun v6 wc => ∃ b6 : Nat, v6 = .slice (some ⟨b6, 0, none⟩) 10 10 ∧ Aside0 (wc.heap[b6]? = some (.cells bads 9 (0, 0))) ∧ Aside0 (Below w.heap.size w wc))
    case first =>
      have HBa := Aside0.mk (H3.out.alloc H3.out.size (.cells bads 9))
      go_wp2_with (fail)
      go_meet
      case rel => exact ⟨w3.heap.size, rfl, ⟨heap_alloc_new _ _⟩, HBa⟩
    case rest =>
    obtain ⟨b6, rfl, H6, HBb⟩ := hcut
    obtain ⟨wx, rfl⟩ : ∃ wz : World, wz = wc := ⟨_, rfl⟩
    clear H3
    obtain ⟨q, hq, hql⟩ := rounds_small nn 10 (by omega) (by omega)
    have hq' : wrap64 ((IntKind.u64.wrap nn).tmod 10) = (q : Int) := hq
    have ct : wx.cell? ⟨b6, q, none⟩ = some (.string (bd q)) := by rw [cell_of_row wx b6 _ _ _ _ H6.out]; exact bads_at q hql
    have hq0 : (0 : Int) ≤ (q : Int) := by omega
    have hq10 : (q : Int) < 10 := by omega
    have hno := no_enc (bd q).data.toList (bd_no q hql)
    have hts := bd_size q hql
    obtain ⟨T, hT⟩ : ∃ T, T = bd q := ⟨_, rfl⟩
    rw [← hT] at ct hno hts
    have HNO := Aside0.mk hno
    have hnil : enc [] = (⟨#[]⟩ : ByteArray).data.toList := rfl
    have HNIL := Aside0.mk hnil
    have hb0 : Md5.Bytes [] := fun _ h => absurd h List.not_mem_nil
    have HB0 := Aside0.mk hb0
    clear hq hT hno hnil hb0
    go_wp2_with (first | (go_at_call 7; with_reducible refine Calls.mono (cdec_no T wx hts HNO.out) ?_; rintro e w4 ⟨rfl, h4⟩; have H4 := Aside0.mk h4; clear h4) | (go_at_call 7; with_reducible refine Calls.mono (cdec_no E2 w4 hE2s HE2.out) ?_; rintro e w5 ⟨rfl, h5⟩; have H5 := Aside0.mk h5; clear h5) | (go_at_call 7; with_reducible refine Calls.mono (cdec_yes ⟨#[]⟩ [] w5 (by decide) HB0.out HNIL.out) ?_; rintro e w6 ⟨v, rfl, h6, h7⟩; obtain ⟨A7, c7, rfl, hc7, hr7⟩ := Kd.R_reads h6; have H6' := Aside0.mk h7; clear h6 h7 hr7) | (go_at_call 9; refine (wakesB_any _).mono ?_; rintro e w9 ⟨rfl, h9⟩; have H9 := Aside0.mk h9; clear h9))
    go_ret
    have z4 := HBb.out.size
    have z5 := H4.out.size
    have z6 := H5.out.size
    have z7 := H6'.out.size
    exact ⟨rfl, HBb.out.trans ((H4.out.trans ((H5.out.trans ((H6'.out.trans (H9.out.mono z7)).mono z6)).mono z5)).mono z4)⟩
end Go.Proofs.YtalignlbbdeeiaaDoor
