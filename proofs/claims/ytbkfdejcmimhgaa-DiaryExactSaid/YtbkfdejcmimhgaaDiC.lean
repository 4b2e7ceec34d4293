/- Records in memory of their own: package diary's Twins. -/
import Derived.Test.YtbkfdejcmimhgaaProg
import Derived.WalkKit
import Derived.WalkLawsBesides
import Derived.Outline
import Derived.LoopTactic
import Derived.Lib.Hide
import Derived.Deep.QuietTactic
import Derived.BigQuiet
import Derived.Deep.LoopGhost
import Derived.Deep.DeepCutAuto
import Derived.Deep.CutBlock
import Derived.Deep.RegionHeld3
import Derived.Deep.RegionWith
import Derived.Deep.WholeRow
import Derived.Laws.Rows
import Derived.Laws.Tables
import Derived.Laws.ResultCell
import Derived.StillTailTactics
import Derived.Deep.DeepMust
import Derived.IntWalk
import Derived.KernelRfl
import Derived.Test.YtbkfdejcmimhgaaVa
import Derived.RegionTactic
import Derived.Test.YtbkfdejcmimhgaaDiB
namespace Go.Proofs.Ytbkfdejcmimhgaa
open Go.RowKit Go.Proofs.YtbkfdejcmimhgaaW.PrintWords Go.Proofs.Ytbkfdejcmimhgaa.PDiaryExact
set_option linter.unusedVariables false
set_option linter.unusedSimpArgs false
/-- A record of lengths that are played. -/
def Lite (x : S39) : Prop := x.f1.f1.length ≤ 1000000 ∧ x.f1.f2.length ≤ 1000000 ∧ x.f3.length ≤ 1000000 ∧ x.f7.length ≤ 1000000
def Lites (l : List S39) : Prop := ∀ x ∈ l, Lite x
theorem Lites.getD {l : List S39} (h : Lites l) (n : Nat) (hn : n < l.length) : Lite (l.getD n z39) := h _ (by simp [List.getD_eq_getElem?_getD, hn])
set_option maxRecDepth 100000 in
set_option maxHeartbeats 4000000 in
theorem dtwinsb_any (A : Option Addr) (c : Nat) (l : List S39) (w : World) (hr : k39.C w A l.length l) (hL : Lites l) (hl : l.length ≤ 1000000) :
    Calls Try.prog 41 #[.slice A l.length c] w fun e w' => ∃ v, e = .returned v ∧ Kd.N (k39b (fun k => w.heap.size ≤ k)) 39 w' w.heap.size (fun k => w.heap.size ≤ k) v l ∧ Below w.heap.size w w' := by
  have HR := Aside0.mk hr
  have HL := Aside0.mk hL
  clear hr hL
  go_enter Try.func41, Try.ntmps41
  go_wp2_with (fail)
  go_loopg [3, 5, 8] l.length (fun g v3 v5 v8 wr => ∃ n : Nat, n ≤ l.length ∧ g + n = l.length ∧ v8 = .int .i64 n ∧ Aside0 (Kd.N (k39b (fun k => w.heap.size ≤ k)) 39 wr w.heap.size (fun k => w.heap.size ≤ k) v3 (l.take n)) ∧ Aside0 (Below w.heap.size w wr))
  case atStart => exact ⟨0, by omega, by omega, rfl, ⟨Kd.N_nil _ _ _ _ _⟩, ⟨Below.refl _ _⟩⟩
  case round =>
  obtain ⟨n, hn, hg, rfl, HN, HB⟩ := hrel
  obtain ⟨A3, c3, rfl, hc3, _⟩ := Kd.N_reads HN.out
  have hlen : (l.take n).length = n := by rw [List.length_take]; omega
  rw [hlen] at HN hc3 ⊢
  by_cases hlt : n < l.length
  · have hlt' : (n : Int) < (l.length : Int) := by omega
    obtain ⟨ad, A4, c4, A5, c5, A10, c10, A14, c14, rfl, q0, q1, q2, q3, q4, q5, q6, q7, q8, q9, q10, q11, q12, q13, q14, l4, g4, l5, g5, l10, g10, l14, g14⟩ := at_T39 (Kd.C_below HR.out HB.out) n (by omega) (by omega)
    have ex : rd_T39 l n = l.getD n z39 := rfl
    have hLx : Lite (rd_T39 l n) := by rw [ex]; exact HL.out.getD n hlt
    have htk : l.take (n + 1) = l.take n ++ [rd_T39 l n] := by
      rw [ex, List.take_succ_eq_append_getElem hlt]; simp [List.getD_eq_getElem?_getD, hlt]
    clear ex
    simp only [Int.toNat_natCast] at q0 q1 q2 q3 q4 q5 q6 q7 q8 q9 q10 q11 q12 q13 q14
    generalize rd_T39 l n = x at *
    have HTK := Aside0.mk htk
    have HLX := Aside0.mk hLx
    have hKx := fun (W : World) (hW : Below wr.heap.size wr W) => k39_mk W x l4 (Kd.C_below g4 hW) l5 (Kd.C_below g5 hW) l10 (Kd.C_below g10 hW) l14 (Kd.C_below g14 hW)
    have HKX := Aside0.mk hKx
    clear htk hLx hKx g4 g5 g10 g14 l4 l5 l10 l14
    obtain ⟨Wa, hWa⟩ : ∃ Wa, Wa = wr.alloc (.cells #[.int .i64 x.f0, .bool x.f1.f0.f0, .string x.f1.f0.f1, .string x.f1.f0.f2, .slice A4 x.f1.f1.length c4, .slice A5 x.f1.f2.length c5, .bool x.f1.f3, .string x.f1.f4, .int .i64 x.f1.f5, .int .i64 x.f2, .slice A10 x.f3.length c10, .int .i64 x.f4, .int .i64 x.f5, .int .i64 x.f6, .slice A14 x.f7.length c14] 39) := ⟨_, rfl⟩
    have hba : Below wr.heap.size wr Wa := by rw [hWa]; exact (Below.refl _ _).alloc (Nat.le_refl _) _
    have hza : Wa.heap.size = wr.heap.size + 1 := by rw [hWa]; simp
    have HBA := Aside0.mk hba
    have HZA := Aside0.mk hza
    have HWA := Aside0.mk hWa
    clear hba hza hWa
    have hn3 : (l.take n).length ≤ 1000000 := by rw [List.length_take]; omega
    have HN3 := Aside0.mk hn3
    clear hn3
    go_wp2_with (first | (go_at_call 39; rw [← HWA.out]; refine (dtwinb_any x _ Wa (HKX.out Wa HBA.out) HLX.out.1 HLX.out.2.1 HLX.out.2.2.1 HLX.out.2.2.2).mono ?_; rintro e w1 ⟨cs', rfl, hf, hb1⟩; obtain ⟨T4, d4, T5, d5, T10, d10, T14, d14, rfl, _, _, _, _, _, _, _, _⟩ := k39_openF (FK_of_b hf); have HF := Aside0.mk (FK_bmono hf (S' := fun k => w.heap.size ≤ k) (fun k hk => by have h1 := HB.out.size; have h2 := HBA.out.size; omega)); have HB1 := Aside0.mk hb1; clear hf hb1) | ((with_reducible refine gate_builtin (b := .append) (xs := #[.tmp 12, .tmp 15]) rfl ?_); at_builtin; refine Kd.N_append (k39b (fun k => w.heap.size ≤ k)) (w0 := w) w.heap.size rfl (.tmp 12) (.tmp 15) 22 39 (.agg #[.int .i64 0, .bool false, .string ⟨#[]⟩, .string ⟨#[]⟩, .slice none 0 0, .slice none 0 0, .bool false, .string ⟨#[]⟩, .int .i64 0, .int .i64 0, .slice none 0 0, .int .i64 0, .int .i64 0, .int .i64 0, .slice none 0 0]) 208 rfl Try.underlying22 info39 rfl (show 0 < 15 by decide) (by omega) (.slice A3 n c3) (l.take n) x _ (fun k => w.heap.size ≤ k) (fun k => Wa.heap.size ≤ k) ?s1 rfl HF.out ?s2 ?s3 ?s4 ?s5 ?s6 ?s7 ?_))
    case s1 => rfl
    case s2 =>
      intro k hk
      have h1 := HZA.out
      have h2 := HB.out.size
      have h3 := HN.out
      refine ⟨by omega, fun he => ?_⟩
      have := Kd.N_lt h3 k he.symm
      omega
    case s3 => intro k hk; have h1 := HB.out.size; have h2 := HBA.out.size; have h3 := HB1.out.size; omega
    case s4 => exact Kd.N_below HN.out (HBA.out.trans (HB1.out.mono HBA.out.size))
    case s5 => exact HB.out.trans ((HBA.out.trans (HB1.out.mono HBA.out.size)).mono HB.out.size)
    case s6 => have h1 := HB.out.size; have h2 := HBA.out.size; have h3 := HB1.out.size; omega
    case s7 => have := HN3.out; omega
    intro v2 w2 h1 h2 h3 h4
    have HN2 := Aside0.mk h1
    have HB2 := Aside0.mk h2
    clear h1 h2 h3 h4
    go_wp2_with (fail)
    go_roundg (gk - 1)
    case measure => omega
    case rel => exact ⟨n + 1, by omega, by omega, by go_num, ⟨by rw [HTK.out]; exact HN2.out⟩, HB2⟩
  · have he : n = l.length := by omega
    have HN' : Aside0 (Kd.N (k39b (fun k => w.heap.size ≤ k)) 39 wr w.heap.size (fun k => w.heap.size ≤ k) (.slice A3 n c3) l) := ⟨by have h := HN.out; rw [show l.take n = l from List.take_of_length_le (by omega)] at h; exact h⟩
    have hlt' : ¬ (n : Int) < (l.length : Int) := by omega
    clear he hlen
    go_wp2_with (fail)
    go_ret
    exact ⟨_, rfl, HN'.out, HB.out⟩
theorem dtwins_any (A : Option Addr) (c : Nat) (l : List S39) (w : World) (hr : k39.C w A l.length l) (hL : Lites l) (hl : l.length ≤ 1000000) :
    Calls Try.prog 41 #[.slice A l.length c] w fun e w' => ∃ v, e = .returned v ∧ Kd.N k39 39 w' w.heap.size (fun k => w.heap.size ≤ k) v l ∧ Below w.heap.size w w' := by
  refine (dtwinsb_any A c l w hr hL hl).mono ?_
  rintro e w' ⟨v, he, hN, hb⟩
  exact ⟨v, he, N_of_b hN, hb⟩
end Go.Proofs.Ytbkfdejcmimhgaa
