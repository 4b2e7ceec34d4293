/- The diary and the reference's, side by side, in plain Lean. -/
import Derived.Test.YtbkfdejcmimhgaaProg
import Derived.WalkKit
import Derived.WalkLawsBesides
import Derived.Outline
import Derived.LoopTactic
import Derived.Lib.Hide
import Derived.Deep.QuietTactic
import Derived.BigQuiet
import Derived.Deep.LoopGhost
import Derived.Deep.DeepCutAuto
import Derived.Deep.CutBlock
import Derived.Deep.RegionHeld3
import Derived.Deep.RegionWith
import Derived.Deep.WholeRow
import Derived.Laws.Rows
import Derived.Laws.Tables
import Derived.Laws.ResultCell
import Derived.StillTailTactics
import Derived.Deep.DeepMust
import Derived.IntWalk
import Derived.KernelRfl
import Derived.Test.YtbkfdejcmimhgaaVa
import Derived.RegionTactic
import Derived.Test.YtbkfdejcmimhgaaEh
namespace Go.Proofs.Ytbkfdejcmimhgaa
open Go.RowKit Go.Proofs.YtbkfdejcmimhgaaW.PrintWords Go.Proofs.Ytbkfdejcmimhgaa.PDiaryExact
set_option linter.unusedVariables false
set_option linter.unusedSimpArgs false
/-- A diary's numbers behind i acts. -/
structure Bd (i : Nat) (s : DSt) : Prop where
  lim0 : 1 ≤ s.limit
  lim1 : s.limit ≤ 131072
  safe0 : 0 ≤ s.safe
  safe1 : s.safe ≤ s.recs.length
  len : s.recs.length ≤ 60 + i
  kept0 : 0 ≤ s.kept
  kept1 : s.kept ≤ 200 * i
  life0 : 0 ≤ s.life
  life1 : s.life ≤ i
  arm0 : 0 ≤ s.armed
  arm1 : s.armed ≤ 9223372036854775807
  small : ∀ y ∈ s.recs, Small y
theorem Bd.up {i : Nat} {s : DSt} (h : Bd i s) : Bd (i + 1) s := by
  obtain ⟨a, b, c, d, e, f, g, j, k, l, m, n⟩ := h
  exact ⟨a, b, c, d, by omega, f, by push_cast; omega, j, by push_cast; omega, l, m, n⟩
theorem Bd.ok {i : Nat} {s : DSt} (h : Bd i s) (hi : i ≤ 40) : s.Ok := by
  obtain ⟨a, b, c, d, e, f, g, j, k, l, m, n⟩ := h
  unfold DSt.Ok
  omega
theorem Bd.ar {i : Nat} {s : DSt} (h : Bd i s) : s.Armed := ⟨h.arm0, h.arm1⟩
theorem Bd.keep {i : Nat} {s : DSt} (h : Bd i s) (κ : Int) : Bd i { s with keep := κ } := ⟨h.lim0, h.lim1, h.safe0, h.safe1, h.len, h.kept0, h.kept1, h.life0, h.life1, h.arm0, h.arm1, h.small⟩
theorem Bd.tick {i : Nat} {s : DSt} (h : Bd i s) : Bd i s.tick := by
  unfold DSt.tick
  by_cases hz : s.armed = 0
  · rw [if_pos hz]; exact h
  · rw [if_neg hz]
    obtain ⟨a, b, c, d, e, f, g, j, k, l, m, n⟩ := h
    exact ⟨a, b, c, d, e, f, g, j, k, by show 0 ≤ s.armed - 1; omega, by show s.armed - 1 ≤ _; omega, n⟩
theorem Bd.crash {i : Nat} {s : DSt} (h : Bd i s) (hi : i ≤ 40) (keep : Int) : Bd (i + 1) (s.crash keep) := by
  unfold DSt.crash
  by_cases ho : s.off = true
  · rw [if_pos ho]; exact h.up
  · rw [if_neg ho]
    obtain ⟨a, b, c, d, e, f, g, j, k, l, m, n⟩ := h
    have h0 : 0 ≤ s.stay keep := by unfold DSt.stay; omega
    have h1 : s.safe + s.stay keep ≤ s.recs.length := by unfold DSt.stay; omega
    have hl : (s.recs.take (s.safe + s.stay keep).toNat).length = (s.safe + s.stay keep).toNat := by rw [List.length_take]; omega
    refine ⟨a, b, ?_, ?_, ?_, ?_, ?_, ?_, ?_, ?_, ?_, fun y hy => n y (List.mem_of_mem_take hy)⟩
    · show 0 ≤ s.safe + s.stay keep; omega
    · show s.safe + s.stay keep ≤ ((s.recs.take (s.safe + s.stay keep).toNat).length : Int); rw [hl]; omega
    · show (s.recs.take (s.safe + s.stay keep).toNat).length ≤ _; rw [hl]; omega
    · show 0 ≤ s.kept + s.stay keep; omega
    · show s.kept + s.stay keep ≤ _; push_cast; omega
    · show 0 ≤ s.life + 1; omega
    · show s.life + 1 ≤ _; push_cast; omega
    · show (0 : Int) ≤ 0; omega
    · show (0 : Int) ≤ _; omega
theorem Bd.add {i : Nat} {s : DSt} (h : Bd i s) (x : S39) (hx : Small x) : Bd (i + 1) (s.add x) := by
  obtain ⟨a, b, c, d, e, f, g, j, k, l, m, n⟩ := h
  have hl : (s.add x).recs.length = s.recs.length + 1 := by show (s.recs ++ [x]).length = _; simp
  refine ⟨a, b, c, ?_, by rw [hl]; omega, f, by show s.kept ≤ _; push_cast; omega, j, by show s.life ≤ _; push_cast; omega, l, m, fun y hy => ?_⟩
  · rw [hl]; show s.safe ≤ _; push_cast; omega
  · rcases List.mem_append.1 hy with hy | hy
    · exact n y hy
    · obtain rfl : y = x := by simpa using hy
      exact hx
/-- The crash of a state that just grew. -/
theorem Bd.addcrash {i : Nat} {s : DSt} (h : Bd i s) (hi : i < 40) (x : S39) (hx : Small x) (keep : Int) : Bd (i + 1) ((s.add x).tick.crash keep) := by
  have hb := (h.add x hx).tick
  obtain ⟨a, b, c, d, e, f, g, j, k, l, m, n⟩ := hb
  obtain ⟨e1, e2, e3, e4, e5, e6, e7⟩ := (s.add x).tick_eq
  have hk : (s.add x).tick.kept ≤ 200 * i := by rw [e6]; exact h.kept1
  have hf : (s.add x).tick.life ≤ i := by rw [e4]; exact h.life1
  generalize (s.add x).tick = u at *
  unfold DSt.crash
  by_cases ho : u.off = true
  · rw [if_pos ho]; exact ⟨a, b, c, d, e, f, g, j, k, l, m, n⟩
  · rw [if_neg ho]
    have h0 : 0 ≤ u.stay keep := by unfold DSt.stay; omega
    have h1 : u.safe + u.stay keep ≤ u.recs.length := by unfold DSt.stay; omega
    have hl : (u.recs.take (u.safe + u.stay keep).toNat).length = (u.safe + u.stay keep).toNat := by rw [List.length_take]; omega
    refine ⟨a, b, ?_, ?_, ?_, ?_, ?_, ?_, ?_, ?_, ?_, fun y hy => n y (List.mem_of_mem_take hy)⟩
    · show 0 ≤ u.safe + u.stay keep; omega
    · show u.safe + u.stay keep ≤ ((u.recs.take (u.safe + u.stay keep).toNat).length : Int); rw [hl]; omega
    · show (u.recs.take (u.safe + u.stay keep).toNat).length ≤ _; rw [hl]; omega
    · show 0 ≤ u.kept + u.stay keep; omega
    · show u.kept + u.stay keep ≤ _; push_cast; omega
    · show 0 ≤ u.life + 1; omega
    · show u.life + 1 ≤ _; push_cast; omega
    · show (0 : Int) ≤ 0; omega
    · show (0 : Int) ≤ _; omega
/-- The two states: alike but for the last trip's number. -/
def Pl (i : Nat) (s t : DSt) : Prop := Bd i s ∧ ∃ κ, t = { s with keep := κ } ∧ (s.armed ≠ 0 → κ = s.keep)
theorem Pl.sm {i : Nat} {s t : DSt} (h : Pl i s t) : Sm s t := by
  obtain ⟨_, κ, rfl, _⟩ := h
  exact ⟨rfl, rfl, rfl, rfl, rfl⟩
theorem Pl.bt {i : Nat} {s t : DSt} (h : Pl i s t) : Bd i t := by
  obtain ⟨hb, κ, rfl, _⟩ := h
  exact hb.keep κ
theorem tick_keep (s : DSt) (κ : Int) : DSt.tick { s with keep := κ } = { s.tick with keep := κ } := by
  unfold DSt.tick
  by_cases h : s.armed = 0
  · rw [if_pos h, if_pos (show ({ s with keep := κ } : DSt).armed = 0 from h)]
  · rw [if_neg h, if_neg (show ¬ ({ s with keep := κ } : DSt).armed = 0 from h)]
theorem crash_keep (s : DSt) (κ k : Int) : ∃ κ', DSt.rcrash { s with keep := κ } k = { s.crash k with keep := κ' } ∧ ((s.crash k).armed ≠ 0 → s.off = true ∧ κ' = κ) := by
  unfold DSt.rcrash DSt.crash
  by_cases h : s.off = true
  · rw [if_pos h, if_pos (show ({ s with keep := κ } : DSt).off = true from h)]
    exact ⟨κ, rfl, fun _ => ⟨h, rfl⟩⟩
  · rw [if_neg h, if_neg (show ¬ ({ s with keep := κ } : DSt).off = true from h)]
    exact ⟨0, rfl, fun hh => absurd rfl hh⟩
theorem hit_armed {s : DSt} (h : s.hit = true) : s.armed = 1 := of_decide_eq_true h
theorem tick_armed {s : DSt} (h : s.tick.armed ≠ 0) : s.armed ≠ 0 := by
  unfold DSt.tick at h
  by_cases hz : s.armed = 0
  · rw [if_pos hz] at h; exact h
  · exact hz
theorem tick_off (s : DSt) : s.tick.off = s.off := s.tick_eq.2.2.1
theorem tick_kp (s : DSt) : s.tick.keep = s.keep := s.tick_eq.2.2.2.2.1
theorem Pl.crashed {i : Nat} {s : DSt} (hb : Bd (i + 1) (s.crash s.keep)) (ho : s.off = false) (κ : Int) (hk : κ = s.keep) : Pl (i + 1) (s.crash s.keep) (DSt.rcrash { s with keep := κ } κ) := by
  subst hk
  obtain ⟨κ', e, hc⟩ := crash_keep s s.keep s.keep
  refine ⟨hb, κ', e, fun h => ?_⟩
  have := (hc h).1
  rw [ho] at this
  cases this
theorem Pl.put {i : Nat} {s t : DSt} (h : Pl i s t) (hi : i < 40) (x : S39) (hx : Small x) : (t.rput x).1 = (s.put x).1 ∧ Pl (i + 1) (s.put x).2 (t.rput x).2 := by
  obtain ⟨hb, κ, rfl, hk⟩ := h
  unfold DSt.put DSt.rput
  by_cases ho : s.off = true
  · rw [if_pos ho, if_pos (show ({ s with keep := κ } : DSt).off = true from ho)]
    exact ⟨rfl, hb.up, κ, rfl, hk⟩
  · rw [if_neg ho, if_neg (show ¬ ({ s with keep := κ } : DSt).off = true from ho)]
    by_cases hf : s.limit - roomsOf s.recs < room x
    · rw [if_pos hf, if_pos (show ({ s with keep := κ } : DSt).limit - roomsOf ({ s with keep := κ } : DSt).recs < room x from hf)]
      exact ⟨rfl, hb.up, κ, rfl, hk⟩
    · rw [if_neg hf, if_neg (show ¬ ({ s with keep := κ } : DSt).limit - roomsOf ({ s with keep := κ } : DSt).recs < room x from hf)]
      have ea : DSt.add { s with keep := κ } x = { s.add x with keep := κ } := rfl
      rw [ea, tick_keep]
      by_cases hh : (s.add x).hit = true
      · rw [if_pos hh, if_pos (show ({ s.add x with keep := κ } : DSt).hit = true from hh)]
        have h1 : s.armed = 1 := hit_armed hh
        have hkk : κ = s.keep := hk (by omega)
        have hoff : (s.add x).tick.off = false := by rw [tick_off]; show s.off = false; simpa using ho
        have hkp : (s.add x).tick.keep = s.keep := by rw [tick_kp]; rfl
        have hbc := hb.addcrash hi x hx s.keep
        rw [← hkp] at hbc hkk
        refine ⟨rfl, ?_⟩
        have := Pl.crashed hbc hoff κ hkk
        rw [hkp] at this
        exact this
      · rw [if_neg hh, if_neg (show ¬ ({ s.add x with keep := κ } : DSt).hit = true from hh)]
        refine ⟨rfl, (hb.add x hx).tick, κ, rfl, fun hn => ?_⟩
        show κ = (s.add x).tick.keep
        rw [tick_kp]
        exact hk (tick_armed (s := s.add x) hn)
theorem Pl.sync {i : Nat} {s t : DSt} (h : Pl i s t) (hi : i < 40) : t.rsync.1 = s.sync.1 ∧ Pl (i + 1) s.sync.2 t.rsync.2 := by
  obtain ⟨hb, κ, rfl, hk⟩ := h
  unfold DSt.sync DSt.rsync
  by_cases ho : s.off = true
  · rw [if_pos ho, if_pos (show ({ s with keep := κ } : DSt).off = true from ho)]
    exact ⟨rfl, hb.up, κ, rfl, hk⟩
  · rw [if_neg ho, if_neg (show ¬ ({ s with keep := κ } : DSt).off = true from ho), tick_keep]
    by_cases hh : s.hit = true
    · rw [if_pos hh, if_pos (show ({ s with keep := κ } : DSt).hit = true from hh)]
      have h1 : s.armed = 1 := hit_armed hh
      have hkk : κ = s.keep := hk (by omega)
      have hoff : s.tick.off = false := by rw [tick_off]; simpa using ho
      have hbc := hb.tick.crash (by omega) s.keep
      rw [← tick_kp s] at hbc hkk
      refine ⟨rfl, ?_⟩
      have := Pl.crashed hbc hoff κ hkk
      rw [tick_kp] at this
      exact this
    · rw [if_neg hh, if_neg (show ¬ ({ s with keep := κ } : DSt).hit = true from hh)]
      have hbt := hb.tick
      obtain ⟨e1, e2, e3, e4, e5, e6, e7⟩ := s.tick_eq
      refine ⟨rfl, ⟨hbt.lim0, hbt.lim1, ?_, ?_, ?_, ?_, ?_, hbt.life0, ?_, hbt.arm0, hbt.arm1, hbt.small⟩, κ, rfl, fun hn => ?_⟩
      · show (0 : Int) ≤ (s.recs.length : Int); omega
      · show (s.recs.length : Int) ≤ (s.tick.recs.length : Int); rw [e1]; omega
      · have := hbt.len; show s.tick.recs.length ≤ _; omega
      · show (0 : Int) ≤ 0; omega
      · show (0 : Int) ≤ _; omega
      · have := hbt.life1; show s.tick.life ≤ _; push_cast; omega
      · show κ = s.tick.keep
        rw [tick_kp]
        exact hk (tick_armed hn)
theorem Pl.renew {i : Nat} {s t : DSt} (h : Pl i s t) (hi : i < 40) (l : List S39) (hl : l.length ≤ 60) (hs : ∀ y ∈ l, Small y) : (t.rrenew l).1 = (s.renew l).1 ∧ Pl (i + 1) (s.renew l).2 (t.rrenew l).2 := by
  obtain ⟨hb, κ, rfl, hk⟩ := h
  unfold DSt.renew DSt.rrenew
  by_cases ho : s.off = true
  · rw [if_pos ho, if_pos (show ({ s with keep := κ } : DSt).off = true from ho)]
    exact ⟨rfl, hb.up, κ, rfl, hk⟩
  · rw [if_neg ho, if_neg (show ¬ ({ s with keep := κ } : DSt).off = true from ho)]
    by_cases hf : s.limit < roomsOf l
    · rw [if_pos hf, if_pos (show ({ s with keep := κ } : DSt).limit < roomsOf l from hf)]
      exact ⟨rfl, hb.up, κ, rfl, hk⟩
    · rw [if_neg hf, if_neg (show ¬ ({ s with keep := κ } : DSt).limit < roomsOf l from hf), tick_keep]
      by_cases hh : s.hit = true
      · rw [if_pos hh, if_pos (show ({ s with keep := κ } : DSt).hit = true from hh)]
        have h1 : s.armed = 1 := hit_armed hh
        have hkk : κ = s.keep := hk (by omega)
        have hoff : s.tick.off = false := by rw [tick_off]; simpa using ho
        have hbc := hb.tick.crash (by omega) s.keep
        rw [← tick_kp s] at hbc hkk
        refine ⟨rfl, ?_⟩
        have := Pl.crashed hbc hoff κ hkk
        rw [tick_kp] at this
        exact this
      · rw [if_neg hh, if_neg (show ¬ ({ s with keep := κ } : DSt).hit = true from hh)]
        have hbt := hb.tick
        refine ⟨rfl, ⟨hbt.lim0, hbt.lim1, ?_, ?_, ?_, ?_, ?_, hbt.life0, ?_, hbt.arm0, hbt.arm1, hs⟩, κ, rfl, fun hn => ?_⟩
        · show (0 : Int) ≤ (l.length : Int); omega
        · show (l.length : Int) ≤ (l.length : Int); omega
        · show l.length ≤ _; omega
        · show (0 : Int) ≤ 0; omega
        · show (0 : Int) ≤ _; omega
        · have := hbt.life1; show s.tick.life ≤ _; push_cast; omega
        · show κ = s.tick.keep
          rw [tick_kp]
          exact hk (tick_armed hn)
theorem Pl.crash {i : Nat} {s t : DSt} (h : Pl i s t) (hi : i < 40) (k : Int) : Pl (i + 1) (s.crash k) (t.rcrash k) := by
  obtain ⟨hb, κ, rfl, hk⟩ := h
  obtain ⟨κ', e, hc⟩ := crash_keep s κ k
  refine ⟨hb.crash (by omega) k, κ', e, fun hn => ?_⟩
  obtain ⟨ho, rfl⟩ := hc hn
  have e2 : s.crash k = s := by unfold DSt.crash; rw [if_pos ho]
  rw [e2] at hn ⊢
  exact hk hn
theorem Pl.trip {i : Nat} {s t : DSt} (h : Pl i s t) (m k : Int) (hm0 : 0 ≤ m) (hm1 : m ≤ 9223372036854775807) : Pl (i + 1) { s with armed := m, keep := k } { t with armed := m, keep := k } := by
  obtain ⟨hb, κ, rfl, hk⟩ := h
  have hb' := hb.up
  exact ⟨⟨hb'.lim0, hb'.lim1, hb'.safe0, hb'.safe1, hb'.len, hb'.kept0, hb'.kept1, hb'.life0, hb'.life1, hm0, hm1, hb'.small⟩, k, rfl, fun _ => rfl⟩
theorem Pl.start {i : Nat} {s t : DSt} (h : Pl i s t) : Pl (i + 1) { s with off := false } { t with off := false } := by
  obtain ⟨hb, κ, rfl, hk⟩ := h
  have hb' := hb.up
  exact ⟨⟨hb'.lim0, hb'.lim1, hb'.safe0, hb'.safe1, hb'.len, hb'.kept0, hb'.kept1, hb'.life0, hb'.life1, hb'.arm0, hb'.arm1, hb'.small⟩, κ, rfl, hk⟩
theorem Pl.up {i : Nat} {s t : DSt} (h : Pl i s t) : Pl (i + 1) s t := by
  obtain ⟨hb, r⟩ := h
  exact ⟨hb.up, r⟩
theorem Pl.new (n : Int) (h0 : 1 ≤ n) (h1 : n ≤ 131072) : Pl 0 (DSt.new n) (DSt.new n) :=
  ⟨⟨h0, h1, Int.le_refl _, Int.le_refl _, Nat.zero_le _, Int.le_refl _, Int.le_refl _, Int.le_refl _, Int.le_refl _, Int.le_refl _, by show (0 : Int) ≤ _; omega, fun y hy => by cases hy⟩, 0, rfl, fun _ => rfl⟩
end Go.Proofs.Ytbkfdejcmimhgaa
