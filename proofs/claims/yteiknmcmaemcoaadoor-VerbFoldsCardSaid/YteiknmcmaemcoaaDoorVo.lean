/- What verb's read answers. -/
import Derived.Test.YteiknmcmaemcoaaDoorProg
import Derived.WalkKit
import Derived.WalkLawsBesides
import Derived.Outline
import Derived.LoopTactic
import Derived.Lib.Hide
import Derived.Deep.QuietTactic
import Derived.BigQuiet
import Derived.Deep.LoopGhost
import Derived.Deep.DeepCutAuto
import Derived.Deep.CutBlock
import Derived.Deep.RegionHeld3
import Derived.Deep.RegionWith
import Derived.Deep.WholeRow
import Derived.Laws.Rows
import Derived.Laws.Tables
import Derived.Laws.ResultCell
import Derived.StillTailTactics
import Derived.Deep.DeepMust
import Derived.IntWalk
import Derived.KernelRfl
import Derived.Test.YteiknmcmaemcoaaDoorWWords
import Derived.Test.YteiknmcmaemcoaaDoorWLast
import Derived.Test.YteiknmcmaemcoaaDoorWMore
import Derived.RegionTactic
import Derived.Laws.EntriesVeiled
import Derived.Test.YteiknmcmaemcoaaDoorVn
namespace Go.Proofs.YteiknmcmaemcoaaDoor
open Go.RowKit Go.Lib
open Go.Proofs.YteiknmcmaemcoaaDoorW.PrintWords
set_option linter.unusedVariables false
set_option linter.unusedSimpArgs false
theorem fin_R {w4 : World} {B B' g : Nat} {v : Value} {xs : List Prm} {ok : Nat → Prop} (h : kp.R 46 w4 B' ok v xs) (hg : g < B') (hB : B ≤ B') {a0 a1 a2 a3 a4 a5 : Value} :
    kp.R 46 ((((((w4.setCell ⟨g, 0, none⟩ a0).setCell ⟨g, 1, none⟩ a1).setCell ⟨g, 2, none⟩ a2).setCell ⟨g, 3, none⟩ a3).setCell ⟨g, 4, none⟩ a4).setCell ⟨g, 5, none⟩ a5) B (fun _ => True) v xs :=
  Kd.R_lower (kpR_on h (fun j hj => set6_other (by omega))) hB
abbrev zeroC : Array Value := #[.int .i64 0, .string { data := #[] }, .bool false, .string { data := #[] }, .string { data := #[] }, .slice none 0 0]
def V.namedO (k : Int) (l : V.Bs) : Option V.Cmd := if V.domain l then some ⟨k, l, V.noPath, []⟩ else none
/-- The beginnings that stand ahead of a domain or a mailbox. -/
def readT : List (V.Bs × Int × Bool) := [([101, 104, 108, 111, 32], 1, false), ([104, 101, 108, 111, 32], 1, false), ([109, 97, 105, 108, 32, 102, 114, 111, 109, 58], 2, true), ([114, 99, 112, 116, 32, 116, 111, 58], 3, true), ([101, 116, 114, 110, 32], 9, false), ([97, 116, 114, 110, 32], 11, false)]
def V.tryT (l : V.Bs) : List (V.Bs × Int × Bool) → Option (Option V.Cmd)
  | [] => none
  | x :: t => match V.after l x.1 with
    | some r => some (if x.2.2 then V.mailbox x.2.1 r else V.namedO x.2.1 r)
    | none => V.tryT l t
def noopB : V.Bs := [110, 111, 111, 112, 32]
def vrfyB : V.Bs := [118, 114, 102, 121, 32]
def V.tail (l : V.Bs) : Option V.Cmd :=
  if (V.after l noopB).isSome then some ⟨7, [], V.noPath, []⟩ else
  match V.after l vrfyB with
  | some r => if r.isEmpty then none else some ⟨6, r, V.noPath, []⟩
  | none => none
def V.read (l : V.Bs) : Option V.Cmd :=
  if V.aloneB l then some ⟨V.aloneK l, [], V.noPath, []⟩ else
  match V.tryT l readT with
  | some o => o
  | none => V.tail l
theorem V.after_len {l b r : V.Bs} (h : V.after l b = some r) : r.length ≤ l.length := by
  unfold V.after at h
  split at h
  · cases h; simp
  · cases h
theorem V.tryT_drop (l : V.Bs) (T : List (V.Bs × Int × Bool)) (n : Nat) (x : V.Bs × Int × Bool) (hx : T[n]? = some x) : V.tryT l (T.drop n) = match V.after l x.1 with | some r => some (if x.2.2 then V.mailbox x.2.1 r else V.namedO x.2.1 r) | none => V.tryT l (T.drop (n + 1)) := by
  obtain ⟨hn, he⟩ := List.getElem?_eq_some_iff.1 hx
  rw [List.drop_eq_getElem_cons hn, he, V.tryT]
def fnOf (m : Bool) : Nat := if m then 34 else 33
/-- What a branch of read answers. -/
theorem branch_any (m : Bool) (k : Int) (s : ByteArray) (w : World) (hs : s.size ≤ 10000) (hv : Vars w) :
    Calls Tryd.prog (fnOf m) #[.int .i64 k, .string s] w fun e w' => cmdPost (if m then V.mailbox k (lst s) else V.namedO k (lst s)) (.bool true) (.bool false) w.heap.size e w' ∧ Below w.heap.size w w' := by
  cases m with
  | true => exact mailbox_any k s w hs hv
  | false =>
    refine (named_any k s w (by omega) hv).mono ?_
    rintro e w' ⟨rfl, h⟩
    refine ⟨?_, h⟩
    unfold V.namedO
    cases V.domain (lst s) with
    | true => exact ⟨noSl, by show _ = Ending.returned (Value.tuple #[.agg (cv k (str (lst s)) false (str []) (str []) noSl), .bool true]); rw [str_lst]; rfl, Kd.R_nil _ _ _ _ _, by simp⟩
    | false => rfl
/-- A command's answer, taken apart and put together again. -/
theorem cmd_open {T : Option V.Cmd} {B : Nat} {e : Ending} {w' : World} (h : cmdPost T (.bool true) (.bool false) B e w') :
    ∃ (k : Int) (t : ByteArray) (n : Bool) (l d : ByteArray) (A : Option Addr) (N q : Nat) (bb : Bool) (xs : List Prm), e = .returned (.tuple #[.agg #[.int .i64 k, .string t, .bool n, .string l, .string d, .slice A N q], .bool bb]) ∧
      kp.R 46 w' B (fun _ => True) (.slice A N q) xs ∧
      ∀ (B' : Nat) (w'' : World), kp.R 46 w'' B' (fun _ => True) (.slice A N q) xs → cmdPost T (.bool true) (.bool false) B' (.returned (.tuple #[.agg #[.int .i64 k, .string t, .bool n, .string l, .string d, .slice A N q], .bool bb])) w'' := by
  cases T with
  | none =>
    obtain rfl : e = .returned (.tuple #[cval V.noCmd noSl, .bool false]) := h
    exact ⟨_, _, _, _, _, none, 0, 0, _, [], rfl, Kd.R_nil _ _ _ _ _, fun _ _ _ => rfl⟩
  | some c =>
    obtain ⟨v, rfl, hR, hl⟩ := h
    obtain ⟨A, q, rfl, _, _⟩ := Kd.R_reads hR
    exact ⟨_, _, _, _, _, A, _, q, _, c.prms, rfl, hR, fun _ _ h => ⟨_, rfl, h, hl⟩⟩
set_option maxRecDepth 100000 in
set_option maxHeartbeats 4000000 in
theorem read_any (s : ByteArray) (w : World) (hs : s.size ≤ 10000) (hv : Vars w) :
    Calls Tryd.prog 20 #[.string s] w fun e w' => cmdPost (V.read (lst s)) (.bool true) (.bool false) w.heap.size e w' ∧ Below w.heap.size w w' := by
  obtain ⟨T, hT⟩ : ∃ T, T = V.read (lst s) := ⟨_, rfl⟩
  rw [← hT]
  have HT := Aside0.mk hT
  have HV := Aside0.mk hv
  obtain ⟨wR, hwR⟩ : ∃ wR, wR = w.alloc (.cells zeroC 26) := ⟨_, rfl⟩
  have hbR : Below w.heap.size w wR := by rw [hwR]; exact (Below.refl _ w).alloc (Nat.le_refl _) _
  have hrow : wR.heap[w.heap.size]? = some (.cells zeroC 26 (0, 0)) := by rw [hwR]; exact heap_alloc_new _ _
  have hsz : wR.heap.size = w.heap.size + 1 := by rw [hwR]; simp
  obtain ⟨ak, hak⟩ : ∃ ak, ak = V.aloneK (lst s) := ⟨_, rfl⟩
  obtain ⟨ab, hab⟩ : ∃ ab, ab = V.aloneB (lst s) := ⟨_, rfl⟩
  have hal : Calls Tryd.prog 32 #[.string s] wR fun e w' => e = .returned (.tuple #[.agg #[.int .i64 ak, .string { data := #[] }, .bool false, .string { data := #[] }, .string { data := #[] }, .slice none 0 0], .bool ab]) ∧ Below wR.heap.size wR w' := by
    have h := alone_any s wR hs
    rw [← hak, ← hab] at h
    exact h
  have HAL := Aside0.mk hal
  have HAK := Aside0.mk hak
  have HAB := Aside0.mk hab
  have HBR := Aside0.mk hbR
  have HROW := Aside0.mk hrow
  have HSZ := Aside0.mk hsz
  clear hT hv hbR hrow hsz hal hak hab
  go_enter Tryd.func20, Tryd.ntmps20
  go_upto_region 1 with (fail)
  rw [← hwR]
  clear hwR
  go_upto_region 2 with (first | (go_at_call 32; (with_reducible refine Calls.mono HAL.out ?_); rintro e w1 ⟨rfl, h⟩; have H1 := Aside0.mk h; clear h))
  obtain ⟨w2, hw2⟩ : ∃ w2, w2 = w1.alloc (.cells #[.int .i64 ak, .string { data := #[] }, .bool false, .string { data := #[] }, .string { data := #[] }, .slice none 0 0] 26) := ⟨_, rfl⟩
  rw [← hw2]
  obtain ⟨G, hG⟩ : ∃ G, G = w1.heap.size := ⟨_, rfl⟩
  rw [← hG]
  have hr2 : w2.heap[G]? = some (.cells #[.int .i64 ak, .string { data := #[] }, .bool false, .string { data := #[] }, .string { data := #[] }, .slice none 0 0] 26 (0, 0)) := by rw [hw2, hG]; exact heap_alloc_new _ _
  have hb2 : Below wR.heap.size wR w2 := by rw [hw2]; exact H1.out.alloc H1.out.size _
  have hrow2 : w2.heap[w.heap.size]? = some (.cells zeroC 26 (0, 0)) := (hb2.block _ (by rw [HSZ.out]; omega)).trans HROW.out
  have HR2 := Aside0.mk hr2
  have HB2 := Aside0.mk hb2
  have HW2 := Aside0.mk hrow2
  have HBW2 := Aside0.mk (HBR.out.trans (hb2.mono HBR.out.size))
  clear hw2 hG hr2 hb2 hrow2
  obtain ⟨⟨d0, d1, d2, d3, d4, d5⟩, g0, g1, g2, g3, g4, g5⟩ := cells6 HR2.out
  obtain ⟨⟨c0, c1, c2, c3, c4, c5⟩, f0, f1, f2, f3, f4, f5⟩ := cells6 HW2.out
  cases ab with
  | true =>
    have hT : T = some ⟨ak, [], V.noPath, []⟩ := by rw [HT.out]; unfold V.read; rw [← HAB.out, HAK.out]; rfl
    have HTF := Aside0.mk hT
    clear hT
    go_wp2_with (fail)
    refine bodyPost_ret (v := .tuple #[cval ⟨ak, [], V.noPath, []⟩ noSl, .bool true]) ?_ rfl ⟨?_, below6 HBW2.out (Nat.le_refl _)⟩
    · exact results_ct (by rfl) _ _ w.heap.size 26 _ (0, 0) _ rfl (row6 HW2.out) Tryd.underlying26 rfl (by kernel_rfl) _ rfl
    · rw [HTF.out]
      exact ⟨noSl, rfl, Kd.R_nil _ _ _ _ _, by simp⟩
  | false =>
    have hT : T = match V.tryT (lst s) readT with | some o => o | none => V.tail (lst s) := by rw [HT.out]; unfold V.read; rw [← HAB.out]; rfl
    have HTF := Aside0.mk hT
    clear hT
    go_upto_region 5 with (fail)
    obtain ⟨w3, hw3⟩ : ∃ w3, w3 = w2.alloc (.cells #[.string { data := #[101, 104, 108, 111, 32] }, .int .i64 1, .func (.func 33) #[] #[], .string { data := #[104, 101, 108, 111, 32] }, .int .i64 1, .func (.func 33) #[] #[], .string { data := #[109, 97, 105, 108, 32, 102, 114, 111, 109, 58] }, .int .i64 2, .func (.func 34) #[] #[], .string { data := #[114, 99, 112, 116, 32, 116, 111, 58] }, .int .i64 3, .func (.func 34) #[] #[], .string { data := #[101, 116, 114, 110, 32] }, .int .i64 9, .func (.func 33) #[] #[], .string { data := #[97, 116, 114, 110, 32] }, .int .i64 11, .func (.func 33) #[] #[]] 66) := ⟨_, rfl⟩
    rw [← hw3]
    obtain ⟨b, hb⟩ : ∃ b, b = w2.heap.size := ⟨_, rfl⟩
    rw [← hb]
    have hr3 : w3.heap[b]? = some (.cells #[.string { data := #[101, 104, 108, 111, 32] }, .int .i64 1, .func (.func 33) #[] #[], .string { data := #[104, 101, 108, 111, 32] }, .int .i64 1, .func (.func 33) #[] #[], .string { data := #[109, 97, 105, 108, 32, 102, 114, 111, 109, 58] }, .int .i64 2, .func (.func 34) #[] #[], .string { data := #[114, 99, 112, 116, 32, 116, 111, 58] }, .int .i64 3, .func (.func 34) #[] #[], .string { data := #[101, 116, 114, 110, 32] }, .int .i64 9, .func (.func 33) #[] #[], .string { data := #[97, 116, 114, 110, 32] }, .int .i64 11, .func (.func 33) #[] #[]] 66 (0, 0)) := by rw [hw3, hb]; exact heap_alloc_new _ _
    have hb3 : Below w2.heap.size w2 w3 := by rw [hw3]; exact (Below.refl _ _).alloc (Nat.le_refl _) _
    have hs2 : w.heap.size < w2.heap.size := (Array.getElem?_eq_some_iff.1 HW2.out).1
    have hbw3 : Below w.heap.size w w3 := HBW2.out.trans (hb3.mono (Nat.le_of_lt hs2))
    have hrow3 : w3.heap[w.heap.size]? = some (.cells zeroC 26 (0, 0)) := (hb3.block _ hs2).trans HW2.out
    have hs3 : w.heap.size < w3.heap.size := (Array.getElem?_eq_some_iff.1 hrow3).1
    have hsb : b < w3.heap.size := (Array.getElem?_eq_some_iff.1 hr3).1
    have hrows : ∀ wx, Below w3.heap.size w3 wx → wx.heap[w.heap.size]? = some (.cells zeroC 26 (0, 0)) := fun wx h => (h.block _ hs3).trans hrow3
    have htab : ∀ wx, Below w3.heap.size w3 wx → wx.heap[b]? = some (.cells #[.string { data := #[101, 104, 108, 111, 32] }, .int .i64 1, .func (.func 33) #[] #[], .string { data := #[104, 101, 108, 111, 32] }, .int .i64 1, .func (.func 33) #[] #[], .string { data := #[109, 97, 105, 108, 32, 102, 114, 111, 109, 58] }, .int .i64 2, .func (.func 34) #[] #[], .string { data := #[114, 99, 112, 116, 32, 116, 111, 58] }, .int .i64 3, .func (.func 34) #[] #[], .string { data := #[101, 116, 114, 110, 32] }, .int .i64 9, .func (.func 33) #[] #[], .string { data := #[97, 116, 114, 110, 32] }, .int .i64 11, .func (.func 33) #[] #[]] 66 (0, 0)) := fun wx h => (h.block _ hsb).trans hr3
    have HRO := Aside0.mk hrows
    have HTB := Aside0.mk htab
    have HB3 := Aside0.mk hbw3
    have HV3 := Aside0.mk (HV.out.go hbw3)
    clear hw3 hb hr3 hb3 hs2 hbw3 hrow3 hrows htab d0 d1 d2 d3 d4 d5 g0 g1 g2 g3 g4 g5 c0 c1 c2 c3 c4 c5 f0 f1 f2 f3 f4 f5 H1 HR2 HB2 HW2 HBW2 HBR HROW HSZ HAL HAK HAB HT hs3
    obtain ⟨X, hX⟩ : ∃ X, X = V.tryT (lst s) readT := ⟨_, rfl⟩
    rw [← hX] at HTF
    have HX := Aside0.mk hX
    clear hX
    go_loopg [29] 6 (fun g v29 wr => ∃ n : Nat, n ≤ 6 ∧ g + n = 6 ∧ v29 = .int .i64 n ∧ Aside0 (V.tryT (lst s) (readT.drop n) = X ∧ Below w3.heap.size w3 wr))
    case atStart => exact ⟨0, by omega, by omega, rfl, ⟨HX.out.symm, Below.refl _ _⟩⟩
    case round =>
      obtain ⟨n, hn, hg, rfl, H⟩ := hrel
      obtain ⟨wx, rfl⟩ : ∃ wz : World, wz = wr := ⟨_, rfl⟩
      obtain ⟨m, hm⟩ : ∃ m, m = wx.heap.size := ⟨_, rfl⟩
      have htb := HTB.out _ H.out.2
      have hcell : ∀ i v, (#[.string { data := #[101, 104, 108, 111, 32] }, .int .i64 1, .func (.func 33) #[] #[], .string { data := #[104, 101, 108, 111, 32] }, .int .i64 1, .func (.func 33) #[] #[], .string { data := #[109, 97, 105, 108, 32, 102, 114, 111, 109, 58] }, .int .i64 2, .func (.func 34) #[] #[], .string { data := #[114, 99, 112, 116, 32, 116, 111, 58] }, .int .i64 3, .func (.func 34) #[] #[], .string { data := #[101, 116, 114, 110, 32] }, .int .i64 9, .func (.func 33) #[] #[], .string { data := #[97, 116, 114, 110, 32] }, .int .i64 11, .func (.func 33) #[] #[]] : Array Value)[i]? = some v → wx.cell? ⟨b, i, none⟩ = some v := fun i v hv => by rw [cell_of_row wx b _ _ _ _ htb]; exact hv
      have hvx := HV3.out.go H.out.2
      have HVX := Aside0.mk hvx
      have hM := HRO.out _ H.out.2
      clear htb hvx
      match n, hn with
      | 0, _ =>
        have a0 := hcell 0 _ rfl
        have a1 := hcell 1 _ rfl
        have a2 := hcell 2 _ rfl
        have hst := V.tryT_drop (lst s) readT 0 _ rfl
        rw [H.out.1] at hst
        simp only at hst
        obtain ⟨o, ho⟩ : ∃ o, o = V.after (lst s) [101, 104, 108, 111, 32] := ⟨_, rfl⟩
        rw [← ho] at hst
        have haf : ∀ w, Calls Tryd.prog 35 #[.string s, .string { data := #[101, 104, 108, 111, 32] }] w fun e w' => e = .returned (oRes o) ∧ Below w.heap.size w w' := by
          intro w
          rw [ho]
          exact after_any s _ w (by omega) (by decide)
        have HAF := Aside0.mk haf
        have HST := Aside0.mk hst
        have HO := Aside0.mk ho
        clear hcell hst haf ho
        have hbox : ∀ w4, Below (wx.alloc (.cells #[.string { data := #[101, 104, 108, 111, 32] }, .int .i64 1, .func (.func 33) #[] #[]] 66)).heap.size (wx.alloc (.cells #[.string { data := #[101, 104, 108, 111, 32] }, .int .i64 1, .func (.func 33) #[] #[]] 66)) w4 → w4.heap[wx.heap.size]? = some (.cells #[.string { data := #[101, 104, 108, 111, 32] }, .int .i64 1, .func (.func 33) #[] #[]] 66 (0, 0)) ∧ Below wx.heap.size wx w4 := fun w4 h => ⟨(h.block _ (by simp)).trans (heap_alloc_new _ _), ((Below.refl _ wx).alloc (Nat.le_refl _) _).trans (h.mono (by simp))⟩
        have HBX := Aside0.mk hbox
        clear hbox
        cases o with
        | none =>
          have hT2 : V.tryT (lst s) (readT.drop 1) = X := HST.out.symm
          have HT2 := Aside0.mk hT2
          clear hT2
          go_wp2_with (first | (go_at_call 35; (with_reducible refine Calls.mono (HAF.out _) ?_); rintro e w4 ⟨rfl, h⟩; have H4 := Aside0.mk (HBX.out _ h).2; clear h; unfold oRes; simp only [Option.isSome_none, Option.getD_none]))
          go_roundg (gk - 1)
          case measure => omega
          case rel => exact ⟨1, by omega, by omega, by go_num, ⟨HT2.out, H.out.2.trans (H4.out.mono H.out.2.size)⟩⟩
        | some r =>
          have hT2 : T = (if false then V.mailbox 1 r else V.namedO 1 r) := by rw [HTF.out, HST.out]; try simp
          have hrl : (str r).size ≤ 10000 := by have := V.after_len HO.out.symm; rw [lst_length] at this; rw [str_size]; omega
          have hbr := fun w hv => branch_any false 1 (str r) w hrl hv
          rw [lst_str] at hbr
          rw [← hT2] at hbr
          have hbr2 : ∀ w, Vars w → Calls Tryd.prog 33 #[.int .i64 1, .string (str r)] w fun e w' => cmdPost T (.bool true) (.bool false) w.heap.size e w' ∧ Below w.heap.size w w' := hbr
          have HBR := Aside0.mk hbr2
          clear hT2 hbr hbr2
          go_wp2_with (first | (go_at_call 35; (with_reducible refine Calls.mono (HAF.out _) ?_); rintro e w4 ⟨rfl, h⟩; have H4 := Aside0.mk (HBX.out _ h); clear h; obtain ⟨e0, e1, e2, _, _, _⟩ := cells3 H4.out.1; unfold oRes; simp only [Option.isSome_some, Option.getD_some]) | (go_at_call 33; (with_reducible refine Calls.mono (HBR.out _ (HVX.out.go H4.out.2)) ?_); rintro e w5 ⟨h5, h⟩; have H5 := Aside0.mk ((H.out.2.trans (H4.out.2.mono H.out.2.size)).trans (h.mono (Nat.le_trans H.out.2.size H4.out.2.size))); have hz := Nat.le_trans H.out.2.size H4.out.2.size; have HZ := Aside0.mk hz; obtain ⟨k', t', n', l', d', A', N', q', bb, xs, rfl, hR, hfin⟩ := cmd_open h5; have HR := Aside0.mk hR; have HFN := Aside0.mk hfin; clear h hz h5 hR hfin; have ROW := Aside0.mk (HRO.out _ H5.out); obtain ⟨⟨c0, c1, c2, c3, c4, c5⟩, f0, f1, f2, f3, f4, f5⟩ := cells6 ROW.out))
          refine bodyPost_ret (v := .tuple #[.agg #[.int .i64 k', .string t', .bool n', .string l', .string d', .slice A' N' q'], .bool bb]) ?_ rfl ⟨?_, below6 (HB3.out.trans (H5.out.mono HB3.out.size)) (Nat.le_refl _)⟩
          · exact results_ct (by rfl) _ _ w.heap.size 26 _ (0, 0) _ rfl (row6 ROW.out) Tryd.underlying26 rfl (by kernel_rfl) _ rfl
          · have hz := HZ.out
            have hlt : w.heap.size < w3.heap.size := (Array.getElem?_eq_some_iff.1 (HRO.out w3 (Below.refl _ _))).1
            exact HFN.out _ _ (fin_R HR.out (by omega) (by omega))
      | 1, _ =>
        have a0 := hcell 3 _ rfl
        have a1 := hcell 4 _ rfl
        have a2 := hcell 5 _ rfl
        have hst := V.tryT_drop (lst s) readT 1 _ rfl
        rw [H.out.1] at hst
        simp only at hst
        obtain ⟨o, ho⟩ : ∃ o, o = V.after (lst s) [104, 101, 108, 111, 32] := ⟨_, rfl⟩
        rw [← ho] at hst
        have haf : ∀ w, Calls Tryd.prog 35 #[.string s, .string { data := #[104, 101, 108, 111, 32] }] w fun e w' => e = .returned (oRes o) ∧ Below w.heap.size w w' := by
          intro w
          rw [ho]
          exact after_any s _ w (by omega) (by decide)
        have HAF := Aside0.mk haf
        have HST := Aside0.mk hst
        have HO := Aside0.mk ho
        clear hcell hst haf ho
        have hbox : ∀ w4, Below (wx.alloc (.cells #[.string { data := #[104, 101, 108, 111, 32] }, .int .i64 1, .func (.func 33) #[] #[]] 66)).heap.size (wx.alloc (.cells #[.string { data := #[104, 101, 108, 111, 32] }, .int .i64 1, .func (.func 33) #[] #[]] 66)) w4 → w4.heap[wx.heap.size]? = some (.cells #[.string { data := #[104, 101, 108, 111, 32] }, .int .i64 1, .func (.func 33) #[] #[]] 66 (0, 0)) ∧ Below wx.heap.size wx w4 := fun w4 h => ⟨(h.block _ (by simp)).trans (heap_alloc_new _ _), ((Below.refl _ wx).alloc (Nat.le_refl _) _).trans (h.mono (by simp))⟩
        have HBX := Aside0.mk hbox
        clear hbox
        cases o with
        | none =>
          have hT2 : V.tryT (lst s) (readT.drop 2) = X := HST.out.symm
          have HT2 := Aside0.mk hT2
          clear hT2
          go_wp2_with (first | (go_at_call 35; (with_reducible refine Calls.mono (HAF.out _) ?_); rintro e w4 ⟨rfl, h⟩; have H4 := Aside0.mk (HBX.out _ h).2; clear h; unfold oRes; simp only [Option.isSome_none, Option.getD_none]))
          go_roundg (gk - 1)
          case measure => omega
          case rel => exact ⟨2, by omega, by omega, by go_num, ⟨HT2.out, H.out.2.trans (H4.out.mono H.out.2.size)⟩⟩
        | some r =>
          have hT2 : T = (if false then V.mailbox 1 r else V.namedO 1 r) := by rw [HTF.out, HST.out]; try simp
          have hrl : (str r).size ≤ 10000 := by have := V.after_len HO.out.symm; rw [lst_length] at this; rw [str_size]; omega
          have hbr := fun w hv => branch_any false 1 (str r) w hrl hv
          rw [lst_str] at hbr
          rw [← hT2] at hbr
          have hbr2 : ∀ w, Vars w → Calls Tryd.prog 33 #[.int .i64 1, .string (str r)] w fun e w' => cmdPost T (.bool true) (.bool false) w.heap.size e w' ∧ Below w.heap.size w w' := hbr
          have HBR := Aside0.mk hbr2
          clear hT2 hbr hbr2
          go_wp2_with (first | (go_at_call 35; (with_reducible refine Calls.mono (HAF.out _) ?_); rintro e w4 ⟨rfl, h⟩; have H4 := Aside0.mk (HBX.out _ h); clear h; obtain ⟨e0, e1, e2, _, _, _⟩ := cells3 H4.out.1; unfold oRes; simp only [Option.isSome_some, Option.getD_some]) | (go_at_call 33; (with_reducible refine Calls.mono (HBR.out _ (HVX.out.go H4.out.2)) ?_); rintro e w5 ⟨h5, h⟩; have H5 := Aside0.mk ((H.out.2.trans (H4.out.2.mono H.out.2.size)).trans (h.mono (Nat.le_trans H.out.2.size H4.out.2.size))); have hz := Nat.le_trans H.out.2.size H4.out.2.size; have HZ := Aside0.mk hz; obtain ⟨k', t', n', l', d', A', N', q', bb, xs, rfl, hR, hfin⟩ := cmd_open h5; have HR := Aside0.mk hR; have HFN := Aside0.mk hfin; clear h hz h5 hR hfin; have ROW := Aside0.mk (HRO.out _ H5.out); obtain ⟨⟨c0, c1, c2, c3, c4, c5⟩, f0, f1, f2, f3, f4, f5⟩ := cells6 ROW.out))
          refine bodyPost_ret (v := .tuple #[.agg #[.int .i64 k', .string t', .bool n', .string l', .string d', .slice A' N' q'], .bool bb]) ?_ rfl ⟨?_, below6 (HB3.out.trans (H5.out.mono HB3.out.size)) (Nat.le_refl _)⟩
          · exact results_ct (by rfl) _ _ w.heap.size 26 _ (0, 0) _ rfl (row6 ROW.out) Tryd.underlying26 rfl (by kernel_rfl) _ rfl
          · have hz := HZ.out
            have hlt : w.heap.size < w3.heap.size := (Array.getElem?_eq_some_iff.1 (HRO.out w3 (Below.refl _ _))).1
            exact HFN.out _ _ (fin_R HR.out (by omega) (by omega))
      | 2, _ =>
        have a0 := hcell 6 _ rfl
        have a1 := hcell 7 _ rfl
        have a2 := hcell 8 _ rfl
        have hst := V.tryT_drop (lst s) readT 2 _ rfl
        rw [H.out.1] at hst
        simp only at hst
        obtain ⟨o, ho⟩ : ∃ o, o = V.after (lst s) [109, 97, 105, 108, 32, 102, 114, 111, 109, 58] := ⟨_, rfl⟩
        rw [← ho] at hst
        have haf : ∀ w, Calls Tryd.prog 35 #[.string s, .string { data := #[109, 97, 105, 108, 32, 102, 114, 111, 109, 58] }] w fun e w' => e = .returned (oRes o) ∧ Below w.heap.size w w' := by
          intro w
          rw [ho]
          exact after_any s _ w (by omega) (by decide)
        have HAF := Aside0.mk haf
        have HST := Aside0.mk hst
        have HO := Aside0.mk ho
        clear hcell hst haf ho
        have hbox : ∀ w4, Below (wx.alloc (.cells #[.string { data := #[109, 97, 105, 108, 32, 102, 114, 111, 109, 58] }, .int .i64 2, .func (.func 34) #[] #[]] 66)).heap.size (wx.alloc (.cells #[.string { data := #[109, 97, 105, 108, 32, 102, 114, 111, 109, 58] }, .int .i64 2, .func (.func 34) #[] #[]] 66)) w4 → w4.heap[wx.heap.size]? = some (.cells #[.string { data := #[109, 97, 105, 108, 32, 102, 114, 111, 109, 58] }, .int .i64 2, .func (.func 34) #[] #[]] 66 (0, 0)) ∧ Below wx.heap.size wx w4 := fun w4 h => ⟨(h.block _ (by simp)).trans (heap_alloc_new _ _), ((Below.refl _ wx).alloc (Nat.le_refl _) _).trans (h.mono (by simp))⟩
        have HBX := Aside0.mk hbox
        clear hbox
        cases o with
        | none =>
          have hT2 : V.tryT (lst s) (readT.drop 3) = X := HST.out.symm
          have HT2 := Aside0.mk hT2
          clear hT2
          go_wp2_with (first | (go_at_call 35; (with_reducible refine Calls.mono (HAF.out _) ?_); rintro e w4 ⟨rfl, h⟩; have H4 := Aside0.mk (HBX.out _ h).2; clear h; unfold oRes; simp only [Option.isSome_none, Option.getD_none]))
          go_roundg (gk - 1)
          case measure => omega
          case rel => exact ⟨3, by omega, by omega, by go_num, ⟨HT2.out, H.out.2.trans (H4.out.mono H.out.2.size)⟩⟩
        | some r =>
          have hT2 : T = (if true then V.mailbox 2 r else V.namedO 2 r) := by rw [HTF.out, HST.out]; try simp
          have hrl : (str r).size ≤ 10000 := by have := V.after_len HO.out.symm; rw [lst_length] at this; rw [str_size]; omega
          have hbr := fun w hv => branch_any true 2 (str r) w hrl hv
          rw [lst_str] at hbr
          rw [← hT2] at hbr
          have hbr2 : ∀ w, Vars w → Calls Tryd.prog 34 #[.int .i64 2, .string (str r)] w fun e w' => cmdPost T (.bool true) (.bool false) w.heap.size e w' ∧ Below w.heap.size w w' := hbr
          have HBR := Aside0.mk hbr2
          clear hT2 hbr hbr2
          go_wp2_with (first | (go_at_call 35; (with_reducible refine Calls.mono (HAF.out _) ?_); rintro e w4 ⟨rfl, h⟩; have H4 := Aside0.mk (HBX.out _ h); clear h; obtain ⟨e0, e1, e2, _, _, _⟩ := cells3 H4.out.1; unfold oRes; simp only [Option.isSome_some, Option.getD_some]) | (go_at_call 34; (with_reducible refine Calls.mono (HBR.out _ (HVX.out.go H4.out.2)) ?_); rintro e w5 ⟨h5, h⟩; have H5 := Aside0.mk ((H.out.2.trans (H4.out.2.mono H.out.2.size)).trans (h.mono (Nat.le_trans H.out.2.size H4.out.2.size))); have hz := Nat.le_trans H.out.2.size H4.out.2.size; have HZ := Aside0.mk hz; obtain ⟨k', t', n', l', d', A', N', q', bb, xs, rfl, hR, hfin⟩ := cmd_open h5; have HR := Aside0.mk hR; have HFN := Aside0.mk hfin; clear h hz h5 hR hfin; have ROW := Aside0.mk (HRO.out _ H5.out); obtain ⟨⟨c0, c1, c2, c3, c4, c5⟩, f0, f1, f2, f3, f4, f5⟩ := cells6 ROW.out))
          refine bodyPost_ret (v := .tuple #[.agg #[.int .i64 k', .string t', .bool n', .string l', .string d', .slice A' N' q'], .bool bb]) ?_ rfl ⟨?_, below6 (HB3.out.trans (H5.out.mono HB3.out.size)) (Nat.le_refl _)⟩
          · exact results_ct (by rfl) _ _ w.heap.size 26 _ (0, 0) _ rfl (row6 ROW.out) Tryd.underlying26 rfl (by kernel_rfl) _ rfl
          · have hz := HZ.out
            have hlt : w.heap.size < w3.heap.size := (Array.getElem?_eq_some_iff.1 (HRO.out w3 (Below.refl _ _))).1
            exact HFN.out _ _ (fin_R HR.out (by omega) (by omega))
      | 3, _ =>
        have a0 := hcell 9 _ rfl
        have a1 := hcell 10 _ rfl
        have a2 := hcell 11 _ rfl
        have hst := V.tryT_drop (lst s) readT 3 _ rfl
        rw [H.out.1] at hst
        simp only at hst
        obtain ⟨o, ho⟩ : ∃ o, o = V.after (lst s) [114, 99, 112, 116, 32, 116, 111, 58] := ⟨_, rfl⟩
        rw [← ho] at hst
        have haf : ∀ w, Calls Tryd.prog 35 #[.string s, .string { data := #[114, 99, 112, 116, 32, 116, 111, 58] }] w fun e w' => e = .returned (oRes o) ∧ Below w.heap.size w w' := by
          intro w
          rw [ho]
          exact after_any s _ w (by omega) (by decide)
        have HAF := Aside0.mk haf
        have HST := Aside0.mk hst
        have HO := Aside0.mk ho
        clear hcell hst haf ho
        have hbox : ∀ w4, Below (wx.alloc (.cells #[.string { data := #[114, 99, 112, 116, 32, 116, 111, 58] }, .int .i64 3, .func (.func 34) #[] #[]] 66)).heap.size (wx.alloc (.cells #[.string { data := #[114, 99, 112, 116, 32, 116, 111, 58] }, .int .i64 3, .func (.func 34) #[] #[]] 66)) w4 → w4.heap[wx.heap.size]? = some (.cells #[.string { data := #[114, 99, 112, 116, 32, 116, 111, 58] }, .int .i64 3, .func (.func 34) #[] #[]] 66 (0, 0)) ∧ Below wx.heap.size wx w4 := fun w4 h => ⟨(h.block _ (by simp)).trans (heap_alloc_new _ _), ((Below.refl _ wx).alloc (Nat.le_refl _) _).trans (h.mono (by simp))⟩
        have HBX := Aside0.mk hbox
        clear hbox
        cases o with
        | none =>
          have hT2 : V.tryT (lst s) (readT.drop 4) = X := HST.out.symm
          have HT2 := Aside0.mk hT2
          clear hT2
          go_wp2_with (first | (go_at_call 35; (with_reducible refine Calls.mono (HAF.out _) ?_); rintro e w4 ⟨rfl, h⟩; have H4 := Aside0.mk (HBX.out _ h).2; clear h; unfold oRes; simp only [Option.isSome_none, Option.getD_none]))
          go_roundg (gk - 1)
          case measure => omega
          case rel => exact ⟨4, by omega, by omega, by go_num, ⟨HT2.out, H.out.2.trans (H4.out.mono H.out.2.size)⟩⟩
        | some r =>
          have hT2 : T = (if true then V.mailbox 3 r else V.namedO 3 r) := by rw [HTF.out, HST.out]; try simp
          have hrl : (str r).size ≤ 10000 := by have := V.after_len HO.out.symm; rw [lst_length] at this; rw [str_size]; omega
          have hbr := fun w hv => branch_any true 3 (str r) w hrl hv
          rw [lst_str] at hbr
          rw [← hT2] at hbr
          have hbr2 : ∀ w, Vars w → Calls Tryd.prog 34 #[.int .i64 3, .string (str r)] w fun e w' => cmdPost T (.bool true) (.bool false) w.heap.size e w' ∧ Below w.heap.size w w' := hbr
          have HBR := Aside0.mk hbr2
          clear hT2 hbr hbr2
          go_wp2_with (first | (go_at_call 35; (with_reducible refine Calls.mono (HAF.out _) ?_); rintro e w4 ⟨rfl, h⟩; have H4 := Aside0.mk (HBX.out _ h); clear h; obtain ⟨e0, e1, e2, _, _, _⟩ := cells3 H4.out.1; unfold oRes; simp only [Option.isSome_some, Option.getD_some]) | (go_at_call 34; (with_reducible refine Calls.mono (HBR.out _ (HVX.out.go H4.out.2)) ?_); rintro e w5 ⟨h5, h⟩; have H5 := Aside0.mk ((H.out.2.trans (H4.out.2.mono H.out.2.size)).trans (h.mono (Nat.le_trans H.out.2.size H4.out.2.size))); have hz := Nat.le_trans H.out.2.size H4.out.2.size; have HZ := Aside0.mk hz; obtain ⟨k', t', n', l', d', A', N', q', bb, xs, rfl, hR, hfin⟩ := cmd_open h5; have HR := Aside0.mk hR; have HFN := Aside0.mk hfin; clear h hz h5 hR hfin; have ROW := Aside0.mk (HRO.out _ H5.out); obtain ⟨⟨c0, c1, c2, c3, c4, c5⟩, f0, f1, f2, f3, f4, f5⟩ := cells6 ROW.out))
          refine bodyPost_ret (v := .tuple #[.agg #[.int .i64 k', .string t', .bool n', .string l', .string d', .slice A' N' q'], .bool bb]) ?_ rfl ⟨?_, below6 (HB3.out.trans (H5.out.mono HB3.out.size)) (Nat.le_refl _)⟩
          · exact results_ct (by rfl) _ _ w.heap.size 26 _ (0, 0) _ rfl (row6 ROW.out) Tryd.underlying26 rfl (by kernel_rfl) _ rfl
          · have hz := HZ.out
            have hlt : w.heap.size < w3.heap.size := (Array.getElem?_eq_some_iff.1 (HRO.out w3 (Below.refl _ _))).1
            exact HFN.out _ _ (fin_R HR.out (by omega) (by omega))
      | 4, _ =>
        have a0 := hcell 12 _ rfl
        have a1 := hcell 13 _ rfl
        have a2 := hcell 14 _ rfl
        have hst := V.tryT_drop (lst s) readT 4 _ rfl
        rw [H.out.1] at hst
        simp only at hst
        obtain ⟨o, ho⟩ : ∃ o, o = V.after (lst s) [101, 116, 114, 110, 32] := ⟨_, rfl⟩
        rw [← ho] at hst
        have haf : ∀ w, Calls Tryd.prog 35 #[.string s, .string { data := #[101, 116, 114, 110, 32] }] w fun e w' => e = .returned (oRes o) ∧ Below w.heap.size w w' := by
          intro w
          rw [ho]
          exact after_any s _ w (by omega) (by decide)
        have HAF := Aside0.mk haf
        have HST := Aside0.mk hst
        have HO := Aside0.mk ho
        clear hcell hst haf ho
        have hbox : ∀ w4, Below (wx.alloc (.cells #[.string { data := #[101, 116, 114, 110, 32] }, .int .i64 9, .func (.func 33) #[] #[]] 66)).heap.size (wx.alloc (.cells #[.string { data := #[101, 116, 114, 110, 32] }, .int .i64 9, .func (.func 33) #[] #[]] 66)) w4 → w4.heap[wx.heap.size]? = some (.cells #[.string { data := #[101, 116, 114, 110, 32] }, .int .i64 9, .func (.func 33) #[] #[]] 66 (0, 0)) ∧ Below wx.heap.size wx w4 := fun w4 h => ⟨(h.block _ (by simp)).trans (heap_alloc_new _ _), ((Below.refl _ wx).alloc (Nat.le_refl _) _).trans (h.mono (by simp))⟩
        have HBX := Aside0.mk hbox
        clear hbox
        cases o with
        | none =>
          have hT2 : V.tryT (lst s) (readT.drop 5) = X := HST.out.symm
          have HT2 := Aside0.mk hT2
          clear hT2
          go_wp2_with (first | (go_at_call 35; (with_reducible refine Calls.mono (HAF.out _) ?_); rintro e w4 ⟨rfl, h⟩; have H4 := Aside0.mk (HBX.out _ h).2; clear h; unfold oRes; simp only [Option.isSome_none, Option.getD_none]))
          go_roundg (gk - 1)
          case measure => omega
          case rel => exact ⟨5, by omega, by omega, by go_num, ⟨HT2.out, H.out.2.trans (H4.out.mono H.out.2.size)⟩⟩
        | some r =>
          have hT2 : T = (if false then V.mailbox 9 r else V.namedO 9 r) := by rw [HTF.out, HST.out]; try simp
          have hrl : (str r).size ≤ 10000 := by have := V.after_len HO.out.symm; rw [lst_length] at this; rw [str_size]; omega
          have hbr := fun w hv => branch_any false 9 (str r) w hrl hv
          rw [lst_str] at hbr
          rw [← hT2] at hbr
          have hbr2 : ∀ w, Vars w → Calls Tryd.prog 33 #[.int .i64 9, .string (str r)] w fun e w' => cmdPost T (.bool true) (.bool false) w.heap.size e w' ∧ Below w.heap.size w w' := hbr
          have HBR := Aside0.mk hbr2
          clear hT2 hbr hbr2
          go_wp2_with (first | (go_at_call 35; (with_reducible refine Calls.mono (HAF.out _) ?_); rintro e w4 ⟨rfl, h⟩; have H4 := Aside0.mk (HBX.out _ h); clear h; obtain ⟨e0, e1, e2, _, _, _⟩ := cells3 H4.out.1; unfold oRes; simp only [Option.isSome_some, Option.getD_some]) | (go_at_call 33; (with_reducible refine Calls.mono (HBR.out _ (HVX.out.go H4.out.2)) ?_); rintro e w5 ⟨h5, h⟩; have H5 := Aside0.mk ((H.out.2.trans (H4.out.2.mono H.out.2.size)).trans (h.mono (Nat.le_trans H.out.2.size H4.out.2.size))); have hz := Nat.le_trans H.out.2.size H4.out.2.size; have HZ := Aside0.mk hz; obtain ⟨k', t', n', l', d', A', N', q', bb, xs, rfl, hR, hfin⟩ := cmd_open h5; have HR := Aside0.mk hR; have HFN := Aside0.mk hfin; clear h hz h5 hR hfin; have ROW := Aside0.mk (HRO.out _ H5.out); obtain ⟨⟨c0, c1, c2, c3, c4, c5⟩, f0, f1, f2, f3, f4, f5⟩ := cells6 ROW.out))
          refine bodyPost_ret (v := .tuple #[.agg #[.int .i64 k', .string t', .bool n', .string l', .string d', .slice A' N' q'], .bool bb]) ?_ rfl ⟨?_, below6 (HB3.out.trans (H5.out.mono HB3.out.size)) (Nat.le_refl _)⟩
          · exact results_ct (by rfl) _ _ w.heap.size 26 _ (0, 0) _ rfl (row6 ROW.out) Tryd.underlying26 rfl (by kernel_rfl) _ rfl
          · have hz := HZ.out
            have hlt : w.heap.size < w3.heap.size := (Array.getElem?_eq_some_iff.1 (HRO.out w3 (Below.refl _ _))).1
            exact HFN.out _ _ (fin_R HR.out (by omega) (by omega))
      | 5, _ =>
        have a0 := hcell 15 _ rfl
        have a1 := hcell 16 _ rfl
        have a2 := hcell 17 _ rfl
        have hst := V.tryT_drop (lst s) readT 5 _ rfl
        rw [H.out.1] at hst
        simp only at hst
        obtain ⟨o, ho⟩ : ∃ o, o = V.after (lst s) [97, 116, 114, 110, 32] := ⟨_, rfl⟩
        rw [← ho] at hst
        have haf : ∀ w, Calls Tryd.prog 35 #[.string s, .string { data := #[97, 116, 114, 110, 32] }] w fun e w' => e = .returned (oRes o) ∧ Below w.heap.size w w' := by
          intro w
          rw [ho]
          exact after_any s _ w (by omega) (by decide)
        have HAF := Aside0.mk haf
        have HST := Aside0.mk hst
        have HO := Aside0.mk ho
        clear hcell hst haf ho
        have hbox : ∀ w4, Below (wx.alloc (.cells #[.string { data := #[97, 116, 114, 110, 32] }, .int .i64 11, .func (.func 33) #[] #[]] 66)).heap.size (wx.alloc (.cells #[.string { data := #[97, 116, 114, 110, 32] }, .int .i64 11, .func (.func 33) #[] #[]] 66)) w4 → w4.heap[wx.heap.size]? = some (.cells #[.string { data := #[97, 116, 114, 110, 32] }, .int .i64 11, .func (.func 33) #[] #[]] 66 (0, 0)) ∧ Below wx.heap.size wx w4 := fun w4 h => ⟨(h.block _ (by simp)).trans (heap_alloc_new _ _), ((Below.refl _ wx).alloc (Nat.le_refl _) _).trans (h.mono (by simp))⟩
        have HBX := Aside0.mk hbox
        clear hbox
        cases o with
        | none =>
          have hT2 : V.tryT (lst s) (readT.drop 6) = X := HST.out.symm
          have HT2 := Aside0.mk hT2
          clear hT2
          go_wp2_with (first | (go_at_call 35; (with_reducible refine Calls.mono (HAF.out _) ?_); rintro e w4 ⟨rfl, h⟩; have H4 := Aside0.mk (HBX.out _ h).2; clear h; unfold oRes; simp only [Option.isSome_none, Option.getD_none]))
          go_roundg (gk - 1)
          case measure => omega
          case rel => exact ⟨6, by omega, by omega, by go_num, ⟨HT2.out, H.out.2.trans (H4.out.mono H.out.2.size)⟩⟩
        | some r =>
          have hT2 : T = (if false then V.mailbox 11 r else V.namedO 11 r) := by rw [HTF.out, HST.out]; try simp
          have hrl : (str r).size ≤ 10000 := by have := V.after_len HO.out.symm; rw [lst_length] at this; rw [str_size]; omega
          have hbr := fun w hv => branch_any false 11 (str r) w hrl hv
          rw [lst_str] at hbr
          rw [← hT2] at hbr
          have hbr2 : ∀ w, Vars w → Calls Tryd.prog 33 #[.int .i64 11, .string (str r)] w fun e w' => cmdPost T (.bool true) (.bool false) w.heap.size e w' ∧ Below w.heap.size w w' := hbr
          have HBR := Aside0.mk hbr2
          clear hT2 hbr hbr2
          go_wp2_with (first | (go_at_call 35; (with_reducible refine Calls.mono (HAF.out _) ?_); rintro e w4 ⟨rfl, h⟩; have H4 := Aside0.mk (HBX.out _ h); clear h; obtain ⟨e0, e1, e2, _, _, _⟩ := cells3 H4.out.1; unfold oRes; simp only [Option.isSome_some, Option.getD_some]) | (go_at_call 33; (with_reducible refine Calls.mono (HBR.out _ (HVX.out.go H4.out.2)) ?_); rintro e w5 ⟨h5, h⟩; have H5 := Aside0.mk ((H.out.2.trans (H4.out.2.mono H.out.2.size)).trans (h.mono (Nat.le_trans H.out.2.size H4.out.2.size))); have hz := Nat.le_trans H.out.2.size H4.out.2.size; have HZ := Aside0.mk hz; obtain ⟨k', t', n', l', d', A', N', q', bb, xs, rfl, hR, hfin⟩ := cmd_open h5; have HR := Aside0.mk hR; have HFN := Aside0.mk hfin; clear h hz h5 hR hfin; have ROW := Aside0.mk (HRO.out _ H5.out); obtain ⟨⟨c0, c1, c2, c3, c4, c5⟩, f0, f1, f2, f3, f4, f5⟩ := cells6 ROW.out))
          refine bodyPost_ret (v := .tuple #[.agg #[.int .i64 k', .string t', .bool n', .string l', .string d', .slice A' N' q'], .bool bb]) ?_ rfl ⟨?_, below6 (HB3.out.trans (H5.out.mono HB3.out.size)) (Nat.le_refl _)⟩
          · exact results_ct (by rfl) _ _ w.heap.size 26 _ (0, 0) _ rfl (row6 ROW.out) Tryd.underlying26 rfl (by kernel_rfl) _ rfl
          · have hz := HZ.out
            have hlt : w.heap.size < w3.heap.size := (Array.getElem?_eq_some_iff.1 (HRO.out w3 (Below.refl _ _))).1
            exact HFN.out _ _ (fin_R HR.out (by omega) (by omega))
      | 6, _ =>
        clear hcell
        have hT2 : T = V.tail (lst s) := by rw [HTF.out, ← H.out.1]; rfl
        have HT2 := Aside0.mk hT2
        obtain ⟨o1, ho1⟩ : ∃ o, o = V.after (lst s) noopB := ⟨_, rfl⟩
        obtain ⟨o2, ho2⟩ : ∃ o, o = V.after (lst s) vrfyB := ⟨_, rfl⟩
        have haf1 : ∀ w, Calls Tryd.prog 35 #[.string s, .string { data := #[110, 111, 111, 112, 32] }] w fun e w' => e = .returned (oRes o1) ∧ Below w.heap.size w w' := by
          intro w; rw [ho1]; exact after_any s _ w (by omega) (by decide)
        have haf2 : ∀ w, Calls Tryd.prog 35 #[.string s, .string { data := #[118, 114, 102, 121, 32] }] w fun e w' => e = .returned (oRes o2) ∧ Below w.heap.size w w' := by
          intro w; rw [ho2]; exact after_any s _ w (by omega) (by decide)
        have HA1 := Aside0.mk haf1
        have HA2 := Aside0.mk haf2
        have HO1 := Aside0.mk ho1
        have HO2 := Aside0.mk ho2
        clear hT2 haf1 haf2 ho1 ho2 hM hm
        cases o1 with
        | some r =>
          have hT3 : T = some ⟨7, [], V.noPath, []⟩ := by rw [HT2.out]; unfold V.tail; rw [← HO1.out]; rfl
          have HT3 := Aside0.mk hT3
          clear hT3
          go_wp2_with (first | (go_at_call 35; (with_reducible refine Calls.mono (HA1.out _) ?_); rintro e w4 ⟨rfl, h⟩; have H4 := Aside0.mk (H.out.2.trans (h.mono H.out.2.size)); clear h; have ROW := Aside0.mk (HRO.out _ H4.out); obtain ⟨⟨c0, c1, c2, c3, c4, c5⟩, f0, f1, f2, f3, f4, f5⟩ := cells6 ROW.out; unfold oRes; simp only [Option.isSome_some, Option.getD_some]))
          refine bodyPost_ret (v := .tuple #[cval ⟨7, [], V.noPath, []⟩ noSl, .bool true]) ?_ rfl ⟨?_, below6 (HB3.out.trans (H4.out.mono HB3.out.size)) (Nat.le_refl _)⟩
          · exact results_ct (by rfl) _ _ w.heap.size 26 _ (0, 0) _ rfl (row6 ROW.out) Tryd.underlying26 rfl (by kernel_rfl) _ rfl
          · rw [HT3.out]
            exact ⟨noSl, rfl, Kd.R_nil _ _ _ _ _, by simp⟩
        | none =>
          cases o2 with
          | none =>
            have hT3 : T = none := by rw [HT2.out]; unfold V.tail; rw [← HO1.out, ← HO2.out]; rfl
            have HT3 := Aside0.mk hT3
            clear hT3
            go_wp2_with (first | (go_at_call 35; (with_reducible refine Calls.mono (HA1.out _) ?_); rintro e w4 ⟨rfl, h⟩; have H4 := Aside0.mk (H.out.2.trans (h.mono H.out.2.size)); clear h; unfold oRes; simp only [Option.isSome_none, Option.getD_none]) | (go_at_call 35; (with_reducible refine Calls.mono (HA2.out _) ?_); rintro e w5 ⟨rfl, h⟩; have H5 := Aside0.mk (H4.out.trans (h.mono H4.out.size)); clear h; have ROW := Aside0.mk (HRO.out _ H5.out); obtain ⟨⟨c0, c1, c2, c3, c4, c5⟩, f0, f1, f2, f3, f4, f5⟩ := cells6 ROW.out; unfold oRes; simp only [Option.isSome_none, Option.getD_none]))
            refine bodyPost_ret (v := .tuple #[cval V.noCmd noSl, .bool false]) ?_ rfl ⟨by rw [HT3.out]; rfl, below6 (HB3.out.trans (H5.out.mono HB3.out.size)) (Nat.le_refl _)⟩
            exact results_ct (by rfl) _ _ w.heap.size 26 _ (0, 0) _ rfl (row6 ROW.out) Tryd.underlying26 rfl (by kernel_rfl) _ rfl
          | some r =>
            have hem : (str r).toList.isEmpty = r.isEmpty := by rw [emp_str, lst_str]
            cases hr : r.isEmpty with
            | true =>
              have hT3 : T = none := by rw [HT2.out]; unfold V.tail; rw [← HO1.out, ← HO2.out]; show (if r.isEmpty = true then none else _) = _; rw [hr]; rfl
              have HT3 := Aside0.mk hT3
              rw [hr] at hem
              clear hT3 hr
              go_wp2_with (first | (go_at_call 35; (with_reducible refine Calls.mono (HA1.out _) ?_); rintro e w4 ⟨rfl, h⟩; have H4 := Aside0.mk (H.out.2.trans (h.mono H.out.2.size)); clear h; unfold oRes; simp only [Option.isSome_none, Option.getD_none]) | (go_at_call 35; (with_reducible refine Calls.mono (HA2.out _) ?_); rintro e w5 ⟨rfl, h⟩; have H5 := Aside0.mk (H4.out.trans (h.mono H4.out.size)); clear h; have ROW := Aside0.mk (HRO.out _ H5.out); obtain ⟨⟨c0, c1, c2, c3, c4, c5⟩, f0, f1, f2, f3, f4, f5⟩ := cells6 ROW.out; unfold oRes; simp only [Option.isSome_some, Option.getD_some]))
              refine bodyPost_ret (v := .tuple #[cval V.noCmd noSl, .bool false]) ?_ rfl ⟨by rw [HT3.out]; rfl, below6 (HB3.out.trans (H5.out.mono HB3.out.size)) (Nat.le_refl _)⟩
              exact results_ct (by rfl) _ _ w.heap.size 26 _ (0, 0) _ rfl (row6 ROW.out) Tryd.underlying26 rfl (by kernel_rfl) _ rfl
            | false =>
              have hT3 : T = some ⟨6, r, V.noPath, []⟩ := by rw [HT2.out]; unfold V.tail; rw [← HO1.out, ← HO2.out]; show (if r.isEmpty = true then none else _) = _; rw [hr]; rfl
              have HT3 := Aside0.mk hT3
              rw [hr] at hem
              clear hT3 hr
              go_wp2_with (first | (go_at_call 35; (with_reducible refine Calls.mono (HA1.out _) ?_); rintro e w4 ⟨rfl, h⟩; have H4 := Aside0.mk (H.out.2.trans (h.mono H.out.2.size)); clear h; unfold oRes; simp only [Option.isSome_none, Option.getD_none]) | (go_at_call 35; (with_reducible refine Calls.mono (HA2.out _) ?_); rintro e w5 ⟨rfl, h⟩; have H5 := Aside0.mk (H4.out.trans (h.mono H4.out.size)); clear h; have ROW := Aside0.mk (HRO.out _ H5.out); obtain ⟨⟨c0, c1, c2, c3, c4, c5⟩, f0, f1, f2, f3, f4, f5⟩ := cells6 ROW.out; unfold oRes; simp only [Option.isSome_some, Option.getD_some]))
              refine bodyPost_ret (v := .tuple #[cval ⟨6, r, V.noPath, []⟩ noSl, .bool true]) ?_ rfl ⟨?_, below6 (HB3.out.trans (H5.out.mono HB3.out.size)) (Nat.le_refl _)⟩
              · exact results_ct (by rfl) _ _ w.heap.size 26 _ (0, 0) _ rfl (row6 ROW.out) Tryd.underlying26 rfl (by kernel_rfl) _ rfl
              · rw [HT3.out]
                exact ⟨noSl, rfl, Kd.R_nil _ _ _ _ _, by simp⟩
      | n + 7, h => omega
end Go.Proofs.YteiknmcmaemcoaaDoor
