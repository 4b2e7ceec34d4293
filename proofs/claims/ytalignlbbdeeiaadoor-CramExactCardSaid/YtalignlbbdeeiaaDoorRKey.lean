/- The keyed sum of the reference. -/
import Derived.Test.YtalignlbbdeeiaaDoorProg
import Derived.WalkKit
import Derived.WalkLawsBesides
import Derived.Outline
import Derived.LoopTactic
import Derived.Lib.Hide
import Derived.Deep.QuietTactic
import Derived.BigQuiet
import Derived.Deep.LoopGhost
import Derived.Deep.DeepCutAuto
import Derived.Deep.CutBlock
import Derived.Deep.RegionHeld3
import Derived.Deep.RegionWith
import Derived.Deep.WholeRow
import Derived.Laws.Rows
import Derived.Laws.Tables
import Derived.Laws.ResultCell
import Derived.StillTailTactics
import Derived.Deep.DeepMust
import Derived.IntWalk
import Derived.KernelRfl
import Derived.Test.YtalignlbbdeeiaaDoorWWords
import Derived.Test.YtalignlbbdeeiaaDoorWLast
import Derived.Test.YtalignlbbdeeiaaDoorWMore
import Derived.RegionTactic
import Derived.Test.YtalignlbbdeeiaaDoorRKi
namespace Go.Proofs.YtalignlbbdeeiaaDoor
open Go.RowKit
open Go.Proofs.YtalignlbbdeeiaaDoorW.PrintWords
set_option linter.unusedVariables false
set_option linter.unusedSimpArgs false
theorem map_take_succ (f : Int → Int) (l : List Int) (k : Nat) (h : k < l.length) : (l.take (k + 1)).map f = (l.take k).map f ++ [f (l.getD k 0)] := by
  have e : l.getD k 0 = l[k] := by rw [List.getD_eq_getElem?_getD, List.getElem?_eq_getElem h]; rfl
  rw [List.take_succ_eq_append_getElem h, List.map_append, e]; rfl
def PV (v7 v5 vk vp vx va v8 vb : Value) : Nat → Option Value
  | 0 => some v7
  | 1 => some v5
  | 2 => some vk
  | 3 => some vp
  | 4 => some vx
  | 5 => some va
  | 8 => some v8
  | 9 => some v5
  | 10 => some vk
  | 11 => some vp
  | 12 => some vx
  | 13 => some vb
  | _ => none
def sixteen (x0 x1 x2 x3 x4 x5 x6 x7 x8 x9 x10 x11 x12 x13 x14 x15 : Value) : Nat → Value
  | 0 => x0
  | 1 => x1
  | 2 => x2
  | 3 => x3
  | 4 => x4
  | 5 => x5
  | 6 => x6
  | 7 => x7
  | 8 => x8
  | 9 => x9
  | 10 => x10
  | 11 => x11
  | 12 => x12
  | 13 => x13
  | 14 => x14
  | _ => x15
def duo (x y : Value) : Nat → Value
  | 16 => x
  | _ => y
def DuoFacts (x y : Value) : Nat → Value → World → Prop
  | 16, v, _ => v = x
  | 17, v, _ => v = y
  | _, _, _ => True
theorem twin_at (A : Option Addr) (c n : Nat) (l : List Int) (w : World) (hn : l.length = n) (hr : CB w A l) (hl : l.length ≤ 1000000) :
    Calls Tryd.prog 10 #[.slice A n c] w fun e w' => ∃ v, e = .returned v ∧ RB w' w.heap.size (fun _ => True) v l ∧ Below w.heap.size w w' := by
  subst hn
  exact twin_any A c l w hr hl
theorem rsum_at (A : Option Addr) (c n : Nat) (l : List Int) (oA : Array Value) (w : World) (hn : l.length = n) (hS : ((Md5.sum l).map (Value.int .u8)).toArray = oA) (hr : CB w A l) (hc : l.length ≤ c) (hb : Md5.Bytes l) (hl : l.length ≤ 100000) :
    Calls Tryd.prog 32 #[.slice A n c] w fun e w' => e = .returned (.agg oA) ∧ Below w.heap.size w w' := by
  subst hn hS
  exact rsum_any A c l w hr hc hb hl
set_option maxRecDepth 100000 in
set_option maxHeartbeats 4000000 in
theorem rkeyed_any (A B : Option Addr) (c d : Nat) (key text : List Int) (w : World) (hk : CB w A key) (hkc : key.length ≤ c) (hkb : Md5.Bytes key) (hkl : key.length ≤ 10000) (ht : CB w B text) (htb : Md5.Bytes text) (htl : text.length ≤ 10000) :
    Calls Tryd.prog 23 #[.slice A key.length c, .slice B text.length d] w fun e w' => e = .returned (.agg ((Md5.keyed key text).map (Value.int .u8)).toArray) ∧ Below w.heap.size w w' := by
  have HK := Aside0.mk hk
  have HKB := Aside0.mk hkb
  have HT := Aside0.mk ht
  have HTB := Aside0.mk htb
  clear hk hkb ht htb
  go_enter Tryd.func23, Tryd.ntmps23
  go_upto_region 1 with (fail)
  have ew : w.alloc (.cells #[.int .u8 0, .int .u8 0, .int .u8 0, .int .u8 0, .int .u8 0, .int .u8 0, .int .u8 0, .int .u8 0, .int .u8 0, .int .u8 0, .int .u8 0, .int .u8 0, .int .u8 0, .int .u8 0, .int .u8 0, .int .u8 0] 49) = w16 w := rfl
  rw [ew]
  clear ew
  have hs := w16_size w
  have hs1 : w.heap.size + 1 ≤ (w16 w).heap.size := by omega
  have hs2 : (w16 w).heap.size ≤ w.heap.size + 1 := by omega
  clear hs
  have HKw := Aside0.mk (Kd.C_below HK.out (w16_below w))
  go_cut [5] (fun v5 wc => Aside0 (RB wc (w16 w).heap.size (fun _ => True) v5 key) ∧ Aside0 (Below (w16 w).heap.size (w16 w) wc))
  case first =>
    go_wp2_with (first | (go_at_call 10; refine (twin_any A c key (w16 w) HKw.out (by omega)).mono ?_; rintro e w1 ⟨v, rfl, h1, h2⟩; have H1 := Aside0.mk h1; have H2 := Aside0.mk h2; clear h1 h2))
    go_meet
    case rel => exact ⟨H1, H2⟩
  case rest =>
  obtain ⟨H5, HA⟩ := hcut
  obtain ⟨wo, rfl⟩ : ∃ wz : World, wz = wc := ⟨_, rfl⟩
  obtain ⟨A5, c5, rfl, hc5, hr5⟩ := Kd.R_reads H5.out
  have HR5 := Aside0.mk hr5
  clear hr5
  go_upto_if 15 with (fail)
  go_cut [5, 6] (fun v5 v6 wc => ∃ w0 : World, Aside0 (Below (w16 w).heap.size (w16 w) w0) ∧ Aside0 (Below w0.heap.size w0 wc) ∧ Aside0 (RB wc w0.heap.size (fun _ => True) v5 (Md5.fit key)))
  case first =>
    by_cases hlong : 64 < key.length
    · have hfit : Md5.fit key = Md5.sum key := if_pos hlong
      have HF := Aside0.mk hfit
      have t1 : decide ((64 : Int) < (key.length : Int)) = true := by simp; omega
      have t2 : decide (64 < key.length) = true := by simp; omega
      clear hfit
      obtain ⟨oS, hoS⟩ : ∃ oS, ((Md5.sum key).map (Value.int .u8)).toArray = oS := ⟨_, rfl⟩
      have HOS := Aside0.mk hoS
      clear hoS
      go_wp2_with (first | (go_at_call 32; refine (rsum_at A5 c5 _ key oS wo rfl HOS.out HR5.out hc5 HKB.out (by omega)).mono ?_; rintro e w1 ⟨rfl, h1⟩; have H1 := Aside0.mk h1; clear h1) | ((with_reducible refine gate_store (p := 6) rfl ?_); refine wpList_store_row rfl 49 _ _ rfl w1.heap.size oS rfl rfl 49 zero16 (heap_alloc_new _ _) (hi16 HOS.out (Md5.sum_length key)) (by rw [size16 HOS.out (Md5.sum_length key)]; rfl) (one16 HOS.out) ?_; rw [World.setRow_alloc_new]) | (go_at_call 10; refine (twin_at (some ⟨w1.heap.size, 0, none⟩) 16 16 (Md5.sum key) _ (Md5.sum_length key) (CB_of_row (heap_alloc_new _ _) HOS.out.symm (by rw [Md5.sum_length]; omega)) (by rw [Md5.sum_length]; omega)).mono ?_; rintro e w2 ⟨v, rfl, h1, h2⟩; have H2 := Aside0.mk h1; have H3 := Aside0.mk h2; clear h1 h2))
      go_meet
      case rel =>
        have hz := HA.out.size
        have hb := (HA.out.trans (H1.out.mono hz))
        exact ⟨w1.alloc (.cells oS 49), ⟨hb.alloc hb.size _⟩, H3, ⟨by rw [HF.out]; exact H2.out⟩⟩
    · have hfit : Md5.fit key = key := if_neg hlong
      have HF := Aside0.mk hfit
      have t1 : decide ((64 : Int) < (key.length : Int)) = false := by simp; omega
      have t2 : decide (64 < key.length) = false := by simp; omega
      clear hfit
      go_wp2_with (fail)
      go_meet
      case rel => exact ⟨w16 w, ⟨Below.refl _ _⟩, HA, ⟨by rw [HF.out]; exact H5.out⟩⟩
  case rest =>
  clear H5 HR5 HA hc5
  obtain ⟨w0, HA, HB, H5⟩ := hcut
  obtain ⟨wp, rfl⟩ : ∃ wz : World, wz = wc := ⟨_, rfl⟩
  -- first loop
  have hfl := Md5.fit_length key
  have hz0 := HA.out.size
  go_upto_block 0 with (fail)
  go_wp2_with (fail)
  go_loopg [5] (64 - (Md5.fit key).length) (fun g v5 wx => ∃ j : Nat, g + ((Md5.fit key).length + j) = 64 ∧ Aside0 (RB wx w0.heap.size (fun _ => True) v5 (Md5.fit key ++ List.replicate j 0)) ∧ Aside0 (Below w0.heap.size w0 wx))
  case atStart => exact ⟨0, by omega, ⟨by simpa using H5.out⟩, HB⟩
  case round =>
  clear H5 HB
  obtain ⟨wx, rfl⟩ : ∃ wz : World, wz = wr := ⟨_, rfl⟩
  obtain ⟨g, rfl⟩ : ∃ g : Nat, g = gk := ⟨_, rfl⟩
  obtain ⟨j, hj, H5, HB⟩ := hrel
  obtain ⟨A5, c5, rfl, hc5, hr5⟩ := Kd.R_reads H5.out
  have HR5 := Aside0.mk hr5
  clear hr5
  obtain ⟨n5, hn5⟩ : ∃ n, n = (Md5.fit key ++ List.replicate j (0 : Int)).length := ⟨_, rfl⟩
  have hn5' : n5 + g = 64 := by rw [hn5]; simp; omega
  have HN5 := Aside0.mk hn5
  rw [← hn5]
  clear hn5
  by_cases h0 : 0 < g
  · have e1 : decide ((n5 : Int) < 64) = true := by simp; omega
    have e2 : decide (n5 < 64) = true := by simp; omega
    go_wp2_with (first | ((with_reducible refine gate_builtin (b := .append) (xs := #[.tmp 23, .tmp 24]) rfl ?_); at_builtin; refine Kd.R_append_rows (Kd.int .u8) (w0 := w0) w0.heap.size rfl (.tmp 23) (.tmp 24) 22 5 (.int .u8 0) 1 rfl Tryd.underlying22 infoU8 rfl (by decide) (by omega) (.slice A5 n5 c5) (Md5.fit key ++ List.replicate j 0) [0] _ _ _ (fun _ => True) (fun _ => False) rfl rfl (Kd.R_alloc (by rw [HN5.out]; exact H5.out) _) (CB_of_row (heap_alloc_new _ _) rfl (by simp)) (fun _ _ h => h) (fun _ h => h.elim) (fun _ _ => trivial) (HB.out.alloc HB.out.size _) (by have := HB.out.size; simp <;> omega) (by rw [← HN5.out]; simp <;> omega) ?_; intro v2 w2 g1 g2 g3 g4; have eL : Md5.fit key ++ List.replicate j 0 ++ [0] = Md5.fit key ++ List.replicate (j + 1) (0 : Int) := (by rw [List.append_assoc, ← List.replicate_succ']); rw [eL] at g1; have G1 := Aside0.mk g1; have G2 := Aside0.mk g2; clear g1 g2 g3 g4 eL))
    go_roundg (g - 1)
    case measure => omega
    case rel => exact ⟨j + 1, by omega, G1, G2⟩
  have hg0 : g = 0 := by omega
  have e1 : decide ((n5 : Int) < 64) = false := by simp; omega
  have e2 : decide (n5 < 64) = false := by simp; omega
  have hbl : Md5.fit key ++ List.replicate j 0 = Md5.block key := by
    have : j = 64 - (Md5.fit key).length := by omega
    rw [this]; rfl
  have hn64 : n5 = 64 := by omega
  have HBLK := Aside0.mk hbl
  have HN64 := Aside0.mk hn64
  clear hg0 hbl hn64
  -- second loop
  have hr := HR5.out
  rw [HBLK.out] at hr
  have hlb := Md5.block_length key
  have hbb := Md5.block_bytes HKB.out
  have hky0 : Md5.keyed key text = Md5.sum ((Md5.block key).map (Md5.xb 92) ++ Md5.sum ((Md5.block key).map (Md5.xb 54) ++ text)) := rfl
  have HKEY := Aside0.mk hky0
  have HN := HN64.out
  clear hky0 HR5 HBLK HN64 HN5 H5 e1 e2 h0 hn5' hj hfl
  generalize Md5.block key = bl at *
  have HBB := Aside0.mk hbb
  have HBL := Aside0.mk hlb
  have HR := Aside0.mk hr
  clear hbb hlb hr
  obtain ⟨wl, hwl⟩ : ∃ wl : World, wl = wx := ⟨_, rfl⟩
  have HB' := HB
  rw [← hwl] at HB HR
  have hbase : w0.heap.size ≤ wl.heap.size := HB.out.size
  go_upto_block 2 with (fail)
  go_wp2_with (fail)
  go_loopg [7, 8, 9] 64 (fun g v7 v8 v9 wx => ∃ k : Nat, k ≤ 64 ∧ g + k = 64 ∧ v9 = .int .i64 k ∧ Aside0 (Two wl.heap.size wl v7 ((bl.take k).map (Md5.xb 54)) v8 ((bl.take k).map (Md5.xb 92)) wx))
  case atStart => exact ⟨0, by omega, by omega, rfl, ⟨by subst hwl; exact Below.refl _ _, Kd.R_nil _ _ _ _ _, Kd.R_nil _ _ _ _ _, fun b hb => by simp [Value.ownBlock] at hb⟩⟩
  case round =>
  clear hwl HB'
  obtain ⟨wy, rfl⟩ : ∃ wz : World, wz = wr := ⟨_, rfl⟩
  obtain ⟨g2, rfl⟩ : ∃ g : Nat, g = gk := ⟨_, rfl⟩
  obtain ⟨k, hk, hg, rfl, HT2⟩ := hrel
  by_cases hk64 : k < 64
  · have hk64' : (k : Int) < 64 := by omega
    have t1 : decide ((k : Int) < 64) = true := by simp; omega
    have hk0 : (0 : Int) ≤ (k : Int) := by omega
    have hkn : (k : Int) < (n5 : Int) := by omega
    obtain ⟨ad, rfl, _⟩ := Kd.at_int HR.out k (by omega) (by rw [HBL.out]; omega)
    obtain ⟨x, hx⟩ : ∃ x, x = bl.getD k 0 := ⟨_, rfl⟩
    have hxb := HBB.out.getD k
    rw [← hx] at hxb
    have x54 : bits .xor .u8 x 54 = Md5.xb 54 x := xor_byte x 54 (by omega) hxb
    have x92 : bits .xor .u8 x 92 = Md5.xb 92 x := xor_byte x 92 (by omega) hxb
    have HCA : ∀ W : World, Below wl.heap.size wl W → W.cell? (ad.add k) = some (.int .u8 x) := fun W h => by
      obtain ⟨ad', e, hc⟩ := Kd.at_int (Kd.C_below HR.out h) k (by omega) (by rw [HBL.out]; omega)
      injection e with e
      subst e
      rw [hx]; exact hc
    have hst54 : (bl.take (k + 1)).map (Md5.xb 54) = (bl.take k).map (Md5.xb 54) ++ [Md5.xb 54 x] := by
      rw [hx]; exact map_take_succ _ bl k (by rw [HBL.out]; omega)
    have hst92 : (bl.take (k + 1)).map (Md5.xb 92) = (bl.take k).map (Md5.xb 92) ++ [Md5.xb 92 x] := by
      rw [hx]; exact map_take_succ _ bl k (by rw [HBL.out]; omega)
    have hl7 : ((bl.take k).map (Md5.xb 54)).length = k := by simp [HBL.out]; omega
    have hl8 : ((bl.take k).map (Md5.xb 92)).length = k := by simp [HBL.out]; omega
    have HST := Aside0.mk (And.intro hst54 hst92)
    generalize (bl.take k).map (Md5.xb 54) = m7 at *
    generalize (bl.take k).map (Md5.xb 92) = m8 at *
    have HL7 := Aside0.mk hl7
    have HL8 := Aside0.mk hl8
    clear hst54 hst92 hl7 hl8 hx
    go_upto_region 11 with (fail)
    generalize Md5.xb 54 x = y7 at *
    generalize Md5.xb 92 x = y8 at *
    refine Facts.region_any (n := 2 + 16) #[false, false, false, false, false, false, false, false, false, false, false, false, false, false, false, false, false, false] (by kernel_rfl) rfl (by kernel_rfl) (fun W0 hW0 hB0 => ?_)
    have hT0 := HT2.out
    have hT1 : Two wl.heap.size wl u7 m7 u8 m8 W0 := ⟨hT0.1.trans (hB0 _), Kd.R_below hT0.2.1 (hB0 _), Kd.R_below hT0.2.2.1 (hB0 _), hT0.2.2.2⟩
    clear hW0 hB0 hT0
    refine Facts.wpAny_inv [(0, some 30), (1, some 31), (2, some 32), (3, some 33), (4, some 34), (5, some 35), (6, some 36), (7, some 37), (8, some 38), (9, some 39), (10, some 40), (11, some 41), (12, some 42), (13, some 43), (14, some 44), (15, some 45)] _ #[true, true, true, true, true, true, true, true, true, true, true, true, true, true, true, true, false, false] (by kernel_rfl) 2 _ _ (RegI wl.heap.size wl (PV u7 (.slice (some ad) n5 c5) (.int .i64 k) (.pointer (some (ad.add k))) (.int .u8 x) (.int .u8 y7) u8 (.int .u8 y8)) u7 u8 m7 m8 y7 y8) ?hop ?H (sixteen u30 u31 u32 u33 u34 u35 u36 u37 u38 u39 u40 u41 u42 u43 u44 u45) (by kernel_rfl) ?hI
    case hI =>
      refine ⟨fun i v _ h => ?_, hT1, fun h _ => ?_, fun h _ => ?_⟩
      · exfalso
        revert h
        match i with
        | 0 | 1 | 2 | 3 | 4 | 5 | 6 | 7 | 8 | 9 | 10 | 11 | 12 | 13 | 14 | 15 | 16 | 17 => exact (by decide)
        | n + 18 => simp
      · exact absurd h (by decide)
      · exact absurd h (by decide)
    case hop =>
      intro z hz o ho L V W hI hL hpre K hK
      have hW := hI.2.1.1
      have hsz := hW.size
      simp only [List.mem_cons, List.not_mem_nil, or_false] at hz
      rcases hz with rfl | rfl | rfl | rfl | rfl | rfl | rfl | rfl | rfl | rfl | rfl | rfl | rfl | rfl | rfl | rfl
      · obtain rfl := Option.some.inj ho
        exact Facts.OpDo.value (by kernel_rfl) rfl (v := u7) (w1 := W) (by kernel_rfl) (hK _ _ (hI.pure 0 _ rfl (by decide) (by decide) (by decide) (by decide)))
      · obtain rfl := Option.some.inj ho
        exact Facts.OpDo.value (by kernel_rfl) rfl (v := .slice (some ad) n5 c5) (w1 := W) (by kernel_rfl) (hK _ _ (hI.pure 1 _ rfl (by decide) (by decide) (by decide) (by decide)))
      · obtain rfl := Option.some.inj ho
        exact Facts.OpDo.value (by kernel_rfl) rfl (v := .int .i64 k) (w1 := W) (by kernel_rfl) (hK _ _ (hI.pure 2 _ rfl (by decide) (by decide) (by decide) (by decide)))
      · obtain rfl := Option.some.inj ho
        have f1 : V 1 = .slice (some ad) n5 c5 := hI.1 1 _ rfl (hpre { on := 1, ground := .data } (by simp) rfl rfl)
        have f2 : V 2 = .int .i64 k := hI.1 2 _ rfl (hpre { on := 2, ground := .data } (by simp) rfl rfl)
        refine Facts.OpDo.value (by kernel_rfl) rfl (v := .pointer (some (ad.add k))) (w1 := W) ?_ (hK _ _ (hI.pure 3 _ rfl (by decide) (by decide) (by decide) (by decide)))
        simp only [Facts.acE, f1, f2, Act.put, List.setIfInBounds_toArray, List.set_cons_zero, List.set_cons_succ]
        go_simp
      · obtain rfl := Option.some.inj ho
        have f3 : V 3 = .pointer (some (ad.add k)) := hI.1 3 _ rfl (hpre { on := 3, ground := .data } (by simp) rfl rfl)
        have hc := HCA W hW
        refine Facts.OpDo.value (by kernel_rfl) rfl (v := .int .u8 x) (w1 := W) ?_ (hK _ _ (hI.pure 4 _ rfl (by decide) (by decide) (by decide) (by decide)))
        simp only [Facts.acE, f3, Act.put, List.setIfInBounds_toArray, List.set_cons_zero, List.set_cons_succ]
        go_simp
      · obtain rfl := Option.some.inj ho
        have f4 : V 4 = .int .u8 x := hI.1 4 _ rfl (hpre { on := 4, ground := .data } (by simp) rfl rfl)
        refine Facts.OpDo.value (by kernel_rfl) rfl (v := .int .u8 y7) (w1 := W) ?_ (hK _ _ (hI.pure 5 _ rfl (by decide) (by decide) (by decide) (by decide)))
        simp only [Facts.acE, f4, Act.put, List.setIfInBounds_toArray, List.set_cons_zero, List.set_cons_succ]
        go_simp
      · obtain rfl := Option.some.inj ho
        have f5 : V 5 = .int .u8 y7 := hI.1 5 _ rfl (hpre { on := 5, ground := .data } (by simp) rfl rfl)
        refine Facts.OpDo.value (by kernel_rfl) rfl (v := .slice (some ⟨W.heap.size, 0, none⟩) 1 1) (w1 := W.alloc (.cells #[.int .u8 y7] 5)) ?_ (hK _ _ (hI.six rfl hsz))
        simp only [Facts.acE, f5, Act.put, List.setIfInBounds_toArray, List.set_cons_zero, List.set_cons_succ]
        go_simp
      · obtain rfl := Option.some.inj ho
        have f0 : V 0 = u7 := hI.1 0 _ rfl (hpre { on := 0, ground := .data } (by simp) rfl rfl)
        obtain ⟨gg, e6, hgg, _, _⟩ := hI.2.2.1 (hpre { on := 6, ground := .data } (by simp) rfl rfl) hL
        have hT := hI.2.1
        rw [show L 7 = false from hL] at hT
        simp only [Bool.false_eq_true, if_false] at hT
        have HR1 : (Kd.int .u8).C W (some ⟨gg, 0, none⟩) 1 [y7] := CB_of_row hgg rfl (by simp)
        refine Facts.OpDo.of_list (by kernel_rfl) rfl ?_
        refine Kd.R_append_rows (Kd.int .u8) (w0 := wl) wl.heap.size rfl (.tmp 30) (.tmp 36) 22 5 (.int .u8 0) 1 rfl Tryd.underlying22 infoU8 rfl (by decide) (by omega) u7 m7 [y7] (some ⟨gg, 0, none⟩) 1 1 (fun _ => True) (fun _ => False) ?hs ?hx hT.2.1 HR1 (fun _ _ h => h) (fun _ h => h.elim) (fun _ _ => trivial) hW hsz (by rw [HL7.out]; omega) ?_
        case hs => exact Eq.trans (b := V 0) (by kernel_rfl) f0
        case hx => exact Eq.trans (b := V 6) (by kernel_rfl) e6
        intro v2 w2 q1 q2 q3 q4
        exact hK _ _ (hI.seven rfl hL q1 q2 q3 q4)
      · obtain rfl := Option.some.inj ho
        exact Facts.OpDo.value (by kernel_rfl) rfl (v := u8) (w1 := W) (by kernel_rfl) (hK _ _ (hI.pure 8 _ rfl (by decide) (by decide) (by decide) (by decide)))
      · obtain rfl := Option.some.inj ho
        exact Facts.OpDo.value (by kernel_rfl) rfl (v := .slice (some ad) n5 c5) (w1 := W) (by kernel_rfl) (hK _ _ (hI.pure 9 _ rfl (by decide) (by decide) (by decide) (by decide)))
      · obtain rfl := Option.some.inj ho
        exact Facts.OpDo.value (by kernel_rfl) rfl (v := .int .i64 k) (w1 := W) (by kernel_rfl) (hK _ _ (hI.pure 10 _ rfl (by decide) (by decide) (by decide) (by decide)))
      · obtain rfl := Option.some.inj ho
        have f9 : V 9 = .slice (some ad) n5 c5 := hI.1 9 _ rfl (hpre { on := 9, ground := .data } (by simp) rfl rfl)
        have f10 : V 10 = .int .i64 k := hI.1 10 _ rfl (hpre { on := 10, ground := .data } (by simp) rfl rfl)
        refine Facts.OpDo.value (by kernel_rfl) rfl (v := .pointer (some (ad.add k))) (w1 := W) ?_ (hK _ _ (hI.pure 11 _ rfl (by decide) (by decide) (by decide) (by decide)))
        simp only [Facts.acE, f9, f10, Act.put, List.setIfInBounds_toArray, List.set_cons_zero, List.set_cons_succ]
        go_simp
      · obtain rfl := Option.some.inj ho
        have f11 : V 11 = .pointer (some (ad.add k)) := hI.1 11 _ rfl (hpre { on := 11, ground := .data } (by simp) rfl rfl)
        have hc := HCA W hW
        refine Facts.OpDo.value (by kernel_rfl) rfl (v := .int .u8 x) (w1 := W) ?_ (hK _ _ (hI.pure 12 _ rfl (by decide) (by decide) (by decide) (by decide)))
        simp only [Facts.acE, f11, Act.put, List.setIfInBounds_toArray, List.set_cons_zero, List.set_cons_succ]
        go_simp
      · obtain rfl := Option.some.inj ho
        have f12 : V 12 = .int .u8 x := hI.1 12 _ rfl (hpre { on := 12, ground := .data } (by simp) rfl rfl)
        refine Facts.OpDo.value (by kernel_rfl) rfl (v := .int .u8 y8) (w1 := W) ?_ (hK _ _ (hI.pure 13 _ rfl (by decide) (by decide) (by decide) (by decide)))
        simp only [Facts.acE, f12, Act.put, List.setIfInBounds_toArray, List.set_cons_zero, List.set_cons_succ]
        go_simp
      · obtain rfl := Option.some.inj ho
        have f13 : V 13 = .int .u8 y8 := hI.1 13 _ rfl (hpre { on := 13, ground := .data } (by simp) rfl rfl)
        refine Facts.OpDo.value (by kernel_rfl) rfl (v := .slice (some ⟨W.heap.size, 0, none⟩) 1 1) (w1 := W.alloc (.cells #[.int .u8 y8] 5)) ?_ (hK _ _ (hI.fourteen rfl hsz))
        simp only [Facts.acE, f13, Act.put, List.setIfInBounds_toArray, List.set_cons_zero, List.set_cons_succ]
        go_simp
      · obtain rfl := Option.some.inj ho
        have f8 : V 8 = u8 := hI.1 8 _ rfl (hpre { on := 8, ground := .data } (by simp) rfl rfl)
        obtain ⟨gg, e6, hgg, _, _⟩ := hI.2.2.2 (hpre { on := 14, ground := .data } (by simp) rfl rfl) hL
        have hT := hI.2.1
        rw [show L 15 = false from hL] at hT
        simp only [Bool.false_eq_true, if_false] at hT
        have HR1 : (Kd.int .u8).C W (some ⟨gg, 0, none⟩) 1 [y8] := CB_of_row hgg rfl (by simp)
        refine Facts.OpDo.of_list (by kernel_rfl) rfl ?_
        refine Kd.R_append_rows (Kd.int .u8) (w0 := wl) wl.heap.size rfl (.tmp 38) (.tmp 44) 22 5 (.int .u8 0) 1 rfl Tryd.underlying22 infoU8 rfl (by decide) (by omega) u8 m8 [y8] (some ⟨gg, 0, none⟩) 1 1 (fun _ => True) (fun _ => False) ?hs ?hx hT.2.2.1 HR1 (fun _ _ h => h) (fun _ h => h.elim) (fun _ _ => trivial) hW hsz (by rw [HL8.out]; omega) ?_
        case hs => exact Eq.trans (b := V 8) (by kernel_rfl) f8
        case hx => exact Eq.trans (b := V 14) (by kernel_rfl) e6
        intro v2 w2 q1 q2 q3 q4
        exact hK _ _ (hI.fifteen rfl hL q1 q2 q3 q4)
    case H =>
      intro V W hI
      have hT := hI.2.1
      have r7 : (#[true, true, true, true, true, true, true, true, true, true, true, true, true, true, true, true, false, false] : Array Bool).getD 7 false = true := rfl
      have r15 : (#[true, true, true, true, true, true, true, true, true, true, true, true, true, true, true, true, false, false] : Array Bool).getD 15 false = true := rfl
      simp only [r7, r15, if_true] at hT
      clear hI r7 r15 hT1 HT2
      rw [← HST.out.1, ← HST.out.2] at hT
      have HT2 := Aside0.mk hT
      clear hT
      simp only [Facts.acE, Act.put, List.setIfInBounds_toArray, List.set_cons_zero, List.set_cons_succ]
      generalize V 7 = z7 at *
      generalize V 15 = z8 at *
      generalize V 0 = z0
      generalize V 1 = z1
      generalize V 2 = z2
      generalize V 3 = z3
      generalize V 4 = z4
      generalize V 5 = z5
      generalize V 6 = z6
      generalize V 8 = z9
      generalize V 9 = z10
      generalize V 10 = z11
      generalize V 11 = z12
      generalize V 12 = z13
      generalize V 13 = z14
      generalize V 14 = z15
      clear V
      refine Facts.wpAny_eval [(16, some 7), (17, some 8)] _ #[true, true, true, true, true, true, true, true, true, true, true, true, true, true, true, true, true, true] (by kernel_rfl) 0 _ _ (fun w1 w2 => w2 = w1) (DuoFacts z7 z8) (fun _ => rfl) (fun _ _ _ h1 h2 => h2.trans h1) ?stab ?hop ?H (duo u7 u8) (by kernel_rfl)
      case stab =>
        intro i v w1 w2 h _
        match i, h with
        | 0, _ | 1, _ | 2, _ | 3, _ | 4, _ | 5, _ | 6, _ | 7, _ | 8, _ | 9, _ | 10, _ | 11, _ | 12, _ | 13, _ | 14, _ | 15, _ => trivial
        | 16, h => exact h
        | 17, h => exact h
        | _ + 18, _ => trivial
      case hop =>
        intro z hz o ho V W' hR hpre K hK
        simp only [List.mem_cons, List.not_mem_nil, or_false] at hz
        rcases hz with rfl | rfl
        · obtain rfl := Option.some.inj ho
          exact Facts.OpDo.value (by kernel_rfl) rfl (v := z7) (w1 := W') (by kernel_rfl) (hK _ _ rfl rfl)
        · obtain rfl := Option.some.inj ho
          exact Facts.OpDo.value (by kernel_rfl) rfl (v := z8) (w1 := W') (by kernel_rfl) (hK _ _ rfl rfl)
      case H =>
        intro V W' hR hΦ
        obtain rfl : W' = W := hR
        have f16 := hΦ (16, some 7) (by simp)
        have f17 := hΦ (17, some 8) (by simp)
        simp only [DuoFacts] at f16 f17
        simp only [Facts.acE, f16, f17, Act.put, List.setIfInBounds_toArray, List.set_cons_zero, List.set_cons_succ]
        clear hΦ f16 f17 V
        refine Facts.wpAny_done (by kernel_rfl) ?_
        go_wp2_with (fail)
        go_roundg (g2 - 1)
        case measure => omega
        case rel => exact ⟨k + 1, by omega, by omega, by go_num, HT2⟩
  have hke : k = 64 := by omega
  have t1 : decide ((k : Int) < 64) = false := by simp; omega
  have t2 : decide (k < 64) = false := by simp; omega
  have hT := HT2.out
  rw [hke, List.take_of_length_le (by rw [HBL.out]; omega)] at hT
  clear HT2 hke hk64 hk hg
  have hi1 : Md5.Bytes (bl.map (Md5.xb 54)) := Md5.map_xb_bytes 54 (by omega) HBB.out
  have hi2 : Md5.Bytes (bl.map (Md5.xb 92)) := Md5.map_xb_bytes 92 (by omega) HBB.out
  have hl1 : (bl.map (Md5.xb 54)).length = 64 := by rw [List.length_map]; exact HBL.out
  have hl2 : (bl.map (Md5.xb 92)).length = 64 := by rw [List.length_map]; exact HBL.out
  generalize bl.map (Md5.xb 54) = ib at *
  generalize bl.map (Md5.xb 92) = ob at *
  have HI1 := Aside0.mk hi1
  have HI2 := Aside0.mk hi2
  have HL1 := Aside0.mk hl1
  have HL2 := Aside0.mk hl2
  have HT2 := Aside0.mk hT
  have HTW := Aside0.mk (Kd.C_below (Kd.C_below (Kd.C_below (Kd.C_below HT.out (w16_below w)) HA.out) HB.out) hT.1)
  clear hi1 hi2 hl1 hl2 hT HR HBB HBL
  obtain ⟨S1, hS1⟩ : ∃ S1, S1 = Md5.sum (ib ++ text) := ⟨_, rfl⟩
  obtain ⟨S2, hS2⟩ : ∃ S2, S2 = Md5.sum (ob ++ S1) := ⟨_, rfl⟩
  have hlen1 : S1.length = 16 := by rw [hS1]; exact Md5.sum_length _
  have hlen2 : S2.length = 16 := by rw [hS2]; exact Md5.sum_length _
  have hsb : Md5.Bytes S1 := by rw [hS1]; exact Md5.sum_bytes _
  have hkey : Md5.keyed key text = S2 := by rw [HKEY.out, hS2, hS1]
  obtain ⟨oA, hoA⟩ : ∃ oA, (List.map (Value.int .u8) S1).toArray = oA := ⟨_, rfl⟩
  obtain ⟨oB, hoB⟩ : ∃ oB, (List.map (Value.int .u8) S2).toArray = oB := ⟨_, rfl⟩
  have hA' := hoA
  have hB' := hoB
  rw [hS1] at hA'
  rw [hS2] at hB'
  have HOA := Aside0.mk hoA
  have HOB := Aside0.mk hoB
  have HOA' := Aside0.mk hA'
  have HOB' := Aside0.mk hB'
  have HLEN1 := Aside0.mk hlen1
  have HLEN2 := Aside0.mk hlen2
  have HSB := Aside0.mk hsb
  have HKY := Aside0.mk hkey
  clear hS1 hS2 hlen1 hlen2 hsb hkey hoA hoB hA' hB' HKEY
  have HRES : ∀ {x y : World}, Below wl.heap.size wl x → Below x.heap.size x y → y.heap[w.heap.size]? = some (.cells zero16 49 (0, 0)) := by
    intro x y h1 h2
    have h4 := h1.size
    rw [h2.block _ (by omega), h1.block _ (by omega), HB.out.block _ (by omega), HA.out.block _ (by omega)]
    exact heap_alloc_new _ _
  go_wp2_with (first | ((with_reducible refine gate_builtin (b := .append) (xs := #[.tmp 46, .tmp 47]) rfl ?_); at_builtin; refine Kd.R_append_rows (Kd.int .u8) (w0 := wl) wl.heap.size rfl (.tmp 46) (.tmp 47) 22 5 (.int .u8 0) 1 rfl Tryd.underlying22 infoU8 rfl (by decide) (by omega) u7 ib text _ _ _ (fun _ => True) (fun _ => False) rfl rfl HT2.out.2.1 HTW.out (fun _ _ h => h) (fun _ h => h.elim) (fun _ _ => trivial) HT2.out.1 HT2.out.1.size (by rw [HL1.out]; omega) ?_; intro v2 w2 g1 g2 g3 g4; have g5 := HT2.out.grown g1 g2 g3 g4; have H3 := Aside0.mk g5; clear g1 g2 g3 g4 g5; obtain ⟨A7, c7, rfl, hc7, hr7⟩ := Kd.R_reads H3.out.2.1; have HR7 := Aside0.mk hr7; clear hr7) | ((with_reducible refine gate_builtin (b := .append) (xs := #[.tmp 50, .tmp 51]) rfl ?_); at_builtin; refine Kd.R_append_rows (Kd.int .u8) (w0 := wl) wl.heap.size rfl (.tmp 50) (.tmp 51) 22 5 (.int .u8 0) 1 rfl Tryd.underlying22 infoU8 rfl (by decide) (by omega) u8 ob S1 _ _ _ (fun _ => True) (fun _ => False) rfl rfl (Kd.R_alloc (Kd.R_below H3.out.2.2.1 G3.out) _) (CB16 (heap_alloc_new _ _) HOA.out HLEN1.out) (fun _ _ h => h) (fun _ h => h.elim) (fun _ _ => trivial) ((H3.out.1.trans (G3.out.mono H3.out.1.size)).alloc (Nat.le_trans H3.out.1.size G3.out.size) _) (by have h1 := H3.out.1.size; have h2 := G3.out.size; simp; omega) (by rw [HL2.out]; omega) ?_; intro v4 w4 g1 g2 g3 g4; have H4 := Aside0.mk g1; have HB4 := Aside0.mk g2; clear g1 g2 g3 g4; obtain ⟨A8, c8, rfl, hc8, hr8⟩ := Kd.R_reads H4.out; have HR8 := Aside0.mk hr8; clear hr8) | (go_at_call 32; refine (rsum_at A8 c8 _ (ob ++ S1) oB _ (by simp) HOB'.out HR8.out hc8 (HI2.out.append HSB.out) (by rw [List.length_append, HL2.out, HLEN1.out]; omega)).mono ?_; rintro e w5 ⟨rfl, g1⟩; have G5 := Aside0.mk g1; clear g1) | (go_at_call 32; refine (rsum_at A7 c7 _ (ib ++ text) oA _ (by simp) HOA'.out HR7.out hc7 (HI1.out.append HTB.out) (by rw [List.length_append, HL1.out]; omega)).mono ?_; rintro e w3 ⟨rfl, g1⟩; have G3 := Aside0.mk g1; clear g1) | ((with_reducible refine gate_store (p := 4) rfl ?_); refine wpList_store_row rfl 49 _ _ rfl w.heap.size oB rfl rfl 49 zero16 (HRES HB4.out G5.out) (hi16 HOB.out HLEN2.out) (by rw [size16 HOB.out HLEN2.out]; rfl) (one16 HOB.out) ?_) | ((with_reducible refine gate_store (p := 10) rfl ?_); refine wpList_store_row rfl 49 _ _ rfl w3.heap.size oA rfl rfl 49 zero16 (heap_alloc_new _ _) (hi16 HOA.out HLEN1.out) (by rw [size16 HOA.out HLEN1.out]; rfl) (one16 HOA.out) ?_; rw [World.setRow_alloc_new]))
  rw [HKY.out, HOB.out]
  refine bodyPost_ret (v := .agg oB) ?_ rfl ⟨rfl, ?_⟩
  · exact results_cell_row (by rfl) _ _ w.heap.size 49 _ (0, 0) _ rfl (setRow_heap _ _ _ _ _ _ (HRES HB4.out G5.out)) Tryd.underlying49 rfl (hi16 HOB.out HLEN2.out)
  · refine Facts.below_setRow ?_ (Nat.le_refl _) _
    have b0 := HA.out.size
    have b1 := HB.out.size
    have b2 := HB4.out.size
    exact ((((w16_below w).trans (HA.out.mono (by omega))).trans (HB.out.mono (by omega))).trans (HB4.out.mono (by omega))).trans (G5.out.mono (by omega))
end Go.Proofs.YtalignlbbdeeiaaDoor
