/- The walk of the law of exact sums: it answers yes. -/
import Derived.Test.YtalignlbbdeeiaaProg
import Derived.WalkKit
import Derived.WalkLawsBesides
import Derived.Outline
import Derived.LoopTactic
import Derived.Lib.Hide
import Derived.Deep.QuietTactic
import Derived.BigQuiet
import Derived.Deep.LoopGhost
import Derived.Deep.DeepCutAuto
import Derived.Deep.CutBlock
import Derived.Deep.RegionHeld3
import Derived.Deep.RegionWith
import Derived.Deep.WholeRow
import Derived.Laws.Rows
import Derived.Laws.Tables
import Derived.Laws.ResultCell
import Derived.StillTailTactics
import Derived.Deep.DeepMust
import Derived.IntWalk
import Derived.KernelRfl
import Derived.Test.YtalignlbbdeeiaaWWords
import Derived.Test.YtalignlbbdeeiaaWLast
import Derived.Test.YtalignlbbdeeiaaWMore
import Derived.RegionTactic
import Derived.Test.YtalignlbbdeeiaaRKey
namespace Go.Proofs.Ytalignlbbdeeiaa
open Go.RowKit
open Go.Proofs.YtalignlbbdeeiaaW.PrintWords
set_option linter.unusedVariables false
set_option linter.unusedSimpArgs false
theorem sum_o (A : Option Addr) (c n : Nat) (l : List Int) (oA : Array Value) (w : World) (hn : l.length = n) (hS : ((Md5.sum l).map (Value.int .u8)).toArray = oA) (hr : CB w A l) (hc : l.length ≤ c) (hb : Md5.Bytes l) (hl : l.length ≤ 100000) :
    Calls Try.prog 9 #[.slice A n c] w fun e w' => e = .returned (.agg oA) ∧ Below w.heap.size w w' := by
  subst hn hS
  exact sum_any A c l w hr hc hb hl
theorem rkeyed_at (A B : Option Addr) (c d n m : Nat) (key text : List Int) (oA : Array Value) (w : World) (hn : key.length = n) (hm : text.length = m) (ho : ((Md5.keyed key text).map (Value.int .u8)).toArray = oA) (hk : CB w A key) (hkc : key.length ≤ c) (hkb : Md5.Bytes key) (hkl : key.length ≤ 10000) (ht : CB w B text) (htb : Md5.Bytes text) (htl : text.length ≤ 10000) :
    Calls Try.prog 12 #[.slice A n c, .slice B m d] w fun e w' => e = .returned (.agg oA) ∧ Below w.heap.size w w' := by
  subst hn hm ho
  exact rkeyed_any A B c d key text w hk hkc hkb hkl ht htb htl
set_option maxRecDepth 100000 in
set_option maxHeartbeats 1000000 in
theorem exact_any (A B : Option Addr) (c d : Nat) (key text : List Int) (w : World) (hk : CB w A key) (hkc : key.length ≤ c) (hkb : Md5.Bytes key) (ht : CB w B text) (htc : text.length ≤ d) (htb : Md5.Bytes text) :
    Calls Try.prog 3 #[.slice A key.length c, .slice B text.length d] w fun e w' => e = .returned (.bool true) ∧ Below w.heap.size w w' := by
  have HK := Aside0.mk hk
  have HKB := Aside0.mk hkb
  have HT := Aside0.mk ht
  have HTB := Aside0.mk htb
  clear hk hkb ht htb
  go_enter Try.func3, Try.ntmps3
  by_cases hb1 : 300 < key.length
  · have c1 : decide ((300 : Int) < (key.length : Int)) = true := by simp; omega
    have c2 : decide (300 < key.length) = true := by simp; omega
    go_wp2_with (fail)
    go_ret
    exact ⟨rfl, Below.refl _ _⟩
  have c1 : decide ((300 : Int) < (key.length : Int)) = false := by simp; omega
  have c2 : decide (300 < key.length) = false := by simp; omega
  by_cases hb2 : 600 < text.length
  · have c3 : decide ((600 : Int) < (text.length : Int)) = true := by simp; omega
    have c4 : decide (600 < text.length) = true := by simp; omega
    go_wp2_with (fail)
    go_ret
    exact ⟨rfl, Below.refl _ _⟩
  have c3 : decide ((600 : Int) < (text.length : Int)) = false := by simp; omega
  have c4 : decide (600 < text.length) = false := by simp; omega
  go_upto_region 3 with (fail)
  clear c1 c2 c3 c4
  go_cut [5, 6] (fun v5 v6 wc => ∃ (A5 A6 : Option Addr) (c5 c6 : Nat), v5 = .slice A5 key.length c5 ∧ v6 = .slice A6 text.length c6 ∧ key.length ≤ c5 ∧ text.length ≤ c6 ∧ Aside0 (CB wc A5 key) ∧ Aside0 (CB wc A6 text) ∧ Aside0 (Below w.heap.size w wc))
  case first =>
    go_wp2_with (first | (go_at_call 8; refine (twin_any A c key w HK.out (by omega)).mono ?_; rintro e w1 ⟨v, rfl, h1, h2⟩; obtain ⟨A5, c5, rfl, hc5, hr5⟩ := Kd.R_reads h1; have H1 := Aside0.mk hr5; have H2 := Aside0.mk h2; clear h1 h2 hr5) | (go_at_call 8; refine (twin_any B d text w1 (Kd.C_below HT.out H2.out) (by omega)).mono ?_; rintro e w2 ⟨v, rfl, h1, h2⟩; obtain ⟨A6, c6, rfl, hc6, hr6⟩ := Kd.R_reads h1; have H3 := Aside0.mk hr6; have H4 := Aside0.mk h2; clear h1 h2 hr6))
    go_meet
    case rel => exact ⟨A5, A6, c5, c6, rfl, rfl, hc5, hc6, ⟨Kd.C_below H1.out H4.out⟩, H3, ⟨H2.out.trans (H4.out.mono H2.out.size)⟩⟩
  case rest =>
  obtain ⟨A5, A6, c5, c6, rfl, rfl, hc5, hc6, H5, H6, HA⟩ := hcut
  obtain ⟨wo, rfl⟩ : ∃ wz : World, wz = wc := ⟨_, rfl⟩
  obtain ⟨oS, hoS⟩ : ∃ oS, ((Md5.sum text).map (Value.int .u8)).toArray = oS := ⟨_, rfl⟩
  obtain ⟨oK, hoK⟩ : ∃ oK, ((Md5.keyed key text).map (Value.int .u8)).toArray = oK := ⟨_, rfl⟩
  have heq1 := same16 _ oS hoS (Md5.sum_length _)
  have heq2 := same16 _ oK hoK (Md5.sum_length _)
  have HOS := Aside0.mk hoS
  have HOK := Aside0.mk hoK
  clear hoS hoK
  have BY1 : ∀ W, Below wo.heap.size wo W → Calls Try.prog 13 #[.slice A5 key.length c5, .slice A key.length c] W fun e w' => e = .returned (.bool true) ∧ Below wo.heap.size wo w' := fun W hW => by
    refine (bytes_same A5 A c5 c key W (Kd.C_below H5.out hW) (Kd.C_below (Kd.C_below HK.out HA.out) hW) (by omega)).mono ?_
    rintro e w' ⟨rfl, n, rfl⟩
    exact ⟨rfl, pw_below_drewN hW n⟩
  have BY2 : ∀ W, Below wo.heap.size wo W → Calls Try.prog 13 #[.slice A6 text.length c6, .slice B text.length d] W fun e w' => e = .returned (.bool true) ∧ Below wo.heap.size wo w' := fun W hW => by
    refine (bytes_same A6 B c6 d text W (Kd.C_below H6.out hW) (Kd.C_below (Kd.C_below HT.out HA.out) hW) (by omega)).mono ?_
    rintro e w' ⟨rfl, n, rfl⟩
    exact ⟨rfl, pw_below_drewN hW n⟩
  go_upto_region 4 with (fail)
  go_wp2_with (first | (go_at_call 9; refine (sum_o A6 c6 _ text oS wo rfl HOS.out H6.out hc6 HTB.out (by omega)).mono ?_; rintro e w3 ⟨rfl, g⟩; have B3 := Aside0.mk g; clear g) | (go_at_call 10; refine (rsum_at B d _ text oS w3 rfl HOS.out (Kd.C_below (Kd.C_below HT.out HA.out) B3.out) htc HTB.out (by omega)).mono ?_; rintro e w4 ⟨rfl, g⟩; have B4 := Aside0.mk (B3.out.trans (g.mono B3.out.size)); clear g) | (go_at_call 11; refine (keyed_at A5 A6 c5 c6 _ _ key text oK w4 rfl rfl HOK.out (Kd.C_below H5.out B4.out) hc5 HKB.out (by omega) (Kd.C_below H6.out B4.out) HTB.out (by omega)).mono ?_; rintro e w5 ⟨rfl, g⟩; have B5 := Aside0.mk (B4.out.trans (g.mono B4.out.size)); clear g) | (go_at_call 12; refine (rkeyed_at A B c d _ _ key text oK w5 rfl rfl HOK.out (Kd.C_below (Kd.C_below HK.out HA.out) B5.out) hkc HKB.out (by omega) (Kd.C_below (Kd.C_below HT.out HA.out) B5.out) HTB.out (by omega)).mono ?_; rintro e w6 ⟨rfl, g⟩; have B6 := Aside0.mk (B5.out.trans (g.mono B5.out.size)); clear g) | (go_at_call 13; with_reducible refine Calls.mono (BY1 w6 B6.out) ?_; rintro e w7 ⟨rfl, g⟩; have B7 := Aside0.mk g; clear g) | (go_at_call 13; with_reducible refine Calls.mono (BY2 w7 B7.out) ?_; rintro e w8 ⟨rfl, g⟩; have B8 := Aside0.mk g; clear g) | (go_at_call 14; refine (wakes_any w8).mono ?_; rintro e w9 ⟨rfl, g⟩; have B9 := Aside0.mk (B8.out.trans (g.mono B8.out.size)); clear g))
  go_ret
  exact ⟨rfl, HA.out.trans (B9.out.mono HA.out.size)⟩
end Go.Proofs.Ytalignlbbdeeiaa
