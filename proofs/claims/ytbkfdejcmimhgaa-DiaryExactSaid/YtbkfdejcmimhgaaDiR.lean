/- The room of records, in plain Lean. -/
import Derived.Test.YtbkfdejcmimhgaaDiC
import Derived.Test.YtbkfdejcmimhgaaVb
namespace Go.Proofs.Ytbkfdejcmimhgaa
open Go.RowKit Go.Proofs.YtbkfdejcmimhgaaW.PrintWords Go.Proofs.Ytbkfdejcmimhgaa.PDiaryExact
set_option linter.unusedVariables false
set_option linter.unusedSimpArgs false
def room (x : S39) : Int := 24 + x.f7.length + x.f1.f2.length + x.f1.f4.size + 80 * (1 + x.f1.f1.length) + 8 * x.f3.length
def roomsOf : List S39 → Int
  | [] => 0
  | x :: r => room x + roomsOf r
theorem wr_id (y : Int) (h0 : 0 ≤ y) (h1 : y ≤ 1000000000000000) : wrap64 y = y := by unfold wrap64; omega
set_option maxRecDepth 100000 in
theorem room_f (x : S39) (hL : Lite x) (hh : x.f1.f4.size ≤ 1000000) : diary_Room.f x.f0 x.f1.f0.f0 x.f1.f0.f1 x.f1.f0.f2 x.f1.f1 x.f1.f2 x.f1.f3 x.f1.f4 x.f1.f5 x.f2 x.f3 x.f4 x.f5 x.f6 x.f7 = some (room x) := by
  obtain ⟨h1, h2, h3, h4⟩ := hL
  unfold diary_Room.f room
  rw [wr_id (24 + (x.f7.length : Int)) (by omega) (by omega), wr_id (24 + (x.f7.length : Int) + (x.f1.f2.length : Int)) (by omega) (by omega), wr_id (24 + (x.f7.length : Int) + (x.f1.f2.length : Int) + (x.f1.f4.size : Int)) (by omega) (by omega), wr_id (1 + (x.f1.f1.length : Int)) (by omega) (by omega), wr_id (80 * (1 + (x.f1.f1.length : Int))) (by omega) (by omega), wr_id (24 + (x.f7.length : Int) + (x.f1.f2.length : Int) + (x.f1.f4.size : Int) + 80 * (1 + (x.f1.f1.length : Int))) (by omega) (by omega), wr_id (8 * (x.f3.length : Int)) (by omega) (by omega), wr_id _ (by omega) (by omega)]
theorem room_pos (x : S39) : 104 ≤ room x := by unfold room; omega
theorem room_le (x : S39) (hL : Lite x) (hh : x.f1.f4.size ≤ 1000000) : room x ≤ 100000000 := by
  obtain ⟨h1, h2, h3, h4⟩ := hL
  unfold room
  omega
theorem roomsOf_append (l k : List S39) : roomsOf (l ++ k) = roomsOf l + roomsOf k := by
  induction l with
  | nil => simp [roomsOf]
  | cons x l ih => simp only [List.cons_append, roomsOf, ih]; omega
theorem roomsOf_nonneg (l : List S39) : 0 ≤ roomsOf l := by
  induction l with
  | nil => simp [roomsOf]
  | cons x l ih => have := room_pos x; simp only [roomsOf]; omega
/-- Records that are played: their lengths, their greetings. -/
def Fine (l : List S39) : Prop := ∀ x ∈ l, Lite x ∧ x.f1.f4.size ≤ 1000000
theorem Fine.lites {l : List S39} (h : Fine l) : Lites l := fun x hx => (h x hx).1
set_option maxRecDepth 100000 in
theorem rooms_l0 (l : List S39) (hF : Fine l) (hl : l.length ≤ 1000000) : ∀ (m i k : Nat) (acc : Int), m = l.length - i → i ≤ l.length → m < k → 0 ≤ acc → acc ≤ (i : Int) * 100000000 → diary_rooms.l0 k acc l l.length i = some (acc + roomsOf (l.drop i)) := by
  intro m
  induction m with
  | zero =>
    intro i k acc hm hi hk h0 h1
    obtain ⟨k, rfl⟩ : ∃ j, k = j + 1 := ⟨k - 1, by omega⟩
    have hil : i = l.length := by omega
    simp only [diary_rooms.l0]
    rw [if_neg (by omega), List.drop_eq_nil_of_le (by omega)]
    simp [roomsOf]
  | succ m ihm =>
    intro i k acc hm hi hk h0 h1
    obtain ⟨k, rfl⟩ : ∃ j, k = j + 1 := ⟨k - 1, by omega⟩
    have hil : i < l.length := by omega
    simp only [diary_rooms.l0]
    rw [if_pos (by omega), if_pos (by omega), if_pos (by omega)]
    have ex : rd_T39 l i = l.getD i z39 := rfl
    have hx : l.getD i z39 ∈ l := by simp [List.getD_eq_getElem?_getD, hil]
    have hfx := hF _ hx
    have hr := room_le _ hfx.1 hfx.2
    have hp := room_pos (l.getD i z39)
    rw [ex, room_f _ hfx.1 hfx.2]
    have e1 : wrap64 (acc + room (l.getD i z39)) = acc + room (l.getD i z39) := wr_id _ (by omega) (by omega)
    have e2 : wrap64 ((i : Int) + 1) = ((i + 1 : Nat) : Int) := by rw [wr_id _ (by omega) (by omega)]; rfl
    have ih := ihm (i + 1) k (acc + room (l.getD i z39)) (by omega) (by omega) (by omega) (by omega) (by push_cast; omega)
    have hd : l.drop i = l.getD i z39 :: l.drop (i + 1) := by
      rw [List.drop_eq_getElem_cons hil]; simp [List.getD_eq_getElem?_getD, hil]
    simp only [Option.bind_some]
    rw [e1, e2, ih, hd]
    simp only [roomsOf]
    congr 1
    omega
theorem rooms_f (l : List S39) (hF : Fine l) (hl : l.length ≤ 1000000) : diary_rooms.f (l.length + 1) l = some (roomsOf l) := by
  have h := rooms_l0 l hF hl l.length 0 (l.length + 1) 0 (by omega) (by omega) (by omega) (by omega) (by omega)
  unfold diary_rooms.f
  have e : ((0 : Nat) : Int) = 0 := rfl
  rw [e] at h
  rw [h]
  simp
end Go.Proofs.Ytbkfdejcmimhgaa
