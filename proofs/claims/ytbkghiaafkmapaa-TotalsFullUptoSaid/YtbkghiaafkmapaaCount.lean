/- Walks of package count and of the reference's sums: each answers what the plain functions below say. No condition but that the slice reads as numbers. -/
import Derived.Test.YtbkghiaafkmapaaBase
import Derived.Outline
namespace Go.Proofs.Ytbkghiaafkmapaa
open Go.ChangeShapes Go.WideShapes Go.ChangeAt Go.RowKit

def oddB (n : Int) : Bool := decide (n < 0) || decide (1099511627776 < n)

theorem odd_any (n : Int) (w : World) : Calls Try.prog 53 #[.int .i64 n] w fun e w' => e = .returned (.bool (oddB n)) ∧ w = w' := by
  by_cases h : n < 0
  · go_enter Try.func53, Try.ntmps53
    go_wp2
    go_ret
    exact ⟨by simp [oddB, h], rfl⟩
  · have h2 : decide (n < 0) = false := by simpa using h
    go_enter Try.func53, Try.ntmps53
    go_wp2
    go_ret
    exact ⟨by simp [oddB, h2], rfl⟩

/-- the place of the first odd one, from k on -/
def oddAt : List Int → Nat → Int
  | [], _ => -1
  | x :: l, k => if oddB x then (k : Int) else oddAt l (k + 1)

theorem oddAt_drop (zs : List Int) (k : Nat) (h : k < zs.length) : oddAt (zs.drop k) k = if oddB (zs.getD k 0) then (k : Int) else oddAt (zs.drop (k + 1)) (k + 1) := by
  rw [List.drop_eq_getElem_cons h, oddAt]; simp [List.getD, h]

set_option maxHeartbeats 400000 in
theorem index_any (a : Option Addr) (c : Nat) (zs : List Int) (w : World) (h : IsInts w a zs) :
    Calls Try.prog 72 #[.slice a zs.length c, .func (.func 53) #[] #[]] w fun e w' => e = .returned (.int .i64 (oddAt zs 0)) ∧ w = w' := by
  have hm := h.len
  go_enter Try.func72, Try.ntmps72
  go_wp2
  go_loop [5, 8] (fun _ i => ∃ k : Nat, k ≤ zs.length ∧ i = .int .i64 k ∧ oddAt zs 0 = oddAt (zs.drop k) k) (fun _ i => zs.length - (intOf i).toNat)
  case atStart => exact ⟨0, Nat.zero_le _, rfl, by simp⟩
  case round =>
    obtain ⟨k, hk, rfl, hd⟩ := hrel
    have HD := Lib.hid hd
    clear hd
    by_cases hlt : k < zs.length
    · obtain ⟨b, off, rfl, hb, hc⟩ := h.at' k hlt
      go_wp2_with (go_at_call 53; refine (odd_any _ _).mono ?_; rintro e w' ⟨rfl, rfl⟩)
      · rename_i ho
        go_ret
        exact ⟨ret_int (by rw [HD.out, oddAt_drop zs k hlt, if_pos (by simpa [List.getD, hlt] using ho)]), rfl⟩
      · rename_i ho
        go_round
        case rel => exact ⟨k + 1, by omega, by go_num, by rw [HD.out, oddAt_drop zs k hlt, if_neg (by simpa [List.getD, hlt] using ho)]⟩
        case measure => simp [intOf]; omega
    · go_wp2
      go_ret
      have hz : oddAt (zs.drop k) k = -1 := by rw [List.drop_of_length_le (by omega)]; rfl
      exact ⟨ret_int (by rw [HD.out, hz]), rfl⟩

/-- are all amounts? -/
def amounts (zs : List Int) : Bool := zs.all fun n => !oddB n

theorem oddAt_neg (zs : List Int) (k : Nat) : (decide (0 ≤ oddAt zs k)) = !amounts zs := by
  induction zs generalizing k with
  | nil => simp [oddAt, amounts]
  | cons x l ih =>
    by_cases hx : oddB x
    · simp [oddAt, amounts, hx]
    · have := ih (k + 1)
      have hx' : oddB x = false := by simpa using hx
      simp only [oddAt, amounts, List.all_cons, hx'] at *
      simpa using this

theorem contains_any (a : Option Addr) (c : Nat) (zs : List Int) (w : World) (h : IsInts w a zs) :
    Calls Try.prog 52 #[.slice a zs.length c, .func (.func 53) #[] #[]] w fun e w' => e = .returned (.bool (!amounts zs)) ∧ w = w' := by
  go_enter Try.func52, Try.ntmps52
  go_wp2_with (go_at_call 72; refine (index_any _ _ _ _ h).mono ?_; rintro e w' ⟨rfl, rfl⟩)
  go_ret
  exact ⟨ret_bool (oddAt_neg zs 0), rfl⟩

theorem check_any (a : Option Addr) (c : Nat) (zs : List Int) (w : World) (h : IsInts w a zs) :
    Calls Try.prog 18 #[.slice a zs.length c] w fun e w' => e = .returned (.int .i64 (if amounts zs then 0 else 4)) ∧ w = w' := by
  by_cases ha : amounts zs = true
  all_goals
    go_enter Try.func18, Try.ntmps18
    go_wp2_with (go_at_call 52; refine (contains_any _ _ _ _ h).mono ?_; rintro e w' ⟨rfl, rfl⟩)
    go_ret
    exact ⟨ret_int (by simp), rfl⟩

/-- the sum's way: error 15 as soon as it is above 2^40 -/
def sumUp : List Int → Int → Option Int
  | [], s => some s
  | x :: l, s => if 1099511627776 - x < s then none else sumUp l (s + x)

def addN (zs : List Int) : Int := if amounts zs then (sumUp zs 0).getD 0 else 0
def addE (zs : List Int) : Int := if amounts zs then (if (sumUp zs 0).isSome then 0 else 15) else 4

theorem amounts_at {zs : List Int} (h : amounts zs = true) (k : Nat) (hk : k < zs.length) : 0 ≤ zs.getD k 0 ∧ zs.getD k 0 ≤ 1099511627776 := by
  have := List.all_eq_true.1 h (zs.getD k 0) (by simp [List.getD, hk])
  generalize zs.getD k 0 = z at *
  simp [oddB] at this
  omega

theorem add_none {zs : List Int} (ha : amounts zs = true) (h : sumUp zs 0 = none) : addN zs = 0 ∧ addE zs = 15 := by simp [addN, addE, ha, h]
theorem add_some {zs : List Int} {t : Int} (ha : amounts zs = true) (h : sumUp zs 0 = some t) : addN zs = t ∧ addE zs = 0 := by simp [addN, addE, ha, h]
theorem ret_add {zs : List Int} {t e : Int} (h : addN zs = t ∧ addE zs = e) : Ending.returned (.tuple #[.int .i64 t, .int .i64 e]) = .returned (.tuple #[.int .i64 (addN zs), .int .i64 (addE zs)]) := by rw [h.1, h.2]

theorem sumUp_drop (zs : List Int) (k : Nat) (s : Int) (h : k < zs.length) : sumUp (zs.drop k) s = if 1099511627776 - zs.getD k 0 < s then none else sumUp (zs.drop (k + 1)) (s + zs.getD k 0) := by
  rw [List.drop_eq_getElem_cons h, sumUp]; simp [List.getD, h]

set_option maxHeartbeats 400000 in
theorem add_any (a : Option Addr) (c : Nat) (zs : List Int) (w : World) (h : IsInts w a zs) :
    Calls Try.prog 15 #[.slice a zs.length c] w fun e w' => e = .returned (.tuple #[.int .i64 (addN zs), .int .i64 (addE zs)]) ∧ w = w' := by
  have hm := h.len
  by_cases ha : amounts zs = true
  case neg =>
    have hf : addN zs = 0 ∧ addE zs = 4 := by simp [addN, addE, ha]
    have HF := Lib.hid hf
    clear hf
    go_enter Try.func15, Try.ntmps15
    go_wp2_with (go_at_call 18; refine (check_any _ _ _ _ h).mono ?_; rintro e w' ⟨rfl, rfl⟩; rw [if_neg ha])
    go_ret2
    exact ⟨ret_add HF.out, rfl⟩
  have hat := amounts_at ha
  have HAT := Lib.hid hat
  clear hat
  go_enter Try.func15, Try.ntmps15
  go_wp2_with (go_at_call 18; refine (check_any _ _ _ _ h).mono ?_; rintro e w' ⟨rfl, rfl⟩; rw [if_pos ha])
  go_loop [2, 3, 5, 7, 15] (fun _ _ s _ i => ∃ (k : Nat) (t : Int), k ≤ zs.length ∧ i = .int .i64 k ∧ s = .int .i64 t ∧ 0 ≤ t ∧ t ≤ 1099511627776 ∧ sumUp zs 0 = sumUp (zs.drop k) t) (fun _ _ _ _ i => zs.length - (intOf i).toNat)
  case atStart => exact ⟨0, 0, Nat.zero_le _, rfl, rfl, by omega, by omega, by simp⟩
  case round =>
    obtain ⟨k, t, hk, rfl, rfl, ht0, ht1, hd⟩ := hrel
    have HD := Lib.hid hd
    clear hd
    by_cases hlt : k < zs.length
    · obtain ⟨b, off, rfl, hb, hc⟩ := h.at' k hlt
      obtain ⟨hz0, hz1⟩ := HAT.out k hlt
      have hsu := Lib.hid (sumUp_drop zs k t hlt)
      generalize zs.getD k 0 = z at *
      go_wp2
      · have ho : 1099511627776 - z < t := by assumption
        go_ret2
        exact ⟨ret_add (add_none ha (by rw [HD.out, hsu.out, if_pos ho])), rfl⟩
      · go_round
        case rel => exact ⟨k + 1, t + z, by omega, by go_num, rfl, by omega, by omega, by rw [HD.out, hsu.out, if_neg (by omega)]⟩
        case measure => simp [intOf]; omega
    · have hn : sumUp zs 0 = some t := by rw [HD.out, List.drop_of_length_le (by omega)]; rfl
      have HN := Lib.hid hn
      clear hn
      go_wp2
      go_ret2
      exact ⟨ret_add (add_some ha HN.out), rfl⟩

/-- the reference's way -/
def refUp : List Int → Int → Option Int
  | [], s => some s
  | x :: l, s => if 1099511627776 < s + x then none else refUp l (s + x)

theorem refUp_eq (zs : List Int) (s : Int) : refUp zs s = sumUp zs s := by
  induction zs generalizing s with
  | nil => rfl
  | cons x l ih => simp only [refUp, sumUp, ih]; congr 1; simp; omega

theorem refUp_drop (zs : List Int) (k : Nat) (s : Int) (h : k < zs.length) : refUp (zs.drop k) s = if 1099511627776 < s + zs.getD k 0 then none else refUp (zs.drop (k + 1)) (s + zs.getD k 0) := by
  rw [List.drop_eq_getElem_cons h, refUp]; simp [List.getD, h]

theorem amounts_drop (zs : List Int) (k : Nat) (h : k < zs.length) : amounts (zs.drop k) = (!oddB (zs.getD k 0) && amounts (zs.drop (k + 1))) := by
  rw [List.drop_eq_getElem_cons h]; simp only [amounts, List.all_cons]; simp [List.getD, h]

set_option maxHeartbeats 400000 in
theorem amounts_any (a : Option Addr) (c : Nat) (zs : List Int) (w : World) (h : IsInts w a zs) :
    Calls Try.prog 19 #[.slice a zs.length c] w fun e w' => e = .returned (.bool (amounts zs)) ∧ w = w' := by
  have hm := h.len
  go_enter Try.func19, Try.ntmps19
  go_wp2
  go_loop [2, 3] (fun _ i => ∃ k : Nat, k ≤ zs.length ∧ i = .int .i64 k ∧ amounts zs = amounts (zs.drop k)) (fun _ i => zs.length - (intOf i).toNat)
  case atStart => exact ⟨0, Nat.zero_le _, rfl, by simp⟩
  case round =>
    obtain ⟨k, hk, rfl, hd⟩ := hrel
    have HD := Lib.hid hd
    clear hd
    by_cases hlt : k < zs.length
    · obtain ⟨b, off, rfl, hb, hc⟩ := h.at' k hlt
      have hsu := Lib.hid (amounts_drop zs k hlt)
      generalize zs.getD k 0 = z at *
      by_cases h0 : z < 0
      · have hd0 : decide (z < 0) = true := by simpa using h0
        go_wp2
        go_ret
        exact ⟨ret_bool (by rw [HD.out, hsu.out]; simp [oddB, h0]), rfl⟩
      · have hd0 : decide (z < 0) = false := by simpa using h0
        by_cases h1 : 1099511627776 < z
        · go_wp2
          go_ret
          exact ⟨ret_bool (by rw [HD.out, hsu.out]; simp [oddB, h1]), rfl⟩
        · go_wp2
          go_round
          case rel => exact ⟨k + 1, by omega, by go_num, by rw [HD.out, hsu.out]; simp [oddB, hd0, h1]⟩
          case measure => simp [intOf]; omega
    · have hn : amounts zs = true := by rw [HD.out, List.drop_of_length_le (by omega)]; rfl
      have HN := Lib.hid hn
      clear hn
      go_wp2
      go_ret
      exact ⟨ret_bool HN.out.symm, rfl⟩

set_option maxHeartbeats 400000 in
theorem refAdd_any (a : Option Addr) (c : Nat) (zs : List Int) (w : World) (h : IsInts w a zs) :
    Calls Try.prog 16 #[.slice a zs.length c] w fun e w' => e = .returned (.tuple #[.int .i64 (addN zs), .int .i64 (addE zs)]) ∧ w = w' := by
  have hm := h.len
  by_cases ha : amounts zs = true
  case neg =>
    have hf : addN zs = 0 ∧ addE zs = 4 := by simp [addN, addE, ha]
    have ha' : amounts zs = false := by simpa using ha
    have HF := Lib.hid hf
    clear hf
    go_enter Try.func16, Try.ntmps16
    go_wp2_with (go_at_call 19; refine (amounts_any _ _ _ _ h).mono ?_; rintro e w' ⟨rfl, rfl⟩; rw [ha'])
    go_ret2
    exact ⟨ret_add HF.out, rfl⟩
  have hat := amounts_at ha
  have HAT := Lib.hid hat
  clear hat
  go_enter Try.func16, Try.ntmps16
  go_wp2_with (go_at_call 19; refine (amounts_any _ _ _ _ h).mono ?_; rintro e w' ⟨rfl, rfl⟩; rw [ha])
  go_loop [2, 3, 4, 5] (fun _ _ s i => ∃ (k : Nat) (t : Int), k ≤ zs.length ∧ i = .int .i64 k ∧ s = .int .i64 t ∧ 0 ≤ t ∧ t ≤ 1099511627776 ∧ refUp zs 0 = refUp (zs.drop k) t) (fun _ _ _ i => zs.length - (intOf i).toNat)
  case atStart => exact ⟨0, 0, Nat.zero_le _, rfl, rfl, by omega, by omega, by simp⟩
  case round =>
    obtain ⟨k, t, hk, rfl, rfl, ht0, ht1, hd⟩ := hrel
    have HD := Lib.hid hd
    clear hd
    by_cases hlt : k < zs.length
    · obtain ⟨b, off, rfl, hb, hc⟩ := h.at' k hlt
      obtain ⟨hz0, hz1⟩ := HAT.out k hlt
      have hsu := Lib.hid (refUp_drop zs k t hlt)
      generalize zs.getD k 0 = z at *
      go_wp2
      · have ho : 1099511627776 < t + z := by assumption
        go_ret2
        exact ⟨ret_add (add_none ha (by rw [← refUp_eq, HD.out, hsu.out, if_pos ho])), rfl⟩
      · go_round
        case rel => exact ⟨k + 1, t + z, by omega, by go_num, rfl, by omega, by omega, by rw [HD.out, hsu.out, if_neg (by omega)]⟩
        case measure => simp [intOf]; omega
    · have hn : sumUp zs 0 = some t := by rw [← refUp_eq, HD.out, List.drop_of_length_le (by omega)]; rfl
      have HN := Lib.hid hn
      clear hn
      go_wp2
      go_ret2
      exact ⟨ret_add (add_some ha HN.out), rfl⟩

end Go.Proofs.Ytbkghiaafkmapaa
