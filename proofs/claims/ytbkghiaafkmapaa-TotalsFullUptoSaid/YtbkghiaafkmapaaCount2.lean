/- Walks of count.Sub, Mul, Least and of the small functions of the laws. No condition but that ints are in int's range. -/
import Derived.Test.YtbkghiaafkmapaaCount
namespace Go.Proofs.Ytbkghiaafkmapaa
open Go.ChangeShapes Go.WideShapes Go.ChangeAt Go.RowKit

theorem num02_any (n : Int) (w : World) : Calls Try.prog 17 #[.int .i64 n] w fun e w' => e = .returned (.int .i64 n) ∧ w = w' := by
  go_enter Try.func17, Try.ntmps17
  go_wp2
  go_ret
  exact ⟨rfl, rfl⟩
theorem num24_any (n : Int) (w : World) : Calls Try.prog 45 #[.int .i64 n] w fun e w' => e = .returned (.int .i64 n) ∧ w = w' := by
  go_enter Try.func45, Try.ntmps45
  go_wp2
  go_ret
  exact ⟨rfl, rfl⟩

theorem isInts_two (w : World) (a b : Int) (ha : InR a) (hb : InR b) : IsInts (w.alloc (.cells #[.int .i64 a, .int .i64 b] 3)) (some ⟨w.heap.size, 0, none⟩) [a, b] := by
  refine ⟨by simp, fun i hi => ⟨w.heap.size, 0, rfl, by simp, ?_⟩, fun i hi => ?_⟩
  · match i, hi with
    | 0, _ => go_simp
    | 1, _ => go_simp
  · match i, hi with
    | 0, _ => exact ha
    | 1, _ => exact hb

theorem amounts_two (a b : Int) : amounts [a, b] = true ↔ (0 ≤ a ∧ a ≤ 1099511627776 ∧ 0 ≤ b ∧ b ≤ 1099511627776) := by
  simp [amounts, oddB]; omega

def subV (a b : Int) : Int := if amounts [a, b] then (if a < b then 0 else a - b) else 0
def subE (a b : Int) : Int := if amounts [a, b] then (if a < b then 16 else 0) else 4

set_option maxHeartbeats 400000 in
theorem sub_any (a b : Int) (w : World) (ha : InR a) (hb : InR b) :
    Calls Try.prog 21 #[.int .i64 a, .int .i64 b] w fun e w' => e = .returned (.tuple #[.int .i64 (subV a b), .int .i64 (subE a b)]) ∧ Below w.heap.size w w' := by
  have hi := isInts_two w a b ha hb
  by_cases hm : amounts [a, b] = true
  · obtain ⟨h0, h1, h2, h3⟩ := (amounts_two a b).1 hm
    by_cases hlt : a < b
    · have HF := Lib.hid (show subV a b = 0 ∧ subE a b = 16 by simp [subV, subE, hm, hlt])
      go_enter Try.func21, Try.ntmps21
      go_wp2_with (go_at_call 18; refine (check_any _ _ _ _ hi).mono ?_; rintro e w' ⟨rfl, rfl⟩; rw [if_pos hm])
      go_ret2
      exact ⟨ret_int2 HF.out.1.symm HF.out.2.symm, (Below.refl _ _).alloc (Nat.le_refl _) _⟩
    · have HF := Lib.hid (show subV a b = a - b ∧ subE a b = 0 by simp [subV, subE, hm, hlt])
      go_enter Try.func21, Try.ntmps21
      go_wp2_with (go_at_call 18; refine (check_any _ _ _ _ hi).mono ?_; rintro e w' ⟨rfl, rfl⟩; rw [if_pos hm])
      go_ret2
      exact ⟨ret_int2 HF.out.1.symm HF.out.2.symm, (Below.refl _ _).alloc (Nat.le_refl _) _⟩
  · have HF := Lib.hid (show subV a b = 0 ∧ subE a b = 4 by simp [subV, subE, hm])
    go_enter Try.func21, Try.ntmps21
    go_wp2_with (go_at_call 18; refine (check_any _ _ _ _ hi).mono ?_; rintro e w' ⟨rfl, rfl⟩; rw [if_neg hm])
    go_ret2
    exact ⟨ret_int2 HF.out.1.symm HF.out.2.symm, (Below.refl _ _).alloc (Nat.le_refl _) _⟩

def mulV (a b : Int) : Int := if amounts [a, b] then (if 0 < b ∧ 1099511627776 / b < a then 0 else a * b) else 0
def mulE (a b : Int) : Int := if amounts [a, b] then (if 0 < b ∧ 1099511627776 / b < a then 15 else 0) else 4

theorem mul_le {a b : Int} (ha : 0 ≤ a) (hb : 0 < b) (h : ¬ 1099511627776 / b < a) : 0 ≤ a * b ∧ a * b ≤ 1099511627776 := by
  refine ⟨Int.mul_nonneg ha (by omega), ?_⟩
  have h1 : a * b ≤ (1099511627776 / b) * b := Int.mul_le_mul_of_nonneg_right (by omega) (by omega)
  have h2 := Int.ediv_mul_le 1099511627776 (show b ≠ 0 by omega)
  omega

set_option maxHeartbeats 400000 in
theorem mul_any (a b : Int) (w : World) (ha : InR a) (hb : InR b) :
    Calls Try.prog 27 #[.int .i64 a, .int .i64 b] w fun e w' => e = .returned (.tuple #[.int .i64 (mulV a b), .int .i64 (mulE a b)]) ∧ Below w.heap.size w w' := by
  have hi := isInts_two w a b ha hb
  by_cases hm : amounts [a, b] = true
  · obtain ⟨h0, h1, h2, h3⟩ := (amounts_two a b).1 hm
    by_cases hb0 : 0 < b
    · have hd0 : decide (0 < b) = true := by simpa using hb0
      by_cases hlt : 1099511627776 / b < a
      · have HF := Lib.hid (show mulV a b = 0 ∧ mulE a b = 15 by simp [mulV, mulE, hm, hlt, hb0])
        go_enter Try.func27, Try.ntmps27
        go_wp2_with (go_at_call 18; refine (check_any _ _ _ _ hi).mono ?_; rintro e w' ⟨rfl, rfl⟩; rw [if_pos hm])
        go_ret2
        exact ⟨ret_int2 HF.out.1.symm HF.out.2.symm, (Below.refl _ _).alloc (Nat.le_refl _) _⟩
      · have HF := Lib.hid (show mulV a b = a * b ∧ mulE a b = 0 by simp [mulV, mulE, hm, hlt])
        obtain ⟨hp0, hp1⟩ := mul_le h0 hb0 hlt
        go_enter Try.func27, Try.ntmps27
        go_wp2_with (go_at_call 18; refine (check_any _ _ _ _ hi).mono ?_; rintro e w' ⟨rfl, rfl⟩; rw [if_pos hm])
        go_ret2
        exact ⟨ret_int2 HF.out.1.symm HF.out.2.symm, (Below.refl _ _).alloc (Nat.le_refl _) _⟩
    · have hd0 : decide (0 < b) = false := by simpa using hb0
      obtain rfl : b = 0 := by omega
      have HF := Lib.hid (show mulV a 0 = 0 ∧ mulE a 0 = 0 by simp [mulV, mulE, hm])
      go_enter Try.func27, Try.ntmps27
      go_wp2_with (go_at_call 18; refine (check_any _ _ _ _ hi).mono ?_; rintro e w' ⟨rfl, rfl⟩; rw [if_pos hm])
      go_ret2
      exact ⟨ret_int2 HF.out.1.symm HF.out.2.symm, (Below.refl _ _).alloc (Nat.le_refl _) _⟩
  · have HF := Lib.hid (show mulV a b = 0 ∧ mulE a b = 4 by simp [mulV, mulE, hm])
    go_enter Try.func27, Try.ntmps27
    go_wp2_with (go_at_call 18; refine (check_any _ _ _ _ hi).mono ?_; rintro e w' ⟨rfl, rfl⟩; rw [if_neg hm])
    go_ret2
    exact ⟨ret_int2 HF.out.1.symm HF.out.2.symm, (Below.refl _ _).alloc (Nat.le_refl _) _⟩

/-- the least one, from m on -/
def leastFrom : List Int → Int → Int
  | [], m => m
  | x :: l, m => leastFrom l (min m x)

theorem leastFrom_drop (zs : List Int) (k : Nat) (m : Int) (h : k < zs.length) : leastFrom (zs.drop k) m = leastFrom (zs.drop (k + 1)) (min m (zs.getD k 0)) := by
  rw [List.drop_eq_getElem_cons h, leastFrom]; simp [List.getD, h]

set_option maxHeartbeats 400000 in
theorem min_any (a : Option Addr) (c : Nat) (zs : List Int) (w : World) (h : IsInts w a zs) (hne : 0 < zs.length) :
    Calls Try.prog 56 #[.slice a zs.length c] w fun e w' => e = .returned (.int .i64 (leastFrom zs (zs.getD 0 0))) ∧ w = w' := by
  have hm := h.len
  obtain ⟨b, off, rfl, hb, hc⟩ := h.at' 0 hne
  have hs := leastFrom_drop zs 0 (zs.getD 0 0) hne
  have HS : Hid (leastFrom zs (zs.getD 0 0) = leastFrom (zs.drop 1) (zs.getD 0 0)) := by simp only [List.drop_zero] at hs; simp only [Hid, hs]; simp
  clear hs
  generalize hz : zs.getD 0 0 = z at *
  clear hz
  simp only [Nat.add_zero] at hc
  have hl1 : decide ((zs.length : Int) < 1) = false := by simp; omega
  go_enter Try.func56, Try.ntmps56
  go_wp2
  go_loop [3, 4] (fun m i => ∃ (k : Nat) (t : Int), k ≤ zs.length ∧ i = .int .i64 k ∧ m = .int .i64 t ∧ leastFrom zs z = leastFrom (zs.drop k) t) (fun _ i => zs.length - (intOf i).toNat)
  case atStart => exact ⟨1, z, by omega, rfl, rfl, HS.out⟩
  case round =>
    obtain ⟨k, t, hk, rfl, rfl, hd⟩ := hrel
    have HD := Lib.hid hd
    clear hd
    by_cases hlt : k < zs.length
    · obtain ⟨b', off', e, hb, hc'⟩ := h.at' k hlt
      obtain ⟨rfl, rfl⟩ : b = b' ∧ off = off' := by simpa using e
      have hsu := Lib.hid (leastFrom_drop zs k t hlt)
      generalize zs.getD k 0 = x at *
      go_wp2
      have hmin : min t x = if x < t then x else t := by omega
      refine ⟨⟨k + 1, min t x, by omega, by go_num, by rw [hmin], by rw [HD.out, hsu.out]⟩, by simp [intOf]; omega⟩
    · have hn : leastFrom zs z = t := by rw [HD.out, List.drop_of_length_le (by omega)]; rfl
      have HN := Lib.hid hn
      clear hn
      go_wp2
      go_ret
      exact ⟨ret_int HN.out.symm, rfl⟩

def leastV (zs : List Int) : Int := if zs.length = 0 then 0 else if amounts zs then leastFrom zs (zs.getD 0 0) else 0
def leastE (zs : List Int) : Int := if zs.length = 0 then 3 else if amounts zs then 0 else 4

set_option maxHeartbeats 400000 in
theorem least_any (a : Option Addr) (c : Nat) (zs : List Int) (w : World) (h : IsInts w a zs) :
    Calls Try.prog 28 #[.slice a zs.length c] w fun e w' => e = .returned (.tuple #[.int .i64 (leastV zs), .int .i64 (leastE zs)]) ∧ w = w' := by
  have hm := h.len
  by_cases h0 : zs.length = 0
  · have HF := Lib.hid (show leastV zs = 0 ∧ leastE zs = 3 by simp [leastV, leastE, h0])
    have hb : ((zs.length : Int) == 0) = true := by simpa using h0
    clear h0
    go_enter Try.func28, Try.ntmps28
    go_wp2_with fail
    go_ret2
    exact ⟨ret_int2 HF.out.1.symm HF.out.2.symm, rfl⟩
  · have hb : ((zs.length : Int) == 0) = false := by simpa using h0
    by_cases ha : amounts zs = true
    · have HF := Lib.hid (show leastV zs = leastFrom zs (zs.getD 0 0) ∧ leastE zs = 0 by simp only [leastV, leastE, h0, ha, if_false, if_true, and_self])
      go_enter Try.func28, Try.ntmps28
      go_wp2_with (first | (go_at_call 18; refine (check_any _ _ _ _ h).mono ?_; rintro e w' ⟨rfl, rfl⟩; rw [if_pos ha]) | (go_at_call 56; refine (min_any _ _ _ _ h (by omega)).mono ?_; rintro e w' ⟨rfl, rfl⟩))
      go_ret2
      exact ⟨ret_int2 HF.out.1.symm HF.out.2.symm, rfl⟩
    · have HF := Lib.hid (show leastV zs = 0 ∧ leastE zs = 4 by simp [leastV, leastE, h0, ha])
      go_enter Try.func28, Try.ntmps28
      go_wp2_with (first | (go_at_call 18; refine (check_any _ _ _ _ h).mono ?_; rintro e w' ⟨rfl, rfl⟩; rw [if_neg ha]))
      go_ret2
      exact ⟨ret_int2 HF.out.1.symm HF.out.2.symm, rfl⟩

set_option maxHeartbeats 400000 in
theorem alive02 (w : World) : Calls Try.prog 20 #[] w fun e w' => e = .returned (.bool true) ∧ Below w.heap.size w w' := by
  have hs : ∀ W, _ := fun W => sub_any 1 2 W (by unfold InR; omega) (by unfold InR; omega)
  have e1 : subV 1 2 = 0 ∧ subE 1 2 = 16 := by decide
  have e2 : addN [1, 2] = 3 ∧ addE [1, 2] = 0 := by decide
  simp only [e1] at hs
  have hadd : ∀ W a c, IsInts W a [1, 2] → _ := fun W a c => add_any a c [1, 2] W
  simp only [e2] at hadd
  have hi := fun W : World => isInts_two W 1 2 (by unfold InR; omega) (by unfold InR; omega)
  have HS := Lib.hid hs
  have HA := Lib.hid hadd
  have HI := Lib.hid hi
  clear hs hadd hi e1 e2
  go_enter Try.func20, Try.ntmps20
  go_wp2_with fail
  refine (HS.out _).mono ?_
  rintro e w1 ⟨rfl, hb1⟩
  go_wp2_with fail
  refine (HA.out _ _ _ (HI.out _)).mono ?_
  rintro e w2 ⟨rfl, rfl⟩
  go_wp2_with (go_at_call 17; refine (num02_any _ _).mono ?_; rintro e w' ⟨rfl, rfl⟩)
  go_ret
  exact ⟨rfl, hb1.trans (((Below.refl _ _).alloc (Nat.le_refl _) _).mono hb1.size)⟩

end Go.Proofs.Ytbkghiaafkmapaa
