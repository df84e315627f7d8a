/- Walks of the reference's names and amounts. No condition but a string's size. -/
import Derived.Test.YtbkghiaafkmapaaBase
import Derived.BigQuiet
import Derived.Outline
namespace Go.Proofs.Ytbkghiaafkmapaa
open Go.ChangeShapes Go.WideShapes Go.ChangeAt Go.RowKit

def amountB (n least : Int) : Bool := decide (least ≤ n) && decide (n ≤ 1099511627776)
theorem amount_any (n least : Int) (w : World) : Calls Try.prog 77 #[.int .i64 n, .int .i64 least] w fun e w' => e = .returned (.bool (amountB n least)) ∧ w = w' := by
  unfold amountB
  by_cases h : least ≤ n
  · have h1 : decide (least ≤ n) = true := by simpa using h
    rw [h1]
    go_enter Try.func77, Try.ntmps77
    go_wp2
    go_ret
    exact ⟨by simp, rfl⟩
  · have h1 : decide (least ≤ n) = false := by simpa using h
    rw [h1]
    go_enter Try.func77, Try.ntmps77
    go_wp2
    go_ret
    exact ⟨by simp, rfl⟩

def letterB (c : Int) : Bool := (decide (97 ≤ c) && decide (c ≤ 122)) || (decide (48 ≤ c) && decide (c ≤ 57)) || c == 45 || c == 95
set_option maxHeartbeats 1000000 in
theorem letter_any (c : Int) (w : World) (h0 : 0 ≤ c) (h1 : c ≤ 255) : Calls Try.prog 85 #[.int .u8 c] w fun e w' => e = .returned (.bool (letterB c)) ∧ w = w' := by
  unfold letterB
  by_cases a1 : 97 ≤ c
  · have b1 : decide (97 ≤ c) = true := by simpa using a1
    by_cases a2 : c ≤ 122
    · have b2 : decide (c ≤ 122) = true := by simpa using a2
      rw [b1, b2]
      go_enter Try.func85, Try.ntmps85
      go_wp2
      go_ret
      exact ⟨rfl, rfl⟩
    · have b2 : decide (c ≤ 122) = false := by simpa using a2
      have b3 : decide (48 ≤ c) = true := by simp; omega
      have b4 : decide (c ≤ 57) = false := by simp; omega
      have b5 : (c == 45) = false := by simp; omega
      have b6 : (c == 95) = false := by simp; omega
      rw [b1, b2, b3, b4, b5, b6]
      go_enter Try.func85, Try.ntmps85
      go_wp2
      go_ret
      exact ⟨rfl, rfl⟩
  · have b1 : decide (97 ≤ c) = false := by simpa using a1
    by_cases a2 : c == 95
    · have a3 : c = 95 := by simpa using a2
      subst a3
      go_enter Try.func85, Try.ntmps85
      go_wp2
      go_ret
      exact ⟨rfl, rfl⟩
    · have b6 : (c == 95) = false := by simpa using a2
      by_cases a3 : c == 45
      · have a4 : c = 45 := by simpa using a3
        subst a4
        go_enter Try.func85, Try.ntmps85
        go_wp2
        go_ret
        exact ⟨rfl, rfl⟩
      · have b5 : (c == 45) = false := by simpa using a3
        by_cases a4 : 48 ≤ c
        · have b3 : decide (48 ≤ c) = true := by simpa using a4
          cases b4 : decide (c ≤ 57)
          all_goals
            rw [b1, b3, b5, b6]
            go_enter Try.func85, Try.ntmps85
            go_wp2
            go_ret
            exact ⟨by simp, rfl⟩
        · have b3 : decide (48 ≤ c) = false := by simpa using a4
          rw [b1, b3, b5, b6]
          go_enter Try.func85, Try.ntmps85
          go_wp2
          go_ret
          exact ⟨by simp, rfl⟩

/-- is a text a name? -/
def nameB (s : ByteArray) : Bool := s.data.toList.all (fun c => letterB c.toNat) && (decide (1 ≤ s.size) && decide (s.size ≤ 16))
theorem all_take_step {l : List UInt8} {k : Nat} (hk : k < l.length) (f : UInt8 → Bool) : (l.take (k + 1)).all f = ((l.take k).all f && f l[k]) := by
  rw [List.take_succ_eq_append_getElem hk, List.all_append]; simp
theorem str_len (s : ByteArray) : s.data.toList.length = s.size := by rw [Array.length_toList]; rfl
theorem str_take_step (s : ByteArray) {k : Nat} (hk : k < s.size) (f : UInt8 → Bool) : (s.data.toList.take (k + 1)).all f = ((s.data.toList.take k).all f && f s[k]) :=
  all_take_step (by rw [str_len]; exact hk) f
theorem str_mem (s : ByteArray) {k : Nat} (hk : k < s.size) : s[k] ∈ s.data.toList := by
  have h : s.data.toList[k]'(by rw [str_len]; exact hk) = s[k] := rfl
  rw [← h]; exact List.getElem_mem _
theorem str_full (s : ByteArray) {k : Nat} (hk : ¬ k < s.size) : s.data.toList.take k = s.data.toList := List.take_of_length_le (by rw [str_len]; omega)
set_option maxHeartbeats 1000000 in
theorem Name_any (s : ByteArray) (w : World) (hs : s.size ≤ 140737488355328) : Calls Try.prog 76 #[.string s] w fun e w' => e = .returned (.bool (nameB s)) ∧ w = w' := by
  have HN : Hid (nameB s = (s.data.toList.all (fun c => letterB c.toNat) && (decide (1 ≤ s.size) && decide (s.size ≤ 16)))) := rfl
  generalize nameB s = nb at *
  go_enter Try.func76, Try.ntmps76
  go_wp2
  go_loop [3] (fun i => ∃ k : Nat, k ≤ s.size ∧ i = .int .i64 k ∧ (s.data.toList.take k).all (fun c => letterB c.toNat) = true) (fun i => s.size - (intOf i).toNat)
  case atStart => exact ⟨0, Nat.zero_le _, rfl, rfl⟩
  case round =>
    obtain ⟨k, hk, rfl, hd⟩ := hrel
    have HD := Lib.hid hd
    clear hd
    by_cases hlt : k < s.size
    · have hc0 : (0 : Int) ≤ (s[k].toNat : Int) := by omega
      have hc1 : (s[k].toNat : Int) ≤ 255 := by have := s[k].toNat_lt; omega
      have HS := Lib.hid (str_take_step s hlt (fun c => letterB c.toNat))
      cases hb : letterB (s[k].toNat : Int)
      · have hf : s.data.toList.all (fun c => letterB c.toNat) = false := by
          rw [List.all_eq_false]
          exact ⟨s[k], str_mem s hlt, by simp [hb]⟩
        have HF := Lib.hid hf
        have HC := Lib.hid (fun W => letter_any (s[k].toNat : Int) W hc0 hc1)
        rw [hb] at HC
        clear hf hb
        go_wp2_with (go_at_call 85; refine (HC.out _).mono ?_; rintro e w' ⟨rfl, rfl⟩)
        go_ret
        exact ⟨by rw [HN.out, HF.out]; rfl, rfl⟩
      · have HC := Lib.hid (fun W => letter_any (s[k].toNat : Int) W hc0 hc1)
        rw [hb] at HC
        have HB := Lib.hid hb
        clear hb
        go_wp2_with (go_at_call 85; refine (HC.out _).mono ?_; rintro e w' ⟨rfl, rfl⟩)
        go_round
        case rel => exact ⟨k + 1, by omega, by go_num, by rw [HS.out, HD.out]; exact HB.out⟩
        case measure => simp [intOf]; omega
    · have ha : s.data.toList.all (fun c => letterB c.toNat) = true := by have := HD.out; rwa [str_full s hlt] at this
      have HA := Lib.hid ha
      clear ha
      by_cases h1 : 1 ≤ s.size
      · have h1' : decide ((1 : Int) ≤ (s.size : Int)) = true := by simp; omega
        have HX : Hid (nb = decide (s.size ≤ 16)) := by show _ = _; rw [HN.out, HA.out]; simp [h1]
        go_wp2
        go_ret
        exact ⟨by rw [HX.out]; simp; try omega, rfl⟩
      · have h1' : decide ((1 : Int) ≤ (s.size : Int)) = false := by simp; omega
        have HX : Hid (nb = false) := by show _ = _; rw [HN.out]; simp [h1]
        go_wp2
        go_ret
        exact ⟨by rw [HX.out]; rfl, rfl⟩
end Go.Proofs.Ytbkghiaafkmapaa
