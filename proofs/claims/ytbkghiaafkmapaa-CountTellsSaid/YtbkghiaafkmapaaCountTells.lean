/- godownlaw02.CountTells answers true for all numbers and every list. No condition. -/
import Derived.Test.YtbkghiaafkmapaaCount2
namespace Go.Proofs.Ytbkghiaafkmapaa.countTells
open Go.ChangeShapes Go.WideShapes Go.ChangeAt Go.RowKit

theorem leastV_nil {l : List Int} (h : l.length = 0) : leastV l = 0 ∧ leastE l = 3 := by simp [leastV, leastE, h]
theorem leastV_bad {l : List Int} (h : l.length ≠ 0) (ha : amounts l = false) : leastV l = 0 ∧ leastE l = 4 := by simp [leastV, leastE, h, ha]
theorem leastV_ok {l : List Int} (h : l.length ≠ 0) (ha : amounts l = true) : leastV l = leastFrom l (l.getD 0 0) ∧ leastE l = 0 := by simp [leastV, leastE, h, ha]

/-- what the law's own loop keeps -/
def Lst (l : List Int) (k : Nat) (t : Int) : Prop := (k = 0 ∧ t = 0) ∨ (0 < k ∧ leastFrom l (l.getD 0 0) = leastFrom (l.drop k) t)
theorem Lst.first {l : List Int} (h : 0 < l.length) : Lst l 1 (l.getD 0 0) := by
  refine .inr ⟨by omega, ?_⟩
  have hs := leastFrom_drop l 0 (l.getD 0 0) h
  simp only [List.drop_zero] at hs
  rw [hs]; simp
theorem Lst.less {l : List Int} {k : Nat} {t : Int} (h : Lst l k t) (hk : k < l.length) (h0 : 0 < k) (hx : l.getD k 0 < t) : Lst l (k + 1) (l.getD k 0) := by
  rcases h with ⟨rfl, _⟩ | ⟨_, h⟩
  · omega
  · exact .inr ⟨by omega, by rw [h, leastFrom_drop l k t hk, show min t (l.getD k 0) = l.getD k 0 by omega]⟩
theorem Lst.more {l : List Int} {k : Nat} {t : Int} (h : Lst l k t) (hk : k < l.length) (h0 : 0 < k) (hx : ¬ l.getD k 0 < t) : Lst l (k + 1) t := by
  rcases h with ⟨rfl, _⟩ | ⟨_, h⟩
  · omega
  · exact .inr ⟨by omega, by rw [h, leastFrom_drop l k t hk, show min t (l.getD k 0) = t by omega]⟩
theorem Lst.done {l : List Int} {k : Nat} {t : Int} (h : Lst l k t) (hk : k ≤ l.length) (hl : ¬ k < l.length) (hne : l.length ≠ 0) : leastFrom l (l.getD 0 0) = t := by
  rcases h with ⟨rfl, _⟩ | ⟨_, h⟩
  · omega
  · rw [h, List.drop_of_length_le (by omega)]; rfl
set_option maxRecDepth 100000 in
set_option maxRecDepth 100000 in
set_option maxRecDepth 100000 in
set_option maxRecDepth 100000 in
set_option maxRecDepth 100000 in
set_option maxRecDepth 100000 in
set_option maxRecDepth 100000 in
set_option maxRecDepth 100000 in
set_option maxRecDepth 100000 in
set_option maxHeartbeats 2000000 in
theorem walk_bad (a b : Int) (x : Option Addr) (c : Nat) (l : List Int) (w : World) (h : IsInts w x l) (ha : InR a) (hb : InR b)
    (hsub : ∀ W, Calls Try.prog 21 #[.int .i64 a, .int .i64 b] W fun e' w' => e' = .returned (.tuple #[.int .i64 0, .int .i64 4]) ∧ Below W.heap.size W w')
    (hmul : ∀ W, Calls Try.prog 27 #[.int .i64 a, .int .i64 b] W fun e' w' => e' = .returned (.tuple #[.int .i64 0, .int .i64 4]) ∧ Below W.heap.size W w')
    (ham : amounts [a, b] = false) :
    Calls Try.prog 7 #[.int .i64 a, .int .i64 b, .slice x l.length c] w fun e w' => e = .returned (.bool true) ∧ Below w.heap.size w w' := by
  have hm := h.len
  have hi := fun W : World => isInts_two W a b ha hb
  have HI := Lib.hid hi
  have HS := Lib.hid hsub
  have HM := Lib.hid hmul
  have HL : Hid (∀ W, Below w.heap.size w W → Calls Try.prog 28 #[.slice x l.length c] W fun e w' => e = .returned (.tuple #[.int .i64 (leastV l), .int .i64 (leastE l)]) ∧ W = w') := fun W hW => least_any x c l W (h.below hW)
  have HA : Hid (∀ W, Below w.heap.size w W → Calls Try.prog 19 #[.slice x l.length c] W fun e w' => e = .returned (.bool (amounts l)) ∧ W = w') := fun W hW => amounts_any x c l W (h.below hW)
  have HA2 : Hid (∀ W : World, Calls Try.prog 19 #[.slice (some ⟨W.heap.size, 0, none⟩) 2 2] (W.alloc (.cells #[.int .i64 a, .int .i64 b] 3)) fun e w' => e = .returned (.bool false) ∧ W.alloc (.cells #[.int .i64 a, .int .i64 b] 3) = w') := fun W => by
    have := amounts_any (some ⟨W.heap.size, 0, none⟩) 2 [a, b] _ (HI.out W)
    rw [ham] at this
    exact this
  have HAM := Lib.hid ham
  have H := Lib.hid h
  clear hi hsub hmul h ham
  go_enter Try.func7, Try.ntmps7
  go_wp2_with fail
  refine (HS.out _).mono ?_
  rintro e' w1 ⟨rfl, hb1⟩
  go_wp2_with fail
  refine (HM.out _).mono ?_
  rintro e' w2 ⟨rfl, hb2⟩
  have hb12 := hb1.trans (hb2.mono hb1.size)
  go_wp2_with fail
  refine (HL.out _ hb12).mono ?_
  rintro e' w3 ⟨rfl, rfl⟩
  go_wp2_with fail
  refine (HA2.out _).mono ?_
  rintro e' w4 ⟨rfl, rfl⟩
  have hb4 : Below w.heap.size w (w2.alloc (.cells #[.int .i64 a, .int .i64 b] 3)) := hb12.alloc hb12.size _
  have h4 := H.out.below hb4
  have HB4 := Lib.hid hb4
  have H4 := Lib.hid h4
  clear hb4 hb12 hb1 hb2 h4
  generalize hlv : leastV l = lv at *
  generalize hle : leastE l = le at *
  have HLV := Lib.hid hlv
  have HLE := Lib.hid hle
  clear hlv hle
  go_wp2_with (go_at_call 17; refine (num02_any _ _).mono ?_; rintro e w' ⟨rfl, rfl⟩)
  go_loop [14, 15] (fun m i => ∃ (k : Nat) (t : Int), k ≤ l.length ∧ i = .int .i64 k ∧ m = .int .i64 t ∧ Lst l k t) (fun _ i => l.length - (intOf i).toNat)
  case atStart => exact ⟨0, 0, Nat.zero_le _, rfl, rfl, .inl ⟨rfl, rfl⟩⟩
  case round =>
    obtain ⟨k, t, hk, rfl, rfl, hd⟩ := hrel
    have HD := Lib.hid hd
    clear hd
    by_cases hlt : k < l.length
    · obtain ⟨b', off, hx, _, hc⟩ := H4.out.at' k hlt
      subst hx
      by_cases h0 : k = 0
      · subst h0
        have HF := Lib.hid (Lst.first hlt)
        have hk0 : ((((0 : Nat) : Int)) == 0) = true := rfl
        generalize l.getD 0 0 = z at *
        simp only [Nat.add_zero] at hc
        go_wp2
        go_round
        case rel => exact ⟨1, z, by omega, rfl, rfl, HF.out⟩
        case measure => simp [intOf]; omega
      · have hk0 : ((k : Int) == 0) = false := by simpa using h0
        by_cases hxt : l.getD k 0 < t
        · have HF := Lib.hid (Lst.less HD.out hlt (by omega) hxt)
          generalize l.getD k 0 = z at *
          have hxt2 : decide (z < t) = true := by simpa using hxt
          go_wp2
          go_round
          case rel => exact ⟨k + 1, z, by omega, by go_num, rfl, HF.out⟩
          case measure => simp [intOf]; omega
        · have HF := Lib.hid (Lst.more HD.out hlt (by omega) hxt)
          generalize l.getD k 0 = z at *
          have hxt2 : decide (z < t) = false := by simpa using hxt
          go_wp2
          go_round
          case rel => exact ⟨k + 1, t, by omega, by go_num, rfl, HF.out⟩
          case measure => simp [intOf]; omega
    · by_cases hl0 : l.length = 0
      · have hl1 : ((l.length : Int) == 0) = true := by simpa using hl0
        obtain ⟨hv, he⟩ := leastV_nil hl0
        rw [HLV.out] at hv
        rw [HLE.out] at he
        clear hl0
        subst hv he
        go_wp2_with (first | (go_at_call 17; refine (num02_any _ _).mono ?_; rintro e w' ⟨rfl, rfl⟩) | (go_at_call 20; refine (alive02 _).mono ?_; rintro e w9 ⟨rfl, hb9⟩))
        go_ret
        exact ⟨rfl, HB4.out.trans (hb9.mono HB4.out.size)⟩
      · have hl1 : ((l.length : Int) == 0) = false := by simpa using hl0
        by_cases hal : amounts l = true
        · obtain ⟨hv, he⟩ := leastV_ok hl0 hal
          rw [HLV.out, HD.out.done hk hlt hl0] at hv
          rw [HLE.out] at he
          clear hl0
          subst hv he
          have HA3 := Lib.hid (HA.out _ HB4.out)
          rw [hal] at HA3
          clear hal
          go_wp2_with (first | (go_at_call 19; refine HA3.out.mono ?_; rintro e w' ⟨rfl, rfl⟩) | (go_at_call 17; refine (num02_any _ _).mono ?_; rintro e w' ⟨rfl, rfl⟩) | (go_at_call 20; refine (alive02 _).mono ?_; rintro e w9 ⟨rfl, hb9⟩))
          go_ret
          exact ⟨rfl, HB4.out.trans (hb9.mono HB4.out.size)⟩
        · have hal' : amounts l = false := by simpa using hal
          obtain ⟨hv, he⟩ := leastV_bad hl0 hal'
          rw [HLV.out] at hv
          rw [HLE.out] at he
          clear hl0
          subst hv he
          have HA3 := Lib.hid (HA.out _ HB4.out)
          rw [hal'] at HA3
          clear hal hal'
          go_wp2_with (first | (go_at_call 19; refine HA3.out.mono ?_; rintro e w' ⟨rfl, rfl⟩) | (go_at_call 17; refine (num02_any _ _).mono ?_; rintro e w' ⟨rfl, rfl⟩) | (go_at_call 20; refine (alive02 _).mono ?_; rintro e w9 ⟨rfl, hb9⟩))
          go_ret
          exact ⟨rfl, HB4.out.trans (hb9.mono HB4.out.size)⟩

set_option maxRecDepth 100000 in
set_option maxHeartbeats 2000000 in
theorem walk_lessOk (a b p : Int) (x : Option Addr) (c : Nat) (l : List Int) (w : World) (h : IsInts w x l) (ha : InR a) (hb : InR b)
    (hsub : ∀ W, Calls Try.prog 21 #[.int .i64 a, .int .i64 b] W fun e' w' => e' = .returned (.tuple #[.int .i64 0, .int .i64 16]) ∧ Below W.heap.size W w')
    (hmul : ∀ W, Calls Try.prog 27 #[.int .i64 a, .int .i64 b] W fun e' w' => e' = .returned (.tuple #[.int .i64 p, .int .i64 0]) ∧ Below W.heap.size W w')
    (ham : amounts [a, b] = true) (h1 : decide (a < b) = true) (h2 : decide (b ≤ a) = false) (h3 : decide (0 < b) = true) (h4 : (p / b != a) = false) (h5 : decide (p < 0) = false) (h6 : decide (1099511627776 < p) = false) (h7 : (p % b != 0) = false) (h8 : (b == 0) = false) (hp : 0 ≤ p) (hp1 : p ≤ 1099511627776) (hb1 : 1 ≤ b) (_ha0 : 0 ≤ a) (_hb0 : 0 ≤ b) (_ha1 : a ≤ 1099511627776) (_hb1 : b ≤ 1099511627776) :
    Calls Try.prog 7 #[.int .i64 a, .int .i64 b, .slice x l.length c] w fun e w' => e = .returned (.bool true) ∧ Below w.heap.size w w' := by
  have hm := h.len
  have hi := fun W : World => isInts_two W a b ha hb
  have HI := Lib.hid hi
  have HS := Lib.hid hsub
  have HM := Lib.hid hmul
  have HL : Hid (∀ W, Below w.heap.size w W → Calls Try.prog 28 #[.slice x l.length c] W fun e w' => e = .returned (.tuple #[.int .i64 (leastV l), .int .i64 (leastE l)]) ∧ W = w') := fun W hW => least_any x c l W (h.below hW)
  have HA : Hid (∀ W, Below w.heap.size w W → Calls Try.prog 19 #[.slice x l.length c] W fun e w' => e = .returned (.bool (amounts l)) ∧ W = w') := fun W hW => amounts_any x c l W (h.below hW)
  have HA2 : Hid (∀ W : World, Calls Try.prog 19 #[.slice (some ⟨W.heap.size, 0, none⟩) 2 2] (W.alloc (.cells #[.int .i64 a, .int .i64 b] 3)) fun e w' => e = .returned (.bool true) ∧ W.alloc (.cells #[.int .i64 a, .int .i64 b] 3) = w') := fun W => by
    have := amounts_any (some ⟨W.heap.size, 0, none⟩) 2 [a, b] _ (HI.out W)
    rw [ham] at this
    exact this
  have HAM := Lib.hid ham
  have H := Lib.hid h
  clear hi hsub hmul h ham
  go_enter Try.func7, Try.ntmps7
  go_wp2_with fail
  refine (HS.out _).mono ?_
  rintro e' w1 ⟨rfl, hb1⟩
  go_wp2_with fail
  refine (HM.out _).mono ?_
  rintro e' w2 ⟨rfl, hb2⟩
  have hb12 := hb1.trans (hb2.mono hb1.size)
  go_wp2_with fail
  refine (HL.out _ hb12).mono ?_
  rintro e' w3 ⟨rfl, rfl⟩
  go_wp2_with fail
  refine (HA2.out _).mono ?_
  rintro e' w4 ⟨rfl, rfl⟩
  have hb4 : Below w.heap.size w (w2.alloc (.cells #[.int .i64 a, .int .i64 b] 3)) := hb12.alloc hb12.size _
  have h4 := H.out.below hb4
  have HB4 := Lib.hid hb4
  have H4 := Lib.hid h4
  clear hb4 hb12 hb1 hb2 h4
  generalize hlv : leastV l = lv at *
  generalize hle : leastE l = le at *
  have HLV := Lib.hid hlv
  have HLE := Lib.hid hle
  clear hlv hle
  go_wp2_with (go_at_call 17; refine (num02_any _ _).mono ?_; rintro e w' ⟨rfl, rfl⟩)
  go_loop [14, 15] (fun m i => ∃ (k : Nat) (t : Int), k ≤ l.length ∧ i = .int .i64 k ∧ m = .int .i64 t ∧ Lst l k t) (fun _ i => l.length - (intOf i).toNat)
  case atStart => exact ⟨0, 0, Nat.zero_le _, rfl, rfl, .inl ⟨rfl, rfl⟩⟩
  case round =>
    obtain ⟨k, t, hk, rfl, rfl, hd⟩ := hrel
    have HD := Lib.hid hd
    clear hd
    by_cases hlt : k < l.length
    · obtain ⟨b', off, hx, _, hc⟩ := H4.out.at' k hlt
      subst hx
      by_cases h0 : k = 0
      · subst h0
        have HF := Lib.hid (Lst.first hlt)
        have hk0 : ((((0 : Nat) : Int)) == 0) = true := rfl
        generalize l.getD 0 0 = z at *
        simp only [Nat.add_zero] at hc
        go_wp2
        go_round
        case rel => exact ⟨1, z, by omega, rfl, rfl, HF.out⟩
        case measure => simp [intOf]; omega
      · have hk0 : ((k : Int) == 0) = false := by simpa using h0
        by_cases hxt : l.getD k 0 < t
        · have HF := Lib.hid (Lst.less HD.out hlt (by omega) hxt)
          generalize l.getD k 0 = z at *
          have hxt2 : decide (z < t) = true := by simpa using hxt
          go_wp2
          go_round
          case rel => exact ⟨k + 1, z, by omega, by go_num, rfl, HF.out⟩
          case measure => simp [intOf]; omega
        · have HF := Lib.hid (Lst.more HD.out hlt (by omega) hxt)
          generalize l.getD k 0 = z at *
          have hxt2 : decide (z < t) = false := by simpa using hxt
          go_wp2
          go_round
          case rel => exact ⟨k + 1, t, by omega, by go_num, rfl, HF.out⟩
          case measure => simp [intOf]; omega
    · by_cases hl0 : l.length = 0
      · have hl1 : ((l.length : Int) == 0) = true := by simpa using hl0
        obtain ⟨hv, he⟩ := leastV_nil hl0
        rw [HLV.out] at hv
        rw [HLE.out] at he
        clear hl0
        subst hv he
        go_wp2_with (first | (go_at_call 17; refine (num02_any _ _).mono ?_; rintro e w' ⟨rfl, rfl⟩) | (go_at_call 20; refine (alive02 _).mono ?_; rintro e w9 ⟨rfl, hb9⟩))
        go_ret
        exact ⟨rfl, HB4.out.trans (hb9.mono HB4.out.size)⟩
      · have hl1 : ((l.length : Int) == 0) = false := by simpa using hl0
        by_cases hal : amounts l = true
        · obtain ⟨hv, he⟩ := leastV_ok hl0 hal
          rw [HLV.out, HD.out.done hk hlt hl0] at hv
          rw [HLE.out] at he
          clear hl0
          subst hv he
          have HA3 := Lib.hid (HA.out _ HB4.out)
          rw [hal] at HA3
          clear hal
          go_wp2_with (first | (go_at_call 19; refine HA3.out.mono ?_; rintro e w' ⟨rfl, rfl⟩) | (go_at_call 17; refine (num02_any _ _).mono ?_; rintro e w' ⟨rfl, rfl⟩) | (go_at_call 20; refine (alive02 _).mono ?_; rintro e w9 ⟨rfl, hb9⟩))
          go_ret
          exact ⟨rfl, HB4.out.trans (hb9.mono HB4.out.size)⟩
        · have hal' : amounts l = false := by simpa using hal
          obtain ⟨hv, he⟩ := leastV_bad hl0 hal'
          rw [HLV.out] at hv
          rw [HLE.out] at he
          clear hl0
          subst hv he
          have HA3 := Lib.hid (HA.out _ HB4.out)
          rw [hal'] at HA3
          clear hal hal'
          go_wp2_with (first | (go_at_call 19; refine HA3.out.mono ?_; rintro e w' ⟨rfl, rfl⟩) | (go_at_call 17; refine (num02_any _ _).mono ?_; rintro e w' ⟨rfl, rfl⟩) | (go_at_call 20; refine (alive02 _).mono ?_; rintro e w9 ⟨rfl, hb9⟩))
          go_ret
          exact ⟨rfl, HB4.out.trans (hb9.mono HB4.out.size)⟩

set_option maxRecDepth 100000 in
set_option maxHeartbeats 2000000 in
theorem walk_lessOver (a b : Int) (x : Option Addr) (c : Nat) (l : List Int) (w : World) (h : IsInts w x l) (ha : InR a) (hb : InR b)
    (hsub : ∀ W, Calls Try.prog 21 #[.int .i64 a, .int .i64 b] W fun e' w' => e' = .returned (.tuple #[.int .i64 0, .int .i64 16]) ∧ Below W.heap.size W w')
    (hmul : ∀ W, Calls Try.prog 27 #[.int .i64 a, .int .i64 b] W fun e' w' => e' = .returned (.tuple #[.int .i64 0, .int .i64 15]) ∧ Below W.heap.size W w')
    (ham : amounts [a, b] = true) (h1 : decide (a < b) = true) (h2 : decide (b ≤ a) = false) (_h3 : decide (0 < b) = true) (h4 : (b == 0) = false) (h5 : decide (a ≤ 1099511627776 / b) = false) (hb1 : 1 ≤ b) (_ha0 : 0 ≤ a) (_hb0 : 0 ≤ b) (_ha1 : a ≤ 1099511627776) (_hb1 : b ≤ 1099511627776) :
    Calls Try.prog 7 #[.int .i64 a, .int .i64 b, .slice x l.length c] w fun e w' => e = .returned (.bool true) ∧ Below w.heap.size w w' := by
  have hm := h.len
  have hi := fun W : World => isInts_two W a b ha hb
  have HI := Lib.hid hi
  have HS := Lib.hid hsub
  have HM := Lib.hid hmul
  have HL : Hid (∀ W, Below w.heap.size w W → Calls Try.prog 28 #[.slice x l.length c] W fun e w' => e = .returned (.tuple #[.int .i64 (leastV l), .int .i64 (leastE l)]) ∧ W = w') := fun W hW => least_any x c l W (h.below hW)
  have HA : Hid (∀ W, Below w.heap.size w W → Calls Try.prog 19 #[.slice x l.length c] W fun e w' => e = .returned (.bool (amounts l)) ∧ W = w') := fun W hW => amounts_any x c l W (h.below hW)
  have HA2 : Hid (∀ W : World, Calls Try.prog 19 #[.slice (some ⟨W.heap.size, 0, none⟩) 2 2] (W.alloc (.cells #[.int .i64 a, .int .i64 b] 3)) fun e w' => e = .returned (.bool true) ∧ W.alloc (.cells #[.int .i64 a, .int .i64 b] 3) = w') := fun W => by
    have := amounts_any (some ⟨W.heap.size, 0, none⟩) 2 [a, b] _ (HI.out W)
    rw [ham] at this
    exact this
  have HAM := Lib.hid ham
  have H := Lib.hid h
  clear hi hsub hmul h ham
  go_enter Try.func7, Try.ntmps7
  go_wp2_with fail
  refine (HS.out _).mono ?_
  rintro e' w1 ⟨rfl, hb1⟩
  go_wp2_with fail
  refine (HM.out _).mono ?_
  rintro e' w2 ⟨rfl, hb2⟩
  have hb12 := hb1.trans (hb2.mono hb1.size)
  go_wp2_with fail
  refine (HL.out _ hb12).mono ?_
  rintro e' w3 ⟨rfl, rfl⟩
  go_wp2_with fail
  refine (HA2.out _).mono ?_
  rintro e' w4 ⟨rfl, rfl⟩
  have hb4 : Below w.heap.size w (w2.alloc (.cells #[.int .i64 a, .int .i64 b] 3)) := hb12.alloc hb12.size _
  have h4 := H.out.below hb4
  have HB4 := Lib.hid hb4
  have H4 := Lib.hid h4
  clear hb4 hb12 hb1 hb2 h4
  generalize hlv : leastV l = lv at *
  generalize hle : leastE l = le at *
  have HLV := Lib.hid hlv
  have HLE := Lib.hid hle
  clear hlv hle
  go_wp2_with (go_at_call 17; refine (num02_any _ _).mono ?_; rintro e w' ⟨rfl, rfl⟩)
  go_loop [14, 15] (fun m i => ∃ (k : Nat) (t : Int), k ≤ l.length ∧ i = .int .i64 k ∧ m = .int .i64 t ∧ Lst l k t) (fun _ i => l.length - (intOf i).toNat)
  case atStart => exact ⟨0, 0, Nat.zero_le _, rfl, rfl, .inl ⟨rfl, rfl⟩⟩
  case round =>
    obtain ⟨k, t, hk, rfl, rfl, hd⟩ := hrel
    have HD := Lib.hid hd
    clear hd
    by_cases hlt : k < l.length
    · obtain ⟨b', off, hx, _, hc⟩ := H4.out.at' k hlt
      subst hx
      by_cases h0 : k = 0
      · subst h0
        have HF := Lib.hid (Lst.first hlt)
        have hk0 : ((((0 : Nat) : Int)) == 0) = true := rfl
        generalize l.getD 0 0 = z at *
        simp only [Nat.add_zero] at hc
        go_wp2
        go_round
        case rel => exact ⟨1, z, by omega, rfl, rfl, HF.out⟩
        case measure => simp [intOf]; omega
      · have hk0 : ((k : Int) == 0) = false := by simpa using h0
        by_cases hxt : l.getD k 0 < t
        · have HF := Lib.hid (Lst.less HD.out hlt (by omega) hxt)
          generalize l.getD k 0 = z at *
          have hxt2 : decide (z < t) = true := by simpa using hxt
          go_wp2
          go_round
          case rel => exact ⟨k + 1, z, by omega, by go_num, rfl, HF.out⟩
          case measure => simp [intOf]; omega
        · have HF := Lib.hid (Lst.more HD.out hlt (by omega) hxt)
          generalize l.getD k 0 = z at *
          have hxt2 : decide (z < t) = false := by simpa using hxt
          go_wp2
          go_round
          case rel => exact ⟨k + 1, t, by omega, by go_num, rfl, HF.out⟩
          case measure => simp [intOf]; omega
    · by_cases hl0 : l.length = 0
      · have hl1 : ((l.length : Int) == 0) = true := by simpa using hl0
        obtain ⟨hv, he⟩ := leastV_nil hl0
        rw [HLV.out] at hv
        rw [HLE.out] at he
        clear hl0
        subst hv he
        go_wp2_with (first | (go_at_call 17; refine (num02_any _ _).mono ?_; rintro e w' ⟨rfl, rfl⟩) | (go_at_call 20; refine (alive02 _).mono ?_; rintro e w9 ⟨rfl, hb9⟩))
        go_ret
        exact ⟨rfl, HB4.out.trans (hb9.mono HB4.out.size)⟩
      · have hl1 : ((l.length : Int) == 0) = false := by simpa using hl0
        by_cases hal : amounts l = true
        · obtain ⟨hv, he⟩ := leastV_ok hl0 hal
          rw [HLV.out, HD.out.done hk hlt hl0] at hv
          rw [HLE.out] at he
          clear hl0
          subst hv he
          have HA3 := Lib.hid (HA.out _ HB4.out)
          rw [hal] at HA3
          clear hal
          go_wp2_with (first | (go_at_call 19; refine HA3.out.mono ?_; rintro e w' ⟨rfl, rfl⟩) | (go_at_call 17; refine (num02_any _ _).mono ?_; rintro e w' ⟨rfl, rfl⟩) | (go_at_call 20; refine (alive02 _).mono ?_; rintro e w9 ⟨rfl, hb9⟩))
          go_ret
          exact ⟨rfl, HB4.out.trans (hb9.mono HB4.out.size)⟩
        · have hal' : amounts l = false := by simpa using hal
          obtain ⟨hv, he⟩ := leastV_bad hl0 hal'
          rw [HLV.out] at hv
          rw [HLE.out] at he
          clear hl0
          subst hv he
          have HA3 := Lib.hid (HA.out _ HB4.out)
          rw [hal'] at HA3
          clear hal hal'
          go_wp2_with (first | (go_at_call 19; refine HA3.out.mono ?_; rintro e w' ⟨rfl, rfl⟩) | (go_at_call 17; refine (num02_any _ _).mono ?_; rintro e w' ⟨rfl, rfl⟩) | (go_at_call 20; refine (alive02 _).mono ?_; rintro e w9 ⟨rfl, hb9⟩))
          go_ret
          exact ⟨rfl, HB4.out.trans (hb9.mono HB4.out.size)⟩

set_option maxRecDepth 100000 in
set_option maxHeartbeats 2000000 in
theorem walk_geqOk (a b p : Int) (x : Option Addr) (c : Nat) (l : List Int) (w : World) (h : IsInts w x l) (ha : InR a) (hb : InR b)
    (hsub : ∀ W, Calls Try.prog 21 #[.int .i64 a, .int .i64 b] W fun e' w' => e' = .returned (.tuple #[.int .i64 (a - b), .int .i64 0]) ∧ Below W.heap.size W w')
    (hmul : ∀ W, Calls Try.prog 27 #[.int .i64 a, .int .i64 b] W fun e' w' => e' = .returned (.tuple #[.int .i64 p, .int .i64 0]) ∧ Below W.heap.size W w')
    (ham : amounts [a, b] = true) (h1 : decide (a < b) = false) (h2 : decide (b ≤ a) = true) (hab : 0 ≤ a - b) (h3 : decide (0 < b) = true) (h4 : (p / b != a) = false) (h5 : decide (p < 0) = false) (h6 : decide (1099511627776 < p) = false) (h7 : (p % b != 0) = false) (h8 : (b == 0) = false) (hp : 0 ≤ p) (hp1 : p ≤ 1099511627776) (hb1 : 1 ≤ b) (_ha0 : 0 ≤ a) (_hb0 : 0 ≤ b) (_ha1 : a ≤ 1099511627776) (_hb1 : b ≤ 1099511627776) :
    Calls Try.prog 7 #[.int .i64 a, .int .i64 b, .slice x l.length c] w fun e w' => e = .returned (.bool true) ∧ Below w.heap.size w w' := by
  have hm := h.len
  have hi := fun W : World => isInts_two W a b ha hb
  have HI := Lib.hid hi
  have HS := Lib.hid hsub
  have HM := Lib.hid hmul
  have HL : Hid (∀ W, Below w.heap.size w W → Calls Try.prog 28 #[.slice x l.length c] W fun e w' => e = .returned (.tuple #[.int .i64 (leastV l), .int .i64 (leastE l)]) ∧ W = w') := fun W hW => least_any x c l W (h.below hW)
  have HA : Hid (∀ W, Below w.heap.size w W → Calls Try.prog 19 #[.slice x l.length c] W fun e w' => e = .returned (.bool (amounts l)) ∧ W = w') := fun W hW => amounts_any x c l W (h.below hW)
  have HA2 : Hid (∀ W : World, Calls Try.prog 19 #[.slice (some ⟨W.heap.size, 0, none⟩) 2 2] (W.alloc (.cells #[.int .i64 a, .int .i64 b] 3)) fun e w' => e = .returned (.bool true) ∧ W.alloc (.cells #[.int .i64 a, .int .i64 b] 3) = w') := fun W => by
    have := amounts_any (some ⟨W.heap.size, 0, none⟩) 2 [a, b] _ (HI.out W)
    rw [ham] at this
    exact this
  have HAM := Lib.hid ham
  have H := Lib.hid h
  clear hi hsub hmul h ham
  go_enter Try.func7, Try.ntmps7
  go_wp2_with fail
  refine (HS.out _).mono ?_
  rintro e' w1 ⟨rfl, hb1⟩
  go_wp2_with fail
  refine (HM.out _).mono ?_
  rintro e' w2 ⟨rfl, hb2⟩
  have hb12 := hb1.trans (hb2.mono hb1.size)
  go_wp2_with fail
  refine (HL.out _ hb12).mono ?_
  rintro e' w3 ⟨rfl, rfl⟩
  go_wp2_with fail
  refine (HA2.out _).mono ?_
  rintro e' w4 ⟨rfl, rfl⟩
  have hb4 : Below w.heap.size w (w2.alloc (.cells #[.int .i64 a, .int .i64 b] 3)) := hb12.alloc hb12.size _
  have h4 := H.out.below hb4
  have HB4 := Lib.hid hb4
  have H4 := Lib.hid h4
  clear hb4 hb12 hb1 hb2 h4
  generalize hlv : leastV l = lv at *
  generalize hle : leastE l = le at *
  have HLV := Lib.hid hlv
  have HLE := Lib.hid hle
  clear hlv hle
  go_wp2_with (go_at_call 17; refine (num02_any _ _).mono ?_; rintro e w' ⟨rfl, rfl⟩)
  go_loop [14, 15] (fun m i => ∃ (k : Nat) (t : Int), k ≤ l.length ∧ i = .int .i64 k ∧ m = .int .i64 t ∧ Lst l k t) (fun _ i => l.length - (intOf i).toNat)
  case atStart => exact ⟨0, 0, Nat.zero_le _, rfl, rfl, .inl ⟨rfl, rfl⟩⟩
  case round =>
    obtain ⟨k, t, hk, rfl, rfl, hd⟩ := hrel
    have HD := Lib.hid hd
    clear hd
    by_cases hlt : k < l.length
    · obtain ⟨b', off, hx, _, hc⟩ := H4.out.at' k hlt
      subst hx
      by_cases h0 : k = 0
      · subst h0
        have HF := Lib.hid (Lst.first hlt)
        have hk0 : ((((0 : Nat) : Int)) == 0) = true := rfl
        generalize l.getD 0 0 = z at *
        simp only [Nat.add_zero] at hc
        go_wp2
        go_round
        case rel => exact ⟨1, z, by omega, rfl, rfl, HF.out⟩
        case measure => simp [intOf]; omega
      · have hk0 : ((k : Int) == 0) = false := by simpa using h0
        by_cases hxt : l.getD k 0 < t
        · have HF := Lib.hid (Lst.less HD.out hlt (by omega) hxt)
          generalize l.getD k 0 = z at *
          have hxt2 : decide (z < t) = true := by simpa using hxt
          go_wp2
          go_round
          case rel => exact ⟨k + 1, z, by omega, by go_num, rfl, HF.out⟩
          case measure => simp [intOf]; omega
        · have HF := Lib.hid (Lst.more HD.out hlt (by omega) hxt)
          generalize l.getD k 0 = z at *
          have hxt2 : decide (z < t) = false := by simpa using hxt
          go_wp2
          go_round
          case rel => exact ⟨k + 1, t, by omega, by go_num, rfl, HF.out⟩
          case measure => simp [intOf]; omega
    · by_cases hl0 : l.length = 0
      · have hl1 : ((l.length : Int) == 0) = true := by simpa using hl0
        obtain ⟨hv, he⟩ := leastV_nil hl0
        rw [HLV.out] at hv
        rw [HLE.out] at he
        clear hl0
        subst hv he
        go_wp2_with (first | (go_at_call 17; refine (num02_any _ _).mono ?_; rintro e w' ⟨rfl, rfl⟩) | (go_at_call 20; refine (alive02 _).mono ?_; rintro e w9 ⟨rfl, hb9⟩))
        go_ret
        exact ⟨rfl, HB4.out.trans (hb9.mono HB4.out.size)⟩
      · have hl1 : ((l.length : Int) == 0) = false := by simpa using hl0
        by_cases hal : amounts l = true
        · obtain ⟨hv, he⟩ := leastV_ok hl0 hal
          rw [HLV.out, HD.out.done hk hlt hl0] at hv
          rw [HLE.out] at he
          clear hl0
          subst hv he
          have HA3 := Lib.hid (HA.out _ HB4.out)
          rw [hal] at HA3
          clear hal
          go_wp2_with (first | (go_at_call 19; refine HA3.out.mono ?_; rintro e w' ⟨rfl, rfl⟩) | (go_at_call 17; refine (num02_any _ _).mono ?_; rintro e w' ⟨rfl, rfl⟩) | (go_at_call 20; refine (alive02 _).mono ?_; rintro e w9 ⟨rfl, hb9⟩))
          go_ret
          exact ⟨rfl, HB4.out.trans (hb9.mono HB4.out.size)⟩
        · have hal' : amounts l = false := by simpa using hal
          obtain ⟨hv, he⟩ := leastV_bad hl0 hal'
          rw [HLV.out] at hv
          rw [HLE.out] at he
          clear hl0
          subst hv he
          have HA3 := Lib.hid (HA.out _ HB4.out)
          rw [hal'] at HA3
          clear hal hal'
          go_wp2_with (first | (go_at_call 19; refine HA3.out.mono ?_; rintro e w' ⟨rfl, rfl⟩) | (go_at_call 17; refine (num02_any _ _).mono ?_; rintro e w' ⟨rfl, rfl⟩) | (go_at_call 20; refine (alive02 _).mono ?_; rintro e w9 ⟨rfl, hb9⟩))
          go_ret
          exact ⟨rfl, HB4.out.trans (hb9.mono HB4.out.size)⟩

set_option maxRecDepth 100000 in
set_option maxHeartbeats 2000000 in
theorem walk_geqOver (a b : Int) (x : Option Addr) (c : Nat) (l : List Int) (w : World) (h : IsInts w x l) (ha : InR a) (hb : InR b)
    (hsub : ∀ W, Calls Try.prog 21 #[.int .i64 a, .int .i64 b] W fun e' w' => e' = .returned (.tuple #[.int .i64 (a - b), .int .i64 0]) ∧ Below W.heap.size W w')
    (hmul : ∀ W, Calls Try.prog 27 #[.int .i64 a, .int .i64 b] W fun e' w' => e' = .returned (.tuple #[.int .i64 0, .int .i64 15]) ∧ Below W.heap.size W w')
    (ham : amounts [a, b] = true) (h1 : decide (a < b) = false) (h2 : decide (b ≤ a) = true) (hab : 0 ≤ a - b) (_h3 : decide (0 < b) = true) (h4 : (b == 0) = false) (h5 : decide (a ≤ 1099511627776 / b) = false) (hb1 : 1 ≤ b) (_ha0 : 0 ≤ a) (_hb0 : 0 ≤ b) (_ha1 : a ≤ 1099511627776) (_hb1 : b ≤ 1099511627776) :
    Calls Try.prog 7 #[.int .i64 a, .int .i64 b, .slice x l.length c] w fun e w' => e = .returned (.bool true) ∧ Below w.heap.size w w' := by
  have hm := h.len
  have hi := fun W : World => isInts_two W a b ha hb
  have HI := Lib.hid hi
  have HS := Lib.hid hsub
  have HM := Lib.hid hmul
  have HL : Hid (∀ W, Below w.heap.size w W → Calls Try.prog 28 #[.slice x l.length c] W fun e w' => e = .returned (.tuple #[.int .i64 (leastV l), .int .i64 (leastE l)]) ∧ W = w') := fun W hW => least_any x c l W (h.below hW)
  have HA : Hid (∀ W, Below w.heap.size w W → Calls Try.prog 19 #[.slice x l.length c] W fun e w' => e = .returned (.bool (amounts l)) ∧ W = w') := fun W hW => amounts_any x c l W (h.below hW)
  have HA2 : Hid (∀ W : World, Calls Try.prog 19 #[.slice (some ⟨W.heap.size, 0, none⟩) 2 2] (W.alloc (.cells #[.int .i64 a, .int .i64 b] 3)) fun e w' => e = .returned (.bool true) ∧ W.alloc (.cells #[.int .i64 a, .int .i64 b] 3) = w') := fun W => by
    have := amounts_any (some ⟨W.heap.size, 0, none⟩) 2 [a, b] _ (HI.out W)
    rw [ham] at this
    exact this
  have HAM := Lib.hid ham
  have H := Lib.hid h
  clear hi hsub hmul h ham
  go_enter Try.func7, Try.ntmps7
  go_wp2_with fail
  refine (HS.out _).mono ?_
  rintro e' w1 ⟨rfl, hb1⟩
  go_wp2_with fail
  refine (HM.out _).mono ?_
  rintro e' w2 ⟨rfl, hb2⟩
  have hb12 := hb1.trans (hb2.mono hb1.size)
  go_wp2_with fail
  refine (HL.out _ hb12).mono ?_
  rintro e' w3 ⟨rfl, rfl⟩
  go_wp2_with fail
  refine (HA2.out _).mono ?_
  rintro e' w4 ⟨rfl, rfl⟩
  have hb4 : Below w.heap.size w (w2.alloc (.cells #[.int .i64 a, .int .i64 b] 3)) := hb12.alloc hb12.size _
  have h4 := H.out.below hb4
  have HB4 := Lib.hid hb4
  have H4 := Lib.hid h4
  clear hb4 hb12 hb1 hb2 h4
  generalize hlv : leastV l = lv at *
  generalize hle : leastE l = le at *
  have HLV := Lib.hid hlv
  have HLE := Lib.hid hle
  clear hlv hle
  go_wp2_with (go_at_call 17; refine (num02_any _ _).mono ?_; rintro e w' ⟨rfl, rfl⟩)
  go_loop [14, 15] (fun m i => ∃ (k : Nat) (t : Int), k ≤ l.length ∧ i = .int .i64 k ∧ m = .int .i64 t ∧ Lst l k t) (fun _ i => l.length - (intOf i).toNat)
  case atStart => exact ⟨0, 0, Nat.zero_le _, rfl, rfl, .inl ⟨rfl, rfl⟩⟩
  case round =>
    obtain ⟨k, t, hk, rfl, rfl, hd⟩ := hrel
    have HD := Lib.hid hd
    clear hd
    by_cases hlt : k < l.length
    · obtain ⟨b', off, hx, _, hc⟩ := H4.out.at' k hlt
      subst hx
      by_cases h0 : k = 0
      · subst h0
        have HF := Lib.hid (Lst.first hlt)
        have hk0 : ((((0 : Nat) : Int)) == 0) = true := rfl
        generalize l.getD 0 0 = z at *
        simp only [Nat.add_zero] at hc
        go_wp2
        go_round
        case rel => exact ⟨1, z, by omega, rfl, rfl, HF.out⟩
        case measure => simp [intOf]; omega
      · have hk0 : ((k : Int) == 0) = false := by simpa using h0
        by_cases hxt : l.getD k 0 < t
        · have HF := Lib.hid (Lst.less HD.out hlt (by omega) hxt)
          generalize l.getD k 0 = z at *
          have hxt2 : decide (z < t) = true := by simpa using hxt
          go_wp2
          go_round
          case rel => exact ⟨k + 1, z, by omega, by go_num, rfl, HF.out⟩
          case measure => simp [intOf]; omega
        · have HF := Lib.hid (Lst.more HD.out hlt (by omega) hxt)
          generalize l.getD k 0 = z at *
          have hxt2 : decide (z < t) = false := by simpa using hxt
          go_wp2
          go_round
          case rel => exact ⟨k + 1, t, by omega, by go_num, rfl, HF.out⟩
          case measure => simp [intOf]; omega
    · by_cases hl0 : l.length = 0
      · have hl1 : ((l.length : Int) == 0) = true := by simpa using hl0
        obtain ⟨hv, he⟩ := leastV_nil hl0
        rw [HLV.out] at hv
        rw [HLE.out] at he
        clear hl0
        subst hv he
        go_wp2_with (first | (go_at_call 17; refine (num02_any _ _).mono ?_; rintro e w' ⟨rfl, rfl⟩) | (go_at_call 20; refine (alive02 _).mono ?_; rintro e w9 ⟨rfl, hb9⟩))
        go_ret
        exact ⟨rfl, HB4.out.trans (hb9.mono HB4.out.size)⟩
      · have hl1 : ((l.length : Int) == 0) = false := by simpa using hl0
        by_cases hal : amounts l = true
        · obtain ⟨hv, he⟩ := leastV_ok hl0 hal
          rw [HLV.out, HD.out.done hk hlt hl0] at hv
          rw [HLE.out] at he
          clear hl0
          subst hv he
          have HA3 := Lib.hid (HA.out _ HB4.out)
          rw [hal] at HA3
          clear hal
          go_wp2_with (first | (go_at_call 19; refine HA3.out.mono ?_; rintro e w' ⟨rfl, rfl⟩) | (go_at_call 17; refine (num02_any _ _).mono ?_; rintro e w' ⟨rfl, rfl⟩) | (go_at_call 20; refine (alive02 _).mono ?_; rintro e w9 ⟨rfl, hb9⟩))
          go_ret
          exact ⟨rfl, HB4.out.trans (hb9.mono HB4.out.size)⟩
        · have hal' : amounts l = false := by simpa using hal
          obtain ⟨hv, he⟩ := leastV_bad hl0 hal'
          rw [HLV.out] at hv
          rw [HLE.out] at he
          clear hl0
          subst hv he
          have HA3 := Lib.hid (HA.out _ HB4.out)
          rw [hal'] at HA3
          clear hal hal'
          go_wp2_with (first | (go_at_call 19; refine HA3.out.mono ?_; rintro e w' ⟨rfl, rfl⟩) | (go_at_call 17; refine (num02_any _ _).mono ?_; rintro e w' ⟨rfl, rfl⟩) | (go_at_call 20; refine (alive02 _).mono ?_; rintro e w9 ⟨rfl, hb9⟩))
          go_ret
          exact ⟨rfl, HB4.out.trans (hb9.mono HB4.out.size)⟩

set_option maxRecDepth 100000 in
set_option maxHeartbeats 2000000 in
theorem walk_geqZero (a b : Int) (x : Option Addr) (c : Nat) (l : List Int) (w : World) (h : IsInts w x l) (ha : InR a) (hb : InR b)
    (hsub : ∀ W, Calls Try.prog 21 #[.int .i64 a, .int .i64 b] W fun e' w' => e' = .returned (.tuple #[.int .i64 (a - b), .int .i64 0]) ∧ Below W.heap.size W w')
    (hmul : ∀ W, Calls Try.prog 27 #[.int .i64 a, .int .i64 b] W fun e' w' => e' = .returned (.tuple #[.int .i64 0, .int .i64 0]) ∧ Below W.heap.size W w')
    (ham : amounts [a, b] = true) (h1 : decide (a < b) = false) (h2 : decide (b ≤ a) = true) (hab : 0 ≤ a - b) (h3 : decide (0 < b) = false) (h8 : (b == 0) = true) (_ha0 : 0 ≤ a) (_hb0 : 0 ≤ b) (_ha1 : a ≤ 1099511627776) (_hb1 : b ≤ 1099511627776) :
    Calls Try.prog 7 #[.int .i64 a, .int .i64 b, .slice x l.length c] w fun e w' => e = .returned (.bool true) ∧ Below w.heap.size w w' := by
  have hm := h.len
  have hi := fun W : World => isInts_two W a b ha hb
  have HI := Lib.hid hi
  have HS := Lib.hid hsub
  have HM := Lib.hid hmul
  have HL : Hid (∀ W, Below w.heap.size w W → Calls Try.prog 28 #[.slice x l.length c] W fun e w' => e = .returned (.tuple #[.int .i64 (leastV l), .int .i64 (leastE l)]) ∧ W = w') := fun W hW => least_any x c l W (h.below hW)
  have HA : Hid (∀ W, Below w.heap.size w W → Calls Try.prog 19 #[.slice x l.length c] W fun e w' => e = .returned (.bool (amounts l)) ∧ W = w') := fun W hW => amounts_any x c l W (h.below hW)
  have HA2 : Hid (∀ W : World, Calls Try.prog 19 #[.slice (some ⟨W.heap.size, 0, none⟩) 2 2] (W.alloc (.cells #[.int .i64 a, .int .i64 b] 3)) fun e w' => e = .returned (.bool true) ∧ W.alloc (.cells #[.int .i64 a, .int .i64 b] 3) = w') := fun W => by
    have := amounts_any (some ⟨W.heap.size, 0, none⟩) 2 [a, b] _ (HI.out W)
    rw [ham] at this
    exact this
  have HAM := Lib.hid ham
  have H := Lib.hid h
  clear hi hsub hmul h ham
  go_enter Try.func7, Try.ntmps7
  go_wp2_with fail
  refine (HS.out _).mono ?_
  rintro e' w1 ⟨rfl, hb1⟩
  go_wp2_with fail
  refine (HM.out _).mono ?_
  rintro e' w2 ⟨rfl, hb2⟩
  have hb12 := hb1.trans (hb2.mono hb1.size)
  go_wp2_with fail
  refine (HL.out _ hb12).mono ?_
  rintro e' w3 ⟨rfl, rfl⟩
  go_wp2_with fail
  refine (HA2.out _).mono ?_
  rintro e' w4 ⟨rfl, rfl⟩
  have hb4 : Below w.heap.size w (w2.alloc (.cells #[.int .i64 a, .int .i64 b] 3)) := hb12.alloc hb12.size _
  have h4 := H.out.below hb4
  have HB4 := Lib.hid hb4
  have H4 := Lib.hid h4
  clear hb4 hb12 hb1 hb2 h4
  generalize hlv : leastV l = lv at *
  generalize hle : leastE l = le at *
  have HLV := Lib.hid hlv
  have HLE := Lib.hid hle
  clear hlv hle
  go_wp2_with (go_at_call 17; refine (num02_any _ _).mono ?_; rintro e w' ⟨rfl, rfl⟩)
  go_loop [14, 15] (fun m i => ∃ (k : Nat) (t : Int), k ≤ l.length ∧ i = .int .i64 k ∧ m = .int .i64 t ∧ Lst l k t) (fun _ i => l.length - (intOf i).toNat)
  case atStart => exact ⟨0, 0, Nat.zero_le _, rfl, rfl, .inl ⟨rfl, rfl⟩⟩
  case round =>
    obtain ⟨k, t, hk, rfl, rfl, hd⟩ := hrel
    have HD := Lib.hid hd
    clear hd
    by_cases hlt : k < l.length
    · obtain ⟨b', off, hx, _, hc⟩ := H4.out.at' k hlt
      subst hx
      by_cases h0 : k = 0
      · subst h0
        have HF := Lib.hid (Lst.first hlt)
        have hk0 : ((((0 : Nat) : Int)) == 0) = true := rfl
        generalize l.getD 0 0 = z at *
        simp only [Nat.add_zero] at hc
        go_wp2
        go_round
        case rel => exact ⟨1, z, by omega, rfl, rfl, HF.out⟩
        case measure => simp [intOf]; omega
      · have hk0 : ((k : Int) == 0) = false := by simpa using h0
        by_cases hxt : l.getD k 0 < t
        · have HF := Lib.hid (Lst.less HD.out hlt (by omega) hxt)
          generalize l.getD k 0 = z at *
          have hxt2 : decide (z < t) = true := by simpa using hxt
          go_wp2
          go_round
          case rel => exact ⟨k + 1, z, by omega, by go_num, rfl, HF.out⟩
          case measure => simp [intOf]; omega
        · have HF := Lib.hid (Lst.more HD.out hlt (by omega) hxt)
          generalize l.getD k 0 = z at *
          have hxt2 : decide (z < t) = false := by simpa using hxt
          go_wp2
          go_round
          case rel => exact ⟨k + 1, t, by omega, by go_num, rfl, HF.out⟩
          case measure => simp [intOf]; omega
    · by_cases hl0 : l.length = 0
      · have hl1 : ((l.length : Int) == 0) = true := by simpa using hl0
        obtain ⟨hv, he⟩ := leastV_nil hl0
        rw [HLV.out] at hv
        rw [HLE.out] at he
        clear hl0
        subst hv he
        go_wp2_with (first | (go_at_call 17; refine (num02_any _ _).mono ?_; rintro e w' ⟨rfl, rfl⟩) | (go_at_call 20; refine (alive02 _).mono ?_; rintro e w9 ⟨rfl, hb9⟩))
        go_ret
        exact ⟨rfl, HB4.out.trans (hb9.mono HB4.out.size)⟩
      · have hl1 : ((l.length : Int) == 0) = false := by simpa using hl0
        by_cases hal : amounts l = true
        · obtain ⟨hv, he⟩ := leastV_ok hl0 hal
          rw [HLV.out, HD.out.done hk hlt hl0] at hv
          rw [HLE.out] at he
          clear hl0
          subst hv he
          have HA3 := Lib.hid (HA.out _ HB4.out)
          rw [hal] at HA3
          clear hal
          go_wp2_with (first | (go_at_call 19; refine HA3.out.mono ?_; rintro e w' ⟨rfl, rfl⟩) | (go_at_call 17; refine (num02_any _ _).mono ?_; rintro e w' ⟨rfl, rfl⟩) | (go_at_call 20; refine (alive02 _).mono ?_; rintro e w9 ⟨rfl, hb9⟩))
          go_ret
          exact ⟨rfl, HB4.out.trans (hb9.mono HB4.out.size)⟩
        · have hal' : amounts l = false := by simpa using hal
          obtain ⟨hv, he⟩ := leastV_bad hl0 hal'
          rw [HLV.out] at hv
          rw [HLE.out] at he
          clear hl0
          subst hv he
          have HA3 := Lib.hid (HA.out _ HB4.out)
          rw [hal'] at HA3
          clear hal hal'
          go_wp2_with (first | (go_at_call 19; refine HA3.out.mono ?_; rintro e w' ⟨rfl, rfl⟩) | (go_at_call 17; refine (num02_any _ _).mono ?_; rintro e w' ⟨rfl, rfl⟩) | (go_at_call 20; refine (alive02 _).mono ?_; rintro e w9 ⟨rfl, hb9⟩))
          go_ret
          exact ⟨rfl, HB4.out.trans (hb9.mono HB4.out.size)⟩

theorem mul_facts {a b : Int} (ha : 0 ≤ a) (hb : 0 < b) (h : ¬ 1099511627776 / b < a) : (a * b / b != a) = false ∧ decide (a * b < 0) = false ∧ decide (1099511627776 < a * b) = false ∧ (a * b % b != 0) = false ∧ 0 ≤ a * b ∧ a * b ≤ 1099511627776 := by
  obtain ⟨h0, h1⟩ := mul_le ha hb h
  refine ⟨by simp [Int.mul_ediv_cancel a (show b ≠ 0 by omega)], by simpa using h0, by simpa using h1, by simp, h0, h1⟩

theorem walk (a b : Int) (x : Option Addr) (c : Nat) (l : List Int) (w : World) (h : IsInts w x l) (ha : InR a) (hb : InR b) :
    Calls Try.prog 7 #[.int .i64 a, .int .i64 b, .slice x l.length c] w fun e w' => e = .returned (.bool true) ∧ Below w.heap.size w w' := by
  have hsub := fun W => sub_any a b W ha hb
  have hmul := fun W => mul_any a b W ha hb
  by_cases ham : amounts [a, b] = true
  · obtain ⟨ha0, ha1, hb0, hb1⟩ := (amounts_two a b).1 ham
    have hs : (a < b ∧ subV a b = 0 ∧ subE a b = 16) ∨ (¬ a < b ∧ subV a b = a - b ∧ subE a b = 0) := by
      by_cases hlt : a < b
      · exact .inl ⟨hlt, by simp [subV, subE, ham, hlt]⟩
      · exact .inr ⟨hlt, by simp [subV, subE, ham, hlt]⟩
    have hm : (¬ 0 < b ∧ mulV a b = 0 ∧ mulE a b = 0) ∨ (0 < b ∧ 1099511627776 / b < a ∧ mulV a b = 0 ∧ mulE a b = 15) ∨ (0 < b ∧ ¬ 1099511627776 / b < a ∧ mulV a b = a * b ∧ mulE a b = 0) := by
      by_cases hb' : 0 < b
      · by_cases hlt : 1099511627776 / b < a
        · exact .inr (.inl ⟨hb', hlt, by simp [mulV, mulE, ham, hlt, hb']⟩)
        · exact .inr (.inr ⟨hb', hlt, by simp [mulV, mulE, ham, hlt]⟩)
      · have : b = 0 := by omega
        subst this
        exact .inl ⟨by omega, by simp [mulV, mulE, ham]⟩
    rcases hs with ⟨hlt, s1, s2⟩ | ⟨hlt, s1, s2⟩
    · simp only [s1, s2] at hsub
      rcases hm with ⟨hb', m1, m2⟩ | ⟨hb', hd, m1, m2⟩ | ⟨hb', hd, m1, m2⟩
      · omega
      · simp only [m1, m2] at hmul
        exact walk_lessOver a b x c l w h ha hb hsub hmul ham (by simpa using hlt) (by simpa using hlt) (by simpa using hb') (by simp; omega) (by simpa using hd) (by omega) ha0 hb0 ha1 hb1
      · simp only [m1, m2] at hmul
        obtain ⟨f1, f2, f3, f4, f5, f6⟩ := mul_facts ha0 hb' hd
        exact walk_lessOk a b (a * b) x c l w h ha hb hsub hmul ham (by simpa using hlt) (by simpa using hlt) (by simpa using hb') f1 f2 f3 f4 (by simp; omega) f5 f6 (by omega) ha0 hb0 ha1 hb1
    · simp only [s1, s2] at hsub
      rcases hm with ⟨hb', m1, m2⟩ | ⟨hb', hd, m1, m2⟩ | ⟨hb', hd, m1, m2⟩
      · simp only [m1, m2] at hmul
        exact walk_geqZero a b x c l w h ha hb hsub hmul ham (by simpa using hlt) (by simpa using hlt) (by omega) (by simpa using hb') (by simp; omega) ha0 hb0 ha1 hb1
      · simp only [m1, m2] at hmul
        exact walk_geqOver a b x c l w h ha hb hsub hmul ham (by simpa using hlt) (by simpa using hlt) (by omega) (by simpa using hb') (by simp; omega) (by simpa using hd) (by omega) ha0 hb0 ha1 hb1
      · simp only [m1, m2] at hmul
        obtain ⟨f1, f2, f3, f4, f5, f6⟩ := mul_facts ha0 hb' hd
        exact walk_geqOk a b (a * b) x c l w h ha hb hsub hmul ham (by simpa using hlt) (by simpa using hlt) (by omega) (by simpa using hb') f1 f2 f3 f4 (by simp; omega) f5 f6 (by omega) ha0 hb0 ha1 hb1
  · have s : subV a b = 0 ∧ subE a b = 4 ∧ mulV a b = 0 ∧ mulE a b = 4 := by simp [subV, subE, mulV, mulE, ham]
    simp only [s] at hsub hmul
    exact walk_bad a b x c l w h ha hb hsub hmul (by simpa using ham)

set_option maxRecDepth 100000 in
theorem lifted (os : Os) (started : os.Started) (H : Type) (enc : TypeId × Value → H) :
    ReturnsInHanded {} Try.checked os 7 .any (Rows.countTellsSpec.pre6 enc Try.prog Try.f7 Rows.countTellsRow.domain false) (Rows.countTellsSpec.post enc Try.prog Try.f7 false true false false) := by
  refine returnsInHanded_of_change (C := Try.checked) own started (by kernel_rfl) Try.func7
    (ChangeSpec.witness6 (enc := enc) (C := Try.checked) false ⟨#[], #[.int .i64 0, .int .i64 0, .slice none 0 0], []⟩ 8 (by kernel_rfl) (by kernel_rfl) (by kernel_rfl) (by kernel_rfl)) ?_
  intro W base args ds gs before hval0 hW hcnd _
  have hval : ∀ (j : Nat) t v, Try.f7.params[j]? = some t → args[j]? = some v → Value.okWide Try.prog W .any base t v := hval0
  have hW' := hW
  obtain ⟨p, q, hA0, hV, rfl, hfz, hnd⟩ := hW
  have hA : DataW.TrodAll enc Try.prog W 0 (fun _ => true) true Try.f7.params.toList args.toList ds p := hA0
  rw [Try.params7] at hA hval
  obtain ⟨v0, vs0, d0, ds0, p0, q0, hargs, rfl, rfl, h0, r0⟩ := trodAll_cons hA
  obtain ⟨v1, vs1, d1, ds1, p1, q1, rfl, rfl, rfl, h1, r1⟩ := trodAll_cons r0
  obtain ⟨v2, vs2, d2, ds2, p2, q2, rfl, rfl, rfl, h2, r2⟩ := trodAll_cons r1
  obtain ⟨rfl, rfl, rfl⟩ := trodAll_nil r2
  obtain rfl : args = #[v0, v1, v2] := by cases args; simp_all
  obtain ⟨rfl, rfl⟩ := trodVars_none hV
  obtain ⟨a0, rfl, rfl, rfl, w0⟩ := open_int Try.underlying3 (hval 0 3 v0 rfl rfl) h0
  obtain ⟨a1, rfl, rfl, rfl, w1⟩ := open_int Try.underlying3 (hval 1 3 v1 rfl rfl) h1
  have k2 := h2
  have lt2 : ∀ x ∈ p2, x.block < W.heap.size := by obtain ⟨m, hm⟩ := k2; exact DataW.trod_lt m _ _ _ hm
  obtain ⟨x2, n2, c2, rfl⟩ := okWide_slice Try.underlying22 (hval 2 22 v2 rfl rfl)
  obtain ⟨l2, rfl, w2⟩ := ints_in h2
  clear hA0 hval0
  refine (walk a0 a1 x2 c2 l2 W w2 (inR_of_wf w0) (inR_of_wf w1)).mono fun e W' ⟨he, bel⟩ => ?_
  subst he
  exact ⟨_, rfl, _, _, _, [], _, [], hW', trodAll_mk1 (shut_bool Try.underlying4 _), (trodAll_cons_mk (shut_int Try.underlying3 w0) (trodAll_cons_mk (shut_int Try.underlying3 w1) (trodAll_cons_mk (Below.trod laidOut (by kernel_rfl) (of_decide_eq_true (by kernel_rfl)) k2 bel lt2) trodAll_mk0))), rfl, bel.frame _, fun h => by cases h⟩

theorem over : Rows.countTellsRow.holds Try.pinned (OpenSpec.ofChange Rows.countTellsSpec) :=
  OpenClaim.holds_of_wide 7 Try.f7 rfl rfl rfl rfl rfl rfl rfl ⟨rfl, rfl, rfl, rfl, rfl⟩ rfl rfl rfl rfl rfl (by kernel_rfl) Try.func7 (by kernel_rfl)
    (of_decide_eq_true (by kernel_rfl)) (by unfold Func.isWrapper; first | (rw [if_pos (by decide +kernel)]; kernel_rfl) | (rw [if_neg (by decide +kernel)]; exact ⟨rfl, rfl⟩))
    (fun os started H enc _ => lifted os started H enc)

/-- THE STATEMENT -/
theorem proved : Rows.CountTellsSaid := over
#print axioms proved
end Go.Proofs.Ytbkghiaafkmapaa.countTells
