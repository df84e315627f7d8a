/- Walks of the reference's tags, properties and contents. No condition but that what comes in reads as data. -/
import Derived.Test.YtbkghiaafkmapaaSplit
namespace Go.Proofs.Ytbkghiaafkmapaa
open Go.ChangeShapes Go.WideShapes Go.ChangeAt Go.RowKit

theorem range_step (f : Nat → Bool) (k : Nat) : (List.range (k + 1)).all f = ((List.range k).all f && f k) := by
  rw [List.range_succ, List.all_append]; simp
theorem range_bad (f : Nat → Bool) {n k : Nat} (hk : k < n) (h : f k = false) : (List.range n).all f = false := by
  rw [List.all_eq_false]; exact ⟨k, List.mem_range.2 hk, by simp [h]⟩
theorem Name_b (s : ByteArray) (w : World) (hs : s.size ≤ 140737488355328) : Calls Try.prog 76 #[.string s] w fun e w' => e = .returned (.bool (nameB s)) ∧ Below w.heap.size w w' :=
  (Name_any s w hs).mono fun e w' h => ⟨h.1, by rw [← h.2]; exact Below.refl _ _⟩
theorem value_b (s : ByteArray) (w : World) (hs : s.size ≤ 140737488355328) : Calls Try.prog 78 #[.string s] w fun e w' => e = .returned (.bool (valueB s)) ∧ Below w.heap.size w w' :=
  (value_any s w hs).mono fun e w' h => ⟨h.1, by rw [← h.2]; exact Below.refl _ _⟩
theorem amount_b (n least : Int) (w : World) : Calls Try.prog 77 #[.int .i64 n, .int .i64 least] w fun e w' => e = .returned (.bool (amountB n least)) ∧ Below w.heap.size w w' :=
  (amount_any n least w).mono fun e w' h => ⟨h.1, by rw [← h.2]; exact Below.refl _ _⟩
/-- is a text at most another? -/
def leS (a b : ByteArray) : Bool := Op.bytesLess a.toList b.toList || a.toList == b.toList
theorem leS_ways (a b : ByteArray) : (leS a b = true ∧ Op.bytesLess a.toList b.toList = true) ∨ (leS a b = true ∧ Op.bytesLess a.toList b.toList = false ∧ (a.toList == b.toList) = true) ∨ (leS a b = false ∧ Op.bytesLess a.toList b.toList = false ∧ (a.toList == b.toList) = false) := by
  unfold leS
  cases Op.bytesLess a.toList b.toList <;> cases (a.toList == b.toList) <;> simp

def condTag (l : List ByteArray) (i : Nat) : Bool := !nameB (l.getD i ⟨#[]⟩) || (decide (0 < i) && leS (l.getD i ⟨#[]⟩) (l.getD (i - 1) ⟨#[]⟩))
def tagsB (l : List ByteArray) : Bool := (List.range l.length).all (fun i => !condTag l i) && decide (l.length ≤ 4)
theorem tag_ways (x y : ByteArray) (k : Nat) :
    (nameB x = false ∧ True ∧ (!nameB x || (decide (0 < k) && leS x y)) = true) ∨
    (nameB x = true ∧ k = 0 ∧ (!nameB x || (decide (0 < k) && leS x y)) = false) ∨
    (nameB x = true ∧ 0 < k ∧ (!nameB x || (decide (0 < k) && leS x y)) = leS x y) := by
  cases nameB x
  · exact .inl ⟨rfl, trivial, by simp⟩
  · rcases Nat.eq_zero_or_pos k with h | h
    · exact .inr (.inl ⟨rfl, h, by simp [h]⟩)
    · exact .inr (.inr ⟨rfl, h, by simp [h]⟩)
set_option maxRecDepth 100000 in
set_option maxHeartbeats 4000000 in
theorem tags_any (a : Option Addr) (c : Nat) (l : List ByteArray) (w : World) (h : IsStrs w ⟨a, c, l⟩) :
    Calls Try.prog 93 #[.slice a l.length c] w fun e w' => e = .returned (.bool (tagsB l)) ∧ Below w.heap.size w w' := by
  have HT : Hid (tagsB l = ((List.range l.length).all (fun i => !condTag l i) && decide (l.length ≤ 4))) := rfl
  have hlen := IsSl.len h
  dsimp only at hlen
  have HL := Lib.hid h
  generalize tagsB l = tb at *
  clear h
  go_enter Try.func93, Try.ntmps93
  go_wp2_with fail
  go_loopw [3] (fun i wr => ∃ k : Nat, k ≤ l.length ∧ i = .int .i64 k ∧ (List.range k).all (fun i => !condTag l i) = true ∧ Below w.heap.size w wr) (fun i _ => l.length - (intOf i).toNat)
  case atStart => exact ⟨0, Nat.zero_le _, rfl, rfl, Below.refl _ _⟩
  case round =>
    obtain ⟨k, hk, rfl, hd, hb⟩ := hrel
    have HD := Lib.hid hd
    have HB := Lib.hid hb
    clear hd hb
    by_cases hlt : k < l.length
    · have hl0 : (0 : Int) ≤ (k : Int) := by omega
      have hl1 : (k : Int) < (l.length : Int) := by omega
      obtain ⟨x, b, off, hx, ha, hbw, hx0, hxo⟩ := (HL.out.below HB.out).get hlt
      obtain ⟨y, b', off', hy, ha', -, hy0, -⟩ := (HL.out.below HB.out).get (show k - 1 < l.length by omega)
      obtain ⟨rfl, rfl⟩ : b = b' ∧ off = off' := by rw [ha] at ha'; simpa using ha'
      clear ha'
      have hN := fun W => Name_b x W hxo
      have HST := Lib.hid (range_step (fun i => !condTag l i) k)
      have HF := Lib.hid (fun h => range_bad (fun i => !condTag l i) hlt h)
      have hcd : condTag l k = (!nameB x || (decide (0 < k) && leS x y)) := by simp [condTag, List.getD, hx, hy]
      have hA : At wr [(b, off + k, .string x), (b, off + (k - 1), .string y)] := .cons hbw hx0 (.cons hbw hy0 (.nil _))
      have HA := Lib.hid hA
      have HCD := Lib.hid hcd
      subst ha
      clear hx hy hx0 hy0 hA hcd
      go_wp2_with fail
      rcases tag_ways x y k with ⟨hn, -, hc⟩ | ⟨hn, hk0, hc⟩ | ⟨hn, hk0, hc⟩
      · rw [hn] at hN
        have HN := Lib.hid hN
        have HC : Hid (condTag l k = true) := by show _ = _; rw [HCD.out, hc]
        have HC2 : Hid ((fun i => !condTag l i) k = false) := by show (!condTag l k) = false; rw [HC.out]; rfl
        clear hc hN hn
        refine region_C (by kernel_rfl) (by kernel_rfl) (Cls.start HA.out) ?_
        repeat (first | go_big_quiet_skip | (go_big_quiet_want; (first | (apply q_val; (· (rintro w' ⟨hA, -⟩; have c0 := hA.hd; have c1 := hA.tl.hd; clear hA; go_simp; try rfl))) | (apply q_call 76; (· (rintro w' ⟨hA, -⟩; have c0 := hA.hd; have c1 := hA.tl.hd; clear hA; go_simp; try rfl)); (· (intro w' hC; exact (HN.out _).mono (fun e w'' h => ⟨h.1, hC.later h.2⟩))))); simp only [Act.put, List.setIfInBounds_toArray, List.set_cons_zero, List.set_cons_succ]; go_big_quiet_on))
        refine wpQuiet_nil ?_
        intro w2 hC2
        have HB2 := Lib.hid (HB.out.trans (hC2.2.mono HB.out.size))
        clear hC2
        go_wp2_with fail
        go_ret
        exact ⟨by rw [HT.out, HF.out HC2.out]; rfl, HB2.out⟩
      · rw [hn] at hN
        have HN := Lib.hid hN
        have h7 : decide ((0 : Int) < (k : Int)) = false := by simp; omega
        have h7n : decide (0 < k) = false := by simp; omega
        have HC : Hid (condTag l k = false) := by show _ = _; rw [HCD.out, hc]
        clear hc hN hn hk0
        refine region_C (by kernel_rfl) (by kernel_rfl) (Cls.start HA.out) ?_
        repeat (first | go_big_quiet_skip | (go_big_quiet_want; (first | (apply q_val; (· (rintro w' ⟨hA, -⟩; have c0 := hA.hd; have c1 := hA.tl.hd; clear hA; go_simp; try rfl))) | (apply q_call 76; (· (rintro w' ⟨hA, -⟩; have c0 := hA.hd; have c1 := hA.tl.hd; clear hA; go_simp; try rfl)); (· (intro w' hC; exact (HN.out _).mono (fun e w'' h => ⟨h.1, hC.later h.2⟩))))); simp only [Act.put, List.setIfInBounds_toArray, List.set_cons_zero, List.set_cons_succ]; go_big_quiet_on))
        refine wpQuiet_nil ?_
        intro w2 hC2
        have HB2 := Lib.hid (HB.out.trans (hC2.2.mono HB.out.size))
        clear hC2
        go_wp2_with fail
        go_roundw
        case rel => exact ⟨k + 1, by omega, by go_num, by rw [HST.out, HD.out, HC.out]; rfl, HB2.out⟩
        case measure => simp [intOf]; omega
      · have h7 : decide ((0 : Int) < (k : Int)) = true := by simp; omega
        have h8 : ((k : Int) - 1).toNat = k - 1 := by omega
        have h9 : (1 : Int) ≤ (k : Int) := by omega
        have h10 : 1 ≤ k := by omega
        have h11 : IntKind.i64.wrap ((k : Int) - 1) = (k : Int) - 1 := by rw [i64_wrap]; exact wrap_in (by unfold InR; omega)
        have h12 : (0 : Int) ≤ (k : Int) - 1 := by omega
        have h13 : (k : Int) - 1 < (l.length : Int) := by omega
        rw [hn] at hN
        have HN := Lib.hid hN
        clear hN hn
        rcases leS_ways x y with ⟨hl2, h5⟩ | ⟨hl2, h5, h6⟩ | ⟨hl2, h5, h6⟩
        · replace hc := hc.trans hl2
          have HC : Hid (condTag l k = true) := by show _ = _; rw [HCD.out, hc]
          have HC2 : Hid ((fun i => !condTag l i) k = false) := by show (!condTag l k) = false; rw [HC.out]; rfl
          clear hc hl2
          refine region_C (by kernel_rfl) (by kernel_rfl) (Cls.start HA.out) ?_
          repeat (first | go_big_quiet_skip | (go_big_quiet_want; (first | (apply q_val; (· (rintro w' ⟨hA, -⟩; have c0 := hA.hd; have c1 := hA.tl.hd; clear hA; go_simp; try rfl))) | (apply q_call 76; (· (rintro w' ⟨hA, -⟩; have c0 := hA.hd; have c1 := hA.tl.hd; clear hA; go_simp; try rfl)); (· (intro w' hC; exact (HN.out _).mono (fun e w'' h => ⟨h.1, hC.later h.2⟩))))); simp only [Act.put, List.setIfInBounds_toArray, List.set_cons_zero, List.set_cons_succ]; go_big_quiet_on))
          refine wpQuiet_nil ?_
          intro w2 hC2
          have HB2 := Lib.hid (HB.out.trans (hC2.2.mono HB.out.size))
          clear hC2
          go_wp2_with fail
          go_ret
          exact ⟨by rw [HT.out, HF.out HC2.out]; rfl, HB2.out⟩
        · replace hc := hc.trans hl2
          have HC : Hid (condTag l k = true) := by show _ = _; rw [HCD.out, hc]
          have HC2 : Hid ((fun i => !condTag l i) k = false) := by show (!condTag l k) = false; rw [HC.out]; rfl
          clear hc hl2
          refine region_C (by kernel_rfl) (by kernel_rfl) (Cls.start HA.out) ?_
          repeat (first | go_big_quiet_skip | (go_big_quiet_want; (first | (apply q_val; (· (rintro w' ⟨hA, -⟩; have c0 := hA.hd; have c1 := hA.tl.hd; clear hA; go_simp; try rfl))) | (apply q_call 76; (· (rintro w' ⟨hA, -⟩; have c0 := hA.hd; have c1 := hA.tl.hd; clear hA; go_simp; try rfl)); (· (intro w' hC; exact (HN.out _).mono (fun e w'' h => ⟨h.1, hC.later h.2⟩))))); simp only [Act.put, List.setIfInBounds_toArray, List.set_cons_zero, List.set_cons_succ]; go_big_quiet_on))
          refine wpQuiet_nil ?_
          intro w2 hC2
          have HB2 := Lib.hid (HB.out.trans (hC2.2.mono HB.out.size))
          clear hC2
          go_wp2_with fail
          go_ret
          exact ⟨by rw [HT.out, HF.out HC2.out]; rfl, HB2.out⟩
        · replace hc := hc.trans hl2
          have HC : Hid (condTag l k = false) := by show _ = _; rw [HCD.out, hc]
          clear hc hl2
          refine region_C (by kernel_rfl) (by kernel_rfl) (Cls.start HA.out) ?_
          repeat (first | go_big_quiet_skip | (go_big_quiet_want; (first | (apply q_val; (· (rintro w' ⟨hA, -⟩; have c0 := hA.hd; have c1 := hA.tl.hd; clear hA; go_simp; try rfl))) | (apply q_call 76; (· (rintro w' ⟨hA, -⟩; have c0 := hA.hd; have c1 := hA.tl.hd; clear hA; go_simp; try rfl)); (· (intro w' hC; exact (HN.out _).mono (fun e w'' h => ⟨h.1, hC.later h.2⟩))))); simp only [Act.put, List.setIfInBounds_toArray, List.set_cons_zero, List.set_cons_succ]; go_big_quiet_on))
          refine wpQuiet_nil ?_
          intro w2 hC2
          have HB2 := Lib.hid (HB.out.trans (hC2.2.mono HB.out.size))
          clear hC2
          go_wp2_with fail
          go_roundw
          case rel => exact ⟨k + 1, by omega, by go_num, by rw [HST.out, HD.out, HC.out]; rfl, HB2.out⟩
          case measure => simp [intOf]; omega
    · have HA2 : Hid ((List.range l.length).all (fun i => !condTag l i) = true) := by
        obtain rfl : k = l.length := by omega
        exact HD.out
      go_wp2_with fail
      go_ret
      exact ⟨by rw [HT.out, HA2.out]; simp; try omega, HB.out⟩
end Go.Proofs.Ytbkghiaafkmapaa
