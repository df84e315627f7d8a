/- Walks of the reference's values, parts and paths. No condition but a string's size. -/
import Derived.Test.YtbkghiaafkmapaaNames
import Derived.Test.YtbkghiaafkmapaaRowed
import Derived.Deep.LoopGhost
namespace Go.Proofs.Ytbkghiaafkmapaa
open Go.ChangeShapes Go.WideShapes Go.ChangeAt Go.RowKit

/-- may a text be a property's value? -/
def valueB (s : ByteArray) : Bool := s.data.toList.all (fun c => decide (32 ≤ c.toNat) && decide (c.toNat ≤ 126)) && decide (s.size ≤ 32)
set_option maxHeartbeats 1000000 in
theorem value_any (s : ByteArray) (w : World) (hs : s.size ≤ 140737488355328) : Calls Try.prog 78 #[.string s] w fun e w' => e = .returned (.bool (valueB s)) ∧ w = w' := by
  have HN : Hid (valueB s = (s.data.toList.all (fun c => decide (32 ≤ c.toNat) && decide (c.toNat ≤ 126)) && decide (s.size ≤ 32))) := rfl
  generalize valueB s = nb at *
  go_enter Try.func78, Try.ntmps78
  go_wp2
  go_loop [3] (fun i => ∃ k : Nat, k ≤ s.size ∧ i = .int .i64 k ∧ (s.data.toList.take k).all (fun c => decide (32 ≤ c.toNat) && decide (c.toNat ≤ 126)) = true) (fun i => s.size - (intOf i).toNat)
  case atStart => exact ⟨0, Nat.zero_le _, rfl, rfl⟩
  case round =>
    obtain ⟨k, hk, rfl, hd⟩ := hrel
    have HD := Lib.hid hd
    clear hd
    by_cases hlt : k < s.size
    · have HS := Lib.hid (str_take_step s hlt (fun c => decide (32 ≤ c.toNat) && decide (c.toNat ≤ 126)))
      have HM := Lib.hid (str_mem s hlt)
      by_cases h1 : s[k].toNat < 32
      · have h1' : decide ((s[k].toNat : Int) < 32) = true := by simp; omega
        have HF : Hid (s.data.toList.all (fun c => decide (32 ≤ c.toNat) && decide (c.toNat ≤ 126)) = false) := by
          show _ = _
          rw [List.all_eq_false]
          exact ⟨s[k], HM.out, by simp; omega⟩
        go_wp2
        go_ret
        exact ⟨by rw [HN.out, HF.out]; rfl, rfl⟩
      · have h1' : decide ((s[k].toNat : Int) < 32) = false := by simp; omega
        by_cases h2 : 126 < s[k].toNat
        · have h2' : decide ((126 : Int) < (s[k].toNat : Int)) = true := by simp; omega
          have HF : Hid (s.data.toList.all (fun c => decide (32 ≤ c.toNat) && decide (c.toNat ≤ 126)) = false) := by
            show _ = _
            rw [List.all_eq_false]
            exact ⟨s[k], HM.out, by simp; omega⟩
          go_wp2
          go_ret
          exact ⟨by rw [HN.out, HF.out]; rfl, rfl⟩
        · have h2' : decide ((126 : Int) < (s[k].toNat : Int)) = false := by simp; omega
          have HB : Hid ((decide (32 ≤ s[k].toNat) && decide (s[k].toNat ≤ 126)) = true) := by show _ = _; simp; omega
          go_wp2
          go_round
          case rel => exact ⟨k + 1, by omega, by go_num, by rw [HS.out, HD.out, HB.out]; rfl⟩
          case measure => simp [intOf]; omega
    · have HA : Hid (s.data.toList.all (fun c => decide (32 ≤ c.toNat) && decide (c.toNat ≤ 126)) = true) := by show _ = _; have := HD.out; rwa [str_full s hlt] at this
      have HX : Hid (nb = decide (s.size ≤ 32)) := by show _ = _; rw [HN.out, HA.out]; simp
      go_wp2
      go_ret
      exact ⟨by rw [HX.out]; simp; try omega, rfl⟩

theorem str_getD (s : ByteArray) {k : Nat} (hk : k < s.size) : s.data.toList.getD k 0 = s[k] := by
  rw [List.getD_eq_getElem?_getD, List.getElem?_eq_getElem (by rw [str_len]; exact hk)]; rfl
/-- the parts between an octet, k octets read: where the last begins, and those ahead of it -/
def partsAt (s : ByteArray) (c : Int) : Nat → Nat × List ByteArray
  | 0 => (0, [])
  | k + 1 => if ((s.data.toList.getD k 0).toNat : Int) = c then (k + 1, (partsAt s c k).2 ++ [s.extract (partsAt s c k).1 k]) else partsAt s c k
def partsL (s : ByteArray) (c : Int) : List ByteArray := (partsAt s c s.size).2 ++ [s.extract (partsAt s c s.size).1 s.size]
theorem partsAt_le (s : ByteArray) (c : Int) : ∀ k, (partsAt s c k).1 ≤ k ∧ (partsAt s c k).2.length ≤ k
  | 0 => ⟨Nat.le_refl _, Nat.le_refl _⟩
  | k + 1 => by
    have h := partsAt_le s c k
    unfold partsAt
    split
    · exact ⟨Nat.le_refl _, by simp; omega⟩
    · omega
theorem extract_size (s : ByteArray) (a b : Nat) : (s.extract a b).size ≤ s.size := by
  simp only [ByteArray.size_extract]; omega
theorem partsAt_size (s : ByteArray) (c : Int) : ∀ k, ∀ x ∈ (partsAt s c k).2, x.size ≤ s.size
  | 0, x, h => by simp [partsAt] at h
  | k + 1, x, h => by
    unfold partsAt at h
    split at h
    · rcases List.mem_append.1 h with h | h
      · exact partsAt_size s c k x h
      · have : x = s.extract (partsAt s c k).1 k := by simpa using h
        subst this
        exact extract_size _ _ _
    · exact partsAt_size s c k x h
theorem partsL_size (s : ByteArray) (c : Int) : ∀ x ∈ partsL s c, x.size ≤ s.size := by
  intro x h
  rcases List.mem_append.1 h with h | h
  · exact partsAt_size s c _ x h
  · have : x = s.extract (partsAt s c s.size).1 s.size := by simpa using h
    subst this
    exact extract_size _ _ _
theorem info9 : (Try.prog.info? 9).map (fun i => (i.zero, i.size, i.bytes)) = some (some (.string .empty), 1, 16) := by kernel_rfl
def cellStr (s : ByteArray) : List Value := [.string s]
theorem strs_flat (l : List ByteArray) : l.map Value.string = l.flatMap (fun s : ByteArray => [Value.string s]) := by
  induction l with
  | nil => rfl
  | cons x l ih => rw [List.map_cons, List.flatMap_cons, ih]; rfl
/-- a row of strings that the call owns, as a list that reads -/
theorem strs_owned {w : World} {base : Nat} {v : Value} {l : List ByteArray} (h : w.ownsRow base 9 1 v l.length (l.map Value.string)) (hlen : l.length * 16 ≤ 140737488355328) (hr : ∀ z ∈ l, okStr z) :
    ∃ a c, v = .slice a l.length c ∧ IsStrs w ⟨a, c, l⟩ := by
  rcases h.2 with ⟨rfl, h0⟩ | ⟨g, cap, cur, hv, -⟩
  · obtain rfl : l = [] := List.eq_nil_of_length_eq_zero h0
    exact ⟨none, 0, rfl, isSl_nil⟩
  · subst hv
    obtain ⟨_, hg, hrow⟩ := owned_cell h
    have e := strs_flat l
    exact ⟨_, cap, rfl, isSl_of_row (cells := fun s : ByteArray => [.string s]) (fun _ => rfl) hlen hg (fun j u hj => (hrow j u (by rw [e]; exact hj)).1) hr⟩

set_option maxRecDepth 100000 in
set_option maxHeartbeats 2000000 in
theorem Parts_any (s : ByteArray) (c : Int) (w : World) (hs : s.size ≤ 1048576) :
    Calls Try.prog 86 #[.string s, .int .u8 c] w fun e w' => ∃ a cp, e = .returned (.slice a (partsL s c).length cp) ∧ IsStrs w' ⟨a, cp, partsL s c⟩ ∧ Below w.heap.size w w' := by
  have HP : Hid (partsL s c = (partsAt s c s.size).2 ++ [s.extract (partsAt s c s.size).1 s.size]) := rfl
  have HZ := Lib.hid (partsL_size s c)
  have HLE := Lib.hid (partsAt_le s c)
  generalize partsL s c = pl at *
  obtain ⟨i0, hi, hz0, hz1, hz2⟩ := info_parts info9
  have HI := Lib.hid (And.intro hi (And.intro hz0 (And.intro hz1 hz2)))
  clear hi hz0 hz1 hz2
  go_enter Try.func86, Try.ntmps86
  go_wp2_with fail
  go_loopw [5, 6, 7] (fun v f i wr => ∃ k : Nat, k ≤ s.size ∧ i = .int .i64 k ∧ f = .int .i64 (partsAt s c k).1 ∧ Below w.heap.size w wr ∧ wr.ownsRow w.heap.size 9 1 v (partsAt s c k).2.length ((partsAt s c k).2.map Value.string)) (fun _ _ i _ => s.size - (intOf i).toNat)
  case atStart => exact ⟨0, Nat.zero_le _, rfl, rfl, Below.refl _ _, by simp [World.ownsRow, partsAt]⟩
  case round =>
    obtain ⟨k, hk, rfl, rfl, hB, hO⟩ := hrel
    have HB := Lib.hid hB
    have HO := Lib.hid hO
    obtain ⟨hf1, hf2⟩ := HLE.out k
    have hwz := hB.size
    clear hB hO
    by_cases hlt : k < s.size
    · have HST : Hid (partsAt s c (k + 1) = if ((s.data.toList.getD k 0).toNat : Int) = c then (k + 1, (partsAt s c k).2 ++ [s.extract (partsAt s c k).1 k]) else partsAt s c k) := rfl
      have HE : Hid (((s.data.toList.getD k 0).toNat : Int) = (s[k].toNat : Int)) := by
        show _ = _
        rw [str_getD s hlt]
      generalize partsAt s c k = st at *
      obtain ⟨f, pl0⟩ := st
      dsimp only at hf1 hf2 HST HO
      by_cases hcc : (s[k].toNat : Int) = c
      · have hcc' : ((s[k].toNat : Int) == c) = true := by simpa using hcc
        have HS2 : Hid (partsAt s c (k + 1) = (k + 1, pl0 ++ [s.extract f k])) := by show _ = _; rw [HST.out, HE.out, if_pos hcc]
        clear HST hcc
        have hfi : (f : Int) ≤ (k : Int) := by omega
        have hki : (k : Int) ≤ (s.size : Int) := by omega
        go_wp2_with (at_builtin; refine wpList_append_own _ rfl _ _ 40 rfl w.heap.size 9 i0 _ 1 16 Try.underlying40 HI.out.1 HI.out.2.1 HI.out.2.2.1 HI.out.2.2.2 rfl (by decide) _ _ _ rfl (HO.out.alloc _) ⟨wr.heap.size, 0, none⟩ 1 1 [.string (s.extract f k)] rfl rfl ?c1 ?c2 ?c3 ?c4 ?c5 ?_)
        case c1 =>
          intro j u hj
          match j, hj with
          | 0, hj => simp at hj; subst hj; go_simp
        case c2 => intro u hu; simp at hu; subst hu; rfl
        case c3 => unfold maxLen; omega
        case c4 => omega
        case c5 => simp; omega
        intro v' w1 hown hgrow _
        have hlt' := HO.out.lt
        have HB1 := Lib.hid ((HB.out.alloc HB.out.size (.cells #[.string (s.extract f k)] 9)).grown hgrow (by simp; omega) (fun q hq => (hlt' q hq).1))
        have HO1 := Lib.hid hown
        clear hown hgrow hlt'
        go_wp2_with fail
        go_roundw
        case rel => exact ⟨k + 1, by omega, by go_num, by rw [HS2.out]; go_num, HB1.out, by rw [HS2.out]; simpa using HO1.out⟩
        case measure => simp [intOf]; omega
      · have hcc' : ((s[k].toNat : Int) == c) = false := by simpa using hcc
        have HS2 : Hid (partsAt s c (k + 1) = (f, pl0)) := by show _ = _; rw [HST.out, HE.out, if_neg hcc]
        clear HST hcc
        go_wp2_with fail
        go_roundw
        case rel => exact ⟨k + 1, by omega, by go_num, by rw [HS2.out], HB.out, by rw [HS2.out]; exact HO.out⟩
        case measure => simp [intOf]; omega
    · obtain rfl : k = s.size := by omega
      generalize partsAt s c s.size = st at *
      obtain ⟨f, pl0⟩ := st
      dsimp only at hf1 hf2 HO HP
      have hfi : (f : Int) ≤ (s.size : Int) := by omega
      go_wp2_with (at_builtin; refine wpList_append_own _ rfl _ _ 40 rfl w.heap.size 9 i0 _ 1 16 Try.underlying40 HI.out.1 HI.out.2.1 HI.out.2.2.1 HI.out.2.2.2 rfl (by decide) _ _ _ rfl (HO.out.alloc _) ⟨wr.heap.size, 0, none⟩ 1 1 [.string (s.extract f s.size)] rfl rfl ?c1 ?c2 ?c3 ?c4 ?c5 ?_)
      case c1 =>
        intro j u hj
        match j, hj with
        | 0, hj => simp at hj; subst hj; go_simp
      case c2 => intro u hu; simp at hu; subst hu; rfl
      case c3 => unfold maxLen; omega
      case c4 => omega
      case c5 => simp; omega
      intro v' w1 hown hgrow _
      have hlt' := HO.out.lt
      have HB1 := Lib.hid ((HB.out.alloc HB.out.size (.cells #[.string (s.extract f s.size)] 9)).grown hgrow (by simp; omega) (fun q hq => (hlt' q hq).1))
      obtain ⟨a, cp, rfl, hst⟩ := strs_owned (l := pl0 ++ [s.extract f s.size]) (by simpa using hown) (by simp; omega) (fun z hz => by have := HZ.out z (by rw [HP.out]; exact hz); unfold okStr; omega)
      have HST := Lib.hid hst
      clear hown hgrow hlt' hst
      go_wp2_with fail
      go_ret
      exact ⟨a, cp, by rw [HP.out]; rfl, by rw [HP.out]; exact HST.out, HB1.out⟩

/-- may a text be a path? -/
def pathB (s : ByteArray) : Bool := s.toList.isEmpty || ((partsL s 47).all nameB && decide ((partsL s 47).length ≤ 4))
theorem parts_take {l : List ByteArray} {k : Nat} {x : ByteArray} (h : l[k]? = some x) (f : ByteArray → Bool) : (l.take (k + 1)).all f = ((l.take k).all f && f x) := by
  rw [List.take_add_one, h]; simp [List.all_append]
set_option maxRecDepth 100000 in
set_option maxHeartbeats 2000000 in
theorem Path_any (s : ByteArray) (w : World) (hs : s.size ≤ 1048576) : Calls Try.prog 79 #[.string s] w fun e w' => e = .returned (.bool (pathB s)) ∧ Below w.heap.size w w' := by
  have HP : Hid (pathB s = (s.toList.isEmpty || ((partsL s 47).all nameB && decide ((partsL s 47).length ≤ 4)))) := rfl
  have HC := Lib.hid (Parts_any s 47 w hs)
  have HZ := Lib.hid (partsL_size s 47)
  generalize pathB s = pb at *
  generalize partsL s 47 = pl at *
  cases h0 : s.toList.isEmpty
  case true =>
    have HX : Hid (pb = true) := by show _ = _; rw [HP.out, h0]; rfl
    have h0' : s.toList = [] := by simpa using h0
    go_enter Try.func79, Try.ntmps79
    go_wp2_with fail
    go_ret
    exact ⟨by rw [HX.out]; rfl, Below.refl _ _⟩
  case false =>
    have h0' : (!s.toList.isEmpty) = true := by rw [h0]; rfl
    have HX : Hid (pb = (pl.all nameB && decide (pl.length ≤ 4))) := by show _ = _; rw [HP.out, h0]; rfl
    clear HP
    go_enter Try.func79, Try.ntmps79
    go_wp2_with fail
    refine HC.out.mono ?_
    rintro e w1 ⟨a, cp, rfl, hst, hb⟩
    have HST := Lib.hid hst
    have HB := Lib.hid hb
    have hlen := IsSl.len hst
    dsimp only at hlen
    clear hst hb HC
    go_wp2_with fail
    go_loop [4] (fun i => ∃ k : Nat, k ≤ pl.length ∧ i = .int .i64 k ∧ (pl.take k).all nameB = true) (fun i => pl.length - (intOf i).toNat)
    case atStart => exact ⟨0, Nat.zero_le _, rfl, rfl⟩
    case round =>
      obtain ⟨k, hk, rfl, hd⟩ := hrel
      have HD := Lib.hid hd
      clear hd
      by_cases hlt : k < pl.length
      · obtain ⟨x, b, off, hx, ha, hbw, hx0, -⟩ := HST.out.get hlt
        have HT := Lib.hid (parts_take hx nameB)
        have hxm : x ∈ pl := List.mem_of_getElem? hx
        have hN := fun W => Name_any x W (by have := HZ.out x hxm; omega)
        have HM := Lib.hid hxm
        subst ha
        clear hx hxm
        cases hnb : nameB x
        · rw [hnb] at hN
          have HN := Lib.hid hN
          have HF : Hid (pl.all nameB = false) := by
            show _ = _
            rw [List.all_eq_false]
            exact ⟨x, HM.out, by simp [hnb]⟩
          clear hN hnb
          go_wp2_with fail
          refine (HN.out _).mono ?_
          rintro e w2 ⟨rfl, rfl⟩
          go_wp2_with fail
          go_ret
          exact ⟨by rw [HX.out, HF.out]; rfl, HB.out⟩
        · rw [hnb] at hN
          have HN := Lib.hid hN
          have HB2 := Lib.hid hnb
          clear hN hnb
          go_wp2_with fail
          refine (HN.out _).mono ?_
          rintro e w2 ⟨rfl, rfl⟩
          go_wp2_with fail
          go_round
          case rel => exact ⟨k + 1, by omega, by go_num, by rw [HT.out, HD.out, HB2.out]; rfl⟩
          case measure => simp [intOf]; omega
      · have HA : Hid (pl.all nameB = true) := by show _ = _; have := HD.out; rwa [List.take_of_length_le (by omega)] at this
        go_wp2_with fail
        go_ret
        exact ⟨by rw [HX.out, HA.out]; simp; try omega, HB.out⟩
end Go.Proofs.Ytbkghiaafkmapaa
