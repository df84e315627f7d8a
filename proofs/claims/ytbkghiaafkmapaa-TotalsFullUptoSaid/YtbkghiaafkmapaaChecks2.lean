/- Walks of the reference's properties and contents. No condition but that what comes in reads as data. -/
import Derived.Test.YtbkghiaafkmapaaChecks
namespace Go.Proofs.Ytbkghiaafkmapaa
open Go.ChangeShapes Go.WideShapes Go.ChangeAt Go.RowKit

def condProp (l : List PropD) (i : Nat) : Bool := !nameB (l.getD i ⟨⟨#[]⟩, ⟨#[]⟩⟩).name || (!valueB (l.getD i ⟨⟨#[]⟩, ⟨#[]⟩⟩).value || (decide (0 < i) && leS (l.getD i ⟨⟨#[]⟩, ⟨#[]⟩⟩).name (l.getD (i - 1) ⟨⟨#[]⟩, ⟨#[]⟩⟩).name))
def propsE (l : List PropD) : Int := if (List.range l.length).all (fun i => !condProp l i) = true ∧ l.length ≤ 8 then 0 else 9
theorem prop_ways (p q r : Bool) (k : Nat) :
    (p = false ∧ (!p || (!q || (decide (0 < k) && r))) = true) ∨ (p = true ∧ q = false ∧ (!p || (!q || (decide (0 < k) && r))) = true) ∨
    (p = true ∧ q = true ∧ k = 0 ∧ (!p || (!q || (decide (0 < k) && r))) = false) ∨ (p = true ∧ q = true ∧ 0 < k ∧ (!p || (!q || (decide (0 < k) && r))) = r) := by
  cases p
  · exact .inl ⟨rfl, by simp⟩
  · cases q
    · exact .inr (.inl ⟨rfl, rfl, by simp⟩)
    · rcases Nat.eq_zero_or_pos k with h | h
      · exact .inr (.inr (.inl ⟨rfl, rfl, h, by simp [h]⟩))
      · exact .inr (.inr (.inr ⟨rfl, rfl, h, by simp [h]⟩))
set_option maxRecDepth 100000 in
set_option maxHeartbeats 4000000 in
theorem Props_any (a : Option Addr) (c : Nat) (l : List PropD) (w : World) (h : IsProps w ⟨a, c, l⟩) :
    Calls Try.prog 68 #[.slice a l.length c] w fun e w' => e = .returned (.int .i64 (propsE l)) ∧ Below w.heap.size w w' := by
  have HT : Hid (propsE l = if (List.range l.length).all (fun i => !condProp l i) = true ∧ l.length ≤ 8 then 0 else 9) := rfl
  have hlen := IsSl.len h
  dsimp only at hlen
  have HL := Lib.hid h
  generalize propsE l = tb at *
  clear h
  go_enter Try.func68, Try.ntmps68
  go_wp2_with fail
  go_loopw [3] (fun i wr => ∃ k : Nat, k ≤ l.length ∧ i = .int .i64 k ∧ (List.range k).all (fun i => !condProp l i) = true ∧ Below w.heap.size w wr) (fun i _ => l.length - (intOf i).toNat)
  case atStart => exact ⟨0, Nat.zero_le _, rfl, rfl, Below.refl _ _⟩
  case round =>
    obtain ⟨k, hk, rfl, hd, hb⟩ := hrel
    have HD := Lib.hid hd
    have HB := Lib.hid hb
    clear hd hb
    by_cases hlt : k < l.length
    · have hl0 : (0 : Int) ≤ (k : Int) := by omega
      have hl1 : (k : Int) < (l.length : Int) := by omega
      obtain ⟨x, b, off, hx, ha, hbw, hx0, hx1, hxo⟩ := (HL.out.below HB.out).get hlt
      obtain ⟨y, b', off', hy, ha', -, hy0, -, -⟩ := (HL.out.below HB.out).get (show k - 1 < l.length by omega)
      obtain ⟨rfl, rfl⟩ : b = b' ∧ off = off' := by rw [ha] at ha'; simpa using ha'
      clear ha'
      have HST := Lib.hid (range_step (fun i => !condProp l i) k)
      have HF := Lib.hid (fun h => range_bad (fun i => !condProp l i) hlt h)
      have hN := fun W => Name_b x.name W hxo.1
      have hV := fun W => value_b x.value W hxo.2
      have hcd : condProp l k = (!nameB x.name || (!valueB x.value || (decide (0 < k) && leS x.name y.name))) := by simp [condProp, List.getD, hx, hy]
      have hA : At wr [(b, off + k * 2, .string x.name), (b, off + k * 2 + 1, .string x.value), (b, off + (k - 1) * 2, .string y.name)] := .cons hbw hx0 (.cons hbw hx1 (.cons hbw hy0 (.nil _)))
      have HA := Lib.hid hA
      have HCD := Lib.hid hcd
      clear hx0 hx1 hy0
      subst ha
      clear hx hy hA hcd
      go_wp2_with fail
      rcases prop_ways (nameB x.name) (valueB x.value) (leS x.name y.name) k with ⟨hn, hc⟩ | ⟨hn, hv, hc⟩ | ⟨hn, hv, hk0, hc⟩ | ⟨hn, hv, hk0, hc⟩
      · rw [hn] at hN
        have HN := Lib.hid hN
        have HV := Lib.hid hV
        have HC : Hid (condProp l k = true) := by show _ = _; rw [HCD.out, hc]
        have HC2 : Hid ((fun i => !condProp l i) k = false) := by show (!condProp l k) = false; rw [HC.out]; rfl
        clear hc hN hn hV
        refine region_C (by kernel_rfl) (by kernel_rfl) (Cls.start HA.out) ?_
        repeat (first | go_big_quiet_skip | (go_big_quiet_want; (first | (apply q_val; (· (rintro w' ⟨hA, -⟩; have c0 := hA.hd; have c1 := hA.tl.hd; have c2 := hA.tl.tl.hd; clear hA; go_simp; try rfl))) | (apply q_call 76; (· (rintro w' ⟨hA, -⟩; have c0 := hA.hd; have c1 := hA.tl.hd; have c2 := hA.tl.tl.hd; clear hA; go_simp; try rfl)); (· (intro w' hC; exact (HN.out _).mono (fun e w'' h => ⟨h.1, hC.later h.2⟩)))) | (apply q_call 78; (· (rintro w' ⟨hA, -⟩; have c0 := hA.hd; have c1 := hA.tl.hd; have c2 := hA.tl.tl.hd; clear hA; go_simp; try rfl)); (· (intro w' hC; exact (HV.out _).mono (fun e w'' h => ⟨h.1, hC.later h.2⟩))))); simp only [Act.put, List.setIfInBounds_toArray, List.set_cons_zero, List.set_cons_succ]; go_big_quiet_on))
        refine wpQuiet_nil ?_
        intro w2 hC2
        have HB2 := Lib.hid (HB.out.trans (hC2.2.mono HB.out.size))
        clear hC2
        go_wp2_with fail
        go_ret
        exact ⟨by rw [HT.out, if_neg (by rw [HF.out HC2.out]; simp)]; rfl, HB2.out⟩
      · rw [hn] at hN
        rw [hv] at hV
        have HN := Lib.hid hN
        have HV := Lib.hid hV
        have HC : Hid (condProp l k = true) := by show _ = _; rw [HCD.out, hc]
        have HC2 : Hid ((fun i => !condProp l i) k = false) := by show (!condProp l k) = false; rw [HC.out]; rfl
        clear hc hN hn hV hv
        refine region_C (by kernel_rfl) (by kernel_rfl) (Cls.start HA.out) ?_
        repeat (first | go_big_quiet_skip | (go_big_quiet_want; (first | (apply q_val; (· (rintro w' ⟨hA, -⟩; have c0 := hA.hd; have c1 := hA.tl.hd; have c2 := hA.tl.tl.hd; clear hA; go_simp; try rfl))) | (apply q_call 76; (· (rintro w' ⟨hA, -⟩; have c0 := hA.hd; have c1 := hA.tl.hd; have c2 := hA.tl.tl.hd; clear hA; go_simp; try rfl)); (· (intro w' hC; exact (HN.out _).mono (fun e w'' h => ⟨h.1, hC.later h.2⟩)))) | (apply q_call 78; (· (rintro w' ⟨hA, -⟩; have c0 := hA.hd; have c1 := hA.tl.hd; have c2 := hA.tl.tl.hd; clear hA; go_simp; try rfl)); (· (intro w' hC; exact (HV.out _).mono (fun e w'' h => ⟨h.1, hC.later h.2⟩))))); simp only [Act.put, List.setIfInBounds_toArray, List.set_cons_zero, List.set_cons_succ]; go_big_quiet_on))
        refine wpQuiet_nil ?_
        intro w2 hC2
        have HB2 := Lib.hid (HB.out.trans (hC2.2.mono HB.out.size))
        clear hC2
        go_wp2_with fail
        go_ret
        exact ⟨by rw [HT.out, if_neg (by rw [HF.out HC2.out]; simp)]; rfl, HB2.out⟩
      · rw [hn] at hN
        rw [hv] at hV
        have HN := Lib.hid hN
        have HV := Lib.hid hV
        have h7 : decide ((0 : Int) < (k : Int)) = false := by simp; omega
        have h7n : decide (0 < k) = false := by simp; omega
        have HC : Hid (condProp l k = false) := by show _ = _; rw [HCD.out, hc]
        clear hc hN hn hV hv hk0
        refine region_C (by kernel_rfl) (by kernel_rfl) (Cls.start HA.out) ?_
        repeat (first | go_big_quiet_skip | (go_big_quiet_want; (first | (apply q_val; (· (rintro w' ⟨hA, -⟩; have c0 := hA.hd; have c1 := hA.tl.hd; have c2 := hA.tl.tl.hd; clear hA; go_simp; try rfl))) | (apply q_call 76; (· (rintro w' ⟨hA, -⟩; have c0 := hA.hd; have c1 := hA.tl.hd; have c2 := hA.tl.tl.hd; clear hA; go_simp; try rfl)); (· (intro w' hC; exact (HN.out _).mono (fun e w'' h => ⟨h.1, hC.later h.2⟩)))) | (apply q_call 78; (· (rintro w' ⟨hA, -⟩; have c0 := hA.hd; have c1 := hA.tl.hd; have c2 := hA.tl.tl.hd; clear hA; go_simp; try rfl)); (· (intro w' hC; exact (HV.out _).mono (fun e w'' h => ⟨h.1, hC.later h.2⟩))))); simp only [Act.put, List.setIfInBounds_toArray, List.set_cons_zero, List.set_cons_succ]; go_big_quiet_on))
        refine wpQuiet_nil ?_
        intro w2 hC2
        have HB2 := Lib.hid (HB.out.trans (hC2.2.mono HB.out.size))
        clear hC2
        go_wp2_with fail
        go_roundw
        case rel => exact ⟨k + 1, by omega, by go_num, by rw [HST.out, HD.out, HC.out]; rfl, HB2.out⟩
        case measure => simp [intOf]; omega
      · have h7 : decide ((0 : Int) < (k : Int)) = true := by simp; omega
        have h8 : ((k : Int) - 1).toNat = k - 1 := by omega
        have h9 : (1 : Int) ≤ (k : Int) := by omega
        have h10 : 1 ≤ k := by omega
        have h11 : IntKind.i64.wrap ((k : Int) - 1) = (k : Int) - 1 := by rw [i64_wrap]; exact wrap_in (by unfold InR; omega)
        have h12 : (0 : Int) ≤ (k : Int) - 1 := by omega
        have h13 : (k : Int) - 1 < (l.length : Int) := by omega
        rw [hn] at hN
        rw [hv] at hV
        have HN := Lib.hid hN
        have HV := Lib.hid hV
        clear hN hn hV hv
        rcases leS_ways x.name y.name with ⟨hl2, h5⟩ | ⟨hl2, h5, h6⟩ | ⟨hl2, h5, h6⟩
        · replace hc := hc.trans hl2
          have HC : Hid (condProp l k = true) := by show _ = _; rw [HCD.out, hc]
          have HC2 : Hid ((fun i => !condProp l i) k = false) := by show (!condProp l k) = false; rw [HC.out]; rfl
          clear hc hl2
          refine region_C (by kernel_rfl) (by kernel_rfl) (Cls.start HA.out) ?_
          repeat (first | go_big_quiet_skip | (go_big_quiet_want; (first | (apply q_val; (· (rintro w' ⟨hA, -⟩; have c0 := hA.hd; have c1 := hA.tl.hd; have c2 := hA.tl.tl.hd; clear hA; go_simp; try rfl))) | (apply q_call 76; (· (rintro w' ⟨hA, -⟩; have c0 := hA.hd; have c1 := hA.tl.hd; have c2 := hA.tl.tl.hd; clear hA; go_simp; try rfl)); (· (intro w' hC; exact (HN.out _).mono (fun e w'' h => ⟨h.1, hC.later h.2⟩)))) | (apply q_call 78; (· (rintro w' ⟨hA, -⟩; have c0 := hA.hd; have c1 := hA.tl.hd; have c2 := hA.tl.tl.hd; clear hA; go_simp; try rfl)); (· (intro w' hC; exact (HV.out _).mono (fun e w'' h => ⟨h.1, hC.later h.2⟩))))); simp only [Act.put, List.setIfInBounds_toArray, List.set_cons_zero, List.set_cons_succ]; go_big_quiet_on))
          refine wpQuiet_nil ?_
          intro w2 hC2
          have HB2 := Lib.hid (HB.out.trans (hC2.2.mono HB.out.size))
          clear hC2
          go_wp2_with fail
          go_ret
          exact ⟨by rw [HT.out, if_neg (by rw [HF.out HC2.out]; simp)]; rfl, HB2.out⟩
        · replace hc := hc.trans hl2
          have HC : Hid (condProp l k = true) := by show _ = _; rw [HCD.out, hc]
          have HC2 : Hid ((fun i => !condProp l i) k = false) := by show (!condProp l k) = false; rw [HC.out]; rfl
          clear hc hl2
          refine region_C (by kernel_rfl) (by kernel_rfl) (Cls.start HA.out) ?_
          repeat (first | go_big_quiet_skip | (go_big_quiet_want; (first | (apply q_val; (· (rintro w' ⟨hA, -⟩; have c0 := hA.hd; have c1 := hA.tl.hd; have c2 := hA.tl.tl.hd; clear hA; go_simp; try rfl))) | (apply q_call 76; (· (rintro w' ⟨hA, -⟩; have c0 := hA.hd; have c1 := hA.tl.hd; have c2 := hA.tl.tl.hd; clear hA; go_simp; try rfl)); (· (intro w' hC; exact (HN.out _).mono (fun e w'' h => ⟨h.1, hC.later h.2⟩)))) | (apply q_call 78; (· (rintro w' ⟨hA, -⟩; have c0 := hA.hd; have c1 := hA.tl.hd; have c2 := hA.tl.tl.hd; clear hA; go_simp; try rfl)); (· (intro w' hC; exact (HV.out _).mono (fun e w'' h => ⟨h.1, hC.later h.2⟩))))); simp only [Act.put, List.setIfInBounds_toArray, List.set_cons_zero, List.set_cons_succ]; go_big_quiet_on))
          refine wpQuiet_nil ?_
          intro w2 hC2
          have HB2 := Lib.hid (HB.out.trans (hC2.2.mono HB.out.size))
          clear hC2
          go_wp2_with fail
          go_ret
          exact ⟨by rw [HT.out, if_neg (by rw [HF.out HC2.out]; simp)]; rfl, HB2.out⟩
        · replace hc := hc.trans hl2
          have HC : Hid (condProp l k = false) := by show _ = _; rw [HCD.out, hc]
          clear hc hl2
          refine region_C (by kernel_rfl) (by kernel_rfl) (Cls.start HA.out) ?_
          repeat (first | go_big_quiet_skip | (go_big_quiet_want; (first | (apply q_val; (· (rintro w' ⟨hA, -⟩; have c0 := hA.hd; have c1 := hA.tl.hd; have c2 := hA.tl.tl.hd; clear hA; go_simp; try rfl))) | (apply q_call 76; (· (rintro w' ⟨hA, -⟩; have c0 := hA.hd; have c1 := hA.tl.hd; have c2 := hA.tl.tl.hd; clear hA; go_simp; try rfl)); (· (intro w' hC; exact (HN.out _).mono (fun e w'' h => ⟨h.1, hC.later h.2⟩)))) | (apply q_call 78; (· (rintro w' ⟨hA, -⟩; have c0 := hA.hd; have c1 := hA.tl.hd; have c2 := hA.tl.tl.hd; clear hA; go_simp; try rfl)); (· (intro w' hC; exact (HV.out _).mono (fun e w'' h => ⟨h.1, hC.later h.2⟩))))); simp only [Act.put, List.setIfInBounds_toArray, List.set_cons_zero, List.set_cons_succ]; go_big_quiet_on))
          refine wpQuiet_nil ?_
          intro w2 hC2
          have HB2 := Lib.hid (HB.out.trans (hC2.2.mono HB.out.size))
          clear hC2
          go_wp2_with fail
          go_roundw
          case rel => exact ⟨k + 1, by omega, by go_num, by rw [HST.out, HD.out, HC.out]; rfl, HB2.out⟩
          case measure => simp [intOf]; omega
    · have HA2 : Hid ((List.range l.length).all (fun i => !condProp l i) = true) := by
        obtain rfl : k = l.length := by omega
        exact HD.out
      by_cases h8 : l.length ≤ 8
      · have h9 : decide ((8 : Int) < (l.length : Int)) = false := by simp; omega
        go_wp2_with fail
        go_ret
        exact ⟨by rw [HT.out, if_pos ⟨HA2.out, h8⟩]; rfl, HB.out⟩
      · have h9 : decide ((8 : Int) < (l.length : Int)) = true := by simp; omega
        go_wp2_with fail
        go_ret
        exact ⟨by rw [HT.out, if_neg (fun h => h8 h.2)]; rfl, HB.out⟩

def condBlk (l : List BlockD) (i : Nat) : Bool := decide ((l.getD i ⟨0, ⟨#[]⟩⟩).idx < 0) || (decide (1024 ≤ (l.getD i ⟨0, ⟨#[]⟩⟩).idx) || ((!((l.getD i ⟨0, ⟨#[]⟩⟩).data.size == 16)) || (decide (0 < i) && decide ((l.getD i ⟨0, ⟨#[]⟩⟩).idx ≤ (l.getD (i - 1) ⟨0, ⟨#[]⟩⟩).idx))))
def blkE (l : List BlockD) : Int := if (List.range l.length).all (fun i => !condBlk l i) = true then 0 else 9
theorem blk_ways (n m : Int) (z k : Nat) :
    (decide (n < 0) = true ∧ (decide (n < 0) || (decide (1024 ≤ n) || ((!(z == 16)) || (decide (0 < k) && decide (n ≤ m))))) = true) ∨
    (decide (n < 0) = false ∧ decide (1024 ≤ n) = true ∧ (decide (n < 0) || (decide (1024 ≤ n) || ((!(z == 16)) || (decide (0 < k) && decide (n ≤ m))))) = true) ∨
    (decide (n < 0) = false ∧ decide (1024 ≤ n) = false ∧ (z == 16) = false ∧ (decide (n < 0) || (decide (1024 ≤ n) || ((!(z == 16)) || (decide (0 < k) && decide (n ≤ m))))) = true) ∨
    (decide (n < 0) = false ∧ decide (1024 ≤ n) = false ∧ (z == 16) = true ∧ k = 0 ∧ (decide (n < 0) || (decide (1024 ≤ n) || ((!(z == 16)) || (decide (0 < k) && decide (n ≤ m))))) = false) ∨
    (decide (n < 0) = false ∧ decide (1024 ≤ n) = false ∧ (z == 16) = true ∧ 0 < k ∧ decide (n ≤ m) = true ∧ (decide (n < 0) || (decide (1024 ≤ n) || ((!(z == 16)) || (decide (0 < k) && decide (n ≤ m))))) = true) ∨
    (decide (n < 0) = false ∧ decide (1024 ≤ n) = false ∧ (z == 16) = true ∧ 0 < k ∧ decide (n ≤ m) = false ∧ (decide (n < 0) || (decide (1024 ≤ n) || ((!(z == 16)) || (decide (0 < k) && decide (n ≤ m))))) = false) := by
  cases h1 : decide (n < 0)
  · cases h2 : decide (1024 ≤ n)
    · cases h3 : (z == 16)
      · exact .inr (.inr (.inl ⟨rfl, rfl, rfl, by simp⟩))
      · rcases Nat.eq_zero_or_pos k with h | h
        · exact .inr (.inr (.inr (.inl ⟨rfl, rfl, rfl, h, by simp [h]⟩)))
        · cases h4 : decide (n ≤ m)
          · exact .inr (.inr (.inr (.inr (.inr ⟨rfl, rfl, rfl, h, rfl, by simp⟩))))
          · exact .inr (.inr (.inr (.inr (.inl ⟨rfl, rfl, rfl, h, rfl, by simp [h]⟩))))
    · exact .inr (.inl ⟨rfl, rfl, by simp⟩)
  · exact .inl ⟨rfl, by simp⟩
set_option maxRecDepth 100000 in
set_option maxHeartbeats 4000000 in
theorem Check11_any (a : Option Addr) (c : Nat) (l : List BlockD) (w : World) (h : IsBlocks w ⟨a, c, l⟩) :
    Calls Try.prog 88 #[.slice a l.length c] w fun e w' => e = .returned (.int .i64 (blkE l)) ∧ Below w.heap.size w w' := by
  have HT : Hid (blkE l = if (List.range l.length).all (fun i => !condBlk l i) = true then 0 else 9) := rfl
  have hlen := IsSl.len h
  dsimp only at hlen
  have HL := Lib.hid h
  generalize blkE l = tb at *
  clear h
  go_enter Try.func88, Try.ntmps88
  go_wp2_with fail
  go_loopw [3] (fun i wr => ∃ k : Nat, k ≤ l.length ∧ i = .int .i64 k ∧ (List.range k).all (fun i => !condBlk l i) = true ∧ Below w.heap.size w wr) (fun i _ => l.length - (intOf i).toNat)
  case atStart => exact ⟨0, Nat.zero_le _, rfl, rfl, Below.refl _ _⟩
  case round =>
    obtain ⟨k, hk, rfl, hd, hb⟩ := hrel
    have HD := Lib.hid hd
    have HB := Lib.hid hb
    clear hd hb
    by_cases hlt : k < l.length
    · have hl0 : (0 : Int) ≤ (k : Int) := by omega
      have hl1 : (k : Int) < (l.length : Int) := by omega
      obtain ⟨x, b, off, hx, ha, hbw, hx0, hx1, hxo⟩ := (HL.out.below HB.out).get hlt
      obtain ⟨y, b', off', hy, ha', -, hy0, -, -⟩ := (HL.out.below HB.out).get (show k - 1 < l.length by omega)
      obtain ⟨rfl, rfl⟩ : b = b' ∧ off = off' := by rw [ha] at ha'; simpa using ha'
      clear ha'
      have HST := Lib.hid (range_step (fun i => !condBlk l i) k)
      have HF := Lib.hid (fun h => range_bad (fun i => !condBlk l i) hlt h)
      have hcd : condBlk l k = (decide (x.idx < 0) || (decide (1024 ≤ x.idx) || ((!(x.data.size == 16)) || (decide (0 < k) && decide (x.idx ≤ y.idx))))) := by simp [condBlk, List.getD, hx, hy]
      have hA : At wr [(b, off + k * 2, .int .i64 x.idx), (b, off + k * 2 + 1, .string x.data), (b, off + (k - 1) * 2, .int .i64 y.idx)] := .cons hbw hx0 (.cons hbw hx1 (.cons hbw hy0 (.nil _)))
      have HA := Lib.hid hA
      have HCD := Lib.hid hcd
      clear hx0 hx1 hy0
      subst ha
      clear hx hy hA hcd
      go_wp2_with fail
      rcases blk_ways x.idx y.idx x.data.size k with ⟨d1, hc⟩ | ⟨d1, d2, hc⟩ | ⟨d1, d2, hz, hc⟩ | ⟨d1, d2, hz, hk0, hc⟩ | ⟨d1, d2, hz, hk0, d3, hc⟩ | ⟨d1, d2, hz, hk0, d3, hc⟩
      · skip
        have HC : Hid (condBlk l k = true) := by show _ = _; rw [HCD.out, hc]
        have HC2 : Hid ((fun i => !condBlk l i) k = false) := by show (!condBlk l k) = false; rw [HC.out]; rfl
        clear hc 
        refine region_C (by kernel_rfl) (by kernel_rfl) (Cls.start HA.out) ?_
        repeat (first | go_big_quiet_skip | (go_big_quiet_want; (first | (apply q_val; (· (rintro w' ⟨hA, -⟩; have c0 := hA.hd; have c1 := hA.tl.hd; have c2 := hA.tl.tl.hd; clear hA; go_simp; try rfl)))); simp only [Act.put, List.setIfInBounds_toArray, List.set_cons_zero, List.set_cons_succ]; go_big_quiet_on))
        refine wpQuiet_nil ?_
        intro w2 hC2
        have HB2 := Lib.hid (HB.out.trans (hC2.2.mono HB.out.size))
        clear hC2
        go_wp2_with fail
        go_ret
        exact ⟨by rw [HT.out, if_neg (by rw [HF.out HC2.out]; simp)]; rfl, HB2.out⟩
      · skip
        have HC : Hid (condBlk l k = true) := by show _ = _; rw [HCD.out, hc]
        have HC2 : Hid ((fun i => !condBlk l i) k = false) := by show (!condBlk l k) = false; rw [HC.out]; rfl
        clear hc 
        refine region_C (by kernel_rfl) (by kernel_rfl) (Cls.start HA.out) ?_
        repeat (first | go_big_quiet_skip | (go_big_quiet_want; (first | (apply q_val; (· (rintro w' ⟨hA, -⟩; have c0 := hA.hd; have c1 := hA.tl.hd; have c2 := hA.tl.tl.hd; clear hA; go_simp; try rfl)))); simp only [Act.put, List.setIfInBounds_toArray, List.set_cons_zero, List.set_cons_succ]; go_big_quiet_on))
        refine wpQuiet_nil ?_
        intro w2 hC2
        have HB2 := Lib.hid (HB.out.trans (hC2.2.mono HB.out.size))
        clear hC2
        go_wp2_with fail
        go_ret
        exact ⟨by rw [HT.out, if_neg (by rw [HF.out HC2.out]; simp)]; rfl, HB2.out⟩
      · have z1 : ((x.data.size : Int) != 16) = true := by have := hz; simp at this ⊢; omega
        have HC : Hid (condBlk l k = true) := by show _ = _; rw [HCD.out, hc]
        have HC2 : Hid ((fun i => !condBlk l i) k = false) := by show (!condBlk l k) = false; rw [HC.out]; rfl
        clear hc hz
        refine region_C (by kernel_rfl) (by kernel_rfl) (Cls.start HA.out) ?_
        repeat (first | go_big_quiet_skip | (go_big_quiet_want; (first | (apply q_val; (· (rintro w' ⟨hA, -⟩; have c0 := hA.hd; have c1 := hA.tl.hd; have c2 := hA.tl.tl.hd; clear hA; go_simp; try rfl)))); simp only [Act.put, List.setIfInBounds_toArray, List.set_cons_zero, List.set_cons_succ]; go_big_quiet_on))
        refine wpQuiet_nil ?_
        intro w2 hC2
        have HB2 := Lib.hid (HB.out.trans (hC2.2.mono HB.out.size))
        clear hC2
        go_wp2_with fail
        go_ret
        exact ⟨by rw [HT.out, if_neg (by rw [HF.out HC2.out]; simp)]; rfl, HB2.out⟩
      · have z1 : ((x.data.size : Int) != 16) = false := by have := hz; simp at this ⊢; omega
        have h7 : decide ((0 : Int) < (k : Int)) = false := by simp; omega
        have h7n : decide (0 < k) = false := by simp; omega
        have HC : Hid (condBlk l k = false) := by show _ = _; rw [HCD.out, hc]
        clear hc hz hk0
        refine region_C (by kernel_rfl) (by kernel_rfl) (Cls.start HA.out) ?_
        repeat (first | go_big_quiet_skip | (go_big_quiet_want; (first | (apply q_val; (· (rintro w' ⟨hA, -⟩; have c0 := hA.hd; have c1 := hA.tl.hd; have c2 := hA.tl.tl.hd; clear hA; go_simp; try rfl)))); simp only [Act.put, List.setIfInBounds_toArray, List.set_cons_zero, List.set_cons_succ]; go_big_quiet_on))
        refine wpQuiet_nil ?_
        intro w2 hC2
        have HB2 := Lib.hid (HB.out.trans (hC2.2.mono HB.out.size))
        clear hC2
        go_wp2_with fail
        go_roundw
        case rel => exact ⟨k + 1, by omega, by go_num, by rw [HST.out, HD.out, HC.out]; rfl, HB2.out⟩
        case measure => simp [intOf]; omega
      · have z1 : ((x.data.size : Int) != 16) = false := by have := hz; simp at this ⊢; omega
        have h7 : decide ((0 : Int) < (k : Int)) = true := by simp; omega
        have h8 : ((k : Int) - 1).toNat = k - 1 := by omega
        have h9 : (1 : Int) ≤ (k : Int) := by omega
        have h10 : 1 ≤ k := by omega
        have h11 : IntKind.i64.wrap ((k : Int) - 1) = (k : Int) - 1 := by rw [i64_wrap]; exact wrap_in (by unfold InR; omega)
        have h12 : (0 : Int) ≤ (k : Int) - 1 := by omega
        have h13 : (k : Int) - 1 < (l.length : Int) := by omega
        have HC : Hid (condBlk l k = true) := by show _ = _; rw [HCD.out, hc]
        have HC2 : Hid ((fun i => !condBlk l i) k = false) := by show (!condBlk l k) = false; rw [HC.out]; rfl
        clear hc hz
        refine region_C (by kernel_rfl) (by kernel_rfl) (Cls.start HA.out) ?_
        repeat (first | go_big_quiet_skip | (go_big_quiet_want; (first | (apply q_val; (· (rintro w' ⟨hA, -⟩; have c0 := hA.hd; have c1 := hA.tl.hd; have c2 := hA.tl.tl.hd; clear hA; go_simp; try rfl)))); simp only [Act.put, List.setIfInBounds_toArray, List.set_cons_zero, List.set_cons_succ]; go_big_quiet_on))
        refine wpQuiet_nil ?_
        intro w2 hC2
        have HB2 := Lib.hid (HB.out.trans (hC2.2.mono HB.out.size))
        clear hC2
        go_wp2_with fail
        go_ret
        exact ⟨by rw [HT.out, if_neg (by rw [HF.out HC2.out]; simp)]; rfl, HB2.out⟩
      · have z1 : ((x.data.size : Int) != 16) = false := by have := hz; simp at this ⊢; omega
        have h7 : decide ((0 : Int) < (k : Int)) = true := by simp; omega
        have h8 : ((k : Int) - 1).toNat = k - 1 := by omega
        have h9 : (1 : Int) ≤ (k : Int) := by omega
        have h10 : 1 ≤ k := by omega
        have h11 : IntKind.i64.wrap ((k : Int) - 1) = (k : Int) - 1 := by rw [i64_wrap]; exact wrap_in (by unfold InR; omega)
        have h12 : (0 : Int) ≤ (k : Int) - 1 := by omega
        have h13 : (k : Int) - 1 < (l.length : Int) := by omega
        have HC : Hid (condBlk l k = false) := by show _ = _; rw [HCD.out, hc]
        clear hc hz
        refine region_C (by kernel_rfl) (by kernel_rfl) (Cls.start HA.out) ?_
        repeat (first | go_big_quiet_skip | (go_big_quiet_want; (first | (apply q_val; (· (rintro w' ⟨hA, -⟩; have c0 := hA.hd; have c1 := hA.tl.hd; have c2 := hA.tl.tl.hd; clear hA; go_simp; try rfl)))); simp only [Act.put, List.setIfInBounds_toArray, List.set_cons_zero, List.set_cons_succ]; go_big_quiet_on))
        refine wpQuiet_nil ?_
        intro w2 hC2
        have HB2 := Lib.hid (HB.out.trans (hC2.2.mono HB.out.size))
        clear hC2
        go_wp2_with fail
        go_roundw
        case rel => exact ⟨k + 1, by omega, by go_num, by rw [HST.out, HD.out, HC.out]; rfl, HB2.out⟩
        case measure => simp [intOf]; omega
    · have HA2 : Hid ((List.range l.length).all (fun i => !condBlk l i) = true) := by
        obtain rfl : k = l.length := by omega
        exact HD.out
      go_wp2_with fail
      go_ret
      exact ⟨by rw [HT.out, if_pos HA2.out]; rfl, HB.out⟩

end Go.Proofs.Ytbkghiaafkmapaa
