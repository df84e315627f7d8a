/- The walk of the reference's rights. No condition but a path's size. -/
import Derived.Test.YtbkghiaafkmapaaFinds
namespace Go.Proofs.Ytbkghiaafkmapaa
open Go.ChangeShapes Go.WideShapes Go.ChangeAt Go.RowKit

def condG (l : List GrantD) (i : Nat) : Bool := !nameB (l.getD i default).user || (!pathB (l.getD i default).path || (decide ((l.getD i default).perms < 1) || (decide (255 < (l.getD i default).perms) || (decide (0 < i) && (!(Op.bytesLess (l.getD (i - 1) default).user.toList (l.getD i default).user.toList || (l.getD (i - 1) default).user.toList == (l.getD i default).user.toList) || ((l.getD (i - 1) default).user.toList == (l.getD i default).user.toList && !Op.bytesLess (l.getD (i - 1) default).path.toList (l.getD i default).path.toList))))))
def grantsE (l : List GrantD) : Int := if (List.range l.length).all (fun i => !condG l i) = true ∧ l.length ≤ 16 then 0 else 9
set_option maxRecDepth 100000 in
set_option maxHeartbeats 4000000 in
theorem Grants_any (a : Option Addr) (c : Nat) (l : List GrantD) (w : World) (h : IsGrants w ⟨a, c, l⟩) (hsz : ∀ x ∈ l, x.path.size ≤ 1048576) :
    Calls Try.prog 81 #[.slice a l.length c] w fun e w' => e = .returned (.int .i64 (grantsE l)) ∧ Below w.heap.size w w' := by
  have HT : Hid (grantsE l = if (List.range l.length).all (fun i => !condG l i) = true ∧ l.length ≤ 16 then 0 else 9) := rfl
  have hlen := IsSl.len h
  dsimp only at hlen
  have HL := Lib.hid h
  have HSZ := Lib.hid hsz
  generalize grantsE l = tb at *
  clear h hsz
  go_enter Try.func81, Try.ntmps81
  go_wp2_with fail
  go_loopw [3, 4] (fun i _ wr => ∃ k : Nat, k ≤ l.length ∧ i = .int .i64 k ∧ (List.range k).all (fun i => !condG l i) = true ∧ Below w.heap.size w wr) (fun i _ _ => l.length - (intOf i).toNat)
  case atStart => exact ⟨0, Nat.zero_le _, rfl, rfl, Below.refl _ _⟩
  case round =>
    obtain ⟨k, hk, rfl, hd, hb⟩ := hrel
    have HD := Lib.hid hd
    have HBr := Lib.hid hb
    clear hd hb
    by_cases hlt : k < l.length
    · have hl0 : (0 : Int) ≤ (k : Int) := by omega
      have hl1 : (k : Int) < (l.length : Int) := by omega
      obtain ⟨x, b, off, hx, ha, hbw, hx0, hx1, hx2, hxo⟩ := (HL.out.below HBr.out).get hlt
      obtain ⟨y, b', off', hy, ha', -, hy0, hy1, -, -⟩ := (HL.out.below HBr.out).get (show k - 1 < l.length by omega)
      obtain ⟨rfl, rfl⟩ : b = b' ∧ off = off' := by rw [ha] at ha'; simpa using ha'
      clear ha'
      have HST := Lib.hid (range_step (fun i => !condG l i) k)
      have HF := Lib.hid (fun h => range_bad (fun i => !condG l i) hlt h)
      have HCD : Hid (condG l k = (!nameB x.user || (!pathB x.path || (decide (x.perms < 1) || (decide (255 < x.perms) || (decide (0 < k) && (!(Op.bytesLess y.user.toList x.user.toList || y.user.toList == x.user.toList) || (y.user.toList == x.user.toList && !Op.bytesLess y.path.toList x.path.toList)))))))) := by show _ = _; simp [condG, List.getD, hx, hy]
      have HN := Lib.hid (fun W (_ : Below w.heap.size w W) => Name_b x.user W hxo.1)
      have HP := Lib.hid (fun W (_ : Below w.heap.size w W) => Path_any x.path W (HSZ.out x (List.mem_of_getElem? hx)))
      have hbb : Below wr.heap.size wr (wr.alloc (.cells #[.string x.user, .string x.path, .int .i64 x.perms] 129)) := (Below.refl _ _).alloc (Nat.le_refl _) _
      have HB0 := Lib.hid (HBr.out.trans (hbb.mono HBr.out.size))
      have hAy : At wr [(b, off + (k - 1) * 3, .string y.user), (b, off + (k - 1) * 3 + 1, .string y.path)] := .cons hbw hy0 (.cons hbw hy1 (.nil _))
      have HA0 : Hid (At (wr.alloc (.cells #[.string x.user, .string x.path, .int .i64 x.perms] 129)) [(wr.heap.size, 0, .string x.user), (wr.heap.size, 1, .string x.path), (wr.heap.size, 2, .int .i64 x.perms), (b, off + (k - 1) * 3, .string y.user), (b, off + (k - 1) * 3 + 1, .string y.path)]) := .cons (by simp) (by go_simp) (.cons (by simp) (by go_simp) (.cons (by simp) (by go_simp) (hAy.later hbb)))
      have gne : wr.heap.size ≠ b := by omega
      subst ha
      clear hx hy hbb hAy hy0 hy1 hxo
      go_wp2_with fail
      refine (HN.out _ HB0.out).mono ?_
      rintro e w1 ⟨rfl, hb⟩
      have HB1 := Lib.hid (HB0.out.trans (hb.mono HB0.out.size))
      have HA1 := Lib.hid (HA0.out.later hb)
      clear hb HB0 HA0
      have c0 := HA1.out.hd
      have c1 := HA1.out.tl.hd
      have c2 := HA1.out.tl.tl.hd
      have c3 := HA1.out.tl.tl.tl.hd
      have c4 := HA1.out.tl.tl.tl.tl.hd
      cases h0 : nameB x.user
      case false =>
        have HC : condG l k = true := by rw [HCD.out]; simp [h0]
        have HC2 : (fun i => !condG l i) k = false := by show (!condG l k) = false; rw [HC]; rfl
        go_wp2_with fail
        go_ret
        exact ⟨ret_int (by rw [HT.out, if_neg (by rw [HF.out HC2]; simp)]), HB1.out⟩
      case true =>
        go_wp2_with fail
        refine (HP.out _ HB1.out).mono ?_
        rintro e w2 ⟨rfl, hb⟩
        have HB2 := Lib.hid (HB1.out.trans (hb.mono HB1.out.size))
        have HA2 := Lib.hid (HA1.out.later hb)
        clear hb HB1 HA1
        clear c0 c1 c2 c3 c4
        have c0 := HA2.out.hd
        have c1 := HA2.out.tl.hd
        have c2 := HA2.out.tl.tl.hd
        have c3 := HA2.out.tl.tl.tl.hd
        have c4 := HA2.out.tl.tl.tl.tl.hd
        cases h1 : pathB x.path
        case false =>
          have HC : condG l k = true := by rw [HCD.out]; simp [h0, h1]
          have HC2 : (fun i => !condG l i) k = false := by show (!condG l k) = false; rw [HC]; rfl
          go_wp2_with fail
          go_ret
          exact ⟨ret_int (by rw [HT.out, if_neg (by rw [HF.out HC2]; simp)]), HB2.out⟩
        case true =>
          cases h2 : decide (x.perms < 1)
          case true =>
            have HC : condG l k = true := by rw [HCD.out]; simp [h0, h1, h2]
            have HC2 : (fun i => !condG l i) k = false := by show (!condG l k) = false; rw [HC]; rfl
            go_wp2_with fail
            go_ret
            exact ⟨ret_int (by rw [HT.out, if_neg (by rw [HF.out HC2]; simp)]), HB2.out⟩
          case false =>
            cases h3 : decide (255 < x.perms)
            case true =>
              have HC : condG l k = true := by rw [HCD.out]; simp [h0, h1, h2, h3]
              have HC2 : (fun i => !condG l i) k = false := by show (!condG l k) = false; rw [HC]; rfl
              go_wp2_with fail
              go_ret
              exact ⟨ret_int (by rw [HT.out, if_neg (by rw [HF.out HC2]; simp)]), HB2.out⟩
            case false =>
              go_wp2_with fail
              clear c0 c1 c2 c3 c4
              rcases Nat.eq_zero_or_pos k with hk0 | hk0
              · have h7 : decide ((0 : Int) < (k : Int)) = false := by simp; omega
                have h7n : decide (0 < k) = false := by simp; omega
                have HC : condG l k = false := by rw [HCD.out]; simp [h0, h1, h2, h3, hk0]
                clear hk0
                refine region_C (by kernel_rfl) (by kernel_rfl) (Cls.start HA2.out) ?_
                repeat (first | go_big_quiet_skip | (go_big_quiet_want; (first | (apply q_val; (· (rintro w' ⟨hA, -⟩; have c0 := hA.hd; have c1 := hA.tl.hd; have c2 := hA.tl.tl.hd; have c3 := hA.tl.tl.tl.hd; have c4 := hA.tl.tl.tl.tl.hd; clear hA; go_simp; try rfl)))); simp only [Act.put, List.setIfInBounds_toArray, List.set_cons_zero, List.set_cons_succ]; go_big_quiet_on))
                refine wpQuiet_nil ?_
                intro w9 hC9
                have HB9 := Lib.hid (HB2.out.trans (hC9.2.mono HB2.out.size))
                clear hC9
                go_wp2_with fail
                go_roundw
                case rel => exact ⟨k + 1, by omega, by go_num, by rw [HST.out, HD.out, HC]; rfl, HB9.out⟩
                case measure => simp [intOf]; omega
              · have h7 : decide ((0 : Int) < (k : Int)) = true := by simp; omega
                have h8 : ((k : Int) - 1).toNat = k - 1 := by omega
                have h9 : (1 : Int) ≤ (k : Int) := by omega
                have h10 : 1 ≤ k := by omega
                have h11 : IntKind.i64.wrap ((k : Int) - 1) = (k : Int) - 1 := by rw [i64_wrap]; exact wrap_in (by unfold InR; omega)
                have h12 : (0 : Int) ≤ (k : Int) - 1 := by omega
                have h13 : (k : Int) - 1 < (l.length : Int) := by omega
                cases e1 : (y.user.toList == x.user.toList)
                · cases e2 : Op.bytesLess y.user.toList x.user.toList
                  · skip
                    have HC : condG l k = true := by rw [HCD.out]; simp [h0, h1, h2, h3, hk0, e1, e2]
                    have HC2 : (fun i => !condG l i) k = false := by show (!condG l k) = false; rw [HC]; rfl
                    refine region_C (by kernel_rfl) (by kernel_rfl) (Cls.start HA2.out) ?_
                    repeat (first | go_big_quiet_skip | (go_big_quiet_want; (first | (apply q_val; (· (rintro w' ⟨hA, -⟩; have c0 := hA.hd; have c1 := hA.tl.hd; have c2 := hA.tl.tl.hd; have c3 := hA.tl.tl.tl.hd; have c4 := hA.tl.tl.tl.tl.hd; clear hA; go_simp; try rfl)))); simp only [Act.put, List.setIfInBounds_toArray, List.set_cons_zero, List.set_cons_succ]; go_big_quiet_on))
                    refine wpQuiet_nil ?_
                    intro w9 hC9
                    have HB9 := Lib.hid (HB2.out.trans (hC9.2.mono HB2.out.size))
                    clear hC9
                    go_wp2_with fail
                    go_ret
                    exact ⟨ret_int (by rw [HT.out, if_neg (by rw [HF.out HC2]; simp)]), HB9.out⟩
                  · skip
                    have HC : condG l k = false := by rw [HCD.out]; simp [h0, h1, h2, h3, hk0, e1, e2]
                    refine region_C (by kernel_rfl) (by kernel_rfl) (Cls.start HA2.out) ?_
                    repeat (first | go_big_quiet_skip | (go_big_quiet_want; (first | (apply q_val; (· (rintro w' ⟨hA, -⟩; have c0 := hA.hd; have c1 := hA.tl.hd; have c2 := hA.tl.tl.hd; have c3 := hA.tl.tl.tl.hd; have c4 := hA.tl.tl.tl.tl.hd; clear hA; go_simp; try rfl)))); simp only [Act.put, List.setIfInBounds_toArray, List.set_cons_zero, List.set_cons_succ]; go_big_quiet_on))
                    refine wpQuiet_nil ?_
                    intro w9 hC9
                    have HB9 := Lib.hid (HB2.out.trans (hC9.2.mono HB2.out.size))
                    clear hC9
                    go_wp2_with fail
                    go_roundw
                    case rel => exact ⟨k + 1, by omega, by go_num, by rw [HST.out, HD.out, HC]; rfl, HB9.out⟩
                    case measure => simp [intOf]; omega
                · have e1s : y.user.toList = x.user.toList := by simpa using e1
                  cases e2 : Op.bytesLess y.user.toList x.user.toList
                  · cases e3 : Op.bytesLess y.path.toList x.path.toList
                    · skip
                      clear e1s
                      have HC : condG l k = true := by rw [HCD.out]; simp [h0, h1, h2, h3, hk0, e1, e2, e3]
                      have HC2 : (fun i => !condG l i) k = false := by show (!condG l k) = false; rw [HC]; rfl
                      refine region_C (by kernel_rfl) (by kernel_rfl) (Cls.start HA2.out) ?_
                      repeat (first | go_big_quiet_skip | (go_big_quiet_want; (first | (apply q_val; (· (rintro w' ⟨hA, -⟩; have c0 := hA.hd; have c1 := hA.tl.hd; have c2 := hA.tl.tl.hd; have c3 := hA.tl.tl.tl.hd; have c4 := hA.tl.tl.tl.tl.hd; clear hA; go_simp; try rfl)))); simp only [Act.put, List.setIfInBounds_toArray, List.set_cons_zero, List.set_cons_succ]; go_big_quiet_on))
                      refine wpQuiet_nil ?_
                      intro w9 hC9
                      have HB9 := Lib.hid (HB2.out.trans (hC9.2.mono HB2.out.size))
                      clear hC9
                      go_wp2_with fail
                      go_ret
                      exact ⟨ret_int (by rw [HT.out, if_neg (by rw [HF.out HC2]; simp)]), HB9.out⟩
                    · skip
                      clear e1s
                      have HC : condG l k = false := by rw [HCD.out]; simp [h0, h1, h2, h3, hk0, e1, e2, e3]
                      refine region_C (by kernel_rfl) (by kernel_rfl) (Cls.start HA2.out) ?_
                      repeat (first | go_big_quiet_skip | (go_big_quiet_want; (first | (apply q_val; (· (rintro w' ⟨hA, -⟩; have c0 := hA.hd; have c1 := hA.tl.hd; have c2 := hA.tl.tl.hd; have c3 := hA.tl.tl.tl.hd; have c4 := hA.tl.tl.tl.tl.hd; clear hA; go_simp; try rfl)))); simp only [Act.put, List.setIfInBounds_toArray, List.set_cons_zero, List.set_cons_succ]; go_big_quiet_on))
                      refine wpQuiet_nil ?_
                      intro w9 hC9
                      have HB9 := Lib.hid (HB2.out.trans (hC9.2.mono HB2.out.size))
                      clear hC9
                      go_wp2_with fail
                      go_roundw
                      case rel => exact ⟨k + 1, by omega, by go_num, by rw [HST.out, HD.out, HC]; rfl, HB9.out⟩
                      case measure => simp [intOf]; omega
                  · cases e3 : Op.bytesLess y.path.toList x.path.toList
                    · skip
                      clear e1s
                      have HC : condG l k = true := by rw [HCD.out]; simp [h0, h1, h2, h3, hk0, e1, e2, e3]
                      have HC2 : (fun i => !condG l i) k = false := by show (!condG l k) = false; rw [HC]; rfl
                      refine region_C (by kernel_rfl) (by kernel_rfl) (Cls.start HA2.out) ?_
                      repeat (first | go_big_quiet_skip | (go_big_quiet_want; (first | (apply q_val; (· (rintro w' ⟨hA, -⟩; have c0 := hA.hd; have c1 := hA.tl.hd; have c2 := hA.tl.tl.hd; have c3 := hA.tl.tl.tl.hd; have c4 := hA.tl.tl.tl.tl.hd; clear hA; go_simp; try rfl)))); simp only [Act.put, List.setIfInBounds_toArray, List.set_cons_zero, List.set_cons_succ]; go_big_quiet_on))
                      refine wpQuiet_nil ?_
                      intro w9 hC9
                      have HB9 := Lib.hid (HB2.out.trans (hC9.2.mono HB2.out.size))
                      clear hC9
                      go_wp2_with fail
                      go_ret
                      exact ⟨ret_int (by rw [HT.out, if_neg (by rw [HF.out HC2]; simp)]), HB9.out⟩
                    · skip
                      clear e1s
                      have HC : condG l k = false := by rw [HCD.out]; simp [h0, h1, h2, h3, hk0, e1, e2, e3]
                      refine region_C (by kernel_rfl) (by kernel_rfl) (Cls.start HA2.out) ?_
                      repeat (first | go_big_quiet_skip | (go_big_quiet_want; (first | (apply q_val; (· (rintro w' ⟨hA, -⟩; have c0 := hA.hd; have c1 := hA.tl.hd; have c2 := hA.tl.tl.hd; have c3 := hA.tl.tl.tl.hd; have c4 := hA.tl.tl.tl.tl.hd; clear hA; go_simp; try rfl)))); simp only [Act.put, List.setIfInBounds_toArray, List.set_cons_zero, List.set_cons_succ]; go_big_quiet_on))
                      refine wpQuiet_nil ?_
                      intro w9 hC9
                      have HB9 := Lib.hid (HB2.out.trans (hC9.2.mono HB2.out.size))
                      clear hC9
                      go_wp2_with fail
                      go_roundw
                      case rel => exact ⟨k + 1, by omega, by go_num, by rw [HST.out, HD.out, HC]; rfl, HB9.out⟩
                      case measure => simp [intOf]; omega
    · have HA2 : Hid ((List.range l.length).all (fun i => !condG l i) = true) := by
        obtain rfl : k = l.length := by omega
        exact HD.out
      by_cases h8 : l.length ≤ 16
      · have h9 : decide ((16 : Int) < (l.length : Int)) = false := by simp; omega
        go_wp2_with fail
        go_ret
        exact ⟨by rw [HT.out, if_pos ⟨HA2.out, h8⟩]; rfl, HBr.out⟩
      · have h9 : decide ((16 : Int) < (l.length : Int)) = true := by simp; omega
        go_wp2_with fail
        go_ret
        exact ⟨by rw [HT.out, if_neg (fun h => h8 h.2)]; rfl, HBr.out⟩
end Go.Proofs.Ytbkghiaafkmapaa
