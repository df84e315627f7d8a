/- The walk of godownplain.Texts. No condition but that what comes in reads as data. -/
import Derived.Test.YtbkghiaafkmapaaChecks
namespace Go.Proofs.Ytbkghiaafkmapaa
open Go.ChangeShapes Go.WideShapes Go.ChangeAt Go.RowKit

set_option maxRecDepth 100000 in
set_option maxHeartbeats 2000000 in
/-- of one list twice: they are one -/
theorem Texts_same (a a' : Option Addr) (c c' : Nat) (l : List ByteArray) (w : World) (h : IsStrs w ⟨a, c, l⟩) (h' : IsStrs w ⟨a', c', l⟩) :
    Calls Try.prog 50 #[.slice a l.length c, .slice a' l.length c'] w fun e w' => e = .returned (.bool true) ∧ Below w.heap.size w w' := by
  have hlen := IsSl.len h
  dsimp only at hlen
  have HL := Lib.hid h
  have HL' := Lib.hid h'
  clear h h'
  go_enter Try.func50, Try.ntmps50
  go_wp2_with fail
  go_loopw [5] (fun i wr => ∃ k : Nat, k ≤ l.length ∧ i = .int .i64 k ∧ Below w.heap.size w wr) (fun i _ => l.length - (intOf i).toNat)
  case atStart => exact ⟨0, Nat.zero_le _, rfl, Below.refl _ _⟩
  case round =>
    obtain ⟨k, hk, rfl, hb⟩ := hrel
    have HB := Lib.hid hb
    clear hb
    by_cases hlt : k < l.length
    · have hl0 : (0 : Int) ≤ (k : Int) := by omega
      have hl1 : (k : Int) < (l.length : Int) := by omega
      obtain ⟨x, b, off, hx, ha, hbw, hx0, -⟩ := (HL.out.below HB.out).get hlt
      obtain ⟨y, b', off', hy, ha', hbw', hy0, -⟩ := (HL'.out.below HB.out).get hlt
      obtain rfl : x = y := by rw [hx] at hy; exact Option.some.inj hy
      have HA : Hid (At wr [(b, off + k, .string x), (b', off' + k, .string x)]) := .cons hbw hx0 (.cons hbw' hy0 (.nil _))
      subst ha ha'
      clear hx hy hx0 hy0
      go_wp2_with fail
      refine region_C (by kernel_rfl) (by kernel_rfl) (Cls.start HA.out) ?_
      repeat (first | go_big_quiet_skip | (go_big_quiet_want; (first | (apply q_val; (· (rintro w' ⟨hA, -⟩; have c0 := hA.hd; have c1 := hA.tl.hd; clear hA; go_simp; try rfl)))); simp only [Act.put, List.setIfInBounds_toArray, List.set_cons_zero, List.set_cons_succ]; go_big_quiet_on))
      refine wpQuiet_nil ?_
      intro w9 hC9
      have HB9 := Lib.hid (HB.out.trans (hC9.2.mono HB.out.size))
      clear hC9
      go_wp2_with fail
      go_roundw
      case rel => exact ⟨k + 1, by omega, by go_num, HB9.out⟩
      case measure => simp [intOf]; omega
    · go_wp2_with fail
      go_ret
      exact ⟨rfl, HB.out⟩
end Go.Proofs.Ytbkghiaafkmapaa
