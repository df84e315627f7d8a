/- Walks of the reference's has, Same; of usage.Changed and usage.Unique. No condition but that what comes in reads as data. -/
import Derived.Test.YtbkghiaafkmapaaMiss
import Derived.Deep.QuietTactic
import Derived.BigQuiet
import Derived.Deep.RegionWith
import Derived.Outline
namespace Go.Proofs.Ytbkghiaafkmapaa
open Go.ChangeShapes Go.WideShapes Go.ChangeAt Go.RowKit

theorem belowN {B : Nat} {a w : World} (h : Below B a w) (n : Nat) : Below B a (w.drewN n) := ⟨h.os, h.tape, h.output, h.size, h.block⟩

set_option maxHeartbeats 400000 in
theorem refHas_any (a : Option Addr) (c : Nat) (l : List BlockD) (x : BlockD) (w : World) (h : IsBlocks w ⟨a, c, l⟩) :
    Calls Try.prog 59 #[.slice a l.length c, .agg #[.int .i64 x.idx, .string x.data]] w fun e w' => e = .returned (.bool (hasB l x)) ∧ Below w.heap.size w w' := by
  have hl := IsSl.len h
  dsimp only at hl
  go_enter Try.func59, Try.ntmps59
  go_wp2_with fail
  go_loopw [5] (fun i wr => ∃ (k : Nat), k ≤ l.length ∧ i = .int .i64 k ∧ hasB l x = hasB (l.drop k) x ∧ BoxB w x wr) (fun i _ => l.length - (intOf i).toNat)
  case atStart => exact ⟨0, Nat.zero_le _, rfl, by simp, (Below.refl _ _).alloc (Nat.le_refl _) _, by simp, by go_simp, by go_simp⟩
  case round =>
    obtain ⟨k, hk, rfl, hS, hB⟩ := hrel
    have HS := Lib.hid hS
    have HB := Lib.hid hB
    obtain ⟨_, _, hc0, hc1⟩ := hB
    clear hS
    by_cases hlt : k < l.length
    · obtain ⟨y, b, off, hy, rfl, -, hy0, hy1, -⟩ := (h.below HB.out.below).get hlt
      have hst := Lib.hid (hasB_step hy x)
      have HL : Hid (∀ n, BoxB w x (wr.drewN n)) := fun n => HB.out.later (belowN (Below.refl _ _) n)
      clear hy
      have hlt' : (k : Int) < (l.length : Int) := by omega
      by_cases e1 : y.idx = x.idx
      · have b1 : (y.idx == x.idx) = true := by simpa using e1
        by_cases e2 : y.data.toList = x.data.toList
        · have b2 : (y.data.toList == x.data.toList) = true := by simpa using e2
          have HF := Lib.hid (show hasB l x = true by rw [HS.out, hst.out, sameB, b1, b2]; rfl)
          clear e1 e2
          go_wp2_with fail
          go_quiet (fail)
          go_wp2_with fail
          go_ret
          exact ⟨ret_bool HF.out.symm, (HL.out _).below⟩
        · have b2 : (y.data.toList == x.data.toList) = false := by simpa using e2
          have HF := Lib.hid (show hasB l x = hasB (l.drop (k + 1)) x by rw [HS.out, hst.out, sameB, b1, b2]; rfl)
          clear e1 e2
          go_wp2_with fail
          go_quiet (fail)
          go_wp2_with fail
          go_roundw
          case rel => exact ⟨k + 1, by omega, by go_num, HF.out, HL.out _⟩
          case measure => simp [intOf]; omega
      · have b1 : (y.idx == x.idx) = false := by simpa using e1
        have HF := Lib.hid (show hasB l x = hasB (l.drop (k + 1)) x by rw [HS.out, hst.out, sameB, b1]; rfl)
        clear e1
        go_wp2_with fail
        go_quiet (fail)
        go_wp2_with fail
        go_roundw
        case rel => exact ⟨k + 1, by omega, by go_num, HF.out, HL.out _⟩
        case measure => simp [intOf]; omega
    · have HF := Lib.hid (show hasB l x = false by rw [HS.out, List.drop_of_length_le (by omega)]; rfl)
      go_wp2_with fail
      go_ret
      exact ⟨ret_bool HF.out.symm, HB.out.below⟩

/-- are two contents one? -/
def sameL (a b : List BlockD) : Bool := (a.length == b.length) && (a.zip b).all fun p => sameB p.1 p.2
theorem sameL_step {a b : List BlockD} {k : Nat} {x y : BlockD} (hx : a[k]? = some x) (hy : b[k]? = some y) :
    ((a.drop k).zip (b.drop k)).all (fun p => sameB p.1 p.2) = (sameB x y && ((a.drop (k + 1)).zip (b.drop (k + 1))).all fun p => sameB p.1 p.2) := by rw [drop_get hx, drop_get hy]; rfl

set_option maxHeartbeats 400000 in
theorem same_any (a a' : Option Addr) (c c' : Nat) (l l' : List BlockD) (w : World) (h : IsBlocks w ⟨a, c, l⟩) (h' : IsBlocks w ⟨a', c', l'⟩) :
    Calls Try.prog 26 #[.slice a l.length c, .slice a' l'.length c'] w fun e w' => e = .returned (.bool (sameL l l')) ∧ Below w.heap.size w w' := by
  have hl := IsSl.len h
  have hl' := IsSl.len h'
  dsimp only at hl hl'
  by_cases hll : l.length = l'.length
  case neg =>
    have hb : (((l.length : Int) != (l'.length : Int))) = true := by rw [bne_iff_ne]; omega
    have HF := Lib.hid (show sameL l l' = false by simp [sameL, hll])
    go_enter Try.func26, Try.ntmps26
    go_wp2_with fail
    go_ret
    exact ⟨ret_bool HF.out.symm, Below.refl _ _⟩
  have hb : (((l.length : Int) != (l'.length : Int))) = false := by rw [bne_eq_false_iff_eq]; omega
  have HS0 := Lib.hid (show sameL l l' = (l.zip l').all fun p => sameB p.1 p.2 by simp [sameL, hll])
  have HLL := Lib.hid hll
  clear hll
  go_enter Try.func26, Try.ntmps26
  go_wp2_with fail
  go_loopw [5] (fun i wr => ∃ (k : Nat), k ≤ l.length ∧ i = .int .i64 k ∧ sameL l l' = (((l.drop k).zip (l'.drop k)).all fun p => sameB p.1 p.2) ∧ Below w.heap.size w wr) (fun i _ => l.length - (intOf i).toNat)
  case atStart => exact ⟨0, Nat.zero_le _, rfl, HS0.out, Below.refl _ _⟩
  case round =>
    obtain ⟨k, hk, rfl, hS, hB⟩ := hrel
    have HS := Lib.hid hS
    have HB := Lib.hid hB
    clear hS hB
    by_cases hlt : k < l.length
    · obtain ⟨x, b, off, hx, hxa, -, hx0, hx1, -⟩ := (h.below HB.out).get hlt
      obtain ⟨y, b', off', hy, hya, -, hy0, hy1, -⟩ := (h'.below HB.out).get (show k < l'.length by have := HLL.out; omega)
      subst hxa hya
      have hst := Lib.hid (sameL_step hx hy)
      clear hx hy
      have hlt' : (k : Int) < (l.length : Int) := by omega
      have hlt2 : (k : Int) < (l'.length : Int) := by have := HLL.out; omega
      by_cases e1 : x.idx = y.idx
      · have b1 : (x.idx == y.idx) = true := by simpa using e1
        by_cases e2 : x.data.toList = y.data.toList
        · have b2 : (x.data.toList == y.data.toList) = true := by simpa using e2
          have HF := Lib.hid (show sameL l l' = (((l.drop (k + 1)).zip (l'.drop (k + 1))).all fun p => sameB p.1 p.2) by rw [HS.out, hst.out, sameB, b1, b2]; rfl)
          clear e1 e2
          go_wp2_with fail
          go_quiet (fail)
          go_wp2_with fail
          go_roundw
          case rel => exact ⟨k + 1, by omega, by go_num, HF.out, belowN HB.out _⟩
          case measure => simp [intOf]; omega
        · have b2 : (x.data.toList == y.data.toList) = false := by simpa using e2
          have HF := Lib.hid (show sameL l l' = false by rw [HS.out, hst.out, sameB, b1, b2]; rfl)
          clear e1 e2
          go_wp2_with fail
          go_quiet (fail)
          go_wp2_with fail
          go_ret
          exact ⟨ret_bool HF.out.symm, belowN HB.out _⟩
      · have b1 : (x.idx == y.idx) = false := by simpa using e1
        have HF := Lib.hid (show sameL l l' = false by rw [HS.out, hst.out, sameB, b1]; rfl)
        clear e1
        go_wp2_with fail
        go_quiet (fail)
        go_wp2_with fail
        go_ret
        exact ⟨ret_bool HF.out.symm, belowN HB.out _⟩
    · have HF := Lib.hid (show sameL l l' = true by rw [HS.out, List.drop_of_length_le (by omega)]; rfl)
      go_wp2_with fail
      go_ret
      exact ⟨ret_bool HF.out.symm, HB.out⟩
end Go.Proofs.Ytbkghiaafkmapaa
