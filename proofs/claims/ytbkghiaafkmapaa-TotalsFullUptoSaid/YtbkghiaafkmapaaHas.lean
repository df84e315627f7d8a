/- Walks of what a content has: blocks held against each other. No condition but that what comes in reads as data. -/
import Derived.Test.YtbkghiaafkmapaaUsage3
import Derived.Laws.StructEq
import Derived.Outline
namespace Go.Proofs.Ytbkghiaafkmapaa
open Go.ChangeShapes Go.WideShapes Go.ChangeAt Go.RowKit

/-- are two blocks one? -/
def sameB (y x : BlockD) : Bool := (y.idx == x.idx) && (y.data.toList == x.data.toList)
def hasB (l : List BlockD) (x : BlockD) : Bool := l.any fun y => sameB y x
theorem hasB_step {l : List BlockD} {k : Nat} {y : BlockD} (h : l[k]? = some y) (x : BlockD) : hasB (l.drop k) x = (sameB y x || hasB (l.drop (k + 1)) x) := by rw [drop_get h]; rfl

/-- the box of the block that is asked for stands -/
structure BoxB (w : World) (x : BlockD) (wr : World) : Prop where
  below : Below w.heap.size w wr
  size : w.heap.size < wr.heap.size
  c0 : wr.cell? ⟨w.heap.size, 0, none⟩ = some (.int .i64 x.idx)
  c1 : wr.cell? ⟨w.heap.size, 1, none⟩ = some (.string x.data)
theorem BoxB.later {w wr w' : World} {x : BlockD} (h : BoxB w x wr) (hb : Below wr.heap.size wr w') : BoxB w x w' :=
  ⟨h.below.trans (hb.mono h.below.size), Nat.lt_of_lt_of_le h.size hb.size, by rw [hb.cell (p := ⟨w.heap.size, 0, none⟩) h.size]; exact h.c0, by rw [hb.cell (p := ⟨w.heap.size, 1, none⟩) h.size]; exact h.c1⟩

set_option maxHeartbeats 400000 in
theorem has_any (a : Option Addr) (c : Nat) (l : List BlockD) (x : BlockD) (w : World) (h : IsBlocks w ⟨a, c, l⟩) :
    Calls Try.prog 75 #[.slice a l.length c, .agg #[.int .i64 x.idx, .string x.data]] w fun e w' => e = .returned (.bool (hasB l x)) ∧ Below w.heap.size w w' := by
  have hl := IsSl.len h
  dsimp only at hl
  go_enter Try.func75, Try.ntmps75
  go_wp2_with fail
  go_loopw [6, 9] (fun _ i wr => ∃ (k : Nat), k ≤ l.length ∧ i = .int .i64 k ∧ hasB l x = hasB (l.drop k) x ∧ BoxB w x wr) (fun _ i _ => l.length - (intOf i).toNat)
  case atStart => exact ⟨0, Nat.zero_le _, rfl, by simp, (Below.refl _ _).alloc (Nat.le_refl _) _, by simp, by go_simp, by go_simp⟩
  case round =>
    obtain ⟨k, hk, rfl, hS, hB⟩ := hrel
    have HS := Lib.hid hS
    have HB := Lib.hid hB
    obtain ⟨_, _, hc0, hc1⟩ := hB
    clear hS
    by_cases hlt : k < l.length
    · obtain ⟨y, b, off, hy, rfl, -, hy0, hy1, -⟩ := (h.below HB.out.below).get hlt
      have hst := Lib.hid (hasB_step hy x)
      have HL := Lib.hid (HB.out.later ((Below.refl _ _).alloc (Nat.le_refl _) (.cells #[.int .i64 y.idx, .string y.data] 94)))
      clear hy
      by_cases e1 : y.idx = x.idx
      · have b1 : (y.idx == x.idx) = true := by simpa using e1
        by_cases e2 : y.data.toList = x.data.toList
        · have b2 : (y.data.toList == x.data.toList) = true := by simpa using e2
          have HF := Lib.hid (show hasB l x = true by rw [HS.out, hst.out, sameB, b1, b2]; rfl)
          clear e1 e2
          go_wp2_with fail
          go_ret
          exact ⟨ret_bool HF.out.symm, HL.out.below⟩
        · have b2 : (y.data.toList == x.data.toList) = false := by simpa using e2
          have HF := Lib.hid (show hasB l x = hasB (l.drop (k + 1)) x by rw [HS.out, hst.out, sameB, b1, b2]; rfl)
          clear e1 e2
          go_wp2_with fail
          go_roundw
          case rel => exact ⟨k + 1, by omega, by go_num, HF.out, HL.out⟩
          case measure => simp [intOf]; omega
      · have b1 : (y.idx == x.idx) = false := by simpa using e1
        have HF := Lib.hid (show hasB l x = hasB (l.drop (k + 1)) x by rw [HS.out, hst.out, sameB, b1]; rfl)
        clear e1
        go_wp2_with fail
        go_roundw
        case rel => exact ⟨k + 1, by omega, by go_num, HF.out, HL.out⟩
        case measure => simp [intOf]; omega
    · have HF := Lib.hid (show hasB l x = false by rw [HS.out, List.drop_of_length_le (by omega)]; rfl)
      go_wp2_with fail
      go_ret
      exact ⟨ret_bool HF.out.symm, HB.out.below⟩
end Go.Proofs.Ytbkghiaafkmapaa
