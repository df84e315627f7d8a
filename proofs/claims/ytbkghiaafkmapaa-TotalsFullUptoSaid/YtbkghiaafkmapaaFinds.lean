/- Walks of the reference's finds and grants. No condition but that what comes in reads as data. -/
import Derived.Test.YtbkghiaafkmapaaStages
namespace Go.Proofs.Ytbkghiaafkmapaa
open Go.ChangeShapes Go.WideShapes Go.ChangeAt Go.RowKit

/-- the first place from k on; -1 where there is none -/
def firstAtN (f : Nat → Bool) (n k : Nat) : Int := if k < n then (if f k = true then (k : Int) else firstAtN f n (k + 1)) else -1
termination_by n - k
theorem firstAtN_rng (f : Nat → Bool) (n k : Nat) : firstAtN f n k = -1 ∨ (0 ≤ firstAtN f n k ∧ firstAtN f n k < n) := by
  rw [firstAtN]
  split
  · split
    · right; omega
    · exact firstAtN_rng f n (k + 1)
  · left; rfl
termination_by n - k
def findSetAt (l : List SetD) (p : ByteArray) (k : Nat) : Int := firstAtN (fun i => (l.getD i default).path.toList == p.toList) l.length k
def findSet (l : List SetD) (p : ByteArray) : Int := findSetAt l p 0
set_option maxRecDepth 100000 in
set_option maxHeartbeats 2000000 in
theorem Find_any (x : TenantD) (p : ByteArray) (w : World) (h : okTenant w x) :
    Calls Try.prog 80 #[.agg #[.string x.name, .int .i64 x.quota, .int .i64 x.next, .slice x.sets.a x.sets.l.length x.sets.c, .slice x.grants.a x.grants.l.length x.grants.c, .slice x.stages.a x.stages.l.length x.stages.c, .slice x.log.a x.log.l.length x.log.c], .string p] w fun e w' => e = .returned (.int .i64 (findSet x.sets.l p)) ∧ Below w.heap.size w w' := by
  have hl : IsSets w x.sets := h.2.2.2.1
  have HV : Hid (findSet x.sets.l p = findSetAt x.sets.l p 0) := rfl
  have hB : Below w.heap.size w (w.alloc (.cells #[.string x.name, .int .i64 x.quota, .int .i64 x.next, .slice x.sets.a x.sets.l.length x.sets.c, .slice x.grants.a x.grants.l.length x.grants.c, .slice x.stages.a x.stages.l.length x.stages.c, .slice x.log.a x.log.l.length x.log.c] 53)) := (Below.refl _ _).alloc (Nat.le_refl _) _
  have HB := Lib.hid hB
  have HL := Lib.hid hl
  have hlen := IsSl.len hl
  generalize findSet x.sets.l p = fv at *
  clear hl hB h
  go_enter Try.func80, Try.ntmps80
  go_wp2_with fail
  go_loop [5] (fun i => ∃ k : Nat, k ≤ x.sets.l.length ∧ i = .int .i64 k ∧ fv = findSetAt x.sets.l p k) (fun i => x.sets.l.length - (intOf i).toNat)
  case atStart => exact ⟨0, Nat.zero_le _, rfl, HV.out⟩
  case round =>
    obtain ⟨k, hk, rfl, hd⟩ := hrel
    have HD := Lib.hid hd
    clear hd
    by_cases hlt : k < x.sets.l.length
    · have hl0 : (0 : Int) ≤ (k : Int) := by omega
      have hl1 : (k : Int) < (x.sets.l.length : Int) := by omega
      obtain ⟨y, b, off, hy, ha, hbw, hy0, hy1, hy2, hy3, hy4, -⟩ := HL.out.get hlt
      have hne : b ≠ w.heap.size := by omega
      have hne2 : w.heap.size ≠ b := by omega
      cases hc : (y.path.toList == p.toList)
      · have HN : Hid (fv = findSetAt x.sets.l p (k + 1)) := by
          show _ = _
          rw [HD.out, findSetAt, firstAtN, if_pos hlt, if_neg (by simp [List.getD, hy, hc])]; rfl
        clear hy
        go_wp2_with fail
        go_round
        case rel => exact ⟨k + 1, by omega, by go_num, HN.out⟩
        case measure => simp [intOf]; omega
      · have HN : Hid (fv = (k : Int)) := by
          show _ = _
          rw [HD.out, findSetAt, firstAtN, if_pos hlt, if_pos (by simp only [List.getD, hy]; exact hc)]
        have hc2 : y.path.toList = p.toList := by simpa using hc
        clear hy
        go_wp2_with fail
        go_ret
        exact ⟨ret_int HN.out.symm, by have := HB.out; rw [ha] at this; exact this⟩
    · have HN : Hid (fv = -1) := by
        show _ = _
        rw [HD.out, findSetAt, firstAtN, if_neg hlt]
      go_wp2_with fail
      go_ret
      exact ⟨ret_int HN.out.symm, HB.out⟩
def findSnapAt (l : List SnapD) (p : ByteArray) (k : Nat) : Int := firstAtN (fun i => (l.getD i default).name.toList == p.toList) l.length k
def findSnap (l : List SnapD) (p : ByteArray) : Int := findSnapAt l p 0
set_option maxRecDepth 100000 in
set_option maxHeartbeats 2000000 in
theorem Snap_any (x : SetD) (p : ByteArray) (w : World) (h : okSet w x) :
    Calls Try.prog 91 #[.agg #[.string x.path, .string x.origin, .slice x.body.a x.body.l.length x.body.c, .slice x.snaps.a x.snaps.l.length x.snaps.c, .slice x.own.a x.own.l.length x.own.c], .string p] w fun e w' => e = .returned (.int .i64 (findSnap x.snaps.l p)) ∧ Below w.heap.size w w' := by
  have hl : IsSnaps w x.snaps := h.2.2.2.1
  have HV : Hid (findSnap x.snaps.l p = findSnapAt x.snaps.l p 0) := rfl
  have hB : Below w.heap.size w (w.alloc (.cells #[.string x.path, .string x.origin, .slice x.body.a x.body.l.length x.body.c, .slice x.snaps.a x.snaps.l.length x.snaps.c, .slice x.own.a x.own.l.length x.own.c] 38)) := (Below.refl _ _).alloc (Nat.le_refl _) _
  have HB := Lib.hid hB
  have HL := Lib.hid hl
  have hlen := IsSl.len hl
  generalize findSnap x.snaps.l p = fv at *
  clear hl hB h
  go_enter Try.func91, Try.ntmps91
  go_wp2_with fail
  go_loop [5] (fun i => ∃ k : Nat, k ≤ x.snaps.l.length ∧ i = .int .i64 k ∧ fv = findSnapAt x.snaps.l p k) (fun i => x.snaps.l.length - (intOf i).toNat)
  case atStart => exact ⟨0, Nat.zero_le _, rfl, HV.out⟩
  case round =>
    obtain ⟨k, hk, rfl, hd⟩ := hrel
    have HD := Lib.hid hd
    clear hd
    by_cases hlt : k < x.snaps.l.length
    · have hl0 : (0 : Int) ≤ (k : Int) := by omega
      have hl1 : (k : Int) < (x.snaps.l.length : Int) := by omega
      obtain ⟨y, b, off, hy, ha, hbw, hy0, hy1, hy2, hy3, hy4, -⟩ := HL.out.get hlt
      have hne : b ≠ w.heap.size := by omega
      have hne2 : w.heap.size ≠ b := by omega
      cases hc : (y.name.toList == p.toList)
      · have HN : Hid (fv = findSnapAt x.snaps.l p (k + 1)) := by
          show _ = _
          rw [HD.out, findSnapAt, firstAtN, if_pos hlt, if_neg (by simp [List.getD, hy, hc])]; rfl
        clear hy
        go_wp2_with fail
        go_round
        case rel => exact ⟨k + 1, by omega, by go_num, HN.out⟩
        case measure => simp [intOf]; omega
      · have HN : Hid (fv = (k : Int)) := by
          show _ = _
          rw [HD.out, findSnapAt, firstAtN, if_pos hlt, if_pos (by simp only [List.getD, hy]; exact hc)]
        have hc2 : y.name.toList = p.toList := by simpa using hc
        clear hy
        go_wp2_with fail
        go_ret
        exact ⟨ret_int HN.out.symm, by have := HB.out; rw [ha] at this; exact this⟩
    · have HN : Hid (fv = -1) := by
        show _ = _
        rw [HD.out, findSnapAt, firstAtN, if_neg hlt]
      go_wp2_with fail
      go_ret
      exact ⟨ret_int HN.out.symm, HB.out⟩
end Go.Proofs.Ytbkghiaafkmapaa
