/- A set's list of snapshots is within the form's own reach, sharply. No condition but that what comes in reads as data. -/
import Derived.Test.YtbkghiaafkmapaaData
namespace Go.Proofs.Ytbkghiaafkmapaa
open Go.ChangeShapes Go.WideShapes Go.ChangeAt Go.RowKit

theorem slice_sharp {H : Type} {enc : TypeId × Value → H} {w : World} {base : Nat} {spare : Nat → Bool} {held : Bool} {t e : TypeId} {by_ fuel len c : Nat} {a : Option Addr} {y : DataW H × List MemPlace} (ht : Try.prog.underlying t = some (.slice e))
    (hby : Try.prog.bytesOf e = by_) (h : DataW.trod enc Try.prog w base spare held fuel t [.slice a len c] = some y) (hwt : ∀ n ∈ y.1.weights Try.prog t, n ≤ reachBytes) : len * by_ ≤ reachBytes := by
  rcases Go.Deep.open_slice ht h with ⟨e1, rfl⟩ | ⟨a', len', cap, mm, n, Dt, Pl, e1, hb, hl, hmx, hmm, rfl, hx⟩
  · cases e1
    simp
  · cases e1
    have hle : len ≤ mm := by rw [hmm]; split <;> omega
    have hw0 : (len + (mm - len)) * by_ ≤ reachBytes := by
      refine hwt _ ?_
      simp only [DataW.weights, ht, List.length_map, List.length_range, hby]
      exact List.mem_cons_self ..
    exact Nat.le_trans (Nat.mul_le_mul_right _ (by omega)) hw0

theorem set_sharp {H : Type} {enc : TypeId × Value → H} {w : World} {base : Nat} {spare : Nat → Bool} {held : Bool} {x : SetD} {d : DataW H} {p : List MemPlace} (h : DataW.Trod enc Try.prog w base spare held 38 (.agg (cellsSet x).toArray) d p)
    (hwt : ∀ n ∈ d.weights Try.prog 38, n ≤ reachBytes) : x.snaps.l.length * 96 ≤ reachBytes := by
  obtain ⟨fuel, hf0⟩ := h
  have h1 : DataW.trod enc Try.prog w base spare held fuel 38 (cellsSet x) = some (d, p) := by simpa [Value.cells] using hf0
  obtain ⟨ys, n, hy, hcl, hyl, hf⟩ := struct_parts Try.underlying38 h1 hwt
  obtain ⟨z0, z1, z2, z3, z4, rfl⟩ := len5 (show ys.length = 5 from hyl)
  obtain ⟨z, hz, g3, e3⟩ := hf 3 _ rfl
  have g3' : DataW.trod enc Try.prog w base spare held n 35 (((cellsSet x).drop 3).take (Try.prog.cellsOf 35)) = some z := g3
  rw [cells35] at g3'
  exact slice_sharp Try.underlying35 bytes42 (show DataW.trod enc Try.prog w base spare held n 35 [.slice x.snaps.a x.snaps.l.length x.snaps.c] = some z from g3') e3
end Go.Proofs.Ytbkghiaafkmapaa
