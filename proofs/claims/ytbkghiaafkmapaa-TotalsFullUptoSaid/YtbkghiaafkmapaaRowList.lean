/- Lists of totals' rows that the call owns. No condition. -/
import Derived.Test.YtbkghiaafkmapaaSumLaw
namespace Go.Proofs.Ytbkghiaafkmapaa
open Go.ChangeShapes Go.WideShapes Go.ChangeAt Go.RowKit

def min2I (x y : Int) : Int := if y < x then y else x
def max2I (x y : Int) : Int := if y > x then y else x
def min5 (a b c d e : Int) : Int := min2I (min2I (min2I (min2I a b) c) d) e
def max5 (a b c d e : Int) : Int := max2I (max2I (max2I (max2I a b) c) d) e
theorem run_min5 (P : Program) (ts : Array TypeId) (t : TypeId) (a b c d e : Int) (w : World) : (Builtin.min_ ts t #[.int .i64 a, .int .i64 b, .int .i64 c, .int .i64 d, .int .i64 e]).run P w = .ok (.int .i64 (min5 a b c d e)) w := by
  simp [Builtin.min_, Builtin.min2]; rfl
theorem run_max5 (P : Program) (ts : Array TypeId) (t : TypeId) (a b c d e : Int) (w : World) : (Builtin.max_ ts t #[.int .i64 a, .int .i64 b, .int .i64 c, .int .i64 d, .int .i64 e]).run P w = .ok (.int .i64 (max5 a b c d e)) w := by
  simp [Builtin.max_, Builtin.max2]; rfl
theorem le_min2I (x y n : Int) : n ≤ min2I x y ↔ n ≤ x ∧ n ≤ y := by unfold min2I; split <;> omega
theorem max2I_le (x y n : Int) : max2I x y ≤ n ↔ x ≤ n ∧ y ≤ n := by unfold max2I; split <;> omega
theorem le_min5 (a b c d e n : Int) : n ≤ min5 a b c d e ↔ n ≤ a ∧ n ≤ b ∧ n ≤ c ∧ n ≤ d ∧ n ≤ e := by simp only [min5, le_min2I, and_assoc]
theorem max5_le (a b c d e n : Int) : max5 a b c d e ≤ n ↔ a ≤ n ∧ b ≤ n ∧ c ≤ n ∧ d ≤ n ∧ e ≤ n := by simp only [max5, max2I_le, and_assoc]
theorem stOf_rng {l : List RowD} (h : (stOf l).1 = true) : (0 ≤ (stOf l).2.sets ∧ (stOf l).2.sets ≤ 1099511627776) ∧ (0 ≤ (stOf l).2.snaps ∧ (stOf l).2.snaps ≤ 1099511627776) ∧ (0 ≤ (stOf l).2.blocks ∧ (stOf l).2.blocks ≤ 1099511627776) ∧ (0 ≤ (stOf l).2.charge ∧ (stOf l).2.charge ≤ 1099511627776) ∧ (0 ≤ (stOf l).2.quota ∧ (stOf l).2.quota ≤ 1099511627776) := by
  rw [(stOf_law l).2 h]
  obtain ⟨h1, h2, h3, h4, h5⟩ := (stOf_law l).1.1 h
  exact ⟨⟨sum_nonneg h1.1, h1.2⟩, ⟨sum_nonneg h2.1, h2.2⟩, ⟨sum_nonneg h3.1, h3.2⟩, ⟨sum_nonneg h4.1, h4.2⟩, ⟨sum_nonneg h5.1, h5.2⟩⟩
theorem inRow_five (n : ByteArray) (a b c d e : Int) : inRow ⟨n, a, b, c, d, e⟩ = true ↔ 0 ≤ min5 a b c d e ∧ max5 a b c d e ≤ 1099511627776 := by
  rw [le_min5, max5_le]
  simp [inRow]
  omega
theorem leRow_five (n : ByteArray) (a b c d e : Int) : leRow ⟨n, a, b, c, d, e⟩ = decide (max5 a b c d e ≤ 1099511627776) := by
  rw [Bool.eq_iff_iff, decide_eq_true_iff, max5_le]
  simp [leRow]
  omega

theorem info59 : (Try.prog.info? 59).map (fun i => (i.zero, i.size, i.bytes)) = some (some (.agg #[.string .empty, .int .i64 0, .int .i64 0, .int .i64 0, .int .i64 0, .int .i64 0]), 6, 56) := by kernel_rfl
theorem lenRow (x : RowD) : (cellsRow x).length = 6 := rfl
theorem row_one (x : RowD) : ∀ u ∈ cellsRow x, u.oneCell' = true := by
  intro u hx
  simp only [cellsRow, List.mem_cons, List.not_mem_nil, or_false] at hx
  rcases hx with rfl | rfl | rfl | rfl | rfl | rfl <;> rfl
/-- a row of rows that the call owns, as a list that reads -/
theorem rows_owned {w : World} {base : Nat} {v : Value} {l : List RowD} (h : w.ownsRow base 59 6 v l.length (l.flatMap cellsRow)) (hlen : l.length * 56 ≤ 140737488355328) (hr : ∀ z ∈ l, okRow w z) :
    ∃ a c, v = .slice a l.length c ∧ IsRows w ⟨a, c, l⟩ := by
  rcases h.2 with ⟨rfl, h0⟩ | ⟨g, cap, cur, hv, -⟩
  · obtain rfl : l = [] := List.eq_nil_of_length_eq_zero h0
    exact ⟨none, 0, rfl, isSl_nil⟩
  · subst hv
    obtain ⟨_, hg, hrow⟩ := owned_cell h
    exact ⟨_, cap, rfl, isSl_of_row lenRow hlen hg (fun j u hj => (hrow j u hj).1) hr⟩
theorem RowAt.grownO {w w' : World} {r : Nat} {row : Option Nat} {y : RowD} (h : RowAt w r y) (hg : w.grownBy w' row) (hne : ∀ k, row = some k → r ≠ k) : RowAt w' r y := by
  have hne' : some r ≠ row := fun e => hne r e.symm rfl
  have hb : ∀ o, w'.cell? ⟨r, o, none⟩ = w.cell? ⟨r, o, none⟩ := fun o => World.cell?_of_block (hg.block r h.lt hne')
  have hf : ∀ o, w'.frozen? ⟨r, o, none⟩ = w.frozen? ⟨r, o, none⟩ := fun o => World.frozen?_of_block (hg.block r h.lt hne')
  exact ⟨Nat.lt_of_lt_of_le h.lt hg.size, (hb 0).trans h.c0, (hb 1).trans h.c1, (hb 2).trans h.c2, (hb 3).trans h.c3, (hb 4).trans h.c4, (hb 5).trans h.c5, fun o => (hf o).trans (h.f o)⟩

end Go.Proofs.Ytbkghiaafkmapaa
