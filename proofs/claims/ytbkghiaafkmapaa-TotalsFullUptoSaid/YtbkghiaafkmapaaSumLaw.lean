/- The plain law of rows' sums: in whatever order rows stand, they are one. No condition. -/
import Derived.Test.YtbkghiaafkmapaaSum
namespace Go.Proofs.Ytbkghiaafkmapaa
open Go.ChangeShapes Go.WideShapes Go.ChangeAt Go.RowKit

theorem amounts_cons (x : Int) (l : List Int) : amounts (x :: l) = true ↔ (0 ≤ x ∧ x ≤ 1099511627776) ∧ amounts l = true := by
  simp [amounts, oddB]
theorem sum_nonneg : ∀ {l : List Int}, amounts l = true → 0 ≤ l.sum
  | [], _ => by simp
  | x :: l, h => by
    obtain ⟨⟨h0, _⟩, h1⟩ := (amounts_cons x l).1 h
    have := sum_nonneg h1
    simp only [List.sum_cons]; omega
theorem sumUp_sum : ∀ {l : List Int} {s : Int}, amounts l = true → s ≤ 1099511627776 → sumUp l s = if s + l.sum ≤ 1099511627776 then some (s + l.sum) else none
  | [], s, _, hs => by simp [sumUp, hs]
  | x :: l, s, h, hs => by
    obtain ⟨⟨h0, h1⟩, h2⟩ := (amounts_cons x l).1 h
    have hn := sum_nonneg h2
    have e : (x :: l).sum = x + l.sum := List.sum_cons
    simp only [sumUp]
    by_cases hx : 1099511627776 - x < s
    · rw [if_pos hx, if_neg (by omega)]
    · rw [if_neg hx, sumUp_sum h2 (by omega)]
      by_cases hy : s + x + l.sum ≤ 1099511627776
      · rw [if_pos hy, if_pos (by omega), e, show s + x + l.sum = s + (x + l.sum) by omega]
      · rw [if_neg hy, if_neg (by omega)]
/-- a column is summed -/
def okCol (l : List Int) : Prop := amounts l = true ∧ l.sum ≤ 1099511627776
theorem addE_zero (l : List Int) : addE l = 0 ↔ okCol l := by
  unfold addE okCol
  by_cases h : amounts l = true
  · rw [if_pos h, sumUp_sum h (by omega)]
    by_cases hs : l.sum ≤ 1099511627776 <;> simp [h, hs]
  · simp [h]
theorem addN_ok {l : List Int} (h : okCol l) : addN l = l.sum := by
  simp [addN, h.1, sumUp_sum h.1 (show (0 : Int) ≤ 1099511627776 by omega), h.2]
theorem amounts_reverse (l : List Int) : amounts l.reverse = amounts l := by simp [amounts]
theorem sum_reverse' (l : List Int) : l.reverse.sum = l.sum := by
  induction l with
  | nil => rfl
  | cons x l ih => rw [List.reverse_cons, List.sum_append, ih]; simp; omega
theorem okCol_reverse (l : List Int) : okCol l.reverse ↔ okCol l := by unfold okCol; rw [amounts_reverse, sum_reverse']
theorem col_reverse (f : RowD → Int) (l : List RowD) : colOf f l.reverse = (colOf f l).reverse := by simp [colOf]
theorem errUp_zero (a b : Int) : errUp a b = 0 ↔ a = 0 ∧ b = 0 := by
  unfold errUp
  split <;> omega
/-- all columns are summed -/
def okRows (l : List RowD) : Prop := okCol (colOf RowD.sets l) ∧ okCol (colOf RowD.snaps l) ∧ okCol (colOf RowD.blocks l) ∧ okCol (colOf RowD.charge l) ∧ okCol (colOf RowD.quota l)
theorem sumE_zero (l : List RowD) : sumE l = 0 ↔ okRows l := by
  simp only [sumE, errUp_zero, addE_zero, okRows, true_and]
  constructor
  · rintro ⟨⟨⟨⟨h1, h2⟩, h3⟩, h4⟩, h5⟩; exact ⟨h1, h2, h3, h4, h5⟩
  · rintro ⟨h1, h2, h3, h4, h5⟩; exact ⟨⟨⟨⟨h1, h2⟩, h3⟩, h4⟩, h5⟩
def totalsOf (l : List RowD) : RowD := ⟨⟨#[]⟩, (colOf RowD.sets l).sum, (colOf RowD.snaps l).sum, (colOf RowD.blocks l).sum, (colOf RowD.charge l).sum, (colOf RowD.quota l).sum⟩
theorem sumR_ok {l : List RowD} (h : okRows l) : sumR l = totalsOf l := by
  rw [sumR, if_pos ((sumE_zero l).2 h)]
  obtain ⟨h1, h2, h3, h4, h5⟩ := h
  rw [addN_ok h1, addN_ok h2, addN_ok h3, addN_ok h4, addN_ok h5]
  rfl
theorem sumR_bad {l : List RowD} (h : ¬ okRows l) : sumR l = ⟨⟨#[]⟩, 0, 0, 0, 0, 0⟩ := by
  rw [sumR, if_neg (fun e => h ((sumE_zero l).1 e))]
theorem okRows_reverse (l : List RowD) : okRows l.reverse ↔ okRows l := by
  unfold okRows
  simp only [col_reverse, okCol_reverse]
theorem totalsOf_reverse (l : List RowD) : totalsOf l.reverse = totalsOf l := by
  unfold totalsOf
  simp only [col_reverse, sum_reverse']
/-- a row's numbers are amounts -/
def inRow (r : RowD) : Bool := (decide (0 ≤ r.sets) && decide (r.sets ≤ 1099511627776)) && (decide (0 ≤ r.snaps) && decide (r.snaps ≤ 1099511627776)) && (decide (0 ≤ r.blocks) && decide (r.blocks ≤ 1099511627776)) && (decide (0 ≤ r.charge) && decide (r.charge ≤ 1099511627776)) && (decide (0 ≤ r.quota) && decide (r.quota ≤ 1099511627776))
def addRow (x r : RowD) : RowD := ⟨⟨#[]⟩, x.sets + r.sets, x.snaps + r.snaps, x.blocks + r.blocks, x.charge + r.charge, x.quota + r.quota⟩
def leRow (r : RowD) : Bool := decide (r.sets ≤ 1099511627776) && decide (r.snaps ≤ 1099511627776) && decide (r.blocks ≤ 1099511627776) && decide (r.charge ≤ 1099511627776) && decide (r.quota ≤ 1099511627776)
/-- the statement's own sum on its way, from the last row on -/
def stOf : List RowD → Bool × RowD
  | [] => (true, ⟨⟨#[]⟩, 0, 0, 0, 0, 0⟩)
  | r :: l => if (stOf l).1 = true ∧ inRow r = true then (leRow (addRow (stOf l).2 r), addRow (stOf l).2 r) else (false, (stOf l).2)
theorem stOf_law : ∀ (l : List RowD), ((stOf l).1 = true ↔ okRows l) ∧ ((stOf l).1 = true → (stOf l).2 = totalsOf l)
  | [] => ⟨by simp [stOf, okRows, okCol, colOf, amounts], fun _ => rfl⟩
  | r :: l => by
    obtain ⟨h1, h2⟩ := stOf_law l
    have hc : ∀ f : RowD → Int, okCol (colOf f (r :: l)) ↔ (0 ≤ f r ∧ f r ≤ 1099511627776) ∧ okCol (colOf f l) ∧ f r + (colOf f l).sum ≤ 1099511627776 := by
      intro f
      simp only [okCol, colOf, List.map_cons, amounts_cons, List.sum_cons]
      constructor
      · rintro ⟨⟨ha, hb⟩, hs⟩; have := sum_nonneg hb; exact ⟨ha, ⟨hb, by omega⟩, hs⟩
      · rintro ⟨ha, ⟨hb, _⟩, hs⟩; exact ⟨⟨ha, hb⟩, hs⟩
    have hi : inRow r = true ↔ (0 ≤ r.sets ∧ r.sets ≤ 1099511627776) ∧ (0 ≤ r.snaps ∧ r.snaps ≤ 1099511627776) ∧ (0 ≤ r.blocks ∧ r.blocks ≤ 1099511627776) ∧ (0 ≤ r.charge ∧ r.charge ≤ 1099511627776) ∧ (0 ≤ r.quota ∧ r.quota ≤ 1099511627776) := by simp [inRow, and_assoc]
    by_cases hk : (stOf l).1 = true ∧ inRow r = true
    · have ht := h2 hk.1
      have hadd : addRow (stOf l).2 r = totalsOf (r :: l) := by
        rw [ht]
        simp only [addRow, totalsOf, colOf, List.map_cons, List.sum_cons, RowD.mk.injEq, true_and]
        omega
      have hl : leRow (totalsOf (r :: l)) = true ↔ r.sets + (colOf RowD.sets l).sum ≤ 1099511627776 ∧ r.snaps + (colOf RowD.snaps l).sum ≤ 1099511627776 ∧ r.blocks + (colOf RowD.blocks l).sum ≤ 1099511627776 ∧ r.charge + (colOf RowD.charge l).sum ≤ 1099511627776 ∧ r.quota + (colOf RowD.quota l).sum ≤ 1099511627776 := by
        simp [leRow, totalsOf, colOf, and_assoc]
      have e : stOf (r :: l) = (leRow (totalsOf (r :: l)), totalsOf (r :: l)) := by rw [stOf, if_pos hk, hadd]
      refine ⟨?_, fun _ => by rw [e]⟩
      rw [e]
      have hr := hi.1 hk.2
      have hok := h1.1 hk.1
      unfold okRows at hok ⊢
      simp only [hc]
      rw [hl]
      obtain ⟨o1, o2, o3, o4, o5⟩ := hok
      obtain ⟨r1, r2, r3, r4, r5⟩ := hr
      constructor
      · rintro ⟨a1, a2, a3, a4, a5⟩; exact ⟨⟨r1, o1, a1⟩, ⟨r2, o2, a2⟩, ⟨r3, o3, a3⟩, ⟨r4, o4, a4⟩, ⟨r5, o5, a5⟩⟩
      · rintro ⟨a1, a2, a3, a4, a5⟩; exact ⟨a1.2.2, a2.2.2, a3.2.2, a4.2.2, a5.2.2⟩
    · have e : stOf (r :: l) = (false, (stOf l).2) := by rw [stOf, if_neg hk]
      rw [e]
      refine ⟨⟨fun h => by simp at h, fun h => ?_⟩, fun h => by simp at h⟩
      exfalso
      refine hk ⟨h1.2 ?_, hi.2 ?_⟩
      · unfold okRows at h ⊢
        simp only [hc] at h
        exact ⟨h.1.2.1, h.2.1.2.1, h.2.2.1.2.1, h.2.2.2.1.2.1, h.2.2.2.2.2.1⟩
      · unfold okRows at h
        simp only [hc] at h
        exact ⟨h.1.1, h.2.1.1, h.2.2.1.1, h.2.2.2.1.1, h.2.2.2.2.1⟩
end Go.Proofs.Ytbkghiaafkmapaa
