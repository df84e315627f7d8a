/- The walk of totals.Share. No condition. -/
import Derived.Test.YtbkghiaafkmapaaRowBox
namespace Go.Proofs.Ytbkghiaafkmapaa
open Go.ChangeShapes Go.WideShapes Go.ChangeAt Go.RowKit

/-- a row's share, as the page says it -/
def shareN (r : RowD) : Int := if 0 ≤ r.charge ∧ r.charge ≤ 10995116277 ∧ 1 ≤ r.quota ∧ r.quota ≤ 1099511627776 then r.charge * 100 / r.quota else 0
theorem mul_hundred (a : Int) : (0 ≤ a ∧ a ≤ 10995116277 ∧ mulV a 100 = a * 100 ∧ mulE a 100 = 0) ∨ (¬ (0 ≤ a ∧ a ≤ 10995116277) ∧ mulV a 100 = 0 ∧ (mulE a 100 = 4 ∨ mulE a 100 = 15)) := by
  have hd : (1099511627776 : Int) / 100 = 10995116277 := by decide
  by_cases ha : amounts [a, 100] = true
  · obtain ⟨h0, h1, -, -⟩ := (amounts_two a 100).1 ha
    by_cases h : 10995116277 < a
    · exact .inr ⟨by omega, by simp [mulV, ha, h, hd], .inr (by simp [mulE, ha, h, hd])⟩
    · exact .inl ⟨h0, by omega, by simp [mulV, ha, h, hd], by simp [mulE, ha, h, hd]⟩
  · refine .inr ⟨fun ⟨h0, h1⟩ => ha ((amounts_two a 100).2 ⟨h0, by omega, by omega, by omega⟩), by simp [mulV, ha], .inl (by simp [mulE, ha])⟩

set_option maxHeartbeats 1000000 in
theorem Share_any (r : RowD) (w : World) (h : okRow w r) : Calls Try.prog 37 #[.agg #[.string r.name, .int .i64 r.sets, .int .i64 r.snaps, .int .i64 r.blocks, .int .i64 r.charge, .int .i64 r.quota]] w fun e w' => e = .returned (.int .i64 (shareN r)) ∧ Below w.heap.size w w' := by
  obtain ⟨name, sets, snaps, blocks, charge, quota⟩ := r
  obtain ⟨-, -, -, -, hc, hq⟩ := h
  dsimp only at hc hq ⊢
  have hm := fun W => mul_any charge 100 W hc (by unfold InR; omega)
  have HN : Hid (shareN ⟨name, sets, snaps, blocks, charge, quota⟩ = if 0 ≤ charge ∧ charge ≤ 10995116277 ∧ 1 ≤ quota ∧ quota ≤ 1099511627776 then charge * 100 / quota else 0) := rfl
  generalize shareN ⟨name, sets, snaps, blocks, charge, quota⟩ = sh at *
  have HB : Hid (Below w.heap.size w (w.alloc (.cells #[.string name, .int .i64 sets, .int .i64 snaps, .int .i64 blocks, .int .i64 charge, .int .i64 quota] 59))) := (Below.refl _ _).alloc (Nat.le_refl _) _
  rcases mul_hundred charge with ⟨h0, h1, hv, he⟩ | ⟨h0, hv, he⟩
  · rw [hv, he] at hm
    have HM := Lib.hid hm
    clear hm hv he
    by_cases q0 : quota < 1
    · have d1 : decide (quota < 1) = true := decide_eq_true q0
      go_enter Try.func37, Try.ntmps37
      go_wp2_with fail
      refine (HM.out _).mono ?_
      rintro e w1 ⟨rfl, hb⟩
      have c5 : w1.cell? ⟨w.heap.size, 5, none⟩ = some (.int .i64 quota) := by rw [hb.cell (p := ⟨w.heap.size, 5, none⟩) (by simp)]; go_simp
      have HB1 := Lib.hid (HB.out.trans (hb.mono (by simp)))
      clear hb
      go_wp2_with fail
      go_ret
      exact ⟨ret_int (by rw [HN.out, if_neg (by omega)]), HB1.out⟩
    · have d1 : decide (quota < 1) = false := decide_eq_false q0
      by_cases q1 : 1099511627776 < quota
      · have d2 : decide (1099511627776 < quota) = true := decide_eq_true q1
        go_enter Try.func37, Try.ntmps37
        go_wp2_with fail
        refine (HM.out _).mono ?_
        rintro e w1 ⟨rfl, hb⟩
        have c5 : w1.cell? ⟨w.heap.size, 5, none⟩ = some (.int .i64 quota) := by rw [hb.cell (p := ⟨w.heap.size, 5, none⟩) (by simp)]; go_simp
        have HB1 := Lib.hid (HB.out.trans (hb.mono (by simp)))
        clear hb
        go_wp2_with fail
        go_ret
        exact ⟨ret_int (by rw [HN.out, if_neg (by omega)]), HB1.out⟩
      · have d2 : decide (1099511627776 < quota) = false := decide_eq_false q1
        have d3 : (quota == 0) = false := by simp; omega
        have hp0 : 0 ≤ charge * 100 := by omega
        have hp1 : charge * 100 ≤ 1099511627776 := by omega
        have hq1 : 1 ≤ quota := by omega
        have hq2 : quota ≤ 1099511627776 := by omega
        go_enter Try.func37, Try.ntmps37
        go_wp2_with fail
        refine (HM.out _).mono ?_
        rintro e w1 ⟨rfl, hb⟩
        have c5 : w1.cell? ⟨w.heap.size, 5, none⟩ = some (.int .i64 quota) := by rw [hb.cell (p := ⟨w.heap.size, 5, none⟩) (by simp)]; go_simp
        have HB1 := Lib.hid (HB.out.trans (hb.mono (by simp)))
        clear hb
        go_wp2_with fail
        go_ret
        exact ⟨ret_int (by rw [HN.out, if_pos ⟨h0, h1, hq1, hq2⟩]), HB1.out⟩
  · rw [hv] at hm
    clear hv
    rcases he with he | he
    all_goals
      rw [he] at hm
      have HM := Lib.hid hm
      clear hm he
      go_enter Try.func37, Try.ntmps37
      go_wp2_with fail
      refine (HM.out _).mono ?_
      rintro e w1 ⟨rfl, hb⟩
      have HB1 := Lib.hid (HB.out.trans (hb.mono (by simp)))
      clear hb
      go_wp2_with fail
      go_ret
      exact ⟨ret_int (by rw [HN.out, if_neg (by omega)]), HB1.out⟩
end Go.Proofs.Ytbkghiaafkmapaa
