/- godownlaw02.CountBack answers true for all three numbers. No condition. -/
import Derived.Test.YtbkghiaafkmapaaCount2
namespace Go.Proofs.Ytbkghiaafkmapaa.countBack
open Go.ChangeShapes Go.WideShapes Go.ChangeAt Go.RowKit

theorem isInts_three (w : World) (a b c : Int) (ha : InR a) (hb : InR b) (hc : InR c) (n : Nat) (hn : n = w.heap.size) : IsInts (w.alloc (.cells #[.int .i64 a, .int .i64 b, .int .i64 c] 3)) (some ⟨n, 0, none⟩) [a, b, c] := by
  subst hn
  refine ⟨by simp, fun i hi => ⟨w.heap.size, 0, rfl, by simp, ?_⟩, fun i hi => ?_⟩
  · match i, hi with
    | 0, _ => go_simp
    | 1, _ => go_simp
    | 2, _ => go_simp
  · match i, hi with
    | 0, _ => exact ha
    | 1, _ => exact hb
    | 2, _ => exact hc

theorem amounts_three (a b c : Int) : amounts [a, b, c] = true ↔ ((0 ≤ a ∧ a ≤ 1099511627776) ∧ (0 ≤ b ∧ b ≤ 1099511627776) ∧ (0 ≤ c ∧ c ≤ 1099511627776)) := by
  simp [amounts, oddB]

theorem sumUp_three {a b c : Int} (h : amounts [a, b, c] = true) : sumUp [a, b, c] 0 = if a + b + c ≤ 1099511627776 then some (a + b + c) else none := by
  have := (amounts_three a b c).1 h
  unfold sumUp sumUp sumUp sumUp
  split
  · omega
  · split
    · rw [if_neg (by omega)]
    · split
      · rw [if_neg (by omega)]
      · rw [if_pos (by omega)]; simp

/-- the three ways -/
theorem ways (a b c : Int) : (addN [c, a, b] = addN [a, b, c] ∧ addE [c, a, b] = addE [a, b, c]) ∧
    ((addE [a, b, c] ≠ 0 ∧ InR (addE [a, b, c]) ∧ addN [a, b, c] = 0) ∨ (addE [a, b, c] = 0 ∧ addN [a, b, c] = a + b + c ∧ a + b + c ≤ 1099511627776 ∧ 0 ≤ a ∧ 0 ≤ b ∧ 0 ≤ c)) := by
  by_cases h : amounts [a, b, c] = true
  · have h1 := (amounts_three a b c).1 h
    have h' : amounts [c, a, b] = true := (amounts_three c a b).2 ⟨h1.2.2, h1.1, h1.2.1⟩
    have s1 := sumUp_three h
    have s2 := sumUp_three h'
    have e : c + a + b = a + b + c := by omega
    rw [e] at s2
    refine ⟨by simp only [addN, addE, h, h', s1, s2, and_self], ?_⟩
    by_cases hs : a + b + c ≤ 1099511627776
    · right
      simp only [addN, addE, h, s1, if_pos hs, if_true, Option.isSome_some, Option.getD_some]
      exact ⟨trivial, trivial, hs, h1.1.1, h1.2.1.1, h1.2.2.1⟩
    · left
      simp only [addN, addE, h, s1, if_neg hs, if_true, Option.isSome_none, Option.getD_none, InR]
      simp
  · have h1 : ¬ amounts [c, a, b] = true := fun hh => h ((amounts_three a b c).2 (by have := (amounts_three c a b).1 hh; exact ⟨this.2.1, this.2.2, this.1⟩))
    refine ⟨by simp only [addN, addE, if_neg h, if_neg h1, and_self], .inl ?_⟩
    simp only [addN, addE, if_neg h, InR]
    simp

theorem subs {a b c : Int} (h : a + b + c ≤ 1099511627776) (ha : 0 ≤ a) (hb : 0 ≤ b) (hc : 0 ≤ c) : subV (a + b + c) c = a + b ∧ subE (a + b + c) c = 0 ∧ subV (a + b) b = a ∧ subE (a + b) b = 0 := by
  have h1 : amounts [a + b + c, c] = true := (amounts_two _ _).2 (by omega)
  have h2 : amounts [a + b, b] = true := (amounts_two _ _).2 (by omega)
  simp only [subV, subE, h1, h2, if_true]
  rw [if_neg (by omega), if_neg (by omega), if_neg (by omega), if_neg (by omega)]
  omega

set_option maxHeartbeats 400000 in
theorem walk (a b c : Int) (w : World) (ha : InR a) (hb : InR b) (hc : InR c) :
    Calls Try.prog 4 #[.int .i64 a, .int .i64 b, .int .i64 c] w fun e w' => e = .returned (.bool true) ∧ Below w.heap.size w w' := by
  obtain ⟨⟨e1, e2⟩, hw⟩ := ways a b c
  have h1 : ∀ (W : World) (n : Nat), n = W.heap.size → _ := fun W n hn => add_any _ 3 [a, b, c] _ (isInts_three W a b c ha hb hc n hn)
  have h2 : ∀ (W : World) (n : Nat), n = W.heap.size → _ := fun W n hn => add_any _ 3 [c, a, b] _ (isInts_three W c a b hc ha hb n hn)
  rw [e1, e2] at h2
  clear e1 e2
  rcases hw with ⟨hE, hr, hN⟩ | ⟨hE, hN, hs, ha0, hb0, hc0⟩
  · rw [hN] at h1 h2
    clear hN
    generalize addE [a, b, c] = E at *
    have hbe : (E != 0) = true := by simpa using hE
    have H1 := Lib.hid h1
    have H2 := Lib.hid h2
    clear h1 h2
    go_enter Try.func4, Try.ntmps4
    go_wp2_with fail
    refine (alive02 _).mono ?_
    rintro e w1 ⟨rfl, hb1⟩
    go_wp2_with fail
    refine (H1.out _ _ (by simp)).mono ?_
    rintro e w2 ⟨rfl, rfl⟩
    go_wp2_with fail
    refine (H2.out _ _ (by simp)).mono ?_
    rintro e w3 ⟨rfl, rfl⟩
    go_wp2_with (go_at_call 17; refine (num02_any _ _).mono ?_; rintro e w' ⟨rfl, rfl⟩)
    go_ret
    exact ⟨rfl, hb1.trans ((((Below.refl _ _).alloc (Nat.le_refl _) _).alloc (by simp) _).mono hb1.size)⟩
  · rw [hN, hE] at h1 h2
    clear hN hE
    obtain ⟨s1, s2, s3, s4⟩ := subs hs ha0 hb0 hc0
    have h3 : ∀ W : World, _ := fun W => sub_any (a + b + c) c W (by unfold InR; omega) hc
    have h4 : ∀ W : World, _ := fun W => sub_any (a + b) b W (by unfold InR; omega) hb
    rw [s1, s2] at h3
    rw [s3, s4] at h4
    have H1 := Lib.hid h1
    have H2 := Lib.hid h2
    have H3 := Lib.hid h3
    have H4 := Lib.hid h4
    clear h1 h2 h3 h4 s1 s2 s3 s4
    go_enter Try.func4, Try.ntmps4
    go_wp2_with fail
    refine (alive02 _).mono ?_
    rintro e w1 ⟨rfl, hb1⟩
    go_wp2_with fail
    refine (H1.out _ _ (by simp)).mono ?_
    rintro e w2 ⟨rfl, rfl⟩
    go_wp2_with fail
    refine (H2.out _ _ (by simp)).mono ?_
    rintro e w3 ⟨rfl, rfl⟩
    go_wp2_with fail
    refine (num02_any _ _).mono ?_
    rintro e w' ⟨rfl, rfl⟩
    go_wp2_with fail
    refine (H3.out _).mono ?_
    rintro e w4 ⟨rfl, hb4⟩
    go_wp2_with fail
    refine (H4.out _).mono ?_
    rintro e w5 ⟨rfl, hb5⟩
    go_wp2_with (go_at_call 17; refine (num02_any _ _).mono ?_; rintro e w' ⟨rfl, rfl⟩)
    go_ret
    refine ⟨rfl, hb1.trans (((((Below.refl _ _).alloc (Nat.le_refl _) _).alloc (by simp) _).trans (hb4.mono (by simp; omega))).trans (hb5.mono ?_) |>.mono hb1.size)⟩
    have := hb4.size
    simp at this
    omega

set_option maxRecDepth 100000 in
theorem lifted (os : Os) (started : os.Started) (H : Type) (enc : TypeId × Value → H) :
    ReturnsInHanded {} Try.checked os 4 .any (Rows.countBackSpec.pre6 enc Try.prog Try.f4 Rows.countBackRow.domain false) (Rows.countBackSpec.post enc Try.prog Try.f4 false true false false) := by
  refine returnsInHanded_of_change (C := Try.checked) own started (by kernel_rfl) Try.func4
    (ChangeSpec.witness6 (enc := enc) (C := Try.checked) false ⟨#[], #[.int .i64 0, .int .i64 0, .int .i64 0], []⟩ 8 (by kernel_rfl) (by kernel_rfl) (by kernel_rfl) (by kernel_rfl)) ?_
  intro W base args ds gs before hval0 hW hcnd _
  have hval : ∀ (j : Nat) t v, Try.f4.params[j]? = some t → args[j]? = some v → Value.okWide Try.prog W .any base t v := hval0
  have hW' := hW
  obtain ⟨p, q, hA0, hV, rfl, hfz, hnd⟩ := hW
  have hA : DataW.TrodAll enc Try.prog W 0 (fun _ => true) true Try.f4.params.toList args.toList ds p := hA0
  rw [Try.params4] at hA hval
  obtain ⟨v0, vs0, d0, ds0, p0, q0, hargs, rfl, rfl, h0, r0⟩ := trodAll_cons hA
  obtain ⟨v1, vs1, d1, ds1, p1, q1, rfl, rfl, rfl, h1, r1⟩ := trodAll_cons r0
  obtain ⟨v2, vs2, d2, ds2, p2, q2, rfl, rfl, rfl, h2, r2⟩ := trodAll_cons r1
  obtain ⟨rfl, rfl, rfl⟩ := trodAll_nil r2
  obtain rfl : args = #[v0, v1, v2] := by cases args; simp_all
  obtain ⟨rfl, rfl⟩ := trodVars_none hV
  obtain ⟨a0, rfl, rfl, rfl, w0⟩ := open_int Try.underlying3 (hval 0 3 v0 rfl rfl) h0
  obtain ⟨a1, rfl, rfl, rfl, w1⟩ := open_int Try.underlying3 (hval 1 3 v1 rfl rfl) h1
  obtain ⟨a2, rfl, rfl, rfl, w2⟩ := open_int Try.underlying3 (hval 2 3 v2 rfl rfl) h2
  clear hA0 hval0
  refine (walk a0 a1 a2 W (inR_of_wf w0) (inR_of_wf w1) (inR_of_wf w2)).mono fun e W' ⟨he, bel⟩ => ?_
  subst he
  exact ⟨_, rfl, _, _, _, [], _, [], hW', trodAll_mk1 (shut_bool Try.underlying4 _), (trodAll_cons_mk (shut_int Try.underlying3 w0) (trodAll_cons_mk (shut_int Try.underlying3 w1) (trodAll_cons_mk (shut_int Try.underlying3 w2) trodAll_mk0))), rfl, bel.frame _, fun h => by cases h⟩

theorem over : Rows.countBackRow.holds Try.pinned (OpenSpec.ofChange Rows.countBackSpec) :=
  OpenClaim.holds_of_wide 4 Try.f4 rfl rfl rfl rfl rfl rfl rfl ⟨rfl, rfl, rfl, rfl, rfl⟩ rfl rfl rfl rfl rfl (by kernel_rfl) Try.func4 (by kernel_rfl)
    (of_decide_eq_true (by kernel_rfl)) (by unfold Func.isWrapper; first | (rw [if_pos (by decide +kernel)]; kernel_rfl) | (rw [if_neg (by decide +kernel)]; exact ⟨rfl, rfl⟩))
    (fun os started H enc _ => lifted os started H enc)

/-- THE STATEMENT -/
theorem proved : Rows.CountBackSaid := over
#print axioms proved
end Go.Proofs.Ytbkghiaafkmapaa.countBack
