/- godownlaw15's small functions. No condition. -/
import Derived.Test.YtbkghiaafkmapaaUsage3
namespace Go.Proofs.Ytbkghiaafkmapaa
open Go.ChangeShapes Go.WideShapes Go.ChangeAt Go.RowKit

/-- a tenant of one empty set at block n -/
def ten1 (q : Int) (n : Nat) : TenantD := ⟨⟨#[]⟩, q, 0, ⟨some ⟨n, 0, none⟩, 1, [⟨⟨#[]⟩, ⟨#[]⟩, ⟨none, 0, []⟩, ⟨none, 0, []⟩, ⟨none, 0, []⟩⟩]⟩, ⟨none, 0, []⟩, ⟨none, 0, []⟩, ⟨none, 0, []⟩⟩
theorem ten1_ok (q : Int) (hq : InR q) (w : World) (n : Nat) (hn : n = w.heap.size) : okTenant (w.alloc (.cells #[.string ⟨#[]⟩, .string ⟨#[]⟩, .slice none 0 0, .slice none 0 0, .slice none 0 0] 38)) (ten1 q n) := by
  subst hn
  have hnil : ∀ {α : Type} {cells : α → List Value} {ok : World → α → Prop} {m b : Nat} {W : World}, IsSl cells ok m b W ⟨none, 0, []⟩ := ⟨by simp, fun i x hi => by simp at hi⟩
  refine ⟨by simp [ten1, okStr, ByteArray.size], hq, ⟨by simp [ten1], by simp [ten1]⟩, ⟨by simp [ten1], fun i x hi => ?_⟩, hnil, hnil, hnil⟩
  match i, hi with
  | 0, hi =>
    have hx : x = ⟨⟨#[]⟩, ⟨#[]⟩, ⟨none, 0, []⟩, ⟨none, 0, []⟩, ⟨none, 0, []⟩⟩ := by simpa [ten1] using hi.symm
    subst hx
    refine ⟨⟨w.heap.size, 0, rfl, by simp, fun j v hj => ?_⟩, by simp [okStr, ByteArray.size], by simp [okStr, ByteArray.size], hnil, hnil, hnil⟩
    match j, hj with
    | 0, hj => simp [cellsSet] at hj; subst hj; go_simp
    | 1, hj => simp [cellsSet] at hj; subst hj; go_simp
    | 2, hj => simp [cellsSet] at hj; subst hj; go_simp
    | 3, hj => simp [cellsSet] at hj; subst hj; go_simp
    | 4, hj => simp [cellsSet] at hj; subst hj; go_simp
theorem ten1_chg (q : Int) (n : Nat) : wrap64 (tenChg (ten1 q n)) = 1 := by
  rw [show tenChg (ten1 q n) = 1 from rfl]; exact wrap_in (by unfold InR; omega)

set_option maxHeartbeats 400000 in
theorem alive15 (w : World) : Calls Try.prog 22 #[] w fun e w' => e = .returned (.bool true) ∧ Below w.heap.size w w' := by
  have h1 : ∀ (W : World) (n : Nat), n = W.heap.size → Calls Try.prog 29 #[.agg #[.string ⟨#[]⟩, .int .i64 0, .int .i64 0, .slice (some ⟨n, 0, none⟩) 1 1, .slice none 0 0, .slice none 0 0, .slice none 0 0]] (W.alloc (.cells #[.string ⟨#[]⟩, .string ⟨#[]⟩, .slice none 0 0, .slice none 0 0, .slice none 0 0] 38)) fun e w' => e = .returned (.int .i64 1) ∧ Below W.heap.size W w' := fun W n hn => by
    have h := Tenant_any (ten1 0 n) _ (ten1_ok 0 (by unfold InR; omega) W n hn)
    rw [ten1_chg] at h
    exact h.mono fun e w' ⟨he, hb⟩ => ⟨he, ((Below.refl _ _).alloc (Nat.le_refl _) _).trans (hb.mono (by simp))⟩
  have h2 : ∀ (W : World) (n : Nat), n = W.heap.size → Calls Try.prog 31 #[.agg #[.string ⟨#[]⟩, .int .i64 1, .int .i64 0, .slice (some ⟨n, 0, none⟩) 1 1, .slice none 0 0, .slice none 0 0, .slice none 0 0]] (W.alloc (.cells #[.string ⟨#[]⟩, .string ⟨#[]⟩, .slice none 0 0, .slice none 0 0, .slice none 0 0] 38)) fun e w' => e = .returned (.bool true) ∧ Below W.heap.size W w' := fun W n hn => by
    have h := Fits_any (ten1 1 n) _ (ten1_ok 1 (by unfold InR; omega) W n hn)
    rw [ten1_chg] at h
    exact h.mono fun e w' ⟨he, hb⟩ => ⟨he, ((Below.refl _ _).alloc (Nat.le_refl _) _).trans (hb.mono (by simp))⟩
  have H1 := Lib.hid h1
  have H2 := Lib.hid h2
  clear h1 h2
  go_enter Try.func22, Try.ntmps22
  go_wp2_with fail
  refine (H1.out _ _ rfl).mono ?_
  rintro e w1 ⟨rfl, hb1⟩
  have HB1 := Lib.hid hb1
  clear hb1
  go_wp2_with fail
  refine (H2.out _ _ rfl).mono ?_
  rintro e w2 ⟨rfl, hb2⟩
  have HB2 := Lib.hid (HB1.out.trans (hb2.mono HB1.out.size))
  clear hb2
  go_wp2_with fail
  go_ret
  exact ⟨rfl, HB2.out⟩
end Go.Proofs.Ytbkghiaafkmapaa
