/- godownlaw37's example holds. No condition. -/
import Derived.Test.YtbkghiaafkmapaaOf
import Derived.Test.YtbkghiaafkmapaaShare
import Derived.Test.YtbkghiaafkmapaaNames
import Derived.Test.YtbkghiaafkmapaaAlive15
namespace Go.Proofs.Ytbkghiaafkmapaa
open Go.ChangeShapes Go.WideShapes Go.ChangeAt Go.RowKit

/-- the tenant of the page's example -/
def tenT (n : Nat) : TenantD := ⟨⟨#[116]⟩, 4, 1, ⟨some ⟨n, 0, none⟩, 1, [⟨⟨#[]⟩, ⟨#[]⟩, ⟨none, 0, []⟩, ⟨none, 0, []⟩, ⟨none, 0, []⟩⟩]⟩, ⟨none, 0, []⟩, ⟨none, 0, []⟩, ⟨none, 0, []⟩⟩
theorem tenT_ok (w : World) (n : Nat) (hn : n < w.heap.size) (c0 : w.cell? ⟨n, 0, none⟩ = some (.string ⟨#[]⟩)) (c1 : w.cell? ⟨n, 1, none⟩ = some (.string ⟨#[]⟩)) (c2 : w.cell? ⟨n, 2, none⟩ = some (.slice none 0 0)) (c3 : w.cell? ⟨n, 3, none⟩ = some (.slice none 0 0)) (c4 : w.cell? ⟨n, 4, none⟩ = some (.slice none 0 0)) : okTenant w (tenT n) := by
  refine ⟨by simp [tenT, okStr, ByteArray.size], by unfold InR; simp [tenT], by unfold InR; simp [tenT], ⟨by simp [tenT], fun i x hi => ?_⟩, isSl_nil, isSl_nil, isSl_nil⟩
  match i, hi with
  | 0, hi =>
    have hx : x = ⟨⟨#[]⟩, ⟨#[]⟩, ⟨none, 0, []⟩, ⟨none, 0, []⟩, ⟨none, 0, []⟩⟩ := by simpa [tenT] using hi.symm
    subst hx
    refine ⟨⟨n, 0, rfl, hn, fun j v hj => ?_⟩, by simp [okStr, ByteArray.size], by simp [okStr, ByteArray.size], isSl_nil, isSl_nil, isSl_nil⟩
    match j, hj with
    | 0, hj => simp [cellsSet] at hj; subst hj; simpa using c0
    | 1, hj => simp [cellsSet] at hj; subst hj; simpa using c1
    | 2, hj => simp [cellsSet] at hj; subst hj; simpa using c2
    | 3, hj => simp [cellsSet] at hj; subst hj; simpa using c3
    | 4, hj => simp [cellsSet] at hj; subst hj; simpa using c4
theorem rowT (n : Nat) : rowOf (tenT n) = ⟨⟨#[116]⟩, 1, 0, 0, 1, 4⟩ := by
  have h1 : wrap64 1 = 1 := wrap_in (by unfold InR; omega)
  simp [rowOf, tenT, snapsN, setBlocks, snBlocks, stBlocks, tenChg, setsChg, setChg, snapsChg, stagesChg, ← wrap_zero, h1]
theorem shareT : shareN ⟨⟨#[116]⟩, 1, 0, 0, 1, 4⟩ = 25 := by decide
theorem nameT : nameB ⟨#[116]⟩ = true := by decide +kernel

set_option maxRecDepth 100000 in
set_option maxHeartbeats 1000000 in
theorem NewT (w : World) : Calls Try.prog 61 #[.string ⟨#[116]⟩, .int .i64 4] w fun e w' => e = .returned (.tuple #[.agg (cellsTenant (tenT (w.heap.size + 1))).toArray, .int .i64 0]) ∧ okTenant w' (tenT (w.heap.size + 1)) ∧ Below w.heap.size w w' := by
  have hN := fun W => Name_any ⟨#[116]⟩ W (by simp [ByteArray.size])
  rw [nameT] at hN
  have hA := fun W => amount_any 4 0 W
  rw [show amountB 4 0 = true by decide] at hA
  have HN := Lib.hid hN
  have HA := Lib.hid hA
  clear hN hA
  go_enter Try.func61, Try.ntmps61
  go_wp2_with fail
  refine (HN.out _).mono ?_
  rintro e w1 ⟨rfl, rfl⟩
  go_wp2_with fail
  refine (HA.out _).mono ?_
  rintro e w1 ⟨rfl, rfl⟩
  go_wp2_with fail
  exact bodyPost_ret (v := .tuple #[.agg #[.string ⟨#[116]⟩, .int .i64 4, .int .i64 1, .slice (some ⟨w.heap.size + 1, 0, none⟩) 1 1, .slice none 0 0, .slice none 0 0, .slice none 0 0], .int .i64 0]) (by simp [results, Try.results61, go_sem]) rfl
    ⟨rfl, tenT_ok _ _ (by simp) (by go_simp) (by go_simp) (by go_simp) (by go_simp) (by go_simp), ((Below.refl _ _).alloc (Nat.le_refl _) _).alloc (by simp) _⟩

set_option maxRecDepth 100000 in
set_option maxHeartbeats 1000000 in
theorem alive37 (w : World) : Calls Try.prog 38 #[] w fun e w' => e = .returned (.bool true) ∧ Below w.heap.size w w' := by
  have hN := NewT w
  have hO := fun (W : World) (h : okTenant W (tenT (w.heap.size + 1))) => Of_any _ W h
  have hS := fun W => Share_any ⟨⟨#[116]⟩, 1, 0, 0, 1, 4⟩ W ⟨by simp [okStr, ByteArray.size], by unfold InR; simp, by unfold InR; simp, by unfold InR; simp, by unfold InR; simp, by unfold InR; simp⟩
  rw [shareT] at hS
  simp only [rowT] at hO
  simp only [cellsTenant, cellsRow, tenT] at hN hO
  dsimp only at hS
  have HN := Lib.hid hN
  have HO := Lib.hid hO
  have HS := Lib.hid hS
  clear hN hO hS
  go_enter Try.func38, Try.ntmps38
  go_wp2_with fail
  refine HN.out.mono ?_
  rintro e w1 ⟨rfl, hk, hb⟩
  have HK := Lib.hid (okTenant_below hk ((Below.refl w1.heap.size w1).alloc (Nat.le_refl _) (.cells #[.string ⟨#[116]⟩, .int .i64 4, .int .i64 1, .slice (some ⟨w.heap.size + 1, 0, none⟩) 1 1, .slice none 0 0, .slice none 0 0, .slice none 0 0] 53)))
  have HB := Lib.hid (hb.alloc hb.size (.cells #[.string ⟨#[116]⟩, .int .i64 4, .int .i64 1, .slice (some ⟨w.heap.size + 1, 0, none⟩) 1 1, .slice none 0 0, .slice none 0 0, .slice none 0 0] 53))
  clear hk hb
  go_wp2_with fail
  refine (HO.out _ HK.out).mono ?_
  rintro e w2 ⟨rfl, hb⟩
  have HB2 := Lib.hid (HB.out.trans (hb.mono HB.out.size))
  clear hb
  go_wp2_with fail
  refine (HS.out _).mono ?_
  rintro e w3 ⟨rfl, hb⟩
  have HB3 := Lib.hid (HB2.out.trans (hb.mono HB2.out.size))
  clear hb
  go_wp2_with fail
  go_ret
  exact ⟨rfl, HB3.out⟩
end Go.Proofs.Ytbkghiaafkmapaa
