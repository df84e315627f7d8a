/- The plain law of the pool's rows: of a pool that is admitted no share is over 100 and the sum is no more than what was promised. No condition but a pool's size. -/
import Derived.Test.YtbkghiaafkmapaaFull
import Derived.Test.YtbkghiaafkmapaaSumLaw
import Derived.Test.YtbkghiaafkmapaaMore
namespace Go.Proofs.Ytbkghiaafkmapaa
open Go.ChangeShapes Go.WideShapes Go.ChangeAt Go.RowKit

theorem snChg_parts : ∀ l : List SnapD, snapsChg l = (l.length : Int) + snBlocks l ∧ 0 ≤ snBlocks l
  | [] => by simp [snapsChg, snBlocks]
  | x :: l => by
    obtain ⟨h1, h2⟩ := snChg_parts l
    simp only [snapsChg, snBlocks, List.length_cons]
    omega
theorem setsChg_parts : ∀ l : List SetD, setsChg l = (l.length : Int) + snapsN l + setBlocks l ∧ 0 ≤ snapsN l ∧ 0 ≤ setBlocks l
  | [] => by simp [setsChg, snapsN, setBlocks]
  | x :: l => by
    obtain ⟨h1, h2, h3⟩ := setsChg_parts l
    obtain ⟨h4, h5⟩ := snChg_parts x.snaps.l
    simp only [setsChg, setChg, snapsN, setBlocks, List.length_cons]
    omega
theorem stChg_parts : ∀ l : List StageD, stagesChg l = (l.length : Int) + stBlocks l ∧ 0 ≤ stBlocks l
  | [] => by simp [stagesChg, stBlocks]
  | x :: l => by
    obtain ⟨h1, h2⟩ := stChg_parts l
    simp only [stagesChg, stBlocks, List.length_cons]
    omega
/-- a row's numbers are small, where its tenant is -/
theorem row_small {x : TenantD} (h : bulkTenant x ≤ 1048576) : (0 ≤ (rowOf x).sets ∧ (rowOf x).sets ≤ bulkTenant x) ∧ (0 ≤ (rowOf x).snaps ∧ (rowOf x).snaps ≤ bulkTenant x) ∧ (0 ≤ (rowOf x).blocks ∧ (rowOf x).blocks ≤ bulkTenant x) ∧ (0 ≤ (rowOf x).charge ∧ (rowOf x).charge ≤ bulkTenant x) ∧ (rowOf x).charge = tenChg x := by
  obtain ⟨h0, h1⟩ := tenChg_bulk x
  obtain ⟨h2, h3, h4⟩ := setsChg_parts x.sets.l
  obtain ⟨h5, h6⟩ := stChg_parts x.stages.l
  have h7 : tenChg x = setsChg x.sets.l + stagesChg x.stages.l := rfl
  have e1 : wrap64 (snapsN x.sets.l) = snapsN x.sets.l := wrap_in (by unfold InR; omega)
  have e2 : wrap64 (setBlocks x.sets.l + stBlocks x.stages.l) = setBlocks x.sets.l + stBlocks x.stages.l := wrap_in (by unfold InR; omega)
  have e3 : wrap64 (tenChg x) = tenChg x := wrap_in (by unfold InR; omega)
  simp only [rowOf, e1, e2, e3]
  refine ⟨⟨?_, ?_⟩, ⟨?_, ?_⟩, ⟨?_, ?_⟩, ⟨?_, ?_⟩, trivial⟩ <;> omega
theorem col_small (f : RowD → Int) : ∀ {l : List TenantD}, (∀ x ∈ l, 0 ≤ f (rowOf x) ∧ f (rowOf x) ≤ bulkTenant x) → (∀ z ∈ colOf f (rowsOf l), 0 ≤ z ∧ z ≤ ((l.map bulkTenant).sum : Nat)) ∧ (colOf f (rowsOf l)).sum ≤ ((l.map bulkTenant).sum : Nat)
  | [], _ => by simp [colOf, rowsOf]
  | x :: l, h => by
    obtain ⟨h1, h2⟩ := col_small f (l := l) (fun y hy => h y (List.mem_cons_of_mem _ hy))
    have h3 := h x (List.mem_cons_self ..)
    simp only [colOf, rowsOf, List.map_cons, List.sum_cons, List.mem_cons] at h1 h2 ⊢
    refine ⟨fun z hz => ?_, by omega⟩
    rcases hz with rfl | hz
    · omega
    · have := h1 z hz; omega
theorem col_ok (f : RowD → Int) {l : List TenantD} (hb : (l.map bulkTenant).sum ≤ 1048576) (h : ∀ x ∈ l, 0 ≤ f (rowOf x) ∧ f (rowOf x) ≤ bulkTenant x) : okCol (colOf f (rowsOf l)) := by
  obtain ⟨h1, h2⟩ := col_small f h
  refine ⟨List.all_eq_true.2 fun z hz => ?_, by omega⟩
  have := h1 z hz
  simp [oddB]; omega
theorem col_le : ∀ {l : List TenantD}, (∀ x ∈ l, (rowOf x).charge ≤ x.quota) → (colOf RowD.charge (rowsOf l)).sum ≤ (colOf RowD.quota (rowsOf l)).sum
  | [], _ => by simp [colOf, rowsOf]
  | x :: l, h => by
    have h1 := col_le (l := l) (fun y hy => h y (List.mem_cons_of_mem _ hy))
    have h2 := h x (List.mem_cons_self ..)
    have h3 : (rowOf x).quota = x.quota := rfl
    simp only [colOf, rowsOf, List.map_cons, List.sum_cons] at h1 ⊢
    omega
theorem col_quota (l : List TenantD) : colOf RowD.quota (rowsOf l) = quotas l := by
  simp only [colOf, rowsOf, quotas, List.map_map]; rfl
theorem share_most {r : RowD} (h : r.charge ≤ r.quota) : shareN r ≤ 100 := by
  unfold shareN
  split
  · rename_i hc
    have h1 : r.charge * 100 ≤ 100 * r.quota := by omega
    exact Int.ediv_le_of_le_mul (by omega) (by omega)
  · omega

/-- what an admitted pool's rows keep -/
structure FullLaw (cap : Int) (l : List TenantD) : Prop where
  err : sumE (rowsOf l) = 0
  charge : (sumR (rowsOf l)).charge ≤ (sumR (rowsOf l)).quota
  quota : (sumR (rowsOf l)).quota ≤ cap
  share : ∀ x ∈ l, shareN (rowOf x) ≤ 100
theorem full_law {cap : Int} {l : List TenantD} (hb : (l.map bulkTenant).sum ≤ 1048576) (h : admitE cap l = 0) : FullLaw cap l := by
  obtain ⟨ha, t, hs, ht, hf⟩ := admit_parts h
  have hsm : ∀ x ∈ l, bulkTenant x ≤ 1048576 := fun x hx => Nat.le_trans (bulk_mem hx) hb
  have hle : ∀ x ∈ l, (rowOf x).charge ≤ x.quota := fun x hx => by
    have h1 := hf x hx
    simp only [fitsB] at h1
    have h2 : (rowOf x).charge = wrap64 (tenChg x) := rfl
    simp at h1; omega
  rw [sumUp_sum ha (by omega)] at hs
  have hq : (quotas l).sum = t ∧ (quotas l).sum ≤ 1099511627776 := by
    split at hs
    · injection hs with hs; omega
    · contradiction
  have hok : okRows (rowsOf l) := ⟨col_ok RowD.sets hb fun x hx => (row_small (hsm x hx)).1, col_ok RowD.snaps hb fun x hx => (row_small (hsm x hx)).2.1, col_ok RowD.blocks hb fun x hx => (row_small (hsm x hx)).2.2.1, col_ok RowD.charge hb fun x hx => (row_small (hsm x hx)).2.2.2.1, by rw [col_quota]; exact ⟨ha, hq.2⟩⟩
  have e := sumR_ok hok
  refine ⟨(sumE_zero _).2 hok, ?_, ?_, fun x hx => share_most (hle x hx)⟩
  · rw [e]; exact col_le hle
  · rw [e]
    show (colOf RowD.quota (rowsOf l)).sum ≤ cap
    rw [col_quota]; omega
end Go.Proofs.Ytbkghiaafkmapaa
