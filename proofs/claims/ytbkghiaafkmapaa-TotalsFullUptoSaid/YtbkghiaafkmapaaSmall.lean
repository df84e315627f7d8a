/- Of an input of small bulk all paths are short. Plain law. -/
import Derived.Test.YtbkghiaafkmapaaCheck30
import Derived.Test.YtbkghiaafkmapaaFullLaw
namespace Go.Proofs.Ytbkghiaafkmapaa

theorem smallT_of {x : TenantD} (h : bulkTenant x ≤ 1048576) : SmallT x := by
  simp only [bulkTenant, SliceV.bulk] at h
  refine ⟨fun y hy => ?_, fun y hy => ?_, fun y hy => ?_, fun y hy => ?_⟩
  · have := bulk_mem (f := bulkSet) hy
    simp only [bulkSet, bulkStr] at this
    constructor <;> omega
  · have := bulk_mem (f := bulkGrant) hy
    simp only [bulkGrant, bulkStr] at this
    omega
  · have := bulk_mem (f := bulkStage) hy
    simp only [bulkStage, bulkStr] at this
    omega
  · have := bulk_mem (f := bulkEntry) hy
    simp only [bulkEntry, bulkStr] at this
    omega
theorem tenants_bulk {x : PoolD} (h : bulkPool x ≤ 1048576) : (x.tenants.l.map bulkTenant).sum ≤ 1048576 := by
  simp only [bulkPool, SliceV.bulk] at h; omega
theorem smallP_of {x : PoolD} (h : bulkPool x ≤ 1048576) : SmallP x := by
  refine ⟨fun y hy => smallT_of ?_, fun y hy => ?_⟩
  · exact Nat.le_trans (bulk_mem (f := bulkTenant) hy) (tenants_bulk h)
  · simp only [bulkPool, SliceV.bulk] at h
    have := bulk_mem (f := bulkEntry) hy
    simp only [bulkEntry, bulkStr] at this
    omega
end Go.Proofs.Ytbkghiaafkmapaa
