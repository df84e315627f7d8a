/- The walk of ledger.Admit. No condition but that what comes in reads as data. -/
import Derived.Test.YtbkghiaafkmapaaLedger2
import Derived.Test.YtbkghiaafkmapaaUsage3
namespace Go.Proofs.Ytbkghiaafkmapaa
open Go.ChangeShapes Go.WideShapes Go.ChangeAt Go.RowKit

def fitsB (t : TenantD) : Bool := !decide (t.quota < wrap64 (tenChg t))
theorem fits_step {l : List TenantD} {k : Nat} {y : TenantD} (h : l[k]? = some y) : (l.drop k).all fitsB = (fitsB y && (l.drop (k + 1)).all fitsB) := by rw [drop_get h]; rfl
/-- what Admit answers -/
def admitE (cap : Int) (l : List TenantD) : Int := if addE (quotas l) = 0 then (if cap < addN (quotas l) then 17 else if l.all fitsB then 0 else 42) else addE (quotas l)

set_option maxHeartbeats 1000000 in
theorem Admit_any (x : PoolD) (w : World) (h : okPool w x) :
    Calls Try.prog 41 #[.agg #[.int .i64 x.capacity, .slice x.tenants.a x.tenants.l.length x.tenants.c, .slice x.forced.a x.forced.l.length x.forced.c, .slice x.log.a x.log.l.length x.log.c]] w fun e w' => e = .returned (.int .i64 (admitE x.capacity x.tenants.l)) ∧ Below w.heap.size w w' := by
  have hB : Below w.heap.size w (w.alloc (.cells #[.int .i64 x.capacity, .slice x.tenants.a x.tenants.l.length x.tenants.c, .slice x.forced.a x.forced.l.length x.forced.c, .slice x.log.a x.log.l.length x.log.c] 72)) := (Below.refl _ _).alloc (Nat.le_refl _) _
  have hC := Promised_any x _ (okPool_below h hB)
  obtain ⟨cap, ⟨ta, tc, tl⟩, ⟨fa, fc, fl⟩, ⟨la, lc, ll⟩⟩ := x
  obtain ⟨-, ht, -, -⟩ := h
  have htl := IsSl.len ht
  dsimp only at ht htl hC hB ⊢
  have HG : Hid (admitE cap tl = if addE (quotas tl) = 0 then (if cap < addN (quotas tl) then 17 else if tl.all fitsB then 0 else 42) else addE (quotas tl)) := rfl
  generalize admitE cap tl = ad at *
  generalize addN (quotas tl) = n at *
  generalize addE (quotas tl) = er at *
  have HC := Lib.hid hC
  have HB := Lib.hid hB
  have HT := Lib.hid ht
  clear hC hB ht
  by_cases he : er = 0
  · subst he
    by_cases hn : cap < n
    · have dn : decide (cap < n) = true := decide_eq_true hn
      have HR := Lib.hid (show ad = 17 by rw [HG.out, if_pos rfl, if_pos hn])
      clear HG
      have hc0 : (w.alloc (.cells #[.int .i64 cap, .slice ta tl.length tc, .slice fa fl.length fc, .slice la ll.length lc] 72)).cell? ⟨w.heap.size, 0, none⟩ = some (.int .i64 cap) := by go_simp
      go_enter Try.func41, Try.ntmps41
      go_wp2_with fail
      refine HC.out.mono ?_
      rintro e w1 ⟨rfl, hb1⟩
      have HB1 := Lib.hid (HB.out.trans (hb1.mono HB.out.size))
      have c0 : w1.cell? ⟨w.heap.size, 0, none⟩ = some (.int .i64 cap) := by rw [hb1.cell (p := ⟨w.heap.size, 0, none⟩) (by simp)]; exact hc0
      clear hb1 hc0
      go_wp2_with fail
      go_ret
      exact ⟨ret_int HR.out.symm, HB1.out⟩
    · have dn : decide (cap < n) = false := decide_eq_false hn
      have HR := Lib.hid (show ad = if tl.all fitsB then 0 else 42 by rw [HG.out, if_pos rfl, if_neg hn])
      clear HG
      have hc0 : (w.alloc (.cells #[.int .i64 cap, .slice ta tl.length tc, .slice fa fl.length fc, .slice la ll.length lc] 72)).cell? ⟨w.heap.size, 0, none⟩ = some (.int .i64 cap) := by go_simp
      have hc1 : (w.alloc (.cells #[.int .i64 cap, .slice ta tl.length tc, .slice fa fl.length fc, .slice la ll.length lc] 72)).cell? ⟨w.heap.size, 1, none⟩ = some (.slice ta tl.length tc) := by go_simp
      go_enter Try.func41, Try.ntmps41
      go_wp2_with fail
      refine HC.out.mono ?_
      rintro e w1 ⟨rfl, hb1⟩
      have HB1 := Lib.hid (HB.out.trans (hb1.mono HB.out.size))
      have c0 : w1.cell? ⟨w.heap.size, 0, none⟩ = some (.int .i64 cap) := by rw [hb1.cell (p := ⟨w.heap.size, 0, none⟩) (by simp)]; exact hc0
      have c1 : w1.cell? ⟨w.heap.size, 1, none⟩ = some (.slice ta tl.length tc) := by rw [hb1.cell (p := ⟨w.heap.size, 1, none⟩) (by simp)]; exact hc1
      clear hb1 hc0 hc1
      go_wp2_with fail
      clear c0 c1
      go_loopg [6, 24] tl.length (fun g _ i wr => ∃ k : Nat, k + g = tl.length ∧ i = .int .i64 k ∧ Aside ((tl.drop k).all fitsB = tl.all fitsB) ∧ Below w.heap.size w wr)
      case atStart => exact ⟨0, by omega, rfl, rfl, HB1.out⟩
      case round =>
        obtain ⟨k, hkg, rfl, HS, hP⟩ := hrel
        have HP := Lib.hid hP
        clear hP
        cases gk with
        | zero =>
          have hlt : ¬ ((k : Int) < (tl.length : Int)) := by omega
          have HF := Lib.hid (show tl.all fitsB = true by have h1 := HS.out; rw [List.drop_of_length_le (by omega)] at h1; exact h1.symm)
          go_wp2_with fail
          go_ret
          exact ⟨ret_int (by rw [HR.out, HF.out]; rfl), HP.out⟩
        | succ g =>
          have hlt : (k : Int) < (tl.length : Int) := by omega
          obtain ⟨y, b, off, hy, hya, hyb, hy0, hy1, hy2, hy3, hy4, hy5, hy6, hyo⟩ := (HT.out.below HP.out).get (show k < tl.length by omega)
          have hst := fits_step hy
          have hBw : Below wr.heap.size wr (wr.alloc (.cells #[.string y.name, .int .i64 y.quota, .int .i64 y.next, .slice y.sets.a y.sets.l.length y.sets.c, .slice y.grants.a y.grants.l.length y.grants.c, .slice y.stages.a y.stages.l.length y.stages.c, .slice y.log.a y.log.l.length y.log.c] 53)) := (Below.refl _ _).alloc (Nat.le_refl _) _
          have HBw := Lib.hid (HP.out.trans (hBw.mono HP.out.size))
          have hF : Calls Try.prog 31 #[.agg #[.string y.name, .int .i64 y.quota, .int .i64 y.next, .slice y.sets.a y.sets.l.length y.sets.c, .slice y.grants.a y.grants.l.length y.grants.c, .slice y.stages.a y.stages.l.length y.stages.c, .slice y.log.a y.log.l.length y.log.c]] _ fun e w' => e = .returned (.bool (fitsB y)) ∧ Below _ _ w' := Fits_any y _ (okTenant_below hyo hBw)
          subst hya
          clear hy hyo hBw
          cases hf : fitsB y
          · rw [hf] at hst hF
            have HF := Lib.hid hF
            have HFX := Lib.hid (show tl.all fitsB = false by rw [← HS.out, hst]; rfl)
            clear hf hF hst
            go_wp2_with fail
            refine HF.out.mono ?_
            rintro e w2 ⟨rfl, hb2⟩
            have HB2 := Lib.hid (HBw.out.trans (hb2.mono HBw.out.size))
            clear hb2
            go_wp2_with fail
            go_ret
            exact ⟨ret_int (by rw [HR.out, HFX.out]; rfl), HB2.out⟩
          · rw [hf] at hst hF
            have HF := Lib.hid hF
            have HFX := Lib.hid (show (tl.drop (k + 1)).all fitsB = tl.all fitsB by rw [← HS.out, hst]; rfl)
            clear hf hF hst
            go_wp2_with fail
            refine HF.out.mono ?_
            rintro e w2 ⟨rfl, hb2⟩
            have HB2 := Lib.hid (HBw.out.trans (hb2.mono HBw.out.size))
            clear hb2
            go_wp2_with fail
            go_roundg g
            case measure => omega
            case rel => exact ⟨k + 1, by omega, by go_num, HFX.out, HB2.out⟩
  · have hbe : (er == 0) = false := by simpa using he
    have hbn : (er != 0) = true := by simpa using he
    have HR := Lib.hid (show ad = er by rw [HG.out, if_neg he])
    clear HG he
    go_enter Try.func41, Try.ntmps41
    go_wp2_with fail
    refine HC.out.mono ?_
    rintro e w1 ⟨rfl, hb1⟩
    have HB1 := Lib.hid (HB.out.trans (hb1.mono HB.out.size))
    clear hb1
    go_wp2_with fail
    go_ret
    exact ⟨ret_int HR.out.symm, HB1.out⟩

end Go.Proofs.Ytbkghiaafkmapaa
