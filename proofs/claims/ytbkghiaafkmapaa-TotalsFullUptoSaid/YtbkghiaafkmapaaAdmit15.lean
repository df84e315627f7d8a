/- The walk of the reference's admission. No condition but that what comes in reads as data. -/
import Derived.Test.YtbkghiaafkmapaaAdmit14
import Derived.Test.YtbkghiaafkmapaaLedger3
import Derived.Test.YtbkghiaafkmapaaQuiet
namespace Go.Proofs.Ytbkghiaafkmapaa
open Go.ChangeShapes Go.WideShapes Go.ChangeAt Go.RowKit

set_option maxHeartbeats 4000000 in
theorem refAdmit_any (x : PoolD) (w : World) (h : okPool w x) :
    Calls Try.prog 71 #[.agg #[.int .i64 x.capacity, .slice x.tenants.a x.tenants.l.length x.tenants.c, .slice x.forced.a x.forced.l.length x.forced.c, .slice x.log.a x.log.l.length x.log.c]] w fun e w' => e = .returned (.int .i64 (admitE x.capacity x.tenants.l)) ∧ Below w.heap.size w w' := by
  have hB : Below w.heap.size w (w.alloc (.cells #[.int .i64 x.capacity, .slice x.tenants.a x.tenants.l.length x.tenants.c, .slice x.forced.a x.forced.l.length x.forced.c, .slice x.log.a x.log.l.length x.log.c] 72)) := (Below.refl _ _).alloc (Nat.le_refl _) _
  have hC := refPromised_any x _ (okPool_below h hB)
  obtain ⟨cap, ⟨ta, tc, tl⟩, ⟨fa, fc, fl⟩, ⟨la, lc, ll⟩⟩ := x
  obtain ⟨-, ht, -, -⟩ := h
  have htl := IsSl.len ht
  dsimp only at ht htl hC hB ⊢
  have HG : Hid (admitE cap tl = if addE (quotas tl) = 0 then (if cap < addN (quotas tl) then 17 else if tl.all fitsB then 0 else 42) else addE (quotas tl)) := rfl
  generalize admitE cap tl = ad at *
  generalize addN (quotas tl) = n at *
  generalize addE (quotas tl) = er at *
  have HC := Lib.hid hC
  have HB := Lib.hid hB
  have HT := Lib.hid ht
  clear hC hB ht
  by_cases he : er = 0
  · subst he
    by_cases hn : cap < n
    · have dn : decide (cap < n) = true := decide_eq_true hn
      have HR := Lib.hid (show ad = 17 by rw [HG.out, if_pos rfl, if_pos hn])
      clear HG
      have hc0 : (w.alloc (.cells #[.int .i64 cap, .slice ta tl.length tc, .slice fa fl.length fc, .slice la ll.length lc] 72)).cell? ⟨w.heap.size, 0, none⟩ = some (.int .i64 cap) := by go_simp
      go_enter Try.func71, Try.ntmps71
      go_wp2_with fail
      refine HC.out.mono ?_
      rintro e w1 ⟨rfl, hb1⟩
      have HB1 := Lib.hid (HB.out.trans (hb1.mono HB.out.size))
      have c0 : w1.cell? ⟨w.heap.size, 0, none⟩ = some (.int .i64 cap) := by rw [hb1.cell (p := ⟨w.heap.size, 0, none⟩) (by simp)]; exact hc0
      clear hb1 hc0
      go_wp2_with fail
      go_ret
      exact ⟨ret_int HR.out.symm, HB1.out⟩
    · have dn : decide (cap < n) = false := decide_eq_false hn
      have HR := Lib.hid (show ad = if tl.all fitsB then 0 else 42 by rw [HG.out, if_pos rfl, if_neg hn])
      clear HG
      have hc0 : (w.alloc (.cells #[.int .i64 cap, .slice ta tl.length tc, .slice fa fl.length fc, .slice la ll.length lc] 72)).cell? ⟨w.heap.size, 0, none⟩ = some (.int .i64 cap) := by go_simp
      have hc1 : (w.alloc (.cells #[.int .i64 cap, .slice ta tl.length tc, .slice fa fl.length fc, .slice la ll.length lc] 72)).cell? ⟨w.heap.size, 1, none⟩ = some (.slice ta tl.length tc) := by go_simp
      go_enter Try.func71, Try.ntmps71
      go_wp2_with fail
      refine HC.out.mono ?_
      rintro e w1 ⟨rfl, hb1⟩
      have HB1 := Lib.hid (HB.out.trans (hb1.mono HB.out.size))
      have c0 : w1.cell? ⟨w.heap.size, 0, none⟩ = some (.int .i64 cap) := by rw [hb1.cell (p := ⟨w.heap.size, 0, none⟩) (by simp)]; exact hc0
      have c1 : w1.cell? ⟨w.heap.size, 1, none⟩ = some (.slice ta tl.length tc) := by rw [hb1.cell (p := ⟨w.heap.size, 1, none⟩) (by simp)]; exact hc1
      clear hb1 hc0 hc1
      go_wp2_with fail
      have HP0 : Hid (Below w.heap.size w w1 ∧ w.heap.size < w1.heap.size) := ⟨HB1.out, by have := World.block_lt_of_cell? _ _ c1; simpa using this⟩
      have HC1 := Lib.hid c1
      clear c0 c1
      go_loopg [5] tl.length (fun g i wr => ∃ k : Nat, k + g = tl.length ∧ i = .int .i64 k ∧ Aside ((tl.drop k).all fitsB = tl.all fitsB) ∧ Aside (Below w.heap.size w wr ∧ w.heap.size < wr.heap.size) ∧ Aside (wr.cell? ⟨w.heap.size, 1, none⟩ = some (.slice ta tl.length tc)))
      case atStart => exact ⟨0, by omega, rfl, rfl, HP0.out, HC1.out⟩
      case round =>
        obtain ⟨k, hkg, rfl, HS, hP, hX⟩ := hrel
        have HP := Lib.hid hP.out
        have c1 := hX.out
        clear hP hX
        cases gk with
        | zero =>
          have hlt : ¬ ((k : Int) < (tl.length : Int)) := by omega
          have HF := Lib.hid (show tl.all fitsB = true by have h1 := HS.out; rw [List.drop_of_length_le (by omega)] at h1; exact h1.symm)
          go_wp2_with fail
          go_ret
          exact ⟨ret_int (by rw [HR.out, HF.out]; rfl), HP.out.1⟩
        | succ g =>
          have hl0 : (0 : Int) ≤ (k : Int) := by omega
          have hlt : (k : Int) < (tl.length : Int) := by omega
          obtain ⟨y, b, off, hy, hya, hyb, hy0, hy1, hy2, hy3, hy4, hy5, hy6, -⟩ := (HT.out.below HP.out.1).get (show k < tl.length by omega)
          obtain ⟨y', -, -, hy', -, -, -, -, -, -, -, -, -, hyo⟩ := HT.out.get (show k < tl.length by omega)
          obtain rfl : y = y' := by rw [hy] at hy'; exact Option.some.inj hy'
          have hst := fits_step hy
          have hF := fun W hW => refCharge_any y W (okTenant_below hyo hW)
          have hfe : fitsB y = !decide (y.quota < wrap64 (tenChg y)) := rfl
          subst hya
          have HA : Hid (At wr [(w.heap.size, 1, .slice (some ⟨b, off, none⟩) tl.length tc), (b, off + k * 7, .string y.name), (b, off + k * 7 + 1, .int .i64 y.quota), (b, off + k * 7 + 2, .int .i64 y.next), (b, off + k * 7 + 3, .slice y.sets.a y.sets.l.length y.sets.c), (b, off + k * 7 + 4, .slice y.grants.a y.grants.l.length y.grants.c), (b, off + k * 7 + 5, .slice y.stages.a y.stages.l.length y.stages.c), (b, off + k * 7 + 6, .slice y.log.a y.log.l.length y.log.c)]) := .cons (by have := HP.out.2; omega) c1 (.cons hyb hy0 (.cons hyb hy1 (.cons hyb hy2 (.cons hyb hy3 (.cons hyb hy4 (.cons hyb hy5 (.cons hyb hy6 (.nil _))))))))
          generalize wrap64 (tenChg y) = ch at *
          have HF := Lib.hid hF
          clear hy hy' hyo hF
          cases hf : decide (y.quota < ch)
          case true =>
            have HFX := Lib.hid (show tl.all fitsB = false by rw [← HS.out, hst, hfe, hf]; rfl)
            clear hst hfe
            go_wp2_with fail
            clear c1 hy0 hy1 hy2 hy3 hy4 hy5 hy6
            refine region_C (by kernel_rfl) (by kernel_rfl) (Cls.start HA.out) ?_
            repeat (first | go_big_quiet_skip | (go_big_quiet_want; (first | (apply q_val; (· (rintro w' ⟨hA, -⟩; have c0 := hA.hd; have c1 := hA.tl.hd; have c2 := hA.tl.tl.hd; have c3 := hA.tl.tl.tl.hd; have c4 := hA.tl.tl.tl.tl.hd; have c5 := hA.tl.tl.tl.tl.tl.hd; have c6 := hA.tl.tl.tl.tl.tl.tl.hd; have c7 := hA.tl.tl.tl.tl.tl.tl.tl.hd; clear hA; go_simp; try rfl))) | (apply q_call 30; (· (rintro w' ⟨hA, -⟩; have c0 := hA.hd; have c1 := hA.tl.hd; have c2 := hA.tl.tl.hd; have c3 := hA.tl.tl.tl.hd; have c4 := hA.tl.tl.tl.tl.hd; have c5 := hA.tl.tl.tl.tl.tl.hd; have c6 := hA.tl.tl.tl.tl.tl.tl.hd; have c7 := hA.tl.tl.tl.tl.tl.tl.tl.hd; clear hA; go_simp; try rfl)); (· (intro w' hC; exact (HF.out _ (HP.out.1.trans (hC.2.mono HP.out.1.size))).mono (fun e w'' h => ⟨h.1, hC.later h.2⟩))))); simp only [Act.put, List.setIfInBounds_toArray, List.set_cons_zero, List.set_cons_succ]; go_big_quiet_on))
            refine wpQuiet_nil ?_
            intro w9 hC9
            have HB9 := Lib.hid (HP.out.1.trans (hC9.2.mono HP.out.1.size))
            have HX9 : Hid (w9.cell? ⟨w.heap.size, 1, none⟩ = some (.slice (some ⟨b, off, none⟩) tl.length tc) ∧ w.heap.size < w9.heap.size) := ⟨hC9.1.hd, (hC9.1 _ _ _ (List.mem_cons_self ..)).1⟩
            clear hC9
            go_wp2_with fail
            go_ret
            exact ⟨ret_int (by rw [HR.out, HFX.out]; rfl), HB9.out⟩
          case false =>
            have HFX : Hid ((tl.drop (k + 1)).all fitsB = tl.all fitsB) := by show _ = _; rw [← HS.out, hst, hfe, hf]; rfl
            clear hst hfe
            go_wp2_with fail
            clear c1 hy0 hy1 hy2 hy3 hy4 hy5 hy6
            refine region_C (by kernel_rfl) (by kernel_rfl) (Cls.start HA.out) ?_
            repeat (first | go_big_quiet_skip | (go_big_quiet_want; (first | (apply q_val; (· (rintro w' ⟨hA, -⟩; have c0 := hA.hd; have c1 := hA.tl.hd; have c2 := hA.tl.tl.hd; have c3 := hA.tl.tl.tl.hd; have c4 := hA.tl.tl.tl.tl.hd; have c5 := hA.tl.tl.tl.tl.tl.hd; have c6 := hA.tl.tl.tl.tl.tl.tl.hd; have c7 := hA.tl.tl.tl.tl.tl.tl.tl.hd; clear hA; go_simp; try rfl))) | (apply q_call 30; (· (rintro w' ⟨hA, -⟩; have c0 := hA.hd; have c1 := hA.tl.hd; have c2 := hA.tl.tl.hd; have c3 := hA.tl.tl.tl.hd; have c4 := hA.tl.tl.tl.tl.hd; have c5 := hA.tl.tl.tl.tl.tl.hd; have c6 := hA.tl.tl.tl.tl.tl.tl.hd; have c7 := hA.tl.tl.tl.tl.tl.tl.tl.hd; clear hA; go_simp; try rfl)); (· (intro w' hC; exact (HF.out _ (HP.out.1.trans (hC.2.mono HP.out.1.size))).mono (fun e w'' h => ⟨h.1, hC.later h.2⟩))))); simp only [Act.put, List.setIfInBounds_toArray, List.set_cons_zero, List.set_cons_succ]; go_big_quiet_on))
            refine wpQuiet_nil ?_
            intro w9 hC9
            have HB9 := Lib.hid (HP.out.1.trans (hC9.2.mono HP.out.1.size))
            have HX9 : Hid (w9.cell? ⟨w.heap.size, 1, none⟩ = some (.slice (some ⟨b, off, none⟩) tl.length tc) ∧ w.heap.size < w9.heap.size) := ⟨hC9.1.hd, (hC9.1 _ _ _ (List.mem_cons_self ..)).1⟩
            clear hC9
            go_wp2_with fail
            go_roundg g
            case measure => omega
            case rel => exact ⟨k + 1, by omega, by go_num, HFX.out, ⟨HB9.out, HX9.out.2⟩, HX9.out.1⟩
  · have hne : (er != 0) = true := by simpa using he
    have hne2 : (er == 0) = false := by simpa using he
    have HR := Lib.hid (show ad = er by rw [HG.out, if_neg he])
    clear HG he
    go_enter Try.func71, Try.ntmps71
    go_wp2_with fail
    refine HC.out.mono ?_
    rintro e w1 ⟨rfl, hb1⟩
    have HB1 := Lib.hid (HB.out.trans (hb1.mono HB.out.size))
    clear hb1
    go_wp2_with fail
    go_ret
    exact ⟨ret_int HR.out.symm, HB1.out⟩
end Go.Proofs.Ytbkghiaafkmapaa
