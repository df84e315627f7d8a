/- godownlaw15.UsageTells answers true for every tenant, every set and every number. No condition. -/
import Derived.Test.YtbkghiaafkmapaaAlive15
import Derived.Test.YtbkghiaafkmapaaRefU
import Derived.Test.YtbkghiaafkmapaaRefC
namespace Go.Proofs.Ytbkghiaafkmapaa.usageTells
open Go.ChangeShapes Go.WideShapes Go.ChangeAt Go.RowKit

theorem body_b (a : Option Addr) (n c : Nat) (w : World) (hn : n * 24 ≤ 140737488355328) : Calls Try.prog 33 #[.slice a n c] w fun e w' => e = .returned (.int .i64 (1 + (n : Int))) ∧ Below w.heap.size w w' :=
  (body_any a n c w hn).mono fun e w' ⟨he, hw⟩ => ⟨he, by rw [hw]; exact Below.refl _ _⟩
theorem fits_eq (q c : Int) : ((!decide (q < c)) != decide (c ≤ q)) = false := by
  by_cases h : q < c
  · simp [h]
  · simp [h]; omega
theorem fits_eq2 (q c : Int) : ((!decide (q < c)) == decide (c ≤ q)) = true := by
  by_cases h : q < c
  · simp [h]
  · simp [h]; omega

set_option maxRecDepth 100000 in
set_option maxHeartbeats 2000000 in
theorem walk (t : TenantD) (s : SetD) (i : Int) (hir : InR i) (w : World) (ht : okTenant w t) (hs : okSet w s) :
    Calls Try.prog 8 #[.agg #[.string t.name, .int .i64 t.quota, .int .i64 t.next, .slice t.sets.a t.sets.l.length t.sets.c, .slice t.grants.a t.grants.l.length t.grants.c, .slice t.stages.a t.stages.l.length t.stages.c, .slice t.log.a t.log.l.length t.log.c], .agg #[.string s.path, .string s.origin, .slice s.body.a s.body.l.length s.body.c, .slice s.snaps.a s.snaps.l.length s.snaps.c, .slice s.own.a s.own.l.length s.own.c], .int .i64 i] w fun e w' => e = .returned (.bool true) ∧ Below w.heap.size w w' := by
  have hbl := IsSl.len hs.2.2.1
  have hbw : IntKind.i64.wrap (1 + (s.body.l.length : Int)) = 1 + (s.body.l.length : Int) := by rw [i64_wrap]; exact wrap_in (by unfold InR; omega)
  have HT := Lib.hid ht
  have HS := Lib.hid hs
  have hfe := fits_eq t.quota (wrap64 (tenChg t))
  have hfe2 := fits_eq2 t.quota (wrap64 (tenChg t))
  clear ht hs
  go_enter Try.func8, Try.ntmps8
  go_wp2_with fail
  have HB : Hid (Below w.heap.size w ((w.alloc (.cells #[.string t.name, .int .i64 t.quota, .int .i64 t.next, .slice t.sets.a t.sets.l.length t.sets.c, .slice t.grants.a t.grants.l.length t.grants.c, .slice t.stages.a t.stages.l.length t.stages.c, .slice t.log.a t.log.l.length t.log.c] 53)).alloc (.cells #[.string s.path, .string s.origin, .slice s.body.a s.body.l.length s.body.c, .slice s.snaps.a s.snaps.l.length s.snaps.c, .slice s.own.a s.own.l.length s.own.c] 38))) := ((Below.refl _ _).alloc (Nat.le_refl _) _).alloc (by simp) _
  have HAT : Hid (At ((w.alloc (.cells #[.string t.name, .int .i64 t.quota, .int .i64 t.next, .slice t.sets.a t.sets.l.length t.sets.c, .slice t.grants.a t.grants.l.length t.grants.c, .slice t.stages.a t.stages.l.length t.stages.c, .slice t.log.a t.log.l.length t.log.c] 53)).alloc (.cells #[.string s.path, .string s.origin, .slice s.body.a s.body.l.length s.body.c, .slice s.snaps.a s.snaps.l.length s.snaps.c, .slice s.own.a s.own.l.length s.own.c] 38)) [(w.heap.size, 0, .string t.name), (w.heap.size, 1, .int .i64 t.quota), (w.heap.size, 2, .int .i64 t.next), (w.heap.size, 3, .slice t.sets.a t.sets.l.length t.sets.c), (w.heap.size, 4, .slice t.grants.a t.grants.l.length t.grants.c), (w.heap.size, 5, .slice t.stages.a t.stages.l.length t.stages.c), (w.heap.size, 6, .slice t.log.a t.log.l.length t.log.c), (w.heap.size + 1, 0, .string s.path), (w.heap.size + 1, 1, .string s.origin), (w.heap.size + 1, 2, .slice s.body.a s.body.l.length s.body.c), (w.heap.size + 1, 3, .slice s.snaps.a s.snaps.l.length s.snaps.c), (w.heap.size + 1, 4, .slice s.own.a s.own.l.length s.own.c)]) := (At.cons (by simp; try omega) (by go_simp) (At.cons (by simp; try omega) (by go_simp) (At.cons (by simp; try omega) (by go_simp) (At.cons (by simp; try omega) (by go_simp) (At.cons (by simp; try omega) (by go_simp) (At.cons (by simp; try omega) (by go_simp) (At.cons (by simp; try omega) (by go_simp) (At.cons (by simp; try omega) (by go_simp) (At.cons (by simp; try omega) (by go_simp) (At.cons (by simp; try omega) (by go_simp) (At.cons (by simp; try omega) (by go_simp) (At.cons (by simp; try omega) (by go_simp) (At.nil _)))))))))))))
  refine region_C (by kernel_rfl) (by kernel_rfl) (Cls.start HAT.out) ?_
  repeat (first | go_big_quiet_skip | (go_big_quiet_want; (first | (apply q_val; (· (rintro w' ⟨hA, -⟩; have c0 := hA.hd; have c1 := hA.tl.hd; have c2 := hA.tl.tl.hd; have c3 := hA.tl.tl.tl.hd; have c4 := hA.tl.tl.tl.tl.hd; have c5 := hA.tl.tl.tl.tl.tl.hd; have c6 := hA.tl.tl.tl.tl.tl.tl.hd; have c7 := hA.tl.tl.tl.tl.tl.tl.tl.hd; have c8 := hA.tl.tl.tl.tl.tl.tl.tl.tl.hd; have c9 := hA.tl.tl.tl.tl.tl.tl.tl.tl.tl.hd; have c10 := hA.tl.tl.tl.tl.tl.tl.tl.tl.tl.tl.hd; have c11 := hA.tl.tl.tl.tl.tl.tl.tl.tl.tl.tl.tl.hd; clear hA; go_simp; try rfl))) | (apply q_call 29; (· (rintro w' ⟨hA, -⟩; have c0 := hA.hd; have c1 := hA.tl.hd; have c2 := hA.tl.tl.hd; have c3 := hA.tl.tl.tl.hd; have c4 := hA.tl.tl.tl.tl.hd; have c5 := hA.tl.tl.tl.tl.tl.hd; have c6 := hA.tl.tl.tl.tl.tl.tl.hd; have c7 := hA.tl.tl.tl.tl.tl.tl.tl.hd; have c8 := hA.tl.tl.tl.tl.tl.tl.tl.tl.hd; have c9 := hA.tl.tl.tl.tl.tl.tl.tl.tl.tl.hd; have c10 := hA.tl.tl.tl.tl.tl.tl.tl.tl.tl.tl.hd; have c11 := hA.tl.tl.tl.tl.tl.tl.tl.tl.tl.tl.tl.hd; clear hA; go_simp; try rfl)); (· (intro w' hC; exact (Tenant_any t w' (okTenant_below HT.out (HB.out.trans (hC.2.mono HB.out.size)))).mono (fun e w'' h => ⟨h.1, hC.later h.2⟩)))) | (apply q_call 30; (· (rintro w' ⟨hA, -⟩; have c0 := hA.hd; have c1 := hA.tl.hd; have c2 := hA.tl.tl.hd; have c3 := hA.tl.tl.tl.hd; have c4 := hA.tl.tl.tl.tl.hd; have c5 := hA.tl.tl.tl.tl.tl.hd; have c6 := hA.tl.tl.tl.tl.tl.tl.hd; have c7 := hA.tl.tl.tl.tl.tl.tl.tl.hd; have c8 := hA.tl.tl.tl.tl.tl.tl.tl.tl.hd; have c9 := hA.tl.tl.tl.tl.tl.tl.tl.tl.tl.hd; have c10 := hA.tl.tl.tl.tl.tl.tl.tl.tl.tl.tl.hd; have c11 := hA.tl.tl.tl.tl.tl.tl.tl.tl.tl.tl.tl.hd; clear hA; go_simp; try rfl)); (· (intro w' hC; exact (refCharge_any t w' (okTenant_below HT.out (HB.out.trans (hC.2.mono HB.out.size)))).mono (fun e w'' h => ⟨h.1, hC.later h.2⟩)))) | (apply q_call 31; (· (rintro w' ⟨hA, -⟩; have c0 := hA.hd; have c1 := hA.tl.hd; have c2 := hA.tl.tl.hd; have c3 := hA.tl.tl.tl.hd; have c4 := hA.tl.tl.tl.tl.hd; have c5 := hA.tl.tl.tl.tl.tl.hd; have c6 := hA.tl.tl.tl.tl.tl.tl.hd; have c7 := hA.tl.tl.tl.tl.tl.tl.tl.hd; have c8 := hA.tl.tl.tl.tl.tl.tl.tl.tl.hd; have c9 := hA.tl.tl.tl.tl.tl.tl.tl.tl.tl.hd; have c10 := hA.tl.tl.tl.tl.tl.tl.tl.tl.tl.tl.hd; have c11 := hA.tl.tl.tl.tl.tl.tl.tl.tl.tl.tl.tl.hd; clear hA; go_simp; try rfl)); (· (intro w' hC; exact (Fits_any t w' (okTenant_below HT.out (HB.out.trans (hC.2.mono HB.out.size)))).mono (fun e w'' h => ⟨h.1, hC.later h.2⟩)))) | (apply q_call 23; (· (rintro w' ⟨hA, -⟩; have c0 := hA.hd; have c1 := hA.tl.hd; have c2 := hA.tl.tl.hd; have c3 := hA.tl.tl.tl.hd; have c4 := hA.tl.tl.tl.tl.hd; have c5 := hA.tl.tl.tl.tl.tl.hd; have c6 := hA.tl.tl.tl.tl.tl.tl.hd; have c7 := hA.tl.tl.tl.tl.tl.tl.tl.hd; have c8 := hA.tl.tl.tl.tl.tl.tl.tl.tl.hd; have c9 := hA.tl.tl.tl.tl.tl.tl.tl.tl.tl.hd; have c10 := hA.tl.tl.tl.tl.tl.tl.tl.tl.tl.tl.hd; have c11 := hA.tl.tl.tl.tl.tl.tl.tl.tl.tl.tl.tl.hd; clear hA; go_simp; try rfl)); (· (intro w' hC; exact (Set_any s w' (okSet_below HS.out (HB.out.trans (hC.2.mono HB.out.size)))).mono (fun e w'' h => ⟨h.1, hC.later h.2⟩)))) | (apply q_call 32; (· (rintro w' ⟨hA, -⟩; have c0 := hA.hd; have c1 := hA.tl.hd; have c2 := hA.tl.tl.hd; have c3 := hA.tl.tl.tl.hd; have c4 := hA.tl.tl.tl.tl.hd; have c5 := hA.tl.tl.tl.tl.tl.hd; have c6 := hA.tl.tl.tl.tl.tl.tl.hd; have c7 := hA.tl.tl.tl.tl.tl.tl.tl.hd; have c8 := hA.tl.tl.tl.tl.tl.tl.tl.tl.hd; have c9 := hA.tl.tl.tl.tl.tl.tl.tl.tl.tl.hd; have c10 := hA.tl.tl.tl.tl.tl.tl.tl.tl.tl.tl.hd; have c11 := hA.tl.tl.tl.tl.tl.tl.tl.tl.tl.tl.tl.hd; clear hA; go_simp; try rfl)); (· (intro w' hC; exact (refSet_any s w' (okSet_below HS.out (HB.out.trans (hC.2.mono HB.out.size)))).mono (fun e w'' h => ⟨h.1, hC.later h.2⟩)))) | (apply q_call 33; (· (rintro w' ⟨hA, -⟩; have c0 := hA.hd; have c1 := hA.tl.hd; have c2 := hA.tl.tl.hd; have c3 := hA.tl.tl.tl.hd; have c4 := hA.tl.tl.tl.tl.hd; have c5 := hA.tl.tl.tl.tl.tl.hd; have c6 := hA.tl.tl.tl.tl.tl.tl.hd; have c7 := hA.tl.tl.tl.tl.tl.tl.tl.hd; have c8 := hA.tl.tl.tl.tl.tl.tl.tl.tl.hd; have c9 := hA.tl.tl.tl.tl.tl.tl.tl.tl.tl.hd; have c10 := hA.tl.tl.tl.tl.tl.tl.tl.tl.tl.tl.hd; have c11 := hA.tl.tl.tl.tl.tl.tl.tl.tl.tl.tl.tl.hd; clear hA; go_simp; try rfl)); (· (intro w' hC; exact (body_b s.body.a s.body.l.length s.body.c w' hbl).mono (fun e w'' h => ⟨h.1, hC.later h.2⟩))))); simp only [Act.put, List.setIfInBounds_toArray, List.set_cons_zero, List.set_cons_succ]; go_big_quiet_on))
  refine wpQuiet_nil ?_
  intro w2 hC2
  have HB2 := Lib.hid (HB.out.trans (hC2.2.mono HB.out.size))
  have HAT2 := Lib.hid hC2.1
  clear hC2 HB HAT
  go_wp2_with fail
  have HB := HB2
  refine region_C (by kernel_rfl) (by kernel_rfl) (Cls.start HAT2.out) ?_
  repeat (first | go_big_quiet_skip | (go_big_quiet_want; (first | (apply q_val; (· (rintro w' ⟨hA, -⟩; have c0 := hA.hd; have c1 := hA.tl.hd; have c2 := hA.tl.tl.hd; have c3 := hA.tl.tl.tl.hd; have c4 := hA.tl.tl.tl.tl.hd; have c5 := hA.tl.tl.tl.tl.tl.hd; have c6 := hA.tl.tl.tl.tl.tl.tl.hd; have c7 := hA.tl.tl.tl.tl.tl.tl.tl.hd; have c8 := hA.tl.tl.tl.tl.tl.tl.tl.tl.hd; have c9 := hA.tl.tl.tl.tl.tl.tl.tl.tl.tl.hd; have c10 := hA.tl.tl.tl.tl.tl.tl.tl.tl.tl.tl.hd; have c11 := hA.tl.tl.tl.tl.tl.tl.tl.tl.tl.tl.tl.hd; clear hA; go_simp; try rfl))) | (apply q_call 25; (· (rintro w' ⟨hA, -⟩; have c0 := hA.hd; have c1 := hA.tl.hd; have c2 := hA.tl.tl.hd; have c3 := hA.tl.tl.tl.hd; have c4 := hA.tl.tl.tl.tl.hd; have c5 := hA.tl.tl.tl.tl.tl.hd; have c6 := hA.tl.tl.tl.tl.tl.tl.hd; have c7 := hA.tl.tl.tl.tl.tl.tl.tl.hd; have c8 := hA.tl.tl.tl.tl.tl.tl.tl.tl.hd; have c9 := hA.tl.tl.tl.tl.tl.tl.tl.tl.tl.hd; have c10 := hA.tl.tl.tl.tl.tl.tl.tl.tl.tl.tl.hd; have c11 := hA.tl.tl.tl.tl.tl.tl.tl.tl.tl.tl.tl.hd; clear hA; go_simp; try rfl)); (· (intro w' hC; exact (Unique_any s i hir w' (okSet_below HS.out (HB.out.trans (hC.2.mono HB.out.size)))).mono (fun e w'' h => ⟨h.1, hC.later h.2⟩)))) | (apply q_call 34; (· (rintro w' ⟨hA, -⟩; have c0 := hA.hd; have c1 := hA.tl.hd; have c2 := hA.tl.tl.hd; have c3 := hA.tl.tl.tl.hd; have c4 := hA.tl.tl.tl.tl.hd; have c5 := hA.tl.tl.tl.tl.tl.hd; have c6 := hA.tl.tl.tl.tl.tl.tl.hd; have c7 := hA.tl.tl.tl.tl.tl.tl.tl.hd; have c8 := hA.tl.tl.tl.tl.tl.tl.tl.tl.hd; have c9 := hA.tl.tl.tl.tl.tl.tl.tl.tl.tl.hd; have c10 := hA.tl.tl.tl.tl.tl.tl.tl.tl.tl.tl.hd; have c11 := hA.tl.tl.tl.tl.tl.tl.tl.tl.tl.tl.tl.hd; clear hA; go_simp; try rfl)); (· (intro w' hC; exact (refUnique_any s i hir w' (okSet_below HS.out (HB.out.trans (hC.2.mono HB.out.size)))).mono (fun e w'' h => ⟨h.1, hC.later h.2⟩)))) | (apply q_call 24; (· (rintro w' ⟨hA, -⟩; have c0 := hA.hd; have c1 := hA.tl.hd; have c2 := hA.tl.tl.hd; have c3 := hA.tl.tl.tl.hd; have c4 := hA.tl.tl.tl.tl.hd; have c5 := hA.tl.tl.tl.tl.tl.hd; have c6 := hA.tl.tl.tl.tl.tl.tl.hd; have c7 := hA.tl.tl.tl.tl.tl.tl.tl.hd; have c8 := hA.tl.tl.tl.tl.tl.tl.tl.tl.hd; have c9 := hA.tl.tl.tl.tl.tl.tl.tl.tl.tl.hd; have c10 := hA.tl.tl.tl.tl.tl.tl.tl.tl.tl.tl.hd; have c11 := hA.tl.tl.tl.tl.tl.tl.tl.tl.tl.tl.tl.hd; clear hA; go_simp; try rfl)); (· (intro w' hC; exact (Changed_any s w' (okSet_below HS.out (HB.out.trans (hC.2.mono HB.out.size)))).mono (fun e w'' h => ⟨h.1, hC.later h.2⟩)))) | (apply q_call 35; (· (rintro w' ⟨hA, -⟩; have c0 := hA.hd; have c1 := hA.tl.hd; have c2 := hA.tl.tl.hd; have c3 := hA.tl.tl.tl.hd; have c4 := hA.tl.tl.tl.tl.hd; have c5 := hA.tl.tl.tl.tl.tl.hd; have c6 := hA.tl.tl.tl.tl.tl.tl.hd; have c7 := hA.tl.tl.tl.tl.tl.tl.tl.hd; have c8 := hA.tl.tl.tl.tl.tl.tl.tl.tl.hd; have c9 := hA.tl.tl.tl.tl.tl.tl.tl.tl.tl.hd; have c10 := hA.tl.tl.tl.tl.tl.tl.tl.tl.tl.tl.hd; have c11 := hA.tl.tl.tl.tl.tl.tl.tl.tl.tl.tl.tl.hd; clear hA; go_simp; try rfl)); (· (intro w' hC; exact (refChanged_any s w' (okSet_below HS.out (HB.out.trans (hC.2.mono HB.out.size)))).mono (fun e w'' h => ⟨h.1, hC.later h.2⟩)))) | (apply q_call 22; (· (rintro w' ⟨hA, -⟩; have c0 := hA.hd; have c1 := hA.tl.hd; have c2 := hA.tl.tl.hd; have c3 := hA.tl.tl.tl.hd; have c4 := hA.tl.tl.tl.tl.hd; have c5 := hA.tl.tl.tl.tl.tl.hd; have c6 := hA.tl.tl.tl.tl.tl.tl.hd; have c7 := hA.tl.tl.tl.tl.tl.tl.tl.hd; have c8 := hA.tl.tl.tl.tl.tl.tl.tl.tl.hd; have c9 := hA.tl.tl.tl.tl.tl.tl.tl.tl.tl.hd; have c10 := hA.tl.tl.tl.tl.tl.tl.tl.tl.tl.tl.hd; have c11 := hA.tl.tl.tl.tl.tl.tl.tl.tl.tl.tl.tl.hd; clear hA; go_simp; try rfl)); (· (intro w' hC; exact (alive15 w').mono (fun e w'' h => ⟨h.1, hC.later h.2⟩))))); simp only [Act.put, List.setIfInBounds_toArray, List.set_cons_zero, List.set_cons_succ]; go_big_quiet_on))
  refine wpQuiet_nil ?_
  intro w3 hC3
  have HB3 := Lib.hid (HB.out.trans (hC3.2.mono HB.out.size))
  clear hC3
  go_wp2_with fail
  go_ret
  exact ⟨rfl, HB3.out⟩

set_option maxRecDepth 100000 in
theorem lifted (os : Os) (started : os.Started) (H : Type) (enc : TypeId × Value → H) :
    ReturnsInHanded {} Try.checked os 8 .any (Rows.usageTellsSpec.pre6 enc Try.prog Try.f8 Rows.usageTellsRow.domain false) (Rows.usageTellsSpec.post enc Try.prog Try.f8 false true false false) := by
  refine returnsInHanded_of_change_sized (C := Try.checked) own started (by kernel_rfl) Try.func8
    (ChangeSpec.witness6 (enc := enc) (C := Try.checked) false ⟨#[], #[.agg #[.string .empty, .int .i64 0, .int .i64 0, .slice none 0 0, .slice none 0 0, .slice none 0 0, .slice none 0 0], .agg #[.string .empty, .string .empty, .slice none 0 0, .slice none 0 0, .slice none 0 0], .int .i64 0], []⟩ 8 (by kernel_rfl) (by kernel_rfl) (by kernel_rfl) (by kernel_rfl)) ?_
  intro W base args ds gs before hval0 hW hcnd hsz _
  have hval : ∀ (j : Nat) t v, Try.f8.params[j]? = some t → args[j]? = some v → Value.okWide Try.prog W .any base t v := hval0
  have hW' := hW
  obtain ⟨p, q, hA0, hV, rfl, hfz, hnd⟩ := hW
  have hA : DataW.TrodAll enc Try.prog W 0 (fun _ => true) true Try.f8.params.toList args.toList ds p := hA0
  rw [Try.params8] at hA hval
  obtain ⟨v0, vs0, d0, ds0, p0, q0, hargs, rfl, rfl, h0, r0⟩ := trodAll_cons hA
  obtain ⟨v1, vs1, d1, ds1, p1, q1, rfl, rfl, rfl, h1, r1⟩ := trodAll_cons r0
  obtain ⟨v2, vs2, d2, ds2, p2, q2, rfl, rfl, rfl, h2, r2⟩ := trodAll_cons r1
  obtain ⟨rfl, rfl, rfl⟩ := trodAll_nil r2
  obtain rfl : args = #[v0, v1, v2] := by cases args; simp_all
  obtain ⟨rfl, rfl⟩ := trodVars_none hV
  have k0 := h0
  have lt0 : ∀ x ∈ p0, x.block < W.heap.size := by obtain ⟨m, hm⟩ := k0; exact DataW.trod_lt m _ _ _ hm
  have hwt := fun n hn => of_decide_eq_true (List.all_eq_true.1 hsz n hn)
  obtain ⟨x0, rfl, o0, b0⟩ := agg_in reads_Tenant (let ⟨cs, hc, _⟩ := okWide_struct Try.underlying53 (hval 0 53 v0 rfl rfl); ⟨cs, hc⟩) h0 (fun n hn => (hwt n (DataW.weights_mem_each (j := 0) rfl rfl n hn)))
  have k1 := h1
  have lt1 : ∀ x ∈ p1, x.block < W.heap.size := by obtain ⟨m, hm⟩ := k1; exact DataW.trod_lt m _ _ _ hm
  obtain ⟨x1, rfl, o1, b1⟩ := agg_in reads_Set (let ⟨cs, hc, _⟩ := okWide_struct Try.underlying38 (hval 1 38 v1 rfl rfl); ⟨cs, hc⟩) h1 (fun n hn => (hwt n (DataW.weights_mem_each (j := 1) rfl rfl n hn)))
  obtain ⟨a2, rfl, rfl, rfl, w2⟩ := open_int Try.underlying3 (hval 2 3 v2 rfl rfl) h2
  clear hA0 hval0
  refine (walk x0 x1 a2 (inR_of_wf w2) W o0 o1).mono fun e W' ⟨he, bel⟩ => ?_
  subst he
  exact ⟨_, rfl, _, _, _, [], _, [], hW', trodAll_mk1 (shut_bool Try.underlying4 _), (trodAll_cons_mk (Below.trod laidOut (by kernel_rfl) (of_decide_eq_true (by kernel_rfl)) k0 bel lt0) (trodAll_cons_mk (Below.trod laidOut (by kernel_rfl) (of_decide_eq_true (by kernel_rfl)) k1 bel lt1) (trodAll_cons_mk (shut_int Try.underlying3 w2) trodAll_mk0))), rfl, bel.frame _, fun h => by cases h⟩

theorem over : Rows.usageTellsRow.holds Try.pinned (OpenSpec.ofChange Rows.usageTellsSpec) :=
  OpenClaim.holds_of_wide 8 Try.f8 rfl rfl rfl rfl rfl rfl rfl ⟨rfl, rfl, rfl, rfl, rfl⟩ rfl rfl rfl rfl rfl (by kernel_rfl) Try.func8 (by kernel_rfl)
    (of_decide_eq_true (by kernel_rfl)) (by unfold Func.isWrapper; first | (rw [if_pos (by decide +kernel)]; kernel_rfl) | (rw [if_neg (by decide +kernel)]; exact ⟨rfl, rfl⟩))
    (fun os started H enc _ => lifted os started H enc)

/-- THE STATEMENT -/
theorem proved : Rows.UsageTellsSaid := over
#print axioms proved
end Go.Proofs.Ytbkghiaafkmapaa.usageTells
