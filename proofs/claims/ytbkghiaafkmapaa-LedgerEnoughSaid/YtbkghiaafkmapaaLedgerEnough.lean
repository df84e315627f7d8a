/- godownlaw24.LedgerEnough answers true for every pool and every number of sectors. No condition. -/
import Derived.Test.YtbkghiaafkmapaaLedger3
namespace Go.Proofs.Ytbkghiaafkmapaa.ledgerEnough
open Go.ChangeShapes Go.WideShapes Go.ChangeAt Go.RowKit

theorem roomy (sec : Int) : 1650 ≤ wrap64 (1650 + (wrap64 (sec.tmod 6500 + 6500)).tmod 6500) ∧ wrap64 (1650 + (wrap64 (sec.tmod 6500 + 6500)).tmod 6500) ≤ 8149 := by
  have h1 := Int.tmod_lt_of_pos sec (show (0 : Int) < 6500 by decide)
  have h2 : -6500 < sec.tmod 6500 := Int.lt_tmod_of_pos sec (by decide)
  rw [wrap_in (n := sec.tmod 6500 + 6500) (by unfold InR; omega)]
  have h3 := Int.tmod_lt_of_pos (sec.tmod 6500 + 6500) (show (0 : Int) < 6500 by decide)
  have h4 := Int.tmod_nonneg 6500 (show (0 : Int) ≤ sec.tmod 6500 + 6500 by omega)
  rw [wrap_in (by unfold InR; omega)]
  omega

set_option maxHeartbeats 1000000 in
theorem walk (x : PoolD) (sec : Int) (w : World) (h : okPool w x) :
    Calls Try.prog 12 #[.agg #[.int .i64 x.capacity, .slice x.tenants.a x.tenants.l.length x.tenants.c, .slice x.forced.a x.forced.l.length x.forced.c, .slice x.log.a x.log.l.length x.log.c], .int .i64 sec] w fun e w' => e = .returned (.bool true) ∧ Below w.heap.size w w' := by
  obtain ⟨hr0, hr1⟩ := roomy sec
  have HS : Hid (∃ s, s = wrap64 (1650 + (wrap64 (sec.tmod 6500 + 6500)).tmod 6500)) := ⟨_, rfl⟩
  obtain ⟨s, hs⟩ := HS.out
  rw [← hs] at hr0 hr1
  have hK := fun W => Capacity_any s W (by unfold InR; omega)
  rw [if_pos (by omega)] at hK
  have hB : Below w.heap.size w (w.alloc (.cells #[.int .i64 ((s - 1602) / 48), .slice x.tenants.a x.tenants.l.length x.tenants.c, .slice x.forced.a x.forced.l.length x.forced.c, .slice x.log.a x.log.l.length x.log.c] 72)) := (Below.refl _ _).alloc (Nat.le_refl _) _
  have hA := Admit_any { x with capacity := (s - 1602) / 48 } _ (okPool_below (x := { x with capacity := (s - 1602) / 48 }) ⟨(show InR ((s - 1602) / 48) by unfold InR; omega), h.2⟩ hB)
  have hE := fun W hW => Enough_any { x with capacity := (s - 1602) / 48 } s (by unfold InR; omega) W (okPool_below (x := { x with capacity := (s - 1602) / 48 }) ⟨(show InR ((s - 1602) / 48) by unfold InR; omega), h.2⟩ hW)
  have hAE : admitE ((s - 1602) / 48) x.tenants.l = 0 → enoughB (quotas x.tenants.l) s = true := by
    intro h0
    unfold admitE at h0
    split at h0
    · split at h0
      · omega
      · exact decide_eq_true ⟨by assumption, by omega, by omega⟩
    · contradiction
  dsimp only at hA hE
  generalize admitE ((s - 1602) / 48) x.tenants.l = ad at *
  have HA := Lib.hid hA
  have HE := Lib.hid hE
  have HK := Lib.hid hK
  have HB := Lib.hid hB
  have HZ := Lib.hid hs
  have HAE := Lib.hid hAE
  clear hA hE hK hB hs hAE
  by_cases h0 : ad = 0
  · subst h0
    have hen := HAE.out rfl
    rw [hen] at HE
    clear hen
    go_enter Try.func12, Try.ntmps12
    go_wp2_with fail
    refine (alive24 _).mono ?_
    rintro e w1 ⟨rfl, rfl⟩
    go_wp2_with fail
    rw [← HZ.out]
    refine (HK.out _).mono ?_
    rintro e w1 ⟨rfl, rfl⟩
    go_wp2_with fail
    refine HA.out.mono ?_
    rintro e w2 ⟨rfl, hb2⟩
    have HB2 := Lib.hid (HB.out.trans (hb2.mono HB.out.size))
    have c0 : w2.cell? ⟨w.heap.size, 0, none⟩ = some (.int .i64 ((s - 1602) / 48)) := by rw [hb2.cell (p := ⟨w.heap.size, 0, none⟩) (by simp)]; go_simp
    have c1 : w2.cell? ⟨w.heap.size, 1, none⟩ = some (.slice x.tenants.a x.tenants.l.length x.tenants.c) := by rw [hb2.cell (p := ⟨w.heap.size, 1, none⟩) (by simp)]; go_simp
    have c2 : w2.cell? ⟨w.heap.size, 2, none⟩ = some (.slice x.forced.a x.forced.l.length x.forced.c) := by rw [hb2.cell (p := ⟨w.heap.size, 2, none⟩) (by simp)]; go_simp
    have c3 : w2.cell? ⟨w.heap.size, 3, none⟩ = some (.slice x.log.a x.log.l.length x.log.c) := by rw [hb2.cell (p := ⟨w.heap.size, 3, none⟩) (by simp)]; go_simp
    clear hb2
    go_wp2_with fail
    refine (HE.out _ HB2.out).mono ?_
    rintro e w3 ⟨rfl, hb3⟩
    have HB3 := Lib.hid (HB2.out.trans (hb3.mono HB2.out.size))
    clear hb3
    go_wp2_with fail
    go_ret
    exact ⟨rfl, HB3.out⟩
  · have hne : (ad != 0) = true := by simpa using h0
    clear h0
    go_enter Try.func12, Try.ntmps12
    go_wp2_with fail
    refine (alive24 _).mono ?_
    rintro e w1 ⟨rfl, rfl⟩
    go_wp2_with fail
    rw [← HZ.out]
    refine (HK.out _).mono ?_
    rintro e w1 ⟨rfl, rfl⟩
    go_wp2_with fail
    refine HA.out.mono ?_
    rintro e w2 ⟨rfl, hb2⟩
    have HB2 := Lib.hid (HB.out.trans (hb2.mono HB.out.size))
    clear hb2
    go_wp2_with fail
    go_ret
    exact ⟨rfl, HB2.out⟩

set_option maxRecDepth 100000 in
theorem lifted (os : Os) (started : os.Started) (H : Type) (enc : TypeId × Value → H) :
    ReturnsInHanded {} Try.checked os 12 .any (Rows.ledgerEnoughSpec.pre6 enc Try.prog Try.f12 Rows.ledgerEnoughRow.domain false) (Rows.ledgerEnoughSpec.post enc Try.prog Try.f12 false true false false) := by
  refine returnsInHanded_of_change_sized (C := Try.checked) own started (by kernel_rfl) Try.func12
    (ChangeSpec.witness6 (enc := enc) (C := Try.checked) false ⟨#[], #[.agg #[.int .i64 0, .slice none 0 0, .slice none 0 0, .slice none 0 0], .int .i64 0], []⟩ 8 (by kernel_rfl) (by kernel_rfl) (by kernel_rfl) (by kernel_rfl)) ?_
  intro W base args ds gs before hval0 hW hcnd hsz _
  have hval : ∀ (j : Nat) t v, Try.f12.params[j]? = some t → args[j]? = some v → Value.okWide Try.prog W .any base t v := hval0
  have hW' := hW
  obtain ⟨p, q, hA0, hV, rfl, hfz, hnd⟩ := hW
  have hA : DataW.TrodAll enc Try.prog W 0 (fun _ => true) true Try.f12.params.toList args.toList ds p := hA0
  rw [Try.params12] at hA hval
  obtain ⟨v0, vs0, d0, ds0, p0, q0, hargs, rfl, rfl, h0, r0⟩ := trodAll_cons hA
  obtain ⟨v1, vs1, d1, ds1, p1, q1, rfl, rfl, rfl, h1, r1⟩ := trodAll_cons r0
  obtain ⟨rfl, rfl, rfl⟩ := trodAll_nil r1
  obtain rfl : args = #[v0, v1] := by cases args; simp_all
  obtain ⟨rfl, rfl⟩ := trodVars_none hV
  have k0 := h0
  have lt0 : ∀ x ∈ p0, x.block < W.heap.size := by obtain ⟨m, hm⟩ := k0; exact DataW.trod_lt m _ _ _ hm
  have hwt := fun n hn => of_decide_eq_true (List.all_eq_true.1 hsz n hn)
  obtain ⟨x0, rfl, o0, b0⟩ := agg_in reads_Pool (let ⟨cs, hc, _⟩ := okWide_struct Try.underlying72 (hval 0 72 v0 rfl rfl); ⟨cs, hc⟩) h0 (fun n hn => (hwt n (DataW.weights_mem_each (j := 0) rfl rfl n hn)))
  obtain ⟨a1, rfl, rfl, rfl, w1⟩ := open_int Try.underlying3 (hval 1 3 v1 rfl rfl) h1
  clear hA0 hval0
  refine (walk x0 a1 W o0).mono fun e W' ⟨he, bel⟩ => ?_
  subst he
  exact ⟨_, rfl, _, _, _, [], _, [], hW', trodAll_mk1 (shut_bool Try.underlying4 _), (trodAll_cons_mk (Below.trod laidOut (by kernel_rfl) (of_decide_eq_true (by kernel_rfl)) k0 bel lt0) (trodAll_cons_mk (shut_int Try.underlying3 w1) trodAll_mk0)), rfl, bel.frame _, fun h => by cases h⟩

theorem over : Rows.ledgerEnoughRow.holds Try.pinned (OpenSpec.ofChange Rows.ledgerEnoughSpec) :=
  OpenClaim.holds_of_wide 12 Try.f12 rfl rfl rfl rfl rfl rfl rfl ⟨rfl, rfl, rfl, rfl, rfl⟩ rfl rfl rfl rfl rfl (by kernel_rfl) Try.func12 (by kernel_rfl)
    (of_decide_eq_true (by kernel_rfl)) (by unfold Func.isWrapper; first | (rw [if_pos (by decide +kernel)]; kernel_rfl) | (rw [if_neg (by decide +kernel)]; exact ⟨rfl, rfl⟩))
    (fun os started H enc _ => lifted os started H enc)

/-- THE STATEMENT -/
theorem proved : Rows.LedgerEnoughSaid := over
#print axioms proved
end Go.Proofs.Ytbkghiaafkmapaa.ledgerEnough
