/- godownlaw24.LedgerMore answers true for every pool of bulk at most 1048576 and all numbers. -/
import Derived.Test.YtbkghiaafkmapaaMore
import Derived.Test.YtbkghiaafkmapaaQuiet
namespace Go.Proofs.Ytbkghiaafkmapaa.ledgerMoreUpto
open Go.ChangeShapes Go.WideShapes Go.ChangeAt Go.RowKit

/-- the pool's box stands, and below the world's heap nothing has turned -/
structure PB (w : World) (cap : Int) (ta : Option Addr) (tn tc : Nat) (fa : Option Addr) (fn fc : Nat) (la : Option Addr) (ln lc : Nat) (W : World) : Prop where
  below : Below w.heap.size w W
  size : w.heap.size < W.heap.size
  c0 : W.cell? ⟨w.heap.size, 0, none⟩ = some (.int .i64 cap)
  c1 : W.cell? ⟨w.heap.size, 1, none⟩ = some (.slice ta tn tc)
  c2 : W.cell? ⟨w.heap.size, 2, none⟩ = some (.slice fa fn fc)
  c3 : W.cell? ⟨w.heap.size, 3, none⟩ = some (.slice la ln lc)
theorem PB.later {w W W' : World} {cap : Int} {ta fa la : Option Addr} {tn tc fn fc ln lc : Nat} (h : PB w cap ta tn tc fa fn fc la ln lc W) (hb : Below W.heap.size W W') : PB w cap ta tn tc fa fn fc la ln lc W' :=
  ⟨h.below.trans (hb.mono h.below.size), Nat.lt_of_lt_of_le h.size hb.size,
    by rw [hb.cell (p := ⟨w.heap.size, 0, none⟩) h.size]; exact h.c0, by rw [hb.cell (p := ⟨w.heap.size, 1, none⟩) h.size]; exact h.c1,
    by rw [hb.cell (p := ⟨w.heap.size, 2, none⟩) h.size]; exact h.c2, by rw [hb.cell (p := ⟨w.heap.size, 3, none⟩) h.size]; exact h.c3⟩

theorem within (sec : Int) : 0 ≤ (wrap64 (sec.tmod 8000 + 8000)).tmod 8000 ∧ (wrap64 (sec.tmod 8000 + 8000)).tmod 8000 < 8000 := by
  have h1 := Int.tmod_lt_of_pos sec (show (0 : Int) < 8000 by decide)
  have h2 : -8000 < sec.tmod 8000 := Int.lt_tmod_of_pos sec (by decide)
  rw [wrap_in (n := sec.tmod 8000 + 8000) (by unfold InR; omega)]
  exact ⟨Int.tmod_nonneg 8000 (by omega), Int.tmod_lt_of_pos _ (by decide)⟩
theorem within_n (at_ : Int) (n : Nat) (h0 : 0 < n) (hn : n ≤ 1048576) : ∃ k : Nat, (wrap64 (at_.tmod (n : Int) + (n : Int))).tmod (n : Int) = (k : Int) ∧ k < n := by
  have h1 := Int.tmod_lt_of_pos at_ (show (0 : Int) < (n : Int) by omega)
  have h2 : -(n : Int) < at_.tmod (n : Int) := Int.lt_tmod_of_pos at_ (by omega)
  rw [wrap_in (n := at_.tmod (n : Int) + (n : Int)) (by unfold InR; omega)]
  have h3 := Int.tmod_lt_of_pos (at_.tmod (n : Int) + (n : Int)) (show (0 : Int) < (n : Int) by omega)
  have h4 := Int.tmod_nonneg (n : Int) (show (0 : Int) ≤ at_.tmod (n : Int) + (n : Int) by omega)
  exact ⟨((at_.tmod (n : Int) + (n : Int)).tmod (n : Int)).toNat, by omega, by omega⟩
theorem within_g (by_ gap : Int) (h0 : 0 < gap) (hg : gap ≤ 1099511627777) : 0 ≤ (wrap64 (by_.tmod gap + gap)).tmod gap ∧ (wrap64 (by_.tmod gap + gap)).tmod gap < gap := by
  have h1 := Int.tmod_lt_of_pos by_ h0
  have h2 : -gap < by_.tmod gap := Int.lt_tmod_of_pos by_ h0
  rw [wrap_in (n := by_.tmod gap + gap) (by unfold InR; omega)]
  exact ⟨Int.tmod_nonneg gap (by omega), Int.tmod_lt_of_pos _ h0⟩

set_option maxRecDepth 100000 in
set_option maxHeartbeats 8000000 in
theorem walk (x : PoolD) (at_ by_ sec : Int) (w : World) (h : okPool w x) (hbk : bulkPool x ≤ 1048576) :
    Calls Try.prog 10 #[.agg #[.int .i64 x.capacity, .slice x.tenants.a x.tenants.l.length x.tenants.c, .slice x.forced.a x.forced.l.length x.forced.c, .slice x.log.a x.log.l.length x.log.c], .int .i64 at_, .int .i64 by_, .int .i64 sec] w fun e w' => e = .returned (.bool true) ∧ Below w.heap.size w w' := by
  obtain ⟨cap, ⟨ta, tc, tl⟩, ⟨fa, fc, fl⟩, ⟨la, lc, ll⟩⟩ := x
  obtain ⟨hr0, hr1⟩ := within sec
  have HS : Hid (∃ s, s = (wrap64 (sec.tmod 8000 + 8000)).tmod 8000) := ⟨_, rfl⟩
  obtain ⟨s, hs⟩ := HS.out
  rw [← hs] at hr0 hr1
  have hs1 : IntKind.i64.wrap (s + 1) = s + 1 := by rw [i64_wrap]; exact wrap_in (by unfold InR; omega)
  have hs2 : wrap64 (s + 1) = s + 1 := wrap_in (by unfold InR; omega)
  have hK1 := fun W => Capacity_any s W (by unfold InR; omega)
  have hK2 := fun W => Capacity_any (s + 1) W (by unfold InR; omega)
  have hcc : decide ((if 1602 ≤ s + 1 ∧ s + 1 ≤ 8192 then (s + 1 - 1602) / 48 else 0) < (if 1602 ≤ s ∧ s ≤ 8192 then (s - 1602) / 48 else 0)) = false := by
    refine decide_eq_false ?_
    split <;> split <;> omega
  generalize (if 1602 ≤ s + 1 ∧ s + 1 ≤ 8192 then (s + 1 - 1602) / 48 else 0) = c2 at *
  generalize (if 1602 ≤ s ∧ s ≤ 8192 then (s - 1602) / 48 else 0) = c1 at *
  have hA := fun W hW => Admit_any ⟨cap, ⟨ta, tc, tl⟩, ⟨fa, fc, fl⟩, ⟨la, lc, ll⟩⟩ W (okPool_below h hW)
  have HX := Lib.hid h
  obtain ⟨-, ht, hf, hl⟩ := h
  have htl := IsSl.len ht
  dsimp only at hA ht htl hf hl
  have hbt : (tl.map bulkTenant).sum ≤ 1048576 := by simp only [bulkPool, SliceV.bulk] at hbk; omega
  have hn : tl.length ≤ 1048576 := by
    refine Nat.le_trans ?_ hbt
    generalize tl = l
    induction l with
    | nil => simp
    | cons y r ih => simp only [List.length_cons, List.map_cons, List.sum_cons, bulkTenant]; omega
  have HBT := Lib.hid hbt
  have HAS : Hid (∀ {k : Nat} {y : TenantD} (q : Int), admitE cap tl = 0 → tl[k]? = some y → 0 ≤ q → q ≤ y.quota → wrap64 (tenChg y) ≤ q → admitE cap (tl.set k { y with quota := q }) = 0) := fun q h0 hk h1 h2 h3 => admit_set h0 hk q h1 h2 h3
  have HAP : Hid (admitE cap tl = 0 → amounts (quotas tl) = true ∧ ∃ t, sumUp (quotas tl) 0 = some t ∧ t ≤ cap ∧ ∀ x ∈ tl, fitsB x = true) := admit_parts
  generalize admitE cap tl = ad at *
  have HA := Lib.hid hA
  have HK1 := Lib.hid hK1
  have HK2 := Lib.hid hK2
  have HZ := Lib.hid hs
  have HT := Lib.hid ht
  have HF := Lib.hid hf
  have HL := Lib.hid hl
  clear hA hK1 hK2 hs ht hf hl hbt hbk
  have HB0 : Hid (PB w cap ta tl.length tc fa fl.length fc la ll.length lc (w.alloc (.cells #[.int .i64 cap, .slice ta tl.length tc, .slice fa fl.length fc, .slice la ll.length lc] 72))) := ⟨(Below.refl _ _).alloc (Nat.le_refl _) _, by simp, by go_simp, by go_simp, by go_simp, by go_simp⟩
  by_cases h0 : ad = 0
  · subst h0
    by_cases hz : tl.length = 0
    · obtain rfl : tl = [] := List.eq_nil_of_length_eq_zero hz
      simp only [List.length_nil] at HA HB0 htl hn ⊢
      clear hz HAS HAP HX HBT HT
      go_enter Try.func10, Try.ntmps10
      go_wp2_with (go_at_call 39; refine (alive24 _).mono ?_; rintro e w' ⟨rfl, rfl⟩)
      rw [← HZ.out]
      refine (HK1.out _).mono ?_
      rintro e w1 ⟨rfl, rfl⟩
      go_wp2_with (go_at_call 40; refine (HK2.out _).mono ?_; rintro e w' ⟨rfl, rfl⟩)
      refine (HA.out _ HB0.out.below).mono ?_
      rintro e w1 ⟨rfl, hb⟩
      have HB1 := Lib.hid (HB0.out.later hb)
      clear hb
      obtain ⟨-, -, c0, c1, c2, c3⟩ := HB1.out
      go_wp2_with fail
      go_ret
      exact ⟨rfl, HB1.out.below⟩
    · have dz : ((tl.length : Int) == 0) = false := beq_eq_false_iff_ne.2 (by omega)
      have dzn : (tl.length : Int) ≠ 0 := by omega
      obtain ⟨k, hk, hkn⟩ := within_n at_ tl.length (by omega) hn
      have HKK := Lib.hid hk
      clear hk
      go_enter Try.func10, Try.ntmps10
      go_wp2_with (go_at_call 39; refine (alive24 _).mono ?_; rintro e w' ⟨rfl, rfl⟩)
      rw [← HZ.out]
      refine (HK1.out _).mono ?_
      rintro e w1 ⟨rfl, rfl⟩
      go_wp2_with (go_at_call 40; refine (HK2.out _).mono ?_; rintro e w' ⟨rfl, rfl⟩)
      refine (HA.out _ HB0.out.below).mono ?_
      rintro e w1 ⟨rfl, hb⟩
      have HB1 := Lib.hid (HB0.out.later hb)
      clear hb
      obtain ⟨-, -, c0, c1, c2, c3⟩ := HB1.out
      go_wp2_with fail
      clear c0 c1 c2 c3
      have HAT : Hid (At w1 [(w.heap.size, 1, .slice ta tl.length tc)]) := At.cons HB1.out.size HB1.out.c1 (At.nil _)
      refine region_C (by kernel_rfl) (by kernel_rfl) (Cls.start HAT.out) ?_
      repeat (first | go_big_quiet_skip | (go_big_quiet_want; (first | (apply q_val; (· (rintro w' ⟨hA, -⟩; have c0 := hA.hd; clear hA; go_simp; try rfl)))); simp only [Act.put, List.setIfInBounds_toArray, List.set_cons_zero, List.set_cons_succ]; go_big_quiet_on))
      refine wpQuiet_nil ?_
      intro w2 hC2
      have HB2 := Lib.hid (HB1.out.later hC2.2)
      clear hC2 HAT HB1
      rw [show (IntKind.i64.wrap (at_.tmod (tl.length : Int) + (tl.length : Int))).tmod (tl.length : Int) = (k : Int) by rw [i64_wrap]; exact HKK.out]
      obtain ⟨y, b, off, hy, hya, hyb, -, -, -, -, -, -, -, hyo⟩ := HT.out.get (show k < tl.length by omega)
      subst hya
      have HY := Lib.hid hy
      have HYO := Lib.hid hyo
      clear hy hyo
      obtain ⟨-, gz, c0, c1, c2, c3⟩ := HB2.out
      have gne : w2.heap.size ≠ w.heap.size := by omega
      have gne' : w.heap.size ≠ w2.heap.size := by omega
      have hB3 := HB2.out.later (((Below.refl _ _).alloc (Nat.le_refl _) (.cells #[.int .i64 cap, .slice (some ⟨b, off, none⟩) tl.length tc, .slice fa fl.length fc, .slice la ll.length lc] 72)).alloc (by simp) (.cells #[] 53))
      have c1' := hB3.c1
      obtain ⟨i0, hi, hz0, hz1, hz2⟩ := info_parts info53
      have HI := Lib.hid (And.intro hi (And.intro hz0 (And.intro hz1 hz2)))
      have HOW : Hid (((w2.alloc (.cells #[.int .i64 cap, .slice (some ⟨b, off, none⟩) tl.length tc, .slice fa fl.length fc, .slice la ll.length lc] 72)).alloc (.cells #[] 53)).ownsRow (w2.heap.size + 1) 53 7 (.slice (some ⟨w2.heap.size + 1, 0, none⟩) 0 0) 0 []) := ownsRow_none (Nat.le_refl _) (by have hh := heap_alloc_new (w2.alloc (.cells #[.int .i64 cap, .slice (some ⟨b, off, none⟩) tl.length tc, .slice fa fl.length fc, .slice la ll.length lc] 72)) (.cells #[] 53); simp only [World.alloc, Array.size_push] at hh ⊢; exact hh)
      have HNEWS : Hid (∀ (j : Nat) (u : Value), (tl.flatMap cellsTenant)[j]? = some u → ((w2.alloc (.cells #[.int .i64 cap, .slice (some ⟨b, off, none⟩) tl.length tc, .slice fa fl.length fc, .slice la ll.length lc] 72)).alloc (.cells #[] 53)).cell? ((⟨b, off, none⟩ : Addr).add j) = some u) := tenants_news (HT.out.below hB3.below)
      have HB3 := Lib.hid hB3
      clear hi hz0 hz1 hz2 hB3
      go_wp2_with (at_builtin; refine wpList_append_lies _ (by rfl) _ _ 70 (by rfl) (w2.heap.size + 1) 53 i0 _ 7 128 Try.underlying70 HI.out.1 HI.out.2.1 HI.out.2.2.1 HI.out.2.2.2 (by rfl) (by decide) _ 0 [] (by rfl) HOW.out ⟨b, off, none⟩ tl.length tc (tl.flatMap cellsTenant) (by rfl) (flat_length lenTen tl) HNEWS.out ?c1 (by omega) ?c3 ?c4 ?c5 (w2.heap.size + 1 + 1) (by simp) ?_)
      case c1 => exact cells_one tl
      case c3 => unfold maxLen; omega
      case c4 => omega
      case c5 => simp
      intro g cap' w3 hown hgrow hat hgl
      obtain ⟨hgb, -, hrow⟩ := owned_cell hown
      have hz3 : w2.heap.size + 2 ≤ w3.heap.size := by have := hgrow.size; simpa using this
      have hq0 : w3.cell? ⟨w2.heap.size, 0, none⟩ = some (.int .i64 cap) := by rw [hgrow.cell_far ⟨w2.heap.size, 0, none⟩ (by simp; omega) (by simp [Value.ownBlock])]; go_simp
      have hq1 : w3.cell? ⟨w2.heap.size, 1, none⟩ = some (.slice (some ⟨b, off, none⟩) tl.length tc) := by rw [hgrow.cell_far ⟨w2.heap.size, 1, none⟩ (by simp; omega) (by simp [Value.ownBlock])]; go_simp
      have hq2 : w3.cell? ⟨w2.heap.size, 2, none⟩ = some (.slice fa fl.length fc) := by rw [hgrow.cell_far ⟨w2.heap.size, 2, none⟩ (by simp; omega) (by simp [Value.ownBlock])]; go_simp
      have hq3 : w3.cell? ⟨w2.heap.size, 3, none⟩ = some (.slice la ll.length lc) := by rw [hgrow.cell_far ⟨w2.heap.size, 3, none⟩ (by simp; omega) (by simp [Value.ownBlock])]; go_simp
      have hf1 : w3.frozen? ⟨w2.heap.size, 1, none⟩ = false := by
        rw [hgrow.frozen_far ⟨w2.heap.size, 1, none⟩ (by simp; omega) (by simp [Value.ownBlock])]
        first | go_simp | simp [World.frozen?, World.alloc]
      have hbw3 : Below w.heap.size w w3 := HB3.out.below.grown hgrow (by simp; omega) (fun q hq => by simp [Value.ownBlock] at hq; omega)
      have hgne : g ≠ w2.heap.size := by omega
      have hB4 : QB w w2.heap.size g cap' cap tl fa fl.length fc la ll.length lc (w3.setCell ⟨w2.heap.size, 1, none⟩ (.slice (some ⟨g, 0, none⟩) tl.length cap')) := QB.start hbw3 gz (by omega) hgl hgne hq0 hq1 hq2 hq3 hrow
      have HB4 := Lib.hid hB4
      clear hB4 hown hgrow hat c0 c1 c2 c3 c1' HNEWS HOW HI HB3
      obtain ⟨hqm0, hqm⟩ : 0 ≤ y.quota ∧ y.quota ≤ 1099511627776 := amounts_get (HAP.out (by trivial)).1 (k := k) (by simp [quotas, HY.out])
      obtain ⟨-, t, hst, htc, hfit⟩ := HAP.out (by trivial)
      have hfy : wrap64 (tenChg y) ≤ y.quota := by have := hfit y (List.mem_of_getElem? HY.out); simpa [fitsB] using this
      have hch : 0 ≤ wrap64 (tenChg y) := by
        have h1 := tenChg_bulk y
        have h2 := Nat.le_trans (bulk_mem (f := bulkTenant) (List.mem_of_getElem? HY.out)) HBT.out
        rw [wrap_in (by unfold InR; omega)]
        exact h1.1
      have hC := refCharge_any y _ (okTenant_below HYO.out HB4.out.below)
      have HNEW := Lib.hid (fun q h1 h2 h3 => HAS.out (y := y) q (by trivial) HY.out h1 h2 h3)
      generalize wrap64 (tenChg y) = ch at *
      have HC := Lib.hid hC
      clear hC hst htc hfit t HAS HAP
      obtain ⟨-, -, -, s0, s1, s2, s3, -⟩ := HB4.out
      have r0 := (HB4.out.row (k * 7 + 0) (.string y.name) (flat_at lenTen tl k 0 y _ HY.out rfl)).1
      have r1 := (HB4.out.row (k * 7 + 1) (.int .i64 y.quota) (flat_at lenTen tl k 1 y _ HY.out rfl)).1
      have r2 := (HB4.out.row (k * 7 + 2) (.int .i64 y.next) (flat_at lenTen tl k 2 y _ HY.out rfl)).1
      have r3 := (HB4.out.row (k * 7 + 3) (.slice y.sets.a y.sets.l.length y.sets.c) (flat_at lenTen tl k 3 y _ HY.out rfl)).1
      have r4 := (HB4.out.row (k * 7 + 4) (.slice y.grants.a y.grants.l.length y.grants.c) (flat_at lenTen tl k 4 y _ HY.out rfl)).1
      have r5 := (HB4.out.row (k * 7 + 5) (.slice y.stages.a y.stages.l.length y.stages.c) (flat_at lenTen tl k 5 y _ HY.out rfl)).1
      have r6 := (HB4.out.row (k * 7 + 6) (.slice y.log.a y.log.l.length y.log.c) (flat_at lenTen tl k 6 y _ HY.out rfl)).1
      simp only [Nat.add_zero] at r0
      have hkl : (k : Int) < (tl.length : Int) := by omega
      have hk0 : (0 : Int) ≤ (k : Int) := by omega
      have hg1 : IntKind.i64.wrap (y.quota - ch) = y.quota - ch := by rw [i64_wrap]; exact wrap_in (by unfold InR; omega)
      have hg2 : IntKind.i64.wrap (y.quota - ch + 1) = y.quota - ch + 1 := by rw [i64_wrap]; exact wrap_in (by unfold InR; omega)
      go_wp2_with fail
      refine HC.out.mono ?_
      rintro e w5 ⟨rfl, hb⟩
      have HB5 := Lib.hid (HB4.out.later hb)
      clear hb s0 s1 s2 s3 r0 r1 r2 r3 r4 r5 r6
      obtain ⟨-, -, -, s0, s1, s2, s3, -⟩ := HB5.out
      obtain ⟨r1, f1⟩ := HB5.out.row (k * 7 + 1) (.int .i64 y.quota) (flat_at lenTen tl k 1 y _ HY.out rfl)
      have gnz : y.quota - ch + 1 ≠ 0 := by omega
      have gnz' : ((y.quota - ch + 1) == 0) = false := beq_eq_false_iff_ne.2 gnz
      go_wp2_with fail
      go_region_with (fail)
      all_goals
        obtain ⟨hr, hr'⟩ := within_g by_ (y.quota - ch + 1) (by omega) (by omega)
        have hE : IntKind.i64.wrap (y.quota - (IntKind.i64.wrap (by_.tmod (y.quota - ch + 1) + (y.quota - ch + 1))).tmod (y.quota - ch + 1)) = y.quota - (wrap64 (by_.tmod (y.quota - ch + 1) + (y.quota - ch + 1))).tmod (y.quota - ch + 1) := by
          rw [i64_wrap, i64_wrap]; exact wrap_in (by unfold InR; omega)
        rw [hE]
        clear hE
        generalize (wrap64 (by_.tmod (y.quota - ch + 1) + (y.quota - ch + 1))).tmod (y.quota - ch + 1) = rr at *
        obtain ⟨nq, hnq⟩ : ∃ nq, nq = y.quota - rr := ⟨_, rfl⟩
        rw [← hnq]
        have hgw : w.heap.size ≤ g := by omega
        have hbS := HB5.out.below.setCell (p := ⟨g, k * 7 + 1, none⟩) hgw (.int .i64 nq)
        have hts := (tenants_set (cap := cap') HB5.out.glt (fun j u hj => (HB5.out.row j u hj).1) HY.out (q := nq) (by unfold InR; omega) htl (fun x hx => by obtain ⟨i, hi⟩ := List.getElem?_of_mem hx; exact okTenant_below (IsSl.at' HT.out i x hi).2 hbS)).below (Below.refl _ _).drew
        have hdr : Below w.heap.size w (w5.setCell ⟨g, k * 7 + 1, none⟩ (.int .i64 nq)).drew := hbS.drew
        have v0 : (w5.setCell ⟨g, k * 7 + 1, none⟩ (.int .i64 nq)).drew.cell? ⟨w2.heap.size, 0, none⟩ = some (.int .i64 cap) := by
          rw [(Below.refl (w2.heap.size + 1) (w5.setCell ⟨g, k * 7 + 1, none⟩ (.int .i64 nq))).drew.cell (p := ⟨w2.heap.size, 0, none⟩) (Nat.lt_succ_self _), World.cell?_setCell_other _ _ _ _ (by intro e; simp at e; try omega)]; exact s0
        have v1 : (w5.setCell ⟨g, k * 7 + 1, none⟩ (.int .i64 nq)).drew.cell? ⟨w2.heap.size, 1, none⟩ = some (.slice (some ⟨g, 0, none⟩) tl.length cap') := by
          rw [(Below.refl (w2.heap.size + 1) (w5.setCell ⟨g, k * 7 + 1, none⟩ (.int .i64 nq))).drew.cell (p := ⟨w2.heap.size, 1, none⟩) (Nat.lt_succ_self _), World.cell?_setCell_other _ _ _ _ (by intro e; simp at e; try omega)]; exact s1
        have v2 : (w5.setCell ⟨g, k * 7 + 1, none⟩ (.int .i64 nq)).drew.cell? ⟨w2.heap.size, 2, none⟩ = some (.slice fa fl.length fc) := by
          rw [(Below.refl (w2.heap.size + 1) (w5.setCell ⟨g, k * 7 + 1, none⟩ (.int .i64 nq))).drew.cell (p := ⟨w2.heap.size, 2, none⟩) (Nat.lt_succ_self _), World.cell?_setCell_other _ _ _ _ (by intro e; simp at e; try omega)]; exact s2
        have v3 : (w5.setCell ⟨g, k * 7 + 1, none⟩ (.int .i64 nq)).drew.cell? ⟨w2.heap.size, 3, none⟩ = some (.slice la ll.length lc) := by
          rw [(Below.refl (w2.heap.size + 1) (w5.setCell ⟨g, k * 7 + 1, none⟩ (.int .i64 nq))).drew.cell (p := ⟨w2.heap.size, 3, none⟩) (Nat.lt_succ_self _), World.cell?_setCell_other _ _ _ _ (by intro e; simp at e; try omega)]; exact s3
        generalize (w5.setCell ⟨g, k * 7 + 1, none⟩ (.int .i64 nq)).drew = W6 at *
        have hA2 := Admit_any ⟨cap, ⟨some ⟨g, 0, none⟩, cap', tl.set k { y with quota := nq }⟩, ⟨fa, fc, fl⟩, ⟨la, lc, ll⟩⟩ W6 ⟨HX.out.1, hts, HF.out.below hdr, HL.out.below hdr⟩
        have had := HNEW.out nq (by omega) (by omega) (by omega)
        simp only [List.length_set] at hA2
        rw [had] at hA2
        have HA2 := Lib.hid hA2
        have HDR := Lib.hid hdr
        clear hA2 had hts hbS hdr HNEW r1 f1 s0 s1 s2 s3
        go_wp2_with fail
        refine HA2.out.mono ?_
        rintro e w7 ⟨rfl, hb⟩
        have HB7 := Lib.hid (HDR.out.trans (hb.mono HDR.out.size))
        clear hb
        go_wp2_with fail
        go_ret
        exact ⟨rfl, HB7.out⟩
  · have hne : (ad != 0) = true := by simpa using h0
    clear h0
    go_enter Try.func10, Try.ntmps10
    go_wp2_with (go_at_call 39; refine (alive24 _).mono ?_; rintro e w' ⟨rfl, rfl⟩)
    rw [← HZ.out]
    refine (HK1.out _).mono ?_
    rintro e w1 ⟨rfl, rfl⟩
    go_wp2_with (go_at_call 40; refine (HK2.out _).mono ?_; rintro e w' ⟨rfl, rfl⟩)
    refine (HA.out _ HB0.out.below).mono ?_
    rintro e w1 ⟨rfl, hb⟩
    have HB1 := Lib.hid (HB0.out.later hb)
    clear hb
    go_wp2_with fail
    go_ret
    exact ⟨rfl, HB1.out.below⟩

set_option maxRecDepth 100000 in
theorem contract (H : Type) (enc : TypeId × Value → H) (W : World) (base : Nat) (args : Array Value) (ds gs : List (DataW H)) (before : List MemPlace)
    (hval0 : ∀ (j : Nat) t v, Try.f10.params[j]? = some t → args[j]? = some v → Value.okWide Try.prog W .any base t v)
    (hW : DataW.Whole enc Try.prog Try.f10.params.toList Rows.ledgerMoreSpec.vars false W args.toList ds gs before) (hk : Rows.uptoSmall H (ds ++ gs) = true)
    (hsz : (DataW.weightsEach Try.prog (Try.f10.params.toList ++ (Rows.OpenSpec.upto Rows.ledgerMoreSpec).bare.plain.varTypes Try.prog) (ds ++ gs)).all (· ≤ reachBytes) = true) :
    Calls Try.prog 10 args W fun e W' => ∃ v, e = .returned v ∧ Rows.ledgerMoreSpec.post enc Try.prog Try.f10 false true false false W args v W' := by
  have hval : ∀ (j : Nat) t v, Try.f10.params[j]? = some t → args[j]? = some v → Value.okWide Try.prog W .any base t v := hval0
  have hW' := hW
  obtain ⟨p, q, hA0, hV, rfl, hfz, hnd⟩ := hW
  have hA : DataW.TrodAll enc Try.prog W 0 (fun _ => true) true Try.f10.params.toList args.toList ds p := hA0
  rw [Try.params10] at hA hval
  obtain ⟨v0, vs0, d0, ds0, p0, q0, hargs, rfl, rfl, h0, r0⟩ := trodAll_cons hA
  obtain ⟨v1, vs1, d1, ds1, p1, q1, rfl, rfl, rfl, h1, r1⟩ := trodAll_cons r0
  obtain ⟨v2, vs2, d2, ds2, p2, q2, rfl, rfl, rfl, h2, r2⟩ := trodAll_cons r1
  obtain ⟨v3, vs3, d3, ds3, p3, q3, rfl, rfl, rfl, h3, r3⟩ := trodAll_cons r2
  obtain ⟨rfl, rfl, rfl⟩ := trodAll_nil r3
  obtain rfl : args = #[v0, v1, v2, v3] := by cases args; simp_all
  obtain ⟨rfl, rfl⟩ := trodVars_none hV
  have k0 := h0
  have lt0 : ∀ x ∈ p0, x.block < W.heap.size := by obtain ⟨m, hm⟩ := k0; exact DataW.trod_lt m _ _ _ hm
  have hwt := fun n hn => of_decide_eq_true (List.all_eq_true.1 hsz n hn)
  obtain ⟨x0, rfl, o0, b0⟩ := agg_in reads_Pool (let ⟨cs, hc, _⟩ := okWide_struct Try.underlying72 (hval 0 72 v0 rfl rfl); ⟨cs, hc⟩) h0 (fun n hn => (hwt n (DataW.weights_mem_each (j := 0) rfl rfl n hn)))
  obtain ⟨a1, rfl, rfl, rfl, w1⟩ := open_int Try.underlying3 (hval 1 3 v1 rfl rfl) h1
  obtain ⟨a2, rfl, rfl, rfl, w2⟩ := open_int Try.underlying3 (hval 2 3 v2 rfl rfl) h2
  obtain ⟨a3, rfl, rfl, rfl, w3⟩ := open_int Try.underlying3 (hval 3 3 v3 rfl rfl) h3
  clear hA0 hval0
  have hbk : bulkPool x0 ≤ 1048576 := by
    have h := of_decide_eq_true hk
    simp only [List.append_nil, Rows.uptoBulkAll, Rows.uptoBulk] at h
    omega
  refine (walk x0 a1 a2 a3 W o0 hbk).mono fun e W' ⟨he, bel⟩ => ?_
  subst he
  exact ⟨_, rfl, _, _, _, [], _, [], hW', trodAll_mk1 (shut_bool Try.underlying4 _), (trodAll_cons_mk (Below.trod laidOut (by kernel_rfl) (of_decide_eq_true (by kernel_rfl)) k0 bel lt0) (trodAll_cons_mk (shut_int Try.underlying3 w1) (trodAll_cons_mk (shut_int Try.underlying3 w2) (trodAll_cons_mk (shut_int Try.underlying3 w3) trodAll_mk0)))), rfl, bel.frame _, fun h => by cases h⟩

set_option maxRecDepth 100000 in
theorem lifted (os : Os) (started : os.Started) (H : Type) (enc : TypeId × Value → H) (F : Stop.Interp) :
    ReturnsInHanded {} Try.checked os 10 .any ((Rows.OpenSpec.upto Rows.ledgerMoreSpec).pre6 enc Try.prog Try.f10 Rows.ledgerMoreUptoRow.domain false) (((Rows.OpenSpec.upto Rows.ledgerMoreSpec).at F).post enc Try.prog Try.f10 false true false false) := by
  refine returnsInHanded_of_cond_sized (C := Try.checked) (s := Rows.OpenSpec.upto Rows.ledgerMoreSpec) (k := Rows.uptoSmall) rfl own started (by kernel_rfl) Try.func10
    (OpenSpec.witness (enc := enc) (C := Try.checked) (s := Rows.OpenSpec.upto Rows.ledgerMoreSpec) (k := Rows.uptoSmall) rfl false ⟨#[], #[.agg #[.int .i64 0, .slice none 0 0, .slice none 0 0, .slice none 0 0], .int .i64 0, .int .i64 0, .int .i64 0], []⟩ 8 (by kernel_rfl) (by kernel_rfl) (by kernel_rfl)
      (x := ([.agg [.lit (.int .i64 0), .nil, .nil, .nil], .lit (.int .i64 0), .lit (.int .i64 0), .lit (.int .i64 0)], [], [])) (by kernel_rfl) rfl (by kernel_rfl)) ?_
  intro W base args ds gs before hval hW _ hk hsz _
  exact contract H enc W base args ds gs before hval hW hk hsz

theorem over : Rows.ledgerMoreUptoRow.holds Try.pinned (Rows.OpenSpec.upto Rows.ledgerMoreSpec) :=
  OpenClaim.holds_of_cond 10 Try.f10 rfl rfl rfl rfl rfl rfl rfl ⟨rfl, rfl, rfl, rfl, rfl⟩ rfl rfl rfl rfl rfl (by kernel_rfl) Try.func10 (by kernel_rfl)
    (of_decide_eq_true (by kernel_rfl)) (by unfold Func.isWrapper; first | (rw [if_pos (by decide +kernel)]; kernel_rfl) | (rw [if_neg (by decide +kernel)]; exact ⟨rfl, rfl⟩))
    (fun os started H enc _ F => lifted os started H enc F)

/-- THE STATEMENT -/
theorem proved : Rows.LedgerMoreUptoSaid := over
#print axioms proved
end Go.Proofs.Ytbkghiaafkmapaa.ledgerMoreUpto
