/- godownlaw24.LedgerTells answers true for every pool and every number of sectors. No condition. -/
import Derived.Test.YtbkghiaafkmapaaLedger3
import Derived.Test.YtbkghiaafkmapaaQuiet
namespace Go.Proofs.Ytbkghiaafkmapaa.ledgerTells
open Go.ChangeShapes Go.WideShapes Go.ChangeAt Go.RowKit

/-- the pool's box stands, and below the world's heap nothing has turned -/
structure PB (w : World) (cap : Int) (ta : Option Addr) (tn tc : Nat) (fa : Option Addr) (fn fc : Nat) (la : Option Addr) (ln lc : Nat) (W : World) : Prop where
  below : Below w.heap.size w W
  size : w.heap.size < W.heap.size
  c0 : W.cell? ⟨w.heap.size, 0, none⟩ = some (.int .i64 cap)
  c1 : W.cell? ⟨w.heap.size, 1, none⟩ = some (.slice ta tn tc)
  c2 : W.cell? ⟨w.heap.size, 2, none⟩ = some (.slice fa fn fc)
  c3 : W.cell? ⟨w.heap.size, 3, none⟩ = some (.slice la ln lc)
theorem PB.later {w W W' : World} {cap : Int} {ta fa la : Option Addr} {tn tc fn fc ln lc : Nat} (h : PB w cap ta tn tc fa fn fc la ln lc W) (hb : Below W.heap.size W W') : PB w cap ta tn tc fa fn fc la ln lc W' :=
  ⟨h.below.trans (hb.mono h.below.size), Nat.lt_of_lt_of_le h.size hb.size,
    by rw [hb.cell (p := ⟨w.heap.size, 0, none⟩) h.size]; exact h.c0, by rw [hb.cell (p := ⟨w.heap.size, 1, none⟩) h.size]; exact h.c1,
    by rw [hb.cell (p := ⟨w.heap.size, 2, none⟩) h.size]; exact h.c2, by rw [hb.cell (p := ⟨w.heap.size, 3, none⟩) h.size]; exact h.c3⟩

set_option maxRecDepth 100000 in
set_option maxHeartbeats 4000000 in
theorem walk (x : PoolD) (sec : Int) (hsec : InR sec) (w : World) (h : okPool w x) :
    Calls Try.prog 11 #[.agg #[.int .i64 x.capacity, .slice x.tenants.a x.tenants.l.length x.tenants.c, .slice x.forced.a x.forced.l.length x.forced.c, .slice x.log.a x.log.l.length x.log.c], .int .i64 sec] w fun e w' => e = .returned (.bool true) ∧ Below w.heap.size w w' := by
  obtain ⟨cap, ⟨ta, tc, tl⟩, ⟨fa, fc, fl⟩, ⟨la, lc, ll⟩⟩ := x
  have hPm := fun W hW => Promised_any ⟨cap, ⟨ta, tc, tl⟩, ⟨fa, fc, fl⟩, ⟨la, lc, ll⟩⟩ W (okPool_below h hW)
  have hLw := fun W hW => lawPromised_any ⟨cap, ⟨ta, tc, tl⟩, ⟨fa, fc, fl⟩, ⟨la, lc, ll⟩⟩ W (okPool_below h hW)
  have hBo := fun W hW => Bound_any ⟨cap, ⟨ta, tc, tl⟩, ⟨fa, fc, fl⟩, ⟨la, lc, ll⟩⟩ W (okPool_below h hW)
  have hAd := fun W hW => Admit_any ⟨cap, ⟨ta, tc, tl⟩, ⟨fa, fc, fl⟩, ⟨la, lc, ll⟩⟩ W (okPool_below h hW)
  have hEn := fun W hW => Enough_any ⟨cap, ⟨ta, tc, tl⟩, ⟨fa, fc, fl⟩, ⟨la, lc, ll⟩⟩ sec hsec W (okPool_below h hW)
  obtain ⟨-, ht, -, -⟩ := h
  have htl := IsSl.len ht
  dsimp only at hPm hLw hBo hAd hEn ht htl ⊢
  obtain ⟨hn0, hn1⟩ := addN_range (quotas tl)
  have HBn : Hid (boundN (quotas tl) = if addE (quotas tl) = 0 then 800 + 24 * addN (quotas tl) else 0) := rfl
  have HAd0 : Hid (admitE cap tl = if addE (quotas tl) = 0 then (if cap < addN (quotas tl) then 17 else if tl.all fitsB then 0 else 42) else addE (quotas tl)) := rfl
  have HRes : Hid (enoughB (quotas tl) sec = decide (addE (quotas tl) = 0 ∧ 2 ≤ sec ∧ 800 + 24 * addN (quotas tl) ≤ (sec - 2) / 2)) := rfl
  generalize enoughB (quotas tl) sec = res at *
  generalize admitE cap tl = ad at *
  generalize boundN (quotas tl) = bn at *
  generalize addN (quotas tl) = n at *
  generalize addE (quotas tl) = er at *
  have HPm := Lib.hid hPm
  have HLw := Lib.hid hLw
  have HBo := Lib.hid hBo
  have HAd := Lib.hid hAd
  have HEn := Lib.hid hEn
  have HT := Lib.hid ht
  clear hPm hLw hBo hAd hEn ht
  have HB0 : Hid (PB w cap ta tl.length tc fa fl.length fc la ll.length lc (w.alloc (.cells #[.int .i64 cap, .slice ta tl.length tc, .slice fa fl.length fc, .slice la ll.length lc] 72))) := ⟨(Below.refl _ _).alloc (Nat.le_refl _) _, by simp, by go_simp, by go_simp, by go_simp, by go_simp⟩
  by_cases h1 : 1602 ≤ sec
  · by_cases h2 : sec ≤ 8192
    · have d1 : decide (1602 ≤ sec) = true := decide_eq_true h1
      have d2 : decide (sec ≤ 8192) = true := decide_eq_true h2
      have HCap := Lib.hid (fun W => (show Calls Try.prog 40 #[.int .i64 sec] W fun e w' => e = .returned (.int .i64 ((sec - 1602) / 48)) ∧ W = w' by have h := Capacity_any sec W hsec; rw [if_pos ⟨h1, h2⟩] at h; exact h))
      unfold InR at hsec
      go_enter Try.func11, Try.ntmps11
      go_wp2_with fail
      refine (HPm.out _ HB0.out.below).mono ?_
      rintro e w1 ⟨rfl, hb⟩
      have HB1 := Lib.hid (HB0.out.later hb)
      clear hb
      obtain ⟨-, -, c0, c1, c2, c3⟩ := HB1.out
      go_wp2_with fail
      refine (HLw.out _ HB1.out.below).mono ?_
      rintro e w2 ⟨rfl, hb⟩
      have HB2 := Lib.hid (HB1.out.later hb)
      clear hb
      clear c0 c1 c2 c3
      obtain ⟨-, -, c0, c1, c2, c3⟩ := HB2.out
      go_wp2_with fail
      refine (HBo.out _ HB2.out.below).mono ?_
      rintro e w3 ⟨rfl, hb⟩
      have HB3 := Lib.hid (HB2.out.later hb)
      clear hb
      clear c0 c1 c2 c3
      obtain ⟨-, -, c0, c1, c2, c3⟩ := HB3.out
      go_wp2_with fail
      clear c0 c1 c2 c3
      go_loopg [12, 13] tl.length (fun g fv i wr => ∃ (k : Nat) (f : Int), k + g = tl.length ∧ i = .int .i64 k ∧ fv = .int .i64 f ∧ Aside ((if (tl.drop k).all fitsB then f else 42) = if tl.all fitsB then 0 else 42) ∧ PB w cap ta tl.length tc fa fl.length fc la ll.length lc wr)
      case atStart => exact ⟨0, 0, by omega, rfl, rfl, rfl, HB3.out⟩
      case round =>
        obtain ⟨k, f, hkg, rfl, rfl, HS, hP⟩ := hrel
        have HPr := Lib.hid hP
        clear hP HB1 HB2 HB3
        cases gk with
        | zero =>
          have hlt : ¬ ((k : Int) < (tl.length : Int)) := by omega
          have HF := Lib.hid (show f = if tl.all fitsB then 0 else 42 by have h1 := HS.out; rw [List.drop_of_length_le (by omega)] at h1; simpa using h1)
          have c0 := HPr.out.c0
          have c1 := HPr.out.c1
          have c2 := HPr.out.c2
          have c3 := HPr.out.c3
          by_cases he : er = 0
          · subst he
            by_cases hn : cap < n
            · have dn : decide (cap < n) = true := decide_eq_true hn
              obtain rfl : ad = 17 := by rw [HAd0.out, if_pos rfl, if_pos hn]
              obtain rfl : bn = 800 + 24 * n := by rw [HBn.out, if_pos rfl]
              go_wp2_with (first | (go_at_call 45; refine (num24_any _ _).mono ?_; rintro e w' ⟨rfl, rfl⟩) | (go_at_call 40; refine (HCap.out _).mono ?_; rintro e w' ⟨rfl, rfl⟩) | (go_at_call 39; refine (alive24 _).mono ?_; rintro e w' ⟨rfl, rfl⟩))
              refine (HAd.out _ HPr.out.below).mono ?_
              rintro e w5 ⟨rfl, hb⟩
              have HB5 := Lib.hid (HPr.out.later hb)
              clear hb
              clear c0 c1 c2 c3
              by_cases h2 : 2 ≤ sec
              · have d2 : decide (2 ≤ sec) = true := decide_eq_true h2
                by_cases h3 : 800 + 24 * n ≤ (sec - 2) / 2
                · have d3 : decide (800 + 24 * n ≤ (sec - 2) / 2) = true := decide_eq_true h3
                  obtain rfl : res = true := by rw [HRes.out]; exact decide_eq_true ⟨by trivial, h2, h3⟩
                  obtain ⟨-, -, c0, c1, c2, c3⟩ := HB5.out
                  go_wp2_with (first | (go_at_call 45; refine (num24_any _ _).mono ?_; rintro e w' ⟨rfl, rfl⟩) | (go_at_call 40; refine (HCap.out _).mono ?_; rintro e w' ⟨rfl, rfl⟩) | (go_at_call 39; refine (alive24 _).mono ?_; rintro e w' ⟨rfl, rfl⟩))
                  refine (HEn.out _ HB5.out.below).mono ?_
                  rintro e w6 ⟨rfl, hb⟩
                  have HB6 := Lib.hid (HB5.out.later hb)
                  clear hb c0 c1 c2 c3
                  go_wp2_with (first | (go_at_call 45; refine (num24_any _ _).mono ?_; rintro e w' ⟨rfl, rfl⟩) | (go_at_call 40; refine (HCap.out _).mono ?_; rintro e w' ⟨rfl, rfl⟩) | (go_at_call 39; refine (alive24 _).mono ?_; rintro e w' ⟨rfl, rfl⟩))
                  all_goals
                    go_ret
                    exact ⟨rfl, HB6.out.below⟩
                · have d3 : decide (800 + 24 * n ≤ (sec - 2) / 2) = false := decide_eq_false h3
                  obtain rfl : res = false := by rw [HRes.out]; exact decide_eq_false fun hh => h3 hh.2.2
                  obtain ⟨-, -, c0, c1, c2, c3⟩ := HB5.out
                  go_wp2_with (first | (go_at_call 45; refine (num24_any _ _).mono ?_; rintro e w' ⟨rfl, rfl⟩) | (go_at_call 40; refine (HCap.out _).mono ?_; rintro e w' ⟨rfl, rfl⟩) | (go_at_call 39; refine (alive24 _).mono ?_; rintro e w' ⟨rfl, rfl⟩))
                  refine (HEn.out _ HB5.out.below).mono ?_
                  rintro e w6 ⟨rfl, hb⟩
                  have HB6 := Lib.hid (HB5.out.later hb)
                  clear hb c0 c1 c2 c3
                  go_wp2_with (first | (go_at_call 45; refine (num24_any _ _).mono ?_; rintro e w' ⟨rfl, rfl⟩) | (go_at_call 40; refine (HCap.out _).mono ?_; rintro e w' ⟨rfl, rfl⟩) | (go_at_call 39; refine (alive24 _).mono ?_; rintro e w' ⟨rfl, rfl⟩))
                  all_goals
                    go_ret
                    exact ⟨rfl, HB6.out.below⟩
              · have d2 : decide (2 ≤ sec) = false := decide_eq_false h2
                obtain rfl : res = false := by rw [HRes.out]; exact decide_eq_false fun hh => h2 hh.2.1
                obtain ⟨-, -, c0, c1, c2, c3⟩ := HB5.out
                go_wp2_with (first | (go_at_call 45; refine (num24_any _ _).mono ?_; rintro e w' ⟨rfl, rfl⟩) | (go_at_call 40; refine (HCap.out _).mono ?_; rintro e w' ⟨rfl, rfl⟩) | (go_at_call 39; refine (alive24 _).mono ?_; rintro e w' ⟨rfl, rfl⟩))
                refine (HEn.out _ HB5.out.below).mono ?_
                rintro e w6 ⟨rfl, hb⟩
                have HB6 := Lib.hid (HB5.out.later hb)
                clear hb c0 c1 c2 c3
                go_wp2_with (first | (go_at_call 45; refine (num24_any _ _).mono ?_; rintro e w' ⟨rfl, rfl⟩) | (go_at_call 40; refine (HCap.out _).mono ?_; rintro e w' ⟨rfl, rfl⟩) | (go_at_call 39; refine (alive24 _).mono ?_; rintro e w' ⟨rfl, rfl⟩))
                all_goals
                  go_ret
                  exact ⟨rfl, HB6.out.below⟩
            · have dn : decide (cap < n) = false := decide_eq_false hn
              obtain rfl : ad = f := by rw [HAd0.out, if_pos rfl, if_neg hn]; exact HF.out.symm
              obtain rfl : bn = 800 + 24 * n := by rw [HBn.out, if_pos rfl]
              go_wp2_with (first | (go_at_call 45; refine (num24_any _ _).mono ?_; rintro e w' ⟨rfl, rfl⟩) | (go_at_call 40; refine (HCap.out _).mono ?_; rintro e w' ⟨rfl, rfl⟩) | (go_at_call 39; refine (alive24 _).mono ?_; rintro e w' ⟨rfl, rfl⟩))
              refine (HAd.out _ HPr.out.below).mono ?_
              rintro e w5 ⟨rfl, hb⟩
              have HB5 := Lib.hid (HPr.out.later hb)
              clear hb
              clear c0 c1 c2 c3
              by_cases h2 : 2 ≤ sec
              · have d2 : decide (2 ≤ sec) = true := decide_eq_true h2
                by_cases h3 : 800 + 24 * n ≤ (sec - 2) / 2
                · have d3 : decide (800 + 24 * n ≤ (sec - 2) / 2) = true := decide_eq_true h3
                  obtain rfl : res = true := by rw [HRes.out]; exact decide_eq_true ⟨by trivial, h2, h3⟩
                  obtain ⟨-, -, c0, c1, c2, c3⟩ := HB5.out
                  go_wp2_with (first | (go_at_call 45; refine (num24_any _ _).mono ?_; rintro e w' ⟨rfl, rfl⟩) | (go_at_call 40; refine (HCap.out _).mono ?_; rintro e w' ⟨rfl, rfl⟩) | (go_at_call 39; refine (alive24 _).mono ?_; rintro e w' ⟨rfl, rfl⟩))
                  refine (HEn.out _ HB5.out.below).mono ?_
                  rintro e w6 ⟨rfl, hb⟩
                  have HB6 := Lib.hid (HB5.out.later hb)
                  clear hb c0 c1 c2 c3
                  go_wp2_with (first | (go_at_call 45; refine (num24_any _ _).mono ?_; rintro e w' ⟨rfl, rfl⟩) | (go_at_call 40; refine (HCap.out _).mono ?_; rintro e w' ⟨rfl, rfl⟩) | (go_at_call 39; refine (alive24 _).mono ?_; rintro e w' ⟨rfl, rfl⟩))
                  all_goals
                    go_ret
                    exact ⟨rfl, HB6.out.below⟩
                · have d3 : decide (800 + 24 * n ≤ (sec - 2) / 2) = false := decide_eq_false h3
                  obtain rfl : res = false := by rw [HRes.out]; exact decide_eq_false fun hh => h3 hh.2.2
                  obtain ⟨-, -, c0, c1, c2, c3⟩ := HB5.out
                  go_wp2_with (first | (go_at_call 45; refine (num24_any _ _).mono ?_; rintro e w' ⟨rfl, rfl⟩) | (go_at_call 40; refine (HCap.out _).mono ?_; rintro e w' ⟨rfl, rfl⟩) | (go_at_call 39; refine (alive24 _).mono ?_; rintro e w' ⟨rfl, rfl⟩))
                  refine (HEn.out _ HB5.out.below).mono ?_
                  rintro e w6 ⟨rfl, hb⟩
                  have HB6 := Lib.hid (HB5.out.later hb)
                  clear hb c0 c1 c2 c3
                  go_wp2_with (first | (go_at_call 45; refine (num24_any _ _).mono ?_; rintro e w' ⟨rfl, rfl⟩) | (go_at_call 40; refine (HCap.out _).mono ?_; rintro e w' ⟨rfl, rfl⟩) | (go_at_call 39; refine (alive24 _).mono ?_; rintro e w' ⟨rfl, rfl⟩))
                  all_goals
                    go_ret
                    exact ⟨rfl, HB6.out.below⟩
              · have d2 : decide (2 ≤ sec) = false := decide_eq_false h2
                obtain rfl : res = false := by rw [HRes.out]; exact decide_eq_false fun hh => h2 hh.2.1
                obtain ⟨-, -, c0, c1, c2, c3⟩ := HB5.out
                go_wp2_with (first | (go_at_call 45; refine (num24_any _ _).mono ?_; rintro e w' ⟨rfl, rfl⟩) | (go_at_call 40; refine (HCap.out _).mono ?_; rintro e w' ⟨rfl, rfl⟩) | (go_at_call 39; refine (alive24 _).mono ?_; rintro e w' ⟨rfl, rfl⟩))
                refine (HEn.out _ HB5.out.below).mono ?_
                rintro e w6 ⟨rfl, hb⟩
                have HB6 := Lib.hid (HB5.out.later hb)
                clear hb c0 c1 c2 c3
                go_wp2_with (first | (go_at_call 45; refine (num24_any _ _).mono ?_; rintro e w' ⟨rfl, rfl⟩) | (go_at_call 40; refine (HCap.out _).mono ?_; rintro e w' ⟨rfl, rfl⟩) | (go_at_call 39; refine (alive24 _).mono ?_; rintro e w' ⟨rfl, rfl⟩))
                all_goals
                  go_ret
                  exact ⟨rfl, HB6.out.below⟩
          · by_cases hn : cap < n
            · have dn : decide (cap < n) = true := decide_eq_true hn
              obtain rfl : ad = er := by rw [HAd0.out, if_neg he]
              obtain rfl : bn = 0 := by rw [HBn.out, if_neg he]
              obtain rfl : res = false := by rw [HRes.out]; exact decide_eq_false fun hh => he hh.1
              have hbe : (ad == 0) = false := by simpa using he
              have hbn : (ad != 0) = true := by simpa using he
              go_wp2_with (first | (go_at_call 45; refine (num24_any _ _).mono ?_; rintro e w' ⟨rfl, rfl⟩) | (go_at_call 40; refine (HCap.out _).mono ?_; rintro e w' ⟨rfl, rfl⟩) | (go_at_call 39; refine (alive24 _).mono ?_; rintro e w' ⟨rfl, rfl⟩))
              refine (HAd.out _ HPr.out.below).mono ?_
              rintro e w5 ⟨rfl, hb⟩
              have HB5 := Lib.hid (HPr.out.later hb)
              clear hb
              clear c0 c1 c2 c3
              obtain ⟨-, -, c0, c1, c2, c3⟩ := HB5.out
              go_wp2_with (first | (go_at_call 45; refine (num24_any _ _).mono ?_; rintro e w' ⟨rfl, rfl⟩) | (go_at_call 40; refine (HCap.out _).mono ?_; rintro e w' ⟨rfl, rfl⟩) | (go_at_call 39; refine (alive24 _).mono ?_; rintro e w' ⟨rfl, rfl⟩))
              refine (HEn.out _ HB5.out.below).mono ?_
              rintro e w6 ⟨rfl, hb⟩
              have HB6 := Lib.hid (HB5.out.later hb)
              clear hb c0 c1 c2 c3
              go_wp2_with (first | (go_at_call 45; refine (num24_any _ _).mono ?_; rintro e w' ⟨rfl, rfl⟩) | (go_at_call 40; refine (HCap.out _).mono ?_; rintro e w' ⟨rfl, rfl⟩) | (go_at_call 39; refine (alive24 _).mono ?_; rintro e w' ⟨rfl, rfl⟩))
              all_goals
                go_ret
                exact ⟨rfl, HB6.out.below⟩
            · have dn : decide (cap < n) = false := decide_eq_false hn
              obtain rfl : ad = er := by rw [HAd0.out, if_neg he]
              obtain rfl : bn = 0 := by rw [HBn.out, if_neg he]
              obtain rfl : res = false := by rw [HRes.out]; exact decide_eq_false fun hh => he hh.1
              have hbe : (ad == 0) = false := by simpa using he
              have hbn : (ad != 0) = true := by simpa using he
              go_wp2_with (first | (go_at_call 45; refine (num24_any _ _).mono ?_; rintro e w' ⟨rfl, rfl⟩) | (go_at_call 40; refine (HCap.out _).mono ?_; rintro e w' ⟨rfl, rfl⟩) | (go_at_call 39; refine (alive24 _).mono ?_; rintro e w' ⟨rfl, rfl⟩))
              refine (HAd.out _ HPr.out.below).mono ?_
              rintro e w5 ⟨rfl, hb⟩
              have HB5 := Lib.hid (HPr.out.later hb)
              clear hb
              clear c0 c1 c2 c3
              obtain ⟨-, -, c0, c1, c2, c3⟩ := HB5.out
              go_wp2_with (first | (go_at_call 45; refine (num24_any _ _).mono ?_; rintro e w' ⟨rfl, rfl⟩) | (go_at_call 40; refine (HCap.out _).mono ?_; rintro e w' ⟨rfl, rfl⟩) | (go_at_call 39; refine (alive24 _).mono ?_; rintro e w' ⟨rfl, rfl⟩))
              refine (HEn.out _ HB5.out.below).mono ?_
              rintro e w6 ⟨rfl, hb⟩
              have HB6 := Lib.hid (HB5.out.later hb)
              clear hb c0 c1 c2 c3
              go_wp2_with (first | (go_at_call 45; refine (num24_any _ _).mono ?_; rintro e w' ⟨rfl, rfl⟩) | (go_at_call 40; refine (HCap.out _).mono ?_; rintro e w' ⟨rfl, rfl⟩) | (go_at_call 39; refine (alive24 _).mono ?_; rintro e w' ⟨rfl, rfl⟩))
              all_goals
                go_ret
                exact ⟨rfl, HB6.out.below⟩
        | succ g =>
          have hlt : (k : Int) < (tl.length : Int) := by omega
          obtain ⟨y, b, off, hy, hya, hyb, hy0, hy1, hy2, hy3, hy4, hy5, hy6, hyo⟩ := (HT.out.below HPr.out.below).get (show k < tl.length by omega)
          have hst := fits_step hy
          have HYO := Lib.hid hyo
          subst hya
          have c1 := HPr.out.c1
          have hk0 : (0 : Int) ≤ (k : Int) := by omega
          have HAT : Hid (At wr [(w.heap.size, 1, .slice (some ⟨b, off, none⟩) tl.length tc), (b, off + k * 7, .string y.name), (b, off + k * 7 + 1, .int .i64 y.quota), (b, off + k * 7 + 2, .int .i64 y.next), (b, off + k * 7 + 3, .slice y.sets.a y.sets.l.length y.sets.c), (b, off + k * 7 + 4, .slice y.grants.a y.grants.l.length y.grants.c), (b, off + k * 7 + 5, .slice y.stages.a y.stages.l.length y.stages.c), (b, off + k * 7 + 6, .slice y.log.a y.log.l.length y.log.c)]) := (At.cons HPr.out.size HPr.out.c1 (At.cons hyb hy0 (At.cons hyb hy1 (At.cons hyb hy2 (At.cons hyb hy3 (At.cons hyb hy4 (At.cons hyb hy5 (At.cons hyb hy6 (At.nil _)))))))))
          clear hy hyo hy0 hy1 hy2 hy3 hy4 hy5 hy6
          cases hf : fitsB y
          · have dq : decide (y.quota < wrap64 (tenChg y)) = true := by simpa [fitsB] using hf
            have HFX := Lib.hid (show (if (tl.drop (k + 1)).all fitsB then (42 : Int) else 42) = if tl.all fitsB then 0 else 42 by rw [← HS.out, hst, hf]; simp)
            clear hf hst
            go_wp2_with fail
            clear c1
            refine region_C (by kernel_rfl) (by kernel_rfl) (Cls.start HAT.out) ?_
            repeat (first | go_big_quiet_skip | (go_big_quiet_want; (first | (apply q_val; (· (rintro w' ⟨hA, -⟩; have c0 := hA.hd; have c1 := hA.tl.hd; have c2 := hA.tl.tl.hd; have c3 := hA.tl.tl.tl.hd; have c4 := hA.tl.tl.tl.tl.hd; have c5 := hA.tl.tl.tl.tl.tl.hd; have c6 := hA.tl.tl.tl.tl.tl.tl.hd; have c7 := hA.tl.tl.tl.tl.tl.tl.tl.hd; clear hA; go_simp; try rfl))) | (apply q_call 30; (· (rintro w' ⟨hA, -⟩; have c0 := hA.hd; have c1 := hA.tl.hd; have c2 := hA.tl.tl.hd; have c3 := hA.tl.tl.tl.hd; have c4 := hA.tl.tl.tl.tl.hd; have c5 := hA.tl.tl.tl.tl.tl.hd; have c6 := hA.tl.tl.tl.tl.tl.tl.hd; have c7 := hA.tl.tl.tl.tl.tl.tl.tl.hd; clear hA; go_simp; try rfl)); (· (intro w' hC; exact (refCharge_any y w' (okTenant_below HYO.out hC.2)).mono (fun e w'' h => ⟨h.1, hC.later h.2⟩))))); simp only [Act.put, List.setIfInBounds_toArray, List.set_cons_zero, List.set_cons_succ]; go_big_quiet_on))
            refine wpQuiet_nil ?_
            intro w2 hC2
            have HP2 := Lib.hid (HPr.out.later hC2.2)
            clear hC2
            go_wp2_with fail
            go_roundg g
            case measure => omega
            case rel => exact ⟨k + 1, 42, by omega, by go_num, rfl, HFX.out, HP2.out⟩
          · have dq : decide (y.quota < wrap64 (tenChg y)) = false := by simpa [fitsB] using hf
            have HFX := Lib.hid (show (if (tl.drop (k + 1)).all fitsB then f else 42) = if tl.all fitsB then 0 else 42 by rw [← HS.out, hst, hf]; rfl)
            clear hf hst
            go_wp2_with fail
            clear c1
            refine region_C (by kernel_rfl) (by kernel_rfl) (Cls.start HAT.out) ?_
            repeat (first | go_big_quiet_skip | (go_big_quiet_want; (first | (apply q_val; (· (rintro w' ⟨hA, -⟩; have c0 := hA.hd; have c1 := hA.tl.hd; have c2 := hA.tl.tl.hd; have c3 := hA.tl.tl.tl.hd; have c4 := hA.tl.tl.tl.tl.hd; have c5 := hA.tl.tl.tl.tl.tl.hd; have c6 := hA.tl.tl.tl.tl.tl.tl.hd; have c7 := hA.tl.tl.tl.tl.tl.tl.tl.hd; clear hA; go_simp; try rfl))) | (apply q_call 30; (· (rintro w' ⟨hA, -⟩; have c0 := hA.hd; have c1 := hA.tl.hd; have c2 := hA.tl.tl.hd; have c3 := hA.tl.tl.tl.hd; have c4 := hA.tl.tl.tl.tl.hd; have c5 := hA.tl.tl.tl.tl.tl.hd; have c6 := hA.tl.tl.tl.tl.tl.tl.hd; have c7 := hA.tl.tl.tl.tl.tl.tl.tl.hd; clear hA; go_simp; try rfl)); (· (intro w' hC; exact (refCharge_any y w' (okTenant_below HYO.out hC.2)).mono (fun e w'' h => ⟨h.1, hC.later h.2⟩))))); simp only [Act.put, List.setIfInBounds_toArray, List.set_cons_zero, List.set_cons_succ]; go_big_quiet_on))
            refine wpQuiet_nil ?_
            intro w2 hC2
            have HP2 := Lib.hid (HPr.out.later hC2.2)
            clear hC2
            go_wp2_with fail
            go_roundg g
            case measure => omega
            case rel => exact ⟨k + 1, f, by omega, by go_num, rfl, HFX.out, HP2.out⟩
    · have d1 : decide (1602 ≤ sec) = true := decide_eq_true h1
      have d2 : decide (sec ≤ 8192) = false := decide_eq_false h2
      have HCap := Lib.hid (fun W => (show Calls Try.prog 40 #[.int .i64 sec] W fun e w' => e = .returned (.int .i64 0) ∧ W = w' by have h := Capacity_any sec W hsec; rw [if_neg (fun hh => h2 hh.2)] at h; exact h))
      unfold InR at hsec
      go_enter Try.func11, Try.ntmps11
      go_wp2_with fail
      refine (HPm.out _ HB0.out.below).mono ?_
      rintro e w1 ⟨rfl, hb⟩
      have HB1 := Lib.hid (HB0.out.later hb)
      clear hb
      obtain ⟨-, -, c0, c1, c2, c3⟩ := HB1.out
      go_wp2_with fail
      refine (HLw.out _ HB1.out.below).mono ?_
      rintro e w2 ⟨rfl, hb⟩
      have HB2 := Lib.hid (HB1.out.later hb)
      clear hb
      clear c0 c1 c2 c3
      obtain ⟨-, -, c0, c1, c2, c3⟩ := HB2.out
      go_wp2_with fail
      refine (HBo.out _ HB2.out.below).mono ?_
      rintro e w3 ⟨rfl, hb⟩
      have HB3 := Lib.hid (HB2.out.later hb)
      clear hb
      clear c0 c1 c2 c3
      obtain ⟨-, -, c0, c1, c2, c3⟩ := HB3.out
      go_wp2_with fail
      clear c0 c1 c2 c3
      go_loopg [12, 13] tl.length (fun g fv i wr => ∃ (k : Nat) (f : Int), k + g = tl.length ∧ i = .int .i64 k ∧ fv = .int .i64 f ∧ Aside ((if (tl.drop k).all fitsB then f else 42) = if tl.all fitsB then 0 else 42) ∧ PB w cap ta tl.length tc fa fl.length fc la ll.length lc wr)
      case atStart => exact ⟨0, 0, by omega, rfl, rfl, rfl, HB3.out⟩
      case round =>
        obtain ⟨k, f, hkg, rfl, rfl, HS, hP⟩ := hrel
        have HPr := Lib.hid hP
        clear hP HB1 HB2 HB3
        cases gk with
        | zero =>
          have hlt : ¬ ((k : Int) < (tl.length : Int)) := by omega
          have HF := Lib.hid (show f = if tl.all fitsB then 0 else 42 by have h1 := HS.out; rw [List.drop_of_length_le (by omega)] at h1; simpa using h1)
          have c0 := HPr.out.c0
          have c1 := HPr.out.c1
          have c2 := HPr.out.c2
          have c3 := HPr.out.c3
          by_cases he : er = 0
          · subst he
            by_cases hn : cap < n
            · have dn : decide (cap < n) = true := decide_eq_true hn
              obtain rfl : ad = 17 := by rw [HAd0.out, if_pos rfl, if_pos hn]
              obtain rfl : bn = 800 + 24 * n := by rw [HBn.out, if_pos rfl]
              go_wp2_with (first | (go_at_call 45; refine (num24_any _ _).mono ?_; rintro e w' ⟨rfl, rfl⟩) | (go_at_call 40; refine (HCap.out _).mono ?_; rintro e w' ⟨rfl, rfl⟩) | (go_at_call 39; refine (alive24 _).mono ?_; rintro e w' ⟨rfl, rfl⟩))
              refine (HAd.out _ HPr.out.below).mono ?_
              rintro e w5 ⟨rfl, hb⟩
              have HB5 := Lib.hid (HPr.out.later hb)
              clear hb
              clear c0 c1 c2 c3
              by_cases h2 : 2 ≤ sec
              · have d2 : decide (2 ≤ sec) = true := decide_eq_true h2
                by_cases h3 : 800 + 24 * n ≤ (sec - 2) / 2
                · have d3 : decide (800 + 24 * n ≤ (sec - 2) / 2) = true := decide_eq_true h3
                  obtain rfl : res = true := by rw [HRes.out]; exact decide_eq_true ⟨by trivial, h2, h3⟩
                  obtain ⟨-, -, c0, c1, c2, c3⟩ := HB5.out
                  go_wp2_with (first | (go_at_call 45; refine (num24_any _ _).mono ?_; rintro e w' ⟨rfl, rfl⟩) | (go_at_call 40; refine (HCap.out _).mono ?_; rintro e w' ⟨rfl, rfl⟩) | (go_at_call 39; refine (alive24 _).mono ?_; rintro e w' ⟨rfl, rfl⟩))
                  refine (HEn.out _ HB5.out.below).mono ?_
                  rintro e w6 ⟨rfl, hb⟩
                  have HB6 := Lib.hid (HB5.out.later hb)
                  clear hb c0 c1 c2 c3
                  go_wp2_with (first | (go_at_call 45; refine (num24_any _ _).mono ?_; rintro e w' ⟨rfl, rfl⟩) | (go_at_call 40; refine (HCap.out _).mono ?_; rintro e w' ⟨rfl, rfl⟩) | (go_at_call 39; refine (alive24 _).mono ?_; rintro e w' ⟨rfl, rfl⟩))
                  all_goals
                    go_ret
                    exact ⟨rfl, HB6.out.below⟩
                · have d3 : decide (800 + 24 * n ≤ (sec - 2) / 2) = false := decide_eq_false h3
                  obtain rfl : res = false := by rw [HRes.out]; exact decide_eq_false fun hh => h3 hh.2.2
                  obtain ⟨-, -, c0, c1, c2, c3⟩ := HB5.out
                  go_wp2_with (first | (go_at_call 45; refine (num24_any _ _).mono ?_; rintro e w' ⟨rfl, rfl⟩) | (go_at_call 40; refine (HCap.out _).mono ?_; rintro e w' ⟨rfl, rfl⟩) | (go_at_call 39; refine (alive24 _).mono ?_; rintro e w' ⟨rfl, rfl⟩))
                  refine (HEn.out _ HB5.out.below).mono ?_
                  rintro e w6 ⟨rfl, hb⟩
                  have HB6 := Lib.hid (HB5.out.later hb)
                  clear hb c0 c1 c2 c3
                  go_wp2_with (first | (go_at_call 45; refine (num24_any _ _).mono ?_; rintro e w' ⟨rfl, rfl⟩) | (go_at_call 40; refine (HCap.out _).mono ?_; rintro e w' ⟨rfl, rfl⟩) | (go_at_call 39; refine (alive24 _).mono ?_; rintro e w' ⟨rfl, rfl⟩))
                  all_goals
                    go_ret
                    exact ⟨rfl, HB6.out.below⟩
              · have d2 : decide (2 ≤ sec) = false := decide_eq_false h2
                obtain rfl : res = false := by rw [HRes.out]; exact decide_eq_false fun hh => h2 hh.2.1
                obtain ⟨-, -, c0, c1, c2, c3⟩ := HB5.out
                go_wp2_with (first | (go_at_call 45; refine (num24_any _ _).mono ?_; rintro e w' ⟨rfl, rfl⟩) | (go_at_call 40; refine (HCap.out _).mono ?_; rintro e w' ⟨rfl, rfl⟩) | (go_at_call 39; refine (alive24 _).mono ?_; rintro e w' ⟨rfl, rfl⟩))
                refine (HEn.out _ HB5.out.below).mono ?_
                rintro e w6 ⟨rfl, hb⟩
                have HB6 := Lib.hid (HB5.out.later hb)
                clear hb c0 c1 c2 c3
                go_wp2_with (first | (go_at_call 45; refine (num24_any _ _).mono ?_; rintro e w' ⟨rfl, rfl⟩) | (go_at_call 40; refine (HCap.out _).mono ?_; rintro e w' ⟨rfl, rfl⟩) | (go_at_call 39; refine (alive24 _).mono ?_; rintro e w' ⟨rfl, rfl⟩))
                all_goals
                  go_ret
                  exact ⟨rfl, HB6.out.below⟩
            · have dn : decide (cap < n) = false := decide_eq_false hn
              obtain rfl : ad = f := by rw [HAd0.out, if_pos rfl, if_neg hn]; exact HF.out.symm
              obtain rfl : bn = 800 + 24 * n := by rw [HBn.out, if_pos rfl]
              go_wp2_with (first | (go_at_call 45; refine (num24_any _ _).mono ?_; rintro e w' ⟨rfl, rfl⟩) | (go_at_call 40; refine (HCap.out _).mono ?_; rintro e w' ⟨rfl, rfl⟩) | (go_at_call 39; refine (alive24 _).mono ?_; rintro e w' ⟨rfl, rfl⟩))
              refine (HAd.out _ HPr.out.below).mono ?_
              rintro e w5 ⟨rfl, hb⟩
              have HB5 := Lib.hid (HPr.out.later hb)
              clear hb
              clear c0 c1 c2 c3
              by_cases h2 : 2 ≤ sec
              · have d2 : decide (2 ≤ sec) = true := decide_eq_true h2
                by_cases h3 : 800 + 24 * n ≤ (sec - 2) / 2
                · have d3 : decide (800 + 24 * n ≤ (sec - 2) / 2) = true := decide_eq_true h3
                  obtain rfl : res = true := by rw [HRes.out]; exact decide_eq_true ⟨by trivial, h2, h3⟩
                  obtain ⟨-, -, c0, c1, c2, c3⟩ := HB5.out
                  go_wp2_with (first | (go_at_call 45; refine (num24_any _ _).mono ?_; rintro e w' ⟨rfl, rfl⟩) | (go_at_call 40; refine (HCap.out _).mono ?_; rintro e w' ⟨rfl, rfl⟩) | (go_at_call 39; refine (alive24 _).mono ?_; rintro e w' ⟨rfl, rfl⟩))
                  refine (HEn.out _ HB5.out.below).mono ?_
                  rintro e w6 ⟨rfl, hb⟩
                  have HB6 := Lib.hid (HB5.out.later hb)
                  clear hb c0 c1 c2 c3
                  go_wp2_with (first | (go_at_call 45; refine (num24_any _ _).mono ?_; rintro e w' ⟨rfl, rfl⟩) | (go_at_call 40; refine (HCap.out _).mono ?_; rintro e w' ⟨rfl, rfl⟩) | (go_at_call 39; refine (alive24 _).mono ?_; rintro e w' ⟨rfl, rfl⟩))
                  all_goals
                    go_ret
                    exact ⟨rfl, HB6.out.below⟩
                · have d3 : decide (800 + 24 * n ≤ (sec - 2) / 2) = false := decide_eq_false h3
                  obtain rfl : res = false := by rw [HRes.out]; exact decide_eq_false fun hh => h3 hh.2.2
                  obtain ⟨-, -, c0, c1, c2, c3⟩ := HB5.out
                  go_wp2_with (first | (go_at_call 45; refine (num24_any _ _).mono ?_; rintro e w' ⟨rfl, rfl⟩) | (go_at_call 40; refine (HCap.out _).mono ?_; rintro e w' ⟨rfl, rfl⟩) | (go_at_call 39; refine (alive24 _).mono ?_; rintro e w' ⟨rfl, rfl⟩))
                  refine (HEn.out _ HB5.out.below).mono ?_
                  rintro e w6 ⟨rfl, hb⟩
                  have HB6 := Lib.hid (HB5.out.later hb)
                  clear hb c0 c1 c2 c3
                  go_wp2_with (first | (go_at_call 45; refine (num24_any _ _).mono ?_; rintro e w' ⟨rfl, rfl⟩) | (go_at_call 40; refine (HCap.out _).mono ?_; rintro e w' ⟨rfl, rfl⟩) | (go_at_call 39; refine (alive24 _).mono ?_; rintro e w' ⟨rfl, rfl⟩))
                  all_goals
                    go_ret
                    exact ⟨rfl, HB6.out.below⟩
              · have d2 : decide (2 ≤ sec) = false := decide_eq_false h2
                obtain rfl : res = false := by rw [HRes.out]; exact decide_eq_false fun hh => h2 hh.2.1
                obtain ⟨-, -, c0, c1, c2, c3⟩ := HB5.out
                go_wp2_with (first | (go_at_call 45; refine (num24_any _ _).mono ?_; rintro e w' ⟨rfl, rfl⟩) | (go_at_call 40; refine (HCap.out _).mono ?_; rintro e w' ⟨rfl, rfl⟩) | (go_at_call 39; refine (alive24 _).mono ?_; rintro e w' ⟨rfl, rfl⟩))
                refine (HEn.out _ HB5.out.below).mono ?_
                rintro e w6 ⟨rfl, hb⟩
                have HB6 := Lib.hid (HB5.out.later hb)
                clear hb c0 c1 c2 c3
                go_wp2_with (first | (go_at_call 45; refine (num24_any _ _).mono ?_; rintro e w' ⟨rfl, rfl⟩) | (go_at_call 40; refine (HCap.out _).mono ?_; rintro e w' ⟨rfl, rfl⟩) | (go_at_call 39; refine (alive24 _).mono ?_; rintro e w' ⟨rfl, rfl⟩))
                all_goals
                  go_ret
                  exact ⟨rfl, HB6.out.below⟩
          · by_cases hn : cap < n
            · have dn : decide (cap < n) = true := decide_eq_true hn
              obtain rfl : ad = er := by rw [HAd0.out, if_neg he]
              obtain rfl : bn = 0 := by rw [HBn.out, if_neg he]
              obtain rfl : res = false := by rw [HRes.out]; exact decide_eq_false fun hh => he hh.1
              have hbe : (ad == 0) = false := by simpa using he
              have hbn : (ad != 0) = true := by simpa using he
              go_wp2_with (first | (go_at_call 45; refine (num24_any _ _).mono ?_; rintro e w' ⟨rfl, rfl⟩) | (go_at_call 40; refine (HCap.out _).mono ?_; rintro e w' ⟨rfl, rfl⟩) | (go_at_call 39; refine (alive24 _).mono ?_; rintro e w' ⟨rfl, rfl⟩))
              refine (HAd.out _ HPr.out.below).mono ?_
              rintro e w5 ⟨rfl, hb⟩
              have HB5 := Lib.hid (HPr.out.later hb)
              clear hb
              clear c0 c1 c2 c3
              obtain ⟨-, -, c0, c1, c2, c3⟩ := HB5.out
              go_wp2_with (first | (go_at_call 45; refine (num24_any _ _).mono ?_; rintro e w' ⟨rfl, rfl⟩) | (go_at_call 40; refine (HCap.out _).mono ?_; rintro e w' ⟨rfl, rfl⟩) | (go_at_call 39; refine (alive24 _).mono ?_; rintro e w' ⟨rfl, rfl⟩))
              refine (HEn.out _ HB5.out.below).mono ?_
              rintro e w6 ⟨rfl, hb⟩
              have HB6 := Lib.hid (HB5.out.later hb)
              clear hb c0 c1 c2 c3
              go_wp2_with (first | (go_at_call 45; refine (num24_any _ _).mono ?_; rintro e w' ⟨rfl, rfl⟩) | (go_at_call 40; refine (HCap.out _).mono ?_; rintro e w' ⟨rfl, rfl⟩) | (go_at_call 39; refine (alive24 _).mono ?_; rintro e w' ⟨rfl, rfl⟩))
              all_goals
                go_ret
                exact ⟨rfl, HB6.out.below⟩
            · have dn : decide (cap < n) = false := decide_eq_false hn
              obtain rfl : ad = er := by rw [HAd0.out, if_neg he]
              obtain rfl : bn = 0 := by rw [HBn.out, if_neg he]
              obtain rfl : res = false := by rw [HRes.out]; exact decide_eq_false fun hh => he hh.1
              have hbe : (ad == 0) = false := by simpa using he
              have hbn : (ad != 0) = true := by simpa using he
              go_wp2_with (first | (go_at_call 45; refine (num24_any _ _).mono ?_; rintro e w' ⟨rfl, rfl⟩) | (go_at_call 40; refine (HCap.out _).mono ?_; rintro e w' ⟨rfl, rfl⟩) | (go_at_call 39; refine (alive24 _).mono ?_; rintro e w' ⟨rfl, rfl⟩))
              refine (HAd.out _ HPr.out.below).mono ?_
              rintro e w5 ⟨rfl, hb⟩
              have HB5 := Lib.hid (HPr.out.later hb)
              clear hb
              clear c0 c1 c2 c3
              obtain ⟨-, -, c0, c1, c2, c3⟩ := HB5.out
              go_wp2_with (first | (go_at_call 45; refine (num24_any _ _).mono ?_; rintro e w' ⟨rfl, rfl⟩) | (go_at_call 40; refine (HCap.out _).mono ?_; rintro e w' ⟨rfl, rfl⟩) | (go_at_call 39; refine (alive24 _).mono ?_; rintro e w' ⟨rfl, rfl⟩))
              refine (HEn.out _ HB5.out.below).mono ?_
              rintro e w6 ⟨rfl, hb⟩
              have HB6 := Lib.hid (HB5.out.later hb)
              clear hb c0 c1 c2 c3
              go_wp2_with (first | (go_at_call 45; refine (num24_any _ _).mono ?_; rintro e w' ⟨rfl, rfl⟩) | (go_at_call 40; refine (HCap.out _).mono ?_; rintro e w' ⟨rfl, rfl⟩) | (go_at_call 39; refine (alive24 _).mono ?_; rintro e w' ⟨rfl, rfl⟩))
              all_goals
                go_ret
                exact ⟨rfl, HB6.out.below⟩
        | succ g =>
          have hlt : (k : Int) < (tl.length : Int) := by omega
          obtain ⟨y, b, off, hy, hya, hyb, hy0, hy1, hy2, hy3, hy4, hy5, hy6, hyo⟩ := (HT.out.below HPr.out.below).get (show k < tl.length by omega)
          have hst := fits_step hy
          have HYO := Lib.hid hyo
          subst hya
          have c1 := HPr.out.c1
          have hk0 : (0 : Int) ≤ (k : Int) := by omega
          have HAT : Hid (At wr [(w.heap.size, 1, .slice (some ⟨b, off, none⟩) tl.length tc), (b, off + k * 7, .string y.name), (b, off + k * 7 + 1, .int .i64 y.quota), (b, off + k * 7 + 2, .int .i64 y.next), (b, off + k * 7 + 3, .slice y.sets.a y.sets.l.length y.sets.c), (b, off + k * 7 + 4, .slice y.grants.a y.grants.l.length y.grants.c), (b, off + k * 7 + 5, .slice y.stages.a y.stages.l.length y.stages.c), (b, off + k * 7 + 6, .slice y.log.a y.log.l.length y.log.c)]) := (At.cons HPr.out.size HPr.out.c1 (At.cons hyb hy0 (At.cons hyb hy1 (At.cons hyb hy2 (At.cons hyb hy3 (At.cons hyb hy4 (At.cons hyb hy5 (At.cons hyb hy6 (At.nil _)))))))))
          clear hy hyo hy0 hy1 hy2 hy3 hy4 hy5 hy6
          cases hf : fitsB y
          · have dq : decide (y.quota < wrap64 (tenChg y)) = true := by simpa [fitsB] using hf
            have HFX := Lib.hid (show (if (tl.drop (k + 1)).all fitsB then (42 : Int) else 42) = if tl.all fitsB then 0 else 42 by rw [← HS.out, hst, hf]; simp)
            clear hf hst
            go_wp2_with fail
            clear c1
            refine region_C (by kernel_rfl) (by kernel_rfl) (Cls.start HAT.out) ?_
            repeat (first | go_big_quiet_skip | (go_big_quiet_want; (first | (apply q_val; (· (rintro w' ⟨hA, -⟩; have c0 := hA.hd; have c1 := hA.tl.hd; have c2 := hA.tl.tl.hd; have c3 := hA.tl.tl.tl.hd; have c4 := hA.tl.tl.tl.tl.hd; have c5 := hA.tl.tl.tl.tl.tl.hd; have c6 := hA.tl.tl.tl.tl.tl.tl.hd; have c7 := hA.tl.tl.tl.tl.tl.tl.tl.hd; clear hA; go_simp; try rfl))) | (apply q_call 30; (· (rintro w' ⟨hA, -⟩; have c0 := hA.hd; have c1 := hA.tl.hd; have c2 := hA.tl.tl.hd; have c3 := hA.tl.tl.tl.hd; have c4 := hA.tl.tl.tl.tl.hd; have c5 := hA.tl.tl.tl.tl.tl.hd; have c6 := hA.tl.tl.tl.tl.tl.tl.hd; have c7 := hA.tl.tl.tl.tl.tl.tl.tl.hd; clear hA; go_simp; try rfl)); (· (intro w' hC; exact (refCharge_any y w' (okTenant_below HYO.out hC.2)).mono (fun e w'' h => ⟨h.1, hC.later h.2⟩))))); simp only [Act.put, List.setIfInBounds_toArray, List.set_cons_zero, List.set_cons_succ]; go_big_quiet_on))
            refine wpQuiet_nil ?_
            intro w2 hC2
            have HP2 := Lib.hid (HPr.out.later hC2.2)
            clear hC2
            go_wp2_with fail
            go_roundg g
            case measure => omega
            case rel => exact ⟨k + 1, 42, by omega, by go_num, rfl, HFX.out, HP2.out⟩
          · have dq : decide (y.quota < wrap64 (tenChg y)) = false := by simpa [fitsB] using hf
            have HFX := Lib.hid (show (if (tl.drop (k + 1)).all fitsB then f else 42) = if tl.all fitsB then 0 else 42 by rw [← HS.out, hst, hf]; rfl)
            clear hf hst
            go_wp2_with fail
            clear c1
            refine region_C (by kernel_rfl) (by kernel_rfl) (Cls.start HAT.out) ?_
            repeat (first | go_big_quiet_skip | (go_big_quiet_want; (first | (apply q_val; (· (rintro w' ⟨hA, -⟩; have c0 := hA.hd; have c1 := hA.tl.hd; have c2 := hA.tl.tl.hd; have c3 := hA.tl.tl.tl.hd; have c4 := hA.tl.tl.tl.tl.hd; have c5 := hA.tl.tl.tl.tl.tl.hd; have c6 := hA.tl.tl.tl.tl.tl.tl.hd; have c7 := hA.tl.tl.tl.tl.tl.tl.tl.hd; clear hA; go_simp; try rfl))) | (apply q_call 30; (· (rintro w' ⟨hA, -⟩; have c0 := hA.hd; have c1 := hA.tl.hd; have c2 := hA.tl.tl.hd; have c3 := hA.tl.tl.tl.hd; have c4 := hA.tl.tl.tl.tl.hd; have c5 := hA.tl.tl.tl.tl.tl.hd; have c6 := hA.tl.tl.tl.tl.tl.tl.hd; have c7 := hA.tl.tl.tl.tl.tl.tl.tl.hd; clear hA; go_simp; try rfl)); (· (intro w' hC; exact (refCharge_any y w' (okTenant_below HYO.out hC.2)).mono (fun e w'' h => ⟨h.1, hC.later h.2⟩))))); simp only [Act.put, List.setIfInBounds_toArray, List.set_cons_zero, List.set_cons_succ]; go_big_quiet_on))
            refine wpQuiet_nil ?_
            intro w2 hC2
            have HP2 := Lib.hid (HPr.out.later hC2.2)
            clear hC2
            go_wp2_with fail
            go_roundg g
            case measure => omega
            case rel => exact ⟨k + 1, f, by omega, by go_num, rfl, HFX.out, HP2.out⟩
  · have d1 : decide (1602 ≤ sec) = false := decide_eq_false h1
    have HCap := Lib.hid (fun W => (show Calls Try.prog 40 #[.int .i64 sec] W fun e w' => e = .returned (.int .i64 0) ∧ W = w' by have h := Capacity_any sec W hsec; rw [if_neg (fun hh => h1 hh.1)] at h; exact h))
    unfold InR at hsec
    go_enter Try.func11, Try.ntmps11
    go_wp2_with fail
    refine (HPm.out _ HB0.out.below).mono ?_
    rintro e w1 ⟨rfl, hb⟩
    have HB1 := Lib.hid (HB0.out.later hb)
    clear hb
    obtain ⟨-, -, c0, c1, c2, c3⟩ := HB1.out
    go_wp2_with fail
    refine (HLw.out _ HB1.out.below).mono ?_
    rintro e w2 ⟨rfl, hb⟩
    have HB2 := Lib.hid (HB1.out.later hb)
    clear hb
    clear c0 c1 c2 c3
    obtain ⟨-, -, c0, c1, c2, c3⟩ := HB2.out
    go_wp2_with fail
    refine (HBo.out _ HB2.out.below).mono ?_
    rintro e w3 ⟨rfl, hb⟩
    have HB3 := Lib.hid (HB2.out.later hb)
    clear hb
    clear c0 c1 c2 c3
    obtain ⟨-, -, c0, c1, c2, c3⟩ := HB3.out
    go_wp2_with fail
    clear c0 c1 c2 c3
    go_loopg [12, 13] tl.length (fun g fv i wr => ∃ (k : Nat) (f : Int), k + g = tl.length ∧ i = .int .i64 k ∧ fv = .int .i64 f ∧ Aside ((if (tl.drop k).all fitsB then f else 42) = if tl.all fitsB then 0 else 42) ∧ PB w cap ta tl.length tc fa fl.length fc la ll.length lc wr)
    case atStart => exact ⟨0, 0, by omega, rfl, rfl, rfl, HB3.out⟩
    case round =>
      obtain ⟨k, f, hkg, rfl, rfl, HS, hP⟩ := hrel
      have HPr := Lib.hid hP
      clear hP HB1 HB2 HB3
      cases gk with
      | zero =>
        have hlt : ¬ ((k : Int) < (tl.length : Int)) := by omega
        have HF := Lib.hid (show f = if tl.all fitsB then 0 else 42 by have h1 := HS.out; rw [List.drop_of_length_le (by omega)] at h1; simpa using h1)
        have c0 := HPr.out.c0
        have c1 := HPr.out.c1
        have c2 := HPr.out.c2
        have c3 := HPr.out.c3
        by_cases he : er = 0
        · subst he
          by_cases hn : cap < n
          · have dn : decide (cap < n) = true := decide_eq_true hn
            obtain rfl : ad = 17 := by rw [HAd0.out, if_pos rfl, if_pos hn]
            obtain rfl : bn = 800 + 24 * n := by rw [HBn.out, if_pos rfl]
            go_wp2_with (first | (go_at_call 45; refine (num24_any _ _).mono ?_; rintro e w' ⟨rfl, rfl⟩) | (go_at_call 40; refine (HCap.out _).mono ?_; rintro e w' ⟨rfl, rfl⟩) | (go_at_call 39; refine (alive24 _).mono ?_; rintro e w' ⟨rfl, rfl⟩))
            refine (HAd.out _ HPr.out.below).mono ?_
            rintro e w5 ⟨rfl, hb⟩
            have HB5 := Lib.hid (HPr.out.later hb)
            clear hb
            clear c0 c1 c2 c3
            by_cases h2 : 2 ≤ sec
            · have d2 : decide (2 ≤ sec) = true := decide_eq_true h2
              by_cases h3 : 800 + 24 * n ≤ (sec - 2) / 2
              · have d3 : decide (800 + 24 * n ≤ (sec - 2) / 2) = true := decide_eq_true h3
                obtain rfl : res = true := by rw [HRes.out]; exact decide_eq_true ⟨by trivial, h2, h3⟩
                obtain ⟨-, -, c0, c1, c2, c3⟩ := HB5.out
                go_wp2_with (first | (go_at_call 45; refine (num24_any _ _).mono ?_; rintro e w' ⟨rfl, rfl⟩) | (go_at_call 40; refine (HCap.out _).mono ?_; rintro e w' ⟨rfl, rfl⟩) | (go_at_call 39; refine (alive24 _).mono ?_; rintro e w' ⟨rfl, rfl⟩))
                refine (HEn.out _ HB5.out.below).mono ?_
                rintro e w6 ⟨rfl, hb⟩
                have HB6 := Lib.hid (HB5.out.later hb)
                clear hb c0 c1 c2 c3
                go_wp2_with (first | (go_at_call 45; refine (num24_any _ _).mono ?_; rintro e w' ⟨rfl, rfl⟩) | (go_at_call 40; refine (HCap.out _).mono ?_; rintro e w' ⟨rfl, rfl⟩) | (go_at_call 39; refine (alive24 _).mono ?_; rintro e w' ⟨rfl, rfl⟩))
                all_goals
                  go_ret
                  exact ⟨rfl, HB6.out.below⟩
              · have d3 : decide (800 + 24 * n ≤ (sec - 2) / 2) = false := decide_eq_false h3
                obtain rfl : res = false := by rw [HRes.out]; exact decide_eq_false fun hh => h3 hh.2.2
                obtain ⟨-, -, c0, c1, c2, c3⟩ := HB5.out
                go_wp2_with (first | (go_at_call 45; refine (num24_any _ _).mono ?_; rintro e w' ⟨rfl, rfl⟩) | (go_at_call 40; refine (HCap.out _).mono ?_; rintro e w' ⟨rfl, rfl⟩) | (go_at_call 39; refine (alive24 _).mono ?_; rintro e w' ⟨rfl, rfl⟩))
                refine (HEn.out _ HB5.out.below).mono ?_
                rintro e w6 ⟨rfl, hb⟩
                have HB6 := Lib.hid (HB5.out.later hb)
                clear hb c0 c1 c2 c3
                go_wp2_with (first | (go_at_call 45; refine (num24_any _ _).mono ?_; rintro e w' ⟨rfl, rfl⟩) | (go_at_call 40; refine (HCap.out _).mono ?_; rintro e w' ⟨rfl, rfl⟩) | (go_at_call 39; refine (alive24 _).mono ?_; rintro e w' ⟨rfl, rfl⟩))
                all_goals
                  go_ret
                  exact ⟨rfl, HB6.out.below⟩
            · have d2 : decide (2 ≤ sec) = false := decide_eq_false h2
              obtain rfl : res = false := by rw [HRes.out]; exact decide_eq_false fun hh => h2 hh.2.1
              obtain ⟨-, -, c0, c1, c2, c3⟩ := HB5.out
              go_wp2_with (first | (go_at_call 45; refine (num24_any _ _).mono ?_; rintro e w' ⟨rfl, rfl⟩) | (go_at_call 40; refine (HCap.out _).mono ?_; rintro e w' ⟨rfl, rfl⟩) | (go_at_call 39; refine (alive24 _).mono ?_; rintro e w' ⟨rfl, rfl⟩))
              refine (HEn.out _ HB5.out.below).mono ?_
              rintro e w6 ⟨rfl, hb⟩
              have HB6 := Lib.hid (HB5.out.later hb)
              clear hb c0 c1 c2 c3
              go_wp2_with (first | (go_at_call 45; refine (num24_any _ _).mono ?_; rintro e w' ⟨rfl, rfl⟩) | (go_at_call 40; refine (HCap.out _).mono ?_; rintro e w' ⟨rfl, rfl⟩) | (go_at_call 39; refine (alive24 _).mono ?_; rintro e w' ⟨rfl, rfl⟩))
              all_goals
                go_ret
                exact ⟨rfl, HB6.out.below⟩
          · have dn : decide (cap < n) = false := decide_eq_false hn
            obtain rfl : ad = f := by rw [HAd0.out, if_pos rfl, if_neg hn]; exact HF.out.symm
            obtain rfl : bn = 800 + 24 * n := by rw [HBn.out, if_pos rfl]
            go_wp2_with (first | (go_at_call 45; refine (num24_any _ _).mono ?_; rintro e w' ⟨rfl, rfl⟩) | (go_at_call 40; refine (HCap.out _).mono ?_; rintro e w' ⟨rfl, rfl⟩) | (go_at_call 39; refine (alive24 _).mono ?_; rintro e w' ⟨rfl, rfl⟩))
            refine (HAd.out _ HPr.out.below).mono ?_
            rintro e w5 ⟨rfl, hb⟩
            have HB5 := Lib.hid (HPr.out.later hb)
            clear hb
            clear c0 c1 c2 c3
            by_cases h2 : 2 ≤ sec
            · have d2 : decide (2 ≤ sec) = true := decide_eq_true h2
              by_cases h3 : 800 + 24 * n ≤ (sec - 2) / 2
              · have d3 : decide (800 + 24 * n ≤ (sec - 2) / 2) = true := decide_eq_true h3
                obtain rfl : res = true := by rw [HRes.out]; exact decide_eq_true ⟨by trivial, h2, h3⟩
                obtain ⟨-, -, c0, c1, c2, c3⟩ := HB5.out
                go_wp2_with (first | (go_at_call 45; refine (num24_any _ _).mono ?_; rintro e w' ⟨rfl, rfl⟩) | (go_at_call 40; refine (HCap.out _).mono ?_; rintro e w' ⟨rfl, rfl⟩) | (go_at_call 39; refine (alive24 _).mono ?_; rintro e w' ⟨rfl, rfl⟩))
                refine (HEn.out _ HB5.out.below).mono ?_
                rintro e w6 ⟨rfl, hb⟩
                have HB6 := Lib.hid (HB5.out.later hb)
                clear hb c0 c1 c2 c3
                go_wp2_with (first | (go_at_call 45; refine (num24_any _ _).mono ?_; rintro e w' ⟨rfl, rfl⟩) | (go_at_call 40; refine (HCap.out _).mono ?_; rintro e w' ⟨rfl, rfl⟩) | (go_at_call 39; refine (alive24 _).mono ?_; rintro e w' ⟨rfl, rfl⟩))
                all_goals
                  go_ret
                  exact ⟨rfl, HB6.out.below⟩
              · have d3 : decide (800 + 24 * n ≤ (sec - 2) / 2) = false := decide_eq_false h3
                obtain rfl : res = false := by rw [HRes.out]; exact decide_eq_false fun hh => h3 hh.2.2
                obtain ⟨-, -, c0, c1, c2, c3⟩ := HB5.out
                go_wp2_with (first | (go_at_call 45; refine (num24_any _ _).mono ?_; rintro e w' ⟨rfl, rfl⟩) | (go_at_call 40; refine (HCap.out _).mono ?_; rintro e w' ⟨rfl, rfl⟩) | (go_at_call 39; refine (alive24 _).mono ?_; rintro e w' ⟨rfl, rfl⟩))
                refine (HEn.out _ HB5.out.below).mono ?_
                rintro e w6 ⟨rfl, hb⟩
                have HB6 := Lib.hid (HB5.out.later hb)
                clear hb c0 c1 c2 c3
                go_wp2_with (first | (go_at_call 45; refine (num24_any _ _).mono ?_; rintro e w' ⟨rfl, rfl⟩) | (go_at_call 40; refine (HCap.out _).mono ?_; rintro e w' ⟨rfl, rfl⟩) | (go_at_call 39; refine (alive24 _).mono ?_; rintro e w' ⟨rfl, rfl⟩))
                all_goals
                  go_ret
                  exact ⟨rfl, HB6.out.below⟩
            · have d2 : decide (2 ≤ sec) = false := decide_eq_false h2
              obtain rfl : res = false := by rw [HRes.out]; exact decide_eq_false fun hh => h2 hh.2.1
              obtain ⟨-, -, c0, c1, c2, c3⟩ := HB5.out
              go_wp2_with (first | (go_at_call 45; refine (num24_any _ _).mono ?_; rintro e w' ⟨rfl, rfl⟩) | (go_at_call 40; refine (HCap.out _).mono ?_; rintro e w' ⟨rfl, rfl⟩) | (go_at_call 39; refine (alive24 _).mono ?_; rintro e w' ⟨rfl, rfl⟩))
              refine (HEn.out _ HB5.out.below).mono ?_
              rintro e w6 ⟨rfl, hb⟩
              have HB6 := Lib.hid (HB5.out.later hb)
              clear hb c0 c1 c2 c3
              go_wp2_with (first | (go_at_call 45; refine (num24_any _ _).mono ?_; rintro e w' ⟨rfl, rfl⟩) | (go_at_call 40; refine (HCap.out _).mono ?_; rintro e w' ⟨rfl, rfl⟩) | (go_at_call 39; refine (alive24 _).mono ?_; rintro e w' ⟨rfl, rfl⟩))
              all_goals
                go_ret
                exact ⟨rfl, HB6.out.below⟩
        · by_cases hn : cap < n
          · have dn : decide (cap < n) = true := decide_eq_true hn
            obtain rfl : ad = er := by rw [HAd0.out, if_neg he]
            obtain rfl : bn = 0 := by rw [HBn.out, if_neg he]
            obtain rfl : res = false := by rw [HRes.out]; exact decide_eq_false fun hh => he hh.1
            have hbe : (ad == 0) = false := by simpa using he
            have hbn : (ad != 0) = true := by simpa using he
            go_wp2_with (first | (go_at_call 45; refine (num24_any _ _).mono ?_; rintro e w' ⟨rfl, rfl⟩) | (go_at_call 40; refine (HCap.out _).mono ?_; rintro e w' ⟨rfl, rfl⟩) | (go_at_call 39; refine (alive24 _).mono ?_; rintro e w' ⟨rfl, rfl⟩))
            refine (HAd.out _ HPr.out.below).mono ?_
            rintro e w5 ⟨rfl, hb⟩
            have HB5 := Lib.hid (HPr.out.later hb)
            clear hb
            clear c0 c1 c2 c3
            obtain ⟨-, -, c0, c1, c2, c3⟩ := HB5.out
            go_wp2_with (first | (go_at_call 45; refine (num24_any _ _).mono ?_; rintro e w' ⟨rfl, rfl⟩) | (go_at_call 40; refine (HCap.out _).mono ?_; rintro e w' ⟨rfl, rfl⟩) | (go_at_call 39; refine (alive24 _).mono ?_; rintro e w' ⟨rfl, rfl⟩))
            refine (HEn.out _ HB5.out.below).mono ?_
            rintro e w6 ⟨rfl, hb⟩
            have HB6 := Lib.hid (HB5.out.later hb)
            clear hb c0 c1 c2 c3
            go_wp2_with (first | (go_at_call 45; refine (num24_any _ _).mono ?_; rintro e w' ⟨rfl, rfl⟩) | (go_at_call 40; refine (HCap.out _).mono ?_; rintro e w' ⟨rfl, rfl⟩) | (go_at_call 39; refine (alive24 _).mono ?_; rintro e w' ⟨rfl, rfl⟩))
            all_goals
              go_ret
              exact ⟨rfl, HB6.out.below⟩
          · have dn : decide (cap < n) = false := decide_eq_false hn
            obtain rfl : ad = er := by rw [HAd0.out, if_neg he]
            obtain rfl : bn = 0 := by rw [HBn.out, if_neg he]
            obtain rfl : res = false := by rw [HRes.out]; exact decide_eq_false fun hh => he hh.1
            have hbe : (ad == 0) = false := by simpa using he
            have hbn : (ad != 0) = true := by simpa using he
            go_wp2_with (first | (go_at_call 45; refine (num24_any _ _).mono ?_; rintro e w' ⟨rfl, rfl⟩) | (go_at_call 40; refine (HCap.out _).mono ?_; rintro e w' ⟨rfl, rfl⟩) | (go_at_call 39; refine (alive24 _).mono ?_; rintro e w' ⟨rfl, rfl⟩))
            refine (HAd.out _ HPr.out.below).mono ?_
            rintro e w5 ⟨rfl, hb⟩
            have HB5 := Lib.hid (HPr.out.later hb)
            clear hb
            clear c0 c1 c2 c3
            obtain ⟨-, -, c0, c1, c2, c3⟩ := HB5.out
            go_wp2_with (first | (go_at_call 45; refine (num24_any _ _).mono ?_; rintro e w' ⟨rfl, rfl⟩) | (go_at_call 40; refine (HCap.out _).mono ?_; rintro e w' ⟨rfl, rfl⟩) | (go_at_call 39; refine (alive24 _).mono ?_; rintro e w' ⟨rfl, rfl⟩))
            refine (HEn.out _ HB5.out.below).mono ?_
            rintro e w6 ⟨rfl, hb⟩
            have HB6 := Lib.hid (HB5.out.later hb)
            clear hb c0 c1 c2 c3
            go_wp2_with (first | (go_at_call 45; refine (num24_any _ _).mono ?_; rintro e w' ⟨rfl, rfl⟩) | (go_at_call 40; refine (HCap.out _).mono ?_; rintro e w' ⟨rfl, rfl⟩) | (go_at_call 39; refine (alive24 _).mono ?_; rintro e w' ⟨rfl, rfl⟩))
            all_goals
              go_ret
              exact ⟨rfl, HB6.out.below⟩
      | succ g =>
        have hlt : (k : Int) < (tl.length : Int) := by omega
        obtain ⟨y, b, off, hy, hya, hyb, hy0, hy1, hy2, hy3, hy4, hy5, hy6, hyo⟩ := (HT.out.below HPr.out.below).get (show k < tl.length by omega)
        have hst := fits_step hy
        have HYO := Lib.hid hyo
        subst hya
        have c1 := HPr.out.c1
        have hk0 : (0 : Int) ≤ (k : Int) := by omega
        have HAT : Hid (At wr [(w.heap.size, 1, .slice (some ⟨b, off, none⟩) tl.length tc), (b, off + k * 7, .string y.name), (b, off + k * 7 + 1, .int .i64 y.quota), (b, off + k * 7 + 2, .int .i64 y.next), (b, off + k * 7 + 3, .slice y.sets.a y.sets.l.length y.sets.c), (b, off + k * 7 + 4, .slice y.grants.a y.grants.l.length y.grants.c), (b, off + k * 7 + 5, .slice y.stages.a y.stages.l.length y.stages.c), (b, off + k * 7 + 6, .slice y.log.a y.log.l.length y.log.c)]) := (At.cons HPr.out.size HPr.out.c1 (At.cons hyb hy0 (At.cons hyb hy1 (At.cons hyb hy2 (At.cons hyb hy3 (At.cons hyb hy4 (At.cons hyb hy5 (At.cons hyb hy6 (At.nil _)))))))))
        clear hy hyo hy0 hy1 hy2 hy3 hy4 hy5 hy6
        cases hf : fitsB y
        · have dq : decide (y.quota < wrap64 (tenChg y)) = true := by simpa [fitsB] using hf
          have HFX := Lib.hid (show (if (tl.drop (k + 1)).all fitsB then (42 : Int) else 42) = if tl.all fitsB then 0 else 42 by rw [← HS.out, hst, hf]; simp)
          clear hf hst
          go_wp2_with fail
          clear c1
          refine region_C (by kernel_rfl) (by kernel_rfl) (Cls.start HAT.out) ?_
          repeat (first | go_big_quiet_skip | (go_big_quiet_want; (first | (apply q_val; (· (rintro w' ⟨hA, -⟩; have c0 := hA.hd; have c1 := hA.tl.hd; have c2 := hA.tl.tl.hd; have c3 := hA.tl.tl.tl.hd; have c4 := hA.tl.tl.tl.tl.hd; have c5 := hA.tl.tl.tl.tl.tl.hd; have c6 := hA.tl.tl.tl.tl.tl.tl.hd; have c7 := hA.tl.tl.tl.tl.tl.tl.tl.hd; clear hA; go_simp; try rfl))) | (apply q_call 30; (· (rintro w' ⟨hA, -⟩; have c0 := hA.hd; have c1 := hA.tl.hd; have c2 := hA.tl.tl.hd; have c3 := hA.tl.tl.tl.hd; have c4 := hA.tl.tl.tl.tl.hd; have c5 := hA.tl.tl.tl.tl.tl.hd; have c6 := hA.tl.tl.tl.tl.tl.tl.hd; have c7 := hA.tl.tl.tl.tl.tl.tl.tl.hd; clear hA; go_simp; try rfl)); (· (intro w' hC; exact (refCharge_any y w' (okTenant_below HYO.out hC.2)).mono (fun e w'' h => ⟨h.1, hC.later h.2⟩))))); simp only [Act.put, List.setIfInBounds_toArray, List.set_cons_zero, List.set_cons_succ]; go_big_quiet_on))
          refine wpQuiet_nil ?_
          intro w2 hC2
          have HP2 := Lib.hid (HPr.out.later hC2.2)
          clear hC2
          go_wp2_with fail
          go_roundg g
          case measure => omega
          case rel => exact ⟨k + 1, 42, by omega, by go_num, rfl, HFX.out, HP2.out⟩
        · have dq : decide (y.quota < wrap64 (tenChg y)) = false := by simpa [fitsB] using hf
          have HFX := Lib.hid (show (if (tl.drop (k + 1)).all fitsB then f else 42) = if tl.all fitsB then 0 else 42 by rw [← HS.out, hst, hf]; rfl)
          clear hf hst
          go_wp2_with fail
          clear c1
          refine region_C (by kernel_rfl) (by kernel_rfl) (Cls.start HAT.out) ?_
          repeat (first | go_big_quiet_skip | (go_big_quiet_want; (first | (apply q_val; (· (rintro w' ⟨hA, -⟩; have c0 := hA.hd; have c1 := hA.tl.hd; have c2 := hA.tl.tl.hd; have c3 := hA.tl.tl.tl.hd; have c4 := hA.tl.tl.tl.tl.hd; have c5 := hA.tl.tl.tl.tl.tl.hd; have c6 := hA.tl.tl.tl.tl.tl.tl.hd; have c7 := hA.tl.tl.tl.tl.tl.tl.tl.hd; clear hA; go_simp; try rfl))) | (apply q_call 30; (· (rintro w' ⟨hA, -⟩; have c0 := hA.hd; have c1 := hA.tl.hd; have c2 := hA.tl.tl.hd; have c3 := hA.tl.tl.tl.hd; have c4 := hA.tl.tl.tl.tl.hd; have c5 := hA.tl.tl.tl.tl.tl.hd; have c6 := hA.tl.tl.tl.tl.tl.tl.hd; have c7 := hA.tl.tl.tl.tl.tl.tl.tl.hd; clear hA; go_simp; try rfl)); (· (intro w' hC; exact (refCharge_any y w' (okTenant_below HYO.out hC.2)).mono (fun e w'' h => ⟨h.1, hC.later h.2⟩))))); simp only [Act.put, List.setIfInBounds_toArray, List.set_cons_zero, List.set_cons_succ]; go_big_quiet_on))
          refine wpQuiet_nil ?_
          intro w2 hC2
          have HP2 := Lib.hid (HPr.out.later hC2.2)
          clear hC2
          go_wp2_with fail
          go_roundg g
          case measure => omega
          case rel => exact ⟨k + 1, f, by omega, by go_num, rfl, HFX.out, HP2.out⟩

set_option maxRecDepth 100000 in
theorem lifted (os : Os) (started : os.Started) (H : Type) (enc : TypeId × Value → H) :
    ReturnsInHanded {} Try.checked os 11 .any (Rows.ledgerTellsSpec.pre6 enc Try.prog Try.f11 Rows.ledgerTellsRow.domain false) (Rows.ledgerTellsSpec.post enc Try.prog Try.f11 false true false false) := by
  refine returnsInHanded_of_change_sized (C := Try.checked) own started (by kernel_rfl) Try.func11
    (ChangeSpec.witness6 (enc := enc) (C := Try.checked) false ⟨#[], #[.agg #[.int .i64 0, .slice none 0 0, .slice none 0 0, .slice none 0 0], .int .i64 0], []⟩ 8 (by kernel_rfl) (by kernel_rfl) (by kernel_rfl) (by kernel_rfl)) ?_
  intro W base args ds gs before hval0 hW hcnd hsz _
  have hval : ∀ (j : Nat) t v, Try.f11.params[j]? = some t → args[j]? = some v → Value.okWide Try.prog W .any base t v := hval0
  have hW' := hW
  obtain ⟨p, q, hA0, hV, rfl, hfz, hnd⟩ := hW
  have hA : DataW.TrodAll enc Try.prog W 0 (fun _ => true) true Try.f11.params.toList args.toList ds p := hA0
  rw [Try.params11] at hA hval
  obtain ⟨v0, vs0, d0, ds0, p0, q0, hargs, rfl, rfl, h0, r0⟩ := trodAll_cons hA
  obtain ⟨v1, vs1, d1, ds1, p1, q1, rfl, rfl, rfl, h1, r1⟩ := trodAll_cons r0
  obtain ⟨rfl, rfl, rfl⟩ := trodAll_nil r1
  obtain rfl : args = #[v0, v1] := by cases args; simp_all
  obtain ⟨rfl, rfl⟩ := trodVars_none hV
  have k0 := h0
  have lt0 : ∀ x ∈ p0, x.block < W.heap.size := by obtain ⟨m, hm⟩ := k0; exact DataW.trod_lt m _ _ _ hm
  have hwt := fun n hn => of_decide_eq_true (List.all_eq_true.1 hsz n hn)
  obtain ⟨x0, rfl, o0, b0⟩ := agg_in reads_Pool (let ⟨cs, hc, _⟩ := okWide_struct Try.underlying72 (hval 0 72 v0 rfl rfl); ⟨cs, hc⟩) h0 (fun n hn => (hwt n (DataW.weights_mem_each (j := 0) rfl rfl n hn)))
  obtain ⟨a1, rfl, rfl, rfl, w1⟩ := open_int Try.underlying3 (hval 1 3 v1 rfl rfl) h1
  clear hA0 hval0
  refine (walk x0 a1 (inR_of_wf w1) W o0).mono fun e W' ⟨he, bel⟩ => ?_
  subst he
  exact ⟨_, rfl, _, _, _, [], _, [], hW', trodAll_mk1 (shut_bool Try.underlying4 _), (trodAll_cons_mk (Below.trod laidOut (by kernel_rfl) (of_decide_eq_true (by kernel_rfl)) k0 bel lt0) (trodAll_cons_mk (shut_int Try.underlying3 w1) trodAll_mk0)), rfl, bel.frame _, fun h => by cases h⟩

theorem over : Rows.ledgerTellsRow.holds Try.pinned (OpenSpec.ofChange Rows.ledgerTellsSpec) :=
  OpenClaim.holds_of_wide 11 Try.f11 rfl rfl rfl rfl rfl rfl rfl ⟨rfl, rfl, rfl, rfl, rfl⟩ rfl rfl rfl rfl rfl (by kernel_rfl) Try.func11 (by kernel_rfl)
    (of_decide_eq_true (by kernel_rfl)) (by unfold Func.isWrapper; first | (rw [if_pos (by decide +kernel)]; kernel_rfl) | (rw [if_neg (by decide +kernel)]; exact ⟨rfl, rfl⟩))
    (fun os started H enc _ => lifted os started H enc)

/-- THE STATEMENT -/
theorem proved : Rows.LedgerTellsSaid := over
#print axioms proved
end Go.Proofs.Ytbkghiaafkmapaa.ledgerTells
