/- Walks of package ledger and of the law's own sum of what is promised. No condition but that what comes in reads as data. -/
import Derived.Test.YtbkghiaafkmapaaLedger
import Derived.Deep.LoopGhost
namespace Go.Proofs.Ytbkghiaafkmapaa
open Go.ChangeShapes Go.WideShapes Go.ChangeAt Go.RowKit

set_option maxHeartbeats 1000000 in
theorem lawPromised_any (x : PoolD) (w : World) (h : okPool w x) :
    Calls Try.prog 43 #[.agg #[.int .i64 x.capacity, .slice x.tenants.a x.tenants.l.length x.tenants.c, .slice x.forced.a x.forced.l.length x.forced.c, .slice x.log.a x.log.l.length x.log.c]] w fun e w' => e = .returned (.tuple #[.int .i64 (addN (quotas x.tenants.l)), .int .i64 (addE (quotas x.tenants.l))]) ∧ Below w.heap.size w w' := by
  obtain ⟨cap, ⟨ta, tc, tl⟩, ⟨fa, fc, fl⟩, ⟨la, lc, ll⟩⟩ := x
  obtain ⟨-, ht, -, -⟩ := h
  have htl := IsSl.len ht
  have hqr := quotas_inR ht
  dsimp only at ht htl hqr ⊢
  have HQ := Lib.hid hqr
  have HT := Lib.hid ht
  clear hqr ht
  obtain ⟨i0, hi, hz0, hz1, hz2⟩ := info_parts info3
  have HI := Lib.hid (And.intro hi (And.intro hz0 (And.intro hz1 hz2)))
  clear hi hz0 hz1 hz2
  go_enter Try.func43, Try.ntmps43
  go_wp2_with fail
  have HP : Hid (PInv w ta tc tl 0 (.slice none 0 0) (w.alloc (.cells #[.int .i64 cap, .slice ta tl.length tc, .slice fa fl.length fc, .slice la ll.length lc] 72))) := ⟨(Below.refl _ _).alloc (Nat.le_refl _) _, by go_simp, by simp, World.ownsRow_nil _ _ _ _⟩
  go_loopg [4, 5] tl.length (fun g v i wr => ∃ k : Nat, k + g = tl.length ∧ i = .int .i64 k ∧ PInv w ta tc tl k v wr)
  case atStart => exact ⟨0, by omega, rfl, HP.out⟩
  case round =>
    obtain ⟨k, hkg, rfl, hP⟩ := hrel
    have HPr := Lib.hid hP
    have c1 := hP.c1
    clear hP HP
    cases gk with
    | zero =>
      have hlt : ¬ ((k : Int) < (tl.length : Int)) := by omega
      obtain ⟨va, vc, hv, hints⟩ := HPr.out.done (by omega) (by omega) HQ.out
      subst hv
      have HII := Lib.hid hints
      clear hints
      go_wp2_with fail
      refine (refAdd_any _ _ _ _ HII.out).mono ?_
      rintro e w2 ⟨rfl, rfl⟩
      go_wp2_with fail
      go_ret2
      exact ⟨rfl, HPr.out.below⟩
    | succ g =>
      have hlt : (k : Int) < (tl.length : Int) := by omega
      obtain ⟨y, b, off, hy, hya, -, hy0, hy1, hy2, hy3, hy4, hy5, hy6, -⟩ := (HT.out.below HPr.out.below).get (show k < tl.length by omega)
      have HY := Lib.hid hy
      have hsz := HPr.out.size
      subst hya
      clear hy
      go_wp2_with (at_builtin; refine wpList_append_own _ rfl _ _ 22 rfl (w.heap.size + 1) 3 i0 (.int .i64 0) 1 8 Try.underlying22 HI.out.1 HI.out.2.1 HI.out.2.2.1 HI.out.2.2.2 rfl (by decide) _ _ _ rfl (HPr.out.own.alloc _) ⟨wr.heap.size, 0, none⟩ 1 1 [.int .i64 y.quota] rfl rfl ?c1 ?c2 ?c3 ?c4 ?c5 ?_)
      case c1 =>
        intro j u hj
        match j, hj with
        | 0, hj => simp at hj; subst hj; go_simp
      case c2 => intro u hu; simp at hu; subst hu; rfl
      case c3 => unfold maxLen; omega
      case c4 => omega
      case c5 => simp; omega
      intro v' w1 hown' hgrow' _
      have HS := Lib.hid (HPr.out.step HY.out ((Below.refl _ _).alloc (Nat.le_refl _) _) hown' hgrow')
      clear hown' hgrow'
      go_wp2_with fail
      go_roundg g
      case measure => omega
      case rel => exact ⟨k + 1, by omega, by go_num, HS.out⟩


theorem addE_cases (zs : List Int) : addE zs = 0 ∨ addE zs = 4 ∨ addE zs = 15 := by
  unfold addE; split
  · split <;> simp
  · simp
theorem sumUp_le {zs : List Int} {s t : Int} (h : sumUp zs s = some t) (hs : 0 ≤ s ∧ s ≤ 1099511627776) (ha : amounts zs = true) : 0 ≤ t ∧ t ≤ 1099511627776 := by
  induction zs generalizing s with
  | nil => simp [sumUp] at h; omega
  | cons x l ih =>
    simp only [sumUp] at h
    have hx := amounts_at ha 0 (by simp)
    simp at hx
    split at h
    · cases h
    · exact ih h (by omega) (by simp only [amounts, List.all_cons, Bool.and_eq_true] at ha ⊢; exact ha.2)
theorem addN_range (zs : List Int) : 0 ≤ addN zs ∧ addN zs ≤ 1099511627776 := by
  unfold addN
  split
  · rename_i ha
    cases h : sumUp zs 0 with
    | none => simp
    | some t => simpa using sumUp_le h (by omega) ha
  · omega
theorem addN_zero {zs : List Int} (h : addE zs ≠ 0) : addN zs = 0 := by
  unfold addE at h
  unfold addN
  split
  · rename_i ha
    simp only [ha, if_true] at h
    cases hs : sumUp zs 0 with
    | none => rfl
    | some t => simp [hs] at h
  · rfl

def boundN (zs : List Int) : Int := if addE zs = 0 then 800 + 24 * addN zs else 0

set_option maxHeartbeats 400000 in
theorem Bound_any (x : PoolD) (w : World) (h : okPool w x) :
    Calls Try.prog 44 #[.agg #[.int .i64 x.capacity, .slice x.tenants.a x.tenants.l.length x.tenants.c, .slice x.forced.a x.forced.l.length x.forced.c, .slice x.log.a x.log.l.length x.log.c]] w fun e w' => e = .returned (.tuple #[.int .i64 (boundN (quotas x.tenants.l)), .int .i64 (addE (quotas x.tenants.l))]) ∧ Below w.heap.size w w' := by
  have hB : Below w.heap.size w (w.alloc (.cells #[.int .i64 x.capacity, .slice x.tenants.a x.tenants.l.length x.tenants.c, .slice x.forced.a x.forced.l.length x.forced.c, .slice x.log.a x.log.l.length x.log.c] 72)) := (Below.refl _ _).alloc (Nat.le_refl _) _
  have hC := Promised_any x _ (okPool_below h hB)
  obtain ⟨hn0, hn1⟩ := addN_range (quotas x.tenants.l)
  have HG : Hid (boundN (quotas x.tenants.l) = if addE (quotas x.tenants.l) = 0 then 800 + 24 * addN (quotas x.tenants.l) else 0) := rfl
  generalize boundN (quotas x.tenants.l) = bn at *
  generalize addN (quotas x.tenants.l) = n at *
  generalize addE (quotas x.tenants.l) = er at *
  have HC := Lib.hid hC
  have HB := Lib.hid hB
  clear hC hB h
  by_cases he : er = 0
  · subst he
    go_enter Try.func44, Try.ntmps44
    go_wp2_with fail
    refine HC.out.mono ?_
    rintro e w1 ⟨rfl, hb1⟩
    have HB1 := Lib.hid (HB.out.trans (hb1.mono HB.out.size))
    clear hb1
    go_wp2_with fail
    go_ret2
    exact ⟨ret_int2 (by rw [HG.out]; simp) rfl, HB1.out⟩
  · have hbe : (er != 0) = true := by simpa using he
    have HE := Lib.hid he
    clear he
    go_enter Try.func44, Try.ntmps44
    go_wp2_with fail
    refine HC.out.mono ?_
    rintro e w1 ⟨rfl, hb1⟩
    have HB1 := Lib.hid (HB.out.trans (hb1.mono HB.out.size))
    clear hb1
    go_wp2_with fail
    go_ret2
    exact ⟨ret_int2 (by rw [HG.out, if_neg HE.out]) rfl, HB1.out⟩

/-- is so much enough? -/
def enoughB (zs : List Int) (sectors : Int) : Bool := decide (addE zs = 0 ∧ 2 ≤ sectors ∧ 800 + 24 * addN zs ≤ (sectors - 2) / 2)

set_option maxHeartbeats 1000000 in
theorem Enough_any (x : PoolD) (sec : Int) (hsec : InR sec) (w : World) (h : okPool w x) :
    Calls Try.prog 46 #[.agg #[.int .i64 x.capacity, .slice x.tenants.a x.tenants.l.length x.tenants.c, .slice x.forced.a x.forced.l.length x.forced.c, .slice x.log.a x.log.l.length x.log.c], .int .i64 sec] w fun e w' => e = .returned (.bool (enoughB (quotas x.tenants.l) sec)) ∧ Below w.heap.size w w' := by
  have hB : Below w.heap.size w (w.alloc (.cells #[.int .i64 x.capacity, .slice x.tenants.a x.tenants.l.length x.tenants.c, .slice x.forced.a x.forced.l.length x.forced.c, .slice x.log.a x.log.l.length x.log.c] 72)) := (Below.refl _ _).alloc (Nat.le_refl _) _
  have hC := Bound_any x _ (okPool_below h hB)
  obtain ⟨hn0, hn1⟩ := addN_range (quotas x.tenants.l)
  have hbn : boundN (quotas x.tenants.l) = if addE (quotas x.tenants.l) = 0 then 800 + 24 * addN (quotas x.tenants.l) else 0 := rfl
  have hG : enoughB (quotas x.tenants.l) sec = decide (addE (quotas x.tenants.l) = 0 ∧ 2 ≤ sec ∧ 800 + 24 * addN (quotas x.tenants.l) ≤ (sec - 2) / 2) := rfl
  generalize enoughB (quotas x.tenants.l) sec = res at *
  generalize boundN (quotas x.tenants.l) = bn at *
  generalize addN (quotas x.tenants.l) = n at *
  generalize addE (quotas x.tenants.l) = er at *
  have HC := Lib.hid hC
  have HB := Lib.hid hB
  unfold InR at hsec
  clear hC hB h
  by_cases he : er = 0
  · subst he
    simp only [if_true, true_and] at hbn hG
    subst hbn
    by_cases h2 : 2 ≤ sec
    · have d2 : decide (2 ≤ sec) = true := decide_eq_true h2
      by_cases h3 : 800 + 24 * n ≤ (sec - 2) / 2
      · have d3 : decide (800 + 24 * n ≤ (sec - 2) / 2) = true := decide_eq_true h3
        have HR := Lib.hid (show res = true by rw [hG]; exact decide_eq_true ⟨h2, h3⟩)
        clear hG
        go_enter Try.func46, Try.ntmps46
        go_wp2_with fail
        refine HC.out.mono ?_
        rintro e w1 ⟨rfl, hb1⟩
        have HB1 := Lib.hid (HB.out.trans (hb1.mono HB.out.size))
        clear hb1
        go_wp2_with fail
        go_ret
        exact ⟨ret_bool HR.out.symm, HB1.out⟩
      · have d3 : decide (800 + 24 * n ≤ (sec - 2) / 2) = false := decide_eq_false h3
        have HR := Lib.hid (show res = false by rw [hG]; exact decide_eq_false fun hh => h3 hh.2)
        clear hG
        go_enter Try.func46, Try.ntmps46
        go_wp2_with fail
        refine HC.out.mono ?_
        rintro e w1 ⟨rfl, hb1⟩
        have HB1 := Lib.hid (HB.out.trans (hb1.mono HB.out.size))
        clear hb1
        go_wp2_with fail
        go_ret
        exact ⟨ret_bool HR.out.symm, HB1.out⟩
    · have d2 : decide (2 ≤ sec) = false := decide_eq_false h2
      have HR := Lib.hid (show res = false by rw [hG]; exact decide_eq_false fun hh => h2 hh.1)
      clear hG
      go_enter Try.func46, Try.ntmps46
      go_wp2_with fail
      refine HC.out.mono ?_
      rintro e w1 ⟨rfl, hb1⟩
      have HB1 := Lib.hid (HB.out.trans (hb1.mono HB.out.size))
      clear hb1
      go_wp2_with fail
      all_goals
        go_ret
        exact ⟨ret_bool HR.out.symm, HB1.out⟩
  · have hbe : (er == 0) = false := by simpa using he
    have HR := Lib.hid (show res = false by rw [hG]; exact decide_eq_false fun hh => he hh.1)
    clear hG hbn he
    go_enter Try.func46, Try.ntmps46
    go_wp2_with fail
    refine HC.out.mono ?_
    rintro e w1 ⟨rfl, hb1⟩
    have HB1 := Lib.hid (HB.out.trans (hb1.mono HB.out.size))
    clear hb1
    go_wp2_with fail
    go_ret
    exact ⟨ret_bool HR.out.symm, HB1.out⟩

theorem Capacity_any (n : Int) (w : World) (hn : InR n) : Calls Try.prog 40 #[.int .i64 n] w fun e w' => e = .returned (.int .i64 (if 1602 ≤ n ∧ n ≤ 8192 then (n - 1602) / 48 else 0)) ∧ w = w' := by
  unfold InR at hn
  by_cases h0 : n < 2
  · have d0 : decide (n < 2) = true := decide_eq_true h0
    go_enter Try.func40, Try.ntmps40
    go_wp2
    go_ret
    exact ⟨ret_int (by first | rfl | omega | (rw [if_neg (by omega)])), rfl⟩
  · have d0 : decide (n < 2) = false := decide_eq_false h0
    by_cases h1 : 8192 < n
    · have d1 : decide (8192 < n) = true := decide_eq_true h1
      go_enter Try.func40, Try.ntmps40
      go_wp2
      go_ret
      exact ⟨ret_int (by first | rfl | omega | (rw [if_neg (by omega)])), rfl⟩
    · have d1 : decide (8192 < n) = false := decide_eq_false h1
      by_cases h2 : 1602 ≤ n
      · go_enter Try.func40, Try.ntmps40
        go_wp2
        all_goals
          go_ret
          exact ⟨ret_int (by first | omega | (rw [if_pos (by omega)]; first | omega | (congr 1; omega) | (split <;> omega))), rfl⟩
      · go_enter Try.func40, Try.ntmps40
        go_wp2
        all_goals
          go_ret
          exact ⟨ret_int (by first | rfl | omega | (rw [if_neg (by omega)]; first | omega | (split <;> omega))), rfl⟩

theorem alive24 (w : World) : Calls Try.prog 39 #[] w fun e w' => e = .returned (.bool true) ∧ w = w' := by
  have HC := Lib.hid (Capacity_any 2000 w (by unfold InR; omega))
  have e : (if (1602 : Int) ≤ 2000 ∧ (2000 : Int) ≤ 8192 then ((2000 : Int) - 1602) / 48 else 0) = 8 := by decide
  rw [e] at HC
  go_enter Try.func39, Try.ntmps39
  go_wp2_with (go_at_call 40; refine HC.out.mono ?_; rintro e w' ⟨rfl, rfl⟩)
  go_ret
  exact ⟨rfl, rfl⟩

end Go.Proofs.Ytbkghiaafkmapaa
