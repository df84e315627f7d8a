/- godownlaw37.TotalsFull answers true for every pool of bulk at most 1048576 and every number. -/
import Derived.Test.YtbkghiaafkmapaaSmall
import Derived.Test.YtbkghiaafkmapaaFull
import Derived.Test.YtbkghiaafkmapaaTexts
import Derived.Test.YtbkghiaafkmapaaAlive37
import Derived.Test.YtbkghiaafkmapaaRowList
namespace Go.Proofs.Ytbkghiaafkmapaa.totalsFullUpto
open Go.ChangeShapes Go.WideShapes Go.ChangeAt Go.RowKit

set_option maxRecDepth 100000 in
set_option maxHeartbeats 8000000 in
theorem walk (x : PoolD) (q : Int) (w : World) (h : okPool w x) (hbk : bulkPool x ≤ 1048576) :
    Calls Try.prog 14 #[.agg #[.int .i64 x.capacity, .slice x.tenants.a x.tenants.l.length x.tenants.c, .slice x.forced.a x.forced.l.length x.forced.c, .slice x.log.a x.log.l.length x.log.c], .int .i64 q] w fun e w' => e = .returned (.bool true) ∧ Below w.heap.size w w' := by
  have HALL := Lib.hid (fun W hW => All_any x W (okPool_below h hW))
  have HFU := Lib.hid (fun W hW => Full_any x q W (okPool_below h hW))
  have HCK := Lib.hid (fun W hW => Check30_any x W (okPool_below h hW) (smallP_of hbk))
  have HLW : Hid (admitE x.capacity x.tenants.l = 0 → FullLaw x.capacity x.tenants.l) := full_law (tenants_bulk hbk)
  obtain ⟨cap, ⟨ta, tc, tl⟩, ⟨fa, fc, fl⟩, ⟨la, lc, ll⟩⟩ := x
  dsimp only at HALL HFU HCK HLW ⊢
  have HT : Hid (IsTenants w ⟨ta, tc, tl⟩) := h.2.1
  have hl2 : tl.length * 128 ≤ _ := IsSl.len h.2.1
  have HB0 : Hid (Below w.heap.size w (w.alloc (.cells #[.int .i64 cap, .slice ta tl.length tc, .slice fa fl.length fc, .slice la ll.length lc] 72))) := (Below.refl _ _).alloc (Nat.le_refl _) _
  have HA0 : Hid (At (w.alloc (.cells #[.int .i64 cap, .slice ta tl.length tc, .slice fa fl.length fc, .slice la ll.length lc] 72)) [(w.heap.size, 0, .int .i64 cap), (w.heap.size, 1, .slice ta tl.length tc), (w.heap.size, 2, .slice fa fl.length fc), (w.heap.size, 3, .slice la ll.length lc)]) := .cons (by simp) (by go_simp) (.cons (by simp) (by go_simp) (.cons (by simp) (by go_simp) (.cons (by simp) (by go_simp) (.nil _))))
  have HRL : Hid ((rowsOf tl).length = tl.length) := by show _ = _; simp [rowsOf]
  have HRG : Hid (∀ (k : Nat) (y : TenantD), tl[k]? = some y → (rowsOf tl)[k]? = some (rowOf y)) := fun k y hk => by simp [rowsOf, hk]
  have HE1 : Hid (admitE cap tl = 0 → sumE (rowsOf tl) = 0) := fun h => (HLW.out h).err
  have HE2 : Hid (admitE cap tl = 0 → (sumR (rowsOf tl)).charge ≤ (sumR (rowsOf tl)).quota) := fun h => (HLW.out h).charge
  have HE3 : Hid (admitE cap tl = 0 → (sumR (rowsOf tl)).quota ≤ cap) := fun h => (HLW.out h).quota
  have HE4 : Hid (admitE cap tl = 0 → ∀ y ∈ tl, shareN (rowOf y) ≤ 100) := fun h => (HLW.out h).share
  clear HLW h hbk
  generalize rowsOf tl = rl at *
  generalize admitE cap tl = ad at *
  obtain ⟨i0, hi, hz0, hz1, hz2⟩ := info_parts info9
  have HI := Lib.hid (And.intro hi (And.intro hz0 (And.intro hz1 hz2)))
  clear hi hz0 hz1 hz2
  go_enter Try.func14, Try.ntmps14
  go_wp2_with fail
  refine (alive37 _).mono ?_
  rintro e w1 ⟨rfl, hb⟩
  have HB1 := Lib.hid (HB0.out.trans (hb.mono HB0.out.size))
  have HA1 := Lib.hid (HA0.out.later hb)
  clear hb HB0 HA0
  have hA := HA1.out
  have c0 := hA.hd
  have c1 := hA.tl.hd
  have c2 := hA.tl.tl.hd
  have c3 := hA.tl.tl.tl.hd
  clear hA
  go_wp2_with fail
  refine (HALL.out _ HB1.out).mono ?_
  rintro e W1 ⟨va, vc, rfl, hrows, hb⟩
  have HB2 := Lib.hid (HB1.out.trans (hb.mono HB1.out.size))
  have HA2 := Lib.hid (HA1.out.later hb)
  have HR := Lib.hid hrows
  have hl3 := IsSl.len hrows
  have hz1 : w.heap.size < W1.heap.size := (HA2.out w.heap.size 0 _ (List.mem_cons_self ..)).1
  clear hb HB1 HA1 hrows HALL
  dsimp only at hl3
  rw [HRL.out] at hl3
  clear c0 c1 c2 c3
  have hA := HA2.out
  have c0 := hA.hd
  have c1 := hA.tl.hd
  have c2 := hA.tl.tl.hd
  have c3 := hA.tl.tl.tl.hd
  clear hA
  go_wp2_with fail
  clear c0 c1 c2 c3
  go_loopw [6, 7] (fun v i wr => ∃ k : Nat, k ≤ tl.length ∧ i = .int .i64 k ∧ Below W1.heap.size W1 wr ∧ wr.ownsRow W1.heap.size 9 1 v (fullOf q (rl.take k)).length ((fullOf q (rl.take k)).map Value.string)) (fun _ i _ => tl.length - (intOf i).toNat)
  case atStart => exact ⟨0, Nat.zero_le _, rfl, Below.refl _ _, by simp [World.ownsRow, fullOf]⟩
  case round =>
    obtain ⟨k, hk, rfl, hB, hO⟩ := hrel
    have HB := Lib.hid hB
    have HO := Lib.hid hO
    clear hB hO
    by_cases hlt : k < tl.length
    · have hl0 : (0 : Int) ≤ (k : Int) := by omega
      have hl1 : (k : Int) < (tl.length : Int) := by omega
      have hl4 : decide (tl.length ≤ k) = false := by simp; omega
      obtain ⟨y, b, off, hy, hya, hbw, hRt, hyo⟩ := tenant_row HT.out hlt
      obtain ⟨r, rb, roff, hr, hra, hrw, e0, e1, e2, e3, e4, e5, hro⟩ := IsRows.get HR.out (show k < rl.length by rw [HRL.out]; exact hlt)
      obtain rfl : r = rowOf y := by
        have h1 := HRG.out k y hy
        rw [hr] at h1
        exact Option.some.inj h1
      have HTK := Lib.hid (fullOf_take (p := q) hr)
      have HFL := Lib.hid (fullOf_len q (rl.take k))
      have HS := Lib.hid (fun W => Share_any (rowOf y) W hro)
      have HSL : Hid (ad = 0 → shareN (rowOf y) ≤ 100) := fun h => HE4.out h y (List.mem_of_getElem? hy)
      have hOf := fun W hW => Of_any y W (okTenant_below hyo hW)
      have hnm : y.name = (rowOf y).name := rfl
      have y0 := hRt 0 _ rfl
      generalize shareN (rowOf y) = sh at *
      generalize rowOf y = r at *
      obtain ⟨rn, r1, r2, r3, r4, r5⟩ := r
      dsimp only [cellsRow] at hnm e0 e1 e2 e3 e4 e5 HS hOf HTK
      have HO1 := Lib.hid hOf
      clear hOf
      have HAf : Hid (At W1 [(rb, roff + k * 6, .string rn), (rb, roff + k * 6 + 1, .int .i64 r1), (rb, roff + k * 6 + 2, .int .i64 r2), (rb, roff + k * 6 + 3, .int .i64 r3), (rb, roff + k * 6 + 4, .int .i64 r4), (rb, roff + k * 6 + 5, .int .i64 r5), (b, off + k * 7, .string rn), (w.heap.size, 0, .int .i64 cap), (w.heap.size, 1, .slice ta tl.length tc), (w.heap.size, 2, .slice fa fl.length fc), (w.heap.size, 3, .slice la ll.length lc)]) := .cons hrw e0 (.cons hrw e1 (.cons hrw e2 (.cons hrw e3 (.cons hrw e4 (.cons hrw e5 (.cons (by omega) (by rw [HB2.out.cell (p := ⟨b, off + k * 7, none⟩) hbw, ← hnm]; simpa using y0) HA2.out))))))
      have HRf : Hid (W1.rangeAt b (off + k * 7) (cellsTenant y)) := rangeAt_later hRt hbw HB2.out
      have hb1 : b < W1.heap.size := by omega
      have HX : Hid (cellsTenant y = cellsTenant y) := rfl
      clear e0 e1 e2 e3 e4 e5 y0 hRt hyo hro hr hy hnm hrw hbw
      subst hya
      subst hra
      have hA := HAf.out.later HB.out
      have c0 := hA.hd
      have c1 := hA.tl.hd
      have c2 := hA.tl.tl.hd
      have c3 := hA.tl.tl.tl.hd
      have c4 := hA.tl.tl.tl.tl.hd
      have c5 := hA.tl.tl.tl.tl.tl.hd
      have c6 := hA.tl.tl.tl.tl.tl.tl.hd
      have c7 := hA.tl.tl.tl.tl.tl.tl.tl.hd
      have c8 := hA.tl.tl.tl.tl.tl.tl.tl.tl.hd
      have c9 := hA.tl.tl.tl.tl.tl.tl.tl.tl.tl.hd
      have c10 := hA.tl.tl.tl.tl.tl.tl.tl.tl.tl.tl.hd
      clear hA
      go_wp2_with fail
      clear c0 c1 c2 c3 c4 c5 c6 c7 c8 c9 c10
      refine region_C (by kernel_rfl) (by kernel_rfl) (ClsR.start (HAf.out.later HB.out) (rangeAt_later HRf.out hb1 HB.out) (Nat.lt_of_lt_of_le hb1 HB.out.size)) ?_
      repeat (first | go_big_quiet_skip | (go_big_quiet_want; (first | (refine q_load_mid 53 _ rfl b (off + k * 7) rfl (cellsTenant y) _ (fun _ h => h.2) Try.underlying53 rfl (hi53 y) ?_) | (apply q_val; (· (rintro w' ⟨⟨hA, -⟩, -⟩; have c0 := hA.hd; have c1 := hA.tl.hd; have c2 := hA.tl.tl.hd; have c3 := hA.tl.tl.tl.hd; have c4 := hA.tl.tl.tl.tl.hd; have c5 := hA.tl.tl.tl.tl.tl.hd; have c6 := hA.tl.tl.tl.tl.tl.tl.hd; have c7 := hA.tl.tl.tl.tl.tl.tl.tl.hd; have c8 := hA.tl.tl.tl.tl.tl.tl.tl.tl.hd; have c9 := hA.tl.tl.tl.tl.tl.tl.tl.tl.tl.hd; have c10 := hA.tl.tl.tl.tl.tl.tl.tl.tl.tl.tl.hd; clear hA; go_simp; try rfl))) | (apply q_call 36; (· (rintro w' ⟨⟨hA, -⟩, -⟩; have c0 := hA.hd; have c1 := hA.tl.hd; have c2 := hA.tl.tl.hd; have c3 := hA.tl.tl.tl.hd; have c4 := hA.tl.tl.tl.tl.hd; have c5 := hA.tl.tl.tl.tl.tl.hd; have c6 := hA.tl.tl.tl.tl.tl.tl.hd; have c7 := hA.tl.tl.tl.tl.tl.tl.tl.hd; have c8 := hA.tl.tl.tl.tl.tl.tl.tl.tl.hd; have c9 := hA.tl.tl.tl.tl.tl.tl.tl.tl.tl.hd; have c10 := hA.tl.tl.tl.tl.tl.tl.tl.tl.tl.tl.hd; clear hA; go_simp; try rfl)); (· (intro w' hC; exact (HO1.out _ (HB2.out.trans ((HB.out.trans (hC.1.2.mono HB.out.size)).mono (Nat.le_of_lt hz1)))).mono (fun e w'' h => ⟨h.1, hC.later (Nat.lt_of_lt_of_le hb1 HB.out.size) h.2⟩))))); simp only [Act.put, List.setIfInBounds_toArray, List.set_cons_zero, List.set_cons_succ]; go_big_quiet_on))
      refine wpQuiet_nil ?_
      intro w9 hC9
      have HB9 := Lib.hid (HB.out.trans (hC9.1.2.mono HB.out.size))
      have HO9 := Lib.hid (owned_below HO.out hC9.1.2)
      clear hC9 HO1 HO
      have hA := HAf.out.later HB9.out
      have c0 := hA.hd
      have c1 := hA.tl.hd
      have c2 := hA.tl.tl.hd
      have c3 := hA.tl.tl.tl.hd
      have c4 := hA.tl.tl.tl.tl.hd
      have c5 := hA.tl.tl.tl.tl.tl.hd
      have c6 := hA.tl.tl.tl.tl.tl.tl.hd
      have c7 := hA.tl.tl.tl.tl.tl.tl.tl.hd
      have c8 := hA.tl.tl.tl.tl.tl.tl.tl.tl.hd
      have c9 := hA.tl.tl.tl.tl.tl.tl.tl.tl.tl.hd
      have c10 := hA.tl.tl.tl.tl.tl.tl.tl.tl.tl.tl.hd
      clear hA
      go_wp2_with fail
      refine (HS.out _).mono ?_
      rintro e w10 ⟨rfl, hb⟩
      have HB10 := Lib.hid (HB9.out.trans (hb.mono HB9.out.size))
      have HO10 := Lib.hid (owned_below HO9.out hb)
      clear hb HB9 HO9
      clear c0 c1 c2 c3 c4 c5 c6 c7 c8 c9 c10
      have hA := HAf.out.later HB10.out
      have c0 := hA.hd
      have c1 := hA.tl.hd
      have c2 := hA.tl.tl.hd
      have c3 := hA.tl.tl.tl.hd
      have c4 := hA.tl.tl.tl.tl.hd
      have c5 := hA.tl.tl.tl.tl.tl.hd
      have c6 := hA.tl.tl.tl.tl.tl.tl.hd
      have c7 := hA.tl.tl.tl.tl.tl.tl.tl.hd
      have c8 := hA.tl.tl.tl.tl.tl.tl.tl.tl.hd
      have c9 := hA.tl.tl.tl.tl.tl.tl.tl.tl.tl.hd
      have c10 := hA.tl.tl.tl.tl.tl.tl.tl.tl.tl.tl.hd
      clear hA
      by_cases hp : q ≤ sh
      · have hp' : decide (q ≤ sh) = true := decide_eq_true hp
        have HT2 : Hid (fullOf q (rl.take (k + 1)) = fullOf q (rl.take k) ++ [rn]) := by show _ = _; rw [HTK.out, if_pos hp]
        have hfl : (fullOf q (rl.take k)).length ≤ k := by have := HFL.out; simp at this; omega
        have hz3 : W1.heap.size ≤ w10.heap.size := HB10.out.size
        go_wp2_with (at_builtin; refine wpList_append_own _ rfl _ _ 40 rfl W1.heap.size 9 i0 _ 1 16 Try.underlying40 HI.out.1 HI.out.2.1 HI.out.2.2.1 HI.out.2.2.2 rfl (by decide) _ _ _ rfl (HO10.out.alloc _) ⟨w10.heap.size, 0, none⟩ 1 1 [.string rn] rfl rfl ?c1 ?c2 ?c3 ?c4 ?c5 ?_)
        case c1 =>
          intro j u hj
          match j, hj with
          | 0, hj => simp at hj; subst hj; go_simp
        case c2 => intro u hu; simp at hu; subst hu; rfl
        case c3 => unfold maxLen; omega
        case c4 => omega
        case c5 => simp; omega
        intro v' w3 hown hgrow _
        have hlt' := HO10.out.lt
        have HB3 := Lib.hid ((HB10.out.alloc HB10.out.size (.cells #[.string rn] 9)).grown hgrow (by simp; omega) (fun q hq => (hlt' q hq).1))
        have HO3 : Hid (w3.ownsRow W1.heap.size 9 1 v' (fullOf q (rl.take k) ++ [rn]).length ((fullOf q (rl.take k) ++ [rn]).map Value.string)) := by
          show World.ownsRow _ _ _ _ _ _ _
          simpa using hown
        clear hown hgrow hlt'
        clear c0 c1 c2 c3 c4 c5 c6 c7 c8 c9 c10
        have hA := HAf.out.later HB3.out
        have c0 := hA.hd
        have c1 := hA.tl.hd
        have c2 := hA.tl.tl.hd
        have c3 := hA.tl.tl.tl.hd
        have c4 := hA.tl.tl.tl.tl.hd
        have c5 := hA.tl.tl.tl.tl.tl.hd
        have c6 := hA.tl.tl.tl.tl.tl.tl.hd
        have c7 := hA.tl.tl.tl.tl.tl.tl.tl.hd
        have c8 := hA.tl.tl.tl.tl.tl.tl.tl.tl.hd
        have c9 := hA.tl.tl.tl.tl.tl.tl.tl.tl.tl.hd
        have c10 := hA.tl.tl.tl.tl.tl.tl.tl.tl.tl.tl.hd
        clear hA
        go_wp2_with fail
        refine (HCK.out _ (HB2.out.trans (HB3.out.mono (Nat.le_of_lt hz1)))).mono ?_
        rintro e w12 ⟨⟨c, rfl, hcz⟩, hb⟩
        have HB12 := Lib.hid (HB3.out.trans (hb.mono HB3.out.size))
        have HO12 := Lib.hid (owned_below HO3.out hb)
        clear hb
        clear c0 c1 c2 c3 c4 c5 c6 c7 c8 c9 c10
        have hA := HAf.out.later HB12.out
        have c0 := hA.hd
        have c1 := hA.tl.hd
        have c2 := hA.tl.tl.hd
        have c3 := hA.tl.tl.tl.hd
        have c4 := hA.tl.tl.tl.tl.hd
        have c5 := hA.tl.tl.tl.tl.tl.hd
        have c6 := hA.tl.tl.tl.tl.tl.tl.hd
        have c7 := hA.tl.tl.tl.tl.tl.tl.tl.hd
        have c8 := hA.tl.tl.tl.tl.tl.tl.tl.tl.hd
        have c9 := hA.tl.tl.tl.tl.tl.tl.tl.tl.tl.hd
        have c10 := hA.tl.tl.tl.tl.tl.tl.tl.tl.tl.tl.hd
        clear hA
        cases hc0 : c == 0
        case false =>
          go_wp2_with fail
          go_roundw
          case rel => exact ⟨k + 1, by omega, by go_num, HB12.out, by rw [HT2.out]; exact HO12.out⟩
          case measure => simp [intOf]; omega
        case true =>
          have hsh : decide (100 < sh) = false := by have := HSL.out (hcz (eq_of_beq hc0)); simp; omega
          go_wp2_with fail
          refine (HS.out _).mono ?_
          rintro e w13 ⟨rfl, hb⟩
          have HB13 := Lib.hid (HB12.out.trans (hb.mono HB12.out.size))
          have HO13 := Lib.hid (owned_below HO12.out hb)
          clear hb
          clear c0 c1 c2 c3 c4 c5 c6 c7 c8 c9 c10
          go_wp2_with fail
          go_roundw
          case rel => exact ⟨k + 1, by omega, by go_num, HB13.out, by rw [HT2.out]; exact HO13.out⟩
          case measure => simp [intOf]; omega
      · have hp' : decide (q ≤ sh) = false := decide_eq_false hp
        have HT2 : Hid (fullOf q (rl.take (k + 1)) = fullOf q (rl.take k)) := by show _ = _; rw [HTK.out, if_neg hp]
        go_wp2_with fail
        refine (HCK.out _ (HB2.out.trans (HB10.out.mono (Nat.le_of_lt hz1)))).mono ?_
        rintro e w12 ⟨⟨c, rfl, hcz⟩, hb⟩
        have HB12 := Lib.hid (HB10.out.trans (hb.mono HB10.out.size))
        have HO12 := Lib.hid (owned_below HO10.out hb)
        clear hb
        clear c0 c1 c2 c3 c4 c5 c6 c7 c8 c9 c10
        have hA := HAf.out.later HB12.out
        have c0 := hA.hd
        have c1 := hA.tl.hd
        have c2 := hA.tl.tl.hd
        have c3 := hA.tl.tl.tl.hd
        have c4 := hA.tl.tl.tl.tl.hd
        have c5 := hA.tl.tl.tl.tl.tl.hd
        have c6 := hA.tl.tl.tl.tl.tl.tl.hd
        have c7 := hA.tl.tl.tl.tl.tl.tl.tl.hd
        have c8 := hA.tl.tl.tl.tl.tl.tl.tl.tl.hd
        have c9 := hA.tl.tl.tl.tl.tl.tl.tl.tl.tl.hd
        have c10 := hA.tl.tl.tl.tl.tl.tl.tl.tl.tl.tl.hd
        clear hA
        cases hc0 : c == 0
        case false =>
          go_wp2_with fail
          go_roundw
          case rel => exact ⟨k + 1, by omega, by go_num, HB12.out, by rw [HT2.out]; exact HO12.out⟩
          case measure => simp [intOf]; omega
        case true =>
          have hsh : decide (100 < sh) = false := by have := HSL.out (hcz (eq_of_beq hc0)); simp; omega
          go_wp2_with fail
          refine (HS.out _).mono ?_
          rintro e w13 ⟨rfl, hb⟩
          have HB13 := Lib.hid (HB12.out.trans (hb.mono HB12.out.size))
          have HO13 := Lib.hid (owned_below HO12.out hb)
          clear hb
          clear c0 c1 c2 c3 c4 c5 c6 c7 c8 c9 c10
          go_wp2_with fail
          go_roundw
          case rel => exact ⟨k + 1, by omega, by go_num, HB13.out, by rw [HT2.out]; exact HO13.out⟩
          case measure => simp [intOf]; omega
    · have hO := HO.out
      obtain rfl : k = tl.length := by omega
      rw [List.take_of_length_le (by rw [HRL.out]; omega)] at hO
      obtain ⟨a, cp, hv, hst⟩ := strs_owned hO (by have := fullOf_len q rl; rw [HRL.out] at this; omega) (fun z hz => by
        obtain ⟨r, hr, rfl⟩ := fullOf_mem hz
        obtain ⟨j, hj⟩ := List.getElem?_of_mem hr
        exact (IsSl.at' HR.out j r hj).2.1)
      subst hv
      have HST := Lib.hid hst
      clear hO hst HO
      have hSU := fun W hW => Sum_any va vc rl W (HR.out.below hW)
      simp only [HRL.out, cellsRow] at hSU
      have hE2 := HE2.out
      have hE3 := HE3.out
      clear HE2 HE3
      have hE1 := HE1.out
      clear HE1
      generalize sumR rl = sr at *
      generalize sumE rl = er at *
      obtain ⟨sn, s1, s2, s3, s4, s5⟩ := sr
      dsimp only at hE2 hE3 hSU
      have HSU := Lib.hid hSU
      have HE1 := Lib.hid hE1
      have HE2 := Lib.hid hE2
      have HE3 := Lib.hid hE3
      clear hSU hE1 hE2 hE3 HE4
      have hA := HA2.out.later HB.out
      have c0 := hA.hd
      have c1 := hA.tl.hd
      have c2 := hA.tl.tl.hd
      have c3 := hA.tl.tl.tl.hd
      clear hA
      go_wp2_with fail
      refine (HSU.out _ HB.out).mono ?_
      rintro e ws ⟨rfl, hb⟩
      have HBs := Lib.hid (HB.out.trans (hb.mono HB.out.size))
      have HSTs := Lib.hid (HST.out.below hb)
      clear hb
      clear c0 c1 c2 c3
      have hA := HA2.out.later HBs.out
      have c0 := hA.hd
      have c1 := hA.tl.hd
      have c2 := hA.tl.tl.hd
      have c3 := hA.tl.tl.tl.hd
      clear hA
      have hzs : w.heap.size < ws.heap.size := Nat.lt_of_lt_of_le hz1 HBs.out.size
      go_wp2_with fail
      have HB9 : Hid (Below W1.heap.size W1 (ws.alloc (.cells #[.string sn, .int .i64 s1, .int .i64 s2, .int .i64 s3, .int .i64 s4, .int .i64 s5] 59))) := HBs.out.alloc HBs.out.size _
      refine (HCK.out _ (HB2.out.trans (HB9.out.mono (Nat.le_of_lt hz1)))).mono ?_
      rintro e wq ⟨⟨c, rfl, hcz⟩, hb⟩
      have HBq := Lib.hid (HB9.out.trans (hb.mono HB9.out.size))
      have HSTq := Lib.hid (HSTs.out.below (((Below.refl ws.heap.size ws).alloc (Nat.le_refl _) _).trans (hb.mono (by simp))))
      have d4 : wq.cell? ⟨ws.heap.size, 4, none⟩ = some (.int .i64 s4) := by rw [hb.cell (p := ⟨ws.heap.size, 4, none⟩) (by simp)]; go_simp
      have d5 : wq.cell? ⟨ws.heap.size, 5, none⟩ = some (.int .i64 s5) := by rw [hb.cell (p := ⟨ws.heap.size, 5, none⟩) (by simp)]; go_simp
      clear hb c0 c1 c2 c3
      have hA := HA2.out.later HBq.out
      have c0 := hA.hd
      have c1 := hA.tl.hd
      have c2 := hA.tl.tl.hd
      have c3 := hA.tl.tl.tl.hd
      clear hA
      cases hc0 : c == 0
      case false =>
        go_wp2_with fail
        refine (HFU.out _ (HB2.out.trans (HBq.out.mono (Nat.le_of_lt hz1)))).mono ?_
        rintro e wf ⟨xa, xc, rfl, hst, hb⟩
        have HBf := Lib.hid (HBq.out.trans (hb.mono HBq.out.size))
        have HSTf := Lib.hid (HSTq.out.below hb)
        have HSX := Lib.hid hst
        clear hb hst c0 c1 c2 c3
        go_wp2_with fail
        refine (Texts_same xa a xc cp (fullOf q rl) _ HSX.out HSTf.out).mono ?_
        rintro e wt ⟨rfl, hb⟩
        have HBt := Lib.hid (HBf.out.trans (hb.mono HBf.out.size))
        clear hb
        go_wp2_with fail
        go_ret
        exact ⟨rfl, HB2.out.trans (HBt.out.mono (Nat.le_of_lt hz1))⟩
      case true =>
        have had : ad = 0 := hcz (eq_of_beq hc0)
        obtain rfl : er = 0 := HE1.out had
        have k1 := HE2.out had
        have k2 := HE3.out had
        have k3 : decide (s5 < s4) = false := by simp; omega
        have k4 : decide (cap < s5) = false := by simp; omega
        go_wp2_with fail
        refine (HFU.out _ (HB2.out.trans (HBq.out.mono (Nat.le_of_lt hz1)))).mono ?_
        rintro e wf ⟨xa, xc, rfl, hst, hb⟩
        have HBf := Lib.hid (HBq.out.trans (hb.mono HBq.out.size))
        have HSTf := Lib.hid (HSTq.out.below hb)
        have HSX := Lib.hid hst
        clear hb hst c0 c1 c2 c3
        go_wp2_with fail
        refine (Texts_same xa a xc cp (fullOf q rl) _ HSX.out HSTf.out).mono ?_
        rintro e wt ⟨rfl, hb⟩
        have HBt := Lib.hid (HBf.out.trans (hb.mono HBf.out.size))
        clear hb
        go_wp2_with fail
        go_ret
        exact ⟨rfl, HB2.out.trans (HBt.out.mono (Nat.le_of_lt hz1))⟩
set_option maxRecDepth 100000 in
theorem contract (H : Type) (enc : TypeId × Value → H) (W : World) (base : Nat) (args : Array Value) (ds gs : List (DataW H)) (before : List MemPlace)
    (hval0 : ∀ (j : Nat) t v, Try.f14.params[j]? = some t → args[j]? = some v → Value.okWide Try.prog W .any base t v)
    (hW : DataW.Whole enc Try.prog Try.f14.params.toList Rows.totalsFullSpec.vars false W args.toList ds gs before) (hk : Rows.uptoSmall H (ds ++ gs) = true)
    (hsz : (DataW.weightsEach Try.prog (Try.f14.params.toList ++ (Rows.OpenSpec.upto Rows.totalsFullSpec).bare.plain.varTypes Try.prog) (ds ++ gs)).all (· ≤ reachBytes) = true) :
    Calls Try.prog 14 args W fun e W' => ∃ v, e = .returned v ∧ Rows.totalsFullSpec.post enc Try.prog Try.f14 false true false false W args v W' := by
  have hval : ∀ (j : Nat) t v, Try.f14.params[j]? = some t → args[j]? = some v → Value.okWide Try.prog W .any base t v := hval0
  have hW' := hW
  obtain ⟨p, q, hA0, hV, rfl, hfz, hnd⟩ := hW
  have hA : DataW.TrodAll enc Try.prog W 0 (fun _ => true) true Try.f14.params.toList args.toList ds p := hA0
  rw [Try.params14] at hA hval
  obtain ⟨v0, vs0, d0, ds0, p0, q0, hargs, rfl, rfl, h0, r0⟩ := trodAll_cons hA
  obtain ⟨v1, vs1, d1, ds1, p1, q1, rfl, rfl, rfl, h1, r1⟩ := trodAll_cons r0
  obtain ⟨rfl, rfl, rfl⟩ := trodAll_nil r1
  obtain rfl : args = #[v0, v1] := by cases args; simp_all
  obtain ⟨rfl, rfl⟩ := trodVars_none hV
  have k0 := h0
  have lt0 : ∀ x ∈ p0, x.block < W.heap.size := by obtain ⟨m, hm⟩ := k0; exact DataW.trod_lt m _ _ _ hm
  have hwt := fun n hn => of_decide_eq_true (List.all_eq_true.1 hsz n hn)
  obtain ⟨x0, rfl, o0, b0⟩ := agg_in reads_Pool (let ⟨cs, hc, _⟩ := okWide_struct Try.underlying72 (hval 0 72 v0 rfl rfl); ⟨cs, hc⟩) h0 (fun n hn => (hwt n (DataW.weights_mem_each (j := 0) rfl rfl n hn)))
  obtain ⟨a1, rfl, rfl, rfl, w1⟩ := open_int Try.underlying3 (hval 1 3 v1 rfl rfl) h1
  clear hA0 hval0
  have hbk : bulkPool x0 ≤ 1048576 := by
    have h := of_decide_eq_true hk
    simp only [List.append_nil, Rows.uptoBulkAll, Rows.uptoBulk] at h
    omega
  refine (walk x0 a1 W o0 hbk).mono fun e W' ⟨he, bel⟩ => ?_
  subst he
  exact ⟨_, rfl, _, _, _, [], _, [], hW', trodAll_mk1 (shut_bool Try.underlying4 _), (trodAll_cons_mk (Below.trod laidOut (by kernel_rfl) (of_decide_eq_true (by kernel_rfl)) k0 bel lt0) (trodAll_cons_mk (shut_int Try.underlying3 w1) trodAll_mk0)), rfl, bel.frame _, fun h => by cases h⟩

set_option maxRecDepth 100000 in
theorem lifted (os : Os) (started : os.Started) (H : Type) (enc : TypeId × Value → H) (F : Stop.Interp) :
    ReturnsInHanded {} Try.checked os 14 .any ((Rows.OpenSpec.upto Rows.totalsFullSpec).pre6 enc Try.prog Try.f14 Rows.totalsFullUptoRow.domain false) (((Rows.OpenSpec.upto Rows.totalsFullSpec).at F).post enc Try.prog Try.f14 false true false false) := by
  refine returnsInHanded_of_cond_sized (C := Try.checked) (s := Rows.OpenSpec.upto Rows.totalsFullSpec) (k := Rows.uptoSmall) rfl own started (by kernel_rfl) Try.func14
    (OpenSpec.witness (enc := enc) (C := Try.checked) (s := Rows.OpenSpec.upto Rows.totalsFullSpec) (k := Rows.uptoSmall) rfl false ⟨#[], #[.agg #[.int .i64 0, .slice none 0 0, .slice none 0 0, .slice none 0 0], .int .i64 0], []⟩ 8 (by kernel_rfl) (by kernel_rfl) (by kernel_rfl)
      (x := ([.agg [.lit (.int .i64 0), .nil, .nil, .nil], .lit (.int .i64 0)], [], [])) (by kernel_rfl) rfl (by kernel_rfl)) ?_
  intro W base args ds gs before hval hW _ hk hsz _
  exact contract H enc W base args ds gs before hval hW hk hsz

theorem over : Rows.totalsFullUptoRow.holds Try.pinned (Rows.OpenSpec.upto Rows.totalsFullSpec) :=
  OpenClaim.holds_of_cond 14 Try.f14 rfl rfl rfl rfl rfl rfl rfl ⟨rfl, rfl, rfl, rfl, rfl⟩ rfl rfl rfl rfl rfl (by kernel_rfl) Try.func14 (by kernel_rfl)
    (of_decide_eq_true (by kernel_rfl)) (by unfold Func.isWrapper; first | (rw [if_pos (by decide +kernel)]; kernel_rfl) | (rw [if_neg (by decide +kernel)]; exact ⟨rfl, rfl⟩))
    (fun os started H enc _ F => lifted os started H enc F)

/-- THE STATEMENT -/
theorem proved : Rows.TotalsFullUptoSaid := over
#print axioms proved
end Go.Proofs.Ytbkghiaafkmapaa.totalsFullUpto
