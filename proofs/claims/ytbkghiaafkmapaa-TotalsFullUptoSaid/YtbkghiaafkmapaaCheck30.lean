/- The walk of the reference's check of a pool. No condition but paths' sizes. -/
import Derived.Test.YtbkghiaafkmapaaCheck14
import Derived.Test.YtbkghiaafkmapaaAdmit15
namespace Go.Proofs.Ytbkghiaafkmapaa
open Go.ChangeShapes Go.WideShapes Go.ChangeAt Go.RowKit

/-- a pool's paths are of no great size -/
structure SmallP (x : PoolD) : Prop where
  tenants : ∀ y ∈ x.tenants.l, SmallT y
  log : ∀ y ∈ x.log.l, y.path.size ≤ 1048576
theorem tenant_row {w : World} {a : Option Addr} {c : Nat} {l : List TenantD} (h : IsTenants w ⟨a, c, l⟩) {k : Nat} (hk : k < l.length) : ∃ (x : TenantD) (b off : Nat), l[k]? = some x ∧ a = some ⟨b, off, none⟩ ∧ b < w.heap.size ∧ w.rangeAt b (off + k * 7) (cellsTenant x) ∧ okTenant w x := by
  obtain ⟨⟨b, off, e, hlt, hc⟩, ho⟩ := IsSl.at' h k l[k] (List.getElem?_eq_getElem hk)
  exact ⟨l[k], b, off, List.getElem?_eq_getElem hk, e, hlt, fun j v hj => hc j v hj, ho⟩
theorem tenantE_two (x : TenantD) : tenantE x = 0 ∨ tenantE x = 9 := by unfold tenantE; split <;> simp
set_option maxRecDepth 100000 in
set_option maxHeartbeats 8000000 in
theorem Check30_any (x : PoolD) (w : World) (hx : okPool w x) (hs : SmallP x) :
    Calls Try.prog 49 #[.agg #[.int .i64 x.capacity, .slice x.tenants.a x.tenants.l.length x.tenants.c, .slice x.forced.a x.forced.l.length x.forced.c, .slice x.log.a x.log.l.length x.log.c]] w fun e w' => (∃ c, e = .returned (.int .i64 c) ∧ (c = 0 → admitE x.capacity x.tenants.l = 0)) ∧ Below w.heap.size w w' := by
  have HAD := Lib.hid (fun W hW => refAdmit_any x W (okPool_below hx hW))
  obtain ⟨xc, ⟨ta, tc, tl⟩, ⟨fa, fc, fl⟩, ⟨la, lc, ll⟩⟩ := x
  dsimp only at HAD ⊢
  have HX := Lib.hid hx
  have HSM := Lib.hid hs
  have HP := Lib.hid (fun W hW => Props_any fa fc fl W (IsProps.below hx.2.2.1 hW))
  have hl2 : tl.length * 128 ≤ _ := IsSl.len hx.2.1
  have hl3 : ll.length * 48 ≤ _ := IsSl.len hx.2.2.2
  clear hx hs
  have HB0 : Hid (Below w.heap.size w (w.alloc (.cells #[.int .i64 xc, .slice ta tl.length tc, .slice fa fl.length fc, .slice la ll.length lc] 72))) := (Below.refl _ _).alloc (Nat.le_refl _) _
  have HA0 : Hid (At (w.alloc (.cells #[.int .i64 xc, .slice ta tl.length tc, .slice fa fl.length fc, .slice la ll.length lc] 72)) [(w.heap.size, 0, .int .i64 xc), (w.heap.size, 1, .slice ta tl.length tc), (w.heap.size, 2, .slice fa fl.length fc), (w.heap.size, 3, .slice la ll.length lc)]) := .cons (by simp) (by go_simp) (.cons (by simp) (by go_simp) (.cons (by simp) (by go_simp) (.cons (by simp) (by go_simp) (.nil _))))
  generalize had : admitE xc tl = ad at *
  generalize hpe : propsE fl = pe at *
  clear had hpe
  go_enter Try.func49, Try.ntmps49
  cases h0 : decide (4 < tl.length)
  case true =>
    have g0 : decide ((4 : Int) < (tl.length : Int)) = true := by have := h0; simp at this ⊢; omega
    go_wp2_with fail
    go_ret
    exact ⟨⟨9, rfl, by intro h; omega⟩, HB0.out⟩
  case false =>
    have g0 : decide ((4 : Int) < (tl.length : Int)) = false := by have := h0; simp at this ⊢; omega
    cases h1 : decide (xc < 0)
    case true =>
      go_wp2_with fail
      go_ret
      exact ⟨⟨9, rfl, by intro h; omega⟩, HB0.out⟩
    case false =>
      cases h2 : decide (1099511627776 < xc)
      case true =>
        go_wp2_with fail
        go_ret
        exact ⟨⟨9, rfl, by intro h; omega⟩, HB0.out⟩
      case false =>
        go_wp2_with fail
        refine (HP.out _ HB0.out).mono ?_
        rintro e w1 ⟨rfl, hb⟩
        have HB1 := Lib.hid (HB0.out.trans (hb.mono HB0.out.size))
        have HA1 := Lib.hid (HA0.out.later hb)
        clear hb HB0 HA0
        have c0 := HA1.out.hd
        have c1 := HA1.out.tl.hd
        have c2 := HA1.out.tl.tl.hd
        have c3 := HA1.out.tl.tl.tl.hd
        cases h3 : pe == 0
        case false =>
          have g3 : (pe != 0) = true := by simp [bne, h3]
          go_wp2_with fail
          go_ret
          exact ⟨⟨9, rfl, by intro h; omega⟩, HB1.out⟩
        case true =>
          have g3 : (pe != 0) = false := by simp [bne, h3]
          cases h4 : decide (16 < ll.length)
          case true =>
            have g4 : decide ((16 : Int) < (ll.length : Int)) = true := by have := h4; simp at this ⊢; omega
            go_wp2_with fail
            go_ret
            exact ⟨⟨9, rfl, by intro h; omega⟩, HB1.out⟩
          case false =>
            have g4 : decide ((16 : Int) < (ll.length : Int)) = false := by have := h4; simp at this ⊢; omega
            go_wp2_with fail
            clear c0 c1 c2 c3
            go_loopw [3] (fun i wr => ∃ k : Nat, k ≤ ll.length ∧ i = .int .i64 k ∧ Below w.heap.size w wr ∧ At wr [(w.heap.size, 0, .int .i64 xc), (w.heap.size, 1, .slice ta tl.length tc), (w.heap.size, 2, .slice fa fl.length fc), (w.heap.size, 3, .slice la ll.length lc)]) (fun i _ => ll.length - (intOf i).toNat)
            case atStart => exact ⟨0, Nat.zero_le _, rfl, HB1.out, HA1.out⟩
            case round =>
              obtain ⟨k, hk, rfl, hb, hxb⟩ := hrel
              have HBr := Lib.hid hb
              have HXr := Lib.hid hxb
              clear hb
              have c0 := hxb.hd
              have c1 := hxb.tl.hd
              have c2 := hxb.tl.tl.hd
              have c3 := hxb.tl.tl.tl.hd
              clear hxb
              by_cases hlt : k < ll.length
              · have hl0 : (0 : Int) ≤ (k : Int) := by omega
                have hl1 : (k : Int) < (ll.length : Int) := by omega
                have hLw : IsEntrys w ⟨la, lc, ll⟩ := HX.out.2.2.2
                obtain ⟨y, b, off, hy, hya, hbw, y0, y1, y2, y3, -⟩ := (hLw.below HBr.out).get hlt
                obtain ⟨y', -, -, hy', -, -, -, -, -, -, hyo⟩ := hLw.get hlt
                obtain rfl : y = y' := by rw [hy] at hy'; exact Option.some.inj hy'
                have hym := List.mem_of_getElem? hy
                have HCC := Lib.hid (fun W hW => Entry_any y W (okEntry_below hyo hW) (HSM.out.log y hym))
                generalize hbt : entryB y = bt at *
                clear hbt hym hy hy' hyo hLw
                subst hya
                go_wp2_with fail
                refine (HCC.out _ HBr.out).mono ?_
                rintro e w9 ⟨rfl, hb9⟩
                have HB9 := Lib.hid (HBr.out.trans (hb9.mono HBr.out.size))
                have HX9 := Lib.hid (HXr.out.later hb9)
                clear hb9 c0 c1 c2 c3 y0 y1 y2 y3
                cases bt
                case false =>
                  go_wp2_with fail
                  go_ret
                  exact ⟨⟨9, rfl, by intro h; omega⟩, HB9.out⟩
                case true =>
                  go_wp2_with fail
                  go_roundw
                  case rel => exact ⟨k + 1, by omega, by go_num, HB9.out, HX9.out⟩
                  case measure => simp [intOf]; omega
              · clear hk
                go_wp2_with fail
                clear c0 c1 c2 c3
                have HBp := HBr
                have HXp := HXr
                clear HBr HXr
                go_loopw [4] (fun i wr => ∃ k : Nat, k ≤ tl.length ∧ i = .int .i64 k ∧ Below w.heap.size w wr ∧ At wr [(w.heap.size, 0, .int .i64 xc), (w.heap.size, 1, .slice ta tl.length tc), (w.heap.size, 2, .slice fa fl.length fc), (w.heap.size, 3, .slice la ll.length lc)]) (fun i _ => tl.length - (intOf i).toNat)
                case atStart => exact ⟨0, Nat.zero_le _, rfl, HBp.out, HXp.out⟩
                case round =>
                  obtain ⟨k, hk, rfl, hb, hxb⟩ := hrel
                  have HBr := Lib.hid hb
                  have HXr := Lib.hid hxb
                  clear hb
                  have c0 := hxb.hd
                  have c1 := hxb.tl.hd
                  have c2 := hxb.tl.tl.hd
                  have c3 := hxb.tl.tl.tl.hd
                  clear hxb
                  by_cases hlt : k < tl.length
                  · have hl0 : (0 : Int) ≤ (k : Int) := by omega
                    have hl1 : (k : Int) < (tl.length : Int) := by omega
                    have hLw : IsTenants w ⟨ta, tc, tl⟩ := HX.out.2.1
                    obtain ⟨y, b, off, hy, hya, hbw, hR, -⟩ := tenant_row (hLw.below HBr.out) hlt
                    obtain ⟨y', -, -, hy', -, -, -, hyo⟩ := tenant_row hLw hlt
                    obtain rfl : y = y' := by rw [hy] at hy'; exact Option.some.inj hy'
                    obtain ⟨z, b', off', hz, hya', -, hRz, -⟩ := tenant_row (hLw.below HBr.out) (show k - 1 < tl.length by omega)
                    obtain ⟨rfl, rfl⟩ : b = b' ∧ off = off' := by rw [hya] at hya'; simpa using hya'
                    have y0 := hR 0 _ rfl
                    have z0 := hRz 0 _ rfl
                    have HRr := Lib.hid hR
                    clear hya' hy' hR hRz
                    have hym := List.mem_of_getElem? hy
                    have HCC := Lib.hid (fun W hW => Check14_any y W (okTenant_below hyo hW) (HSM.out.tenants y hym))
                    have HAr : Hid (At wr [(b, off + k * 7, .string y.name), (b, off + (k - 1) * 7, .string z.name), (w.heap.size, 0, .int .i64 xc), (w.heap.size, 1, .slice ta tl.length tc), (w.heap.size, 2, .slice fa fl.length fc), (w.heap.size, 3, .slice la ll.length lc)]) := .cons hbw y0 (.cons hbw z0 HXr.out)
                    have hte := tenantE_two y
                    generalize hbt : tenantE y = bt at *
                    clear hbt hym hy hz hyo hLw y0 z0
                    subst hya
                    rcases hte with hte | hte
                    · subst hte
                      rcases Nat.eq_zero_or_pos k with hk0 | hk0
                      · have h7 : decide ((0 : Int) < (k : Int)) = false := by simp; omega
                        have h7n : decide (0 < k) = false := by simp; omega
                        clear hk0
                        go_wp2_with fail
                        clear c0 c1 c2 c3
                        refine region_C (by kernel_rfl) (by kernel_rfl) (ClsR.start HAr.out HRr.out hbw) ?_
                        repeat (first | go_big_quiet_skip | (go_big_quiet_want; (first | (refine q_load_mid 53 _ rfl b (off + k * 7) rfl (cellsTenant y) _ (fun _ h => h.2) Try.underlying53 rfl (hi53 y) ?_) | (apply q_val; (· (rintro w' ⟨⟨hA, -⟩, -⟩; have c0 := hA.hd; have c1 := hA.tl.hd; have c2 := hA.tl.tl.hd; have c3 := hA.tl.tl.tl.hd; have c4 := hA.tl.tl.tl.tl.hd; have c5 := hA.tl.tl.tl.tl.tl.hd; clear hA; go_simp; try rfl))) | (apply q_call 70; (· (rintro w' ⟨⟨hA, -⟩, -⟩; have c0 := hA.hd; have c1 := hA.tl.hd; have c2 := hA.tl.tl.hd; have c3 := hA.tl.tl.tl.hd; have c4 := hA.tl.tl.tl.tl.hd; have c5 := hA.tl.tl.tl.tl.tl.hd; clear hA; go_simp; try rfl)); (· (intro w' hC; exact (HCC.out _ (HBr.out.trans (hC.1.2.mono HBr.out.size))).mono (fun e w'' h => ⟨h.1, hC.later hbw h.2⟩))))); simp only [Act.put, List.setIfInBounds_toArray, List.set_cons_zero, List.set_cons_succ]; go_big_quiet_on))
                        refine wpQuiet_nil ?_
                        intro w9 hC9
                        have HB9 := Lib.hid (HBr.out.trans (hC9.1.2.mono HBr.out.size))
                        have HX9 : Hid (At w9 [(w.heap.size, 0, .int .i64 xc), (w.heap.size, 1, .slice (some ⟨b, off, none⟩) tl.length tc), (w.heap.size, 2, .slice fa fl.length fc), (w.heap.size, 3, .slice la ll.length lc)]) := hC9.1.1.tl.tl
                        clear hC9
                        go_wp2_with fail
                        go_roundw
                        case rel => exact ⟨k + 1, by omega, by go_num, HB9.out, HX9.out⟩
                        case measure => simp [intOf]; omega
                      · have h7 : decide ((0 : Int) < (k : Int)) = true := by simp; omega
                        have h8 : ((k : Int) - 1).toNat = k - 1 := by omega
                        have h9 : (1 : Int) ≤ (k : Int) := by omega
                        have h10 : 1 ≤ k := by omega
                        have h11 : IntKind.i64.wrap ((k : Int) - 1) = (k : Int) - 1 := by rw [i64_wrap]; exact wrap_in (by unfold InR; omega)
                        have h12 : (0 : Int) ≤ (k : Int) - 1 := by omega
                        have h13 : (k : Int) - 1 < (tl.length : Int) := by omega
                        rcases leS_ways y.name z.name with ⟨hl9, h5⟩ | ⟨hl9, h5, h6⟩ | ⟨hl9, h5, h6⟩
                        · clear hl9
                          go_wp2_with fail
                          clear c0 c1 c2 c3
                          refine region_C (by kernel_rfl) (by kernel_rfl) (ClsR.start HAr.out HRr.out hbw) ?_
                          repeat (first | go_big_quiet_skip | (go_big_quiet_want; (first | (refine q_load_mid 53 _ rfl b (off + k * 7) rfl (cellsTenant y) _ (fun _ h => h.2) Try.underlying53 rfl (hi53 y) ?_) | (apply q_val; (· (rintro w' ⟨⟨hA, -⟩, -⟩; have c0 := hA.hd; have c1 := hA.tl.hd; have c2 := hA.tl.tl.hd; have c3 := hA.tl.tl.tl.hd; have c4 := hA.tl.tl.tl.tl.hd; have c5 := hA.tl.tl.tl.tl.tl.hd; clear hA; go_simp; try rfl))) | (apply q_call 70; (· (rintro w' ⟨⟨hA, -⟩, -⟩; have c0 := hA.hd; have c1 := hA.tl.hd; have c2 := hA.tl.tl.hd; have c3 := hA.tl.tl.tl.hd; have c4 := hA.tl.tl.tl.tl.hd; have c5 := hA.tl.tl.tl.tl.tl.hd; clear hA; go_simp; try rfl)); (· (intro w' hC; exact (HCC.out _ (HBr.out.trans (hC.1.2.mono HBr.out.size))).mono (fun e w'' h => ⟨h.1, hC.later hbw h.2⟩))))); simp only [Act.put, List.setIfInBounds_toArray, List.set_cons_zero, List.set_cons_succ]; go_big_quiet_on))
                          refine wpQuiet_nil ?_
                          intro w9 hC9
                          have HB9 := Lib.hid (HBr.out.trans (hC9.1.2.mono HBr.out.size))
                          have HX9 : Hid (At w9 [(w.heap.size, 0, .int .i64 xc), (w.heap.size, 1, .slice (some ⟨b, off, none⟩) tl.length tc), (w.heap.size, 2, .slice fa fl.length fc), (w.heap.size, 3, .slice la ll.length lc)]) := hC9.1.1.tl.tl
                          clear hC9
                          go_wp2_with fail
                          go_ret
                          exact ⟨⟨9, rfl, by intro h; omega⟩, HB9.out⟩
                        · clear hl9
                          go_wp2_with fail
                          clear c0 c1 c2 c3
                          refine region_C (by kernel_rfl) (by kernel_rfl) (ClsR.start HAr.out HRr.out hbw) ?_
                          repeat (first | go_big_quiet_skip | (go_big_quiet_want; (first | (refine q_load_mid 53 _ rfl b (off + k * 7) rfl (cellsTenant y) _ (fun _ h => h.2) Try.underlying53 rfl (hi53 y) ?_) | (apply q_val; (· (rintro w' ⟨⟨hA, -⟩, -⟩; have c0 := hA.hd; have c1 := hA.tl.hd; have c2 := hA.tl.tl.hd; have c3 := hA.tl.tl.tl.hd; have c4 := hA.tl.tl.tl.tl.hd; have c5 := hA.tl.tl.tl.tl.tl.hd; clear hA; go_simp; try rfl))) | (apply q_call 70; (· (rintro w' ⟨⟨hA, -⟩, -⟩; have c0 := hA.hd; have c1 := hA.tl.hd; have c2 := hA.tl.tl.hd; have c3 := hA.tl.tl.tl.hd; have c4 := hA.tl.tl.tl.tl.hd; have c5 := hA.tl.tl.tl.tl.tl.hd; clear hA; go_simp; try rfl)); (· (intro w' hC; exact (HCC.out _ (HBr.out.trans (hC.1.2.mono HBr.out.size))).mono (fun e w'' h => ⟨h.1, hC.later hbw h.2⟩))))); simp only [Act.put, List.setIfInBounds_toArray, List.set_cons_zero, List.set_cons_succ]; go_big_quiet_on))
                          refine wpQuiet_nil ?_
                          intro w9 hC9
                          have HB9 := Lib.hid (HBr.out.trans (hC9.1.2.mono HBr.out.size))
                          have HX9 : Hid (At w9 [(w.heap.size, 0, .int .i64 xc), (w.heap.size, 1, .slice (some ⟨b, off, none⟩) tl.length tc), (w.heap.size, 2, .slice fa fl.length fc), (w.heap.size, 3, .slice la ll.length lc)]) := hC9.1.1.tl.tl
                          clear hC9
                          go_wp2_with fail
                          go_ret
                          exact ⟨⟨9, rfl, by intro h; omega⟩, HB9.out⟩
                        · clear hl9
                          go_wp2_with fail
                          clear c0 c1 c2 c3
                          refine region_C (by kernel_rfl) (by kernel_rfl) (ClsR.start HAr.out HRr.out hbw) ?_
                          repeat (first | go_big_quiet_skip | (go_big_quiet_want; (first | (refine q_load_mid 53 _ rfl b (off + k * 7) rfl (cellsTenant y) _ (fun _ h => h.2) Try.underlying53 rfl (hi53 y) ?_) | (apply q_val; (· (rintro w' ⟨⟨hA, -⟩, -⟩; have c0 := hA.hd; have c1 := hA.tl.hd; have c2 := hA.tl.tl.hd; have c3 := hA.tl.tl.tl.hd; have c4 := hA.tl.tl.tl.tl.hd; have c5 := hA.tl.tl.tl.tl.tl.hd; clear hA; go_simp; try rfl))) | (apply q_call 70; (· (rintro w' ⟨⟨hA, -⟩, -⟩; have c0 := hA.hd; have c1 := hA.tl.hd; have c2 := hA.tl.tl.hd; have c3 := hA.tl.tl.tl.hd; have c4 := hA.tl.tl.tl.tl.hd; have c5 := hA.tl.tl.tl.tl.tl.hd; clear hA; go_simp; try rfl)); (· (intro w' hC; exact (HCC.out _ (HBr.out.trans (hC.1.2.mono HBr.out.size))).mono (fun e w'' h => ⟨h.1, hC.later hbw h.2⟩))))); simp only [Act.put, List.setIfInBounds_toArray, List.set_cons_zero, List.set_cons_succ]; go_big_quiet_on))
                          refine wpQuiet_nil ?_
                          intro w9 hC9
                          have HB9 := Lib.hid (HBr.out.trans (hC9.1.2.mono HBr.out.size))
                          have HX9 : Hid (At w9 [(w.heap.size, 0, .int .i64 xc), (w.heap.size, 1, .slice (some ⟨b, off, none⟩) tl.length tc), (w.heap.size, 2, .slice fa fl.length fc), (w.heap.size, 3, .slice la ll.length lc)]) := hC9.1.1.tl.tl
                          clear hC9
                          go_wp2_with fail
                          go_roundw
                          case rel => exact ⟨k + 1, by omega, by go_num, HB9.out, HX9.out⟩
                          case measure => simp [intOf]; omega
                    · subst hte
                      go_wp2_with fail
                      clear c0 c1 c2 c3
                      refine region_C (by kernel_rfl) (by kernel_rfl) (ClsR.start HAr.out HRr.out hbw) ?_
                      repeat (first | go_big_quiet_skip | (go_big_quiet_want; (first | (refine q_load_mid 53 _ rfl b (off + k * 7) rfl (cellsTenant y) _ (fun _ h => h.2) Try.underlying53 rfl (hi53 y) ?_) | (apply q_val; (· (rintro w' ⟨⟨hA, -⟩, -⟩; have c0 := hA.hd; have c1 := hA.tl.hd; have c2 := hA.tl.tl.hd; have c3 := hA.tl.tl.tl.hd; have c4 := hA.tl.tl.tl.tl.hd; have c5 := hA.tl.tl.tl.tl.tl.hd; clear hA; go_simp; try rfl))) | (apply q_call 70; (· (rintro w' ⟨⟨hA, -⟩, -⟩; have c0 := hA.hd; have c1 := hA.tl.hd; have c2 := hA.tl.tl.hd; have c3 := hA.tl.tl.tl.hd; have c4 := hA.tl.tl.tl.tl.hd; have c5 := hA.tl.tl.tl.tl.tl.hd; clear hA; go_simp; try rfl)); (· (intro w' hC; exact (HCC.out _ (HBr.out.trans (hC.1.2.mono HBr.out.size))).mono (fun e w'' h => ⟨h.1, hC.later hbw h.2⟩))))); simp only [Act.put, List.setIfInBounds_toArray, List.set_cons_zero, List.set_cons_succ]; go_big_quiet_on))
                      refine wpQuiet_nil ?_
                      intro w9 hC9
                      have HB9 := Lib.hid (HBr.out.trans (hC9.1.2.mono HBr.out.size))
                      have HX9 : Hid (At w9 [(w.heap.size, 0, .int .i64 xc), (w.heap.size, 1, .slice (some ⟨b, off, none⟩) tl.length tc), (w.heap.size, 2, .slice fa fl.length fc), (w.heap.size, 3, .slice la ll.length lc)]) := hC9.1.1.tl.tl
                      clear hC9
                      go_wp2_with fail
                      go_ret
                      exact ⟨⟨9, rfl, by intro h; omega⟩, HB9.out⟩
                  · clear hk
                    go_wp2_with fail
                    refine (HAD.out _ HBr.out).mono ?_
                    rintro e w9 ⟨rfl, hb9⟩
                    have HB9 := Lib.hid (HBr.out.trans (hb9.mono HBr.out.size))
                    clear hb9 c0 c1 c2 c3
                    cases hd : ad == 0
                    case false =>
                      have hd2 : (ad != 0) = true := by simp [bne, hd]
                      go_wp2_with fail
                      go_ret
                      exact ⟨⟨9, rfl, by intro h; omega⟩, HB9.out⟩
                    case true =>
                      have hd2 : (ad != 0) = false := by simp [bne, hd]
                      go_wp2_with fail
                      go_ret
                      exact ⟨⟨0, rfl, fun _ => eq_of_beq hd⟩, HB9.out⟩
end Go.Proofs.Ytbkghiaafkmapaa
