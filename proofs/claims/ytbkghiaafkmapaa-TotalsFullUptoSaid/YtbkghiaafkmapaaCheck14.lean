/- The walk of the reference's check of a tenant. No condition but paths' sizes. -/
import Derived.Test.YtbkghiaafkmapaaSet14
import Derived.Test.YtbkghiaafkmapaaGrants
import Derived.Test.YtbkghiaafkmapaaQuietMid
namespace Go.Proofs.Ytbkghiaafkmapaa
open Go.ChangeShapes Go.WideShapes Go.ChangeAt Go.RowKit

/-- a tenant's paths are of no great size -/
structure SmallT (x : TenantD) : Prop where
  sets : ∀ y ∈ x.sets.l, y.path.size ≤ 1048576 ∧ y.origin.size ≤ 1048576
  grants : ∀ y ∈ x.grants.l, y.path.size ≤ 1048576
  stages : ∀ y ∈ x.stages.l, y.into.size ≤ 1048576
  log : ∀ y ∈ x.log.l, y.path.size ≤ 1048576
def condT (x : TenantD) (i : Nat) : Bool := !setB x (x.sets.l.getD i default) || (decide (0 < i) && leS (x.sets.l.getD i default).path (x.sets.l.getD (i - 1) default).path)
def condU (l : List StageD) (i : Nat) : Bool := !stageB (l.getD i default) || (decide (0 < i) && leS (l.getD i default).into (l.getD (i - 1) default).into)
def condE (l : List EntryD) (i : Nat) : Bool := !entryB (l.getD i default)
def tenantB (x : TenantD) : Bool := (nameB x.name && (amountB x.quota 0 && (amountB x.next 1 && (!decide (32 < x.sets.l.length) && (!decide (findSet x.sets.l ⟨#[]⟩ < 0) && (grantsE x.grants.l == 0 && (!decide (4 < x.stages.l.length) && !decide (16 < x.log.l.length)))))))) && ((List.range x.sets.l.length).all (fun i => !condT x i) && ((List.range x.stages.l.length).all (fun i => !condU x.stages.l i) && (List.range x.log.l.length).all (fun i => !condE x.log.l i)))
def tenantE (x : TenantD) : Int := if tenantB x = true then 0 else 9
theorem pair_ways (p r : Bool) (k : Nat) :
    (p = false ∧ (!p || (decide (0 < k) && r)) = true) ∨ (p = true ∧ k = 0 ∧ (!p || (decide (0 < k) && r)) = false) ∨ (p = true ∧ 0 < k ∧ (!p || (decide (0 < k) && r)) = r) := by
  cases p
  · exact .inl ⟨rfl, by simp⟩
  · rcases Nat.eq_zero_or_pos k with h | h
    · exact .inr (.inl ⟨rfl, h, by simp [h]⟩)
    · exact .inr (.inr ⟨rfl, h, by simp [h]⟩)
set_option maxRecDepth 100000 in
set_option maxHeartbeats 8000000 in
theorem Check14_any (x : TenantD) (w : World) (hx : okTenant w x) (hs : SmallT x) :
    Calls Try.prog 70 #[.agg #[.string x.name, .int .i64 x.quota, .int .i64 x.next, .slice x.sets.a x.sets.l.length x.sets.c, .slice x.grants.a x.grants.l.length x.grants.c, .slice x.stages.a x.stages.l.length x.stages.c, .slice x.log.a x.log.l.length x.log.c]] w fun e w' => e = .returned (.int .i64 (tenantE x)) ∧ Below w.heap.size w w' := by
  obtain ⟨xn, xq, xt, ⟨sa, sc, sl⟩, ⟨ga, gc, gl⟩, ⟨ta, tc, tl⟩, ⟨la, lc, ll⟩⟩ := x
  dsimp only
  have HE : Hid (tenantE (⟨xn, xq, xt, ⟨sa, sc, sl⟩, ⟨ga, gc, gl⟩, ⟨ta, tc, tl⟩, ⟨la, lc, ll⟩⟩ : TenantD) = if tenantB (⟨xn, xq, xt, ⟨sa, sc, sl⟩, ⟨ga, gc, gl⟩, ⟨ta, tc, tl⟩, ⟨la, lc, ll⟩⟩ : TenantD) = true then 0 else 9) := rfl
  have HV : Hid (tenantB (⟨xn, xq, xt, ⟨sa, sc, sl⟩, ⟨ga, gc, gl⟩, ⟨ta, tc, tl⟩, ⟨la, lc, ll⟩⟩ : TenantD) = ((nameB xn && (amountB xq 0 && (amountB xt 1 && (!decide (32 < sl.length) && (!decide (findSet sl ⟨#[]⟩ < 0) && (grantsE gl == 0 && (!decide (4 < tl.length) && !decide (16 < ll.length)))))))) && ((List.range sl.length).all (fun i => !condT (⟨xn, xq, xt, ⟨sa, sc, sl⟩, ⟨ga, gc, gl⟩, ⟨ta, tc, tl⟩, ⟨la, lc, ll⟩⟩ : TenantD) i) && ((List.range tl.length).all (fun i => !condU tl i) && (List.range ll.length).all (fun i => !condE ll i))))) := rfl
  have HX := Lib.hid hx
  have HSM := Lib.hid hs
  have HN := Lib.hid (fun W (_ : Below w.heap.size w W) => Name_b xn W hx.1)
  have HM := Lib.hid (fun W (_ : Below w.heap.size w W) => amount_b xq 0 W)
  have HQ := Lib.hid (fun W (_ : Below w.heap.size w W) => amount_b xt 1 W)
  have HF := Lib.hid (fun W hW => Find_any (⟨xn, xq, xt, ⟨sa, sc, sl⟩, ⟨ga, gc, gl⟩, ⟨ta, tc, tl⟩, ⟨la, lc, ll⟩⟩ : TenantD) ⟨#[]⟩ W (okTenant_below hx hW))
  have HG := Lib.hid (fun W hW => Grants_any ga gc gl W (hx.2.2.2.2.1.below hW) hs.grants)
  have hl1 : sl.length * 104 ≤ _ := IsSl.len hx.2.2.2.1
  have hl2 : tl.length * 224 ≤ _ := IsSl.len hx.2.2.2.2.2.1
  have hl3 : ll.length * 48 ≤ _ := IsSl.len hx.2.2.2.2.2.2
  clear hx hs
  generalize tenantE (⟨xn, xq, xt, ⟨sa, sc, sl⟩, ⟨ga, gc, gl⟩, ⟨ta, tc, tl⟩, ⟨la, lc, ll⟩⟩ : TenantD) = te at *
  generalize tenantB (⟨xn, xq, xt, ⟨sa, sc, sl⟩, ⟨ga, gc, gl⟩, ⟨ta, tc, tl⟩, ⟨la, lc, ll⟩⟩ : TenantD) = bv at *
  have HB0 : Hid (Below w.heap.size w (w.alloc (.cells #[.string xn, .int .i64 xq, .int .i64 xt, .slice sa sl.length sc, .slice ga gl.length gc, .slice ta tl.length tc, .slice la ll.length lc] 53))) := (Below.refl _ _).alloc (Nat.le_refl _) _
  have HA0 : Hid (At (w.alloc (.cells #[.string xn, .int .i64 xq, .int .i64 xt, .slice sa sl.length sc, .slice ga gl.length gc, .slice ta tl.length tc, .slice la ll.length lc] 53)) [(w.heap.size, 0, .string xn), (w.heap.size, 1, .int .i64 xq), (w.heap.size, 2, .int .i64 xt), (w.heap.size, 3, .slice sa sl.length sc), (w.heap.size, 4, .slice ga gl.length gc), (w.heap.size, 5, .slice ta tl.length tc), (w.heap.size, 6, .slice la ll.length lc)]) := .cons (by simp) (by go_simp) (.cons (by simp) (by go_simp) (.cons (by simp) (by go_simp) (.cons (by simp) (by go_simp) (.cons (by simp) (by go_simp) (.cons (by simp) (by go_simp) (.cons (by simp) (by go_simp) (.nil _)))))))
  generalize hnb : nameB xn = nb at *
  generalize hna : amountB xq 0 = na at *
  generalize hnt : amountB xt 1 = nt at *
  generalize hnf : findSet sl ⟨#[]⟩ = nf at *
  generalize hng : grantsE gl = ng at *
  clear hnb hna hnt hnf hng
  go_enter Try.func70, Try.ntmps70
  go_wp2_with fail
  refine (HN.out _ HB0.out).mono ?_
  rintro e w1 ⟨rfl, hb⟩
  have HB1 := Lib.hid (HB0.out.trans (hb.mono HB0.out.size))
  have HA1 := Lib.hid (HA0.out.later hb)
  clear hb HB0 HA0
  have c0 := HA1.out.hd
  have c1 := HA1.out.tl.hd
  have c2 := HA1.out.tl.tl.hd
  have c3 := HA1.out.tl.tl.tl.hd
  have c4 := HA1.out.tl.tl.tl.tl.hd
  have c5 := HA1.out.tl.tl.tl.tl.tl.hd
  have c6 := HA1.out.tl.tl.tl.tl.tl.tl.hd
  cases h0 : nb
  case false =>
    have HF9 : bv = false := by rw [HV.out]; simp [h0]
    go_wp2_with fail
    go_ret
    exact ⟨ret_int (by rw [HE.out, HF9]; rfl), HB1.out⟩
  case true =>
    go_wp2_with fail
    refine (HM.out _ HB1.out).mono ?_
    rintro e w2 ⟨rfl, hb⟩
    have HB2 := Lib.hid (HB1.out.trans (hb.mono HB1.out.size))
    have HA2 := Lib.hid (HA1.out.later hb)
    clear hb HB1 HA1
    clear c0 c1 c2 c3 c4 c5 c6
    have c0 := HA2.out.hd
    have c1 := HA2.out.tl.hd
    have c2 := HA2.out.tl.tl.hd
    have c3 := HA2.out.tl.tl.tl.hd
    have c4 := HA2.out.tl.tl.tl.tl.hd
    have c5 := HA2.out.tl.tl.tl.tl.tl.hd
    have c6 := HA2.out.tl.tl.tl.tl.tl.tl.hd
    cases h1 : na
    case false =>
      have HF9 : bv = false := by rw [HV.out]; simp [h0, h1]
      go_wp2_with fail
      go_ret
      exact ⟨ret_int (by rw [HE.out, HF9]; rfl), HB2.out⟩
    case true =>
      go_wp2_with fail
      refine (HQ.out _ HB2.out).mono ?_
      rintro e w3 ⟨rfl, hb⟩
      have HB3 := Lib.hid (HB2.out.trans (hb.mono HB2.out.size))
      have HA3 := Lib.hid (HA2.out.later hb)
      clear hb HB2 HA2
      clear c0 c1 c2 c3 c4 c5 c6
      have c0 := HA3.out.hd
      have c1 := HA3.out.tl.hd
      have c2 := HA3.out.tl.tl.hd
      have c3 := HA3.out.tl.tl.tl.hd
      have c4 := HA3.out.tl.tl.tl.tl.hd
      have c5 := HA3.out.tl.tl.tl.tl.tl.hd
      have c6 := HA3.out.tl.tl.tl.tl.tl.tl.hd
      cases h2 : nt
      case false =>
        have HF9 : bv = false := by rw [HV.out]; simp [h0, h1, h2]
        go_wp2_with fail
        go_ret
        exact ⟨ret_int (by rw [HE.out, HF9]; rfl), HB3.out⟩
      case true =>
        cases h3 : decide (32 < sl.length)
        case true =>
          have g3 : decide ((32 : Int) < (sl.length : Int)) = true := by have := h3; simp at this ⊢; omega
          have HF9 : bv = false := by rw [HV.out]; simp [h0, h1, h2, h3]
          go_wp2_with fail
          go_ret
          exact ⟨ret_int (by rw [HE.out, HF9]; rfl), HB3.out⟩
        case false =>
          have g3 : decide ((32 : Int) < (sl.length : Int)) = false := by have := h3; simp at this ⊢; omega
          go_wp2_with fail
          refine (HF.out _ HB3.out).mono ?_
          rintro e w4 ⟨rfl, hb⟩
          have HB4 := Lib.hid (HB3.out.trans (hb.mono HB3.out.size))
          have HA4 := Lib.hid (HA3.out.later hb)
          clear hb HB3 HA3
          clear c0 c1 c2 c3 c4 c5 c6
          have c0 := HA4.out.hd
          have c1 := HA4.out.tl.hd
          have c2 := HA4.out.tl.tl.hd
          have c3 := HA4.out.tl.tl.tl.hd
          have c4 := HA4.out.tl.tl.tl.tl.hd
          have c5 := HA4.out.tl.tl.tl.tl.tl.hd
          have c6 := HA4.out.tl.tl.tl.tl.tl.tl.hd
          cases h4 : decide (nf < 0)
          case true =>
            have HF9 : bv = false := by rw [HV.out]; simp [h0, h1, h2, h3, h4]
            go_wp2_with fail
            go_ret
            exact ⟨ret_int (by rw [HE.out, HF9]; rfl), HB4.out⟩
          case false =>
            go_wp2_with fail
            refine (HG.out _ HB4.out).mono ?_
            rintro e w5 ⟨rfl, hb⟩
            have HB5 := Lib.hid (HB4.out.trans (hb.mono HB4.out.size))
            have HA5 := Lib.hid (HA4.out.later hb)
            clear hb HB4 HA4
            clear c0 c1 c2 c3 c4 c5 c6
            have c0 := HA5.out.hd
            have c1 := HA5.out.tl.hd
            have c2 := HA5.out.tl.tl.hd
            have c3 := HA5.out.tl.tl.tl.hd
            have c4 := HA5.out.tl.tl.tl.tl.hd
            have c5 := HA5.out.tl.tl.tl.tl.tl.hd
            have c6 := HA5.out.tl.tl.tl.tl.tl.tl.hd
            cases h5 : ng == 0
            case false =>
              have g5 : (ng != 0) = true := by simp [bne, h5]
              have HF9 : bv = false := by rw [HV.out]; simp [h0, h1, h2, h3, h4, h5]
              go_wp2_with fail
              go_ret
              exact ⟨ret_int (by rw [HE.out, HF9]; rfl), HB5.out⟩
            case true =>
              have g5 : (ng != 0) = false := by simp [bne, h5]
              cases h6 : decide (4 < tl.length)
              case true =>
                have g6 : decide ((4 : Int) < (tl.length : Int)) = true := by have := h6; simp at this ⊢; omega
                have HF9 : bv = false := by rw [HV.out]; simp [h0, h1, h2, h3, h4, h5, h6]
                go_wp2_with fail
                go_ret
                exact ⟨ret_int (by rw [HE.out, HF9]; rfl), HB5.out⟩
              case false =>
                have g6 : decide ((4 : Int) < (tl.length : Int)) = false := by have := h6; simp at this ⊢; omega
                cases h7 : decide (16 < ll.length)
                case true =>
                  have g7 : decide ((16 : Int) < (ll.length : Int)) = true := by have := h7; simp at this ⊢; omega
                  have HF9 : bv = false := by rw [HV.out]; simp [h0, h1, h2, h3, h4, h5, h6, h7]
                  go_wp2_with fail
                  go_ret
                  exact ⟨ret_int (by rw [HE.out, HF9]; rfl), HB5.out⟩
                case false =>
                  have g7 : decide ((16 : Int) < (ll.length : Int)) = false := by have := h7; simp at this ⊢; omega
                  have HT0 : Hid ((nb && (na && (nt && (!decide (32 < sl.length) && (!decide (nf < 0) && (ng == 0 && (!decide (4 < tl.length) && !decide (16 < ll.length)))))))) = true) := by show _ = _; simp [h0, h1, h2, h3, h4, h5, h6, h7]
                  rw [HT0.out] at HV
                  go_wp2_with fail
                  clear c0 c1 c2 c3 c4 c5 c6
                  go_loopw [3] (fun i wr => ∃ k : Nat, k ≤ sl.length ∧ i = .int .i64 k ∧ (List.range k).all (fun i => !condT (⟨xn, xq, xt, ⟨sa, sc, sl⟩, ⟨ga, gc, gl⟩, ⟨ta, tc, tl⟩, ⟨la, lc, ll⟩⟩ : TenantD) i) = true ∧ Below w.heap.size w wr ∧ At wr [(w.heap.size, 0, .string xn), (w.heap.size, 1, .int .i64 xq), (w.heap.size, 2, .int .i64 xt), (w.heap.size, 3, .slice sa sl.length sc), (w.heap.size, 4, .slice ga gl.length gc), (w.heap.size, 5, .slice ta tl.length tc), (w.heap.size, 6, .slice la ll.length lc)]) (fun i _ => sl.length - (intOf i).toNat)
                  case atStart => exact ⟨0, Nat.zero_le _, rfl, rfl, HB5.out, HA5.out⟩
                  case round =>
                    obtain ⟨k, hk, rfl, hd, hb, hxb⟩ := hrel
                    have HD := Lib.hid hd
                    have HBr := Lib.hid hb
                    have HXr := Lib.hid hxb
                    clear hd hb
                    have c0 := hxb.hd
                    have c1 := hxb.tl.hd
                    have c2 := hxb.tl.tl.hd
                    have c3 := hxb.tl.tl.tl.hd
                    have c4 := hxb.tl.tl.tl.tl.hd
                    have c5 := hxb.tl.tl.tl.tl.tl.hd
                    have c6 := hxb.tl.tl.tl.tl.tl.tl.hd
                    clear hxb
                    by_cases hlt : k < sl.length
                    · have hl0 : (0 : Int) ≤ (k : Int) := by omega
                      have hl1 : (k : Int) < (sl.length : Int) := by omega
                      have hLw : IsSets w ⟨sa, sc, sl⟩ := HX.out.2.2.2.1
                      obtain ⟨y, b, off, hy, hya, hbw, y0, y1, y2, y3, y4, -⟩ := (hLw.below HBr.out).get hlt
                      obtain ⟨y', -, -, hy', -, -, -, -, -, -, -, hyo⟩ := hLw.get hlt
                      obtain rfl : y = y' := by rw [hy] at hy'; exact Option.some.inj hy'
                      obtain ⟨z, b', off', hz, hya', -, z0, -, -, -, -, -⟩ := (hLw.below HBr.out).get (show k - 1 < sl.length by omega)
                      obtain ⟨rfl, rfl⟩ : b = b' ∧ off = off' := by rw [hya] at hya'; simpa using hya'
                      clear hya' hy'
                      have HST := Lib.hid (range_step (fun i => !condT (⟨xn, xq, xt, ⟨sa, sc, sl⟩, ⟨ga, gc, gl⟩, ⟨ta, tc, tl⟩, ⟨la, lc, ll⟩⟩ : TenantD) i) k)
                      have HFr := Lib.hid (fun h => range_bad (fun i => !condT (⟨xn, xq, xt, ⟨sa, sc, sl⟩, ⟨ga, gc, gl⟩, ⟨ta, tc, tl⟩, ⟨la, lc, ll⟩⟩ : TenantD) i) hlt h)
                      have HCD : Hid (condT (⟨xn, xq, xt, ⟨sa, sc, sl⟩, ⟨ga, gc, gl⟩, ⟨ta, tc, tl⟩, ⟨la, lc, ll⟩⟩ : TenantD) k = (!setB (⟨xn, xq, xt, ⟨sa, sc, sl⟩, ⟨ga, gc, gl⟩, ⟨ta, tc, tl⟩, ⟨la, lc, ll⟩⟩ : TenantD) y || (decide (0 < k) && leS y.path z.path))) := by show _ = _; simp [condT, List.getD, hy, hz]
                      have hym := List.mem_of_getElem? hy
                      have HCC := Lib.hid (fun W hW => set14_any (⟨xn, xq, xt, ⟨sa, sc, sl⟩, ⟨ga, gc, gl⟩, ⟨ta, tc, tl⟩, ⟨la, lc, ll⟩⟩ : TenantD) y W (okTenant_below HX.out hW) (okSet_below hyo hW) (HSM.out.sets y hym).1 (HSM.out.sets y hym).2)
                      have HAr : Hid (At wr [(b, off + k * 5, .string y.path), (b, off + k * 5 + 1, .string y.origin), (b, off + k * 5 + 2, .slice y.body.a y.body.l.length y.body.c), (b, off + k * 5 + 3, .slice y.snaps.a y.snaps.l.length y.snaps.c), (b, off + k * 5 + 4, .slice y.own.a y.own.l.length y.own.c), (b, off + (k - 1) * 5, .string z.path), (w.heap.size, 0, .string xn), (w.heap.size, 1, .int .i64 xq), (w.heap.size, 2, .int .i64 xt), (w.heap.size, 3, .slice sa sl.length sc), (w.heap.size, 4, .slice ga gl.length gc), (w.heap.size, 5, .slice ta tl.length tc), (w.heap.size, 6, .slice la ll.length lc)]) := .cons hbw y0 (.cons hbw y1 (.cons hbw y2 (.cons hbw y3 (.cons hbw y4 (.cons hbw z0 HXr.out)))))
                      generalize hbt : setB (⟨xn, xq, xt, ⟨sa, sc, sl⟩, ⟨ga, gc, gl⟩, ⟨ta, tc, tl⟩, ⟨la, lc, ll⟩⟩ : TenantD) y = bt at *
                      clear hbt hym hy hz hyo hLw
                      rcases pair_ways bt (leS y.path z.path) k with ⟨hn, hc⟩ | ⟨hn, hk0, hc⟩ | ⟨hn, hk0, hc⟩
                      · subst hn
                        subst hya
                        have HC : Hid (condT (⟨xn, xq, xt, ⟨some ⟨b, off, none⟩, sc, sl⟩, ⟨ga, gc, gl⟩, ⟨ta, tc, tl⟩, ⟨la, lc, ll⟩⟩ : TenantD) k = true) := by show _ = _; rw [HCD.out, hc]
                        have HC2 : Hid ((fun i => !condT (⟨xn, xq, xt, ⟨some ⟨b, off, none⟩, sc, sl⟩, ⟨ga, gc, gl⟩, ⟨ta, tc, tl⟩, ⟨la, lc, ll⟩⟩ : TenantD) i) k = false) := by show (!condT (⟨xn, xq, xt, ⟨some ⟨b, off, none⟩, sc, sl⟩, ⟨ga, gc, gl⟩, ⟨ta, tc, tl⟩, ⟨la, lc, ll⟩⟩ : TenantD) k) = false; rw [HC.out]; rfl
                        clear hc
                        go_wp2_with fail
                        clear c0 c1 c2 c3 c4 c5 c6 y0 y1 y2 y3 y4 z0
                        refine region_C (by kernel_rfl) (by kernel_rfl) (Cls.start HAr.out) ?_
                        repeat (first | go_big_quiet_skip | (go_big_quiet_want; (first | (apply q_val; (· (rintro w' ⟨hA, -⟩; have c0 := hA.hd; have c1 := hA.tl.hd; have c2 := hA.tl.tl.hd; have c3 := hA.tl.tl.tl.hd; have c4 := hA.tl.tl.tl.tl.hd; have c5 := hA.tl.tl.tl.tl.tl.hd; have c6 := hA.tl.tl.tl.tl.tl.tl.hd; have c7 := hA.tl.tl.tl.tl.tl.tl.tl.hd; have c8 := hA.tl.tl.tl.tl.tl.tl.tl.tl.hd; have c9 := hA.tl.tl.tl.tl.tl.tl.tl.tl.tl.hd; have c10 := hA.tl.tl.tl.tl.tl.tl.tl.tl.tl.tl.hd; have c11 := hA.tl.tl.tl.tl.tl.tl.tl.tl.tl.tl.tl.hd; have c12 := hA.tl.tl.tl.tl.tl.tl.tl.tl.tl.tl.tl.tl.hd; clear hA; go_simp; try rfl))) | (apply q_call 82; (· (rintro w' ⟨hA, -⟩; have c0 := hA.hd; have c1 := hA.tl.hd; have c2 := hA.tl.tl.hd; have c3 := hA.tl.tl.tl.hd; have c4 := hA.tl.tl.tl.tl.hd; have c5 := hA.tl.tl.tl.tl.tl.hd; have c6 := hA.tl.tl.tl.tl.tl.tl.hd; have c7 := hA.tl.tl.tl.tl.tl.tl.tl.hd; have c8 := hA.tl.tl.tl.tl.tl.tl.tl.tl.hd; have c9 := hA.tl.tl.tl.tl.tl.tl.tl.tl.tl.hd; have c10 := hA.tl.tl.tl.tl.tl.tl.tl.tl.tl.tl.hd; have c11 := hA.tl.tl.tl.tl.tl.tl.tl.tl.tl.tl.tl.hd; have c12 := hA.tl.tl.tl.tl.tl.tl.tl.tl.tl.tl.tl.tl.hd; clear hA; go_simp; try rfl)); (· (intro w' hC; exact (HCC.out _ (HBr.out.trans (hC.2.mono HBr.out.size))).mono (fun e w'' h => ⟨h.1, hC.later h.2⟩))))); simp only [Act.put, List.setIfInBounds_toArray, List.set_cons_zero, List.set_cons_succ]; go_big_quiet_on))
                        refine wpQuiet_nil ?_
                        intro w9 hC9
                        have HB9 := Lib.hid (HBr.out.trans (hC9.2.mono HBr.out.size))
                        have HX9 : Hid (At w9 [(w.heap.size, 0, .string xn), (w.heap.size, 1, .int .i64 xq), (w.heap.size, 2, .int .i64 xt), (w.heap.size, 3, .slice (some ⟨b, off, none⟩) sl.length sc), (w.heap.size, 4, .slice ga gl.length gc), (w.heap.size, 5, .slice ta tl.length tc), (w.heap.size, 6, .slice la ll.length lc)]) := hC9.1.tl.tl.tl.tl.tl.tl
                        clear hC9
                        go_wp2_with fail
                        have HF9 : bv = false := by rw [HV.out, HFr.out HC2.out]; simp
                        go_ret
                        exact ⟨ret_int (by rw [HE.out, HF9]; rfl), HB9.out⟩
                      · subst hn
                        subst hya
                        have h7 : decide ((0 : Int) < (k : Int)) = false := by simp; omega
                        have h7n : decide (0 < k) = false := by simp; omega
                        clear hk0
                        have HC : Hid (condT (⟨xn, xq, xt, ⟨some ⟨b, off, none⟩, sc, sl⟩, ⟨ga, gc, gl⟩, ⟨ta, tc, tl⟩, ⟨la, lc, ll⟩⟩ : TenantD) k = false) := by show _ = _; rw [HCD.out, hc]
                        clear hc
                        go_wp2_with fail
                        clear c0 c1 c2 c3 c4 c5 c6 y0 y1 y2 y3 y4 z0
                        refine region_C (by kernel_rfl) (by kernel_rfl) (Cls.start HAr.out) ?_
                        repeat (first | go_big_quiet_skip | (go_big_quiet_want; (first | (apply q_val; (· (rintro w' ⟨hA, -⟩; have c0 := hA.hd; have c1 := hA.tl.hd; have c2 := hA.tl.tl.hd; have c3 := hA.tl.tl.tl.hd; have c4 := hA.tl.tl.tl.tl.hd; have c5 := hA.tl.tl.tl.tl.tl.hd; have c6 := hA.tl.tl.tl.tl.tl.tl.hd; have c7 := hA.tl.tl.tl.tl.tl.tl.tl.hd; have c8 := hA.tl.tl.tl.tl.tl.tl.tl.tl.hd; have c9 := hA.tl.tl.tl.tl.tl.tl.tl.tl.tl.hd; have c10 := hA.tl.tl.tl.tl.tl.tl.tl.tl.tl.tl.hd; have c11 := hA.tl.tl.tl.tl.tl.tl.tl.tl.tl.tl.tl.hd; have c12 := hA.tl.tl.tl.tl.tl.tl.tl.tl.tl.tl.tl.tl.hd; clear hA; go_simp; try rfl))) | (apply q_call 82; (· (rintro w' ⟨hA, -⟩; have c0 := hA.hd; have c1 := hA.tl.hd; have c2 := hA.tl.tl.hd; have c3 := hA.tl.tl.tl.hd; have c4 := hA.tl.tl.tl.tl.hd; have c5 := hA.tl.tl.tl.tl.tl.hd; have c6 := hA.tl.tl.tl.tl.tl.tl.hd; have c7 := hA.tl.tl.tl.tl.tl.tl.tl.hd; have c8 := hA.tl.tl.tl.tl.tl.tl.tl.tl.hd; have c9 := hA.tl.tl.tl.tl.tl.tl.tl.tl.tl.hd; have c10 := hA.tl.tl.tl.tl.tl.tl.tl.tl.tl.tl.hd; have c11 := hA.tl.tl.tl.tl.tl.tl.tl.tl.tl.tl.tl.hd; have c12 := hA.tl.tl.tl.tl.tl.tl.tl.tl.tl.tl.tl.tl.hd; clear hA; go_simp; try rfl)); (· (intro w' hC; exact (HCC.out _ (HBr.out.trans (hC.2.mono HBr.out.size))).mono (fun e w'' h => ⟨h.1, hC.later h.2⟩))))); simp only [Act.put, List.setIfInBounds_toArray, List.set_cons_zero, List.set_cons_succ]; go_big_quiet_on))
                        refine wpQuiet_nil ?_
                        intro w9 hC9
                        have HB9 := Lib.hid (HBr.out.trans (hC9.2.mono HBr.out.size))
                        have HX9 : Hid (At w9 [(w.heap.size, 0, .string xn), (w.heap.size, 1, .int .i64 xq), (w.heap.size, 2, .int .i64 xt), (w.heap.size, 3, .slice (some ⟨b, off, none⟩) sl.length sc), (w.heap.size, 4, .slice ga gl.length gc), (w.heap.size, 5, .slice ta tl.length tc), (w.heap.size, 6, .slice la ll.length lc)]) := hC9.1.tl.tl.tl.tl.tl.tl
                        clear hC9
                        go_wp2_with fail
                        go_roundw
                        case rel => exact ⟨k + 1, by omega, by go_num, by rw [HST.out, HD.out, HC.out]; rfl, HB9.out, HX9.out⟩
                        case measure => simp [intOf]; omega
                      · subst hn
                        subst hya
                        have h7 : decide ((0 : Int) < (k : Int)) = true := by simp; omega
                        have h8 : ((k : Int) - 1).toNat = k - 1 := by omega
                        have h9 : (1 : Int) ≤ (k : Int) := by omega
                        have h10 : 1 ≤ k := by omega
                        have h11 : IntKind.i64.wrap ((k : Int) - 1) = (k : Int) - 1 := by rw [i64_wrap]; exact wrap_in (by unfold InR; omega)
                        have h12 : (0 : Int) ≤ (k : Int) - 1 := by omega
                        have h13 : (k : Int) - 1 < (sl.length : Int) := by omega
                        rcases leS_ways y.path z.path with ⟨hl2, h5⟩ | ⟨hl2, h5, h6⟩ | ⟨hl2, h5, h6⟩
                        · replace hc := hc.trans hl2
                          clear hl2
                          have HC : Hid (condT (⟨xn, xq, xt, ⟨some ⟨b, off, none⟩, sc, sl⟩, ⟨ga, gc, gl⟩, ⟨ta, tc, tl⟩, ⟨la, lc, ll⟩⟩ : TenantD) k = true) := by show _ = _; rw [HCD.out, hc]
                          have HC2 : Hid ((fun i => !condT (⟨xn, xq, xt, ⟨some ⟨b, off, none⟩, sc, sl⟩, ⟨ga, gc, gl⟩, ⟨ta, tc, tl⟩, ⟨la, lc, ll⟩⟩ : TenantD) i) k = false) := by show (!condT (⟨xn, xq, xt, ⟨some ⟨b, off, none⟩, sc, sl⟩, ⟨ga, gc, gl⟩, ⟨ta, tc, tl⟩, ⟨la, lc, ll⟩⟩ : TenantD) k) = false; rw [HC.out]; rfl
                          clear hc
                          go_wp2_with fail
                          clear c0 c1 c2 c3 c4 c5 c6 y0 y1 y2 y3 y4 z0
                          refine region_C (by kernel_rfl) (by kernel_rfl) (Cls.start HAr.out) ?_
                          repeat (first | go_big_quiet_skip | (go_big_quiet_want; (first | (apply q_val; (· (rintro w' ⟨hA, -⟩; have c0 := hA.hd; have c1 := hA.tl.hd; have c2 := hA.tl.tl.hd; have c3 := hA.tl.tl.tl.hd; have c4 := hA.tl.tl.tl.tl.hd; have c5 := hA.tl.tl.tl.tl.tl.hd; have c6 := hA.tl.tl.tl.tl.tl.tl.hd; have c7 := hA.tl.tl.tl.tl.tl.tl.tl.hd; have c8 := hA.tl.tl.tl.tl.tl.tl.tl.tl.hd; have c9 := hA.tl.tl.tl.tl.tl.tl.tl.tl.tl.hd; have c10 := hA.tl.tl.tl.tl.tl.tl.tl.tl.tl.tl.hd; have c11 := hA.tl.tl.tl.tl.tl.tl.tl.tl.tl.tl.tl.hd; have c12 := hA.tl.tl.tl.tl.tl.tl.tl.tl.tl.tl.tl.tl.hd; clear hA; go_simp; try rfl))) | (apply q_call 82; (· (rintro w' ⟨hA, -⟩; have c0 := hA.hd; have c1 := hA.tl.hd; have c2 := hA.tl.tl.hd; have c3 := hA.tl.tl.tl.hd; have c4 := hA.tl.tl.tl.tl.hd; have c5 := hA.tl.tl.tl.tl.tl.hd; have c6 := hA.tl.tl.tl.tl.tl.tl.hd; have c7 := hA.tl.tl.tl.tl.tl.tl.tl.hd; have c8 := hA.tl.tl.tl.tl.tl.tl.tl.tl.hd; have c9 := hA.tl.tl.tl.tl.tl.tl.tl.tl.tl.hd; have c10 := hA.tl.tl.tl.tl.tl.tl.tl.tl.tl.tl.hd; have c11 := hA.tl.tl.tl.tl.tl.tl.tl.tl.tl.tl.tl.hd; have c12 := hA.tl.tl.tl.tl.tl.tl.tl.tl.tl.tl.tl.tl.hd; clear hA; go_simp; try rfl)); (· (intro w' hC; exact (HCC.out _ (HBr.out.trans (hC.2.mono HBr.out.size))).mono (fun e w'' h => ⟨h.1, hC.later h.2⟩))))); simp only [Act.put, List.setIfInBounds_toArray, List.set_cons_zero, List.set_cons_succ]; go_big_quiet_on))
                          refine wpQuiet_nil ?_
                          intro w9 hC9
                          have HB9 := Lib.hid (HBr.out.trans (hC9.2.mono HBr.out.size))
                          have HX9 : Hid (At w9 [(w.heap.size, 0, .string xn), (w.heap.size, 1, .int .i64 xq), (w.heap.size, 2, .int .i64 xt), (w.heap.size, 3, .slice (some ⟨b, off, none⟩) sl.length sc), (w.heap.size, 4, .slice ga gl.length gc), (w.heap.size, 5, .slice ta tl.length tc), (w.heap.size, 6, .slice la ll.length lc)]) := hC9.1.tl.tl.tl.tl.tl.tl
                          clear hC9
                          go_wp2_with fail
                          have HF9 : bv = false := by rw [HV.out, HFr.out HC2.out]; simp
                          go_ret
                          exact ⟨ret_int (by rw [HE.out, HF9]; rfl), HB9.out⟩
                        · replace hc := hc.trans hl2
                          clear hl2
                          have HC : Hid (condT (⟨xn, xq, xt, ⟨some ⟨b, off, none⟩, sc, sl⟩, ⟨ga, gc, gl⟩, ⟨ta, tc, tl⟩, ⟨la, lc, ll⟩⟩ : TenantD) k = true) := by show _ = _; rw [HCD.out, hc]
                          have HC2 : Hid ((fun i => !condT (⟨xn, xq, xt, ⟨some ⟨b, off, none⟩, sc, sl⟩, ⟨ga, gc, gl⟩, ⟨ta, tc, tl⟩, ⟨la, lc, ll⟩⟩ : TenantD) i) k = false) := by show (!condT (⟨xn, xq, xt, ⟨some ⟨b, off, none⟩, sc, sl⟩, ⟨ga, gc, gl⟩, ⟨ta, tc, tl⟩, ⟨la, lc, ll⟩⟩ : TenantD) k) = false; rw [HC.out]; rfl
                          clear hc
                          go_wp2_with fail
                          clear c0 c1 c2 c3 c4 c5 c6 y0 y1 y2 y3 y4 z0
                          refine region_C (by kernel_rfl) (by kernel_rfl) (Cls.start HAr.out) ?_
                          repeat (first | go_big_quiet_skip | (go_big_quiet_want; (first | (apply q_val; (· (rintro w' ⟨hA, -⟩; have c0 := hA.hd; have c1 := hA.tl.hd; have c2 := hA.tl.tl.hd; have c3 := hA.tl.tl.tl.hd; have c4 := hA.tl.tl.tl.tl.hd; have c5 := hA.tl.tl.tl.tl.tl.hd; have c6 := hA.tl.tl.tl.tl.tl.tl.hd; have c7 := hA.tl.tl.tl.tl.tl.tl.tl.hd; have c8 := hA.tl.tl.tl.tl.tl.tl.tl.tl.hd; have c9 := hA.tl.tl.tl.tl.tl.tl.tl.tl.tl.hd; have c10 := hA.tl.tl.tl.tl.tl.tl.tl.tl.tl.tl.hd; have c11 := hA.tl.tl.tl.tl.tl.tl.tl.tl.tl.tl.tl.hd; have c12 := hA.tl.tl.tl.tl.tl.tl.tl.tl.tl.tl.tl.tl.hd; clear hA; go_simp; try rfl))) | (apply q_call 82; (· (rintro w' ⟨hA, -⟩; have c0 := hA.hd; have c1 := hA.tl.hd; have c2 := hA.tl.tl.hd; have c3 := hA.tl.tl.tl.hd; have c4 := hA.tl.tl.tl.tl.hd; have c5 := hA.tl.tl.tl.tl.tl.hd; have c6 := hA.tl.tl.tl.tl.tl.tl.hd; have c7 := hA.tl.tl.tl.tl.tl.tl.tl.hd; have c8 := hA.tl.tl.tl.tl.tl.tl.tl.tl.hd; have c9 := hA.tl.tl.tl.tl.tl.tl.tl.tl.tl.hd; have c10 := hA.tl.tl.tl.tl.tl.tl.tl.tl.tl.tl.hd; have c11 := hA.tl.tl.tl.tl.tl.tl.tl.tl.tl.tl.tl.hd; have c12 := hA.tl.tl.tl.tl.tl.tl.tl.tl.tl.tl.tl.tl.hd; clear hA; go_simp; try rfl)); (· (intro w' hC; exact (HCC.out _ (HBr.out.trans (hC.2.mono HBr.out.size))).mono (fun e w'' h => ⟨h.1, hC.later h.2⟩))))); simp only [Act.put, List.setIfInBounds_toArray, List.set_cons_zero, List.set_cons_succ]; go_big_quiet_on))
                          refine wpQuiet_nil ?_
                          intro w9 hC9
                          have HB9 := Lib.hid (HBr.out.trans (hC9.2.mono HBr.out.size))
                          have HX9 : Hid (At w9 [(w.heap.size, 0, .string xn), (w.heap.size, 1, .int .i64 xq), (w.heap.size, 2, .int .i64 xt), (w.heap.size, 3, .slice (some ⟨b, off, none⟩) sl.length sc), (w.heap.size, 4, .slice ga gl.length gc), (w.heap.size, 5, .slice ta tl.length tc), (w.heap.size, 6, .slice la ll.length lc)]) := hC9.1.tl.tl.tl.tl.tl.tl
                          clear hC9
                          go_wp2_with fail
                          have HF9 : bv = false := by rw [HV.out, HFr.out HC2.out]; simp
                          go_ret
                          exact ⟨ret_int (by rw [HE.out, HF9]; rfl), HB9.out⟩
                        · replace hc := hc.trans hl2
                          clear hl2
                          have HC : Hid (condT (⟨xn, xq, xt, ⟨some ⟨b, off, none⟩, sc, sl⟩, ⟨ga, gc, gl⟩, ⟨ta, tc, tl⟩, ⟨la, lc, ll⟩⟩ : TenantD) k = false) := by show _ = _; rw [HCD.out, hc]
                          clear hc
                          go_wp2_with fail
                          clear c0 c1 c2 c3 c4 c5 c6 y0 y1 y2 y3 y4 z0
                          refine region_C (by kernel_rfl) (by kernel_rfl) (Cls.start HAr.out) ?_
                          repeat (first | go_big_quiet_skip | (go_big_quiet_want; (first | (apply q_val; (· (rintro w' ⟨hA, -⟩; have c0 := hA.hd; have c1 := hA.tl.hd; have c2 := hA.tl.tl.hd; have c3 := hA.tl.tl.tl.hd; have c4 := hA.tl.tl.tl.tl.hd; have c5 := hA.tl.tl.tl.tl.tl.hd; have c6 := hA.tl.tl.tl.tl.tl.tl.hd; have c7 := hA.tl.tl.tl.tl.tl.tl.tl.hd; have c8 := hA.tl.tl.tl.tl.tl.tl.tl.tl.hd; have c9 := hA.tl.tl.tl.tl.tl.tl.tl.tl.tl.hd; have c10 := hA.tl.tl.tl.tl.tl.tl.tl.tl.tl.tl.hd; have c11 := hA.tl.tl.tl.tl.tl.tl.tl.tl.tl.tl.tl.hd; have c12 := hA.tl.tl.tl.tl.tl.tl.tl.tl.tl.tl.tl.tl.hd; clear hA; go_simp; try rfl))) | (apply q_call 82; (· (rintro w' ⟨hA, -⟩; have c0 := hA.hd; have c1 := hA.tl.hd; have c2 := hA.tl.tl.hd; have c3 := hA.tl.tl.tl.hd; have c4 := hA.tl.tl.tl.tl.hd; have c5 := hA.tl.tl.tl.tl.tl.hd; have c6 := hA.tl.tl.tl.tl.tl.tl.hd; have c7 := hA.tl.tl.tl.tl.tl.tl.tl.hd; have c8 := hA.tl.tl.tl.tl.tl.tl.tl.tl.hd; have c9 := hA.tl.tl.tl.tl.tl.tl.tl.tl.tl.hd; have c10 := hA.tl.tl.tl.tl.tl.tl.tl.tl.tl.tl.hd; have c11 := hA.tl.tl.tl.tl.tl.tl.tl.tl.tl.tl.tl.hd; have c12 := hA.tl.tl.tl.tl.tl.tl.tl.tl.tl.tl.tl.tl.hd; clear hA; go_simp; try rfl)); (· (intro w' hC; exact (HCC.out _ (HBr.out.trans (hC.2.mono HBr.out.size))).mono (fun e w'' h => ⟨h.1, hC.later h.2⟩))))); simp only [Act.put, List.setIfInBounds_toArray, List.set_cons_zero, List.set_cons_succ]; go_big_quiet_on))
                          refine wpQuiet_nil ?_
                          intro w9 hC9
                          have HB9 := Lib.hid (HBr.out.trans (hC9.2.mono HBr.out.size))
                          have HX9 : Hid (At w9 [(w.heap.size, 0, .string xn), (w.heap.size, 1, .int .i64 xq), (w.heap.size, 2, .int .i64 xt), (w.heap.size, 3, .slice (some ⟨b, off, none⟩) sl.length sc), (w.heap.size, 4, .slice ga gl.length gc), (w.heap.size, 5, .slice ta tl.length tc), (w.heap.size, 6, .slice la ll.length lc)]) := hC9.1.tl.tl.tl.tl.tl.tl
                          clear hC9
                          go_wp2_with fail
                          go_roundw
                          case rel => exact ⟨k + 1, by omega, by go_num, by rw [HST.out, HD.out, HC.out]; rfl, HB9.out, HX9.out⟩
                          case measure => simp [intOf]; omega
                    · have HA2 : Hid ((List.range sl.length).all (fun i => !condT (⟨xn, xq, xt, ⟨sa, sc, sl⟩, ⟨ga, gc, gl⟩, ⟨ta, tc, tl⟩, ⟨la, lc, ll⟩⟩ : TenantD) i) = true) := by
                        obtain rfl : k = sl.length := by omega
                        exact HD.out
                      rw [HA2.out] at HV
                      clear HA2 HD hk
                      go_wp2_with fail
                      clear c0 c1 c2 c3 c4 c5 c6
                      have HBp := HBr
                      have HXp := HXr
                      clear HBr HXr
                      go_loopw [4] (fun i wr => ∃ k : Nat, k ≤ tl.length ∧ i = .int .i64 k ∧ (List.range k).all (fun i => !condU tl i) = true ∧ Below w.heap.size w wr ∧ At wr [(w.heap.size, 0, .string xn), (w.heap.size, 1, .int .i64 xq), (w.heap.size, 2, .int .i64 xt), (w.heap.size, 3, .slice sa sl.length sc), (w.heap.size, 4, .slice ga gl.length gc), (w.heap.size, 5, .slice ta tl.length tc), (w.heap.size, 6, .slice la ll.length lc)]) (fun i _ => tl.length - (intOf i).toNat)
                      case atStart => exact ⟨0, Nat.zero_le _, rfl, rfl, HBp.out, HXp.out⟩
                      case round =>
                        obtain ⟨k, hk, rfl, hd, hb, hxb⟩ := hrel
                        have HD := Lib.hid hd
                        have HBr := Lib.hid hb
                        have HXr := Lib.hid hxb
                        clear hd hb
                        have c0 := hxb.hd
                        have c1 := hxb.tl.hd
                        have c2 := hxb.tl.tl.hd
                        have c3 := hxb.tl.tl.tl.hd
                        have c4 := hxb.tl.tl.tl.tl.hd
                        have c5 := hxb.tl.tl.tl.tl.tl.hd
                        have c6 := hxb.tl.tl.tl.tl.tl.tl.hd
                        clear hxb
                        by_cases hlt : k < tl.length
                        · have hl0 : (0 : Int) ≤ (k : Int) := by omega
                          have hl1 : (k : Int) < (tl.length : Int) := by omega
                          have hLw : IsStages w ⟨ta, tc, tl⟩ := HX.out.2.2.2.2.2.1
                          obtain ⟨y, b, off, hy, hya, hbw, hR, -⟩ := stage_row (hLw.below HBr.out) hlt
                          obtain ⟨y', -, -, hy', -, -, -, hyo⟩ := stage_row hLw hlt
                          obtain rfl : y = y' := by rw [hy] at hy'; exact Option.some.inj hy'
                          obtain ⟨z, b', off', hz, hya', -, hRz, -⟩ := stage_row (hLw.below HBr.out) (show k - 1 < tl.length by omega)
                          obtain ⟨rfl, rfl⟩ : b = b' ∧ off = off' := by rw [hya] at hya'; simpa using hya'
                          have y0 := hR 0 _ rfl
                          have z0 := hRz 0 _ rfl
                          have HRr := Lib.hid hR
                          clear hya' hy' hR hRz
                          have HST := Lib.hid (range_step (fun i => !condU tl i) k)
                          have HFr := Lib.hid (fun h => range_bad (fun i => !condU tl i) hlt h)
                          have HCD : Hid (condU tl k = (!stageB y || (decide (0 < k) && leS y.into z.into))) := by show _ = _; simp [condU, List.getD, hy, hz]
                          have hym := List.mem_of_getElem? hy
                          have HCC := Lib.hid (fun W hW => Stage_any y W (okStage_below hyo hW) (HSM.out.stages y hym))
                          have HAr : Hid (At wr [(b, off + k * 21, .string y.into), (b, off + (k - 1) * 21, .string z.into), (w.heap.size, 0, .string xn), (w.heap.size, 1, .int .i64 xq), (w.heap.size, 2, .int .i64 xt), (w.heap.size, 3, .slice sa sl.length sc), (w.heap.size, 4, .slice ga gl.length gc), (w.heap.size, 5, .slice ta tl.length tc), (w.heap.size, 6, .slice la ll.length lc)]) := .cons hbw y0 (.cons hbw z0 HXr.out)
                          generalize hbt : stageB y = bt at *
                          clear hbt hym hy hz hyo hLw y0 z0
                          rcases pair_ways bt (leS y.into z.into) k with ⟨hn, hc⟩ | ⟨hn, hk0, hc⟩ | ⟨hn, hk0, hc⟩
                          · subst hn
                            subst hya
                            have HC : Hid (condU tl k = true) := by show _ = _; rw [HCD.out, hc]
                            have HC2 : Hid ((fun i => !condU tl i) k = false) := by show (!condU tl k) = false; rw [HC.out]; rfl
                            clear hc
                            go_wp2_with fail
                            clear c0 c1 c2 c3 c4 c5 c6
                            refine region_C (by kernel_rfl) (by kernel_rfl) (ClsR.start HAr.out HRr.out hbw) ?_
                            repeat (first | go_big_quiet_skip | (go_big_quiet_want; (first | (refine q_load_mid 67 _ rfl b (off + k * 21) rfl (cellsStage y) _ (fun _ h => h.2) Try.underlying67 rfl (hi67 y) ?_) | (apply q_val; (· (rintro w' ⟨⟨hA, -⟩, -⟩; have c0 := hA.hd; have c1 := hA.tl.hd; have c2 := hA.tl.tl.hd; have c3 := hA.tl.tl.tl.hd; have c4 := hA.tl.tl.tl.tl.hd; have c5 := hA.tl.tl.tl.tl.tl.hd; have c6 := hA.tl.tl.tl.tl.tl.tl.hd; have c7 := hA.tl.tl.tl.tl.tl.tl.tl.hd; have c8 := hA.tl.tl.tl.tl.tl.tl.tl.tl.hd; clear hA; go_simp; try rfl))) | (apply q_call 83; (· (rintro w' ⟨⟨hA, -⟩, -⟩; have c0 := hA.hd; have c1 := hA.tl.hd; have c2 := hA.tl.tl.hd; have c3 := hA.tl.tl.tl.hd; have c4 := hA.tl.tl.tl.tl.hd; have c5 := hA.tl.tl.tl.tl.tl.hd; have c6 := hA.tl.tl.tl.tl.tl.tl.hd; have c7 := hA.tl.tl.tl.tl.tl.tl.tl.hd; have c8 := hA.tl.tl.tl.tl.tl.tl.tl.tl.hd; clear hA; go_simp; try rfl)); (· (intro w' hC; exact (HCC.out _ (HBr.out.trans (hC.1.2.mono HBr.out.size))).mono (fun e w'' h => ⟨h.1, hC.later hbw h.2⟩))))); simp only [Act.put, List.setIfInBounds_toArray, List.set_cons_zero, List.set_cons_succ]; go_big_quiet_on))
                            refine wpQuiet_nil ?_
                            intro w9 hC9
                            have HB9 := Lib.hid (HBr.out.trans (hC9.1.2.mono HBr.out.size))
                            have HX9 : Hid (At w9 [(w.heap.size, 0, .string xn), (w.heap.size, 1, .int .i64 xq), (w.heap.size, 2, .int .i64 xt), (w.heap.size, 3, .slice sa sl.length sc), (w.heap.size, 4, .slice ga gl.length gc), (w.heap.size, 5, .slice (some ⟨b, off, none⟩) tl.length tc), (w.heap.size, 6, .slice la ll.length lc)]) := hC9.1.1.tl.tl
                            clear hC9
                            go_wp2_with fail
                            have HF9 : bv = false := by rw [HV.out, HFr.out HC2.out]; simp
                            go_ret
                            exact ⟨ret_int (by rw [HE.out, HF9]; rfl), HB9.out⟩
                          · subst hn
                            subst hya
                            have h7 : decide ((0 : Int) < (k : Int)) = false := by simp; omega
                            have h7n : decide (0 < k) = false := by simp; omega
                            clear hk0
                            have HC : Hid (condU tl k = false) := by show _ = _; rw [HCD.out, hc]
                            clear hc
                            go_wp2_with fail
                            clear c0 c1 c2 c3 c4 c5 c6
                            refine region_C (by kernel_rfl) (by kernel_rfl) (ClsR.start HAr.out HRr.out hbw) ?_
                            repeat (first | go_big_quiet_skip | (go_big_quiet_want; (first | (refine q_load_mid 67 _ rfl b (off + k * 21) rfl (cellsStage y) _ (fun _ h => h.2) Try.underlying67 rfl (hi67 y) ?_) | (apply q_val; (· (rintro w' ⟨⟨hA, -⟩, -⟩; have c0 := hA.hd; have c1 := hA.tl.hd; have c2 := hA.tl.tl.hd; have c3 := hA.tl.tl.tl.hd; have c4 := hA.tl.tl.tl.tl.hd; have c5 := hA.tl.tl.tl.tl.tl.hd; have c6 := hA.tl.tl.tl.tl.tl.tl.hd; have c7 := hA.tl.tl.tl.tl.tl.tl.tl.hd; have c8 := hA.tl.tl.tl.tl.tl.tl.tl.tl.hd; clear hA; go_simp; try rfl))) | (apply q_call 83; (· (rintro w' ⟨⟨hA, -⟩, -⟩; have c0 := hA.hd; have c1 := hA.tl.hd; have c2 := hA.tl.tl.hd; have c3 := hA.tl.tl.tl.hd; have c4 := hA.tl.tl.tl.tl.hd; have c5 := hA.tl.tl.tl.tl.tl.hd; have c6 := hA.tl.tl.tl.tl.tl.tl.hd; have c7 := hA.tl.tl.tl.tl.tl.tl.tl.hd; have c8 := hA.tl.tl.tl.tl.tl.tl.tl.tl.hd; clear hA; go_simp; try rfl)); (· (intro w' hC; exact (HCC.out _ (HBr.out.trans (hC.1.2.mono HBr.out.size))).mono (fun e w'' h => ⟨h.1, hC.later hbw h.2⟩))))); simp only [Act.put, List.setIfInBounds_toArray, List.set_cons_zero, List.set_cons_succ]; go_big_quiet_on))
                            refine wpQuiet_nil ?_
                            intro w9 hC9
                            have HB9 := Lib.hid (HBr.out.trans (hC9.1.2.mono HBr.out.size))
                            have HX9 : Hid (At w9 [(w.heap.size, 0, .string xn), (w.heap.size, 1, .int .i64 xq), (w.heap.size, 2, .int .i64 xt), (w.heap.size, 3, .slice sa sl.length sc), (w.heap.size, 4, .slice ga gl.length gc), (w.heap.size, 5, .slice (some ⟨b, off, none⟩) tl.length tc), (w.heap.size, 6, .slice la ll.length lc)]) := hC9.1.1.tl.tl
                            clear hC9
                            go_wp2_with fail
                            go_roundw
                            case rel => exact ⟨k + 1, by omega, by go_num, by rw [HST.out, HD.out, HC.out]; rfl, HB9.out, HX9.out⟩
                            case measure => simp [intOf]; omega
                          · subst hn
                            subst hya
                            have h7 : decide ((0 : Int) < (k : Int)) = true := by simp; omega
                            have h8 : ((k : Int) - 1).toNat = k - 1 := by omega
                            have h9 : (1 : Int) ≤ (k : Int) := by omega
                            have h10 : 1 ≤ k := by omega
                            have h11 : IntKind.i64.wrap ((k : Int) - 1) = (k : Int) - 1 := by rw [i64_wrap]; exact wrap_in (by unfold InR; omega)
                            have h12 : (0 : Int) ≤ (k : Int) - 1 := by omega
                            have h13 : (k : Int) - 1 < (tl.length : Int) := by omega
                            rcases leS_ways y.into z.into with ⟨hl2, h5⟩ | ⟨hl2, h5, h6⟩ | ⟨hl2, h5, h6⟩
                            · replace hc := hc.trans hl2
                              clear hl2
                              have HC : Hid (condU tl k = true) := by show _ = _; rw [HCD.out, hc]
                              have HC2 : Hid ((fun i => !condU tl i) k = false) := by show (!condU tl k) = false; rw [HC.out]; rfl
                              clear hc
                              go_wp2_with fail
                              clear c0 c1 c2 c3 c4 c5 c6
                              refine region_C (by kernel_rfl) (by kernel_rfl) (ClsR.start HAr.out HRr.out hbw) ?_
                              repeat (first | go_big_quiet_skip | (go_big_quiet_want; (first | (refine q_load_mid 67 _ rfl b (off + k * 21) rfl (cellsStage y) _ (fun _ h => h.2) Try.underlying67 rfl (hi67 y) ?_) | (apply q_val; (· (rintro w' ⟨⟨hA, -⟩, -⟩; have c0 := hA.hd; have c1 := hA.tl.hd; have c2 := hA.tl.tl.hd; have c3 := hA.tl.tl.tl.hd; have c4 := hA.tl.tl.tl.tl.hd; have c5 := hA.tl.tl.tl.tl.tl.hd; have c6 := hA.tl.tl.tl.tl.tl.tl.hd; have c7 := hA.tl.tl.tl.tl.tl.tl.tl.hd; have c8 := hA.tl.tl.tl.tl.tl.tl.tl.tl.hd; clear hA; go_simp; try rfl))) | (apply q_call 83; (· (rintro w' ⟨⟨hA, -⟩, -⟩; have c0 := hA.hd; have c1 := hA.tl.hd; have c2 := hA.tl.tl.hd; have c3 := hA.tl.tl.tl.hd; have c4 := hA.tl.tl.tl.tl.hd; have c5 := hA.tl.tl.tl.tl.tl.hd; have c6 := hA.tl.tl.tl.tl.tl.tl.hd; have c7 := hA.tl.tl.tl.tl.tl.tl.tl.hd; have c8 := hA.tl.tl.tl.tl.tl.tl.tl.tl.hd; clear hA; go_simp; try rfl)); (· (intro w' hC; exact (HCC.out _ (HBr.out.trans (hC.1.2.mono HBr.out.size))).mono (fun e w'' h => ⟨h.1, hC.later hbw h.2⟩))))); simp only [Act.put, List.setIfInBounds_toArray, List.set_cons_zero, List.set_cons_succ]; go_big_quiet_on))
                              refine wpQuiet_nil ?_
                              intro w9 hC9
                              have HB9 := Lib.hid (HBr.out.trans (hC9.1.2.mono HBr.out.size))
                              have HX9 : Hid (At w9 [(w.heap.size, 0, .string xn), (w.heap.size, 1, .int .i64 xq), (w.heap.size, 2, .int .i64 xt), (w.heap.size, 3, .slice sa sl.length sc), (w.heap.size, 4, .slice ga gl.length gc), (w.heap.size, 5, .slice (some ⟨b, off, none⟩) tl.length tc), (w.heap.size, 6, .slice la ll.length lc)]) := hC9.1.1.tl.tl
                              clear hC9
                              go_wp2_with fail
                              have HF9 : bv = false := by rw [HV.out, HFr.out HC2.out]; simp
                              go_ret
                              exact ⟨ret_int (by rw [HE.out, HF9]; rfl), HB9.out⟩
                            · replace hc := hc.trans hl2
                              clear hl2
                              have HC : Hid (condU tl k = true) := by show _ = _; rw [HCD.out, hc]
                              have HC2 : Hid ((fun i => !condU tl i) k = false) := by show (!condU tl k) = false; rw [HC.out]; rfl
                              clear hc
                              go_wp2_with fail
                              clear c0 c1 c2 c3 c4 c5 c6
                              refine region_C (by kernel_rfl) (by kernel_rfl) (ClsR.start HAr.out HRr.out hbw) ?_
                              repeat (first | go_big_quiet_skip | (go_big_quiet_want; (first | (refine q_load_mid 67 _ rfl b (off + k * 21) rfl (cellsStage y) _ (fun _ h => h.2) Try.underlying67 rfl (hi67 y) ?_) | (apply q_val; (· (rintro w' ⟨⟨hA, -⟩, -⟩; have c0 := hA.hd; have c1 := hA.tl.hd; have c2 := hA.tl.tl.hd; have c3 := hA.tl.tl.tl.hd; have c4 := hA.tl.tl.tl.tl.hd; have c5 := hA.tl.tl.tl.tl.tl.hd; have c6 := hA.tl.tl.tl.tl.tl.tl.hd; have c7 := hA.tl.tl.tl.tl.tl.tl.tl.hd; have c8 := hA.tl.tl.tl.tl.tl.tl.tl.tl.hd; clear hA; go_simp; try rfl))) | (apply q_call 83; (· (rintro w' ⟨⟨hA, -⟩, -⟩; have c0 := hA.hd; have c1 := hA.tl.hd; have c2 := hA.tl.tl.hd; have c3 := hA.tl.tl.tl.hd; have c4 := hA.tl.tl.tl.tl.hd; have c5 := hA.tl.tl.tl.tl.tl.hd; have c6 := hA.tl.tl.tl.tl.tl.tl.hd; have c7 := hA.tl.tl.tl.tl.tl.tl.tl.hd; have c8 := hA.tl.tl.tl.tl.tl.tl.tl.tl.hd; clear hA; go_simp; try rfl)); (· (intro w' hC; exact (HCC.out _ (HBr.out.trans (hC.1.2.mono HBr.out.size))).mono (fun e w'' h => ⟨h.1, hC.later hbw h.2⟩))))); simp only [Act.put, List.setIfInBounds_toArray, List.set_cons_zero, List.set_cons_succ]; go_big_quiet_on))
                              refine wpQuiet_nil ?_
                              intro w9 hC9
                              have HB9 := Lib.hid (HBr.out.trans (hC9.1.2.mono HBr.out.size))
                              have HX9 : Hid (At w9 [(w.heap.size, 0, .string xn), (w.heap.size, 1, .int .i64 xq), (w.heap.size, 2, .int .i64 xt), (w.heap.size, 3, .slice sa sl.length sc), (w.heap.size, 4, .slice ga gl.length gc), (w.heap.size, 5, .slice (some ⟨b, off, none⟩) tl.length tc), (w.heap.size, 6, .slice la ll.length lc)]) := hC9.1.1.tl.tl
                              clear hC9
                              go_wp2_with fail
                              have HF9 : bv = false := by rw [HV.out, HFr.out HC2.out]; simp
                              go_ret
                              exact ⟨ret_int (by rw [HE.out, HF9]; rfl), HB9.out⟩
                            · replace hc := hc.trans hl2
                              clear hl2
                              have HC : Hid (condU tl k = false) := by show _ = _; rw [HCD.out, hc]
                              clear hc
                              go_wp2_with fail
                              clear c0 c1 c2 c3 c4 c5 c6
                              refine region_C (by kernel_rfl) (by kernel_rfl) (ClsR.start HAr.out HRr.out hbw) ?_
                              repeat (first | go_big_quiet_skip | (go_big_quiet_want; (first | (refine q_load_mid 67 _ rfl b (off + k * 21) rfl (cellsStage y) _ (fun _ h => h.2) Try.underlying67 rfl (hi67 y) ?_) | (apply q_val; (· (rintro w' ⟨⟨hA, -⟩, -⟩; have c0 := hA.hd; have c1 := hA.tl.hd; have c2 := hA.tl.tl.hd; have c3 := hA.tl.tl.tl.hd; have c4 := hA.tl.tl.tl.tl.hd; have c5 := hA.tl.tl.tl.tl.tl.hd; have c6 := hA.tl.tl.tl.tl.tl.tl.hd; have c7 := hA.tl.tl.tl.tl.tl.tl.tl.hd; have c8 := hA.tl.tl.tl.tl.tl.tl.tl.tl.hd; clear hA; go_simp; try rfl))) | (apply q_call 83; (· (rintro w' ⟨⟨hA, -⟩, -⟩; have c0 := hA.hd; have c1 := hA.tl.hd; have c2 := hA.tl.tl.hd; have c3 := hA.tl.tl.tl.hd; have c4 := hA.tl.tl.tl.tl.hd; have c5 := hA.tl.tl.tl.tl.tl.hd; have c6 := hA.tl.tl.tl.tl.tl.tl.hd; have c7 := hA.tl.tl.tl.tl.tl.tl.tl.hd; have c8 := hA.tl.tl.tl.tl.tl.tl.tl.tl.hd; clear hA; go_simp; try rfl)); (· (intro w' hC; exact (HCC.out _ (HBr.out.trans (hC.1.2.mono HBr.out.size))).mono (fun e w'' h => ⟨h.1, hC.later hbw h.2⟩))))); simp only [Act.put, List.setIfInBounds_toArray, List.set_cons_zero, List.set_cons_succ]; go_big_quiet_on))
                              refine wpQuiet_nil ?_
                              intro w9 hC9
                              have HB9 := Lib.hid (HBr.out.trans (hC9.1.2.mono HBr.out.size))
                              have HX9 : Hid (At w9 [(w.heap.size, 0, .string xn), (w.heap.size, 1, .int .i64 xq), (w.heap.size, 2, .int .i64 xt), (w.heap.size, 3, .slice sa sl.length sc), (w.heap.size, 4, .slice ga gl.length gc), (w.heap.size, 5, .slice (some ⟨b, off, none⟩) tl.length tc), (w.heap.size, 6, .slice la ll.length lc)]) := hC9.1.1.tl.tl
                              clear hC9
                              go_wp2_with fail
                              go_roundw
                              case rel => exact ⟨k + 1, by omega, by go_num, by rw [HST.out, HD.out, HC.out]; rfl, HB9.out, HX9.out⟩
                              case measure => simp [intOf]; omega
                        · have HA2 : Hid ((List.range tl.length).all (fun i => !condU tl i) = true) := by
                            obtain rfl : k = tl.length := by omega
                            exact HD.out
                          rw [HA2.out] at HV
                          clear HA2 HD hk
                          go_wp2_with fail
                          clear c0 c1 c2 c3 c4 c5 c6
                          have HBp := HBr
                          have HXp := HXr
                          clear HBr HXr
                          go_loopw [5] (fun i wr => ∃ k : Nat, k ≤ ll.length ∧ i = .int .i64 k ∧ (List.range k).all (fun i => !condE ll i) = true ∧ Below w.heap.size w wr ∧ At wr [(w.heap.size, 0, .string xn), (w.heap.size, 1, .int .i64 xq), (w.heap.size, 2, .int .i64 xt), (w.heap.size, 3, .slice sa sl.length sc), (w.heap.size, 4, .slice ga gl.length gc), (w.heap.size, 5, .slice ta tl.length tc), (w.heap.size, 6, .slice la ll.length lc)]) (fun i _ => ll.length - (intOf i).toNat)
                          case atStart => exact ⟨0, Nat.zero_le _, rfl, rfl, HBp.out, HXp.out⟩
                          case round =>
                            obtain ⟨k, hk, rfl, hd, hb, hxb⟩ := hrel
                            have HD := Lib.hid hd
                            clear hd
                            have HBr := Lib.hid hb
                            have HXr := Lib.hid hxb
                            clear hb
                            have c0 := hxb.hd
                            have c1 := hxb.tl.hd
                            have c2 := hxb.tl.tl.hd
                            have c3 := hxb.tl.tl.tl.hd
                            have c4 := hxb.tl.tl.tl.tl.hd
                            have c5 := hxb.tl.tl.tl.tl.tl.hd
                            have c6 := hxb.tl.tl.tl.tl.tl.tl.hd
                            clear hxb
                            by_cases hlt : k < ll.length
                            · have hl0 : (0 : Int) ≤ (k : Int) := by omega
                              have hl1 : (k : Int) < (ll.length : Int) := by omega
                              have hLw : IsEntrys w ⟨la, lc, ll⟩ := HX.out.2.2.2.2.2.2
                              obtain ⟨y, b, off, hy, hya, hbw, y0, y1, y2, y3, -⟩ := (hLw.below HBr.out).get hlt
                              obtain ⟨y', -, -, hy', -, -, -, -, -, -, hyo⟩ := hLw.get hlt
                              obtain rfl : y = y' := by rw [hy] at hy'; exact Option.some.inj hy'
                              have hym := List.mem_of_getElem? hy
                              have HCC := Lib.hid (fun W hW => Entry_any y W (okEntry_below hyo hW) (HSM.out.log y hym))
                              have HST := Lib.hid (range_step (fun i => !condE ll i) k)
                              have HFr := Lib.hid (fun h => range_bad (fun i => !condE ll i) hlt h)
                              have HCD : Hid (condE ll k = !entryB y) := by show _ = _; simp [condE, List.getD, hy]
                              generalize hbt : entryB y = bt at *
                              clear hbt hym hy hy' hyo hLw
                              subst hya
                              go_wp2_with fail
                              refine (HCC.out _ HBr.out).mono ?_
                              rintro e w9 ⟨rfl, hb9⟩
                              have HB9 := Lib.hid (HBr.out.trans (hb9.mono HBr.out.size))
                              have HX9 := Lib.hid (HXr.out.later hb9)
                              clear hb9 c0 c1 c2 c3 c4 c5 c6 y0 y1 y2 y3
                              cases bt
                              case false =>
                                have HC2 : Hid ((fun i => !condE ll i) k = false) := by show (!condE ll k) = false; rw [HCD.out]; rfl
                                go_wp2_with fail
                                have HF9 : bv = false := by rw [HV.out, HFr.out HC2.out]; simp
                                go_ret
                                exact ⟨ret_int (by rw [HE.out, HF9]; rfl), HB9.out⟩
                              case true =>
                                go_wp2_with fail
                                go_roundw
                                case rel => exact ⟨k + 1, by omega, by go_num, by rw [HST.out, HD.out, HCD.out]; rfl, HB9.out, HX9.out⟩
                                case measure => simp [intOf]; omega
                            · have HA2 : Hid ((List.range ll.length).all (fun i => !condE ll i) = true) := by
                                obtain rfl : k = ll.length := by omega
                                exact HD.out
                              rw [HA2.out] at HV
                              clear HA2 HD hk
                              go_wp2_with fail
                              have HF9 : bv = true := by rw [HV.out]; simp
                              go_ret
                              exact ⟨ret_int (by rw [HE.out, HF9]; rfl), HBr.out⟩
end Go.Proofs.Ytbkghiaafkmapaa
