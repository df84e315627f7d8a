/- The walk of the reference's datasets. No condition but a path's size. -/
import Derived.Test.YtbkghiaafkmapaaSnaps
namespace Go.Proofs.Ytbkghiaafkmapaa
open Go.ChangeShapes Go.WideShapes Go.ChangeAt Go.RowKit

def setB (x : TenantD) (y : SetD) : Bool := (pathB y.path && ((!((parV y.path).2 && decide (findSet x.sets.l (parV y.path).1 < 0))) && (blkE y.body.l == 0 && (propsE y.own.l == 0 && (snapsB y.snaps.l && (y.origin.toList.isEmpty || ((splitV y.origin).2.2 == 0 && ((!((splitV y.origin).1.toList == y.path.toList)) && (decide (0 ≤ findSet x.sets.l (splitV y.origin).1) && decide (0 ≤ findSnap (x.sets.l.getD (findSet x.sets.l (splitV y.origin).1).toNat default).snaps.l (splitV y.origin).2.1))))))))))
set_option maxRecDepth 100000 in
set_option maxHeartbeats 8000000 in
theorem set14_any (x : TenantD) (y : SetD) (w : World) (hx : okTenant w x) (hy : okSet w y) (hs : y.path.size ≤ 1048576) (ho : y.origin.size ≤ 1048576) :
    Calls Try.prog 82 #[.agg #[.string x.name, .int .i64 x.quota, .int .i64 x.next, .slice x.sets.a x.sets.l.length x.sets.c, .slice x.grants.a x.grants.l.length x.grants.c, .slice x.stages.a x.stages.l.length x.stages.c, .slice x.log.a x.log.l.length x.log.c], .agg #[.string y.path, .string y.origin, .slice y.body.a y.body.l.length y.body.c, .slice y.snaps.a y.snaps.l.length y.snaps.c, .slice y.own.a y.own.l.length y.own.c]] w fun e w' => e = .returned (.bool (setB x y)) ∧ Below w.heap.size w w' := by
  have HV : Hid (setB x y = (pathB y.path && ((!((parV y.path).2 && decide (findSet x.sets.l (parV y.path).1 < 0))) && (blkE y.body.l == 0 && (propsE y.own.l == 0 && (snapsB y.snaps.l && (y.origin.toList.isEmpty || ((splitV y.origin).2.2 == 0 && ((!((splitV y.origin).1.toList == y.path.toList)) && (decide (0 ≤ findSet x.sets.l (splitV y.origin).1) && decide (0 ≤ findSnap (x.sets.l.getD (findSet x.sets.l (splitV y.origin).1).toNat default).snaps.l (splitV y.origin).2.1))))))))))) := rfl
  have HPar := Lib.hid (fun W (_ : Below w.heap.size w W) => Parent_any y.path W hs)
  have HPath := Lib.hid (fun W (_ : Below w.heap.size w W) => Path_any y.path W hs)
  have HF1 := Lib.hid (fun W hW => Find_any x (parV y.path).1 W (okTenant_below hx hW))
  have HK := Lib.hid (fun W hW => Check11_any y.body.a y.body.c y.body.l W (hy.2.2.1.below hW))
  have HP := Lib.hid (fun W hW => Props_any y.own.a y.own.c y.own.l W (hy.2.2.2.2.below hW))
  have HSn := Lib.hid (fun W hW => snaps_any y.snaps.a y.snaps.c y.snaps.l W (hy.2.2.2.1.below hW))
  have HSp := Lib.hid (fun W (_ : Below w.heap.size w W) => Split_any y.origin W ho)
  have HF2 := Lib.hid (fun W hW => Find_any x (splitV y.origin).1 W (okTenant_below hx hW))
  have HRG := Lib.hid (firstAtN_rng (fun i => (x.sets.l.getD i default).path.toList == (splitV y.origin).1.toList) x.sets.l.length 0)
  have HRG2 : Hid (findSet x.sets.l (splitV y.origin).1 = -1 ∨ (0 ≤ findSet x.sets.l (splitV y.origin).1 ∧ findSet x.sets.l (splitV y.origin).1 < x.sets.l.length)) := HRG.out
  have hsets : IsSets w x.sets := hx.2.2.2.1
  have HSET := Lib.hid hsets
  have hlen := IsSl.len hsets
  clear hsets hx hy HRG
  generalize setB x y = bv at *
  generalize findSet x.sets.l (parV y.path).1 = f1 at *
  generalize findSet x.sets.l (splitV y.origin).1 = f2 at *
  generalize parV y.path = pv at *
  generalize splitV y.origin = sv at *
  generalize pathB y.path = pb at *
  generalize blkE y.body.l = bk at *
  generalize propsE y.own.l = pp at *
  generalize snapsB y.snaps.l = sb at *
  obtain ⟨up, is⟩ := pv
  obtain ⟨sp, sn, se⟩ := sv
  dsimp only at HPar HF1 HSp HF2 HV
  have HB0 : Hid (Below w.heap.size w ((w.alloc (.cells #[.string x.name, .int .i64 x.quota, .int .i64 x.next, .slice x.sets.a x.sets.l.length x.sets.c, .slice x.grants.a x.grants.l.length x.grants.c, .slice x.stages.a x.stages.l.length x.stages.c, .slice x.log.a x.log.l.length x.log.c] 53)).alloc (.cells #[.string y.path, .string y.origin, .slice y.body.a y.body.l.length y.body.c, .slice y.snaps.a y.snaps.l.length y.snaps.c, .slice y.own.a y.own.l.length y.own.c] 38))) := ((Below.refl _ _).alloc (Nat.le_refl _) _).alloc (by simp) _
  have HA0 : Hid (At ((w.alloc (.cells #[.string x.name, .int .i64 x.quota, .int .i64 x.next, .slice x.sets.a x.sets.l.length x.sets.c, .slice x.grants.a x.grants.l.length x.grants.c, .slice x.stages.a x.stages.l.length x.stages.c, .slice x.log.a x.log.l.length x.log.c] 53)).alloc (.cells #[.string y.path, .string y.origin, .slice y.body.a y.body.l.length y.body.c, .slice y.snaps.a y.snaps.l.length y.snaps.c, .slice y.own.a y.own.l.length y.own.c] 38)) [(w.heap.size, 0, .string x.name), (w.heap.size, 1, .int .i64 x.quota), (w.heap.size, 2, .int .i64 x.next), (w.heap.size, 3, .slice x.sets.a x.sets.l.length x.sets.c), (w.heap.size, 4, .slice x.grants.a x.grants.l.length x.grants.c), (w.heap.size, 5, .slice x.stages.a x.stages.l.length x.stages.c), (w.heap.size, 6, .slice x.log.a x.log.l.length x.log.c), (w.heap.size + 1, 0, .string y.path), (w.heap.size + 1, 1, .string y.origin), (w.heap.size + 1, 2, .slice y.body.a y.body.l.length y.body.c), (w.heap.size + 1, 3, .slice y.snaps.a y.snaps.l.length y.snaps.c), (w.heap.size + 1, 4, .slice y.own.a y.own.l.length y.own.c)]) := .cons (by first | omega | (simp; done) | (simp; omega)) (by go_simp) (.cons (by first | omega | (simp; done) | (simp; omega)) (by go_simp) (.cons (by first | omega | (simp; done) | (simp; omega)) (by go_simp) (.cons (by first | omega | (simp; done) | (simp; omega)) (by go_simp) (.cons (by first | omega | (simp; done) | (simp; omega)) (by go_simp) (.cons (by first | omega | (simp; done) | (simp; omega)) (by go_simp) (.cons (by first | omega | (simp; done) | (simp; omega)) (by go_simp) (.cons (by first | omega | (simp; done) | (simp; omega)) (by go_simp) (.cons (by first | omega | (simp; done) | (simp; omega)) (by go_simp) (.cons (by first | omega | (simp; done) | (simp; omega)) (by go_simp) (.cons (by first | omega | (simp; done) | (simp; omega)) (by go_simp) (.cons (by first | omega | (simp; done) | (simp; omega)) (by go_simp) (.nil _))))))))))))
  go_enter Try.func82, Try.ntmps82
  go_wp2_with fail
  refine (HPar.out _ HB0.out).mono ?_
  rintro e w1 ⟨rfl, hb⟩
  have HB1 := Lib.hid (HB0.out.trans (hb.mono HB0.out.size))
  have HA1 := Lib.hid (HA0.out.later hb)
  clear hb HB0 HA0
  have c0 := HA1.out.hd
  have c1 := HA1.out.tl.hd
  have c2 := HA1.out.tl.tl.hd
  have c3 := HA1.out.tl.tl.tl.hd
  have c4 := HA1.out.tl.tl.tl.tl.hd
  have c5 := HA1.out.tl.tl.tl.tl.tl.hd
  have c6 := HA1.out.tl.tl.tl.tl.tl.tl.hd
  have c7 := HA1.out.tl.tl.tl.tl.tl.tl.tl.hd
  have c8 := HA1.out.tl.tl.tl.tl.tl.tl.tl.tl.hd
  have c9 := HA1.out.tl.tl.tl.tl.tl.tl.tl.tl.tl.hd
  have c10 := HA1.out.tl.tl.tl.tl.tl.tl.tl.tl.tl.tl.hd
  have c11 := HA1.out.tl.tl.tl.tl.tl.tl.tl.tl.tl.tl.tl.hd
  go_wp2_with fail
  refine (HPath.out _ HB1.out).mono ?_
  rintro e w2 ⟨rfl, hb⟩
  have HB2 := Lib.hid (HB1.out.trans (hb.mono HB1.out.size))
  have HA2 := Lib.hid (HA1.out.later hb)
  clear hb HB1 HA1
  clear c0 c1 c2 c3 c4 c5 c6 c7 c8 c9 c10 c11
  have c0 := HA2.out.hd
  have c1 := HA2.out.tl.hd
  have c2 := HA2.out.tl.tl.hd
  have c3 := HA2.out.tl.tl.tl.hd
  have c4 := HA2.out.tl.tl.tl.tl.hd
  have c5 := HA2.out.tl.tl.tl.tl.tl.hd
  have c6 := HA2.out.tl.tl.tl.tl.tl.tl.hd
  have c7 := HA2.out.tl.tl.tl.tl.tl.tl.tl.hd
  have c8 := HA2.out.tl.tl.tl.tl.tl.tl.tl.tl.hd
  have c9 := HA2.out.tl.tl.tl.tl.tl.tl.tl.tl.tl.hd
  have c10 := HA2.out.tl.tl.tl.tl.tl.tl.tl.tl.tl.tl.hd
  have c11 := HA2.out.tl.tl.tl.tl.tl.tl.tl.tl.tl.tl.tl.hd
  cases h0 : pb
  case false =>
    go_wp2_with fail
    go_ret
    exact ⟨ret_bool (by rw [HV.out]; simp [h0]), HB2.out⟩
  case true =>
    cases his : is
    case false =>
      go_wp2_with fail
      refine (HK.out _ HB2.out).mono ?_
      rintro e w3 ⟨rfl, hb⟩
      have HB3 := Lib.hid (HB2.out.trans (hb.mono HB2.out.size))
      have HA3 := Lib.hid (HA2.out.later hb)
      clear hb HB2 HA2
      clear c0 c1 c2 c3 c4 c5 c6 c7 c8 c9 c10 c11
      have c0 := HA3.out.hd
      have c1 := HA3.out.tl.hd
      have c2 := HA3.out.tl.tl.hd
      have c3 := HA3.out.tl.tl.tl.hd
      have c4 := HA3.out.tl.tl.tl.tl.hd
      have c5 := HA3.out.tl.tl.tl.tl.tl.hd
      have c6 := HA3.out.tl.tl.tl.tl.tl.tl.hd
      have c7 := HA3.out.tl.tl.tl.tl.tl.tl.tl.hd
      have c8 := HA3.out.tl.tl.tl.tl.tl.tl.tl.tl.hd
      have c9 := HA3.out.tl.tl.tl.tl.tl.tl.tl.tl.tl.hd
      have c10 := HA3.out.tl.tl.tl.tl.tl.tl.tl.tl.tl.tl.hd
      have c11 := HA3.out.tl.tl.tl.tl.tl.tl.tl.tl.tl.tl.tl.hd
      cases h2 : bk == 0
      case false =>
        have zbk : (bk != 0) = true := by simp [bne, h2]
        go_wp2_with fail
        go_ret
        exact ⟨ret_bool (by rw [HV.out]; simp [h0, his, h2]), HB3.out⟩
      case true =>
        have zbk : (bk != 0) = false := by simp [bne, h2]
        go_wp2_with fail
        refine (HP.out _ HB3.out).mono ?_
        rintro e w4 ⟨rfl, hb⟩
        have HB4 := Lib.hid (HB3.out.trans (hb.mono HB3.out.size))
        have HA4 := Lib.hid (HA3.out.later hb)
        clear hb HB3 HA3
        clear c0 c1 c2 c3 c4 c5 c6 c7 c8 c9 c10 c11
        have c0 := HA4.out.hd
        have c1 := HA4.out.tl.hd
        have c2 := HA4.out.tl.tl.hd
        have c3 := HA4.out.tl.tl.tl.hd
        have c4 := HA4.out.tl.tl.tl.tl.hd
        have c5 := HA4.out.tl.tl.tl.tl.tl.hd
        have c6 := HA4.out.tl.tl.tl.tl.tl.tl.hd
        have c7 := HA4.out.tl.tl.tl.tl.tl.tl.tl.hd
        have c8 := HA4.out.tl.tl.tl.tl.tl.tl.tl.tl.hd
        have c9 := HA4.out.tl.tl.tl.tl.tl.tl.tl.tl.tl.hd
        have c10 := HA4.out.tl.tl.tl.tl.tl.tl.tl.tl.tl.tl.hd
        have c11 := HA4.out.tl.tl.tl.tl.tl.tl.tl.tl.tl.tl.tl.hd
        cases h3 : pp == 0
        case false =>
          have zpp : (pp != 0) = true := by simp [bne, h3]
          go_wp2_with fail
          go_ret
          exact ⟨ret_bool (by rw [HV.out]; simp [h0, his, h2, h3]), HB4.out⟩
        case true =>
          have zpp : (pp != 0) = false := by simp [bne, h3]
          go_wp2_with fail
          refine (HSn.out _ HB4.out).mono ?_
          rintro e w5 ⟨rfl, hb⟩
          have HB5 := Lib.hid (HB4.out.trans (hb.mono HB4.out.size))
          have HA5 := Lib.hid (HA4.out.later hb)
          clear hb HB4 HA4
          clear c0 c1 c2 c3 c4 c5 c6 c7 c8 c9 c10 c11
          have c0 := HA5.out.hd
          have c1 := HA5.out.tl.hd
          have c2 := HA5.out.tl.tl.hd
          have c3 := HA5.out.tl.tl.tl.hd
          have c4 := HA5.out.tl.tl.tl.tl.hd
          have c5 := HA5.out.tl.tl.tl.tl.tl.hd
          have c6 := HA5.out.tl.tl.tl.tl.tl.tl.hd
          have c7 := HA5.out.tl.tl.tl.tl.tl.tl.tl.hd
          have c8 := HA5.out.tl.tl.tl.tl.tl.tl.tl.tl.hd
          have c9 := HA5.out.tl.tl.tl.tl.tl.tl.tl.tl.tl.hd
          have c10 := HA5.out.tl.tl.tl.tl.tl.tl.tl.tl.tl.tl.hd
          have c11 := HA5.out.tl.tl.tl.tl.tl.tl.tl.tl.tl.tl.tl.hd
          cases h4 : sb
          case false =>
            go_wp2_with fail
            go_ret
            exact ⟨ret_bool (by rw [HV.out]; simp [h0, his, h2, h3, h4]), HB5.out⟩
          case true =>
            cases h5 : y.origin.toList.isEmpty
            case true =>
              have ze : y.origin.toList = [] := by simpa using h5
              go_wp2_with fail
              go_ret
              exact ⟨ret_bool (by rw [HV.out]; simp [h0, his, h2, h3, h4, h5]), HB5.out⟩
            case false =>
              go_wp2_with fail
              refine (HSp.out _ HB5.out).mono ?_
              rintro e w6 ⟨rfl, hb⟩
              have HB6 := Lib.hid (HB5.out.trans (hb.mono HB5.out.size))
              have HA6 := Lib.hid (HA5.out.later hb)
              clear hb HB5 HA5
              clear c0 c1 c2 c3 c4 c5 c6 c7 c8 c9 c10 c11
              have c0 := HA6.out.hd
              have c1 := HA6.out.tl.hd
              have c2 := HA6.out.tl.tl.hd
              have c3 := HA6.out.tl.tl.tl.hd
              have c4 := HA6.out.tl.tl.tl.tl.hd
              have c5 := HA6.out.tl.tl.tl.tl.tl.hd
              have c6 := HA6.out.tl.tl.tl.tl.tl.tl.hd
              have c7 := HA6.out.tl.tl.tl.tl.tl.tl.tl.hd
              have c8 := HA6.out.tl.tl.tl.tl.tl.tl.tl.tl.hd
              have c9 := HA6.out.tl.tl.tl.tl.tl.tl.tl.tl.tl.hd
              have c10 := HA6.out.tl.tl.tl.tl.tl.tl.tl.tl.tl.tl.hd
              have c11 := HA6.out.tl.tl.tl.tl.tl.tl.tl.tl.tl.tl.tl.hd
              go_wp2_with fail
              refine (HF2.out _ HB6.out).mono ?_
              rintro e w7 ⟨rfl, hb⟩
              have HB7 := Lib.hid (HB6.out.trans (hb.mono HB6.out.size))
              have HA7 := Lib.hid (HA6.out.later hb)
              clear hb HB6 HA6
              clear c0 c1 c2 c3 c4 c5 c6 c7 c8 c9 c10 c11
              have c0 := HA7.out.hd
              have c1 := HA7.out.tl.hd
              have c2 := HA7.out.tl.tl.hd
              have c3 := HA7.out.tl.tl.tl.hd
              have c4 := HA7.out.tl.tl.tl.tl.hd
              have c5 := HA7.out.tl.tl.tl.tl.tl.hd
              have c6 := HA7.out.tl.tl.tl.tl.tl.tl.hd
              have c7 := HA7.out.tl.tl.tl.tl.tl.tl.tl.hd
              have c8 := HA7.out.tl.tl.tl.tl.tl.tl.tl.tl.hd
              have c9 := HA7.out.tl.tl.tl.tl.tl.tl.tl.tl.tl.hd
              have c10 := HA7.out.tl.tl.tl.tl.tl.tl.tl.tl.tl.tl.hd
              have c11 := HA7.out.tl.tl.tl.tl.tl.tl.tl.tl.tl.tl.tl.hd
              cases h6 : se == 0
              case false =>
                go_wp2_with fail
                go_ret
                exact ⟨ret_bool (by rw [HV.out]; simp [h0, his, h2, h3, h4, h5, h6]), HB7.out⟩
              case true =>
                cases h7 : sp.toList == y.path.toList
                case true =>
                  have zs : sp.toList = y.path.toList := by simpa using h7
                  go_wp2_with fail
                  go_ret
                  exact ⟨ret_bool (by rw [HV.out]; simp [h0, his, h2, h3, h4, h5, h6, h7]), HB7.out⟩
                case false =>
                  cases h8 : decide (0 ≤ f2)
                  case false =>
                    go_wp2_with fail
                    go_ret
                    exact ⟨ret_bool (by rw [HV.out]; simp [h0, his, h2, h3, h4, h5, h6, h7, h8]), HB7.out⟩
                  case true =>
                    have hf0 : 0 ≤ f2 := of_decide_eq_true h8
                    have hf1 : f2 < x.sets.l.length := by rcases HRG2.out with h | h <;> omega
                    obtain ⟨m, rfl⟩ := Int.eq_ofNat_of_zero_le hf0
                    have hm : m < x.sets.l.length := by omega
                    obtain ⟨z, b, off, hz, hza, hbz, hz0, hz1, hz2, hz3, hz4, hzo⟩ := (HSET.out.below HB7.out).get hm
                    have HZ : Hid (findSnap (x.sets.l.getD ((m : Int)).toNat default).snaps.l sn = findSnap z.snaps.l sn) := by show _ = _; simp [List.getD, hz]
                    have HLA : Hid (∀ W, Below w7.heap.size w7 W → Calls Try.prog 91 #[.agg #[.string z.path, .string z.origin, .slice z.body.a z.body.l.length z.body.c, .slice z.snaps.a z.snaps.l.length z.snaps.c, .slice z.own.a z.own.l.length z.own.c], .string sn] W fun e w' => e = .returned (.int .i64 (findSnap z.snaps.l sn)) ∧ Below W.heap.size W w') := fun W hW => Snap_any z sn W (okSet_below hzo hW)
                    rw [HZ.out] at HV
                    clear HZ hz hzo
                    generalize findSnap z.snaps.l sn = q at *
                    go_wp2_with fail
                    refine (HLA.out _ (Below.refl _ _)).mono ?_
                    rintro e w8 ⟨rfl, hb⟩
                    have HB8 := Lib.hid (HB7.out.trans (hb.mono HB7.out.size))
                    clear hb
                    cases h9 : decide (0 ≤ q)
                    case false =>
                      go_wp2_with fail
                      go_ret
                      exact ⟨ret_bool (by rw [HV.out]; simp [h0, his, h2, h3, h4, h5, h6, h7, h8, h9]), HB8.out⟩
                    case true =>
                      go_wp2_with fail
                      go_ret
                      exact ⟨ret_bool (by rw [HV.out]; simp [h0, his, h2, h3, h4, h5, h6, h7, h8, h9]), HB8.out⟩
    case true =>
      go_wp2_with fail
      refine (HF1.out _ HB2.out).mono ?_
      rintro e w3 ⟨rfl, hb⟩
      have HB3 := Lib.hid (HB2.out.trans (hb.mono HB2.out.size))
      have HA3 := Lib.hid (HA2.out.later hb)
      clear hb HB2 HA2
      clear c0 c1 c2 c3 c4 c5 c6 c7 c8 c9 c10 c11
      have c0 := HA3.out.hd
      have c1 := HA3.out.tl.hd
      have c2 := HA3.out.tl.tl.hd
      have c3 := HA3.out.tl.tl.tl.hd
      have c4 := HA3.out.tl.tl.tl.tl.hd
      have c5 := HA3.out.tl.tl.tl.tl.tl.hd
      have c6 := HA3.out.tl.tl.tl.tl.tl.tl.hd
      have c7 := HA3.out.tl.tl.tl.tl.tl.tl.tl.hd
      have c8 := HA3.out.tl.tl.tl.tl.tl.tl.tl.tl.hd
      have c9 := HA3.out.tl.tl.tl.tl.tl.tl.tl.tl.tl.hd
      have c10 := HA3.out.tl.tl.tl.tl.tl.tl.tl.tl.tl.tl.hd
      have c11 := HA3.out.tl.tl.tl.tl.tl.tl.tl.tl.tl.tl.tl.hd
      cases h2 : decide (f1 < 0)
      case true =>
        go_wp2_with fail
        go_ret
        exact ⟨ret_bool (by rw [HV.out]; simp [h0, his, h2]), HB3.out⟩
      case false =>
        go_wp2_with fail
        refine (HK.out _ HB3.out).mono ?_
        rintro e w4 ⟨rfl, hb⟩
        have HB4 := Lib.hid (HB3.out.trans (hb.mono HB3.out.size))
        have HA4 := Lib.hid (HA3.out.later hb)
        clear hb HB3 HA3
        clear c0 c1 c2 c3 c4 c5 c6 c7 c8 c9 c10 c11
        have c0 := HA4.out.hd
        have c1 := HA4.out.tl.hd
        have c2 := HA4.out.tl.tl.hd
        have c3 := HA4.out.tl.tl.tl.hd
        have c4 := HA4.out.tl.tl.tl.tl.hd
        have c5 := HA4.out.tl.tl.tl.tl.tl.hd
        have c6 := HA4.out.tl.tl.tl.tl.tl.tl.hd
        have c7 := HA4.out.tl.tl.tl.tl.tl.tl.tl.hd
        have c8 := HA4.out.tl.tl.tl.tl.tl.tl.tl.tl.hd
        have c9 := HA4.out.tl.tl.tl.tl.tl.tl.tl.tl.tl.hd
        have c10 := HA4.out.tl.tl.tl.tl.tl.tl.tl.tl.tl.tl.hd
        have c11 := HA4.out.tl.tl.tl.tl.tl.tl.tl.tl.tl.tl.tl.hd
        cases h3 : bk == 0
        case false =>
          have zbk : (bk != 0) = true := by simp [bne, h3]
          go_wp2_with fail
          go_ret
          exact ⟨ret_bool (by rw [HV.out]; simp [h0, his, h2, h3]), HB4.out⟩
        case true =>
          have zbk : (bk != 0) = false := by simp [bne, h3]
          go_wp2_with fail
          refine (HP.out _ HB4.out).mono ?_
          rintro e w5 ⟨rfl, hb⟩
          have HB5 := Lib.hid (HB4.out.trans (hb.mono HB4.out.size))
          have HA5 := Lib.hid (HA4.out.later hb)
          clear hb HB4 HA4
          clear c0 c1 c2 c3 c4 c5 c6 c7 c8 c9 c10 c11
          have c0 := HA5.out.hd
          have c1 := HA5.out.tl.hd
          have c2 := HA5.out.tl.tl.hd
          have c3 := HA5.out.tl.tl.tl.hd
          have c4 := HA5.out.tl.tl.tl.tl.hd
          have c5 := HA5.out.tl.tl.tl.tl.tl.hd
          have c6 := HA5.out.tl.tl.tl.tl.tl.tl.hd
          have c7 := HA5.out.tl.tl.tl.tl.tl.tl.tl.hd
          have c8 := HA5.out.tl.tl.tl.tl.tl.tl.tl.tl.hd
          have c9 := HA5.out.tl.tl.tl.tl.tl.tl.tl.tl.tl.hd
          have c10 := HA5.out.tl.tl.tl.tl.tl.tl.tl.tl.tl.tl.hd
          have c11 := HA5.out.tl.tl.tl.tl.tl.tl.tl.tl.tl.tl.tl.hd
          cases h4 : pp == 0
          case false =>
            have zpp : (pp != 0) = true := by simp [bne, h4]
            go_wp2_with fail
            go_ret
            exact ⟨ret_bool (by rw [HV.out]; simp [h0, his, h2, h3, h4]), HB5.out⟩
          case true =>
            have zpp : (pp != 0) = false := by simp [bne, h4]
            go_wp2_with fail
            refine (HSn.out _ HB5.out).mono ?_
            rintro e w6 ⟨rfl, hb⟩
            have HB6 := Lib.hid (HB5.out.trans (hb.mono HB5.out.size))
            have HA6 := Lib.hid (HA5.out.later hb)
            clear hb HB5 HA5
            clear c0 c1 c2 c3 c4 c5 c6 c7 c8 c9 c10 c11
            have c0 := HA6.out.hd
            have c1 := HA6.out.tl.hd
            have c2 := HA6.out.tl.tl.hd
            have c3 := HA6.out.tl.tl.tl.hd
            have c4 := HA6.out.tl.tl.tl.tl.hd
            have c5 := HA6.out.tl.tl.tl.tl.tl.hd
            have c6 := HA6.out.tl.tl.tl.tl.tl.tl.hd
            have c7 := HA6.out.tl.tl.tl.tl.tl.tl.tl.hd
            have c8 := HA6.out.tl.tl.tl.tl.tl.tl.tl.tl.hd
            have c9 := HA6.out.tl.tl.tl.tl.tl.tl.tl.tl.tl.hd
            have c10 := HA6.out.tl.tl.tl.tl.tl.tl.tl.tl.tl.tl.hd
            have c11 := HA6.out.tl.tl.tl.tl.tl.tl.tl.tl.tl.tl.tl.hd
            cases h5 : sb
            case false =>
              go_wp2_with fail
              go_ret
              exact ⟨ret_bool (by rw [HV.out]; simp [h0, his, h2, h3, h4, h5]), HB6.out⟩
            case true =>
              cases h6 : y.origin.toList.isEmpty
              case true =>
                have ze : y.origin.toList = [] := by simpa using h6
                go_wp2_with fail
                go_ret
                exact ⟨ret_bool (by rw [HV.out]; simp [h0, his, h2, h3, h4, h5, h6]), HB6.out⟩
              case false =>
                go_wp2_with fail
                refine (HSp.out _ HB6.out).mono ?_
                rintro e w7 ⟨rfl, hb⟩
                have HB7 := Lib.hid (HB6.out.trans (hb.mono HB6.out.size))
                have HA7 := Lib.hid (HA6.out.later hb)
                clear hb HB6 HA6
                clear c0 c1 c2 c3 c4 c5 c6 c7 c8 c9 c10 c11
                have c0 := HA7.out.hd
                have c1 := HA7.out.tl.hd
                have c2 := HA7.out.tl.tl.hd
                have c3 := HA7.out.tl.tl.tl.hd
                have c4 := HA7.out.tl.tl.tl.tl.hd
                have c5 := HA7.out.tl.tl.tl.tl.tl.hd
                have c6 := HA7.out.tl.tl.tl.tl.tl.tl.hd
                have c7 := HA7.out.tl.tl.tl.tl.tl.tl.tl.hd
                have c8 := HA7.out.tl.tl.tl.tl.tl.tl.tl.tl.hd
                have c9 := HA7.out.tl.tl.tl.tl.tl.tl.tl.tl.tl.hd
                have c10 := HA7.out.tl.tl.tl.tl.tl.tl.tl.tl.tl.tl.hd
                have c11 := HA7.out.tl.tl.tl.tl.tl.tl.tl.tl.tl.tl.tl.hd
                go_wp2_with fail
                refine (HF2.out _ HB7.out).mono ?_
                rintro e w8 ⟨rfl, hb⟩
                have HB8 := Lib.hid (HB7.out.trans (hb.mono HB7.out.size))
                have HA8 := Lib.hid (HA7.out.later hb)
                clear hb HB7 HA7
                clear c0 c1 c2 c3 c4 c5 c6 c7 c8 c9 c10 c11
                have c0 := HA8.out.hd
                have c1 := HA8.out.tl.hd
                have c2 := HA8.out.tl.tl.hd
                have c3 := HA8.out.tl.tl.tl.hd
                have c4 := HA8.out.tl.tl.tl.tl.hd
                have c5 := HA8.out.tl.tl.tl.tl.tl.hd
                have c6 := HA8.out.tl.tl.tl.tl.tl.tl.hd
                have c7 := HA8.out.tl.tl.tl.tl.tl.tl.tl.hd
                have c8 := HA8.out.tl.tl.tl.tl.tl.tl.tl.tl.hd
                have c9 := HA8.out.tl.tl.tl.tl.tl.tl.tl.tl.tl.hd
                have c10 := HA8.out.tl.tl.tl.tl.tl.tl.tl.tl.tl.tl.hd
                have c11 := HA8.out.tl.tl.tl.tl.tl.tl.tl.tl.tl.tl.tl.hd
                cases h7 : se == 0
                case false =>
                  go_wp2_with fail
                  go_ret
                  exact ⟨ret_bool (by rw [HV.out]; simp [h0, his, h2, h3, h4, h5, h6, h7]), HB8.out⟩
                case true =>
                  cases h8 : sp.toList == y.path.toList
                  case true =>
                    have zs : sp.toList = y.path.toList := by simpa using h8
                    go_wp2_with fail
                    go_ret
                    exact ⟨ret_bool (by rw [HV.out]; simp [h0, his, h2, h3, h4, h5, h6, h7, h8]), HB8.out⟩
                  case false =>
                    cases h9 : decide (0 ≤ f2)
                    case false =>
                      go_wp2_with fail
                      go_ret
                      exact ⟨ret_bool (by rw [HV.out]; simp [h0, his, h2, h3, h4, h5, h6, h7, h8, h9]), HB8.out⟩
                    case true =>
                      have hf0 : 0 ≤ f2 := of_decide_eq_true h9
                      have hf1 : f2 < x.sets.l.length := by rcases HRG2.out with h | h <;> omega
                      obtain ⟨m, rfl⟩ := Int.eq_ofNat_of_zero_le hf0
                      have hm : m < x.sets.l.length := by omega
                      obtain ⟨z, b, off, hz, hza, hbz, hz0, hz1, hz2, hz3, hz4, hzo⟩ := (HSET.out.below HB8.out).get hm
                      have HZ : Hid (findSnap (x.sets.l.getD ((m : Int)).toNat default).snaps.l sn = findSnap z.snaps.l sn) := by show _ = _; simp [List.getD, hz]
                      have HLA : Hid (∀ W, Below w8.heap.size w8 W → Calls Try.prog 91 #[.agg #[.string z.path, .string z.origin, .slice z.body.a z.body.l.length z.body.c, .slice z.snaps.a z.snaps.l.length z.snaps.c, .slice z.own.a z.own.l.length z.own.c], .string sn] W fun e w' => e = .returned (.int .i64 (findSnap z.snaps.l sn)) ∧ Below W.heap.size W w') := fun W hW => Snap_any z sn W (okSet_below hzo hW)
                      rw [HZ.out] at HV
                      clear HZ hz hzo
                      generalize findSnap z.snaps.l sn = q at *
                      go_wp2_with fail
                      refine (HLA.out _ (Below.refl _ _)).mono ?_
                      rintro e w9 ⟨rfl, hb⟩
                      have HB9 := Lib.hid (HB8.out.trans (hb.mono HB8.out.size))
                      clear hb
                      cases h10 : decide (0 ≤ q)
                      case false =>
                        go_wp2_with fail
                        go_ret
                        exact ⟨ret_bool (by rw [HV.out]; simp [h0, his, h2, h3, h4, h5, h6, h7, h8, h9, h10]), HB9.out⟩
                      case true =>
                        go_wp2_with fail
                        go_ret
                        exact ⟨ret_bool (by rw [HV.out]; simp [h0, his, h2, h3, h4, h5, h6, h7, h8, h9, h10]), HB9.out⟩
end Go.Proofs.Ytbkghiaafkmapaa
