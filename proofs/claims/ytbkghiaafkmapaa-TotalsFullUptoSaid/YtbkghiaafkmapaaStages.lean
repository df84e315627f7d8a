/- Walks of the reference's begins, stages and entries. No condition but a string's size. -/
import Derived.Test.YtbkghiaafkmapaaChecks2
namespace Go.Proofs.Ytbkghiaafkmapaa
open Go.ChangeShapes Go.WideShapes Go.ChangeAt Go.RowKit

def zeroSum (x : SumD) : Bool := x.sa == 0 && (x.sb == 0 && (x.sc == 0 && x.sd == 0))
def beginB (x : RecordD) : Bool := x.kind == 1 && (nameB x.name && (amountB x.from_ 0 && (amountB x.guid 1 && (propsE x.own.l == 0 && (x.index == 0 && (x.count == 0 && (x.data.toList.isEmpty && zeroSum x.sum)))))))
set_option maxRecDepth 100000 in
set_option maxHeartbeats 4000000 in
theorem Begin_any (x : RecordD) (w : World) (h : okRecord w x) :
    Calls Try.prog 92 #[.agg #[.int .i64 x.kind, .string x.name, .int .i64 x.from_, .int .i64 x.guid, .slice x.own.a x.own.l.length x.own.c, .int .i64 x.index, .int .i64 x.count, .string x.data, .int .u64 x.sum.sa, .int .u64 x.sum.sb, .int .u64 x.sum.sc, .int .u64 x.sum.sd]] w fun e w' => e = .returned (.bool (beginB x)) ∧ Below w.heap.size w w' := by
  have HV : Hid (beginB x = (x.kind == 1 && (nameB x.name && (amountB x.from_ 0 && (amountB x.guid 1 && (propsE x.own.l == 0 && (x.index == 0 && (x.count == 0 && (x.data.toList.isEmpty && zeroSum x.sum))))))))) := rfl
  generalize beginB x = bv at *
  obtain ⟨-, hn, -, -, ho, -, -, -, -⟩ := h
  have HN := Lib.hid (fun W (_ : Below w.heap.size w W) => Name_b x.name W hn)
  have HM := Lib.hid (fun W (_ : Below w.heap.size w W) => amount_b x.from_ 0 W)
  have HG := Lib.hid (fun W (_ : Below w.heap.size w W) => amount_b x.guid 1 W)
  have HP := Lib.hid (fun W hW => Props_any x.own.a x.own.c x.own.l W (ho.below hW))
  have HB0 : Hid (Below w.heap.size w (w.alloc (.cells #[.int .i64 x.kind, .string x.name, .int .i64 x.from_, .int .i64 x.guid, .slice x.own.a x.own.l.length x.own.c, .int .i64 x.index, .int .i64 x.count, .string x.data, .int .u64 x.sum.sa, .int .u64 x.sum.sb, .int .u64 x.sum.sc, .int .u64 x.sum.sd] 65))) := (Below.refl _ _).alloc (Nat.le_refl _) _
  have HA0 : Hid (At (w.alloc (.cells #[.int .i64 x.kind, .string x.name, .int .i64 x.from_, .int .i64 x.guid, .slice x.own.a x.own.l.length x.own.c, .int .i64 x.index, .int .i64 x.count, .string x.data, .int .u64 x.sum.sa, .int .u64 x.sum.sb, .int .u64 x.sum.sc, .int .u64 x.sum.sd] 65)) [(w.heap.size, 0, .int .i64 x.kind), (w.heap.size, 1, .string x.name), (w.heap.size, 2, .int .i64 x.from_), (w.heap.size, 3, .int .i64 x.guid), (w.heap.size, 4, .slice x.own.a x.own.l.length x.own.c), (w.heap.size, 5, .int .i64 x.index), (w.heap.size, 6, .int .i64 x.count), (w.heap.size, 7, .string x.data), (w.heap.size, 8, .int .u64 x.sum.sa), (w.heap.size, 9, .int .u64 x.sum.sb), (w.heap.size, 10, .int .u64 x.sum.sc), (w.heap.size, 11, .int .u64 x.sum.sd)]) := .cons (by simp) (by go_simp) (.cons (by simp) (by go_simp) (.cons (by simp) (by go_simp) (.cons (by simp) (by go_simp) (.cons (by simp) (by go_simp) (.cons (by simp) (by go_simp) (.cons (by simp) (by go_simp) (.cons (by simp) (by go_simp) (.cons (by simp) (by go_simp) (.cons (by simp) (by go_simp) (.cons (by simp) (by go_simp) (.cons (by simp) (by go_simp) (.nil _))))))))))))
  clear hn ho
  cases h0 : x.kind == 1
  case false =>
    go_enter Try.func92, Try.ntmps92
    go_wp2_with fail
    go_ret
    exact ⟨ret_bool (by rw [HV.out]; simp [h0, zeroSum]), HB0.out⟩
  case true =>
    go_enter Try.func92, Try.ntmps92
    go_wp2_with fail
    refine (HN.out _ HB0.out).mono ?_
    rintro e w1 ⟨rfl, hb⟩
    have HB1 := Lib.hid (HB0.out.trans (hb.mono HB0.out.size))
    have HA1 := Lib.hid (HA0.out.later hb)
    clear hb HB0 HA0
    have c0 := HA1.out.hd
    have c1 := HA1.out.tl.hd
    have c2 := HA1.out.tl.tl.hd
    have c3 := HA1.out.tl.tl.tl.hd
    have c4 := HA1.out.tl.tl.tl.tl.hd
    have c5 := HA1.out.tl.tl.tl.tl.tl.hd
    have c6 := HA1.out.tl.tl.tl.tl.tl.tl.hd
    have c7 := HA1.out.tl.tl.tl.tl.tl.tl.tl.hd
    have c8 := HA1.out.tl.tl.tl.tl.tl.tl.tl.tl.hd
    have c9 := HA1.out.tl.tl.tl.tl.tl.tl.tl.tl.tl.hd
    have c10 := HA1.out.tl.tl.tl.tl.tl.tl.tl.tl.tl.tl.hd
    have c11 := HA1.out.tl.tl.tl.tl.tl.tl.tl.tl.tl.tl.tl.hd
    cases h1 : nameB x.name
    case false =>
      go_wp2_with fail
      go_ret
      exact ⟨ret_bool (by rw [HV.out]; simp [h0, h1, zeroSum]), HB1.out⟩
    case true =>
      go_wp2_with fail
      refine (HM.out _ HB1.out).mono ?_
      rintro e w2 ⟨rfl, hb⟩
      have HB2 := Lib.hid (HB1.out.trans (hb.mono HB1.out.size))
      have HA2 := Lib.hid (HA1.out.later hb)
      clear hb HB1 HA1
      clear c0 c1 c2 c3 c4 c5 c6 c7 c8 c9 c10 c11
      have c0 := HA2.out.hd
      have c1 := HA2.out.tl.hd
      have c2 := HA2.out.tl.tl.hd
      have c3 := HA2.out.tl.tl.tl.hd
      have c4 := HA2.out.tl.tl.tl.tl.hd
      have c5 := HA2.out.tl.tl.tl.tl.tl.hd
      have c6 := HA2.out.tl.tl.tl.tl.tl.tl.hd
      have c7 := HA2.out.tl.tl.tl.tl.tl.tl.tl.hd
      have c8 := HA2.out.tl.tl.tl.tl.tl.tl.tl.tl.hd
      have c9 := HA2.out.tl.tl.tl.tl.tl.tl.tl.tl.tl.hd
      have c10 := HA2.out.tl.tl.tl.tl.tl.tl.tl.tl.tl.tl.hd
      have c11 := HA2.out.tl.tl.tl.tl.tl.tl.tl.tl.tl.tl.tl.hd
      cases h2 : amountB x.from_ 0
      case false =>
        go_wp2_with fail
        go_ret
        exact ⟨ret_bool (by rw [HV.out]; simp [h0, h1, h2, zeroSum]), HB2.out⟩
      case true =>
        go_wp2_with fail
        refine (HG.out _ HB2.out).mono ?_
        rintro e w3 ⟨rfl, hb⟩
        have HB3 := Lib.hid (HB2.out.trans (hb.mono HB2.out.size))
        have HA3 := Lib.hid (HA2.out.later hb)
        clear hb HB2 HA2
        clear c0 c1 c2 c3 c4 c5 c6 c7 c8 c9 c10 c11
        have c0 := HA3.out.hd
        have c1 := HA3.out.tl.hd
        have c2 := HA3.out.tl.tl.hd
        have c3 := HA3.out.tl.tl.tl.hd
        have c4 := HA3.out.tl.tl.tl.tl.hd
        have c5 := HA3.out.tl.tl.tl.tl.tl.hd
        have c6 := HA3.out.tl.tl.tl.tl.tl.tl.hd
        have c7 := HA3.out.tl.tl.tl.tl.tl.tl.tl.hd
        have c8 := HA3.out.tl.tl.tl.tl.tl.tl.tl.tl.hd
        have c9 := HA3.out.tl.tl.tl.tl.tl.tl.tl.tl.tl.hd
        have c10 := HA3.out.tl.tl.tl.tl.tl.tl.tl.tl.tl.tl.hd
        have c11 := HA3.out.tl.tl.tl.tl.tl.tl.tl.tl.tl.tl.tl.hd
        cases h3 : amountB x.guid 1
        case false =>
          go_wp2_with fail
          go_ret
          exact ⟨ret_bool (by rw [HV.out]; simp [h0, h1, h2, h3, zeroSum]), HB3.out⟩
        case true =>
          go_wp2_with fail
          refine (HP.out _ HB3.out).mono ?_
          rintro e w4 ⟨rfl, hb⟩
          have HB4 := Lib.hid (HB3.out.trans (hb.mono HB3.out.size))
          have HA4 := Lib.hid (HA3.out.later hb)
          clear hb HB3 HA3
          clear c0 c1 c2 c3 c4 c5 c6 c7 c8 c9 c10 c11
          have c0 := HA4.out.hd
          have c1 := HA4.out.tl.hd
          have c2 := HA4.out.tl.tl.hd
          have c3 := HA4.out.tl.tl.tl.hd
          have c4 := HA4.out.tl.tl.tl.tl.hd
          have c5 := HA4.out.tl.tl.tl.tl.tl.hd
          have c6 := HA4.out.tl.tl.tl.tl.tl.tl.hd
          have c7 := HA4.out.tl.tl.tl.tl.tl.tl.tl.hd
          have c8 := HA4.out.tl.tl.tl.tl.tl.tl.tl.tl.hd
          have c9 := HA4.out.tl.tl.tl.tl.tl.tl.tl.tl.tl.hd
          have c10 := HA4.out.tl.tl.tl.tl.tl.tl.tl.tl.tl.tl.hd
          have c11 := HA4.out.tl.tl.tl.tl.tl.tl.tl.tl.tl.tl.tl.hd
          cases h4 : propsE x.own.l == 0
          case false =>
            go_wp2_with fail
            go_ret
            exact ⟨ret_bool (by rw [HV.out]; simp [h0, h1, h2, h3, h4, zeroSum]), HB4.out⟩
          case true =>
            cases h5 : x.index == 0
            case false =>
              go_wp2_with fail
              go_ret
              exact ⟨ret_bool (by rw [HV.out]; simp [h0, h1, h2, h3, h4, h5, zeroSum]), HB4.out⟩
            case true =>
              cases h6 : x.count == 0
              case false =>
                go_wp2_with fail
                go_ret
                exact ⟨ret_bool (by rw [HV.out]; simp [h0, h1, h2, h3, h4, h5, h6, zeroSum]), HB4.out⟩
              case true =>
                cases h7 : x.data.toList.isEmpty
                case false =>
                  go_wp2_with fail
                  go_ret
                  exact ⟨ret_bool (by rw [HV.out]; simp [h0, h1, h2, h3, h4, h5, h6, h7, zeroSum]), HB4.out⟩
                case true =>
                  cases h8 : x.sum.sa == 0
                  case false =>
                    go_wp2_with fail
                    go_ret
                    exact ⟨ret_bool (by rw [HV.out]; simp [h0, h1, h2, h3, h4, h5, h6, h7, h8, zeroSum]), HB4.out⟩
                  case true =>
                    cases h9 : x.sum.sb == 0
                    case false =>
                      go_wp2_with fail
                      go_ret
                      exact ⟨ret_bool (by rw [HV.out]; simp [h0, h1, h2, h3, h4, h5, h6, h7, h8, h9, zeroSum]), HB4.out⟩
                    case true =>
                      cases h10 : x.sum.sc == 0
                      case false =>
                        go_wp2_with fail
                        go_ret
                        exact ⟨ret_bool (by rw [HV.out]; simp [h0, h1, h2, h3, h4, h5, h6, h7, h8, h9, h10, zeroSum]), HB4.out⟩
                      case true =>
                        cases h11 : x.sum.sd == 0
                        case false =>
                          go_wp2_with fail
                          go_ret
                          exact ⟨ret_bool (by rw [HV.out]; simp [h0, h1, h2, h3, h4, h5, h6, h7, h8, h9, h10, h11, zeroSum]), HB4.out⟩
                        case true =>
                          go_wp2_with fail
                          go_ret
                          exact ⟨ret_bool (by rw [HV.out]; simp [h0, h1, h2, h3, h4, h5, h6, h7, h8, h9, h10, h11, zeroSum]), HB4.out⟩

def stageB (x : StageD) : Bool := (!x.into.toList.isEmpty) && (pathB x.into && (beginB x.begin_ && (blkE x.body.l == 0 && (amountB x.at_ 0 && amountB x.next 0))))
set_option maxRecDepth 100000 in
set_option maxHeartbeats 4000000 in
theorem Stage_any (x : StageD) (w : World) (h : okStage w x) (hs : x.into.size ≤ 1048576) :
    Calls Try.prog 83 #[.agg #[.string x.into, .int .i64 x.begin_.kind, .string x.begin_.name, .int .i64 x.begin_.from_, .int .i64 x.begin_.guid, .slice x.begin_.own.a x.begin_.own.l.length x.begin_.own.c, .int .i64 x.begin_.index, .int .i64 x.begin_.count, .string x.begin_.data, .int .u64 x.begin_.sum.sa, .int .u64 x.begin_.sum.sb, .int .u64 x.begin_.sum.sc, .int .u64 x.begin_.sum.sd, .slice x.body.a x.body.l.length x.body.c, .int .i64 x.at_, .int .i64 x.next, .int .u64 x.sum.sa, .int .u64 x.sum.sb, .int .u64 x.sum.sc, .int .u64 x.sum.sd, .bool x.done]] w fun e w' => e = .returned (.bool (stageB x)) ∧ Below w.heap.size w w' := by
  have HV : Hid (stageB x = ((!x.into.toList.isEmpty) && (pathB x.into && (beginB x.begin_ && (blkE x.body.l == 0 && (amountB x.at_ 0 && amountB x.next 0)))))) := rfl
  generalize stageB x = bv at *
  obtain ⟨-, hr, hb0, -, -, -⟩ := h
  have HP := Lib.hid (fun W (_ : Below w.heap.size w W) => Path_any x.into W hs)
  have HG := Lib.hid (fun W hW => Begin_any x.begin_ W (okRecord_below hr hW))
  have HC := Lib.hid (fun W hW => Check11_any x.body.a x.body.c x.body.l W (hb0.below hW))
  have HM := Lib.hid (fun W (_ : Below w.heap.size w W) => amount_b x.at_ 0 W)
  have HX := Lib.hid (fun W (_ : Below w.heap.size w W) => amount_b x.next 0 W)
  have HB0 : Hid (Below w.heap.size w (w.alloc (.cells #[.string x.into, .int .i64 x.begin_.kind, .string x.begin_.name, .int .i64 x.begin_.from_, .int .i64 x.begin_.guid, .slice x.begin_.own.a x.begin_.own.l.length x.begin_.own.c, .int .i64 x.begin_.index, .int .i64 x.begin_.count, .string x.begin_.data, .int .u64 x.begin_.sum.sa, .int .u64 x.begin_.sum.sb, .int .u64 x.begin_.sum.sc, .int .u64 x.begin_.sum.sd, .slice x.body.a x.body.l.length x.body.c, .int .i64 x.at_, .int .i64 x.next, .int .u64 x.sum.sa, .int .u64 x.sum.sb, .int .u64 x.sum.sc, .int .u64 x.sum.sd, .bool x.done] 67))) := (Below.refl _ _).alloc (Nat.le_refl _) _
  have HA0 : Hid (At (w.alloc (.cells #[.string x.into, .int .i64 x.begin_.kind, .string x.begin_.name, .int .i64 x.begin_.from_, .int .i64 x.begin_.guid, .slice x.begin_.own.a x.begin_.own.l.length x.begin_.own.c, .int .i64 x.begin_.index, .int .i64 x.begin_.count, .string x.begin_.data, .int .u64 x.begin_.sum.sa, .int .u64 x.begin_.sum.sb, .int .u64 x.begin_.sum.sc, .int .u64 x.begin_.sum.sd, .slice x.body.a x.body.l.length x.body.c, .int .i64 x.at_, .int .i64 x.next, .int .u64 x.sum.sa, .int .u64 x.sum.sb, .int .u64 x.sum.sc, .int .u64 x.sum.sd, .bool x.done] 67)) [(w.heap.size, 0, .string x.into), (w.heap.size, 1, .int .i64 x.begin_.kind), (w.heap.size, 2, .string x.begin_.name), (w.heap.size, 3, .int .i64 x.begin_.from_), (w.heap.size, 4, .int .i64 x.begin_.guid), (w.heap.size, 5, .slice x.begin_.own.a x.begin_.own.l.length x.begin_.own.c), (w.heap.size, 6, .int .i64 x.begin_.index), (w.heap.size, 7, .int .i64 x.begin_.count), (w.heap.size, 8, .string x.begin_.data), (w.heap.size, 9, .int .u64 x.begin_.sum.sa), (w.heap.size, 10, .int .u64 x.begin_.sum.sb), (w.heap.size, 11, .int .u64 x.begin_.sum.sc), (w.heap.size, 12, .int .u64 x.begin_.sum.sd), (w.heap.size, 13, .slice x.body.a x.body.l.length x.body.c), (w.heap.size, 14, .int .i64 x.at_), (w.heap.size, 15, .int .i64 x.next), (w.heap.size, 16, .int .u64 x.sum.sa), (w.heap.size, 17, .int .u64 x.sum.sb), (w.heap.size, 18, .int .u64 x.sum.sc), (w.heap.size, 19, .int .u64 x.sum.sd), (w.heap.size, 20, .bool x.done)]) := .cons (by simp) (by go_simp) (.cons (by simp) (by go_simp) (.cons (by simp) (by go_simp) (.cons (by simp) (by go_simp) (.cons (by simp) (by go_simp) (.cons (by simp) (by go_simp) (.cons (by simp) (by go_simp) (.cons (by simp) (by go_simp) (.cons (by simp) (by go_simp) (.cons (by simp) (by go_simp) (.cons (by simp) (by go_simp) (.cons (by simp) (by go_simp) (.cons (by simp) (by go_simp) (.cons (by simp) (by go_simp) (.cons (by simp) (by go_simp) (.cons (by simp) (by go_simp) (.cons (by simp) (by go_simp) (.cons (by simp) (by go_simp) (.cons (by simp) (by go_simp) (.cons (by simp) (by go_simp) (.cons (by simp) (by go_simp) (.nil _)))))))))))))))))))))
  clear hr hb0
  cases h0 : x.into.toList.isEmpty
  case true =>
    go_enter Try.func83, Try.ntmps83
    go_wp2_with fail
    go_ret
    exact ⟨ret_bool (by rw [HV.out]; simp [h0]), HB0.out⟩
  case false =>
    go_enter Try.func83, Try.ntmps83
    go_wp2_with fail
    refine (HP.out _ HB0.out).mono ?_
    rintro e w1 ⟨rfl, hb⟩
    have HB1 := Lib.hid (HB0.out.trans (hb.mono HB0.out.size))
    have HA1 := Lib.hid (HA0.out.later hb)
    clear hb HB0 HA0
    have c0 := HA1.out.hd
    have c1 := HA1.out.tl.hd
    have c2 := HA1.out.tl.tl.hd
    have c3 := HA1.out.tl.tl.tl.hd
    have c4 := HA1.out.tl.tl.tl.tl.hd
    have c5 := HA1.out.tl.tl.tl.tl.tl.hd
    have c6 := HA1.out.tl.tl.tl.tl.tl.tl.hd
    have c7 := HA1.out.tl.tl.tl.tl.tl.tl.tl.hd
    have c8 := HA1.out.tl.tl.tl.tl.tl.tl.tl.tl.hd
    have c9 := HA1.out.tl.tl.tl.tl.tl.tl.tl.tl.tl.hd
    have c10 := HA1.out.tl.tl.tl.tl.tl.tl.tl.tl.tl.tl.hd
    have c11 := HA1.out.tl.tl.tl.tl.tl.tl.tl.tl.tl.tl.tl.hd
    have c12 := HA1.out.tl.tl.tl.tl.tl.tl.tl.tl.tl.tl.tl.tl.hd
    have c13 := HA1.out.tl.tl.tl.tl.tl.tl.tl.tl.tl.tl.tl.tl.tl.hd
    have c14 := HA1.out.tl.tl.tl.tl.tl.tl.tl.tl.tl.tl.tl.tl.tl.tl.hd
    have c15 := HA1.out.tl.tl.tl.tl.tl.tl.tl.tl.tl.tl.tl.tl.tl.tl.tl.hd
    have c16 := HA1.out.tl.tl.tl.tl.tl.tl.tl.tl.tl.tl.tl.tl.tl.tl.tl.tl.hd
    have c17 := HA1.out.tl.tl.tl.tl.tl.tl.tl.tl.tl.tl.tl.tl.tl.tl.tl.tl.tl.hd
    have c18 := HA1.out.tl.tl.tl.tl.tl.tl.tl.tl.tl.tl.tl.tl.tl.tl.tl.tl.tl.tl.hd
    have c19 := HA1.out.tl.tl.tl.tl.tl.tl.tl.tl.tl.tl.tl.tl.tl.tl.tl.tl.tl.tl.tl.hd
    have c20 := HA1.out.tl.tl.tl.tl.tl.tl.tl.tl.tl.tl.tl.tl.tl.tl.tl.tl.tl.tl.tl.tl.hd
    cases h1 : pathB x.into
    case false =>
      go_wp2_with fail
      go_ret
      exact ⟨ret_bool (by rw [HV.out]; simp [h0, h1]), HB1.out⟩
    case true =>
      go_wp2_with fail
      refine (HG.out _ HB1.out).mono ?_
      rintro e w2 ⟨rfl, hb⟩
      have HB2 := Lib.hid (HB1.out.trans (hb.mono HB1.out.size))
      have HA2 := Lib.hid (HA1.out.later hb)
      clear hb HB1 HA1
      clear c0 c1 c2 c3 c4 c5 c6 c7 c8 c9 c10 c11 c12 c13 c14 c15 c16 c17 c18 c19 c20
      have c0 := HA2.out.hd
      have c1 := HA2.out.tl.hd
      have c2 := HA2.out.tl.tl.hd
      have c3 := HA2.out.tl.tl.tl.hd
      have c4 := HA2.out.tl.tl.tl.tl.hd
      have c5 := HA2.out.tl.tl.tl.tl.tl.hd
      have c6 := HA2.out.tl.tl.tl.tl.tl.tl.hd
      have c7 := HA2.out.tl.tl.tl.tl.tl.tl.tl.hd
      have c8 := HA2.out.tl.tl.tl.tl.tl.tl.tl.tl.hd
      have c9 := HA2.out.tl.tl.tl.tl.tl.tl.tl.tl.tl.hd
      have c10 := HA2.out.tl.tl.tl.tl.tl.tl.tl.tl.tl.tl.hd
      have c11 := HA2.out.tl.tl.tl.tl.tl.tl.tl.tl.tl.tl.tl.hd
      have c12 := HA2.out.tl.tl.tl.tl.tl.tl.tl.tl.tl.tl.tl.tl.hd
      have c13 := HA2.out.tl.tl.tl.tl.tl.tl.tl.tl.tl.tl.tl.tl.tl.hd
      have c14 := HA2.out.tl.tl.tl.tl.tl.tl.tl.tl.tl.tl.tl.tl.tl.tl.hd
      have c15 := HA2.out.tl.tl.tl.tl.tl.tl.tl.tl.tl.tl.tl.tl.tl.tl.tl.hd
      have c16 := HA2.out.tl.tl.tl.tl.tl.tl.tl.tl.tl.tl.tl.tl.tl.tl.tl.tl.hd
      have c17 := HA2.out.tl.tl.tl.tl.tl.tl.tl.tl.tl.tl.tl.tl.tl.tl.tl.tl.tl.hd
      have c18 := HA2.out.tl.tl.tl.tl.tl.tl.tl.tl.tl.tl.tl.tl.tl.tl.tl.tl.tl.tl.hd
      have c19 := HA2.out.tl.tl.tl.tl.tl.tl.tl.tl.tl.tl.tl.tl.tl.tl.tl.tl.tl.tl.tl.hd
      have c20 := HA2.out.tl.tl.tl.tl.tl.tl.tl.tl.tl.tl.tl.tl.tl.tl.tl.tl.tl.tl.tl.tl.hd
      cases h2 : beginB x.begin_
      case false =>
        go_wp2_with fail
        go_ret
        exact ⟨ret_bool (by rw [HV.out]; simp [h0, h1, h2]), HB2.out⟩
      case true =>
        go_wp2_with fail
        refine (HC.out _ HB2.out).mono ?_
        rintro e w3 ⟨rfl, hb⟩
        have HB3 := Lib.hid (HB2.out.trans (hb.mono HB2.out.size))
        have HA3 := Lib.hid (HA2.out.later hb)
        clear hb HB2 HA2
        clear c0 c1 c2 c3 c4 c5 c6 c7 c8 c9 c10 c11 c12 c13 c14 c15 c16 c17 c18 c19 c20
        have c0 := HA3.out.hd
        have c1 := HA3.out.tl.hd
        have c2 := HA3.out.tl.tl.hd
        have c3 := HA3.out.tl.tl.tl.hd
        have c4 := HA3.out.tl.tl.tl.tl.hd
        have c5 := HA3.out.tl.tl.tl.tl.tl.hd
        have c6 := HA3.out.tl.tl.tl.tl.tl.tl.hd
        have c7 := HA3.out.tl.tl.tl.tl.tl.tl.tl.hd
        have c8 := HA3.out.tl.tl.tl.tl.tl.tl.tl.tl.hd
        have c9 := HA3.out.tl.tl.tl.tl.tl.tl.tl.tl.tl.hd
        have c10 := HA3.out.tl.tl.tl.tl.tl.tl.tl.tl.tl.tl.hd
        have c11 := HA3.out.tl.tl.tl.tl.tl.tl.tl.tl.tl.tl.tl.hd
        have c12 := HA3.out.tl.tl.tl.tl.tl.tl.tl.tl.tl.tl.tl.tl.hd
        have c13 := HA3.out.tl.tl.tl.tl.tl.tl.tl.tl.tl.tl.tl.tl.tl.hd
        have c14 := HA3.out.tl.tl.tl.tl.tl.tl.tl.tl.tl.tl.tl.tl.tl.tl.hd
        have c15 := HA3.out.tl.tl.tl.tl.tl.tl.tl.tl.tl.tl.tl.tl.tl.tl.tl.hd
        have c16 := HA3.out.tl.tl.tl.tl.tl.tl.tl.tl.tl.tl.tl.tl.tl.tl.tl.tl.hd
        have c17 := HA3.out.tl.tl.tl.tl.tl.tl.tl.tl.tl.tl.tl.tl.tl.tl.tl.tl.tl.hd
        have c18 := HA3.out.tl.tl.tl.tl.tl.tl.tl.tl.tl.tl.tl.tl.tl.tl.tl.tl.tl.tl.hd
        have c19 := HA3.out.tl.tl.tl.tl.tl.tl.tl.tl.tl.tl.tl.tl.tl.tl.tl.tl.tl.tl.tl.hd
        have c20 := HA3.out.tl.tl.tl.tl.tl.tl.tl.tl.tl.tl.tl.tl.tl.tl.tl.tl.tl.tl.tl.tl.hd
        cases h3 : blkE x.body.l == 0
        case false =>
          go_wp2_with fail
          go_ret
          exact ⟨ret_bool (by rw [HV.out]; simp [h0, h1, h2, h3]), HB3.out⟩
        case true =>
          go_wp2_with fail
          refine (HM.out _ HB3.out).mono ?_
          rintro e w4 ⟨rfl, hb⟩
          have HB4 := Lib.hid (HB3.out.trans (hb.mono HB3.out.size))
          have HA4 := Lib.hid (HA3.out.later hb)
          clear hb HB3 HA3
          clear c0 c1 c2 c3 c4 c5 c6 c7 c8 c9 c10 c11 c12 c13 c14 c15 c16 c17 c18 c19 c20
          have c0 := HA4.out.hd
          have c1 := HA4.out.tl.hd
          have c2 := HA4.out.tl.tl.hd
          have c3 := HA4.out.tl.tl.tl.hd
          have c4 := HA4.out.tl.tl.tl.tl.hd
          have c5 := HA4.out.tl.tl.tl.tl.tl.hd
          have c6 := HA4.out.tl.tl.tl.tl.tl.tl.hd
          have c7 := HA4.out.tl.tl.tl.tl.tl.tl.tl.hd
          have c8 := HA4.out.tl.tl.tl.tl.tl.tl.tl.tl.hd
          have c9 := HA4.out.tl.tl.tl.tl.tl.tl.tl.tl.tl.hd
          have c10 := HA4.out.tl.tl.tl.tl.tl.tl.tl.tl.tl.tl.hd
          have c11 := HA4.out.tl.tl.tl.tl.tl.tl.tl.tl.tl.tl.tl.hd
          have c12 := HA4.out.tl.tl.tl.tl.tl.tl.tl.tl.tl.tl.tl.tl.hd
          have c13 := HA4.out.tl.tl.tl.tl.tl.tl.tl.tl.tl.tl.tl.tl.tl.hd
          have c14 := HA4.out.tl.tl.tl.tl.tl.tl.tl.tl.tl.tl.tl.tl.tl.tl.hd
          have c15 := HA4.out.tl.tl.tl.tl.tl.tl.tl.tl.tl.tl.tl.tl.tl.tl.tl.hd
          have c16 := HA4.out.tl.tl.tl.tl.tl.tl.tl.tl.tl.tl.tl.tl.tl.tl.tl.tl.hd
          have c17 := HA4.out.tl.tl.tl.tl.tl.tl.tl.tl.tl.tl.tl.tl.tl.tl.tl.tl.tl.hd
          have c18 := HA4.out.tl.tl.tl.tl.tl.tl.tl.tl.tl.tl.tl.tl.tl.tl.tl.tl.tl.tl.hd
          have c19 := HA4.out.tl.tl.tl.tl.tl.tl.tl.tl.tl.tl.tl.tl.tl.tl.tl.tl.tl.tl.tl.hd
          have c20 := HA4.out.tl.tl.tl.tl.tl.tl.tl.tl.tl.tl.tl.tl.tl.tl.tl.tl.tl.tl.tl.tl.hd
          cases h4 : amountB x.at_ 0
          case false =>
            go_wp2_with fail
            go_ret
            exact ⟨ret_bool (by rw [HV.out]; simp [h0, h1, h2, h3, h4]), HB4.out⟩
          case true =>
            go_wp2_with fail
            refine (HX.out _ HB4.out).mono ?_
            rintro e w5 ⟨rfl, hb⟩
            have HB5 := Lib.hid (HB4.out.trans (hb.mono HB4.out.size))
            have HA5 := Lib.hid (HA4.out.later hb)
            clear hb HB4 HA4
            clear c0 c1 c2 c3 c4 c5 c6 c7 c8 c9 c10 c11 c12 c13 c14 c15 c16 c17 c18 c19 c20
            have c0 := HA5.out.hd
            have c1 := HA5.out.tl.hd
            have c2 := HA5.out.tl.tl.hd
            have c3 := HA5.out.tl.tl.tl.hd
            have c4 := HA5.out.tl.tl.tl.tl.hd
            have c5 := HA5.out.tl.tl.tl.tl.tl.hd
            have c6 := HA5.out.tl.tl.tl.tl.tl.tl.hd
            have c7 := HA5.out.tl.tl.tl.tl.tl.tl.tl.hd
            have c8 := HA5.out.tl.tl.tl.tl.tl.tl.tl.tl.hd
            have c9 := HA5.out.tl.tl.tl.tl.tl.tl.tl.tl.tl.hd
            have c10 := HA5.out.tl.tl.tl.tl.tl.tl.tl.tl.tl.tl.hd
            have c11 := HA5.out.tl.tl.tl.tl.tl.tl.tl.tl.tl.tl.tl.hd
            have c12 := HA5.out.tl.tl.tl.tl.tl.tl.tl.tl.tl.tl.tl.tl.hd
            have c13 := HA5.out.tl.tl.tl.tl.tl.tl.tl.tl.tl.tl.tl.tl.tl.hd
            have c14 := HA5.out.tl.tl.tl.tl.tl.tl.tl.tl.tl.tl.tl.tl.tl.tl.hd
            have c15 := HA5.out.tl.tl.tl.tl.tl.tl.tl.tl.tl.tl.tl.tl.tl.tl.tl.hd
            have c16 := HA5.out.tl.tl.tl.tl.tl.tl.tl.tl.tl.tl.tl.tl.tl.tl.tl.tl.hd
            have c17 := HA5.out.tl.tl.tl.tl.tl.tl.tl.tl.tl.tl.tl.tl.tl.tl.tl.tl.tl.hd
            have c18 := HA5.out.tl.tl.tl.tl.tl.tl.tl.tl.tl.tl.tl.tl.tl.tl.tl.tl.tl.tl.hd
            have c19 := HA5.out.tl.tl.tl.tl.tl.tl.tl.tl.tl.tl.tl.tl.tl.tl.tl.tl.tl.tl.tl.hd
            have c20 := HA5.out.tl.tl.tl.tl.tl.tl.tl.tl.tl.tl.tl.tl.tl.tl.tl.tl.tl.tl.tl.tl.hd
            cases h5 : amountB x.next 0
            case false =>
              go_wp2_with fail
              go_ret
              exact ⟨ret_bool (by rw [HV.out]; simp [h0, h1, h2, h3, h4, h5]), HB5.out⟩
            case true =>
              go_wp2_with fail
              go_ret
              exact ⟨ret_bool (by rw [HV.out]; simp [h0, h1, h2, h3, h4, h5]), HB5.out⟩

def entryB (x : EntryD) : Bool := (x.user.toList.isEmpty || nameB x.user) && (pathB x.path && (amountB x.kind 0 && amountB x.err 0))
set_option maxRecDepth 100000 in
set_option maxHeartbeats 4000000 in
theorem Entry_any (x : EntryD) (w : World) (h : okEntry w x) (hs : x.path.size ≤ 1048576) :
    Calls Try.prog 69 #[.agg #[.string x.user, .int .i64 x.kind, .string x.path, .int .i64 x.err]] w fun e w' => e = .returned (.bool (entryB x)) ∧ Below w.heap.size w w' := by
  have HV : Hid (entryB x = ((x.user.toList.isEmpty || nameB x.user) && (pathB x.path && (amountB x.kind 0 && amountB x.err 0)))) := rfl
  generalize entryB x = bv at *
  obtain ⟨hu, -, -, -⟩ := h
  have HN := Lib.hid (fun W (_ : Below w.heap.size w W) => Name_b x.user W hu)
  have HP := Lib.hid (fun W (_ : Below w.heap.size w W) => Path_any x.path W hs)
  have HM := Lib.hid (fun W (_ : Below w.heap.size w W) => amount_b x.kind 0 W)
  have HX := Lib.hid (fun W (_ : Below w.heap.size w W) => amount_b x.err 0 W)
  have HB0 : Hid (Below w.heap.size w (w.alloc (.cells #[.string x.user, .int .i64 x.kind, .string x.path, .int .i64 x.err] 112))) := (Below.refl _ _).alloc (Nat.le_refl _) _
  have HA0 : Hid (At (w.alloc (.cells #[.string x.user, .int .i64 x.kind, .string x.path, .int .i64 x.err] 112)) [(w.heap.size, 0, .string x.user), (w.heap.size, 1, .int .i64 x.kind), (w.heap.size, 2, .string x.path), (w.heap.size, 3, .int .i64 x.err)]) := .cons (by simp) (by go_simp) (.cons (by simp) (by go_simp) (.cons (by simp) (by go_simp) (.cons (by simp) (by go_simp) (.nil _))))
  clear hu
  cases h0 : x.user.toList.isEmpty
  case true =>
    go_enter Try.func69, Try.ntmps69
    go_wp2_with fail
    refine (HP.out _ HB0.out).mono ?_
    rintro e w1 ⟨rfl, hb⟩
    have HB1 := Lib.hid (HB0.out.trans (hb.mono HB0.out.size))
    have HA1 := Lib.hid (HA0.out.later hb)
    clear hb HB0 HA0
    have c0 := HA1.out.hd
    have c1 := HA1.out.tl.hd
    have c2 := HA1.out.tl.tl.hd
    have c3 := HA1.out.tl.tl.tl.hd
    cases h1 : pathB x.path
    case false =>
      go_wp2_with fail
      go_ret
      exact ⟨ret_bool (by rw [HV.out]; simp [h0, h1]), HB1.out⟩
    case true =>
      go_wp2_with fail
      refine (HM.out _ HB1.out).mono ?_
      rintro e w2 ⟨rfl, hb⟩
      have HB2 := Lib.hid (HB1.out.trans (hb.mono HB1.out.size))
      have HA2 := Lib.hid (HA1.out.later hb)
      clear hb HB1 HA1
      clear c0 c1 c2 c3
      have c0 := HA2.out.hd
      have c1 := HA2.out.tl.hd
      have c2 := HA2.out.tl.tl.hd
      have c3 := HA2.out.tl.tl.tl.hd
      cases h2 : amountB x.kind 0
      case false =>
        go_wp2_with fail
        go_ret
        exact ⟨ret_bool (by rw [HV.out]; simp [h0, h1, h2]), HB2.out⟩
      case true =>
        go_wp2_with fail
        refine (HX.out _ HB2.out).mono ?_
        rintro e w3 ⟨rfl, hb⟩
        have HB3 := Lib.hid (HB2.out.trans (hb.mono HB2.out.size))
        have HA3 := Lib.hid (HA2.out.later hb)
        clear hb HB2 HA2
        clear c0 c1 c2 c3
        have c0 := HA3.out.hd
        have c1 := HA3.out.tl.hd
        have c2 := HA3.out.tl.tl.hd
        have c3 := HA3.out.tl.tl.tl.hd
        cases h3 : amountB x.err 0
        case false =>
          go_wp2_with fail
          go_ret
          exact ⟨ret_bool (by rw [HV.out]; simp [h0, h1, h2, h3]), HB3.out⟩
        case true =>
          go_wp2_with fail
          go_ret
          exact ⟨ret_bool (by rw [HV.out]; simp [h0, h1, h2, h3]), HB3.out⟩
  case false =>
    go_enter Try.func69, Try.ntmps69
    go_wp2_with fail
    refine (HN.out _ HB0.out).mono ?_
    rintro e w1 ⟨rfl, hb⟩
    have HB1 := Lib.hid (HB0.out.trans (hb.mono HB0.out.size))
    have HA1 := Lib.hid (HA0.out.later hb)
    clear hb HB0 HA0
    have c0 := HA1.out.hd
    have c1 := HA1.out.tl.hd
    have c2 := HA1.out.tl.tl.hd
    have c3 := HA1.out.tl.tl.tl.hd
    cases h1 : nameB x.user
    case false =>
      go_wp2_with fail
      go_ret
      exact ⟨ret_bool (by rw [HV.out]; simp [h0, h1]), HB1.out⟩
    case true =>
      go_wp2_with fail
      refine (HP.out _ HB1.out).mono ?_
      rintro e w2 ⟨rfl, hb⟩
      have HB2 := Lib.hid (HB1.out.trans (hb.mono HB1.out.size))
      have HA2 := Lib.hid (HA1.out.later hb)
      clear hb HB1 HA1
      clear c0 c1 c2 c3
      have c0 := HA2.out.hd
      have c1 := HA2.out.tl.hd
      have c2 := HA2.out.tl.tl.hd
      have c3 := HA2.out.tl.tl.tl.hd
      cases h2 : pathB x.path
      case false =>
        go_wp2_with fail
        go_ret
        exact ⟨ret_bool (by rw [HV.out]; simp [h0, h1, h2]), HB2.out⟩
      case true =>
        go_wp2_with fail
        refine (HM.out _ HB2.out).mono ?_
        rintro e w3 ⟨rfl, hb⟩
        have HB3 := Lib.hid (HB2.out.trans (hb.mono HB2.out.size))
        have HA3 := Lib.hid (HA2.out.later hb)
        clear hb HB2 HA2
        clear c0 c1 c2 c3
        have c0 := HA3.out.hd
        have c1 := HA3.out.tl.hd
        have c2 := HA3.out.tl.tl.hd
        have c3 := HA3.out.tl.tl.tl.hd
        cases h3 : amountB x.kind 0
        case false =>
          go_wp2_with fail
          go_ret
          exact ⟨ret_bool (by rw [HV.out]; simp [h0, h1, h2, h3]), HB3.out⟩
        case true =>
          go_wp2_with fail
          refine (HX.out _ HB3.out).mono ?_
          rintro e w4 ⟨rfl, hb⟩
          have HB4 := Lib.hid (HB3.out.trans (hb.mono HB3.out.size))
          have HA4 := Lib.hid (HA3.out.later hb)
          clear hb HB3 HA3
          clear c0 c1 c2 c3
          have c0 := HA4.out.hd
          have c1 := HA4.out.tl.hd
          have c2 := HA4.out.tl.tl.hd
          have c3 := HA4.out.tl.tl.tl.hd
          cases h4 : amountB x.err 0
          case false =>
            go_wp2_with fail
            go_ret
            exact ⟨ret_bool (by rw [HV.out]; simp [h0, h1, h2, h3, h4]), HB4.out⟩
          case true =>
            go_wp2_with fail
            go_ret
            exact ⟨ret_bool (by rw [HV.out]; simp [h0, h1, h2, h3, h4]), HB4.out⟩
end Go.Proofs.Ytbkghiaafkmapaa
