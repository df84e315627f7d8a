/- godownlaw37.TotalsSums answers true for every list of rows. No condition. -/
import Derived.Test.YtbkghiaafkmapaaRowList
import Derived.Test.YtbkghiaafkmapaaAlive37
namespace Go.Proofs.Ytbkghiaafkmapaa.totalsSums
open Go.ChangeShapes Go.WideShapes Go.ChangeAt Go.RowKit

/-- what a round finds: the sum that was told, the sum on its way, the rows the other way round -/
structure TInv (w : World) (sb qb : Nat) (sr : RowD) (l : List RowD) (g : Nat) (wt : RowD) (v : Value) (wr : World) : Prop where
  below : Below w.heap.size w wr
  lo : w.heap.size ≤ sb
  lt : sb < qb
  s : RowAt wr sb sr
  want : RowAt wr qb wt
  own : wr.ownsRow (qb + 1) 59 6 v (l.length - g) ((l.drop g).reverse.flatMap cellsRow)
theorem TInv.step {w wr w' : World} {sb qb : Nat} {sr : RowD} {l : List RowD} {g : Nat} {wt y : RowD} {v v' : Value} (h : TInv w sb qb sr l (g + 1) wt v wr) (hy : l[g]? = some y)
    (hown : w'.ownsRow (qb + 1) 59 6 v' (l.length - (g + 1) + 1) ((l.drop (g + 1)).reverse.flatMap cellsRow ++ cellsRow y)) (hg : ((wr.alloc (.cells #[.string y.name, .int .i64 y.sets, .int .i64 y.snaps, .int .i64 y.blocks, .int .i64 y.charge, .int .i64 y.quota] 59)).alloc (.cells #[.string y.name, .int .i64 y.sets, .int .i64 y.snaps, .int .i64 y.blocks, .int .i64 y.charge, .int .i64 y.quota] 59)).grownBy w' v.ownBlock) :
    TInv w sb qb sr l g wt v' w' ∧ RowAt w' wr.heap.size y := by
  have hbb : Below wr.heap.size wr ((wr.alloc (.cells #[.string y.name, .int .i64 y.sets, .int .i64 y.snaps, .int .i64 y.blocks, .int .i64 y.charge, .int .i64 y.quota] 59)).alloc (.cells #[.string y.name, .int .i64 y.sets, .int .i64 y.snaps, .int .i64 y.blocks, .int .i64 y.charge, .int .i64 y.quota] 59)) := ((Below.refl _ _).alloc (Nat.le_refl _) _).alloc (by simp) _
  have hlt := h.own.lt
  have hsq := h.lt
  have hqz := h.want.lt
  have hd : (l.drop g).reverse = (l.drop (g + 1)).reverse ++ [y] := by
    obtain ⟨hk, rfl⟩ := List.getElem?_eq_some_iff.1 hy
    rw [List.drop_eq_getElem_cons hk, List.reverse_cons]
  refine ⟨⟨(h.below.trans (hbb.mono h.below.size)).grown hg (by have := h.below.size; simp; omega) (fun q hq => by have := (hlt q hq).1; have := h.lo; omega), h.lo, h.lt, (h.s.below hbb (by omega)).grownO hg (fun k hk => by have := (hlt k hk).1; omega), (h.want.below hbb hqz).grownO hg (fun k hk => by have := (hlt k hk).1; omega), ?_⟩, ?_⟩
  · have hgl := (List.getElem?_eq_some_iff.1 hy).1
    rw [hd, show l.length - g = l.length - (g + 1) + 1 by omega]; simpa using hown
  · exact ((RowAt.new wr y).below ((Below.refl (wr.heap.size + 1) (wr.alloc (.cells #[.string y.name, .int .i64 y.sets, .int .i64 y.snaps, .int .i64 y.blocks, .int .i64 y.charge, .int .i64 y.quota] 59))).alloc (by simp) (.cells #[.string y.name, .int .i64 y.sets, .int .i64 y.snaps, .int .i64 y.blocks, .int .i64 y.charge, .int .i64 y.quota] 59)) (by omega)).grownO hg (fun k hk => by have := (hlt k hk).2; omega)
theorem TInv.store {w wr : World} {sb qb : Nat} {sr : RowD} {l : List RowD} {g : Nat} {wt : RowD} {v : Value} (h : TInv w sb qb sr l g wt v wr) (a : ByteArray) (b c d e f : Int) :
    TInv w sb qb sr l g ⟨a, b, c, d, e, f⟩ v ((((((wr.setCell ⟨qb, 0, none⟩ (.string a)).setCell ⟨qb, 1, none⟩ (.int .i64 b)).setCell ⟨qb, 2, none⟩ (.int .i64 c)).setCell ⟨qb, 3, none⟩ (.int .i64 d)).setCell ⟨qb, 4, none⟩ (.int .i64 e)).setCell ⟨qb, 5, none⟩ (.int .i64 f)) := by
  have hq : w.heap.size ≤ qb := Nat.le_trans h.lo (Nat.le_of_lt h.lt)
  have hne : sb ≠ qb := Nat.ne_of_lt h.lt
  have ho : ∀ (W : World) (o : Nat) (u : Value), W.ownsRow (qb + 1) 59 6 v (l.length - g) ((l.drop g).reverse.flatMap cellsRow) → (W.setCell ⟨qb, o, none⟩ u).ownsRow (qb + 1) 59 6 v (l.length - g) ((l.drop g).reverse.flatMap cellsRow) := fun W o u hW => ownsRow_setCell_below hW (Nat.lt_succ_self _) u
  exact ⟨(((((h.below.setCell hq _).setCell hq _).setCell hq _).setCell hq _).setCell hq _).setCell hq _, h.lo, h.lt, (((((h.s.far hne).far hne).far hne).far hne).far hne).far hne, (((((h.want.set0 a).set1 b).set2 c).set3 d).set4 e).set5 f, ho _ _ _ (ho _ _ _ (ho _ _ _ (ho _ _ _ (ho _ _ _ (ho _ _ _ h.own)))))⟩

set_option maxRecDepth 100000 in
set_option maxHeartbeats 4000000 in
theorem walk (ra : Option Addr) (rc : Nat) (l : List RowD) (w : World) (h : IsRows w ⟨ra, rc, l⟩) :
    Calls Try.prog 13 #[.slice ra l.length rc] w fun e w' => e = .returned (.bool true) ∧ Below w.heap.size w w' := by
  have hS := fun W hB => Sum_any ra rc l W (h.below hB)
  have HR := Lib.hid h
  have hl := IsSl.len h
  dsimp only at hl
  generalize hsr : sumR l = sr at *
  generalize hse : sumE l = se at *
  simp only [cellsRow] at hS
  have HS := Lib.hid hS
  have HSR := Lib.hid hsr
  have HSE := Lib.hid hse
  clear hS hsr hse h
  obtain ⟨i0, hi, hz0, hz1, hz2⟩ := info_parts info59
  have HI := Lib.hid (And.intro hi (And.intro hz0 (And.intro hz1 hz2)))
  clear hi hz0 hz1 hz2
  go_enter Try.func13, Try.ntmps13
  go_wp2_with fail
  refine (alive37 _).mono ?_
  rintro e w1 ⟨rfl, hb⟩
  have HB1 := Lib.hid hb
  clear hb
  go_wp2_with fail
  refine (HS.out _ HB1.out).mono ?_
  rintro e w2 ⟨rfl, hb⟩
  have HB2 := Lib.hid (HB1.out.trans (hb.mono HB1.out.size))
  clear hb HB1
  have hT : TInv w w2.heap.size (w2.heap.size + 1) sr l l.length (⟨⟨#[]⟩, 0, 0, 0, 0, 0⟩ : RowD) (.slice none 0 0) ((w2.alloc (.cells #[.string sr.name, .int .i64 sr.sets, .int .i64 sr.snaps, .int .i64 sr.blocks, .int .i64 sr.charge, .int .i64 sr.quota] 59)).alloc (.cells #[.string ⟨#[]⟩, .int .i64 0, .int .i64 0, .int .i64 0, .int .i64 0, .int .i64 0] 59)) :=
    ⟨(HB2.out.alloc HB2.out.size _).alloc (by have := HB2.out.size; simp; omega) _, HB2.out.size, Nat.lt_succ_self _, (RowAt.new w2 sr).below ((Below.refl (w2.heap.size + 1) _).alloc (by simp) _) (by omega), RowAt.new' _ (⟨⟨#[]⟩, 0, 0, 0, 0, 0⟩ : RowD) _ (by simp), by simp [World.ownsRow]⟩
  have HT := Lib.hid hT
  clear hT
  go_wp2_with fail
  generalize (w2.alloc (.cells #[.string sr.name, .int .i64 sr.sets, .int .i64 sr.snaps, .int .i64 sr.blocks, .int .i64 sr.charge, .int .i64 sr.quota] 59)).alloc (.cells #[.string ⟨#[]⟩, .int .i64 0, .int .i64 0, .int .i64 0, .int .i64 0, .int .i64 0] 59) = W0 at *
  generalize hsb : w2.heap.size = sb at *
  clear hsb
  go_loopg [5, 7, 8, 9] l.length (fun g v ok i _ wr => g ≤ l.length ∧ i = .int .i64 ((g : Int) - 1) ∧ ok = .bool (stOf (l.drop g)).1 ∧ TInv w sb (sb + 1) sr l g (stOf (l.drop g)).2 v wr)
  case atStart => exact ⟨Nat.le_refl _, rfl, by rw [List.drop_length]; rfl, by rw [List.drop_length]; exact HT.out⟩
  case round =>
    obtain ⟨hg, rfl, rfl, hT⟩ := hrel
    have HTr := Lib.hid hT
    clear hT HT
    cases gk with
    | zero =>
      have hi1 : ((0 : Nat) : Int) - 1 = -1 := rfl
      rw [hi1]
      clear hi1
      simp only [List.drop_zero] at HTr ⊢
      obtain ⟨va, vc, hv, hrows⟩ := rows_owned (l := l.reverse) (by have := HTr.out.own; simpa using this) (by simpa using hl) (fun z hz => by obtain ⟨k, hk⟩ := List.getElem?_of_mem (List.mem_reverse.1 hz); exact (IsSl.at' HR.out k z hk).2)
      subst hv
      have hSr : ∀ W, Below w.heap.size w W → IsRows W ⟨va, vc, l.reverse⟩ → _ := fun W _ hr => Sum_any va vc l.reverse W hr
      have HII := Lib.hid hrows
      clear hrows
      simp only [cellsRow, List.length_reverse] at hSr
      have hlaw := stOf_law l
      generalize hso : stOf l = so at *
      clear hso
      obtain ⟨ok, wt⟩ := so
      dsimp only at hlaw HTr
      cases ok
      · have hno : ¬ okRows l := fun h => by have := hlaw.1.2 h; simp at this
        have hno2 : ¬ okRows l.reverse := fun h => hno ((okRows_reverse l).1 h)
        obtain rfl : sr = ⟨⟨#[]⟩, 0, 0, 0, 0, 0⟩ := by rw [← HSR.out]; exact sumR_bad hno
        rw [sumR_bad hno2] at hSr
        have hne : se ≠ 0 := fun h => hno ((sumE_zero l).1 (by rw [HSE.out]; exact h))
        have hne2 : sumE l.reverse ≠ 0 := fun h => hno2 ((sumE_zero _).1 h)
        generalize sumE l.reverse = sf at *
        have g1 : (se == 0) = false := by simpa using hne
        have g2 : (sf == 0) = false := by simpa using hne2
        have g3 : (se != 0) = true := by simpa using hne
        have g4 : (sf != 0) = true := by simpa using hne2
        clear hlaw hno hno2 hne hne2 HSR HSE
        dsimp only at hSr HTr
        have HSr := Lib.hid (hSr)
        clear hSr
        go_wp2_with fail
        refine (HSr.out _ HTr.out.below HII.out).mono ?_
        rintro e w3 ⟨rfl, hb⟩
        have HB3 := Lib.hid (HTr.out.below.trans (hb.mono HTr.out.below.size))
        obtain ⟨-, d0, d1, d2, d3, d4, d5, -⟩ := HTr.out.s.below hb HTr.out.s.lt
        obtain ⟨-, t0, t1, t2, t3, t4, t5, -⟩ := HTr.out.want.below hb HTr.out.want.lt
        dsimp only at d0 d1 d2 d3 d4 d5 t0 t1 t2 t3 t4 t5
        have hn1 : sb ≠ w3.heap.size := by have := HTr.out.s.lt; have := hb.size; omega
        have hn2 : sb + 1 ≠ w3.heap.size := by have := HTr.out.want.lt; have := hb.size; omega
        have hn3 : w3.heap.size ≠ sb := fun e => hn1 e.symm
        have hn5 : sb < w3.heap.size := by have := HTr.out.s.lt; have := hb.size; omega
        have hn6 : sb + 1 < w3.heap.size := by have := HTr.out.want.lt; have := hb.size; omega
        have hn4 : w3.heap.size ≠ sb + 1 := fun e => hn2 e.symm
        clear hb
        go_wp2_with fail
        go_ret
        exact ⟨rfl, HB3.out.alloc HB3.out.size _⟩
      · have hok : okRows l := hlaw.1.1 rfl
        have hok2 : okRows l.reverse := (okRows_reverse l).2 hok
        obtain rfl : wt = sr := by rw [← HSR.out, sumR_ok hok]; exact hlaw.2 rfl
        have hrr : sumR l.reverse = wt := by rw [sumR_ok hok2, totalsOf_reverse]; exact (hlaw.2 rfl).symm
        obtain rfl : se = 0 := by rw [← HSE.out]; exact (sumE_zero l).2 hok
        rw [hrr, (sumE_zero _).2 hok2] at hSr
        obtain ⟨wn, ws, wp, wb, wc, wq⟩ := wt
        dsimp only at hSr HTr
        clear hlaw hok hok2 hrr HSR HSE
        have HSr := Lib.hid (hSr)
        clear hSr
        go_wp2_with fail
        refine (HSr.out _ HTr.out.below HII.out).mono ?_
        rintro e w3 ⟨rfl, hb⟩
        have HB3 := Lib.hid (HTr.out.below.trans (hb.mono HTr.out.below.size))
        obtain ⟨-, d0, d1, d2, d3, d4, d5, -⟩ := HTr.out.s.below hb HTr.out.s.lt
        obtain ⟨-, t0, t1, t2, t3, t4, t5, -⟩ := HTr.out.want.below hb HTr.out.want.lt
        dsimp only at d0 d1 d2 d3 d4 d5 t0 t1 t2 t3 t4 t5
        have hn1 : sb ≠ w3.heap.size := by have := HTr.out.s.lt; have := hb.size; omega
        have hn2 : sb + 1 ≠ w3.heap.size := by have := HTr.out.want.lt; have := hb.size; omega
        have hn3 : w3.heap.size ≠ sb := fun e => hn1 e.symm
        have hn5 : sb < w3.heap.size := by have := HTr.out.s.lt; have := hb.size; omega
        have hn6 : sb + 1 < w3.heap.size := by have := HTr.out.want.lt; have := hb.size; omega
        have hn4 : w3.heap.size ≠ sb + 1 := fun e => hn2 e.symm
        clear hb
        go_wp2_with fail
        go_ret
        exact ⟨rfl, HB3.out.alloc HB3.out.size _⟩
    | succ g =>
      have hk : g < l.length := by omega
      have hi1 : ((g + 1 : Nat) : Int) - 1 = (g : Int) := by omega
      rw [hi1]
      clear hi1
      obtain ⟨y, b, off, hy, hya, hbb, hy0, hy1, hy2, hy3, hy4, hy5, -⟩ := (HR.out.below HTr.out.below).get hk
      have HY := Lib.hid hy
      subst hya
      have hst : stOf (l.drop g) = if (stOf (l.drop (g + 1))).1 = true ∧ inRow y = true then (leRow (addRow (stOf (l.drop (g + 1))).2 y), addRow (stOf (l.drop (g + 1))).2 y) else (false, (stOf (l.drop (g + 1))).2) := by
        obtain ⟨hk', e⟩ := List.getElem?_eq_some_iff.1 hy
        rw [List.drop_eq_getElem_cons hk', e, stOf]
      have HST := Lib.hid hst
      clear hst hy
      have HRG : Hid ((stOf (l.drop (g + 1))).1 = true → _) := stOf_rng
      generalize hso : stOf (l.drop (g + 1)) = so at *
      clear hso
      obtain ⟨ok, ⟨wn, ws, wp, wb, wc, wq⟩⟩ := so
      obtain ⟨yn, ys, yp, yb, yc, yq⟩ := y
      dsimp only at HST HTr HRG hy0 hy1 hy2 hy3 hy4 hy5
      have hgl : (g : Int) < (l.length : Int) := by omega
      have hg0 : (0 : Int) ≤ (g : Int) := by omega
      have hll : l.length - (g + 1) + 1 ≤ l.length := by omega
      have HLL := Lib.hid hll
      clear hll
      go_wp2_with (at_builtin; refine wpList_append_own _ rfl _ _ 79 rfl (sb + 1 + 1) 59 i0 _ 6 56 Try.underlying79 HI.out.1 HI.out.2.1 HI.out.2.2.1 HI.out.2.2.2 rfl (by decide) _ _ _ rfl ((HTr.out.own.alloc _).alloc _) ⟨wr.heap.size + 1, 0, none⟩ 1 1 (cellsRow ⟨yn, ys, yp, yb, yc, yq⟩) rfl rfl ?c1 ?c2 ?c3 ?c4 ?c5 ?_)
      case c1 =>
        exact World.news_of_block (cs := #[.string yn, .int .i64 ys, .int .i64 yp, .int .i64 yb, .int .i64 yc, .int .i64 yq]) (t := 59) (fr := (0, 0)) (by have hh := heap_alloc_new (wr.alloc (.cells #[.string yn, .int .i64 ys, .int .i64 yp, .int .i64 yb, .int .i64 yc, .int .i64 yq] 59)) (.cells #[.string yn, .int .i64 ys, .int .i64 yp, .int .i64 yb, .int .i64 yc, .int .i64 yq] 59); simp only [World.alloc, Array.size_push] at hh ⊢; exact hh)
      case c2 => exact row_one _
      case c3 => have := HLL.out; unfold maxLen; omega
      case c4 => have := HLL.out; omega
      case c5 => have := HTr.out.want.lt; simp; omega
      intro v' w1 hown' hgrow' _
      obtain ⟨hT1, hrow⟩ := HTr.out.step HY.out hown' hgrow'
      have HT1 := Lib.hid hT1
      have HRW := Lib.hid hrow
      obtain ⟨-, q0, q1, q2, q3, q4, q5, -⟩ := hrow
      dsimp only at q0 q1 q2 q3 q4 q5
      clear hown' hgrow' hT1 hy0 hy1 hy2 hy3 hy4 hy5
      cases ok
      · have HSF : Hid (stOf (l.drop g) = (false, ⟨wn, ws, wp, wb, wc, wq⟩)) := by show _ = _; rw [HST.out, if_neg (by simp)]
        go_wp2_with fail
        go_roundg g
        case measure => omega
        case rel => exact ⟨by omega, by go_num, by rw [HSF.out], by rw [HSF.out]; exact HT1.out⟩
      · obtain ⟨⟨ws0, ws1⟩, ⟨wp0, wp1⟩, ⟨wb0, wb1⟩, ⟨wc0, wc1⟩, ⟨wq0, wq1⟩⟩ := HRG.out rfl
        have hmin := fun ts t W => run_min5 Try.prog ts t ys yp yb yc yq W
        have hmax := fun ts t W => run_max5 Try.prog ts t ys yp yb yc yq W
        have hin := inRow_five yn ys yp yb yc yq
        have hmn := le_min5 ys yp yb yc yq 0
        have hmx := max5_le ys yp yb yc yq 1099511627776
        generalize min5 ys yp yb yc yq = mn at *
        generalize max5 ys yp yb yc yq = mx at *
        by_cases b0 : 0 ≤ mn
        · have b0' : decide (0 ≤ mn) = true := decide_eq_true b0
          by_cases b1 : mx ≤ 1099511627776
          · have b1' : decide (mx ≤ 1099511627776) = true := decide_eq_true b1
            have hmax2 := fun ts t W => run_max5 Try.prog ts t (ws + ys) (wp + yp) (wb + yb) (wc + yc) (wq + yq) W
            have hle := leRow_five ⟨#[]⟩ (ws + ys) (wp + yp) (wb + yb) (wc + yc) (wq + yq)
            generalize max5 (ws + ys) (wp + yp) (wb + yb) (wc + yc) (wq + yq) = mz at *
            have HSF : Hid (stOf (l.drop g) = (decide (mz ≤ 1099511627776), ⟨⟨#[]⟩, ws + ys, wp + yp, wb + yb, wc + yc, wq + yq⟩)) := by show _ = _; rw [HST.out, if_pos ⟨rfl, hin.2 ⟨b0, b1⟩⟩, ← hle]; rfl
            obtain ⟨y00, y01, y02, y03, y04⟩ := hmn.1 b0
            obtain ⟨y10, y11, y12, y13, y14⟩ := hmx.1 b1
            have HT2 := Lib.hid (HT1.out.store ⟨#[]⟩ (ws + ys) (wp + yp) (wb + yb) (wc + yc) (wq + yq))
            obtain ⟨-, t0, t1, t2, t3, t4, t5, tf⟩ := HT1.out.want
            dsimp only at t0 t1 t2 t3 t4 t5
            have tf0 := tf 0
            have tf1 := tf 1
            have tf2 := tf 2
            have tf3 := tf 3
            have tf4 := tf 4
            have tf5 := tf 5
            have hne : sb + 1 ≠ wr.heap.size := by have := HTr.out.want.lt; omega
            have hne' : wr.heap.size ≠ sb + 1 := fun e => hne e.symm
            clear hin hmn hmx hle HRG HST tf
            go_wp2_with fail
            go_roundg g
            case measure => omega
            case rel => exact ⟨by omega, by go_num, by rw [HSF.out], by rw [HSF.out]; exact HT2.out⟩
          · have b1' : decide (mx ≤ 1099511627776) = false := decide_eq_false b1
            have HSF : Hid (stOf (l.drop g) = (false, ⟨wn, ws, wp, wb, wc, wq⟩)) := by show _ = _; rw [HST.out, if_neg (fun e => b1 (hin.1 e.2).2)]
            clear hin hmn hmx HRG HST
            go_wp2_with fail
            go_roundg g
            case measure => omega
            case rel => exact ⟨by omega, by go_num, by rw [HSF.out], by rw [HSF.out]; exact HT1.out⟩
        · have b0' : decide (0 ≤ mn) = false := decide_eq_false b0
          have HSF : Hid (stOf (l.drop g) = (false, ⟨wn, ws, wp, wb, wc, wq⟩)) := by show _ = _; rw [HST.out, if_neg (fun e => b0 (hin.1 e.2).1)]
          clear hin hmn hmx HRG HST
          go_wp2_with fail
          go_roundg g
          case measure => omega
          case rel => exact ⟨by omega, by go_num, by rw [HSF.out], by rw [HSF.out]; exact HT1.out⟩

theorem rows_in {H : Type} {enc : TypeId × Value → H} {w : World} {base : Nat} {spare : Nat → Bool} {held : Bool} {a : Option Addr} {n c : Nat} {d : DataW H} {p : List MemPlace} (h : DataW.Trod enc Try.prog w base spare held 79 (.slice a n c) d p)
    (hwt : ∀ n ∈ d.weights Try.prog 79, n ≤ reachBytes) : ∃ l : List RowD, n = l.length ∧ IsRows w ⟨a, c, l⟩ := by
  obtain ⟨fuel, hf⟩ := h
  obtain ⟨⟨a', c', l⟩, hx, ho, _⟩ := reads_Rows fuel _ _ hf hwt
  have hx' : a = a' ∧ n = l.length ∧ c = c' := by simpa [Value.cells] using hx
  obtain ⟨rfl, rfl, rfl⟩ := hx'
  exact ⟨l, rfl, ho⟩

set_option maxRecDepth 100000 in
theorem lifted (os : Os) (started : os.Started) (H : Type) (enc : TypeId × Value → H) :
    ReturnsInHanded {} Try.checked os 13 .any (Rows.totalsSumsSpec.pre6 enc Try.prog Try.f13 Rows.totalsSumsRow.domain false) (Rows.totalsSumsSpec.post enc Try.prog Try.f13 false true false false) := by
  refine returnsInHanded_of_change_sized (C := Try.checked) own started (by kernel_rfl) Try.func13
    (ChangeSpec.witness6 (enc := enc) (C := Try.checked) false ⟨#[], #[.slice none 0 0], []⟩ 8 (by kernel_rfl) (by kernel_rfl) (by kernel_rfl) (by kernel_rfl)) ?_
  intro W base args ds gs before hval0 hW hcnd hsz _
  have hval : ∀ (j : Nat) t v, Try.f13.params[j]? = some t → args[j]? = some v → Value.okWide Try.prog W .any base t v := hval0
  have hW' := hW
  obtain ⟨p, q, hA0, hV, rfl, hfz, hnd⟩ := hW
  have hA : DataW.TrodAll enc Try.prog W 0 (fun _ => true) true Try.f13.params.toList args.toList ds p := hA0
  rw [Try.params13] at hA hval
  obtain ⟨v0, vs0, d0, ds0, p0, q0, hargs, rfl, rfl, h0, r0⟩ := trodAll_cons hA
  obtain ⟨rfl, rfl, rfl⟩ := trodAll_nil r0
  obtain rfl : args = #[v0] := by cases args; simp_all
  obtain ⟨rfl, rfl⟩ := trodVars_none hV
  have k0 := h0
  have lt0 : ∀ x ∈ p0, x.block < W.heap.size := by obtain ⟨m, hm⟩ := k0; exact DataW.trod_lt m _ _ _ hm
  have hwt := fun n hn => of_decide_eq_true (List.all_eq_true.1 hsz n hn)
  obtain ⟨x0, n0, c0, rfl⟩ := okWide_slice Try.underlying79 (hval 0 79 v0 rfl rfl)
  obtain ⟨l0, rfl, o0⟩ := rows_in h0 (fun n hn => (hwt n (DataW.weights_mem_each (j := 0) rfl rfl n hn)))
  clear hA0 hval0
  refine (walk x0 c0 l0 W o0).mono fun e W' ⟨he, bel⟩ => ?_
  subst he
  exact ⟨_, rfl, _, _, _, [], _, [], hW', trodAll_mk1 (shut_bool Try.underlying4 _), (trodAll_cons_mk (Below.trod laidOut (by kernel_rfl) (of_decide_eq_true (by kernel_rfl)) k0 bel lt0) trodAll_mk0), rfl, bel.frame _, fun h => by cases h⟩

theorem over : Rows.totalsSumsRow.holds Try.pinned (OpenSpec.ofChange Rows.totalsSumsSpec) :=
  OpenClaim.holds_of_wide 13 Try.f13 rfl rfl rfl rfl rfl rfl rfl ⟨rfl, rfl, rfl, rfl, rfl⟩ rfl rfl rfl rfl rfl (by kernel_rfl) Try.func13 (by kernel_rfl)
    (of_decide_eq_true (by kernel_rfl)) (by unfold Func.isWrapper; first | (rw [if_pos (by decide +kernel)]; kernel_rfl) | (rw [if_neg (by decide +kernel)]; exact ⟨rfl, rfl⟩))
    (fun os started H enc _ => lifted os started H enc)

/-- THE STATEMENT -/
theorem proved : Rows.TotalsSumsSaid := over
#print axioms proved
end Go.Proofs.Ytbkghiaafkmapaa.totalsSums
