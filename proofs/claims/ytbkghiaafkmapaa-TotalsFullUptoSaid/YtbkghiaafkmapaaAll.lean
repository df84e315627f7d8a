/- The walk of totals.All: all tenants' rows. No condition but that what comes in reads as data. -/
import Derived.Test.YtbkghiaafkmapaaOf
import Derived.Test.YtbkghiaafkmapaaRowList
namespace Go.Proofs.Ytbkghiaafkmapaa
open Go.ChangeShapes Go.WideShapes Go.ChangeAt Go.RowKit

def rowsOf (l : List TenantD) : List RowD := l.map rowOf
theorem rowsOf_take {l : List TenantD} {k : Nat} {x : TenantD} (h : l[k]? = some x) : (rowsOf (l.take (k + 1))).flatMap cellsRow = (rowsOf (l.take k)).flatMap cellsRow ++ cellsRow (rowOf x) := by
  rw [List.take_add_one, h]; simp [rowsOf]
theorem rowOf_ok {w : World} {x : TenantD} (h : okTenant w x) (W : World) (hl : x.sets.l.length ≤ 9223372036854775807) : okRow W (rowOf x) :=
  ⟨h.1, by unfold InR rowOf; dsimp only; omega, wrap_inR _, wrap_inR _, wrap_inR _, h.2.1⟩
/-- what the loop over the tenants keeps -/
structure AInv (w : World) (l : List TenantD) (k : Nat) (v : Value) (wr : World) : Prop where
  below : Below w.heap.size w wr
  size : w.heap.size < wr.heap.size
  own : wr.ownsRow (w.heap.size + 1) 59 6 v k ((rowsOf (l.take k)).flatMap cellsRow)
theorem AInv.step {w wr W w' : World} {l : List TenantD} {k : Nat} {v v' : Value} (h : AInv w l k v wr) {x : TenantD} (hx : l[k]? = some x) (hW : Below wr.heap.size wr W)
    (hown : w'.ownsRow (w.heap.size + 1) 59 6 v' (k + 1) ((rowsOf (l.take k)).flatMap cellsRow ++ cellsRow (rowOf x))) (hg : W.grownBy w' v.ownBlock) : AInv w l (k + 1) v' w' := by
  have hb := h.below.trans (hW.mono h.below.size)
  have hlt := h.own.lt
  exact ⟨hb.grown hg hb.size (fun q hq => by have := (hlt q hq).1; omega), Nat.lt_of_lt_of_le (Nat.lt_of_lt_of_le h.size hW.size) hg.size, by rw [rowsOf_take hx]; exact hown⟩

set_option maxRecDepth 100000 in
set_option maxHeartbeats 4000000 in
theorem All_any (x : PoolD) (w : World) (h : okPool w x) :
    Calls Try.prog 48 #[.agg #[.int .i64 x.capacity, .slice x.tenants.a x.tenants.l.length x.tenants.c, .slice x.forced.a x.forced.l.length x.forced.c, .slice x.log.a x.log.l.length x.log.c]] w
      fun e w' => ∃ a c, e = .returned (.slice a x.tenants.l.length c) ∧ IsRows w' ⟨a, c, rowsOf x.tenants.l⟩ ∧ Below w.heap.size w w' := by
  obtain ⟨cap, ⟨ta, tc, tl⟩, ⟨fa, fc, fl⟩, ⟨la, lc, ll⟩⟩ := x
  obtain ⟨-, ht, -, -⟩ := h
  have htl := IsSl.len ht
  dsimp only at ht htl ⊢
  have HT := Lib.hid ht
  have HOK : Hid (∀ W, ∀ z ∈ rowsOf tl, okRow W z) := fun W z hz => by
    obtain ⟨y, hy, rfl⟩ := List.mem_map.1 hz
    obtain ⟨k, hk⟩ := List.getElem?_of_mem hy
    have ho := (IsSl.at' ht k y hk).2
    exact rowOf_ok ho W (by have := IsSl.len ho.2.2.2.1; omega)
  clear ht
  obtain ⟨i0, hi, hz0, hz1, hz2⟩ := info_parts info59
  have HI := Lib.hid (And.intro hi (And.intro hz0 (And.intro hz1 hz2)))
  clear hi hz0 hz1 hz2
  go_enter Try.func48, Try.ntmps48
  go_wp2_with (at_make; refine wpList_make_own _ rfl _ _ 79 rfl (w.heap.size + 1) 59 i0 _ 6 Try.underlying79 HI.out.1 HI.out.2.1 HI.out.2.2.1 _ _ _ tl.length rfl rfl (by omega) (by rw [HI.out.2.2.2]; omega) (by unfold maxLen; omega) (by simp) ?_)
  intro w1 hown hgrow
  have hb0 : Below w.heap.size w (w.alloc (.cells #[.int .i64 cap, .slice ta tl.length tc, .slice fa fl.length fc, .slice la ll.length lc] 72)) := (Below.refl _ _).alloc (Nat.le_refl _) _
  have HP : Hid (AInv w tl 0 _ w1) := ⟨hb0.grown hgrow hb0.size (fun q hq => by cases hq), by have := hgrow.size; simp at this; omega, hown⟩
  have c1 : w1.cell? ⟨w.heap.size, 1, none⟩ = some (.slice ta tl.length tc) := hgrow.cell (by go_simp) (fun e => by cases e)
  clear hown hgrow hb0
  go_wp2_with fail
  go_loopg [3, 5, 13] tl.length (fun g v _ i wr => ∃ k : Nat, k + g = tl.length ∧ i = .int .i64 k ∧ AInv w tl k v wr)
  case atStart => exact ⟨0, by omega, rfl, HP.out⟩
  case round =>
    obtain ⟨k, hkg, rfl, hP⟩ := hrel
    have HPr := Lib.hid hP
    clear hP HP c1
    cases gk with
    | zero =>
      have hlt : ¬ ((k : Int) < (tl.length : Int)) := by omega
      have hO := HPr.out.own
      rw [List.take_of_length_le (by omega)] at hO
      have hkl : k = (rowsOf tl).length := by simp [rowsOf]; omega
      rw [hkl] at hO
      obtain ⟨va, vc, hv, hrows⟩ := rows_owned hO (by simp [rowsOf]; omega) (HOK.out wr)
      have hrl : (rowsOf tl).length = tl.length := by simp [rowsOf]
      rw [hrl] at hv
      subst hv
      have HR := Lib.hid hrows
      clear hO hkl hrl hrows
      go_wp2_with fail
      go_ret
      exact ⟨va, vc, rfl, HR.out, HPr.out.below⟩
    | succ g =>
      have hlt : (k : Int) < (tl.length : Int) := by omega
      obtain ⟨y, b, off, hy, hya, hbw, hy0, hy1, hy2, hy3, hy4, hy5, hy6, hyo⟩ := (HT.out.below HPr.out.below).get (show k < tl.length by omega)
      have HY := Lib.hid hy
      subst hya
      have hC := Of_any y _ (okTenant_below hyo ((Below.refl wr.heap.size wr).alloc (Nat.le_refl _) (.cells #[.string y.name, .int .i64 y.quota, .int .i64 y.next, .slice y.sets.a y.sets.l.length y.sets.c, .slice y.grants.a y.grants.l.length y.grants.c, .slice y.stages.a y.stages.l.length y.stages.c, .slice y.log.a y.log.l.length y.log.c] 53)))
      have HS0 : Hid (∀ (W w' : World) (v' : Value), Below wr.heap.size wr W → w'.ownsRow (w.heap.size + 1) 59 6 v' (k + 1) ((rowsOf (tl.take k)).flatMap cellsRow ++ cellsRow (rowOf y)) → W.grownBy w' u3.ownBlock → AInv w tl (k + 1) v' w') := fun W w' v' hW hown hg => HPr.out.step HY.out hW hown hg
      generalize hro : rowOf y = ro at *
      clear hro
      obtain ⟨rn, rs, rp, rb, rc, rq⟩ := ro
      simp only [cellsRow] at hC
      have HC := Lib.hid hC
      clear hy hyo hC
      go_wp2_with fail
      refine HC.out.mono ?_
      rintro e w2 ⟨rfl, hb2⟩
      have hB2 := ((Below.refl wr.heap.size wr).alloc (Nat.le_refl _) (.cells #[.string y.name, .int .i64 y.quota, .int .i64 y.next, .slice y.sets.a y.sets.l.length y.sets.c, .slice y.grants.a y.grants.l.length y.grants.c, .slice y.stages.a y.stages.l.length y.stages.c, .slice y.log.a y.log.l.length y.log.c] 53)).trans (hb2.mono (by simp))
      have hO2 := owned_below HPr.out.own hB2
      have hz2 : w.heap.size + 1 ≤ w2.heap.size := by have := HPr.out.size; have := hB2.size; omega
      have HB2 := Lib.hid hB2
      have HO2 := Lib.hid hO2
      clear hb2 hB2 hO2
      go_wp2_with (at_builtin; refine wpList_append_own _ rfl _ _ 79 rfl (w.heap.size + 1) 59 i0 _ 6 56 Try.underlying79 HI.out.1 HI.out.2.1 HI.out.2.2.1 HI.out.2.2.2 rfl (by decide) _ _ _ rfl (HO2.out.alloc _) ⟨w2.heap.size, 0, none⟩ 1 1 (cellsRow ⟨rn, rs, rp, rb, rc, rq⟩) rfl rfl ?c1 ?c2 ?c3 ?c4 ?c5 ?_)
      case c1 => exact World.news_of_block (cs := #[.string rn, .int .i64 rs, .int .i64 rp, .int .i64 rb, .int .i64 rc, .int .i64 rq]) (t := 59) (fr := (0, 0)) (heap_alloc_new w2 _)
      case c2 => exact row_one _
      case c3 => unfold maxLen; omega
      case c4 => omega
      case c5 => simp; omega
      intro v' w3 hown' hgrow' _
      have HS := Lib.hid (HS0.out _ _ _ (HB2.out.alloc HB2.out.size _) hown' hgrow')
      clear hown' hgrow'
      go_wp2_with fail
      go_roundg g
      case measure => omega
      case rel => exact ⟨k + 1, by omega, by go_num, HS.out⟩
end Go.Proofs.Ytbkghiaafkmapaa
