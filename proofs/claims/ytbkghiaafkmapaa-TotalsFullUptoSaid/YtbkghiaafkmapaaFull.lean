/- The walk of totals.Full: whose share is great. No condition but that what comes in reads as data. -/
import Derived.Test.YtbkghiaafkmapaaAll
import Derived.Test.YtbkghiaafkmapaaShare
import Derived.Test.YtbkghiaafkmapaaPaths
namespace Go.Proofs.Ytbkghiaafkmapaa
open Go.ChangeShapes Go.WideShapes Go.ChangeAt Go.RowKit

/-- the names of those whose share is at least p -/
def fullOf (p : Int) (l : List RowD) : List ByteArray := (l.filter fun r => decide (p ≤ shareN r)).map (·.name)
theorem fullOf_take {p : Int} {l : List RowD} {k : Nat} {x : RowD} (h : l[k]? = some x) : fullOf p (l.take (k + 1)) = if p ≤ shareN x then fullOf p (l.take k) ++ [x.name] else fullOf p (l.take k) := by
  rw [List.take_add_one, h]
  by_cases hp : p ≤ shareN x <;> simp [fullOf, List.filter_append, hp]
theorem fullOf_len (p : Int) (l : List RowD) : (fullOf p l).length ≤ l.length := by
  simp only [fullOf, List.length_map]; exact List.length_filter_le _ _
theorem fullOf_mem {p : Int} {l : List RowD} {s : ByteArray} (h : s ∈ fullOf p l) : ∃ r ∈ l, s = r.name := by
  obtain ⟨r, hr, rfl⟩ := List.mem_map.1 h
  exact ⟨r, (List.mem_filter.1 hr).1, rfl⟩

set_option maxRecDepth 100000 in
set_option maxHeartbeats 4000000 in
theorem Full_any (x : PoolD) (p : Int) (w : World) (h : okPool w x) :
    Calls Try.prog 51 #[.agg #[.int .i64 x.capacity, .slice x.tenants.a x.tenants.l.length x.tenants.c, .slice x.forced.a x.forced.l.length x.forced.c, .slice x.log.a x.log.l.length x.log.c], .int .i64 p] w
      fun e w' => ∃ a c, e = .returned (.slice a (fullOf p (rowsOf x.tenants.l)).length c) ∧ IsStrs w' ⟨a, c, fullOf p (rowsOf x.tenants.l)⟩ ∧ Below w.heap.size w w' := by
  have hb0 : Below w.heap.size w (w.alloc (.cells #[.int .i64 x.capacity, .slice x.tenants.a x.tenants.l.length x.tenants.c, .slice x.forced.a x.forced.l.length x.forced.c, .slice x.log.a x.log.l.length x.log.c] 72)) := (Below.refl _ _).alloc (Nat.le_refl _) _
  have HA := Lib.hid (All_any x _ (okPool_below h hb0))
  have HB0 := Lib.hid hb0
  have hrl : (rowsOf x.tenants.l).length = x.tenants.l.length := by simp [rowsOf]
  rw [← hrl] at HA HB0 ⊢
  generalize rowsOf x.tenants.l = rl at *
  have HRL := Lib.hid hrl
  clear hrl hb0 h
  obtain ⟨cap, ⟨ta, tc, tl⟩, ⟨fa, fc, fl⟩, ⟨la, lc, ll⟩⟩ := x
  dsimp only at HA HB0 ⊢
  clear HRL
  obtain ⟨i0, hi, hz0, hz1, hz2⟩ := info_parts info9
  have HI := Lib.hid (And.intro hi (And.intro hz0 (And.intro hz1 hz2)))
  clear hi hz0 hz1 hz2
  go_enter Try.func51, Try.ntmps51
  go_wp2_with fail
  refine HA.out.mono ?_
  rintro e w1 ⟨va, vc, rfl, hrows, hb⟩
  have HB1 := Lib.hid (HB0.out.trans (hb.mono HB0.out.size))
  have hlen := IsSl.len hrows
  dsimp only at hlen
  have HR := Lib.hid hrows
  clear hb HB0 HA hrows
  go_wp2_with fail
  go_loopw [5, 7, 11] (fun v _ i wr => ∃ k : Nat, k ≤ rl.length ∧ i = .int .i64 k ∧ Below w1.heap.size w1 wr ∧ wr.ownsRow w1.heap.size 9 1 v (fullOf p (rl.take k)).length ((fullOf p (rl.take k)).map Value.string)) (fun _ _ i _ => rl.length - (intOf i).toNat)
  case atStart => exact ⟨0, Nat.zero_le _, rfl, Below.refl _ _, by simp [World.ownsRow, fullOf]⟩
  case round =>
    obtain ⟨k, hk, rfl, hB, hO⟩ := hrel
    have HB := Lib.hid hB
    have HO := Lib.hid hO
    have hwz := hB.size
    clear hB hO
    by_cases hlt : k < rl.length
    · have hl0 : (0 : Int) ≤ (k : Int) := by omega
      have hl1 : (k : Int) < (rl.length : Int) := by omega
      obtain ⟨y, b, off, hy, hya, hbw, hy0, hy1, hy2, hy3, hy4, hy5, hyo⟩ := (HR.out.below HB.out).get hlt
      have HTK := Lib.hid (fullOf_take (p := p) hy)
      have HFL := Lib.hid (fullOf_len p (rl.take k))
      have hS := fun W => Share_any y W hyo
      subst hya
      generalize shareN y = sh at *
      have HS := Lib.hid hS
      have hbb : Below wr.heap.size wr (wr.alloc (.cells #[.string y.name, .int .i64 y.sets, .int .i64 y.snaps, .int .i64 y.blocks, .int .i64 y.charge, .int .i64 y.quota] 59)) := (Below.refl _ _).alloc (Nat.le_refl _) _
      clear hy hyo hS
      go_wp2_with fail
      refine (HS.out _).mono ?_
      rintro e w2 ⟨rfl, hb2⟩
      have hB2 := hbb.trans (hb2.mono hbb.size)
      have e0 : w2.cell? ⟨wr.heap.size, 0, none⟩ = some (.string y.name) := by rw [hb2.cell (p := ⟨wr.heap.size, 0, none⟩) (by simp)]; go_simp
      have hz2 : w1.heap.size ≤ w2.heap.size := by have := hB2.size; omega
      have HB2 := Lib.hid (HB.out.trans (hB2.mono HB.out.size))
      have HO2 := Lib.hid (owned_below HO.out hB2)
      clear hb2 hB2 hbb hy0 hy1 hy2 hy3 hy4 hy5
      by_cases hp : p ≤ sh
      · have hp' : decide (p ≤ sh) = true := decide_eq_true hp
        have HT2 : Hid (fullOf p (rl.take (k + 1)) = fullOf p (rl.take k) ++ [y.name]) := by show _ = _; rw [HTK.out, if_pos hp]
        clear HTK
        have hfl : (fullOf p (rl.take k)).length ≤ k := by have := HFL.out; simp at this; omega
        go_wp2_with (at_builtin; refine wpList_append_own _ rfl _ _ 40 rfl w1.heap.size 9 i0 _ 1 16 Try.underlying40 HI.out.1 HI.out.2.1 HI.out.2.2.1 HI.out.2.2.2 rfl (by decide) _ _ _ rfl (HO2.out.alloc _) ⟨w2.heap.size, 0, none⟩ 1 1 [.string y.name] rfl rfl ?c1 ?c2 ?c3 ?c4 ?c5 ?_)
        case c1 =>
          intro j u hj
          match j, hj with
          | 0, hj => simp at hj; subst hj; go_simp
        case c2 => intro u hu; simp at hu; subst hu; rfl
        case c3 => unfold maxLen; omega
        case c4 => omega
        case c5 => simp; omega
        intro v' w3 hown hgrow _
        have hlt' := HO2.out.lt
        have HB3 := Lib.hid ((HB2.out.alloc HB2.out.size (.cells #[.string y.name] 9)).grown hgrow (by simp; omega) (fun q hq => (hlt' q hq).1))
        have HO3 := Lib.hid hown
        clear hown hgrow hlt'
        go_wp2_with fail
        go_roundw
        case rel => exact ⟨k + 1, by omega, by go_num, HB3.out, by rw [HT2.out]; simpa using HO3.out⟩
        case measure => simp [intOf]; omega
      · have hp' : decide (p ≤ sh) = false := decide_eq_false hp
        have HT2 : Hid (fullOf p (rl.take (k + 1)) = fullOf p (rl.take k)) := by show _ = _; rw [HTK.out, if_neg hp]
        clear HTK
        go_wp2_with fail
        go_roundw
        case rel => exact ⟨k + 1, by omega, by go_num, HB2.out, by rw [HT2.out]; exact HO2.out⟩
        case measure => simp [intOf]; omega
    · have hO := HO.out
      rw [List.take_of_length_le (by omega)] at hO
      obtain ⟨a, cp, hv, hst⟩ := strs_owned hO (by have := fullOf_len p rl; omega) (fun z hz => by
        obtain ⟨r, hr, rfl⟩ := fullOf_mem hz
        obtain ⟨j, hj⟩ := List.getElem?_of_mem hr
        exact (IsSl.at' HR.out j r hj).2.1)
      subst hv
      have HST := Lib.hid hst
      clear hO hst
      go_wp2_with fail
      go_ret
      exact ⟨a, cp, rfl, HST.out, HB1.out.trans (HB.out.mono HB1.out.size)⟩
end Go.Proofs.Ytbkghiaafkmapaa
