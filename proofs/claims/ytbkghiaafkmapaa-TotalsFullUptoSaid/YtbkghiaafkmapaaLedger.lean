/- Walks of package ledger: what is promised. No condition but that what comes in reads as data. -/
import Derived.Test.YtbkghiaafkmapaaCount2
import Derived.Test.YtbkghiaafkmapaaUsage3
import Derived.Deep.LoopGhost
namespace Go.Proofs.Ytbkghiaafkmapaa
open Go.ChangeShapes Go.WideShapes Go.ChangeAt Go.RowKit

theorem info3 : (Try.prog.info? 3).map (fun i => (i.zero, i.size, i.bytes)) = some (some (.int .i64 0), 1, 8) := by kernel_rfl

/-- a row of ints that the call owns, as a list that reads -/
theorem ints_owned {w : World} {base : Nat} {v : Value} {zs : List Int} (h : w.ownsRow base 3 1 v zs.length (zs.map (Value.int .i64))) (hlen : zs.length ≤ 9223372036854775807) (hr : ∀ z ∈ zs, InR z) :
    ∃ a c, v = .slice a zs.length c ∧ IsInts w a zs := by
  obtain ⟨_, h2⟩ := h
  rcases h2 with ⟨rfl, h0⟩ | ⟨g, cap, cur, rfl, hb, hg, hn, hc, hcs, htk⟩
  · have : zs = [] := List.eq_nil_of_length_eq_zero h0
    subst this
    exact ⟨none, 0, rfl, by simp, fun i hi => by simp at hi, fun i hi => by simp at hi⟩
  · refine ⟨some ⟨g, 0, none⟩, cap, rfl, hlen, fun i hi => ⟨g, 0, rfl, (Array.getElem?_eq_some_iff.1 hg).1, ?_⟩, fun i hi => hr _ (by simp [List.getD, hi])⟩
    rw [cell_of_row w g (0 + i) cur 3 (0, 0) hg]
    have h1 : (cur.toList.take (zs.length * 1))[i]? = some (.int .i64 (zs.getD i 0)) := by rw [htk]; simp [List.getD, hi]
    rw [List.getElem?_take] at h1
    split at h1
    · simpa using h1
    · cases h1

def quotas (l : List TenantD) : List Int := l.map (·.quota)
theorem quotas_take {l : List TenantD} {k : Nat} {x : TenantD} (h : l[k]? = some x) : (quotas (l.take (k + 1))).map (Value.int .i64) = (quotas (l.take k)).map (Value.int .i64) ++ [.int .i64 x.quota] := by
  rw [List.take_add_one, h]; simp [quotas]
theorem quotas_inR {w : World} {a : Option Addr} {c : Nat} {l : List TenantD} (h : IsTenants w ⟨a, c, l⟩) : ∀ z ∈ quotas l, InR z := by
  intro z hz
  obtain ⟨x, hx, rfl⟩ := List.mem_map.1 hz
  obtain ⟨k, hk⟩ := List.getElem?_of_mem hx
  obtain ⟨_, ho⟩ := IsSl.at' h k x hk
  exact ho.2.1

theorem hi53 (y : TenantD) : (Try.prog.info? 53).map (·.size) = some (cellsTenant y).length := by
  show _ = some 7
  kernel_rfl

/-- what the loop over the tenants keeps -/
structure PInv (w : World) (ta : Option Addr) (tc : Nat) (l : List TenantD) (k : Nat) (v : Value) (wr : World) : Prop where
  below : Below w.heap.size w wr
  c1 : wr.cell? ⟨w.heap.size, 1, none⟩ = some (.slice ta l.length tc)
  size : w.heap.size < wr.heap.size
  own : wr.ownsRow (w.heap.size + 1) 3 1 v k ((quotas (l.take k)).map (Value.int .i64))

theorem PInv.step {w wr W w' : World} {ta : Option Addr} {tc : Nat} {l : List TenantD} {k : Nat} {v v' : Value} (h : PInv w ta tc l k v wr) {x : TenantD} (hx : l[k]? = some x) (hW : Below wr.heap.size wr W)
    (hown : w'.ownsRow (w.heap.size + 1) 3 1 v' (k + 1) ((quotas (l.take k)).map (Value.int .i64) ++ [.int .i64 x.quota])) (hg : W.grownBy w' v.ownBlock) : PInv w ta tc l (k + 1) v' w' := by
  have hb := h.below.trans (hW.mono h.below.size)
  have hlt := h.own.lt
  refine ⟨hb.grown hg hb.size (fun q hq => by have := (hlt q hq).1; omega), ?_, Nat.lt_of_lt_of_le (Nat.lt_of_lt_of_le h.size hW.size) hg.size, by rw [quotas_take hx]; exact hown⟩
  have c := h.c1
  rw [← hW.cell (p := ⟨w.heap.size, 1, none⟩) h.size] at c
  refine hg.cell c (fun e => ?_)
  have := (hlt _ e.symm).1
  simp only at this
  omega
theorem PInv.start {w W w' : World} {ta : Option Addr} {tc : Nat} {l : List TenantD} {v : Value} (hB : Below w.heap.size w W) (hz : w.heap.size < W.heap.size) (hc : W.cell? ⟨w.heap.size, 1, none⟩ = some (.slice ta l.length tc))
    (hown : w'.ownsRow (w.heap.size + 1) 3 1 v 0 []) (hg : W.grownBy w' none) : PInv w ta tc l 0 v w' :=
  ⟨hB.grown hg hB.size (fun q hq => by cases hq), hg.cell hc (fun e => by cases e), Nat.lt_of_lt_of_le hz hg.size, hown⟩
theorem PInv.done {w wr : World} {ta : Option Addr} {tc : Nat} {l : List TenantD} {k : Nat} {v : Value} (h : PInv w ta tc l k v wr) (hk : k = l.length) (hlen : l.length ≤ 9223372036854775807) (hr : ∀ z ∈ quotas l, InR z) : ∃ a c, v = .slice a (quotas l).length c ∧ IsInts wr a (quotas l) := by
  subst hk
  have ho := h.own
  rw [List.take_length] at ho
  have e : (quotas l).length = l.length := by simp [quotas]
  exact ints_owned (by rw [e]; exact ho) (by rw [e]; exact hlen) hr

set_option maxHeartbeats 1000000 in
theorem Promised_any (x : PoolD) (w : World) (h : okPool w x) :
    Calls Try.prog 42 #[.agg #[.int .i64 x.capacity, .slice x.tenants.a x.tenants.l.length x.tenants.c, .slice x.forced.a x.forced.l.length x.forced.c, .slice x.log.a x.log.l.length x.log.c]] w fun e w' => e = .returned (.tuple #[.int .i64 (addN (quotas x.tenants.l)), .int .i64 (addE (quotas x.tenants.l))]) ∧ Below w.heap.size w w' := by
  obtain ⟨cap, ⟨ta, tc, tl⟩, ⟨fa, fc, fl⟩, ⟨la, lc, ll⟩⟩ := x
  obtain ⟨-, ht, -, -⟩ := h
  have htl := IsSl.len ht
  have hqr := quotas_inR ht
  dsimp only at ht htl hqr ⊢
  have HQ := Lib.hid hqr
  have HT := Lib.hid ht
  clear hqr ht
  obtain ⟨i0, hi, hz0, hz1, hz2⟩ := info_parts info3
  have HI := Lib.hid (And.intro hi (And.intro hz0 (And.intro hz1 hz2)))
  clear hi hz0 hz1 hz2
  go_enter Try.func42, Try.ntmps42
  go_wp2_with (at_make; refine wpList_make_own _ rfl _ _ 22 rfl (w.heap.size + 1) 3 i0 (.int .i64 0) 1 Try.underlying22 HI.out.1 HI.out.2.1 HI.out.2.2.1 _ _ _ tl.length rfl rfl (by omega) (by rw [HI.out.2.2.2]; omega) (by unfold maxLen; omega) (by simp) ?_)
  intro w1 hown hgrow
  have HP := Lib.hid (PInv.start (l := tl) (ta := ta) (tc := tc) ((Below.refl _ _).alloc (Nat.le_refl _) _) (by simp) (by go_simp) hown hgrow)
  have c1 := HP.out.c1
  clear hown hgrow
  go_wp2_with fail
  go_loopg [4, 6, 14] tl.length (fun g v _ i wr => ∃ k : Nat, k + g = tl.length ∧ i = .int .i64 k ∧ PInv w ta tc tl k v wr)
  case atStart => exact ⟨0, by omega, rfl, HP.out⟩
  case round =>
    obtain ⟨k, hkg, rfl, hP⟩ := hrel
    have HPr := Lib.hid hP
    clear hP HP c1
    cases gk with
    | zero =>
      have hlt : ¬ ((k : Int) < (tl.length : Int)) := by omega
      obtain ⟨va, vc, hv, hints⟩ := HPr.out.done (by omega) (by omega) HQ.out
      subst hv
      have HII := Lib.hid hints
      clear hints
      go_wp2_with fail
      refine (add_any _ _ _ _ HII.out).mono ?_
      rintro e w2 ⟨rfl, rfl⟩
      go_wp2_with fail
      go_ret2
      exact ⟨rfl, HPr.out.below⟩
    | succ g =>
      have hlt : (k : Int) < (tl.length : Int) := by omega
      obtain ⟨y, b, off, hy, hya, -, hy0, hy1, hy2, hy3, hy4, hy5, hy6, -⟩ := (HT.out.below HPr.out.below).get (show k < tl.length by omega)
      have HY := Lib.hid hy
      have hsz := HPr.out.size
      subst hya
      clear hy
      go_wp2_with (at_builtin; refine wpList_append_own _ rfl _ _ 22 rfl (w.heap.size + 1) 3 i0 (.int .i64 0) 1 8 Try.underlying22 HI.out.1 HI.out.2.1 HI.out.2.2.1 HI.out.2.2.2 rfl (by decide) _ _ _ rfl ((HPr.out.own.alloc _).alloc _) ⟨wr.heap.size + 1, 0, none⟩ 1 1 [.int .i64 y.quota] rfl rfl ?c1 ?c2 ?c3 ?c4 ?c5 ?_)
      case c1 =>
        intro j u hj
        match j, hj with
        | 0, hj => simp at hj; subst hj; go_simp
      case c2 => intro u hu; simp at hu; subst hu; rfl
      case c3 => unfold maxLen; omega
      case c4 => omega
      case c5 => simp; omega
      intro v' w1 hown' hgrow' _
      have HS := Lib.hid (HPr.out.step HY.out (((Below.refl _ _).alloc (Nat.le_refl _) _).alloc (by simp) _) hown' hgrow')
      clear hown' hgrow'
      go_wp2_with fail
      go_roundg g
      case measure => omega
      case rel => exact ⟨k + 1, by omega, by go_num, HS.out⟩

end Go.Proofs.Ytbkghiaafkmapaa
