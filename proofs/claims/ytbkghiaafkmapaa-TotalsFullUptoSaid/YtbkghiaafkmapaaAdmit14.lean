/- Walks of the reference's promises. No condition but that what comes in reads as data. -/
import Derived.Test.YtbkghiaafkmapaaLedger
import Derived.Test.YtbkghiaafkmapaaRowed
namespace Go.Proofs.Ytbkghiaafkmapaa
open Go.ChangeShapes Go.WideShapes Go.ChangeAt Go.RowKit

set_option maxRecDepth 100000 in
set_option maxHeartbeats 2000000 in
theorem refPromised_any (x : PoolD) (w : World) (h : okPool w x) :
    Calls Try.prog 84 #[.agg #[.int .i64 x.capacity, .slice x.tenants.a x.tenants.l.length x.tenants.c, .slice x.forced.a x.forced.l.length x.forced.c, .slice x.log.a x.log.l.length x.log.c]] w fun e w' => e = .returned (.tuple #[.int .i64 (addN (quotas x.tenants.l)), .int .i64 (addE (quotas x.tenants.l))]) ∧ Below w.heap.size w w' := by
  obtain ⟨cap, ⟨ta, tc, tl⟩, ⟨fa, fc, fl⟩, ⟨la, lc, ll⟩⟩ := x
  obtain ⟨-, ht, -, -⟩ := h
  have htl := IsSl.len ht
  have hqr := quotas_inR ht
  dsimp only at ht htl hqr ⊢
  have HQ := Lib.hid hqr
  have HT := Lib.hid ht
  clear hqr ht
  obtain ⟨i0, hi, hz0, hz1, hz2⟩ := info_parts info3
  have HI := Lib.hid (And.intro hi (And.intro hz0 (And.intro hz1 hz2)))
  clear hi hz0 hz1 hz2
  have HP : Hid (PInv w ta tc tl 0 (.slice none 0 0) (w.alloc (.cells #[.int .i64 cap, .slice ta tl.length tc, .slice fa fl.length fc, .slice la ll.length lc] 72))) := ⟨(Below.refl _ _).alloc (Nat.le_refl _) _, by go_simp, by simp, by simp [World.ownsRow, quotas]⟩
  go_enter Try.func84, Try.ntmps84
  go_wp2_with fail
  go_loopg [4, 5] tl.length (fun g v i wr => ∃ k : Nat, k + g = tl.length ∧ i = .int .i64 k ∧ PInv w ta tc tl k v wr)
  case atStart => exact ⟨0, by omega, rfl, HP.out⟩
  case round =>
    obtain ⟨k, hkg, rfl, hP⟩ := hrel
    have HPr := Lib.hid hP
    have c1 := hP.c1
    clear hP HP
    cases gk with
    | zero =>
      have hlt : ¬ ((k : Int) < (tl.length : Int)) := by omega
      obtain ⟨va, vc, hv, hints⟩ := HPr.out.done (by omega) (by omega) HQ.out
      subst hv
      have HII := Lib.hid hints
      clear hints
      go_wp2_with fail
      refine (refAdd_any _ _ _ _ HII.out).mono ?_
      rintro e w2 ⟨rfl, rfl⟩
      go_wp2_with fail
      go_ret2
      exact ⟨rfl, HPr.out.below⟩
    | succ g =>
      have hl0 : (0 : Int) ≤ (k : Int) := by omega
      have hlt : (k : Int) < (tl.length : Int) := by omega
      obtain ⟨y, b, off, hy, hya, hbw, hy0, hy1, hy2, hy3, hy4, hy5, hy6, -⟩ := (HT.out.below HPr.out.below).get (show k < tl.length by omega)
      have HY := Lib.hid hy
      have hsz := HPr.out.size
      subst hya
      clear hy
      go_wp2_with (at_builtin; refine wpList_append_own _ rfl _ _ 22 rfl (w.heap.size + 1) 3 i0 (.int .i64 0) 1 8 Try.underlying22 HI.out.1 HI.out.2.1 HI.out.2.2.1 HI.out.2.2.2 rfl (by decide) _ _ _ rfl (HPr.out.own.alloc _) ⟨wr.heap.size, 0, none⟩ 1 1 [.int .i64 y.quota] rfl rfl ?c1 ?c2 ?c3 ?c4 ?c5 ?_)
      case c1 =>
        intro j u hj
        match j, hj with
        | 0, hj => simp at hj; subst hj; go_simp
      case c2 => intro u hu; simp at hu; subst hu; rfl
      case c3 => unfold maxLen; omega
      case c4 => omega
      case c5 => simp; omega
      intro v' w1 hown' hgrow' _
      have HS := Lib.hid (HPr.out.step HY.out ((Below.refl _ _).alloc (Nat.le_refl _) _) hown' hgrow')
      clear hown' hgrow' c1
      go_wp2_with fail
      go_roundg g
      case measure => omega
      case rel => exact ⟨k + 1, by omega, by go_num, HS.out⟩
end Go.Proofs.Ytbkghiaafkmapaa
