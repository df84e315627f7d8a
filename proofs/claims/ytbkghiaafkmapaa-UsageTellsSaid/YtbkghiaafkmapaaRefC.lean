/- The walk of the reference's Changed. No condition but that what comes in reads as data. -/
import Derived.Test.YtbkghiaafkmapaaUniq2
import Derived.Test.YtbkghiaafkmapaaQuiet
namespace Go.Proofs.Ytbkghiaafkmapaa
open Go.ChangeShapes Go.WideShapes Go.ChangeAt Go.RowKit

theorem inAny_one (s : SliceV BlockD) (x : BlockD) : inAny [s] x = hasB s.l x := by simp [inAny]

set_option maxHeartbeats 2000000 in
theorem refChanged_none (path origin : ByteArray) (ba : Option Addr) (bc : Nat) (bl : List BlockD) (sa : Option Addr) (sc : Nat) (oa : Option Addr) (on oc : Nat) (w : World) (hb : IsBlocks w ⟨ba, bc, bl⟩) :
    Calls Try.prog 35 #[.agg #[.string path, .string origin, .slice ba bl.length bc, .slice sa 0 sc, .slice oa on oc]] w fun e w' => e = .returned (.int .i64 (bl.length : Int)) ∧ Below w.heap.size w w' := by
  have hbl := IsSl.len hb
  dsimp only at hbl
  go_enter Try.func35, Try.ntmps35
  go_wp2_with fail
  have HD : Hid (Below w.heap.size w (w.alloc (.cells #[.string path, .string origin, .slice ba bl.length bc, .slice sa 0 sc, .slice oa on oc] 38))) := (Below.refl _ _).alloc (Nat.le_refl _) _
  go_loopg [3, 4] bl.length (fun g n i wr => ∃ (j : Nat), j + g = bl.length ∧ i = .int .i64 j ∧ n = .int .i64 j ∧ Below w.heap.size w wr ∧ wr.cell? ⟨w.heap.size, 2, none⟩ = some (.slice ba bl.length bc) ∧ wr.cell? ⟨w.heap.size, 3, none⟩ = some (.slice sa 0 sc) ∧ w.heap.size < wr.heap.size)
  case atStart => exact ⟨0, by omega, rfl, rfl, HD.out, by go_simp, by go_simp, by simp⟩
  case round =>
    obtain ⟨j, hjg, rfl, rfl, hB, hc2, hc3, hz⟩ := hrel
    have HB := Lib.hid hB
    clear hB HD
    cases gk with
    | zero =>
      have hlt : ¬ ((j : Int) < (bl.length : Int)) := by omega
      have HE := Lib.hid (show j = bl.length by omega)
      go_wp2_with fail
      go_ret
      exact ⟨ret_int (by rw [HE.out]), HB.out⟩
    | succ g =>
      have hlt : (j : Int) < (bl.length : Int) := by omega
      go_wp2_with fail
      go_quiet (fail)
      have HBF := Lib.hid (belowN HB.out nq)
      go_wp2_with fail
      go_roundg g
      case measure => omega
      case rel => exact ⟨j + 1, by omega, by go_num, by go_num, HBF.out, hc2, hc3, hz⟩

set_option maxHeartbeats 4000000 in
theorem refChanged_some (path origin : ByteArray) (ba : Option Addr) (bc : Nat) (bl : List BlockD) (sa : Option Addr) (sc : Nat) (sl : List SnapD) (oa : Option Addr) (on oc : Nat) (hk : 0 < sl.length) (w : World) (hb : IsBlocks w ⟨ba, bc, bl⟩) (hs : IsSnaps w ⟨sa, sc, sl⟩) (p : SnapD) (hp : sl[sl.length - 1]? = some p) :
    Calls Try.prog 35 #[.agg #[.string path, .string origin, .slice ba bl.length bc, .slice sa sl.length sc, .slice oa on oc]] w fun e w' => e = .returned (.int .i64 (missN [p.body] bl : Nat)) ∧ Below w.heap.size w w' := by
  have hsl := IsSl.len hs
  have hbl := IsSl.len hb
  dsimp only at hsl hbl
  obtain ⟨p', b, off, hp', hya, hbs, -, -, hp2, -, -, hpo⟩ := hs.get (show sl.length - 1 < sl.length by omega)
  obtain rfl : p = p' := by rw [hp] at hp'; exact Option.some.inj hp'
  have ha : IsBlocks w p.body := hpo.2.2.1
  subst hya
  have HCa : Hid (∀ (W : World) (z : BlockD), Below w.heap.size w W → Calls Try.prog 59 #[.slice p.body.a p.body.l.length p.body.c, .agg #[.int .i64 z.idx, .string z.data]] W fun e w' => e = .returned (.bool (hasB p.body.l z)) ∧ Below W.heap.size W w') := fun W z hB => refHas_any p.body.a p.body.c p.body.l z W (ha.below hB)
  have hd : ((sl.length : Int) == 0) = false := beq_eq_false_iff_ne.2 (by omega)
  have hk1 : ((sl.length : Int) - 1).toNat = sl.length - 1 := by omega
  have hk1' : (0 : Int) ≤ (sl.length : Int) - 1 := by omega
  have hk1i : (1 : Int) ≤ (sl.length : Int) := by omega
  have hk1n : 1 ≤ sl.length := hk
  have hk1w : IntKind.i64.wrap ((sl.length : Int) - 1) = (sl.length : Int) - 1 := by rw [i64_wrap]; exact wrap_in (by unfold InR; omega)
  have hk1l : (sl.length : Int) - 1 < (sl.length : Int) := by omega
  have hne : b ≠ w.heap.size := by omega
  have HBL := Lib.hid hb
  clear hp hp' hpo ha hs hb
  go_enter Try.func35, Try.ntmps35
  go_wp2_with fail
  have HD : Hid (Below w.heap.size w (w.alloc (.cells #[.string path, .string origin, .slice ba bl.length bc, .slice (some ⟨b, off, none⟩) sl.length sc, .slice oa on oc] 38))) := (Below.refl _ _).alloc (Nat.le_refl _) _
  go_loopg [3, 4] bl.length (fun g n i wr => ∃ (j t : Nat), j + g = bl.length ∧ i = .int .i64 j ∧ n = .int .i64 t ∧ t ≤ j ∧ Aside (t + missN [p.body] (bl.drop j) = missN [p.body] bl) ∧ Below w.heap.size w wr ∧ wr.cell? ⟨w.heap.size, 2, none⟩ = some (.slice ba bl.length bc) ∧ wr.cell? ⟨w.heap.size, 3, none⟩ = some (.slice (some ⟨b, off, none⟩) sl.length sc) ∧ w.heap.size < wr.heap.size)
  case atStart => exact ⟨0, 0, by omega, rfl, rfl, by omega, by show _ = _; simp, HD.out, by go_simp, by go_simp, by simp⟩
  case round =>
    obtain ⟨j, t, hjg, rfl, rfl, htj, HS, hB, hc2, hc3, hz⟩ := hrel
    have HB := Lib.hid hB
    clear hB HD
    cases gk with
    | zero =>
      have hlt : ¬ ((j : Int) < (bl.length : Int)) := by omega
      have HFF := Lib.hid (show t = missN [p.body] bl by have h1 := HS.out; rw [List.drop_of_length_le (by omega)] at h1; simpa [missN] using h1)
      go_wp2_with fail
      go_ret
      exact ⟨ret_int (by rw [← HFF.out]), HB.out⟩
    | succ g =>
      have hlt : (j : Int) < (bl.length : Int) := by omega
      obtain ⟨z, yb, yo, hz', hza, hyb', hz0, hz1, -⟩ := (HBL.out.below HB.out).get (show j < bl.length by omega)
      have HST := Lib.hid (missN_step (ll := [p.body]) hz')
      rw [inAny_one] at HST
      subst hza
      have hpc : wr.cell? ⟨b, off + (sl.length - 1) * 5 + 2, none⟩ = some (.slice p.body.a p.body.l.length p.body.c) := by rw [HB.out.cell (p := ⟨b, off + (sl.length - 1) * 5 + 2, none⟩) hbs]; exact hp2
      have hj0 : (0 : Int) ≤ (j : Int) := by omega
      have hbr : b < wr.heap.size := Nat.lt_of_lt_of_le hbs HB.out.size
      have HAT : Hid (At wr ((yb, yo + j * 2, .int .i64 z.idx) :: (yb, yo + j * 2 + 1, .string z.data) :: (w.heap.size, 2, .slice (some ⟨yb, yo, none⟩) bl.length bc) :: (w.heap.size, 3, .slice (some ⟨b, off, none⟩) sl.length sc) :: (b, off + (sl.length - 1) * 5 + 2, .slice p.body.a p.body.l.length p.body.c) :: [])) := At.cons hyb' hz0 (At.cons hyb' hz1 (At.cons hz hc2 (At.cons hz hc3 (At.cons hbr hpc (At.nil _)))))
      clear hz'
      cases hh : hasB p.body.l z
      · have HFX : Hid (Aside ((t + 1) + missN [p.body] (bl.drop (j + 1)) = missN [p.body] bl)) := by have h1 := HS.out; have h2 := HST.out; rw [hh] at h2; simp at h2; show _ = _; omega
        have HCC := Lib.hid (fun W hW => HCa.out W z hW)
        rw [hh] at HCC
        clear hh
        go_wp2_with fail
        refine region_C (by kernel_rfl) (by kernel_rfl) (Cls.start HAT.out) ?_
        repeat (first | go_big_quiet_skip | (go_big_quiet_want; (first | (apply q_val; (· (rintro w' ⟨hA, -⟩; have c0 := hA.hd; have c1 := hA.tl.hd; have c2 := hA.tl.tl.hd; have c3 := hA.tl.tl.tl.hd; have c4 := hA.tl.tl.tl.tl.hd; clear hA; go_simp; try rfl))) | (apply q_call 59; (· (rintro w' ⟨hA, -⟩; have c0 := hA.hd; have c1 := hA.tl.hd; have c2 := hA.tl.tl.hd; have c3 := hA.tl.tl.tl.hd; have c4 := hA.tl.tl.tl.tl.hd; clear hA; go_simp; try rfl)); (· (intro w' hC; exact (HCC.out w' (HB.out.trans (hC.2.mono HB.out.size))).mono (fun e w'' h => ⟨h.1, hC.later h.2⟩))))); simp only [Act.put, List.setIfInBounds_toArray, List.set_cons_zero, List.set_cons_succ]; go_big_quiet_on))
        refine wpQuiet_nil ?_
        intro w2 hC2
        have HBF := Lib.hid (HB.out.trans (hC2.2.mono HB.out.size))
        have HAF := Lib.hid hC2.1
        have gz : w.heap.size < w2.heap.size := Nat.lt_of_lt_of_le hz hC2.2.size
        clear hC2
        go_wp2_with fail
        go_roundg g
        case measure => omega
        case rel => exact ⟨j + 1, t + 1, by omega, by go_num, by go_num, by omega, HFX.out, HBF.out, HAF.out.tl.tl.hd, HAF.out.tl.tl.tl.hd, gz⟩
      · have HFX : Hid (Aside (t + missN [p.body] (bl.drop (j + 1)) = missN [p.body] bl)) := by have h1 := HS.out; have h2 := HST.out; rw [hh] at h2; simp at h2; show _ = _; omega
        have HCC := Lib.hid (fun W hW => HCa.out W z hW)
        rw [hh] at HCC
        clear hh
        go_wp2_with fail
        refine region_C (by kernel_rfl) (by kernel_rfl) (Cls.start HAT.out) ?_
        repeat (first | go_big_quiet_skip | (go_big_quiet_want; (first | (apply q_val; (· (rintro w' ⟨hA, -⟩; have c0 := hA.hd; have c1 := hA.tl.hd; have c2 := hA.tl.tl.hd; have c3 := hA.tl.tl.tl.hd; have c4 := hA.tl.tl.tl.tl.hd; clear hA; go_simp; try rfl))) | (apply q_call 59; (· (rintro w' ⟨hA, -⟩; have c0 := hA.hd; have c1 := hA.tl.hd; have c2 := hA.tl.tl.hd; have c3 := hA.tl.tl.tl.hd; have c4 := hA.tl.tl.tl.tl.hd; clear hA; go_simp; try rfl)); (· (intro w' hC; exact (HCC.out w' (HB.out.trans (hC.2.mono HB.out.size))).mono (fun e w'' h => ⟨h.1, hC.later h.2⟩))))); simp only [Act.put, List.setIfInBounds_toArray, List.set_cons_zero, List.set_cons_succ]; go_big_quiet_on))
        refine wpQuiet_nil ?_
        intro w2 hC2
        have HBF := Lib.hid (HB.out.trans (hC2.2.mono HB.out.size))
        have HAF := Lib.hid hC2.1
        have gz : w.heap.size < w2.heap.size := Nat.lt_of_lt_of_le hz hC2.2.size
        clear hC2
        go_wp2_with fail
        go_roundg g
        case measure => omega
        case rel => exact ⟨j + 1, t, by omega, by go_num, rfl, by omega, HFX.out, HBF.out, HAF.out.tl.tl.hd, HAF.out.tl.tl.tl.hd, gz⟩

theorem refChanged_any (x : SetD) (w : World) (h : okSet w x) :
    Calls Try.prog 35 #[.agg #[.string x.path, .string x.origin, .slice x.body.a x.body.l.length x.body.c, .slice x.snaps.a x.snaps.l.length x.snaps.c, .slice x.own.a x.own.l.length x.own.c]] w fun e w' => e = .returned (.int .i64 (changedN x)) ∧ Below w.heap.size w w' := by
  obtain ⟨path, origin, ⟨ba, bc, bl⟩, ⟨sa, sc, sl⟩, ⟨oa, oc, ol⟩⟩ := x
  obtain ⟨-, -, hb, hs, -⟩ := h
  dsimp only at hb hs ⊢
  by_cases h0 : sl.length = 0
  · obtain rfl : sl = [] := List.eq_nil_of_length_eq_zero h0
    exact refChanged_none path origin ba bc bl sa sc oa _ oc w hb
  · have hy : sl[sl.length - 1]? = some sl[sl.length - 1] := List.getElem?_eq_getElem (by omega)
    have e : changedN ⟨path, origin, ⟨ba, bc, bl⟩, ⟨sa, sc, sl⟩, ⟨oa, oc, ol⟩⟩ = missN [sl[sl.length - 1].body] bl := by simp only [changedN, hy]
    rw [e]
    exact refChanged_some path origin ba bc bl sa sc sl oa _ oc (by omega) w hb hs _ hy
end Go.Proofs.Ytbkghiaafkmapaa
