/- The walk of the reference's Unique: it answers what usage.Unique answers. No condition but that what comes in reads as data. -/
import Derived.Test.YtbkghiaafkmapaaUniq2
import Derived.Test.YtbkghiaafkmapaaQuiet
namespace Go.Proofs.Ytbkghiaafkmapaa
open Go.ChangeShapes Go.WideShapes Go.ChangeAt Go.RowKit

theorem hasB_nil (x : BlockD) : hasB [] x = false := rfl
theorem inAny_two (s s' : SliceV BlockD) (x : BlockD) : inAny [s, s'] x = (hasB s.l x || hasB s'.l x) := by simp [inAny]

set_option maxHeartbeats 2000000 in
theorem refUnique_rPN (path origin : ByteArray) (ba : Option Addr) (bc : Nat) (bl : List BlockD) (sa : Option Addr) (sc : Nat) (sl : List SnapD) (oa : Option Addr) (on oc : Nat) (k : Nat) (hk : k < sl.length) (w : World) (hb : IsBlocks w ⟨ba, bc, bl⟩) (hs : IsSnaps w ⟨sa, sc, sl⟩)
    (h0 : 0 < k) (h1 : k + 1 < sl.length) :
    Calls Try.prog 34 #[.agg #[.string path, .string origin, .slice ba bl.length bc, .slice sa sl.length sc, .slice oa on oc], .int .i64 k] w fun e w' => e = .returned (.int .i64 (uniqAt ⟨ba, bc, bl⟩ sl k)) ∧ Below w.heap.size w w' := by
  have hsl := IsSl.len hs
  have hbl := IsSl.len hb
  dsimp only at hsl hbl
  obtain ⟨y, b, off, hy, hya, hbs, -, -, hy2, -, -, hyo⟩ := hs.get hk
  obtain ⟨p, b', off', hp, hpa, -, -, -, hp2, -, -, hpo⟩ := hs.get (show k - 1 < sl.length by omega)
  obtain ⟨rfl, rfl⟩ : b = b' ∧ off = off' := by rw [hya] at hpa; simpa using hpa
  clear hpa
  have ea : aheadOf sl k = p.body := by simp only [aheadOf, hp, if_pos h0]
  have ha : IsBlocks w p.body := hpo.2.2.1
  obtain ⟨q, b'', off'', hq, hqa, -, -, -, hq2, -, -, hqo⟩ := hs.get h1
  obtain ⟨rfl, rfl⟩ : b = b'' ∧ off = off'' := by rw [hya] at hqa; simpa using hqa
  clear hqa
  have eb : behindOf ⟨ba, bc, bl⟩ sl k = q.body := by simp only [behindOf, hq]
  have hbh : IsBlocks w q.body := hqo.2.2.1
  have HF := Lib.hid (show uniqAt ⟨ba, bc, bl⟩ sl k = missN [p.body, q.body] y.body.l by simp only [uniqAt, hy, ea, eb])
  have hyb : IsBlocks w y.body := hyo.2.2.1
  obtain ⟨yn, yg, ⟨ya, yc, yl⟩, yt, yw⟩ := y
  dsimp only at hy2 hyb HF
  have hyl := IsSl.len hyb
  dsimp only at hyl
  subst hya
  have HCa : Hid (∀ (W : World) (z : BlockD), Below w.heap.size w W → Calls Try.prog 59 #[.slice p.body.a p.body.l.length p.body.c, .agg #[.int .i64 z.idx, .string z.data]] W fun e w' => e = .returned (.bool (hasB p.body.l z)) ∧ Below W.heap.size W w') := fun W z hB => refHas_any p.body.a p.body.c p.body.l z W (ha.below hB)
  have HCb : Hid (∀ (W : World) (z : BlockD), Below w.heap.size w W → Calls Try.prog 59 #[.slice q.body.a q.body.l.length q.body.c, .agg #[.int .i64 z.idx, .string z.data]] W fun e w' => e = .returned (.bool (hasB q.body.l z)) ∧ Below W.heap.size W w') := fun W z hB => refHas_any _ _ _ z W (hbh.below hB)
  have hd1 : decide ((k : Int) < 0) = false := decide_eq_false (by omega)
  have hd2 : decide ((sl.length : Int) ≤ (k : Int)) = false := decide_eq_false (by omega)
  have hd2n : decide (sl.length ≤ k) = false := decide_eq_false (by omega)
  have hne : b ≠ w.heap.size := by omega
  have hk0 : 1 ≤ k := h0
  have hk0' : (0 : Int) < (k : Int) := by omega
  have hk1 : ((k : Int) - 1).toNat = k - 1 := by omega
  have hk1' : (0 : Int) ≤ (k : Int) - 1 := by omega
  have hk1i : (1 : Int) ≤ (k : Int) := by omega
  have hk1w : IntKind.i64.wrap ((k : Int) - 1) = (k : Int) - 1 := by rw [i64_wrap]; exact wrap_in (by unfold InR; omega)
  have hk1l : (k : Int) - 1 < (sl.length : Int) := by omega
  have hd4 : decide ((0 : Int) < (k : Int)) = true := decide_eq_true (by omega)
  have hd4n : decide (0 < k) = true := decide_eq_true (by omega)
  have hk2 : ((k : Int) + 1).toNat = k + 1 := by omega
  have hk2w : IntKind.i64.wrap ((k : Int) + 1) = (k : Int) + 1 := by rw [i64_wrap]; exact wrap_in (by unfold InR; omega)
  have hk2' : (0 : Int) ≤ (k : Int) + 1 := by omega
  have hk2l : (k : Int) + 1 < (sl.length : Int) := by omega
  have hd5 : ((k : Int) == (sl.length : Int) - 1) = false := beq_eq_false_iff_ne.2 (by omega)
  clear hy hyo eb ea h0 h1 hs hb ha hbh
  go_enter Try.func34, Try.ntmps34
  go_wp2_with fail
  have HD : Hid (Below w.heap.size w (w.alloc (.cells #[.string path, .string origin, .slice ba bl.length bc, .slice (some ⟨b, off, none⟩) sl.length sc, .slice oa on oc] 38))) := (Below.refl _ _).alloc (Nat.le_refl _) _
  go_loopg [5, 6, 7, 8] yl.length (fun g n i _ _ wr => ∃ (j t : Nat), j + g = yl.length ∧ i = .int .i64 j ∧ n = .int .i64 t ∧ t ≤ j ∧ Aside (t + missN [p.body, q.body] (yl.drop j) = missN [p.body, q.body] yl) ∧ Below w.heap.size w wr ∧
    wr.cell? ⟨w.heap.size, 2, none⟩ = some (.slice ba bl.length bc) ∧ wr.cell? ⟨w.heap.size, 3, none⟩ = some (.slice (some ⟨b, off, none⟩) sl.length sc) ∧ w.heap.size < wr.heap.size)
  case atStart => exact ⟨0, 0, by omega, rfl, rfl, by omega, by show _ = _; simp, HD.out, by go_simp, by go_simp, by simp⟩
  case round =>
    obtain ⟨j, t, hjg, rfl, rfl, htj, HS, hB, hc2, hc3, hz⟩ := hrel
    have HB := Lib.hid hB
    clear hB HD
    have hyc : wr.cell? ⟨b, off + k * 5 + 2, none⟩ = some (.slice ya yl.length yc) := by rw [HB.out.cell (p := ⟨b, off + k * 5 + 2, none⟩) hbs]; exact hy2
    have hpc : wr.cell? ⟨b, off + (k - 1) * 5 + 2, none⟩ = some (.slice p.body.a p.body.l.length p.body.c) := by rw [HB.out.cell (p := ⟨b, off + (k - 1) * 5 + 2, none⟩) hbs]; exact hp2
    have hqc : wr.cell? ⟨b, off + (k + 1) * 5 + 2, none⟩ = some (.slice q.body.a q.body.l.length q.body.c) := by rw [HB.out.cell (p := ⟨b, off + (k + 1) * 5 + 2, none⟩) hbs]; exact hq2
    have hbr : b < wr.heap.size := Nat.lt_of_lt_of_le hbs HB.out.size
    have HAT : Hid (At wr [(w.heap.size, 2, .slice ba bl.length bc), (w.heap.size, 3, .slice (some ⟨b, off, none⟩) sl.length sc), (b, off + k * 5 + 2, .slice ya yl.length yc), (b, off + (k - 1) * 5 + 2, .slice p.body.a p.body.l.length p.body.c), (b, off + (k + 1) * 5 + 2, .slice q.body.a q.body.l.length q.body.c)]) := (At.cons hz hc2 (At.cons hz hc3 (At.cons hbr hyc (At.cons hbr hpc (At.cons hbr hqc (At.nil _))))))
    cases gk with
    | zero =>
      have hlt : ¬ ((j : Int) < (yl.length : Int)) := by omega
      have HFF := Lib.hid (show t = missN [p.body, q.body] yl by have h1 := HS.out; rw [List.drop_of_length_le (by omega)] at h1; simpa [missN] using h1)
      go_wp2_with fail
      go_ret
      exact ⟨ret_int (by rw [HF.out, ← HFF.out]), HB.out⟩
    | succ g =>
      have hlt : (j : Int) < (yl.length : Int) := by omega
      obtain ⟨z, yb, yo, hz', hza, hyb', hz0, hz1, -⟩ := (hyb.below HB.out).get (show j < yl.length by omega)
      have HST := Lib.hid (missN_step (ll := [p.body, q.body]) hz')
      rw [inAny_two] at HST
      subst hza
      clear hz'
      have HN : Hid (Below wr.heap.size wr (wr.alloc (.cells #[.int .i64 z.idx, .string z.data] 94))) := (Below.refl _ _).alloc (Nat.le_refl _) _
      have HB1 := Lib.hid (HB.out.trans (HN.out.mono HB.out.size))
      have HAT1 : Hid (At (wr.alloc (.cells #[.int .i64 z.idx, .string z.data] 94)) ((wr.heap.size, 0, .int .i64 z.idx) :: (wr.heap.size, 1, .string z.data) :: [(w.heap.size, 2, .slice ba bl.length bc), (w.heap.size, 3, .slice (some ⟨b, off, none⟩) sl.length sc), (b, off + k * 5 + 2, .slice (some ⟨yb, yo, none⟩) yl.length yc), (b, off + (k - 1) * 5 + 2, .slice p.body.a p.body.l.length p.body.c), (b, off + (k + 1) * 5 + 2, .slice q.body.a q.body.l.length q.body.c)])) := At.cons (by simp) (by go_simp) (At.cons (by simp) (by go_simp) (HAT.out.later HN.out))
      clear hc2 hc3 hyc hpc hqc
      have hc2 := HAT.out.hd
      have hc3 := HAT.out.tl.hd
      have hyc := HAT.out.tl.tl.hd
      have hpc := HAT.out.tl.tl.tl.hd
      have hqc := HAT.out.tl.tl.tl.tl.hd
      have e0 := HAT1.out.hd
      have e1 := HAT1.out.tl.hd
      have e2 := HAT1.out.tl.tl.hd
      have e3 := HAT1.out.tl.tl.tl.hd
      have e4 := HAT1.out.tl.tl.tl.tl.hd
      have e5 := HAT1.out.tl.tl.tl.tl.tl.hd
      have e6 := HAT1.out.tl.tl.tl.tl.tl.tl.hd
      go_wp2_with fail
      cases hha : hasB p.body.l z
      · have HCA := Lib.hid (fun W hW => HCa.out W z hW)
        rw [hha] at HCA
        have HHA := Lib.hid hha
        clear hha
        refine region_C (by kernel_rfl) (by kernel_rfl) (Cls.start HAT1.out) ?_
        repeat (first | go_big_quiet_skip | (go_big_quiet_want; (first | (apply q_val; (· (rintro w' ⟨hA, -⟩; have c0 := hA.hd; have c1 := hA.tl.hd; have c2 := hA.tl.tl.hd; have c3 := hA.tl.tl.tl.hd; have c4 := hA.tl.tl.tl.tl.hd; have c5 := hA.tl.tl.tl.tl.tl.hd; have c6 := hA.tl.tl.tl.tl.tl.tl.hd; clear hA; go_simp; try rfl))) | (apply q_call 59; (· (rintro w' ⟨hA, -⟩; have c0 := hA.hd; have c1 := hA.tl.hd; have c2 := hA.tl.tl.hd; have c3 := hA.tl.tl.tl.hd; have c4 := hA.tl.tl.tl.tl.hd; have c5 := hA.tl.tl.tl.tl.tl.hd; have c6 := hA.tl.tl.tl.tl.tl.tl.hd; clear hA; go_simp; try rfl)); (· (intro w' hC; exact (HCA.out w' (HB1.out.trans (hC.2.mono HB1.out.size))).mono (fun e w'' h => ⟨h.1, hC.later h.2⟩))))); simp only [Act.put, List.setIfInBounds_toArray, List.set_cons_zero, List.set_cons_succ]; go_big_quiet_on))
        refine wpQuiet_nil ?_
        intro w2 hC2
        have hb2 := hC2.2
        have HBc := Lib.hid (HB1.out.trans (hC2.2.mono HB1.out.size))
        have HATc := Lib.hid hC2.1
        have HNc := Lib.hid (HN.out.trans (hC2.2.mono HN.out.size))
        have hha := HHA.out
        clear hb2 hC2 hc2 hc3 hyc hpc hqc
        have d0 := HATc.out.hd
        have d1 := HATc.out.tl.hd
        have d2 := HATc.out.tl.tl.hd
        have d3 := HATc.out.tl.tl.tl.hd
        have d4 := HATc.out.tl.tl.tl.tl.hd
        have d5 := HATc.out.tl.tl.tl.tl.tl.hd
        have d6 := HATc.out.tl.tl.tl.tl.tl.tl.hd
        cases hhb : hasB q.body.l z
        · have HFX : Hid (Aside ((t + 1) + missN [p.body, q.body] (yl.drop (j + 1)) = missN [p.body, q.body] yl)) := by have h1 := HS.out; have h2 := HST.out; rw [hha, hhb] at h2; simp at h2; show _ = _; omega
          have HCC := Lib.hid (fun W hW => HCb.out W z hW)
          rw [hhb] at HCC
          clear hha hhb
          go_wp2_with fail
          refine region_C (by kernel_rfl) (by kernel_rfl) (Cls.start HATc.out) ?_
          repeat (first | go_big_quiet_skip | (go_big_quiet_want; (first | (apply q_val; (· (rintro w' ⟨hA, -⟩; have c0 := hA.hd; have c1 := hA.tl.hd; have c2 := hA.tl.tl.hd; have c3 := hA.tl.tl.tl.hd; have c4 := hA.tl.tl.tl.tl.hd; have c5 := hA.tl.tl.tl.tl.tl.hd; have c6 := hA.tl.tl.tl.tl.tl.tl.hd; clear hA; go_simp; try rfl))) | (apply q_call 59; (· (rintro w' ⟨hA, -⟩; have c0 := hA.hd; have c1 := hA.tl.hd; have c2 := hA.tl.tl.hd; have c3 := hA.tl.tl.tl.hd; have c4 := hA.tl.tl.tl.tl.hd; have c5 := hA.tl.tl.tl.tl.tl.hd; have c6 := hA.tl.tl.tl.tl.tl.tl.hd; clear hA; go_simp; try rfl)); (· (intro w' hC; exact (HCC.out w' (HBc.out.trans (hC.2.mono HBc.out.size))).mono (fun e w'' h => ⟨h.1, hC.later h.2⟩))))); simp only [Act.put, List.setIfInBounds_toArray, List.set_cons_zero, List.set_cons_succ]; go_big_quiet_on))
          refine wpQuiet_nil ?_
          intro w3 hC3
          have hb3 := hC3.2
          clear hC3
          have HBF := Lib.hid (HBc.out.trans ⟨hb3.os, hb3.tape, hb3.output, hb3.size, fun k hk => hb3.block k (Nat.lt_of_lt_of_le hk HBc.out.size)⟩)
          have HATF := Lib.hid (HATc.out.later hb3)
          have HNF := Lib.hid (HNc.out.trans ⟨hb3.os, hb3.tape, hb3.output, hb3.size, fun k hk => hb3.block k (Nat.lt_of_lt_of_le hk HNc.out.size)⟩)
          clear hb3
          go_wp2_with fail
          go_roundg g
          case measure => omega
          case rel =>
            refine ⟨j + 1, t + 1, by omega, by go_num, by go_num, by omega, HFX.out, HBF.out, (HATF.out.tl.tl).hd, (HATF.out.tl.tl.tl).hd, Nat.lt_of_lt_of_le hz (by have h1 := HNF.out.size; exact h1)⟩
        · have HFX : Hid (Aside (t + missN [p.body, q.body] (yl.drop (j + 1)) = missN [p.body, q.body] yl)) := by have h1 := HS.out; have h2 := HST.out; rw [hha, hhb] at h2; simp at h2; show _ = _; omega
          have HCC := Lib.hid (fun W hW => HCb.out W z hW)
          rw [hhb] at HCC
          clear hha hhb
          go_wp2_with fail
          refine region_C (by kernel_rfl) (by kernel_rfl) (Cls.start HATc.out) ?_
          repeat (first | go_big_quiet_skip | (go_big_quiet_want; (first | (apply q_val; (· (rintro w' ⟨hA, -⟩; have c0 := hA.hd; have c1 := hA.tl.hd; have c2 := hA.tl.tl.hd; have c3 := hA.tl.tl.tl.hd; have c4 := hA.tl.tl.tl.tl.hd; have c5 := hA.tl.tl.tl.tl.tl.hd; have c6 := hA.tl.tl.tl.tl.tl.tl.hd; clear hA; go_simp; try rfl))) | (apply q_call 59; (· (rintro w' ⟨hA, -⟩; have c0 := hA.hd; have c1 := hA.tl.hd; have c2 := hA.tl.tl.hd; have c3 := hA.tl.tl.tl.hd; have c4 := hA.tl.tl.tl.tl.hd; have c5 := hA.tl.tl.tl.tl.tl.hd; have c6 := hA.tl.tl.tl.tl.tl.tl.hd; clear hA; go_simp; try rfl)); (· (intro w' hC; exact (HCC.out w' (HBc.out.trans (hC.2.mono HBc.out.size))).mono (fun e w'' h => ⟨h.1, hC.later h.2⟩))))); simp only [Act.put, List.setIfInBounds_toArray, List.set_cons_zero, List.set_cons_succ]; go_big_quiet_on))
          refine wpQuiet_nil ?_
          intro w3 hC3
          have hb3 := hC3.2
          clear hC3
          have HBF := Lib.hid (HBc.out.trans ⟨hb3.os, hb3.tape, hb3.output, hb3.size, fun k hk => hb3.block k (Nat.lt_of_lt_of_le hk HBc.out.size)⟩)
          have HATF := Lib.hid (HATc.out.later hb3)
          have HNF := Lib.hid (HNc.out.trans ⟨hb3.os, hb3.tape, hb3.output, hb3.size, fun k hk => hb3.block k (Nat.lt_of_lt_of_le hk HNc.out.size)⟩)
          clear hb3
          go_wp2_with fail
          go_roundg g
          case measure => omega
          case rel =>
            refine ⟨j + 1, t, by omega, by go_num, rfl, by omega, HFX.out, HBF.out, (HATF.out.tl.tl).hd, (HATF.out.tl.tl.tl).hd, Nat.lt_of_lt_of_le hz (by have h1 := HNF.out.size; exact h1)⟩
      · have HCA := Lib.hid (fun W hW => HCa.out W z hW)
        rw [hha] at HCA
        have HHA := Lib.hid hha
        clear hha
        refine region_C (by kernel_rfl) (by kernel_rfl) (Cls.start HAT1.out) ?_
        repeat (first | go_big_quiet_skip | (go_big_quiet_want; (first | (apply q_val; (· (rintro w' ⟨hA, -⟩; have c0 := hA.hd; have c1 := hA.tl.hd; have c2 := hA.tl.tl.hd; have c3 := hA.tl.tl.tl.hd; have c4 := hA.tl.tl.tl.tl.hd; have c5 := hA.tl.tl.tl.tl.tl.hd; have c6 := hA.tl.tl.tl.tl.tl.tl.hd; clear hA; go_simp; try rfl))) | (apply q_call 59; (· (rintro w' ⟨hA, -⟩; have c0 := hA.hd; have c1 := hA.tl.hd; have c2 := hA.tl.tl.hd; have c3 := hA.tl.tl.tl.hd; have c4 := hA.tl.tl.tl.tl.hd; have c5 := hA.tl.tl.tl.tl.tl.hd; have c6 := hA.tl.tl.tl.tl.tl.tl.hd; clear hA; go_simp; try rfl)); (· (intro w' hC; exact (HCA.out w' (HB1.out.trans (hC.2.mono HB1.out.size))).mono (fun e w'' h => ⟨h.1, hC.later h.2⟩))))); simp only [Act.put, List.setIfInBounds_toArray, List.set_cons_zero, List.set_cons_succ]; go_big_quiet_on))
        refine wpQuiet_nil ?_
        intro w2 hC2
        have hb2 := hC2.2
        have HBc := Lib.hid (HB1.out.trans (hC2.2.mono HB1.out.size))
        have HATc := Lib.hid hC2.1
        have HNc := Lib.hid (HN.out.trans (hC2.2.mono HN.out.size))
        have hha := HHA.out
        clear hb2 hC2 hc2 hc3 hyc hpc hqc
        have d0 := HATc.out.hd
        have d1 := HATc.out.tl.hd
        have d2 := HATc.out.tl.tl.hd
        have d3 := HATc.out.tl.tl.tl.hd
        have d4 := HATc.out.tl.tl.tl.tl.hd
        have d5 := HATc.out.tl.tl.tl.tl.tl.hd
        have d6 := HATc.out.tl.tl.tl.tl.tl.tl.hd
        have HFX : Hid (Aside (t + missN [p.body, q.body] (yl.drop (j + 1)) = missN [p.body, q.body] yl)) := by have h1 := HS.out; have h2 := HST.out; rw [hha] at h2; simp at h2; show _ = _; omega
        clear hha
        go_wp2_with fail
        refine region_C (by kernel_rfl) (by kernel_rfl) (Cls.start HATc.out) ?_
        repeat (first | go_big_quiet_skip | (go_big_quiet_want; (first | (apply q_val; (· (rintro w' ⟨hA, -⟩; have c0 := hA.hd; have c1 := hA.tl.hd; have c2 := hA.tl.tl.hd; have c3 := hA.tl.tl.tl.hd; have c4 := hA.tl.tl.tl.tl.hd; have c5 := hA.tl.tl.tl.tl.tl.hd; have c6 := hA.tl.tl.tl.tl.tl.tl.hd; clear hA; go_simp; try rfl)))); simp only [Act.put, List.setIfInBounds_toArray, List.set_cons_zero, List.set_cons_succ]; go_big_quiet_on))
        refine wpQuiet_nil ?_
        intro w3 hC3
        have HBF := Lib.hid (HBc.out.trans (hC3.2.mono HBc.out.size))
        have HATF := Lib.hid hC3.1
        have HNF := Lib.hid (HNc.out.trans (hC3.2.mono HNc.out.size))
        clear hC3
        go_wp2_with fail
        go_roundg g
        case measure => omega
        case rel =>
          refine ⟨j + 1, t, by omega, by go_num, rfl, by omega, HFX.out, HBF.out, (HATF.out.tl.tl).hd, (HATF.out.tl.tl.tl).hd, Nat.lt_of_lt_of_le hz (by have h1 := HNF.out.size; exact h1)⟩

set_option maxHeartbeats 2000000 in
theorem refUnique_rPL (path origin : ByteArray) (ba : Option Addr) (bc : Nat) (bl : List BlockD) (sa : Option Addr) (sc : Nat) (sl : List SnapD) (oa : Option Addr) (on oc : Nat) (k : Nat) (hk : k < sl.length) (w : World) (hb : IsBlocks w ⟨ba, bc, bl⟩) (hs : IsSnaps w ⟨sa, sc, sl⟩)
    (h0 : 0 < k) (h1 : ¬ k + 1 < sl.length) :
    Calls Try.prog 34 #[.agg #[.string path, .string origin, .slice ba bl.length bc, .slice sa sl.length sc, .slice oa on oc], .int .i64 k] w fun e w' => e = .returned (.int .i64 (uniqAt ⟨ba, bc, bl⟩ sl k)) ∧ Below w.heap.size w w' := by
  have hsl := IsSl.len hs
  have hbl := IsSl.len hb
  dsimp only at hsl hbl
  obtain ⟨y, b, off, hy, hya, hbs, -, -, hy2, -, -, hyo⟩ := hs.get hk
  obtain ⟨p, b', off', hp, hpa, -, -, -, hp2, -, -, hpo⟩ := hs.get (show k - 1 < sl.length by omega)
  obtain ⟨rfl, rfl⟩ : b = b' ∧ off = off' := by rw [hya] at hpa; simpa using hpa
  clear hpa
  have ea : aheadOf sl k = p.body := by simp only [aheadOf, hp, if_pos h0]
  have ha : IsBlocks w p.body := hpo.2.2.1
  have eb : behindOf ⟨ba, bc, bl⟩ sl k = ⟨ba, bc, bl⟩ := by simp only [behindOf, List.getElem?_eq_none (show sl.length ≤ k + 1 by omega)]
  have hbh : IsBlocks w ⟨ba, bc, bl⟩ := hb
  have HF := Lib.hid (show uniqAt ⟨ba, bc, bl⟩ sl k = missN [p.body, (⟨ba, bc, bl⟩ : SliceV BlockD)] y.body.l by simp only [uniqAt, hy, ea, eb])
  have hyb : IsBlocks w y.body := hyo.2.2.1
  obtain ⟨yn, yg, ⟨ya, yc, yl⟩, yt, yw⟩ := y
  dsimp only at hy2 hyb HF
  have hyl := IsSl.len hyb
  dsimp only at hyl
  subst hya
  have HCa : Hid (∀ (W : World) (z : BlockD), Below w.heap.size w W → Calls Try.prog 59 #[.slice p.body.a p.body.l.length p.body.c, .agg #[.int .i64 z.idx, .string z.data]] W fun e w' => e = .returned (.bool (hasB p.body.l z)) ∧ Below W.heap.size W w') := fun W z hB => refHas_any p.body.a p.body.c p.body.l z W (ha.below hB)
  have HCb : Hid (∀ (W : World) (z : BlockD), Below w.heap.size w W → Calls Try.prog 59 #[.slice ba bl.length bc, .agg #[.int .i64 z.idx, .string z.data]] W fun e w' => e = .returned (.bool (hasB bl z)) ∧ Below W.heap.size W w') := fun W z hB => refHas_any _ _ _ z W (hbh.below hB)
  have hd1 : decide ((k : Int) < 0) = false := decide_eq_false (by omega)
  have hd2 : decide ((sl.length : Int) ≤ (k : Int)) = false := decide_eq_false (by omega)
  have hd2n : decide (sl.length ≤ k) = false := decide_eq_false (by omega)
  have hne : b ≠ w.heap.size := by omega
  have hk0 : 1 ≤ k := h0
  have hk0' : (0 : Int) < (k : Int) := by omega
  have hk1 : ((k : Int) - 1).toNat = k - 1 := by omega
  have hk1' : (0 : Int) ≤ (k : Int) - 1 := by omega
  have hk1i : (1 : Int) ≤ (k : Int) := by omega
  have hk1w : IntKind.i64.wrap ((k : Int) - 1) = (k : Int) - 1 := by rw [i64_wrap]; exact wrap_in (by unfold InR; omega)
  have hk1l : (k : Int) - 1 < (sl.length : Int) := by omega
  have hd4 : decide ((0 : Int) < (k : Int)) = true := decide_eq_true (by omega)
  have hd4n : decide (0 < k) = true := decide_eq_true (by omega)
  have hd5 : ((k : Int) == (sl.length : Int) - 1) = true := beq_iff_eq.2 (by omega)
  clear hy hyo eb ea h0 h1 hs hb ha hbh
  go_enter Try.func34, Try.ntmps34
  go_wp2_with fail
  have HD : Hid (Below w.heap.size w (w.alloc (.cells #[.string path, .string origin, .slice ba bl.length bc, .slice (some ⟨b, off, none⟩) sl.length sc, .slice oa on oc] 38))) := (Below.refl _ _).alloc (Nat.le_refl _) _
  go_loopg [5, 6, 7, 8] yl.length (fun g n i _ _ wr => ∃ (j t : Nat), j + g = yl.length ∧ i = .int .i64 j ∧ n = .int .i64 t ∧ t ≤ j ∧ Aside (t + missN [p.body, (⟨ba, bc, bl⟩ : SliceV BlockD)] (yl.drop j) = missN [p.body, (⟨ba, bc, bl⟩ : SliceV BlockD)] yl) ∧ Below w.heap.size w wr ∧
    wr.cell? ⟨w.heap.size, 2, none⟩ = some (.slice ba bl.length bc) ∧ wr.cell? ⟨w.heap.size, 3, none⟩ = some (.slice (some ⟨b, off, none⟩) sl.length sc) ∧ w.heap.size < wr.heap.size)
  case atStart => exact ⟨0, 0, by omega, rfl, rfl, by omega, by show _ = _; simp, HD.out, by go_simp, by go_simp, by simp⟩
  case round =>
    obtain ⟨j, t, hjg, rfl, rfl, htj, HS, hB, hc2, hc3, hz⟩ := hrel
    have HB := Lib.hid hB
    clear hB HD
    have hyc : wr.cell? ⟨b, off + k * 5 + 2, none⟩ = some (.slice ya yl.length yc) := by rw [HB.out.cell (p := ⟨b, off + k * 5 + 2, none⟩) hbs]; exact hy2
    have hpc : wr.cell? ⟨b, off + (k - 1) * 5 + 2, none⟩ = some (.slice p.body.a p.body.l.length p.body.c) := by rw [HB.out.cell (p := ⟨b, off + (k - 1) * 5 + 2, none⟩) hbs]; exact hp2
    have hbr : b < wr.heap.size := Nat.lt_of_lt_of_le hbs HB.out.size
    have HAT : Hid (At wr [(w.heap.size, 2, .slice ba bl.length bc), (w.heap.size, 3, .slice (some ⟨b, off, none⟩) sl.length sc), (b, off + k * 5 + 2, .slice ya yl.length yc), (b, off + (k - 1) * 5 + 2, .slice p.body.a p.body.l.length p.body.c)]) := (At.cons hz hc2 (At.cons hz hc3 (At.cons hbr hyc (At.cons hbr hpc (At.nil _)))))
    cases gk with
    | zero =>
      have hlt : ¬ ((j : Int) < (yl.length : Int)) := by omega
      have HFF := Lib.hid (show t = missN [p.body, (⟨ba, bc, bl⟩ : SliceV BlockD)] yl by have h1 := HS.out; rw [List.drop_of_length_le (by omega)] at h1; simpa [missN] using h1)
      go_wp2_with fail
      go_ret
      exact ⟨ret_int (by rw [HF.out, ← HFF.out]), HB.out⟩
    | succ g =>
      have hlt : (j : Int) < (yl.length : Int) := by omega
      obtain ⟨z, yb, yo, hz', hza, hyb', hz0, hz1, -⟩ := (hyb.below HB.out).get (show j < yl.length by omega)
      have HST := Lib.hid (missN_step (ll := [p.body, (⟨ba, bc, bl⟩ : SliceV BlockD)]) hz')
      rw [inAny_two] at HST
      subst hza
      clear hz'
      have HN : Hid (Below wr.heap.size wr (wr.alloc (.cells #[.int .i64 z.idx, .string z.data] 94))) := (Below.refl _ _).alloc (Nat.le_refl _) _
      have HB1 := Lib.hid (HB.out.trans (HN.out.mono HB.out.size))
      have HAT1 : Hid (At (wr.alloc (.cells #[.int .i64 z.idx, .string z.data] 94)) ((wr.heap.size, 0, .int .i64 z.idx) :: (wr.heap.size, 1, .string z.data) :: [(w.heap.size, 2, .slice ba bl.length bc), (w.heap.size, 3, .slice (some ⟨b, off, none⟩) sl.length sc), (b, off + k * 5 + 2, .slice (some ⟨yb, yo, none⟩) yl.length yc), (b, off + (k - 1) * 5 + 2, .slice p.body.a p.body.l.length p.body.c)])) := At.cons (by simp) (by go_simp) (At.cons (by simp) (by go_simp) (HAT.out.later HN.out))
      clear hc2 hc3 hyc hpc
      have hc2 := HAT.out.hd
      have hc3 := HAT.out.tl.hd
      have hyc := HAT.out.tl.tl.hd
      have hpc := HAT.out.tl.tl.tl.hd
      have e0 := HAT1.out.hd
      have e1 := HAT1.out.tl.hd
      have e2 := HAT1.out.tl.tl.hd
      have e3 := HAT1.out.tl.tl.tl.hd
      have e4 := HAT1.out.tl.tl.tl.tl.hd
      have e5 := HAT1.out.tl.tl.tl.tl.tl.hd
      go_wp2_with fail
      cases hha : hasB p.body.l z
      · have HCA := Lib.hid (fun W hW => HCa.out W z hW)
        rw [hha] at HCA
        have HHA := Lib.hid hha
        clear hha
        refine region_C (by kernel_rfl) (by kernel_rfl) (Cls.start HAT1.out) ?_
        repeat (first | go_big_quiet_skip | (go_big_quiet_want; (first | (apply q_val; (· (rintro w' ⟨hA, -⟩; have c0 := hA.hd; have c1 := hA.tl.hd; have c2 := hA.tl.tl.hd; have c3 := hA.tl.tl.tl.hd; have c4 := hA.tl.tl.tl.tl.hd; have c5 := hA.tl.tl.tl.tl.tl.hd; clear hA; go_simp; try rfl))) | (apply q_call 59; (· (rintro w' ⟨hA, -⟩; have c0 := hA.hd; have c1 := hA.tl.hd; have c2 := hA.tl.tl.hd; have c3 := hA.tl.tl.tl.hd; have c4 := hA.tl.tl.tl.tl.hd; have c5 := hA.tl.tl.tl.tl.tl.hd; clear hA; go_simp; try rfl)); (· (intro w' hC; exact (HCA.out w' (HB1.out.trans (hC.2.mono HB1.out.size))).mono (fun e w'' h => ⟨h.1, hC.later h.2⟩))))); simp only [Act.put, List.setIfInBounds_toArray, List.set_cons_zero, List.set_cons_succ]; go_big_quiet_on))
        refine wpQuiet_nil ?_
        intro w2 hC2
        have hb2 := hC2.2
        have HBc := Lib.hid (HB1.out.trans (hC2.2.mono HB1.out.size))
        have HATc := Lib.hid hC2.1
        have HNc := Lib.hid (HN.out.trans (hC2.2.mono HN.out.size))
        have hha := HHA.out
        clear hb2 hC2 hc2 hc3 hyc hpc
        have d0 := HATc.out.hd
        have d1 := HATc.out.tl.hd
        have d2 := HATc.out.tl.tl.hd
        have d3 := HATc.out.tl.tl.tl.hd
        have d4 := HATc.out.tl.tl.tl.tl.hd
        have d5 := HATc.out.tl.tl.tl.tl.tl.hd
        cases hhb : hasB bl z
        · have HFX : Hid (Aside ((t + 1) + missN [p.body, (⟨ba, bc, bl⟩ : SliceV BlockD)] (yl.drop (j + 1)) = missN [p.body, (⟨ba, bc, bl⟩ : SliceV BlockD)] yl)) := by have h1 := HS.out; have h2 := HST.out; rw [hha, hhb] at h2; simp at h2; show _ = _; omega
          have HCC := Lib.hid (fun W hW => HCb.out W z hW)
          rw [hhb] at HCC
          clear hha hhb
          go_wp2_with fail
          refine (HCC.out _ HBc.out).mono ?_
          rintro e w3 ⟨rfl, hb3⟩
          have HBF := Lib.hid (HBc.out.trans ⟨hb3.os, hb3.tape, hb3.output, hb3.size, fun k hk => hb3.block k (Nat.lt_of_lt_of_le hk HBc.out.size)⟩)
          have HATF := Lib.hid (HATc.out.later hb3)
          have HNF := Lib.hid (HNc.out.trans ⟨hb3.os, hb3.tape, hb3.output, hb3.size, fun k hk => hb3.block k (Nat.lt_of_lt_of_le hk HNc.out.size)⟩)
          clear hb3
          go_wp2_with fail
          go_roundg g
          case measure => omega
          case rel =>
            refine ⟨j + 1, t + 1, by omega, by go_num, by go_num, by omega, HFX.out, HBF.out, (HATF.out.tl.tl).hd, (HATF.out.tl.tl.tl).hd, Nat.lt_of_lt_of_le hz (by have h1 := HNF.out.size; exact h1)⟩
        · have HFX : Hid (Aside (t + missN [p.body, (⟨ba, bc, bl⟩ : SliceV BlockD)] (yl.drop (j + 1)) = missN [p.body, (⟨ba, bc, bl⟩ : SliceV BlockD)] yl)) := by have h1 := HS.out; have h2 := HST.out; rw [hha, hhb] at h2; simp at h2; show _ = _; omega
          have HCC := Lib.hid (fun W hW => HCb.out W z hW)
          rw [hhb] at HCC
          clear hha hhb
          go_wp2_with fail
          refine (HCC.out _ HBc.out).mono ?_
          rintro e w3 ⟨rfl, hb3⟩
          have HBF := Lib.hid (HBc.out.trans ⟨hb3.os, hb3.tape, hb3.output, hb3.size, fun k hk => hb3.block k (Nat.lt_of_lt_of_le hk HBc.out.size)⟩)
          have HATF := Lib.hid (HATc.out.later hb3)
          have HNF := Lib.hid (HNc.out.trans ⟨hb3.os, hb3.tape, hb3.output, hb3.size, fun k hk => hb3.block k (Nat.lt_of_lt_of_le hk HNc.out.size)⟩)
          clear hb3
          go_wp2_with fail
          go_roundg g
          case measure => omega
          case rel =>
            refine ⟨j + 1, t, by omega, by go_num, rfl, by omega, HFX.out, HBF.out, (HATF.out.tl.tl).hd, (HATF.out.tl.tl.tl).hd, Nat.lt_of_lt_of_le hz (by have h1 := HNF.out.size; exact h1)⟩
      · have HCA := Lib.hid (fun W hW => HCa.out W z hW)
        rw [hha] at HCA
        have HHA := Lib.hid hha
        clear hha
        refine region_C (by kernel_rfl) (by kernel_rfl) (Cls.start HAT1.out) ?_
        repeat (first | go_big_quiet_skip | (go_big_quiet_want; (first | (apply q_val; (· (rintro w' ⟨hA, -⟩; have c0 := hA.hd; have c1 := hA.tl.hd; have c2 := hA.tl.tl.hd; have c3 := hA.tl.tl.tl.hd; have c4 := hA.tl.tl.tl.tl.hd; have c5 := hA.tl.tl.tl.tl.tl.hd; clear hA; go_simp; try rfl))) | (apply q_call 59; (· (rintro w' ⟨hA, -⟩; have c0 := hA.hd; have c1 := hA.tl.hd; have c2 := hA.tl.tl.hd; have c3 := hA.tl.tl.tl.hd; have c4 := hA.tl.tl.tl.tl.hd; have c5 := hA.tl.tl.tl.tl.tl.hd; clear hA; go_simp; try rfl)); (· (intro w' hC; exact (HCA.out w' (HB1.out.trans (hC.2.mono HB1.out.size))).mono (fun e w'' h => ⟨h.1, hC.later h.2⟩))))); simp only [Act.put, List.setIfInBounds_toArray, List.set_cons_zero, List.set_cons_succ]; go_big_quiet_on))
        refine wpQuiet_nil ?_
        intro w2 hC2
        have hb2 := hC2.2
        have HBc := Lib.hid (HB1.out.trans (hC2.2.mono HB1.out.size))
        have HATc := Lib.hid hC2.1
        have HNc := Lib.hid (HN.out.trans (hC2.2.mono HN.out.size))
        have hha := HHA.out
        clear hb2 hC2 hc2 hc3 hyc hpc
        have d0 := HATc.out.hd
        have d1 := HATc.out.tl.hd
        have d2 := HATc.out.tl.tl.hd
        have d3 := HATc.out.tl.tl.tl.hd
        have d4 := HATc.out.tl.tl.tl.tl.hd
        have d5 := HATc.out.tl.tl.tl.tl.tl.hd
        have HFX : Hid (Aside (t + missN [p.body, (⟨ba, bc, bl⟩ : SliceV BlockD)] (yl.drop (j + 1)) = missN [p.body, (⟨ba, bc, bl⟩ : SliceV BlockD)] yl)) := by have h1 := HS.out; have h2 := HST.out; rw [hha] at h2; simp at h2; show _ = _; omega
        clear hha
        go_wp2_with fail
        have HBF := HBc
        have HATF := HATc
        have HNF := HNc
        go_roundg g
        case measure => omega
        case rel =>
          refine ⟨j + 1, t, by omega, by go_num, rfl, by omega, HFX.out, HBF.out, (HATF.out.tl.tl).hd, (HATF.out.tl.tl.tl).hd, Nat.lt_of_lt_of_le hz (by have h1 := HNF.out.size; exact h1)⟩

set_option maxHeartbeats 2000000 in
theorem refUnique_rZN (path origin : ByteArray) (ba : Option Addr) (bc : Nat) (bl : List BlockD) (sa : Option Addr) (sc : Nat) (sl : List SnapD) (oa : Option Addr) (on oc : Nat) (k : Nat) (hk : k < sl.length) (w : World) (hb : IsBlocks w ⟨ba, bc, bl⟩) (hs : IsSnaps w ⟨sa, sc, sl⟩)
    (h0 : k = 0) (h1 : k + 1 < sl.length) :
    Calls Try.prog 34 #[.agg #[.string path, .string origin, .slice ba bl.length bc, .slice sa sl.length sc, .slice oa on oc], .int .i64 k] w fun e w' => e = .returned (.int .i64 (uniqAt ⟨ba, bc, bl⟩ sl k)) ∧ Below w.heap.size w w' := by
  have hsl := IsSl.len hs
  have hbl := IsSl.len hb
  dsimp only at hsl hbl
  obtain ⟨y, b, off, hy, hya, hbs, -, -, hy2, -, -, hyo⟩ := hs.get hk
  have ea : aheadOf sl k = ⟨none, 0, []⟩ := by simp [aheadOf, h0]
  obtain ⟨q, b'', off'', hq, hqa, -, -, -, hq2, -, -, hqo⟩ := hs.get h1
  obtain ⟨rfl, rfl⟩ : b = b'' ∧ off = off'' := by rw [hya] at hqa; simpa using hqa
  clear hqa
  have eb : behindOf ⟨ba, bc, bl⟩ sl k = q.body := by simp only [behindOf, hq]
  have hbh : IsBlocks w q.body := hqo.2.2.1
  have HF := Lib.hid (show uniqAt ⟨ba, bc, bl⟩ sl k = missN [(⟨none, 0, []⟩ : SliceV BlockD), q.body] y.body.l by simp only [uniqAt, hy, ea, eb])
  have hyb : IsBlocks w y.body := hyo.2.2.1
  obtain ⟨yn, yg, ⟨ya, yc, yl⟩, yt, yw⟩ := y
  dsimp only at hy2 hyb HF
  have hyl := IsSl.len hyb
  dsimp only at hyl
  subst hya
  have HCb : Hid (∀ (W : World) (z : BlockD), Below w.heap.size w W → Calls Try.prog 59 #[.slice q.body.a q.body.l.length q.body.c, .agg #[.int .i64 z.idx, .string z.data]] W fun e w' => e = .returned (.bool (hasB q.body.l z)) ∧ Below W.heap.size W w') := fun W z hB => refHas_any _ _ _ z W (hbh.below hB)
  have hd1 : decide ((k : Int) < 0) = false := decide_eq_false (by omega)
  have hd2 : decide ((sl.length : Int) ≤ (k : Int)) = false := decide_eq_false (by omega)
  have hd2n : decide (sl.length ≤ k) = false := decide_eq_false (by omega)
  have hne : b ≠ w.heap.size := by omega
  have hk0 : (k : Int) ≤ 0 := by omega
  have hd4 : decide ((0 : Int) < (k : Int)) = false := decide_eq_false (by omega)
  have hd4' : decide (0 < k) = false := decide_eq_false (by omega)
  have hk2 : ((k : Int) + 1).toNat = k + 1 := by omega
  have hk2w : IntKind.i64.wrap ((k : Int) + 1) = (k : Int) + 1 := by rw [i64_wrap]; exact wrap_in (by unfold InR; omega)
  have hk2' : (0 : Int) ≤ (k : Int) + 1 := by omega
  have hk2l : (k : Int) + 1 < (sl.length : Int) := by omega
  have hd5 : ((k : Int) == (sl.length : Int) - 1) = false := beq_eq_false_iff_ne.2 (by omega)
  clear hy hyo eb ea h0 h1 hs hb hbh
  go_enter Try.func34, Try.ntmps34
  go_wp2_with fail
  have HD : Hid (Below w.heap.size w (w.alloc (.cells #[.string path, .string origin, .slice ba bl.length bc, .slice (some ⟨b, off, none⟩) sl.length sc, .slice oa on oc] 38))) := (Below.refl _ _).alloc (Nat.le_refl _) _
  go_loopg [5, 6, 7, 8] yl.length (fun g n i _ _ wr => ∃ (j t : Nat), j + g = yl.length ∧ i = .int .i64 j ∧ n = .int .i64 t ∧ t ≤ j ∧ Aside (t + missN [(⟨none, 0, []⟩ : SliceV BlockD), q.body] (yl.drop j) = missN [(⟨none, 0, []⟩ : SliceV BlockD), q.body] yl) ∧ Below w.heap.size w wr ∧
    wr.cell? ⟨w.heap.size, 2, none⟩ = some (.slice ba bl.length bc) ∧ wr.cell? ⟨w.heap.size, 3, none⟩ = some (.slice (some ⟨b, off, none⟩) sl.length sc) ∧ w.heap.size < wr.heap.size)
  case atStart => exact ⟨0, 0, by omega, rfl, rfl, by omega, by show _ = _; simp, HD.out, by go_simp, by go_simp, by simp⟩
  case round =>
    obtain ⟨j, t, hjg, rfl, rfl, htj, HS, hB, hc2, hc3, hz⟩ := hrel
    have HB := Lib.hid hB
    clear hB HD
    have hyc : wr.cell? ⟨b, off + k * 5 + 2, none⟩ = some (.slice ya yl.length yc) := by rw [HB.out.cell (p := ⟨b, off + k * 5 + 2, none⟩) hbs]; exact hy2
    have hqc : wr.cell? ⟨b, off + (k + 1) * 5 + 2, none⟩ = some (.slice q.body.a q.body.l.length q.body.c) := by rw [HB.out.cell (p := ⟨b, off + (k + 1) * 5 + 2, none⟩) hbs]; exact hq2
    have hbr : b < wr.heap.size := Nat.lt_of_lt_of_le hbs HB.out.size
    have HAT : Hid (At wr [(w.heap.size, 2, .slice ba bl.length bc), (w.heap.size, 3, .slice (some ⟨b, off, none⟩) sl.length sc), (b, off + k * 5 + 2, .slice ya yl.length yc), (b, off + (k + 1) * 5 + 2, .slice q.body.a q.body.l.length q.body.c)]) := (At.cons hz hc2 (At.cons hz hc3 (At.cons hbr hyc (At.cons hbr hqc (At.nil _)))))
    cases gk with
    | zero =>
      have hlt : ¬ ((j : Int) < (yl.length : Int)) := by omega
      have HFF := Lib.hid (show t = missN [(⟨none, 0, []⟩ : SliceV BlockD), q.body] yl by have h1 := HS.out; rw [List.drop_of_length_le (by omega)] at h1; simpa [missN] using h1)
      go_wp2_with fail
      go_ret
      exact ⟨ret_int (by rw [HF.out, ← HFF.out]), HB.out⟩
    | succ g =>
      have hlt : (j : Int) < (yl.length : Int) := by omega
      obtain ⟨z, yb, yo, hz', hza, hyb', hz0, hz1, -⟩ := (hyb.below HB.out).get (show j < yl.length by omega)
      have HST := Lib.hid (missN_step (ll := [(⟨none, 0, []⟩ : SliceV BlockD), q.body]) hz')
      rw [inAny_two] at HST
      subst hza
      clear hz'
      have HN : Hid (Below wr.heap.size wr (wr.alloc (.cells #[.int .i64 z.idx, .string z.data] 94))) := (Below.refl _ _).alloc (Nat.le_refl _) _
      have HB1 := Lib.hid (HB.out.trans (HN.out.mono HB.out.size))
      have HAT1 : Hid (At (wr.alloc (.cells #[.int .i64 z.idx, .string z.data] 94)) ((wr.heap.size, 0, .int .i64 z.idx) :: (wr.heap.size, 1, .string z.data) :: [(w.heap.size, 2, .slice ba bl.length bc), (w.heap.size, 3, .slice (some ⟨b, off, none⟩) sl.length sc), (b, off + k * 5 + 2, .slice (some ⟨yb, yo, none⟩) yl.length yc), (b, off + (k + 1) * 5 + 2, .slice q.body.a q.body.l.length q.body.c)])) := At.cons (by simp) (by go_simp) (At.cons (by simp) (by go_simp) (HAT.out.later HN.out))
      clear hc2 hc3 hyc hqc
      have hc2 := HAT.out.hd
      have hc3 := HAT.out.tl.hd
      have hyc := HAT.out.tl.tl.hd
      have hqc := HAT.out.tl.tl.tl.hd
      have e0 := HAT1.out.hd
      have e1 := HAT1.out.tl.hd
      have e2 := HAT1.out.tl.tl.hd
      have e3 := HAT1.out.tl.tl.tl.hd
      have e4 := HAT1.out.tl.tl.tl.tl.hd
      have e5 := HAT1.out.tl.tl.tl.tl.tl.hd
      go_wp2_with fail
      refine region_C (by kernel_rfl) (by kernel_rfl) (Cls.start HAT1.out) ?_
      repeat (first | go_big_quiet_skip | (go_big_quiet_want; (first | (apply q_val; (· (rintro w' ⟨hA, -⟩; have c0 := hA.hd; have c1 := hA.tl.hd; have c2 := hA.tl.tl.hd; have c3 := hA.tl.tl.tl.hd; have c4 := hA.tl.tl.tl.tl.hd; have c5 := hA.tl.tl.tl.tl.tl.hd; clear hA; go_simp; try rfl)))); simp only [Act.put, List.setIfInBounds_toArray, List.set_cons_zero, List.set_cons_succ]; go_big_quiet_on))
      refine wpQuiet_nil ?_
      intro w2 hC2
      have HBc := Lib.hid (HB1.out.trans (hC2.2.mono HB1.out.size))
      have HATc := Lib.hid hC2.1
      have HNc := Lib.hid (HN.out.trans (hC2.2.mono HN.out.size))
      clear hC2
      have hha := hasB_nil z
      have d0 := HATc.out.hd
      have d1 := HATc.out.tl.hd
      have d2 := HATc.out.tl.tl.hd
      have d3 := HATc.out.tl.tl.tl.hd
      have d4 := HATc.out.tl.tl.tl.tl.hd
      have d5 := HATc.out.tl.tl.tl.tl.tl.hd
      cases hhb : hasB q.body.l z
      · have HFX : Hid (Aside ((t + 1) + missN [(⟨none, 0, []⟩ : SliceV BlockD), q.body] (yl.drop (j + 1)) = missN [(⟨none, 0, []⟩ : SliceV BlockD), q.body] yl)) := by have h1 := HS.out; have h2 := HST.out; rw [hha, hhb] at h2; simp at h2; show _ = _; omega
        have HCC := Lib.hid (fun W hW => HCb.out W z hW)
        rw [hhb] at HCC
        clear hha hhb
        go_wp2_with fail
        refine region_C (by kernel_rfl) (by kernel_rfl) (Cls.start HATc.out) ?_
        repeat (first | go_big_quiet_skip | (go_big_quiet_want; (first | (apply q_val; (· (rintro w' ⟨hA, -⟩; have c0 := hA.hd; have c1 := hA.tl.hd; have c2 := hA.tl.tl.hd; have c3 := hA.tl.tl.tl.hd; have c4 := hA.tl.tl.tl.tl.hd; have c5 := hA.tl.tl.tl.tl.tl.hd; clear hA; go_simp; try rfl))) | (apply q_call 59; (· (rintro w' ⟨hA, -⟩; have c0 := hA.hd; have c1 := hA.tl.hd; have c2 := hA.tl.tl.hd; have c3 := hA.tl.tl.tl.hd; have c4 := hA.tl.tl.tl.tl.hd; have c5 := hA.tl.tl.tl.tl.tl.hd; clear hA; go_simp; try rfl)); (· (intro w' hC; exact (HCC.out w' (HBc.out.trans (hC.2.mono HBc.out.size))).mono (fun e w'' h => ⟨h.1, hC.later h.2⟩))))); simp only [Act.put, List.setIfInBounds_toArray, List.set_cons_zero, List.set_cons_succ]; go_big_quiet_on))
        refine wpQuiet_nil ?_
        intro w3 hC3
        have hb3 := hC3.2
        clear hC3
        have HBF := Lib.hid (HBc.out.trans ⟨hb3.os, hb3.tape, hb3.output, hb3.size, fun k hk => hb3.block k (Nat.lt_of_lt_of_le hk HBc.out.size)⟩)
        have HATF := Lib.hid (HATc.out.later hb3)
        have HNF := Lib.hid (HNc.out.trans ⟨hb3.os, hb3.tape, hb3.output, hb3.size, fun k hk => hb3.block k (Nat.lt_of_lt_of_le hk HNc.out.size)⟩)
        clear hb3
        go_wp2_with fail
        go_roundg g
        case measure => omega
        case rel =>
          refine ⟨j + 1, t + 1, by omega, by go_num, by go_num, by omega, HFX.out, HBF.out, (HATF.out.tl.tl).hd, (HATF.out.tl.tl.tl).hd, Nat.lt_of_lt_of_le hz (by have h1 := HNF.out.size; exact h1)⟩
      · have HFX : Hid (Aside (t + missN [(⟨none, 0, []⟩ : SliceV BlockD), q.body] (yl.drop (j + 1)) = missN [(⟨none, 0, []⟩ : SliceV BlockD), q.body] yl)) := by have h1 := HS.out; have h2 := HST.out; rw [hha, hhb] at h2; simp at h2; show _ = _; omega
        have HCC := Lib.hid (fun W hW => HCb.out W z hW)
        rw [hhb] at HCC
        clear hha hhb
        go_wp2_with fail
        refine region_C (by kernel_rfl) (by kernel_rfl) (Cls.start HATc.out) ?_
        repeat (first | go_big_quiet_skip | (go_big_quiet_want; (first | (apply q_val; (· (rintro w' ⟨hA, -⟩; have c0 := hA.hd; have c1 := hA.tl.hd; have c2 := hA.tl.tl.hd; have c3 := hA.tl.tl.tl.hd; have c4 := hA.tl.tl.tl.tl.hd; have c5 := hA.tl.tl.tl.tl.tl.hd; clear hA; go_simp; try rfl))) | (apply q_call 59; (· (rintro w' ⟨hA, -⟩; have c0 := hA.hd; have c1 := hA.tl.hd; have c2 := hA.tl.tl.hd; have c3 := hA.tl.tl.tl.hd; have c4 := hA.tl.tl.tl.tl.hd; have c5 := hA.tl.tl.tl.tl.tl.hd; clear hA; go_simp; try rfl)); (· (intro w' hC; exact (HCC.out w' (HBc.out.trans (hC.2.mono HBc.out.size))).mono (fun e w'' h => ⟨h.1, hC.later h.2⟩))))); simp only [Act.put, List.setIfInBounds_toArray, List.set_cons_zero, List.set_cons_succ]; go_big_quiet_on))
        refine wpQuiet_nil ?_
        intro w3 hC3
        have hb3 := hC3.2
        clear hC3
        have HBF := Lib.hid (HBc.out.trans ⟨hb3.os, hb3.tape, hb3.output, hb3.size, fun k hk => hb3.block k (Nat.lt_of_lt_of_le hk HBc.out.size)⟩)
        have HATF := Lib.hid (HATc.out.later hb3)
        have HNF := Lib.hid (HNc.out.trans ⟨hb3.os, hb3.tape, hb3.output, hb3.size, fun k hk => hb3.block k (Nat.lt_of_lt_of_le hk HNc.out.size)⟩)
        clear hb3
        go_wp2_with fail
        go_roundg g
        case measure => omega
        case rel =>
          refine ⟨j + 1, t, by omega, by go_num, rfl, by omega, HFX.out, HBF.out, (HATF.out.tl.tl).hd, (HATF.out.tl.tl.tl).hd, Nat.lt_of_lt_of_le hz (by have h1 := HNF.out.size; exact h1)⟩

set_option maxHeartbeats 2000000 in
theorem refUnique_rZL (path origin : ByteArray) (ba : Option Addr) (bc : Nat) (bl : List BlockD) (sa : Option Addr) (sc : Nat) (sl : List SnapD) (oa : Option Addr) (on oc : Nat) (k : Nat) (hk : k < sl.length) (w : World) (hb : IsBlocks w ⟨ba, bc, bl⟩) (hs : IsSnaps w ⟨sa, sc, sl⟩)
    (h0 : k = 0) (h1 : ¬ k + 1 < sl.length) :
    Calls Try.prog 34 #[.agg #[.string path, .string origin, .slice ba bl.length bc, .slice sa sl.length sc, .slice oa on oc], .int .i64 k] w fun e w' => e = .returned (.int .i64 (uniqAt ⟨ba, bc, bl⟩ sl k)) ∧ Below w.heap.size w w' := by
  have hsl := IsSl.len hs
  have hbl := IsSl.len hb
  dsimp only at hsl hbl
  obtain ⟨y, b, off, hy, hya, hbs, -, -, hy2, -, -, hyo⟩ := hs.get hk
  have ea : aheadOf sl k = ⟨none, 0, []⟩ := by simp [aheadOf, h0]
  have eb : behindOf ⟨ba, bc, bl⟩ sl k = ⟨ba, bc, bl⟩ := by simp only [behindOf, List.getElem?_eq_none (show sl.length ≤ k + 1 by omega)]
  have hbh : IsBlocks w ⟨ba, bc, bl⟩ := hb
  have HF := Lib.hid (show uniqAt ⟨ba, bc, bl⟩ sl k = missN [(⟨none, 0, []⟩ : SliceV BlockD), (⟨ba, bc, bl⟩ : SliceV BlockD)] y.body.l by simp only [uniqAt, hy, ea, eb])
  have hyb : IsBlocks w y.body := hyo.2.2.1
  obtain ⟨yn, yg, ⟨ya, yc, yl⟩, yt, yw⟩ := y
  dsimp only at hy2 hyb HF
  have hyl := IsSl.len hyb
  dsimp only at hyl
  subst hya
  have HCb : Hid (∀ (W : World) (z : BlockD), Below w.heap.size w W → Calls Try.prog 59 #[.slice ba bl.length bc, .agg #[.int .i64 z.idx, .string z.data]] W fun e w' => e = .returned (.bool (hasB bl z)) ∧ Below W.heap.size W w') := fun W z hB => refHas_any _ _ _ z W (hbh.below hB)
  have hd1 : decide ((k : Int) < 0) = false := decide_eq_false (by omega)
  have hd2 : decide ((sl.length : Int) ≤ (k : Int)) = false := decide_eq_false (by omega)
  have hd2n : decide (sl.length ≤ k) = false := decide_eq_false (by omega)
  have hne : b ≠ w.heap.size := by omega
  have hk0 : (k : Int) ≤ 0 := by omega
  have hd4 : decide ((0 : Int) < (k : Int)) = false := decide_eq_false (by omega)
  have hd4' : decide (0 < k) = false := decide_eq_false (by omega)
  have hd5 : ((k : Int) == (sl.length : Int) - 1) = true := beq_iff_eq.2 (by omega)
  clear hy hyo eb ea h0 h1 hs hb hbh
  go_enter Try.func34, Try.ntmps34
  go_wp2_with fail
  have HD : Hid (Below w.heap.size w (w.alloc (.cells #[.string path, .string origin, .slice ba bl.length bc, .slice (some ⟨b, off, none⟩) sl.length sc, .slice oa on oc] 38))) := (Below.refl _ _).alloc (Nat.le_refl _) _
  go_loopg [5, 6, 7, 8] yl.length (fun g n i _ _ wr => ∃ (j t : Nat), j + g = yl.length ∧ i = .int .i64 j ∧ n = .int .i64 t ∧ t ≤ j ∧ Aside (t + missN [(⟨none, 0, []⟩ : SliceV BlockD), (⟨ba, bc, bl⟩ : SliceV BlockD)] (yl.drop j) = missN [(⟨none, 0, []⟩ : SliceV BlockD), (⟨ba, bc, bl⟩ : SliceV BlockD)] yl) ∧ Below w.heap.size w wr ∧
    wr.cell? ⟨w.heap.size, 2, none⟩ = some (.slice ba bl.length bc) ∧ wr.cell? ⟨w.heap.size, 3, none⟩ = some (.slice (some ⟨b, off, none⟩) sl.length sc) ∧ w.heap.size < wr.heap.size)
  case atStart => exact ⟨0, 0, by omega, rfl, rfl, by omega, by show _ = _; simp, HD.out, by go_simp, by go_simp, by simp⟩
  case round =>
    obtain ⟨j, t, hjg, rfl, rfl, htj, HS, hB, hc2, hc3, hz⟩ := hrel
    have HB := Lib.hid hB
    clear hB HD
    have hyc : wr.cell? ⟨b, off + k * 5 + 2, none⟩ = some (.slice ya yl.length yc) := by rw [HB.out.cell (p := ⟨b, off + k * 5 + 2, none⟩) hbs]; exact hy2
    have hbr : b < wr.heap.size := Nat.lt_of_lt_of_le hbs HB.out.size
    have HAT : Hid (At wr [(w.heap.size, 2, .slice ba bl.length bc), (w.heap.size, 3, .slice (some ⟨b, off, none⟩) sl.length sc), (b, off + k * 5 + 2, .slice ya yl.length yc)]) := (At.cons hz hc2 (At.cons hz hc3 (At.cons hbr hyc (At.nil _))))
    cases gk with
    | zero =>
      have hlt : ¬ ((j : Int) < (yl.length : Int)) := by omega
      have HFF := Lib.hid (show t = missN [(⟨none, 0, []⟩ : SliceV BlockD), (⟨ba, bc, bl⟩ : SliceV BlockD)] yl by have h1 := HS.out; rw [List.drop_of_length_le (by omega)] at h1; simpa [missN] using h1)
      go_wp2_with fail
      go_ret
      exact ⟨ret_int (by rw [HF.out, ← HFF.out]), HB.out⟩
    | succ g =>
      have hlt : (j : Int) < (yl.length : Int) := by omega
      obtain ⟨z, yb, yo, hz', hza, hyb', hz0, hz1, -⟩ := (hyb.below HB.out).get (show j < yl.length by omega)
      have HST := Lib.hid (missN_step (ll := [(⟨none, 0, []⟩ : SliceV BlockD), (⟨ba, bc, bl⟩ : SliceV BlockD)]) hz')
      rw [inAny_two] at HST
      subst hza
      clear hz'
      have HN : Hid (Below wr.heap.size wr (wr.alloc (.cells #[.int .i64 z.idx, .string z.data] 94))) := (Below.refl _ _).alloc (Nat.le_refl _) _
      have HB1 := Lib.hid (HB.out.trans (HN.out.mono HB.out.size))
      have HAT1 : Hid (At (wr.alloc (.cells #[.int .i64 z.idx, .string z.data] 94)) ((wr.heap.size, 0, .int .i64 z.idx) :: (wr.heap.size, 1, .string z.data) :: [(w.heap.size, 2, .slice ba bl.length bc), (w.heap.size, 3, .slice (some ⟨b, off, none⟩) sl.length sc), (b, off + k * 5 + 2, .slice (some ⟨yb, yo, none⟩) yl.length yc)])) := At.cons (by simp) (by go_simp) (At.cons (by simp) (by go_simp) (HAT.out.later HN.out))
      clear hc2 hc3 hyc
      have hc2 := HAT.out.hd
      have hc3 := HAT.out.tl.hd
      have hyc := HAT.out.tl.tl.hd
      have e0 := HAT1.out.hd
      have e1 := HAT1.out.tl.hd
      have e2 := HAT1.out.tl.tl.hd
      have e3 := HAT1.out.tl.tl.tl.hd
      have e4 := HAT1.out.tl.tl.tl.tl.hd
      go_wp2_with fail
      refine region_C (by kernel_rfl) (by kernel_rfl) (Cls.start HAT1.out) ?_
      repeat (first | go_big_quiet_skip | (go_big_quiet_want; (first | (apply q_val; (· (rintro w' ⟨hA, -⟩; have c0 := hA.hd; have c1 := hA.tl.hd; have c2 := hA.tl.tl.hd; have c3 := hA.tl.tl.tl.hd; have c4 := hA.tl.tl.tl.tl.hd; clear hA; go_simp; try rfl)))); simp only [Act.put, List.setIfInBounds_toArray, List.set_cons_zero, List.set_cons_succ]; go_big_quiet_on))
      refine wpQuiet_nil ?_
      intro w2 hC2
      have HBc := Lib.hid (HB1.out.trans (hC2.2.mono HB1.out.size))
      have HATc := Lib.hid hC2.1
      have HNc := Lib.hid (HN.out.trans (hC2.2.mono HN.out.size))
      clear hC2
      have hha := hasB_nil z
      have d0 := HATc.out.hd
      have d1 := HATc.out.tl.hd
      have d2 := HATc.out.tl.tl.hd
      have d3 := HATc.out.tl.tl.tl.hd
      have d4 := HATc.out.tl.tl.tl.tl.hd
      cases hhb : hasB bl z
      · have HFX : Hid (Aside ((t + 1) + missN [(⟨none, 0, []⟩ : SliceV BlockD), (⟨ba, bc, bl⟩ : SliceV BlockD)] (yl.drop (j + 1)) = missN [(⟨none, 0, []⟩ : SliceV BlockD), (⟨ba, bc, bl⟩ : SliceV BlockD)] yl)) := by have h1 := HS.out; have h2 := HST.out; rw [hha, hhb] at h2; simp at h2; show _ = _; omega
        have HCC := Lib.hid (fun W hW => HCb.out W z hW)
        rw [hhb] at HCC
        clear hha hhb
        go_wp2_with fail
        refine (HCC.out _ HBc.out).mono ?_
        rintro e w3 ⟨rfl, hb3⟩
        have HBF := Lib.hid (HBc.out.trans ⟨hb3.os, hb3.tape, hb3.output, hb3.size, fun k hk => hb3.block k (Nat.lt_of_lt_of_le hk HBc.out.size)⟩)
        have HATF := Lib.hid (HATc.out.later hb3)
        have HNF := Lib.hid (HNc.out.trans ⟨hb3.os, hb3.tape, hb3.output, hb3.size, fun k hk => hb3.block k (Nat.lt_of_lt_of_le hk HNc.out.size)⟩)
        clear hb3
        go_wp2_with fail
        go_roundg g
        case measure => omega
        case rel =>
          refine ⟨j + 1, t + 1, by omega, by go_num, by go_num, by omega, HFX.out, HBF.out, (HATF.out.tl.tl).hd, (HATF.out.tl.tl.tl).hd, Nat.lt_of_lt_of_le hz (by have h1 := HNF.out.size; exact h1)⟩
      · have HFX : Hid (Aside (t + missN [(⟨none, 0, []⟩ : SliceV BlockD), (⟨ba, bc, bl⟩ : SliceV BlockD)] (yl.drop (j + 1)) = missN [(⟨none, 0, []⟩ : SliceV BlockD), (⟨ba, bc, bl⟩ : SliceV BlockD)] yl)) := by have h1 := HS.out; have h2 := HST.out; rw [hha, hhb] at h2; simp at h2; show _ = _; omega
        have HCC := Lib.hid (fun W hW => HCb.out W z hW)
        rw [hhb] at HCC
        clear hha hhb
        go_wp2_with fail
        refine (HCC.out _ HBc.out).mono ?_
        rintro e w3 ⟨rfl, hb3⟩
        have HBF := Lib.hid (HBc.out.trans ⟨hb3.os, hb3.tape, hb3.output, hb3.size, fun k hk => hb3.block k (Nat.lt_of_lt_of_le hk HBc.out.size)⟩)
        have HATF := Lib.hid (HATc.out.later hb3)
        have HNF := Lib.hid (HNc.out.trans ⟨hb3.os, hb3.tape, hb3.output, hb3.size, fun k hk => hb3.block k (Nat.lt_of_lt_of_le hk HNc.out.size)⟩)
        clear hb3
        go_wp2_with fail
        go_roundg g
        case measure => omega
        case rel =>
          refine ⟨j + 1, t, by omega, by go_num, rfl, by omega, HFX.out, HBF.out, (HATF.out.tl.tl).hd, (HATF.out.tl.tl.tl).hd, Nat.lt_of_lt_of_le hz (by have h1 := HNF.out.size; exact h1)⟩

theorem refUnique_any (x : SetD) (i : Int) (hir : InR i) (w : World) (h : okSet w x) :
    Calls Try.prog 34 #[.agg #[.string x.path, .string x.origin, .slice x.body.a x.body.l.length x.body.c, .slice x.snaps.a x.snaps.l.length x.snaps.c, .slice x.own.a x.own.l.length x.own.c], .int .i64 i] w fun e w' => e = .returned (.int .i64 (uniqueN x i)) ∧ Below w.heap.size w w' := by
  obtain ⟨path, origin, ⟨ba, bc, bl⟩, ⟨sa, sc, sl⟩, ⟨oa, oc, ol⟩⟩ := x
  obtain ⟨-, -, hb, hs, -⟩ := h
  have hsl := IsSl.len hs
  dsimp only at hb hs hsl ⊢
  by_cases h0 : i < 0
  · have HF := Lib.hid (show uniqueN ⟨path, origin, ⟨ba, bc, bl⟩, ⟨sa, sc, sl⟩, ⟨oa, oc, ol⟩⟩ i = 0 by simp [uniqueN, h0])
    have hd : decide (i < 0) = true := decide_eq_true h0
    go_enter Try.func34, Try.ntmps34
    go_wp2_with fail
    go_ret
    exact ⟨ret_int (by rw [HF.out]; rfl), (Below.refl _ _).alloc (Nat.le_refl _) _⟩
  · obtain ⟨k, rfl⟩ := Int.eq_ofNat_of_zero_le (show 0 ≤ i by omega)
    have e : uniqueN ⟨path, origin, ⟨ba, bc, bl⟩, ⟨sa, sc, sl⟩, ⟨oa, oc, ol⟩⟩ (k : Int) = uniqAt ⟨ba, bc, bl⟩ sl k := by simp only [uniqueN, if_neg h0, Int.toNat_natCast]
    rw [e]
    by_cases hk : k < sl.length
    · by_cases h1 : 0 < k <;> by_cases h2 : k + 1 < sl.length
      · exact refUnique_rPN path origin ba bc bl sa sc sl oa _ oc k hk w hb hs h1 h2
      · exact refUnique_rPL path origin ba bc bl sa sc sl oa _ oc k hk w hb hs h1 h2
      · exact refUnique_rZN path origin ba bc bl sa sc sl oa _ oc k hk w hb hs (by omega) h2
      · exact refUnique_rZL path origin ba bc bl sa sc sl oa _ oc k hk w hb hs (by omega) h2
    · have HF := Lib.hid (show uniqAt ⟨ba, bc, bl⟩ sl k = 0 by simp only [uniqAt, List.getElem?_eq_none (show sl.length ≤ k by omega)])
      have hd : decide ((k : Int) < 0) = false := decide_eq_false (by omega)
      have hd2 : decide ((sl.length : Int) ≤ (k : Int)) = true := decide_eq_true (by omega)
      clear e
      go_enter Try.func34, Try.ntmps34
      go_wp2_with fail
      go_ret
      exact ⟨ret_int (by rw [HF.out]; rfl), (Below.refl _ _).alloc (Nat.le_refl _) _⟩

end Go.Proofs.Ytbkghiaafkmapaa
