/- The walk of the reference's snapshots. No condition but that what comes in reads as data. -/
import Derived.Test.YtbkghiaafkmapaaFinds
namespace Go.Proofs.Ytbkghiaafkmapaa
open Go.ChangeShapes Go.WideShapes Go.ChangeAt Go.RowKit

def dupS (l : List SnapD) (x : SnapD) (j : Nat) : Bool := (l.getD j default).name.toList == x.name.toList
def condS (l : List SnapD) (i : Nat) : Bool := (!nameB (l.getD i default).name || (!amountB (l.getD i default).guid 1 || ((decide (0 < i) && decide ((l.getD i default).guid ≤ (l.getD (i - 1) default).guid)) || (!tagsB (l.getD i default).tags.l || (!(blkE (l.getD i default).body.l == 0) || !(propsE (l.getD i default).own.l == 0)))))) || !((List.range i).all (fun q => !dupS l (l.getD i default) q))
def snapsB (l : List SnapD) : Bool := (List.range l.length).all (fun i => !condS l i) && decide (l.length ≤ 16)
set_option maxRecDepth 100000 in
set_option maxHeartbeats 8000000 in
theorem snaps_any (a : Option Addr) (c : Nat) (l : List SnapD) (w : World) (h : IsSnaps w ⟨a, c, l⟩) :
    Calls Try.prog 89 #[.slice a l.length c] w fun e w' => e = .returned (.bool (snapsB l)) ∧ Below w.heap.size w w' := by
  have HT : Hid (snapsB l = ((List.range l.length).all (fun i => !condS l i) && decide (l.length ≤ 16))) := rfl
  have hlen := IsSl.len h
  dsimp only at hlen
  have HL := Lib.hid h
  generalize snapsB l = tb at *
  clear h
  go_enter Try.func89, Try.ntmps89
  go_wp2_with fail
  go_loopw [3, 4, 5] (fun i _ _ wr => ∃ k : Nat, k ≤ l.length ∧ i = .int .i64 k ∧ (List.range k).all (fun i => !condS l i) = true ∧ Below w.heap.size w wr) (fun i _ _ _ => l.length - (intOf i).toNat)
  case atStart => exact ⟨0, Nat.zero_le _, rfl, rfl, Below.refl _ _⟩
  case round =>
    obtain ⟨k, hk, rfl, hd, hb⟩ := hrel
    have HD := Lib.hid hd
    have HBr := Lib.hid hb
    clear hd hb
    by_cases hlt : k < l.length
    · have hl0 : (0 : Int) ≤ (k : Int) := by omega
      have hl1 : (k : Int) < (l.length : Int) := by omega
      obtain ⟨x, b, off, hx, ha, hbw, hx0, hx1, hx2, hx3, hx4, -⟩ := (HL.out.below HBr.out).get hlt
      obtain ⟨x', -, -, hx', -, -, -, -, -, -, -, hxo⟩ := HL.out.get hlt
      obtain rfl : x = x' := by rw [hx] at hx'; exact Option.some.inj hx'
      obtain ⟨y, b', off', hy, ha', -, -, hy1, -, -, -, -⟩ := (HL.out.below HBr.out).get (show k - 1 < l.length by omega)
      obtain ⟨rfl, rfl⟩ : b = b' ∧ off = off' := by rw [ha] at ha'; simpa using ha'
      clear ha' hx'
      have HST := Lib.hid (range_step (fun i => !condS l i) k)
      have HF := Lib.hid (fun h => range_bad (fun i => !condS l i) hlt h)
      have HCD : Hid (condS l k = ((!nameB x.name || (!amountB x.guid 1 || ((decide (0 < k) && decide (x.guid ≤ y.guid)) || (!tagsB x.tags.l || (!(blkE x.body.l == 0) || !(propsE x.own.l == 0)))))) || !((List.range k).all (fun q => !dupS l x q)))) := by show _ = _; simp only [condS, List.getD, hx, hy, Option.getD_some]
      have HN := Lib.hid (fun W (_ : Below w.heap.size w W) => Name_b x.name W hxo.1)
      have HM := Lib.hid (fun W (_ : Below w.heap.size w W) => amount_b x.guid 1 W)
      have HG := Lib.hid (fun W hW => tags_any x.tags.a x.tags.c x.tags.l W (hxo.2.2.2.1.below hW))
      have HK := Lib.hid (fun W hW => Check11_any x.body.a x.body.c x.body.l W (hxo.2.2.1.below hW))
      have HP := Lib.hid (fun W hW => Props_any x.own.a x.own.c x.own.l W (hxo.2.2.2.2.below hW))
      have hbb : Below wr.heap.size wr (wr.alloc (.cells #[.string x.name, .int .i64 x.guid, .slice x.body.a x.body.l.length x.body.c, .slice x.tags.a x.tags.l.length x.tags.c, .slice x.own.a x.own.l.length x.own.c] 42)) := (Below.refl _ _).alloc (Nat.le_refl _) _
      have HB0 := Lib.hid (HBr.out.trans (hbb.mono HBr.out.size))
      have hAy : At wr [(b, off + (k - 1) * 5 + 1, .int .i64 y.guid)] := .cons hbw hy1 (.nil _)
      have HA0 : Hid (At (wr.alloc (.cells #[.string x.name, .int .i64 x.guid, .slice x.body.a x.body.l.length x.body.c, .slice x.tags.a x.tags.l.length x.tags.c, .slice x.own.a x.own.l.length x.own.c] 42)) [(wr.heap.size, 0, .string x.name), (wr.heap.size, 1, .int .i64 x.guid), (wr.heap.size, 2, .slice x.body.a x.body.l.length x.body.c), (wr.heap.size, 3, .slice x.tags.a x.tags.l.length x.tags.c), (wr.heap.size, 4, .slice x.own.a x.own.l.length x.own.c), (b, off + (k - 1) * 5 + 1, .int .i64 y.guid)]) := .cons (by simp) (by go_simp) (.cons (by simp) (by go_simp) (.cons (by simp) (by go_simp) (.cons (by simp) (by go_simp) (.cons (by simp) (by go_simp) (hAy.later hbb)))))
      have gne : wr.heap.size ≠ b := by omega
      subst ha
      clear hx hy hbb hAy hy1 hxo
      generalize hnb : nameB x.name = nb at *
      generalize hna : amountB x.guid 1 = na at *
      generalize hnt : tagsB x.tags.l = nt at *
      generalize hnk : blkE x.body.l = nk at *
      generalize hnp : propsE x.own.l = np at *
      clear hnb hna hnt hnk hnp
      go_wp2_with fail
      clear hx0 hx1 hx2 hx3 hx4
      cases nb
      case false =>
        have HC : Hid (condS l k = true) := by show _ = _; rw [HCD.out]; simp []
        have HC2 : Hid ((fun i => !condS l i) k = false) := by show (!condS l k) = false; rw [HC.out]; rfl
        refine region_C (by kernel_rfl) (by kernel_rfl) (Cls.start HA0.out) ?_
        repeat (first | go_big_quiet_skip | (go_big_quiet_want; (first | (apply q_val; (· (rintro w' ⟨hA, -⟩; have c0 := hA.hd; have c1 := hA.tl.hd; have c2 := hA.tl.tl.hd; have c3 := hA.tl.tl.tl.hd; have c4 := hA.tl.tl.tl.tl.hd; have c5 := hA.tl.tl.tl.tl.tl.hd; clear hA; go_simp; try rfl))) | (apply q_call 76; (· (rintro w' ⟨hA, -⟩; have c0 := hA.hd; have c1 := hA.tl.hd; have c2 := hA.tl.tl.hd; have c3 := hA.tl.tl.tl.hd; have c4 := hA.tl.tl.tl.tl.hd; have c5 := hA.tl.tl.tl.tl.tl.hd; clear hA; go_simp; try rfl)); (· (intro w' hC; exact (HN.out _ (HB0.out.trans (hC.2.mono HB0.out.size))).mono (fun e w'' h => ⟨h.1, hC.later h.2⟩)))) | (apply q_call 77; (· (rintro w' ⟨hA, -⟩; have c0 := hA.hd; have c1 := hA.tl.hd; have c2 := hA.tl.tl.hd; have c3 := hA.tl.tl.tl.hd; have c4 := hA.tl.tl.tl.tl.hd; have c5 := hA.tl.tl.tl.tl.tl.hd; clear hA; go_simp; try rfl)); (· (intro w' hC; exact (HM.out _ (HB0.out.trans (hC.2.mono HB0.out.size))).mono (fun e w'' h => ⟨h.1, hC.later h.2⟩)))) | (apply q_call 93; (· (rintro w' ⟨hA, -⟩; have c0 := hA.hd; have c1 := hA.tl.hd; have c2 := hA.tl.tl.hd; have c3 := hA.tl.tl.tl.hd; have c4 := hA.tl.tl.tl.tl.hd; have c5 := hA.tl.tl.tl.tl.tl.hd; clear hA; go_simp; try rfl)); (· (intro w' hC; exact (HG.out _ (HB0.out.trans (hC.2.mono HB0.out.size))).mono (fun e w'' h => ⟨h.1, hC.later h.2⟩)))) | (apply q_call 88; (· (rintro w' ⟨hA, -⟩; have c0 := hA.hd; have c1 := hA.tl.hd; have c2 := hA.tl.tl.hd; have c3 := hA.tl.tl.tl.hd; have c4 := hA.tl.tl.tl.tl.hd; have c5 := hA.tl.tl.tl.tl.tl.hd; clear hA; go_simp; try rfl)); (· (intro w' hC; exact (HK.out _ (HB0.out.trans (hC.2.mono HB0.out.size))).mono (fun e w'' h => ⟨h.1, hC.later h.2⟩)))) | (apply q_call 68; (· (rintro w' ⟨hA, -⟩; have c0 := hA.hd; have c1 := hA.tl.hd; have c2 := hA.tl.tl.hd; have c3 := hA.tl.tl.tl.hd; have c4 := hA.tl.tl.tl.tl.hd; have c5 := hA.tl.tl.tl.tl.tl.hd; clear hA; go_simp; try rfl)); (· (intro w' hC; exact (HP.out _ (HB0.out.trans (hC.2.mono HB0.out.size))).mono (fun e w'' h => ⟨h.1, hC.later h.2⟩))))); simp only [Act.put, List.setIfInBounds_toArray, List.set_cons_zero, List.set_cons_succ]; go_big_quiet_on))
        refine wpQuiet_nil ?_
        intro w9 hC9
        have HB9 := Lib.hid (HB0.out.trans (hC9.2.mono HB0.out.size))
        clear hC9
        go_wp2_with fail
        go_ret
        exact ⟨ret_bool (by rw [HT.out, HF.out HC2.out]; rfl), HB9.out⟩
      case true =>
        cases na
        case false =>
          have HC : Hid (condS l k = true) := by show _ = _; rw [HCD.out]; simp []
          have HC2 : Hid ((fun i => !condS l i) k = false) := by show (!condS l k) = false; rw [HC.out]; rfl
          refine region_C (by kernel_rfl) (by kernel_rfl) (Cls.start HA0.out) ?_
          repeat (first | go_big_quiet_skip | (go_big_quiet_want; (first | (apply q_val; (· (rintro w' ⟨hA, -⟩; have c0 := hA.hd; have c1 := hA.tl.hd; have c2 := hA.tl.tl.hd; have c3 := hA.tl.tl.tl.hd; have c4 := hA.tl.tl.tl.tl.hd; have c5 := hA.tl.tl.tl.tl.tl.hd; clear hA; go_simp; try rfl))) | (apply q_call 76; (· (rintro w' ⟨hA, -⟩; have c0 := hA.hd; have c1 := hA.tl.hd; have c2 := hA.tl.tl.hd; have c3 := hA.tl.tl.tl.hd; have c4 := hA.tl.tl.tl.tl.hd; have c5 := hA.tl.tl.tl.tl.tl.hd; clear hA; go_simp; try rfl)); (· (intro w' hC; exact (HN.out _ (HB0.out.trans (hC.2.mono HB0.out.size))).mono (fun e w'' h => ⟨h.1, hC.later h.2⟩)))) | (apply q_call 77; (· (rintro w' ⟨hA, -⟩; have c0 := hA.hd; have c1 := hA.tl.hd; have c2 := hA.tl.tl.hd; have c3 := hA.tl.tl.tl.hd; have c4 := hA.tl.tl.tl.tl.hd; have c5 := hA.tl.tl.tl.tl.tl.hd; clear hA; go_simp; try rfl)); (· (intro w' hC; exact (HM.out _ (HB0.out.trans (hC.2.mono HB0.out.size))).mono (fun e w'' h => ⟨h.1, hC.later h.2⟩)))) | (apply q_call 93; (· (rintro w' ⟨hA, -⟩; have c0 := hA.hd; have c1 := hA.tl.hd; have c2 := hA.tl.tl.hd; have c3 := hA.tl.tl.tl.hd; have c4 := hA.tl.tl.tl.tl.hd; have c5 := hA.tl.tl.tl.tl.tl.hd; clear hA; go_simp; try rfl)); (· (intro w' hC; exact (HG.out _ (HB0.out.trans (hC.2.mono HB0.out.size))).mono (fun e w'' h => ⟨h.1, hC.later h.2⟩)))) | (apply q_call 88; (· (rintro w' ⟨hA, -⟩; have c0 := hA.hd; have c1 := hA.tl.hd; have c2 := hA.tl.tl.hd; have c3 := hA.tl.tl.tl.hd; have c4 := hA.tl.tl.tl.tl.hd; have c5 := hA.tl.tl.tl.tl.tl.hd; clear hA; go_simp; try rfl)); (· (intro w' hC; exact (HK.out _ (HB0.out.trans (hC.2.mono HB0.out.size))).mono (fun e w'' h => ⟨h.1, hC.later h.2⟩)))) | (apply q_call 68; (· (rintro w' ⟨hA, -⟩; have c0 := hA.hd; have c1 := hA.tl.hd; have c2 := hA.tl.tl.hd; have c3 := hA.tl.tl.tl.hd; have c4 := hA.tl.tl.tl.tl.hd; have c5 := hA.tl.tl.tl.tl.tl.hd; clear hA; go_simp; try rfl)); (· (intro w' hC; exact (HP.out _ (HB0.out.trans (hC.2.mono HB0.out.size))).mono (fun e w'' h => ⟨h.1, hC.later h.2⟩))))); simp only [Act.put, List.setIfInBounds_toArray, List.set_cons_zero, List.set_cons_succ]; go_big_quiet_on))
          refine wpQuiet_nil ?_
          intro w9 hC9
          have HB9 := Lib.hid (HB0.out.trans (hC9.2.mono HB0.out.size))
          clear hC9
          go_wp2_with fail
          go_ret
          exact ⟨ret_bool (by rw [HT.out, HF.out HC2.out]; rfl), HB9.out⟩
        case true =>
          rcases Nat.eq_zero_or_pos k with hk0 | hk0
          · have h7 : decide ((0 : Int) < (k : Int)) = false := by simp; omega
            have h7n : decide (0 < k) = false := by simp; omega
            clear hk0
            cases nt
            case false =>
              have HC : Hid (condS l k = true) := by show _ = _; rw [HCD.out]; simp [h7n]
              have HC2 : Hid ((fun i => !condS l i) k = false) := by show (!condS l k) = false; rw [HC.out]; rfl
              refine region_C (by kernel_rfl) (by kernel_rfl) (Cls.start HA0.out) ?_
              repeat (first | go_big_quiet_skip | (go_big_quiet_want; (first | (apply q_val; (· (rintro w' ⟨hA, -⟩; have c0 := hA.hd; have c1 := hA.tl.hd; have c2 := hA.tl.tl.hd; have c3 := hA.tl.tl.tl.hd; have c4 := hA.tl.tl.tl.tl.hd; have c5 := hA.tl.tl.tl.tl.tl.hd; clear hA; go_simp; try rfl))) | (apply q_call 76; (· (rintro w' ⟨hA, -⟩; have c0 := hA.hd; have c1 := hA.tl.hd; have c2 := hA.tl.tl.hd; have c3 := hA.tl.tl.tl.hd; have c4 := hA.tl.tl.tl.tl.hd; have c5 := hA.tl.tl.tl.tl.tl.hd; clear hA; go_simp; try rfl)); (· (intro w' hC; exact (HN.out _ (HB0.out.trans (hC.2.mono HB0.out.size))).mono (fun e w'' h => ⟨h.1, hC.later h.2⟩)))) | (apply q_call 77; (· (rintro w' ⟨hA, -⟩; have c0 := hA.hd; have c1 := hA.tl.hd; have c2 := hA.tl.tl.hd; have c3 := hA.tl.tl.tl.hd; have c4 := hA.tl.tl.tl.tl.hd; have c5 := hA.tl.tl.tl.tl.tl.hd; clear hA; go_simp; try rfl)); (· (intro w' hC; exact (HM.out _ (HB0.out.trans (hC.2.mono HB0.out.size))).mono (fun e w'' h => ⟨h.1, hC.later h.2⟩)))) | (apply q_call 93; (· (rintro w' ⟨hA, -⟩; have c0 := hA.hd; have c1 := hA.tl.hd; have c2 := hA.tl.tl.hd; have c3 := hA.tl.tl.tl.hd; have c4 := hA.tl.tl.tl.tl.hd; have c5 := hA.tl.tl.tl.tl.tl.hd; clear hA; go_simp; try rfl)); (· (intro w' hC; exact (HG.out _ (HB0.out.trans (hC.2.mono HB0.out.size))).mono (fun e w'' h => ⟨h.1, hC.later h.2⟩)))) | (apply q_call 88; (· (rintro w' ⟨hA, -⟩; have c0 := hA.hd; have c1 := hA.tl.hd; have c2 := hA.tl.tl.hd; have c3 := hA.tl.tl.tl.hd; have c4 := hA.tl.tl.tl.tl.hd; have c5 := hA.tl.tl.tl.tl.tl.hd; clear hA; go_simp; try rfl)); (· (intro w' hC; exact (HK.out _ (HB0.out.trans (hC.2.mono HB0.out.size))).mono (fun e w'' h => ⟨h.1, hC.later h.2⟩)))) | (apply q_call 68; (· (rintro w' ⟨hA, -⟩; have c0 := hA.hd; have c1 := hA.tl.hd; have c2 := hA.tl.tl.hd; have c3 := hA.tl.tl.tl.hd; have c4 := hA.tl.tl.tl.tl.hd; have c5 := hA.tl.tl.tl.tl.tl.hd; clear hA; go_simp; try rfl)); (· (intro w' hC; exact (HP.out _ (HB0.out.trans (hC.2.mono HB0.out.size))).mono (fun e w'' h => ⟨h.1, hC.later h.2⟩))))); simp only [Act.put, List.setIfInBounds_toArray, List.set_cons_zero, List.set_cons_succ]; go_big_quiet_on))
              refine wpQuiet_nil ?_
              intro w9 hC9
              have HB9 := Lib.hid (HB0.out.trans (hC9.2.mono HB0.out.size))
              clear hC9
              go_wp2_with fail
              go_ret
              exact ⟨ret_bool (by rw [HT.out, HF.out HC2.out]; rfl), HB9.out⟩
            case true =>
              by_cases hk8 : nk = 0
              case neg =>
                have z1 : (nk == 0) = false := by simpa using hk8
                have z2 : (nk != 0) = true := by simpa using hk8
                clear hk8
                have HC : Hid (condS l k = true) := by show _ = _; rw [HCD.out]; simp [h7n, z1]
                have HC2 : Hid ((fun i => !condS l i) k = false) := by show (!condS l k) = false; rw [HC.out]; rfl
                refine region_C (by kernel_rfl) (by kernel_rfl) (Cls.start HA0.out) ?_
                repeat (first | go_big_quiet_skip | (go_big_quiet_want; (first | (apply q_val; (· (rintro w' ⟨hA, -⟩; have c0 := hA.hd; have c1 := hA.tl.hd; have c2 := hA.tl.tl.hd; have c3 := hA.tl.tl.tl.hd; have c4 := hA.tl.tl.tl.tl.hd; have c5 := hA.tl.tl.tl.tl.tl.hd; clear hA; go_simp; try rfl))) | (apply q_call 76; (· (rintro w' ⟨hA, -⟩; have c0 := hA.hd; have c1 := hA.tl.hd; have c2 := hA.tl.tl.hd; have c3 := hA.tl.tl.tl.hd; have c4 := hA.tl.tl.tl.tl.hd; have c5 := hA.tl.tl.tl.tl.tl.hd; clear hA; go_simp; try rfl)); (· (intro w' hC; exact (HN.out _ (HB0.out.trans (hC.2.mono HB0.out.size))).mono (fun e w'' h => ⟨h.1, hC.later h.2⟩)))) | (apply q_call 77; (· (rintro w' ⟨hA, -⟩; have c0 := hA.hd; have c1 := hA.tl.hd; have c2 := hA.tl.tl.hd; have c3 := hA.tl.tl.tl.hd; have c4 := hA.tl.tl.tl.tl.hd; have c5 := hA.tl.tl.tl.tl.tl.hd; clear hA; go_simp; try rfl)); (· (intro w' hC; exact (HM.out _ (HB0.out.trans (hC.2.mono HB0.out.size))).mono (fun e w'' h => ⟨h.1, hC.later h.2⟩)))) | (apply q_call 93; (· (rintro w' ⟨hA, -⟩; have c0 := hA.hd; have c1 := hA.tl.hd; have c2 := hA.tl.tl.hd; have c3 := hA.tl.tl.tl.hd; have c4 := hA.tl.tl.tl.tl.hd; have c5 := hA.tl.tl.tl.tl.tl.hd; clear hA; go_simp; try rfl)); (· (intro w' hC; exact (HG.out _ (HB0.out.trans (hC.2.mono HB0.out.size))).mono (fun e w'' h => ⟨h.1, hC.later h.2⟩)))) | (apply q_call 88; (· (rintro w' ⟨hA, -⟩; have c0 := hA.hd; have c1 := hA.tl.hd; have c2 := hA.tl.tl.hd; have c3 := hA.tl.tl.tl.hd; have c4 := hA.tl.tl.tl.tl.hd; have c5 := hA.tl.tl.tl.tl.tl.hd; clear hA; go_simp; try rfl)); (· (intro w' hC; exact (HK.out _ (HB0.out.trans (hC.2.mono HB0.out.size))).mono (fun e w'' h => ⟨h.1, hC.later h.2⟩)))) | (apply q_call 68; (· (rintro w' ⟨hA, -⟩; have c0 := hA.hd; have c1 := hA.tl.hd; have c2 := hA.tl.tl.hd; have c3 := hA.tl.tl.tl.hd; have c4 := hA.tl.tl.tl.tl.hd; have c5 := hA.tl.tl.tl.tl.tl.hd; clear hA; go_simp; try rfl)); (· (intro w' hC; exact (HP.out _ (HB0.out.trans (hC.2.mono HB0.out.size))).mono (fun e w'' h => ⟨h.1, hC.later h.2⟩))))); simp only [Act.put, List.setIfInBounds_toArray, List.set_cons_zero, List.set_cons_succ]; go_big_quiet_on))
                refine wpQuiet_nil ?_
                intro w9 hC9
                have HB9 := Lib.hid (HB0.out.trans (hC9.2.mono HB0.out.size))
                clear hC9
                go_wp2_with fail
                go_ret
                exact ⟨ret_bool (by rw [HT.out, HF.out HC2.out]; rfl), HB9.out⟩
              case pos =>
                subst hk8
                by_cases hp8 : np = 0
                case neg =>
                  have z1 : (np == 0) = false := by simpa using hp8
                  have z2 : (np != 0) = true := by simpa using hp8
                  clear hp8
                  have HC : Hid (condS l k = true) := by show _ = _; rw [HCD.out]; simp [h7n, z1]
                  have HC2 : Hid ((fun i => !condS l i) k = false) := by show (!condS l k) = false; rw [HC.out]; rfl
                  refine region_C (by kernel_rfl) (by kernel_rfl) (Cls.start HA0.out) ?_
                  repeat (first | go_big_quiet_skip | (go_big_quiet_want; (first | (apply q_val; (· (rintro w' ⟨hA, -⟩; have c0 := hA.hd; have c1 := hA.tl.hd; have c2 := hA.tl.tl.hd; have c3 := hA.tl.tl.tl.hd; have c4 := hA.tl.tl.tl.tl.hd; have c5 := hA.tl.tl.tl.tl.tl.hd; clear hA; go_simp; try rfl))) | (apply q_call 76; (· (rintro w' ⟨hA, -⟩; have c0 := hA.hd; have c1 := hA.tl.hd; have c2 := hA.tl.tl.hd; have c3 := hA.tl.tl.tl.hd; have c4 := hA.tl.tl.tl.tl.hd; have c5 := hA.tl.tl.tl.tl.tl.hd; clear hA; go_simp; try rfl)); (· (intro w' hC; exact (HN.out _ (HB0.out.trans (hC.2.mono HB0.out.size))).mono (fun e w'' h => ⟨h.1, hC.later h.2⟩)))) | (apply q_call 77; (· (rintro w' ⟨hA, -⟩; have c0 := hA.hd; have c1 := hA.tl.hd; have c2 := hA.tl.tl.hd; have c3 := hA.tl.tl.tl.hd; have c4 := hA.tl.tl.tl.tl.hd; have c5 := hA.tl.tl.tl.tl.tl.hd; clear hA; go_simp; try rfl)); (· (intro w' hC; exact (HM.out _ (HB0.out.trans (hC.2.mono HB0.out.size))).mono (fun e w'' h => ⟨h.1, hC.later h.2⟩)))) | (apply q_call 93; (· (rintro w' ⟨hA, -⟩; have c0 := hA.hd; have c1 := hA.tl.hd; have c2 := hA.tl.tl.hd; have c3 := hA.tl.tl.tl.hd; have c4 := hA.tl.tl.tl.tl.hd; have c5 := hA.tl.tl.tl.tl.tl.hd; clear hA; go_simp; try rfl)); (· (intro w' hC; exact (HG.out _ (HB0.out.trans (hC.2.mono HB0.out.size))).mono (fun e w'' h => ⟨h.1, hC.later h.2⟩)))) | (apply q_call 88; (· (rintro w' ⟨hA, -⟩; have c0 := hA.hd; have c1 := hA.tl.hd; have c2 := hA.tl.tl.hd; have c3 := hA.tl.tl.tl.hd; have c4 := hA.tl.tl.tl.tl.hd; have c5 := hA.tl.tl.tl.tl.tl.hd; clear hA; go_simp; try rfl)); (· (intro w' hC; exact (HK.out _ (HB0.out.trans (hC.2.mono HB0.out.size))).mono (fun e w'' h => ⟨h.1, hC.later h.2⟩)))) | (apply q_call 68; (· (rintro w' ⟨hA, -⟩; have c0 := hA.hd; have c1 := hA.tl.hd; have c2 := hA.tl.tl.hd; have c3 := hA.tl.tl.tl.hd; have c4 := hA.tl.tl.tl.tl.hd; have c5 := hA.tl.tl.tl.tl.tl.hd; clear hA; go_simp; try rfl)); (· (intro w' hC; exact (HP.out _ (HB0.out.trans (hC.2.mono HB0.out.size))).mono (fun e w'' h => ⟨h.1, hC.later h.2⟩))))); simp only [Act.put, List.setIfInBounds_toArray, List.set_cons_zero, List.set_cons_succ]; go_big_quiet_on))
                  refine wpQuiet_nil ?_
                  intro w9 hC9
                  have HB9 := Lib.hid (HB0.out.trans (hC9.2.mono HB0.out.size))
                  clear hC9
                  go_wp2_with fail
                  go_ret
                  exact ⟨ret_bool (by rw [HT.out, HF.out HC2.out]; rfl), HB9.out⟩
                case pos =>
                  subst hp8
                  have HC : Hid (condS l k = !((List.range k).all (fun q => !dupS l x q))) := by show _ = _; rw [HCD.out]; simp [h7n]
                  refine region_C (by kernel_rfl) (by kernel_rfl) (Cls.start HA0.out) ?_
                  repeat (first | go_big_quiet_skip | (go_big_quiet_want; (first | (apply q_val; (· (rintro w' ⟨hA, -⟩; have c0 := hA.hd; have c1 := hA.tl.hd; have c2 := hA.tl.tl.hd; have c3 := hA.tl.tl.tl.hd; have c4 := hA.tl.tl.tl.tl.hd; have c5 := hA.tl.tl.tl.tl.tl.hd; clear hA; go_simp; try rfl))) | (apply q_call 76; (· (rintro w' ⟨hA, -⟩; have c0 := hA.hd; have c1 := hA.tl.hd; have c2 := hA.tl.tl.hd; have c3 := hA.tl.tl.tl.hd; have c4 := hA.tl.tl.tl.tl.hd; have c5 := hA.tl.tl.tl.tl.tl.hd; clear hA; go_simp; try rfl)); (· (intro w' hC; exact (HN.out _ (HB0.out.trans (hC.2.mono HB0.out.size))).mono (fun e w'' h => ⟨h.1, hC.later h.2⟩)))) | (apply q_call 77; (· (rintro w' ⟨hA, -⟩; have c0 := hA.hd; have c1 := hA.tl.hd; have c2 := hA.tl.tl.hd; have c3 := hA.tl.tl.tl.hd; have c4 := hA.tl.tl.tl.tl.hd; have c5 := hA.tl.tl.tl.tl.tl.hd; clear hA; go_simp; try rfl)); (· (intro w' hC; exact (HM.out _ (HB0.out.trans (hC.2.mono HB0.out.size))).mono (fun e w'' h => ⟨h.1, hC.later h.2⟩)))) | (apply q_call 93; (· (rintro w' ⟨hA, -⟩; have c0 := hA.hd; have c1 := hA.tl.hd; have c2 := hA.tl.tl.hd; have c3 := hA.tl.tl.tl.hd; have c4 := hA.tl.tl.tl.tl.hd; have c5 := hA.tl.tl.tl.tl.tl.hd; clear hA; go_simp; try rfl)); (· (intro w' hC; exact (HG.out _ (HB0.out.trans (hC.2.mono HB0.out.size))).mono (fun e w'' h => ⟨h.1, hC.later h.2⟩)))) | (apply q_call 88; (· (rintro w' ⟨hA, -⟩; have c0 := hA.hd; have c1 := hA.tl.hd; have c2 := hA.tl.tl.hd; have c3 := hA.tl.tl.tl.hd; have c4 := hA.tl.tl.tl.tl.hd; have c5 := hA.tl.tl.tl.tl.tl.hd; clear hA; go_simp; try rfl)); (· (intro w' hC; exact (HK.out _ (HB0.out.trans (hC.2.mono HB0.out.size))).mono (fun e w'' h => ⟨h.1, hC.later h.2⟩)))) | (apply q_call 68; (· (rintro w' ⟨hA, -⟩; have c0 := hA.hd; have c1 := hA.tl.hd; have c2 := hA.tl.tl.hd; have c3 := hA.tl.tl.tl.hd; have c4 := hA.tl.tl.tl.tl.hd; have c5 := hA.tl.tl.tl.tl.tl.hd; clear hA; go_simp; try rfl)); (· (intro w' hC; exact (HP.out _ (HB0.out.trans (hC.2.mono HB0.out.size))).mono (fun e w'' h => ⟨h.1, hC.later h.2⟩))))); simp only [Act.put, List.setIfInBounds_toArray, List.set_cons_zero, List.set_cons_succ]; go_big_quiet_on))
                  refine wpQuiet_nil ?_
                  intro w9 hC9
                  have HB9 := Lib.hid (HB0.out.trans (hC9.2.mono HB0.out.size))
                  have HX9 : Hid (At w9 [(wr.heap.size, 0, .string x.name)]) := .cons (hC9.1 _ _ _ (List.mem_cons_self ..)).1 hC9.1.hd (.nil _)
                  clear hC9 HA0
                  go_wp2_with fail
                  generalize wr.heap.size = n0 at *
                  go_loopw [5] (fun i wr2 => ∃ j : Nat, j ≤ k ∧ i = .int .i64 j ∧ (List.range j).all (fun q => !dupS l x q) = true ∧ Below w.heap.size w wr2 ∧ At wr2 [(n0, 0, .string x.name)]) (fun i _ => k - (intOf i).toNat)
                  case atStart => exact ⟨0, Nat.zero_le _, rfl, rfl, HB9.out, HX9.out⟩
                  case round =>
                    obtain ⟨j, hj, rfl, hdj, hbj, hxj⟩ := hrel
                    have HDJ := Lib.hid hdj
                    have HBJ := Lib.hid hbj
                    have HXJ := Lib.hid hxj
                    clear hdj hbj hxj
                    by_cases hjk : j < k
                    · have hj0 : (0 : Int) ≤ (j : Int) := by omega
                      have hj1 : (j : Int) < (k : Int) := by omega
                      have hj2 : (j : Int) < (l.length : Int) := by omega
                      obtain ⟨z, b2, off2, hz, hza, hbz, hz0, -, -, -, -, -⟩ := (HL.out.below HBJ.out).get (show j < l.length by omega)
                      obtain ⟨rfl, rfl⟩ : b = b2 ∧ off = off2 := by simpa using hza
                      clear hza
                      have HAJ : Hid (At wr [(n0, 0, .string x.name), (b, off + j * 5, .string z.name)]) := .cons (HXJ.out _ _ _ (List.mem_cons_self ..)).1 HXJ.out.hd (.cons hbz hz0 (.nil _))
                      have HDU : Hid (dupS l x j = (z.name.toList == x.name.toList)) := by show _ = _; simp [dupS, List.getD, hz]
                      have HSJ := Lib.hid (range_step (fun q => !dupS l x q) j)
                      have HFJ := Lib.hid (fun h => range_bad (fun q => !dupS l x q) hjk h)
                      clear hz hz0
                      cases he : (z.name.toList == x.name.toList)
                      case false =>
                        have HD2 : Hid (dupS l x j = false) := by show _ = _; rw [HDU.out]; exact he
                        go_wp2_with fail
                        refine region_C (by kernel_rfl) (by kernel_rfl) (Cls.start HAJ.out) ?_
                        repeat (first | go_big_quiet_skip | (go_big_quiet_want; (first | (apply q_val; (· (rintro w' ⟨hA, -⟩; have c0 := hA.hd; have c1 := hA.tl.hd; clear hA; go_simp; try rfl)))); simp only [Act.put, List.setIfInBounds_toArray, List.set_cons_zero, List.set_cons_succ]; go_big_quiet_on))
                        refine wpQuiet_nil ?_
                        intro w10 hC10
                        have HB10 := Lib.hid (HBJ.out.trans (hC10.2.mono HBJ.out.size))
                        have HX10 : Hid (At w10 [(n0, 0, .string x.name)]) := .cons (hC10.1 _ _ _ (List.mem_cons_self ..)).1 hC10.1.hd (.nil _)
                        clear hC10
                        go_wp2_with fail
                        go_roundw
                        case rel => exact ⟨j + 1, by omega, by go_num, by rw [HSJ.out, HDJ.out, HD2.out]; rfl, HB10.out, HX10.out⟩
                        case measure => simp [intOf]; omega
                      case true =>
                        have he2 : z.name.toList = x.name.toList := by simpa using he
                        have HD2 : Hid ((fun q => !dupS l x q) j = false) := by show (!dupS l x j) = false; rw [HDU.out, he]; rfl
                        have HC2 : Hid ((fun i => !condS l i) k = false) := by show (!condS l k) = false; rw [HC.out, HFJ.out HD2.out]; rfl
                        clear he2
                        go_wp2_with fail
                        refine region_C (by kernel_rfl) (by kernel_rfl) (Cls.start HAJ.out) ?_
                        repeat (first | go_big_quiet_skip | (go_big_quiet_want; (first | (apply q_val; (· (rintro w' ⟨hA, -⟩; have c0 := hA.hd; have c1 := hA.tl.hd; clear hA; go_simp; try rfl)))); simp only [Act.put, List.setIfInBounds_toArray, List.set_cons_zero, List.set_cons_succ]; go_big_quiet_on))
                        refine wpQuiet_nil ?_
                        intro w10 hC10
                        have HB10 := Lib.hid (HBJ.out.trans (hC10.2.mono HBJ.out.size))
                        clear hC10
                        go_wp2_with fail
                        go_ret
                        exact ⟨ret_bool (by rw [HT.out, HF.out HC2.out]; rfl), HB10.out⟩
                    · have HC2 : Hid (condS l k = false) := by
                        show _ = _
                        obtain rfl : j = k := by omega
                        rw [HC.out, HDJ.out]; rfl
                      go_wp2_with fail
                      go_roundw
                      case rel => exact ⟨k + 1, by omega, by go_num, by rw [HST.out, HD.out, HC2.out]; rfl, HBJ.out⟩
                      case measure => simp [intOf]; omega
          · have h7 : decide ((0 : Int) < (k : Int)) = true := by simp; omega
            have h8 : ((k : Int) - 1).toNat = k - 1 := by omega
            have h9 : (1 : Int) ≤ (k : Int) := by omega
            have h10 : 1 ≤ k := by omega
            have h11 : IntKind.i64.wrap ((k : Int) - 1) = (k : Int) - 1 := by rw [i64_wrap]; exact wrap_in (by unfold InR; omega)
            have h12 : (0 : Int) ≤ (k : Int) - 1 := by omega
            have h13 : (k : Int) - 1 < (l.length : Int) := by omega
            cases d1 : decide (x.guid ≤ y.guid)
            case true =>
              have HC : Hid (condS l k = true) := by show _ = _; rw [HCD.out]; simp [hk0, d1]
              have HC2 : Hid ((fun i => !condS l i) k = false) := by show (!condS l k) = false; rw [HC.out]; rfl
              refine region_C (by kernel_rfl) (by kernel_rfl) (Cls.start HA0.out) ?_
              repeat (first | go_big_quiet_skip | (go_big_quiet_want; (first | (apply q_val; (· (rintro w' ⟨hA, -⟩; have c0 := hA.hd; have c1 := hA.tl.hd; have c2 := hA.tl.tl.hd; have c3 := hA.tl.tl.tl.hd; have c4 := hA.tl.tl.tl.tl.hd; have c5 := hA.tl.tl.tl.tl.tl.hd; clear hA; go_simp; try rfl))) | (apply q_call 76; (· (rintro w' ⟨hA, -⟩; have c0 := hA.hd; have c1 := hA.tl.hd; have c2 := hA.tl.tl.hd; have c3 := hA.tl.tl.tl.hd; have c4 := hA.tl.tl.tl.tl.hd; have c5 := hA.tl.tl.tl.tl.tl.hd; clear hA; go_simp; try rfl)); (· (intro w' hC; exact (HN.out _ (HB0.out.trans (hC.2.mono HB0.out.size))).mono (fun e w'' h => ⟨h.1, hC.later h.2⟩)))) | (apply q_call 77; (· (rintro w' ⟨hA, -⟩; have c0 := hA.hd; have c1 := hA.tl.hd; have c2 := hA.tl.tl.hd; have c3 := hA.tl.tl.tl.hd; have c4 := hA.tl.tl.tl.tl.hd; have c5 := hA.tl.tl.tl.tl.tl.hd; clear hA; go_simp; try rfl)); (· (intro w' hC; exact (HM.out _ (HB0.out.trans (hC.2.mono HB0.out.size))).mono (fun e w'' h => ⟨h.1, hC.later h.2⟩)))) | (apply q_call 93; (· (rintro w' ⟨hA, -⟩; have c0 := hA.hd; have c1 := hA.tl.hd; have c2 := hA.tl.tl.hd; have c3 := hA.tl.tl.tl.hd; have c4 := hA.tl.tl.tl.tl.hd; have c5 := hA.tl.tl.tl.tl.tl.hd; clear hA; go_simp; try rfl)); (· (intro w' hC; exact (HG.out _ (HB0.out.trans (hC.2.mono HB0.out.size))).mono (fun e w'' h => ⟨h.1, hC.later h.2⟩)))) | (apply q_call 88; (· (rintro w' ⟨hA, -⟩; have c0 := hA.hd; have c1 := hA.tl.hd; have c2 := hA.tl.tl.hd; have c3 := hA.tl.tl.tl.hd; have c4 := hA.tl.tl.tl.tl.hd; have c5 := hA.tl.tl.tl.tl.tl.hd; clear hA; go_simp; try rfl)); (· (intro w' hC; exact (HK.out _ (HB0.out.trans (hC.2.mono HB0.out.size))).mono (fun e w'' h => ⟨h.1, hC.later h.2⟩)))) | (apply q_call 68; (· (rintro w' ⟨hA, -⟩; have c0 := hA.hd; have c1 := hA.tl.hd; have c2 := hA.tl.tl.hd; have c3 := hA.tl.tl.tl.hd; have c4 := hA.tl.tl.tl.tl.hd; have c5 := hA.tl.tl.tl.tl.tl.hd; clear hA; go_simp; try rfl)); (· (intro w' hC; exact (HP.out _ (HB0.out.trans (hC.2.mono HB0.out.size))).mono (fun e w'' h => ⟨h.1, hC.later h.2⟩))))); simp only [Act.put, List.setIfInBounds_toArray, List.set_cons_zero, List.set_cons_succ]; go_big_quiet_on))
              refine wpQuiet_nil ?_
              intro w9 hC9
              have HB9 := Lib.hid (HB0.out.trans (hC9.2.mono HB0.out.size))
              clear hC9
              go_wp2_with fail
              go_ret
              exact ⟨ret_bool (by rw [HT.out, HF.out HC2.out]; rfl), HB9.out⟩
            case false =>
              cases nt
              case false =>
                have HC : Hid (condS l k = true) := by show _ = _; rw [HCD.out]; simp [hk0, d1]
                have HC2 : Hid ((fun i => !condS l i) k = false) := by show (!condS l k) = false; rw [HC.out]; rfl
                refine region_C (by kernel_rfl) (by kernel_rfl) (Cls.start HA0.out) ?_
                repeat (first | go_big_quiet_skip | (go_big_quiet_want; (first | (apply q_val; (· (rintro w' ⟨hA, -⟩; have c0 := hA.hd; have c1 := hA.tl.hd; have c2 := hA.tl.tl.hd; have c3 := hA.tl.tl.tl.hd; have c4 := hA.tl.tl.tl.tl.hd; have c5 := hA.tl.tl.tl.tl.tl.hd; clear hA; go_simp; try rfl))) | (apply q_call 76; (· (rintro w' ⟨hA, -⟩; have c0 := hA.hd; have c1 := hA.tl.hd; have c2 := hA.tl.tl.hd; have c3 := hA.tl.tl.tl.hd; have c4 := hA.tl.tl.tl.tl.hd; have c5 := hA.tl.tl.tl.tl.tl.hd; clear hA; go_simp; try rfl)); (· (intro w' hC; exact (HN.out _ (HB0.out.trans (hC.2.mono HB0.out.size))).mono (fun e w'' h => ⟨h.1, hC.later h.2⟩)))) | (apply q_call 77; (· (rintro w' ⟨hA, -⟩; have c0 := hA.hd; have c1 := hA.tl.hd; have c2 := hA.tl.tl.hd; have c3 := hA.tl.tl.tl.hd; have c4 := hA.tl.tl.tl.tl.hd; have c5 := hA.tl.tl.tl.tl.tl.hd; clear hA; go_simp; try rfl)); (· (intro w' hC; exact (HM.out _ (HB0.out.trans (hC.2.mono HB0.out.size))).mono (fun e w'' h => ⟨h.1, hC.later h.2⟩)))) | (apply q_call 93; (· (rintro w' ⟨hA, -⟩; have c0 := hA.hd; have c1 := hA.tl.hd; have c2 := hA.tl.tl.hd; have c3 := hA.tl.tl.tl.hd; have c4 := hA.tl.tl.tl.tl.hd; have c5 := hA.tl.tl.tl.tl.tl.hd; clear hA; go_simp; try rfl)); (· (intro w' hC; exact (HG.out _ (HB0.out.trans (hC.2.mono HB0.out.size))).mono (fun e w'' h => ⟨h.1, hC.later h.2⟩)))) | (apply q_call 88; (· (rintro w' ⟨hA, -⟩; have c0 := hA.hd; have c1 := hA.tl.hd; have c2 := hA.tl.tl.hd; have c3 := hA.tl.tl.tl.hd; have c4 := hA.tl.tl.tl.tl.hd; have c5 := hA.tl.tl.tl.tl.tl.hd; clear hA; go_simp; try rfl)); (· (intro w' hC; exact (HK.out _ (HB0.out.trans (hC.2.mono HB0.out.size))).mono (fun e w'' h => ⟨h.1, hC.later h.2⟩)))) | (apply q_call 68; (· (rintro w' ⟨hA, -⟩; have c0 := hA.hd; have c1 := hA.tl.hd; have c2 := hA.tl.tl.hd; have c3 := hA.tl.tl.tl.hd; have c4 := hA.tl.tl.tl.tl.hd; have c5 := hA.tl.tl.tl.tl.tl.hd; clear hA; go_simp; try rfl)); (· (intro w' hC; exact (HP.out _ (HB0.out.trans (hC.2.mono HB0.out.size))).mono (fun e w'' h => ⟨h.1, hC.later h.2⟩))))); simp only [Act.put, List.setIfInBounds_toArray, List.set_cons_zero, List.set_cons_succ]; go_big_quiet_on))
                refine wpQuiet_nil ?_
                intro w9 hC9
                have HB9 := Lib.hid (HB0.out.trans (hC9.2.mono HB0.out.size))
                clear hC9
                go_wp2_with fail
                go_ret
                exact ⟨ret_bool (by rw [HT.out, HF.out HC2.out]; rfl), HB9.out⟩
              case true =>
                by_cases hk8 : nk = 0
                case neg =>
                  have z1 : (nk == 0) = false := by simpa using hk8
                  have z2 : (nk != 0) = true := by simpa using hk8
                  clear hk8
                  have HC : Hid (condS l k = true) := by show _ = _; rw [HCD.out]; simp [hk0, d1, z1]
                  have HC2 : Hid ((fun i => !condS l i) k = false) := by show (!condS l k) = false; rw [HC.out]; rfl
                  refine region_C (by kernel_rfl) (by kernel_rfl) (Cls.start HA0.out) ?_
                  repeat (first | go_big_quiet_skip | (go_big_quiet_want; (first | (apply q_val; (· (rintro w' ⟨hA, -⟩; have c0 := hA.hd; have c1 := hA.tl.hd; have c2 := hA.tl.tl.hd; have c3 := hA.tl.tl.tl.hd; have c4 := hA.tl.tl.tl.tl.hd; have c5 := hA.tl.tl.tl.tl.tl.hd; clear hA; go_simp; try rfl))) | (apply q_call 76; (· (rintro w' ⟨hA, -⟩; have c0 := hA.hd; have c1 := hA.tl.hd; have c2 := hA.tl.tl.hd; have c3 := hA.tl.tl.tl.hd; have c4 := hA.tl.tl.tl.tl.hd; have c5 := hA.tl.tl.tl.tl.tl.hd; clear hA; go_simp; try rfl)); (· (intro w' hC; exact (HN.out _ (HB0.out.trans (hC.2.mono HB0.out.size))).mono (fun e w'' h => ⟨h.1, hC.later h.2⟩)))) | (apply q_call 77; (· (rintro w' ⟨hA, -⟩; have c0 := hA.hd; have c1 := hA.tl.hd; have c2 := hA.tl.tl.hd; have c3 := hA.tl.tl.tl.hd; have c4 := hA.tl.tl.tl.tl.hd; have c5 := hA.tl.tl.tl.tl.tl.hd; clear hA; go_simp; try rfl)); (· (intro w' hC; exact (HM.out _ (HB0.out.trans (hC.2.mono HB0.out.size))).mono (fun e w'' h => ⟨h.1, hC.later h.2⟩)))) | (apply q_call 93; (· (rintro w' ⟨hA, -⟩; have c0 := hA.hd; have c1 := hA.tl.hd; have c2 := hA.tl.tl.hd; have c3 := hA.tl.tl.tl.hd; have c4 := hA.tl.tl.tl.tl.hd; have c5 := hA.tl.tl.tl.tl.tl.hd; clear hA; go_simp; try rfl)); (· (intro w' hC; exact (HG.out _ (HB0.out.trans (hC.2.mono HB0.out.size))).mono (fun e w'' h => ⟨h.1, hC.later h.2⟩)))) | (apply q_call 88; (· (rintro w' ⟨hA, -⟩; have c0 := hA.hd; have c1 := hA.tl.hd; have c2 := hA.tl.tl.hd; have c3 := hA.tl.tl.tl.hd; have c4 := hA.tl.tl.tl.tl.hd; have c5 := hA.tl.tl.tl.tl.tl.hd; clear hA; go_simp; try rfl)); (· (intro w' hC; exact (HK.out _ (HB0.out.trans (hC.2.mono HB0.out.size))).mono (fun e w'' h => ⟨h.1, hC.later h.2⟩)))) | (apply q_call 68; (· (rintro w' ⟨hA, -⟩; have c0 := hA.hd; have c1 := hA.tl.hd; have c2 := hA.tl.tl.hd; have c3 := hA.tl.tl.tl.hd; have c4 := hA.tl.tl.tl.tl.hd; have c5 := hA.tl.tl.tl.tl.tl.hd; clear hA; go_simp; try rfl)); (· (intro w' hC; exact (HP.out _ (HB0.out.trans (hC.2.mono HB0.out.size))).mono (fun e w'' h => ⟨h.1, hC.later h.2⟩))))); simp only [Act.put, List.setIfInBounds_toArray, List.set_cons_zero, List.set_cons_succ]; go_big_quiet_on))
                  refine wpQuiet_nil ?_
                  intro w9 hC9
                  have HB9 := Lib.hid (HB0.out.trans (hC9.2.mono HB0.out.size))
                  clear hC9
                  go_wp2_with fail
                  go_ret
                  exact ⟨ret_bool (by rw [HT.out, HF.out HC2.out]; rfl), HB9.out⟩
                case pos =>
                  subst hk8
                  by_cases hp8 : np = 0
                  case neg =>
                    have z1 : (np == 0) = false := by simpa using hp8
                    have z2 : (np != 0) = true := by simpa using hp8
                    clear hp8
                    have HC : Hid (condS l k = true) := by show _ = _; rw [HCD.out]; simp [hk0, d1, z1]
                    have HC2 : Hid ((fun i => !condS l i) k = false) := by show (!condS l k) = false; rw [HC.out]; rfl
                    refine region_C (by kernel_rfl) (by kernel_rfl) (Cls.start HA0.out) ?_
                    repeat (first | go_big_quiet_skip | (go_big_quiet_want; (first | (apply q_val; (· (rintro w' ⟨hA, -⟩; have c0 := hA.hd; have c1 := hA.tl.hd; have c2 := hA.tl.tl.hd; have c3 := hA.tl.tl.tl.hd; have c4 := hA.tl.tl.tl.tl.hd; have c5 := hA.tl.tl.tl.tl.tl.hd; clear hA; go_simp; try rfl))) | (apply q_call 76; (· (rintro w' ⟨hA, -⟩; have c0 := hA.hd; have c1 := hA.tl.hd; have c2 := hA.tl.tl.hd; have c3 := hA.tl.tl.tl.hd; have c4 := hA.tl.tl.tl.tl.hd; have c5 := hA.tl.tl.tl.tl.tl.hd; clear hA; go_simp; try rfl)); (· (intro w' hC; exact (HN.out _ (HB0.out.trans (hC.2.mono HB0.out.size))).mono (fun e w'' h => ⟨h.1, hC.later h.2⟩)))) | (apply q_call 77; (· (rintro w' ⟨hA, -⟩; have c0 := hA.hd; have c1 := hA.tl.hd; have c2 := hA.tl.tl.hd; have c3 := hA.tl.tl.tl.hd; have c4 := hA.tl.tl.tl.tl.hd; have c5 := hA.tl.tl.tl.tl.tl.hd; clear hA; go_simp; try rfl)); (· (intro w' hC; exact (HM.out _ (HB0.out.trans (hC.2.mono HB0.out.size))).mono (fun e w'' h => ⟨h.1, hC.later h.2⟩)))) | (apply q_call 93; (· (rintro w' ⟨hA, -⟩; have c0 := hA.hd; have c1 := hA.tl.hd; have c2 := hA.tl.tl.hd; have c3 := hA.tl.tl.tl.hd; have c4 := hA.tl.tl.tl.tl.hd; have c5 := hA.tl.tl.tl.tl.tl.hd; clear hA; go_simp; try rfl)); (· (intro w' hC; exact (HG.out _ (HB0.out.trans (hC.2.mono HB0.out.size))).mono (fun e w'' h => ⟨h.1, hC.later h.2⟩)))) | (apply q_call 88; (· (rintro w' ⟨hA, -⟩; have c0 := hA.hd; have c1 := hA.tl.hd; have c2 := hA.tl.tl.hd; have c3 := hA.tl.tl.tl.hd; have c4 := hA.tl.tl.tl.tl.hd; have c5 := hA.tl.tl.tl.tl.tl.hd; clear hA; go_simp; try rfl)); (· (intro w' hC; exact (HK.out _ (HB0.out.trans (hC.2.mono HB0.out.size))).mono (fun e w'' h => ⟨h.1, hC.later h.2⟩)))) | (apply q_call 68; (· (rintro w' ⟨hA, -⟩; have c0 := hA.hd; have c1 := hA.tl.hd; have c2 := hA.tl.tl.hd; have c3 := hA.tl.tl.tl.hd; have c4 := hA.tl.tl.tl.tl.hd; have c5 := hA.tl.tl.tl.tl.tl.hd; clear hA; go_simp; try rfl)); (· (intro w' hC; exact (HP.out _ (HB0.out.trans (hC.2.mono HB0.out.size))).mono (fun e w'' h => ⟨h.1, hC.later h.2⟩))))); simp only [Act.put, List.setIfInBounds_toArray, List.set_cons_zero, List.set_cons_succ]; go_big_quiet_on))
                    refine wpQuiet_nil ?_
                    intro w9 hC9
                    have HB9 := Lib.hid (HB0.out.trans (hC9.2.mono HB0.out.size))
                    clear hC9
                    go_wp2_with fail
                    go_ret
                    exact ⟨ret_bool (by rw [HT.out, HF.out HC2.out]; rfl), HB9.out⟩
                  case pos =>
                    subst hp8
                    have HC : Hid (condS l k = !((List.range k).all (fun q => !dupS l x q))) := by show _ = _; rw [HCD.out]; simp [hk0, d1]
                    refine region_C (by kernel_rfl) (by kernel_rfl) (Cls.start HA0.out) ?_
                    repeat (first | go_big_quiet_skip | (go_big_quiet_want; (first | (apply q_val; (· (rintro w' ⟨hA, -⟩; have c0 := hA.hd; have c1 := hA.tl.hd; have c2 := hA.tl.tl.hd; have c3 := hA.tl.tl.tl.hd; have c4 := hA.tl.tl.tl.tl.hd; have c5 := hA.tl.tl.tl.tl.tl.hd; clear hA; go_simp; try rfl))) | (apply q_call 76; (· (rintro w' ⟨hA, -⟩; have c0 := hA.hd; have c1 := hA.tl.hd; have c2 := hA.tl.tl.hd; have c3 := hA.tl.tl.tl.hd; have c4 := hA.tl.tl.tl.tl.hd; have c5 := hA.tl.tl.tl.tl.tl.hd; clear hA; go_simp; try rfl)); (· (intro w' hC; exact (HN.out _ (HB0.out.trans (hC.2.mono HB0.out.size))).mono (fun e w'' h => ⟨h.1, hC.later h.2⟩)))) | (apply q_call 77; (· (rintro w' ⟨hA, -⟩; have c0 := hA.hd; have c1 := hA.tl.hd; have c2 := hA.tl.tl.hd; have c3 := hA.tl.tl.tl.hd; have c4 := hA.tl.tl.tl.tl.hd; have c5 := hA.tl.tl.tl.tl.tl.hd; clear hA; go_simp; try rfl)); (· (intro w' hC; exact (HM.out _ (HB0.out.trans (hC.2.mono HB0.out.size))).mono (fun e w'' h => ⟨h.1, hC.later h.2⟩)))) | (apply q_call 93; (· (rintro w' ⟨hA, -⟩; have c0 := hA.hd; have c1 := hA.tl.hd; have c2 := hA.tl.tl.hd; have c3 := hA.tl.tl.tl.hd; have c4 := hA.tl.tl.tl.tl.hd; have c5 := hA.tl.tl.tl.tl.tl.hd; clear hA; go_simp; try rfl)); (· (intro w' hC; exact (HG.out _ (HB0.out.trans (hC.2.mono HB0.out.size))).mono (fun e w'' h => ⟨h.1, hC.later h.2⟩)))) | (apply q_call 88; (· (rintro w' ⟨hA, -⟩; have c0 := hA.hd; have c1 := hA.tl.hd; have c2 := hA.tl.tl.hd; have c3 := hA.tl.tl.tl.hd; have c4 := hA.tl.tl.tl.tl.hd; have c5 := hA.tl.tl.tl.tl.tl.hd; clear hA; go_simp; try rfl)); (· (intro w' hC; exact (HK.out _ (HB0.out.trans (hC.2.mono HB0.out.size))).mono (fun e w'' h => ⟨h.1, hC.later h.2⟩)))) | (apply q_call 68; (· (rintro w' ⟨hA, -⟩; have c0 := hA.hd; have c1 := hA.tl.hd; have c2 := hA.tl.tl.hd; have c3 := hA.tl.tl.tl.hd; have c4 := hA.tl.tl.tl.tl.hd; have c5 := hA.tl.tl.tl.tl.tl.hd; clear hA; go_simp; try rfl)); (· (intro w' hC; exact (HP.out _ (HB0.out.trans (hC.2.mono HB0.out.size))).mono (fun e w'' h => ⟨h.1, hC.later h.2⟩))))); simp only [Act.put, List.setIfInBounds_toArray, List.set_cons_zero, List.set_cons_succ]; go_big_quiet_on))
                    refine wpQuiet_nil ?_
                    intro w9 hC9
                    have HB9 := Lib.hid (HB0.out.trans (hC9.2.mono HB0.out.size))
                    have HX9 : Hid (At w9 [(wr.heap.size, 0, .string x.name)]) := .cons (hC9.1 _ _ _ (List.mem_cons_self ..)).1 hC9.1.hd (.nil _)
                    clear hC9 HA0
                    go_wp2_with fail
                    generalize wr.heap.size = n0 at *
                    go_loopw [5] (fun i wr2 => ∃ j : Nat, j ≤ k ∧ i = .int .i64 j ∧ (List.range j).all (fun q => !dupS l x q) = true ∧ Below w.heap.size w wr2 ∧ At wr2 [(n0, 0, .string x.name)]) (fun i _ => k - (intOf i).toNat)
                    case atStart => exact ⟨0, Nat.zero_le _, rfl, rfl, HB9.out, HX9.out⟩
                    case round =>
                      obtain ⟨j, hj, rfl, hdj, hbj, hxj⟩ := hrel
                      have HDJ := Lib.hid hdj
                      have HBJ := Lib.hid hbj
                      have HXJ := Lib.hid hxj
                      clear hdj hbj hxj
                      by_cases hjk : j < k
                      · have hj0 : (0 : Int) ≤ (j : Int) := by omega
                        have hj1 : (j : Int) < (k : Int) := by omega
                        have hj2 : (j : Int) < (l.length : Int) := by omega
                        obtain ⟨z, b2, off2, hz, hza, hbz, hz0, -, -, -, -, -⟩ := (HL.out.below HBJ.out).get (show j < l.length by omega)
                        obtain ⟨rfl, rfl⟩ : b = b2 ∧ off = off2 := by simpa using hza
                        clear hza
                        have HAJ : Hid (At wr [(n0, 0, .string x.name), (b, off + j * 5, .string z.name)]) := .cons (HXJ.out _ _ _ (List.mem_cons_self ..)).1 HXJ.out.hd (.cons hbz hz0 (.nil _))
                        have HDU : Hid (dupS l x j = (z.name.toList == x.name.toList)) := by show _ = _; simp [dupS, List.getD, hz]
                        have HSJ := Lib.hid (range_step (fun q => !dupS l x q) j)
                        have HFJ := Lib.hid (fun h => range_bad (fun q => !dupS l x q) hjk h)
                        clear hz hz0
                        cases he : (z.name.toList == x.name.toList)
                        case false =>
                          have HD2 : Hid (dupS l x j = false) := by show _ = _; rw [HDU.out]; exact he
                          go_wp2_with fail
                          refine region_C (by kernel_rfl) (by kernel_rfl) (Cls.start HAJ.out) ?_
                          repeat (first | go_big_quiet_skip | (go_big_quiet_want; (first | (apply q_val; (· (rintro w' ⟨hA, -⟩; have c0 := hA.hd; have c1 := hA.tl.hd; clear hA; go_simp; try rfl)))); simp only [Act.put, List.setIfInBounds_toArray, List.set_cons_zero, List.set_cons_succ]; go_big_quiet_on))
                          refine wpQuiet_nil ?_
                          intro w10 hC10
                          have HB10 := Lib.hid (HBJ.out.trans (hC10.2.mono HBJ.out.size))
                          have HX10 : Hid (At w10 [(n0, 0, .string x.name)]) := .cons (hC10.1 _ _ _ (List.mem_cons_self ..)).1 hC10.1.hd (.nil _)
                          clear hC10
                          go_wp2_with fail
                          go_roundw
                          case rel => exact ⟨j + 1, by omega, by go_num, by rw [HSJ.out, HDJ.out, HD2.out]; rfl, HB10.out, HX10.out⟩
                          case measure => simp [intOf]; omega
                        case true =>
                          have he2 : z.name.toList = x.name.toList := by simpa using he
                          have HD2 : Hid ((fun q => !dupS l x q) j = false) := by show (!dupS l x j) = false; rw [HDU.out, he]; rfl
                          have HC2 : Hid ((fun i => !condS l i) k = false) := by show (!condS l k) = false; rw [HC.out, HFJ.out HD2.out]; rfl
                          clear he2
                          go_wp2_with fail
                          refine region_C (by kernel_rfl) (by kernel_rfl) (Cls.start HAJ.out) ?_
                          repeat (first | go_big_quiet_skip | (go_big_quiet_want; (first | (apply q_val; (· (rintro w' ⟨hA, -⟩; have c0 := hA.hd; have c1 := hA.tl.hd; clear hA; go_simp; try rfl)))); simp only [Act.put, List.setIfInBounds_toArray, List.set_cons_zero, List.set_cons_succ]; go_big_quiet_on))
                          refine wpQuiet_nil ?_
                          intro w10 hC10
                          have HB10 := Lib.hid (HBJ.out.trans (hC10.2.mono HBJ.out.size))
                          clear hC10
                          go_wp2_with fail
                          go_ret
                          exact ⟨ret_bool (by rw [HT.out, HF.out HC2.out]; rfl), HB10.out⟩
                      · have HC2 : Hid (condS l k = false) := by
                          show _ = _
                          obtain rfl : j = k := by omega
                          rw [HC.out, HDJ.out]; rfl
                        go_wp2_with fail
                        go_roundw
                        case rel => exact ⟨k + 1, by omega, by go_num, by rw [HST.out, HD.out, HC2.out]; rfl, HBJ.out⟩
                        case measure => simp [intOf]; omega
    · have HA2 : Hid ((List.range l.length).all (fun i => !condS l i) = true) := by
        obtain rfl : k = l.length := by omega
        exact HD.out
      go_wp2_with fail
      go_ret
      exact ⟨by rw [HT.out, HA2.out]; simp; try omega, HBr.out⟩
end Go.Proofs.Ytbkghiaafkmapaa
