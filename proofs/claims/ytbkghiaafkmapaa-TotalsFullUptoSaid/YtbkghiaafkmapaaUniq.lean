/- Walks of usage.Changed and usage.Unique. No condition but that what comes in reads as data. -/
import Derived.Test.YtbkghiaafkmapaaRefs
import Derived.Deep.RegionHeld3
namespace Go.Proofs.Ytbkghiaafkmapaa
open Go.ChangeShapes Go.WideShapes Go.ChangeAt Go.RowKit

theorem others_one {w w0 : World} {s : SliceV BlockD} (hs : IsBlocks w0 s) (hB : Below w0.heap.size w0 w) (n : Nat) (hn : n = w.heap.size) : IsOthers (w.alloc (.cells #[.slice s.a s.l.length s.c] 34)) ⟨some ⟨n, 0, none⟩, 1, [s]⟩ := by
  subst hn
  refine ⟨by simp, fun i x hi => ?_⟩
  match i, hi with
  | 0, hi =>
    simp at hi
    subst hi
    refine ⟨⟨w.heap.size, 0, rfl, by simp, fun j v hj => ?_⟩, hs.below (hB.alloc hB.size _)⟩
    match j, hj with
    | 0, hj =>
      simp at hj
      subst hj
      go_simp

theorem others_two {w w0 : World} {s s' : SliceV BlockD} (hs : IsBlocks w0 s) (hs' : IsBlocks w0 s') (hB : Below w0.heap.size w0 w) (n : Nat) (hn : n = w.heap.size) : IsOthers (w.alloc (.cells #[.slice s.a s.l.length s.c, .slice s'.a s'.l.length s'.c] 34)) ⟨some ⟨n, 0, none⟩, 2, [s, s']⟩ := by
  subst hn
  refine ⟨by simp, fun i x hi => ?_⟩
  match i, hi with
  | 0, hi =>
    simp at hi
    subst hi
    refine ⟨⟨w.heap.size, 0, rfl, by simp, fun j v hj => ?_⟩, hs.below (hB.alloc hB.size _)⟩
    match j, hj with
    | 0, hj =>
      simp at hj
      subst hj
      go_simp
  | 1, hi =>
    simp at hi
    subst hi
    refine ⟨⟨w.heap.size, 0, rfl, by simp, fun j v hj => ?_⟩, hs'.below (hB.alloc hB.size _)⟩
    match j, hj with
    | 0, hj =>
      simp at hj
      subst hj
      go_simp

/-- what Body has that the last snapshot has not -/
def changedN (x : SetD) : Nat := match x.snaps.l[x.snaps.l.length - 1]? with
  | none => x.body.l.length
  | some y => missN [y.body] x.body.l

set_option maxHeartbeats 1000000 in
theorem Changed_any (x : SetD) (w : World) (h : okSet w x) :
    Calls Try.prog 24 #[.agg #[.string x.path, .string x.origin, .slice x.body.a x.body.l.length x.body.c, .slice x.snaps.a x.snaps.l.length x.snaps.c, .slice x.own.a x.own.l.length x.own.c]] w fun e w' => e = .returned (.int .i64 (changedN x)) ∧ Below w.heap.size w w' := by
  obtain ⟨path, origin, ⟨ba, bc, bl⟩, ⟨sa, sc, sl⟩, own⟩ := x
  obtain ⟨-, -, hb, hs, -⟩ := h
  have hbl := IsSl.len hb
  have hsl := IsSl.len hs
  dsimp only at hb hs hbl hsl ⊢
  by_cases h0 : sl.length = 0
  · obtain rfl : sl = [] := List.eq_nil_of_length_eq_zero h0
    clear h0
    go_enter Try.func24, Try.ntmps24
    go_wp2_with fail
    go_ret
    exact ⟨rfl, (Below.refl _ _).alloc (Nat.le_refl _) _⟩
  · have hd : decide ((0 : Int) < (sl.length : Int)) = true := decide_eq_true (by omega)
    obtain ⟨y, b, off, hy, hya, hbs, hy0, hy1, hy2, hy3, hy4, hyo⟩ := hs.get (show sl.length - 1 < sl.length by omega)
    have HF := Lib.hid (show changedN ⟨path, origin, ⟨ba, bc, bl⟩, ⟨sa, sc, sl⟩, own⟩ = missN [y.body] bl by simp only [changedN, hy])
    have hyb : IsBlocks w y.body := hyo.2.2.1
    have HC : Hid (∀ (W : World) (n : Nat), n = W.heap.size → Below w.heap.size w W → Calls Try.prog 55 #[.slice ba bl.length bc, .slice (some ⟨n, 0, none⟩) 1 1] (W.alloc (.cells #[.slice y.body.a y.body.l.length y.body.c] 34)).drew fun e w' => e = .returned (.int .i64 (missN [y.body] bl)) ∧ Below w.heap.size w w') := fun W n hn hB =>
      (missing_any ba (some ⟨n, 0, none⟩) bc 1 bl [y.body] _ (hb.below (hB.alloc hB.size _).drew) ((others_one hyb hB n hn).below (Below.refl _ _).drew)).mono fun e w' ⟨he, hb'⟩ => ⟨he, (hB.alloc hB.size _).drew.trans (hb'.mono (by have := hB.size; simp; omega))⟩
    subst hya
    have hlt1 : (0 : Int) ≤ (sl.length : Int) - 1 := by omega
    have hlt2 : (sl.length : Int) - 1 < (sl.length : Int) := by omega
    have hi1 : ((sl.length : Int) - 1).toNat = sl.length - 1 := by omega
    have hne : b ≠ w.heap.size := by omega
    have hwr : IntKind.i64.wrap ((sl.length : Int) - 1) = (sl.length : Int) - 1 := by rw [i64_wrap]; exact wrap_in (by unfold InR; omega)
    clear hy hyo hyb
    go_enter Try.func24, Try.ntmps24
    go_wp2_with fail
    go_region_with (go_at_call 55; refine (HC.out _ _ (by simp) ((Below.refl _ _).alloc (Nat.le_refl _) _)).mono ?_; rintro e w2 ⟨rfl, hb2⟩)
    all_goals
      have HB2 := Lib.hid hb2
      clear hb2
      go_wp2_with fail
      go_ret
      exact ⟨ret_int (by rw [HF.out]), HB2.out⟩

end Go.Proofs.Ytbkghiaafkmapaa
