/- The walk of usage.Unique. No condition but that what comes in reads as data. -/
import Derived.Test.YtbkghiaafkmapaaUniq
namespace Go.Proofs.Ytbkghiaafkmapaa
open Go.ChangeShapes Go.WideShapes Go.ChangeAt Go.RowKit

/-- what the snapshot ahead has; nothing, where there is none -/
def aheadOf (sl : List SnapD) (k : Nat) : SliceV BlockD := if 0 < k then (match sl[k - 1]? with | some y => y.body | none => ⟨none, 0, []⟩) else ⟨none, 0, []⟩
def behindOf (bd : SliceV BlockD) (sl : List SnapD) (k : Nat) : SliceV BlockD := match sl[k + 1]? with | some y => y.body | none => bd
def uniqAt (bd : SliceV BlockD) (sl : List SnapD) (k : Nat) : Nat := match sl[k]? with
  | none => 0
  | some y => missN [aheadOf sl k, behindOf bd sl k] y.body.l
def uniqueN (x : SetD) (i : Int) : Nat := if i < 0 then 0 else uniqAt x.body x.snaps.l i.toNat

theorem isBlocks_nil (w : World) : IsBlocks w ⟨none, 0, []⟩ := ⟨by simp, fun i x hi => by simp at hi⟩

set_option maxHeartbeats 1000000 in
theorem Unique_uPN (path origin : ByteArray) (ba : Option Addr) (bc : Nat) (bl : List BlockD) (sa : Option Addr) (sc : Nat) (sl : List SnapD) (oa : Option Addr) (on oc : Nat) (k : Nat) (hk : k < sl.length) (w : World) (_hb : IsBlocks w ⟨ba, bc, bl⟩) (hs : IsSnaps w ⟨sa, sc, sl⟩)
    (h0 : 0 < k) (h1 : k + 1 < sl.length) :
    Calls Try.prog 25 #[.agg #[.string path, .string origin, .slice ba bl.length bc, .slice sa sl.length sc, .slice oa on oc], .int .i64 k] w fun e w' => e = .returned (.int .i64 (uniqAt ⟨ba, bc, bl⟩ sl k)) ∧ Below w.heap.size w w' := by
  have hsl := IsSl.len hs
  dsimp only at hsl
  obtain ⟨y, b, off, hy, hya, hbs, -, -, hy2, -, -, hyo⟩ := hs.get hk
  obtain ⟨p, b', off', hp, hpa, -, -, -, hp2, -, -, hpo⟩ := hs.get (show k - 1 < sl.length by omega)
  obtain ⟨rfl, rfl⟩ : b = b' ∧ off = off' := by rw [hya] at hpa; simpa using hpa
  clear hpa
  have ea : aheadOf sl k = p.body := by simp only [aheadOf, hp, if_pos h0]
  have ha : IsBlocks w p.body := hpo.2.2.1
  obtain ⟨q, b'', off'', hq, hqa, -, -, -, hq2, -, -, hqo⟩ := hs.get h1
  obtain ⟨rfl, rfl⟩ : b = b'' ∧ off = off'' := by rw [hya] at hqa; simpa using hqa
  clear hqa
  have eb : behindOf ⟨ba, bc, bl⟩ sl k = q.body := by simp only [behindOf, hq]
  have hbh : IsBlocks w q.body := hqo.2.2.1
  have HF := Lib.hid (show uniqAt ⟨ba, bc, bl⟩ sl k = missN [p.body, q.body] y.body.l by simp only [uniqAt, hy, ea, eb])
  have hyb : IsBlocks w y.body := hyo.2.2.1
  have HC : Hid (∀ (W : World) (n : Nat), n = W.heap.size → Below w.heap.size w W → Calls Try.prog 55 #[.slice y.body.a y.body.l.length y.body.c, .slice (some ⟨n, 0, none⟩) 2 2] (W.alloc (.cells #[.slice p.body.a p.body.l.length p.body.c, .slice q.body.a q.body.l.length q.body.c] 34)) fun e w' => e = .returned (.int .i64 (missN [p.body, q.body] y.body.l)) ∧ Below w.heap.size w w') := fun W n hn hB =>
    (missing_any y.body.a (some ⟨n, 0, none⟩) y.body.c 2 y.body.l [p.body, q.body] _ (hyb.below (hB.alloc hB.size _)) (others_two ha hbh hB n hn)).mono fun e w' ⟨he, hb'⟩ => ⟨he, (hB.alloc hB.size _).trans (hb'.mono (by have := hB.size; simp; omega))⟩
  subst hya
  have hd1 : decide ((k : Int) < 0) = false := decide_eq_false (by omega)
  have hd2 : decide ((sl.length : Int) ≤ (k : Int)) = false := decide_eq_false (by omega)
  have hd3 : decide ((k : Int) + 1 < (sl.length : Int)) = true := decide_eq_true (by omega)
  have hd4 : decide ((0 : Int) < (k : Int)) = true := decide_eq_true (by omega)
  have hne : b ≠ w.heap.size := by omega
  clear hy hyo hyb ha hbh ea eb h0
  have h0' : 1 ≤ k := by have := of_decide_eq_true hd4; omega
  have hk1 : ((k : Int) - 1).toNat = k - 1 := by omega
  have hk2 : ((k : Int) + 1).toNat = k + 1 := by omega
  go_enter Try.func25, Try.ntmps25
  go_wp2_with fail
  refine (HC.out _ _ (by simp) ((Below.refl _ _).alloc (Nat.le_refl _) _)).mono ?_
  rintro e w2 ⟨rfl, hb2⟩
  have HB2 := Lib.hid hb2
  clear hb2
  go_wp2_with fail
  go_ret
  exact ⟨ret_int (by have := HF.out; exact congrArg (fun n : Nat => (n : Int)) this.symm), HB2.out⟩

set_option maxHeartbeats 1000000 in
theorem Unique_uPL (path origin : ByteArray) (ba : Option Addr) (bc : Nat) (bl : List BlockD) (sa : Option Addr) (sc : Nat) (sl : List SnapD) (oa : Option Addr) (on oc : Nat) (k : Nat) (hk : k < sl.length) (w : World) (hb : IsBlocks w ⟨ba, bc, bl⟩) (hs : IsSnaps w ⟨sa, sc, sl⟩)
    (h0 : 0 < k) (h1 : ¬ k + 1 < sl.length) :
    Calls Try.prog 25 #[.agg #[.string path, .string origin, .slice ba bl.length bc, .slice sa sl.length sc, .slice oa on oc], .int .i64 k] w fun e w' => e = .returned (.int .i64 (uniqAt ⟨ba, bc, bl⟩ sl k)) ∧ Below w.heap.size w w' := by
  have hsl := IsSl.len hs
  dsimp only at hsl
  obtain ⟨y, b, off, hy, hya, hbs, -, -, hy2, -, -, hyo⟩ := hs.get hk
  obtain ⟨p, b', off', hp, hpa, -, -, -, hp2, -, -, hpo⟩ := hs.get (show k - 1 < sl.length by omega)
  obtain ⟨rfl, rfl⟩ : b = b' ∧ off = off' := by rw [hya] at hpa; simpa using hpa
  clear hpa
  have ea : aheadOf sl k = p.body := by simp only [aheadOf, hp, if_pos h0]
  have ha : IsBlocks w p.body := hpo.2.2.1
  have eb : behindOf ⟨ba, bc, bl⟩ sl k = ⟨ba, bc, bl⟩ := by simp only [behindOf, List.getElem?_eq_none (show sl.length ≤ k + 1 by omega)]
  have hbh : IsBlocks w ⟨ba, bc, bl⟩ := hb
  have HF := Lib.hid (show uniqAt ⟨ba, bc, bl⟩ sl k = missN [p.body, (⟨ba, bc, bl⟩ : SliceV BlockD)] y.body.l by simp only [uniqAt, hy, ea, eb])
  have hyb : IsBlocks w y.body := hyo.2.2.1
  have HC : Hid (∀ (W : World) (n : Nat), n = W.heap.size → Below w.heap.size w W → Calls Try.prog 55 #[.slice y.body.a y.body.l.length y.body.c, .slice (some ⟨n, 0, none⟩) 2 2] (W.alloc (.cells #[.slice p.body.a p.body.l.length p.body.c, .slice ba bl.length bc] 34)) fun e w' => e = .returned (.int .i64 (missN [p.body, (⟨ba, bc, bl⟩ : SliceV BlockD)] y.body.l)) ∧ Below w.heap.size w w') := fun W n hn hB =>
    (missing_any y.body.a (some ⟨n, 0, none⟩) y.body.c 2 y.body.l [p.body, (⟨ba, bc, bl⟩ : SliceV BlockD)] _ (hyb.below (hB.alloc hB.size _)) (others_two ha hbh hB n hn)).mono fun e w' ⟨he, hb'⟩ => ⟨he, (hB.alloc hB.size _).trans (hb'.mono (by have := hB.size; simp; omega))⟩
  subst hya
  have hd1 : decide ((k : Int) < 0) = false := decide_eq_false (by omega)
  have hd2 : decide ((sl.length : Int) ≤ (k : Int)) = false := decide_eq_false (by omega)
  have hd3 : decide ((k : Int) + 1 < (sl.length : Int)) = false := decide_eq_false (by omega)
  have hd4 : decide ((0 : Int) < (k : Int)) = true := decide_eq_true (by omega)
  have hne : b ≠ w.heap.size := by omega
  clear hy hyo hyb ha hbh ea eb h0
  have h0' : 1 ≤ k := by have := of_decide_eq_true hd4; omega
  have hk1 : ((k : Int) - 1).toNat = k - 1 := by omega
  go_enter Try.func25, Try.ntmps25
  go_wp2_with fail
  refine (HC.out _ _ (by simp) ((Below.refl _ _).alloc (Nat.le_refl _) _)).mono ?_
  rintro e w2 ⟨rfl, hb2⟩
  have HB2 := Lib.hid hb2
  clear hb2
  go_wp2_with fail
  go_ret
  exact ⟨ret_int (by have := HF.out; exact congrArg (fun n : Nat => (n : Int)) this.symm), HB2.out⟩

set_option maxHeartbeats 1000000 in
theorem Unique_uZN (path origin : ByteArray) (ba : Option Addr) (bc : Nat) (bl : List BlockD) (sa : Option Addr) (sc : Nat) (sl : List SnapD) (oa : Option Addr) (on oc : Nat) (k : Nat) (hk : k < sl.length) (w : World) (_hb : IsBlocks w ⟨ba, bc, bl⟩) (hs : IsSnaps w ⟨sa, sc, sl⟩)
    (h0 : k = 0) (h1 : k + 1 < sl.length) :
    Calls Try.prog 25 #[.agg #[.string path, .string origin, .slice ba bl.length bc, .slice sa sl.length sc, .slice oa on oc], .int .i64 k] w fun e w' => e = .returned (.int .i64 (uniqAt ⟨ba, bc, bl⟩ sl k)) ∧ Below w.heap.size w w' := by
  have hsl := IsSl.len hs
  dsimp only at hsl
  obtain ⟨y, b, off, hy, hya, hbs, -, -, hy2, -, -, hyo⟩ := hs.get hk
  have ea : aheadOf sl k = ⟨none, 0, []⟩ := by simp [aheadOf, h0]
  have ha := isBlocks_nil w
  obtain ⟨q, b'', off'', hq, hqa, -, -, -, hq2, -, -, hqo⟩ := hs.get h1
  obtain ⟨rfl, rfl⟩ : b = b'' ∧ off = off'' := by rw [hya] at hqa; simpa using hqa
  clear hqa
  have eb : behindOf ⟨ba, bc, bl⟩ sl k = q.body := by simp only [behindOf, hq]
  have hbh : IsBlocks w q.body := hqo.2.2.1
  have HF := Lib.hid (show uniqAt ⟨ba, bc, bl⟩ sl k = missN [(⟨none, 0, []⟩ : SliceV BlockD), q.body] y.body.l by simp only [uniqAt, hy, ea, eb])
  have hyb : IsBlocks w y.body := hyo.2.2.1
  have HC : Hid (∀ (W : World) (n : Nat), n = W.heap.size → Below w.heap.size w W → Calls Try.prog 55 #[.slice y.body.a y.body.l.length y.body.c, .slice (some ⟨n, 0, none⟩) 2 2] (W.alloc (.cells #[.slice none 0 0, .slice q.body.a q.body.l.length q.body.c] 34)) fun e w' => e = .returned (.int .i64 (missN [(⟨none, 0, []⟩ : SliceV BlockD), q.body] y.body.l)) ∧ Below w.heap.size w w') := fun W n hn hB =>
    (missing_any y.body.a (some ⟨n, 0, none⟩) y.body.c 2 y.body.l [(⟨none, 0, []⟩ : SliceV BlockD), q.body] _ (hyb.below (hB.alloc hB.size _)) (others_two ha hbh hB n hn)).mono fun e w' ⟨he, hb'⟩ => ⟨he, (hB.alloc hB.size _).trans (hb'.mono (by have := hB.size; simp; omega))⟩
  subst hya
  have hd1 : decide ((k : Int) < 0) = false := decide_eq_false (by omega)
  have hd2 : decide ((sl.length : Int) ≤ (k : Int)) = false := decide_eq_false (by omega)
  have hd3 : decide ((k : Int) + 1 < (sl.length : Int)) = true := decide_eq_true (by omega)
  have hd4 : decide ((0 : Int) < (k : Int)) = false := decide_eq_false (by omega)
  have hne : b ≠ w.heap.size := by omega
  clear hy hyo hyb ha hbh ea eb h0
  have hk0 : (k : Int) ≤ 0 := by have := of_decide_eq_false hd4; omega
  have hk2 : ((k : Int) + 1).toNat = k + 1 := by omega
  go_enter Try.func25, Try.ntmps25
  go_wp2_with fail
  refine (HC.out _ _ (by simp) ((Below.refl _ _).alloc (Nat.le_refl _) _)).mono ?_
  rintro e w2 ⟨rfl, hb2⟩
  have HB2 := Lib.hid hb2
  clear hb2
  go_wp2_with fail
  go_ret
  exact ⟨ret_int (by have := HF.out; exact congrArg (fun n : Nat => (n : Int)) this.symm), HB2.out⟩

set_option maxHeartbeats 1000000 in
theorem Unique_uZL (path origin : ByteArray) (ba : Option Addr) (bc : Nat) (bl : List BlockD) (sa : Option Addr) (sc : Nat) (sl : List SnapD) (oa : Option Addr) (on oc : Nat) (k : Nat) (hk : k < sl.length) (w : World) (hb : IsBlocks w ⟨ba, bc, bl⟩) (hs : IsSnaps w ⟨sa, sc, sl⟩)
    (h0 : k = 0) (h1 : ¬ k + 1 < sl.length) :
    Calls Try.prog 25 #[.agg #[.string path, .string origin, .slice ba bl.length bc, .slice sa sl.length sc, .slice oa on oc], .int .i64 k] w fun e w' => e = .returned (.int .i64 (uniqAt ⟨ba, bc, bl⟩ sl k)) ∧ Below w.heap.size w w' := by
  have hsl := IsSl.len hs
  dsimp only at hsl
  obtain ⟨y, b, off, hy, hya, hbs, -, -, hy2, -, -, hyo⟩ := hs.get hk
  have ea : aheadOf sl k = ⟨none, 0, []⟩ := by simp [aheadOf, h0]
  have ha := isBlocks_nil w
  have eb : behindOf ⟨ba, bc, bl⟩ sl k = ⟨ba, bc, bl⟩ := by simp only [behindOf, List.getElem?_eq_none (show sl.length ≤ k + 1 by omega)]
  have hbh : IsBlocks w ⟨ba, bc, bl⟩ := hb
  have HF := Lib.hid (show uniqAt ⟨ba, bc, bl⟩ sl k = missN [(⟨none, 0, []⟩ : SliceV BlockD), (⟨ba, bc, bl⟩ : SliceV BlockD)] y.body.l by simp only [uniqAt, hy, ea, eb])
  have hyb : IsBlocks w y.body := hyo.2.2.1
  have HC : Hid (∀ (W : World) (n : Nat), n = W.heap.size → Below w.heap.size w W → Calls Try.prog 55 #[.slice y.body.a y.body.l.length y.body.c, .slice (some ⟨n, 0, none⟩) 2 2] (W.alloc (.cells #[.slice none 0 0, .slice ba bl.length bc] 34)) fun e w' => e = .returned (.int .i64 (missN [(⟨none, 0, []⟩ : SliceV BlockD), (⟨ba, bc, bl⟩ : SliceV BlockD)] y.body.l)) ∧ Below w.heap.size w w') := fun W n hn hB =>
    (missing_any y.body.a (some ⟨n, 0, none⟩) y.body.c 2 y.body.l [(⟨none, 0, []⟩ : SliceV BlockD), (⟨ba, bc, bl⟩ : SliceV BlockD)] _ (hyb.below (hB.alloc hB.size _)) (others_two ha hbh hB n hn)).mono fun e w' ⟨he, hb'⟩ => ⟨he, (hB.alloc hB.size _).trans (hb'.mono (by have := hB.size; simp; omega))⟩
  subst hya
  have hd1 : decide ((k : Int) < 0) = false := decide_eq_false (by omega)
  have hd2 : decide ((sl.length : Int) ≤ (k : Int)) = false := decide_eq_false (by omega)
  have hd3 : decide ((k : Int) + 1 < (sl.length : Int)) = false := decide_eq_false (by omega)
  have hd4 : decide ((0 : Int) < (k : Int)) = false := decide_eq_false (by omega)
  have hne : b ≠ w.heap.size := by omega
  clear hy hyo hyb ha hbh ea eb h0
  have hk0 : (k : Int) ≤ 0 := by have := of_decide_eq_false hd4; omega
  go_enter Try.func25, Try.ntmps25
  go_wp2_with fail
  refine (HC.out _ _ (by simp) ((Below.refl _ _).alloc (Nat.le_refl _) _)).mono ?_
  rintro e w2 ⟨rfl, hb2⟩
  have HB2 := Lib.hid hb2
  clear hb2
  go_wp2_with fail
  go_ret
  exact ⟨ret_int (by have := HF.out; exact congrArg (fun n : Nat => (n : Int)) this.symm), HB2.out⟩

theorem Unique_any (x : SetD) (i : Int) (hir : InR i) (w : World) (h : okSet w x) :
    Calls Try.prog 25 #[.agg #[.string x.path, .string x.origin, .slice x.body.a x.body.l.length x.body.c, .slice x.snaps.a x.snaps.l.length x.snaps.c, .slice x.own.a x.own.l.length x.own.c], .int .i64 i] w fun e w' => e = .returned (.int .i64 (uniqueN x i)) ∧ Below w.heap.size w w' := by
  obtain ⟨path, origin, ⟨ba, bc, bl⟩, ⟨sa, sc, sl⟩, ⟨oa, oc, ol⟩⟩ := x
  obtain ⟨-, -, hb, hs, -⟩ := h
  have hsl := IsSl.len hs
  dsimp only at hb hs hsl ⊢
  by_cases h0 : i < 0
  · have HF := Lib.hid (show uniqueN ⟨path, origin, ⟨ba, bc, bl⟩, ⟨sa, sc, sl⟩, ⟨oa, oc, ol⟩⟩ i = 0 by simp [uniqueN, h0])
    have hd : decide (i < 0) = true := decide_eq_true h0
    go_enter Try.func25, Try.ntmps25
    go_wp2_with fail
    go_ret
    exact ⟨ret_int (by rw [HF.out]; rfl), (Below.refl _ _).alloc (Nat.le_refl _) _⟩
  · obtain ⟨k, rfl⟩ := Int.eq_ofNat_of_zero_le (show 0 ≤ i by omega)
    have e : uniqueN ⟨path, origin, ⟨ba, bc, bl⟩, ⟨sa, sc, sl⟩, ⟨oa, oc, ol⟩⟩ (k : Int) = uniqAt ⟨ba, bc, bl⟩ sl k := by simp only [uniqueN, if_neg h0, Int.toNat_natCast]
    rw [e]
    by_cases hk : k < sl.length
    · by_cases h1 : 0 < k <;> by_cases h2 : k + 1 < sl.length
      · exact Unique_uPN path origin ba bc bl sa sc sl oa _ oc k hk w hb hs h1 h2
      · exact Unique_uPL path origin ba bc bl sa sc sl oa _ oc k hk w hb hs h1 h2
      · have := Unique_uZN path origin ba bc bl sa sc sl oa ol.length oc k hk w hb hs (by omega) h2
        exact this
      · exact Unique_uZL path origin ba bc bl sa sc sl oa _ oc k hk w hb hs (by omega) h2
    · have HF := Lib.hid (show uniqAt ⟨ba, bc, bl⟩ sl k = 0 by simp only [uniqAt, List.getElem?_eq_none (show sl.length ≤ k by omega)])
      have hd : decide ((k : Int) < 0) = false := decide_eq_false (by omega)
      have hd2 : decide ((sl.length : Int) ≤ (k : Int)) = true := decide_eq_true (by omega)
      clear e
      go_enter Try.func25, Try.ntmps25
      go_wp2_with fail
      go_ret
      exact ⟨ret_int (by rw [HF.out]; rfl), (Below.refl _ _).alloc (Nat.le_refl _) _⟩

end Go.Proofs.Ytbkghiaafkmapaa
