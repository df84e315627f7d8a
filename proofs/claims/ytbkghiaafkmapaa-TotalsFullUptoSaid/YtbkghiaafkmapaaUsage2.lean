/- Walks of package usage's charges: a running sum behind a pointer. No condition but that what comes in reads as data. -/
import Derived.Test.YtbkghiaafkmapaaUsage
import Derived.Deep.QuietTactic
import Derived.BigQuiet
import Derived.Deep.RegionWith
import Derived.StillTailTactics
import Derived.Outline
namespace Go.Proofs.Ytbkghiaafkmapaa
open Go.ChangeShapes Go.WideShapes Go.ChangeAt Go.RowKit

theorem body_any (a : Option Addr) (n c : Nat) (w : World) (hn : n * 24 ≤ 140737488355328) : Calls Try.prog 33 #[.slice a n c] w fun e w' => e = .returned (.int .i64 (1 + (n : Int))) ∧ w = w' := by
  go_enter Try.func33, Try.ntmps33
  go_wp2
  go_ret
  exact ⟨ret_int (by omega), rfl⟩

/-- the running sum at b holds t -/
def Acc (w : World) (b : Nat) (t : Int) : Prop := w.cell? ⟨b, 0, none⟩ = some (.int .i64 t) ∧ w.frozen? ⟨b, 0, none⟩ = false
/-- nothing has turned but the first cell of block b -/
structure Kept (b : Nat) (w w' : World) : Prop where
  g : w.grownBy w' (some b)
  rest : ∀ o, o ≠ 0 → w'.cell? ⟨b, o, none⟩ = w.cell? ⟨b, o, none⟩

theorem Kept.refl (b : Nat) (w : World) : Kept b w w := ⟨⟨rfl, rfl, rfl, Nat.le_refl _, fun _ _ _ => rfl⟩, fun _ _ => rfl⟩
theorem Kept.trans {b : Nat} {w w1 w2 : World} (h : Kept b w w1) (h' : Kept b w1 w2) : Kept b w w2 :=
  ⟨⟨h'.g.os.trans h.g.os, h'.g.tape.trans h.g.tape, h'.g.output.trans h.g.output, Nat.le_trans h.g.size h'.g.size, fun k hk hn => (h'.g.block k (Nat.lt_of_lt_of_le hk h.g.size) hn).trans (h.g.block k hk hn)⟩, fun o ho => (h'.rest o ho).trans (h.rest o ho)⟩
theorem Kept.of_below {b : Nat} {w w' : World} (hb : b < w.heap.size) (h : Below w.heap.size w w') : Kept b w w' :=
  ⟨⟨h.os, h.tape, h.output, h.size, fun k hk _ => h.block k hk⟩, fun o _ => h.cell (p := ⟨b, o, none⟩) hb⟩
theorem Kept.below {B b : Nat} {w0 w w' : World} (h : Kept b w w') (hB : Below B w0 w) (hb : B ≤ b) (hw : B ≤ w.heap.size) : Below B w0 w' :=
  hB.trans ⟨h.g.os, h.g.tape, h.g.output, h.g.size, fun k hk => h.g.block k (by omega) (fun e => by injection e; omega)⟩
theorem Kept.cell {b k o : Nat} {w w' : World} (h : Kept b w w') (hk : k < w.heap.size) (hne : k ≠ b) : w'.cell? ⟨k, o, none⟩ = w.cell? ⟨k, o, none⟩ :=
  World.cell?_of_block (h.g.block k hk (fun e => hne (by injection e)))
theorem Acc.below {b : Nat} {t : Int} {w w' : World} (h : Acc w b t) (hb : b < w.heap.size) (hB : Below w.heap.size w w') : Acc w' b t :=
  ⟨by rw [hB.cell (p := ⟨b, 0, none⟩) hb]; exact h.1, by rw [hB.frozen (p := ⟨b, 0, none⟩) hb]; exact h.2⟩

theorem i64_wrap (n : Int) : IntKind.i64.wrap n = wrap64 n := by rw [IntKind.wrap_i64, wrap64_eq]
theorem cell?_set {w : World} {a : Addr} {v : Value} (h : w.cell? a = some v) (u : Value) : (w.setCell a u).cell? a = some u := by
  simp [go_sem, h]
theorem frozen?_set {w : World} {a : Addr} (h : w.frozen? a = false) (u : Value) : (w.setCell a u).frozen? a = false := by
  simp [go_sem, h]
theorem Kept.set (b : Nat) (w : World) (u : Value) : Kept b w (w.setCell ⟨b, 0, none⟩ u).drew :=
  ⟨⟨rfl, rfl, rfl, by simp [World.setCell], fun k hk hne => Below.heap_setCell w ⟨b, 0, none⟩ u k (fun e => hne (by rw [e]))⟩, fun o ho => by
    show (w.setCell ⟨b, 0, none⟩ u).cell? ⟨b, o, none⟩ = _
    simp [go_sem]⟩

set_option maxHeartbeats 400000 in
theorem addr_any (b : Nat) (t : Int) (a : Option Addr) (n c : Nat) (w : World) (hA : Acc w b t) (hn : n * 24 ≤ 140737488355328) :
    Calls Try.prog 74 #[.pointer (some ⟨b, 0, none⟩), .slice a n c] w fun e w' => e = .returned (.tuple #[]) ∧ Kept b w w' ∧ Acc w' b (wrap64 (t + (1 + (n : Int)))) := by
  obtain ⟨h1, h2⟩ := hA
  go_enter Try.func74, Try.ntmps74
  go_wp2
  go_region_with (go_at_call 33; refine (body_any _ _ _ _ hn).mono ?_; rintro e w' ⟨rfl, rfl⟩)
  all_goals go_end0
  all_goals
    rw [i64_wrap]
    refine ⟨rfl, Kept.set _ _ _, ?_, ?_⟩
    · show (w.setCell ⟨b, 0, none⟩ _).cell? ⟨b, 0, none⟩ = _
      exact cell?_set h1 _
    · show (w.setCell ⟨b, 0, none⟩ _).frozen? ⟨b, 0, none⟩ = _
      exact frozen?_set h2 _

set_option maxHeartbeats 1000000 in
theorem bodies_any (b : Nat) (t : Int) (x : SetD) (w0 w : World) (hx : okSet w0 x) (hB : Below w0.heap.size w0 w) (hb : w0.heap.size ≤ b) (hbw : b < w.heap.size) (hA : Acc w b t) :
    Calls Try.prog 73 #[.agg #[.string x.path, .string x.origin, .slice x.body.a x.body.l.length x.body.c, .slice x.snaps.a x.snaps.l.length x.snaps.c, .slice x.own.a x.own.l.length x.own.c], .func (.func 74) #[.pointer (some ⟨b, 0, none⟩)] #[]] w fun e w' => e = .returned (.tuple #[]) ∧ Kept b w w' ∧ Acc w' b (wrap64 (t + setChg x)) := by
  obtain ⟨path, origin, ⟨ba, bc, bl⟩, ⟨sa, sc, sl⟩, own⟩ := x
  obtain ⟨-, -, hbb, hs, -⟩ := hx
  have hbl := IsSl.len hbb
  have hsl := IsSl.len hs
  dsimp only at hbb hs hbl hsl ⊢
  have HG : Hid (setChg ⟨path, origin, ⟨ba, bc, bl⟩, ⟨sa, sc, sl⟩, own⟩ = 1 + (bl.length : Int) + snapsChg sl) := rfl
  have HB := Lib.hid hB
  have HA := Lib.hid hA
  clear hB hA
  go_enter Try.func73, Try.ntmps73
  go_wp2_with fail
  refine (addr_any b t ba bl.length bc _ (HA.out.below hbw ((Below.refl _ _).alloc (Nat.le_refl _) _)) hbl).mono ?_
  rintro e w1 ⟨rfl, hk1, ha1⟩
  have hK := (Kept.of_below hbw ((Below.refl _ _).alloc (Nat.le_refl _) _)).trans hk1
  have hc3 : w1.cell? ⟨w.heap.size, 3, none⟩ = some (.slice sa sl.length sc) := by rw [hk1.cell (by simp) (by omega)]; go_simp
  have HK := Lib.hid hK
  have HA1 := Lib.hid ha1
  clear hk1 ha1 hK
  go_wp2_with fail
  go_loopw [5, 13] (fun _ i wr => ∃ (k : Nat) (S : Int), k ≤ sl.length ∧ i = .int .i64 k ∧ S + snapsChg (sl.drop k) = 1 + (bl.length : Int) + snapsChg sl ∧ Kept b w wr ∧ Acc wr b (wrap64 (t + S))) (fun _ i _ => sl.length - (intOf i).toNat)
  case atStart => exact ⟨0, 1 + (bl.length : Int), Nat.zero_le _, rfl, by simp, HK.out, HA1.out⟩
  case round =>
    obtain ⟨k, S, hk, rfl, hS, hK, hA⟩ := hrel
    have HS := Lib.hid hS
    have HK := Lib.hid hK
    have HA := Lib.hid hA
    clear hS hK hA
    by_cases hlt : k < sl.length
    · have hbr : b < wr.heap.size := Nat.lt_of_lt_of_le hbw HK.out.g.size
      have hBr := HK.out.below HB.out hb HB.out.size
      obtain ⟨y, bb, off, hy, hsa, hbs, hy0, hy1, hy2, hy3, hy4, hyo⟩ := (hs.below hBr).get hlt
      have hst := Lib.hid (snapsChg_step hy)
      have hyl := IsSl.len hyo.2.2.1
      subst hsa
      have HBR := Lib.hid hBr
      clear hy hyo hBr
      obtain ⟨yn, yg, ⟨ya, yc, yl⟩, yt, yo⟩ := y
      dsimp only at hy0 hy1 hy2 hy3 hy4 hyl hst
      go_wp2_with fail
      refine (addr_any b _ ya yl.length yc _ (HA.out.below hbr ((Below.refl _ _).alloc (Nat.le_refl _) _)) hyl).mono ?_
      rintro e w2 ⟨rfl, hk2, ha2⟩
      have hK2 := Lib.hid ((HK.out.trans (Kept.of_below hbr ((Below.refl _ _).alloc (Nat.le_refl _) _))).trans hk2)
      have hA2 := Lib.hid ha2
      clear hk2 ha2
      go_wp2_with fail
      go_roundw
      case rel => exact ⟨k + 1, S + (1 + (yl.length : Int)), by omega, by go_num, by have h1 := HS.out; have h2 := hst.out; omega, hK2.out, by have := hA2.out; rwa [wrap_add (S := t + S) rfl, Int.add_assoc] at this⟩
      case measure => simp [intOf]; omega
    · have hn : snapsChg (sl.drop k) = 0 := by rw [List.drop_of_length_le (by omega)]; rfl
      have HN := Lib.hid hn
      clear hn
      go_wp2_with fail
      go_end0
      exact ⟨rfl, HK.out, by rw [HG.out]; have h1 := HS.out; rw [HN.out] at h1; rw [← h1, Int.add_zero]; exact HA.out⟩

theorem set_any (b : Nat) (t : Int) (x : SetD) (w0 w : World) (hx : okSet w0 x) (hB : Below w0.heap.size w0 w) (hb : w0.heap.size ≤ b) (hbw : b < w.heap.size) (hA : Acc w b t) :
    Calls Try.prog 54 #[.pointer (some ⟨b, 0, none⟩), .agg #[.string x.path, .string x.origin, .slice x.body.a x.body.l.length x.body.c, .slice x.snaps.a x.snaps.l.length x.snaps.c, .slice x.own.a x.own.l.length x.own.c]] w fun e w' => e = .returned (.tuple #[]) ∧ Kept b w w' ∧ Acc w' b (wrap64 (t + setChg x)) := by
  have HB := Lib.hid hB
  have HA := Lib.hid hA
  have HX := Lib.hid hx
  clear hB hA hx
  go_enter Try.func54, Try.ntmps54
  go_wp2_with fail
  refine (bodies_any b t x w0 _ HX.out (HB.out.alloc HB.out.size _) hb (by simp; omega) (HA.out.below hbw ((Below.refl _ _).alloc (Nat.le_refl _) _))).mono ?_
  rintro e w2 ⟨rfl, hk2, ha2⟩
  go_wp2_with fail
  go_end0
  exact ⟨rfl, (Kept.of_below hbw ((Below.refl _ _).alloc (Nat.le_refl _) _)).trans hk2, ha2⟩

theorem Set_any (x : SetD) (w : World) (hx : okSet w x) :
    Calls Try.prog 23 #[.agg #[.string x.path, .string x.origin, .slice x.body.a x.body.l.length x.body.c, .slice x.snaps.a x.snaps.l.length x.snaps.c, .slice x.own.a x.own.l.length x.own.c]] w fun e w' => e = .returned (.int .i64 (wrap64 (setChg x))) ∧ Below w.heap.size w w' := by
  have HX := Lib.hid hx
  clear hx
  go_enter Try.func23, Try.ntmps23
  go_wp2_with fail
  refine (set_any (w.heap.size + 1) 0 x w _ HX.out (((Below.refl _ _).alloc (Nat.le_refl _) _).alloc (by simp) _) (by omega) (by simp) ⟨by go_simp, by go_simp⟩).mono ?_
  rintro e w2 ⟨rfl, hk2, ha2⟩
  have hb2 := hk2.below (((Below.refl w.heap.size w).alloc (Nat.le_refl _) _).alloc (by simp) _) (by omega) (by simp; omega)
  obtain ⟨hc, -⟩ := ha2
  rw [Int.zero_add] at hc
  have HB2 := Lib.hid hb2
  clear hb2 hk2
  go_wp2_with fail
  go_ret
  exact ⟨rfl, HB2.out⟩

def Counted (chg quota : Int) (w : World) (e : Ending) (w' : World) : Prop :=
  ∃ b, e = .returned (.pointer (some ⟨b, 0, none⟩)) ∧ Below w.heap.size w w' ∧ b < w'.heap.size ∧ w'.cell? ⟨b, 0, none⟩ = some (.int .i64 (wrap64 chg)) ∧ w'.cell? ⟨b, 1, none⟩ = some (.int .i64 quota)

/-- what a round of 'counted' finds, S summed up -/
structure CInv (w : World) (st : Value) (quota S : Int) (wr : World) : Prop where
  below : Below w.heap.size w wr
  size : w.heap.size + 1 < wr.heap.size
  five : wr.cell? ⟨w.heap.size, 5, none⟩ = some st
  quota : wr.cell? ⟨w.heap.size + 1, 1, none⟩ = some (.int .i64 quota)
  acc : Acc wr (w.heap.size + 1) (wrap64 S)

theorem CInv.kept {w wr w' : World} {st : Value} {quota S S' : Int} (h : CInv w st quota S wr) (hk : Kept (w.heap.size + 1) wr w') (ha : Acc w' (w.heap.size + 1) (wrap64 S')) : CInv w st quota S' w' :=
  ⟨hk.below h.below (by omega) h.below.size, Nat.lt_of_lt_of_le h.size hk.g.size, by rw [hk.cell (by have := h.size; omega) (by omega)]; exact h.five, by rw [hk.rest 1 (by omega)]; exact h.quota, ha⟩

theorem CInv.set {w wr : World} {st : Value} {quota S : Int} (h : CInv w st quota S wr) (y : SetD) (hy : okSet w y) (o : Obj) :
    Calls Try.prog 54 #[.pointer (some ⟨w.heap.size + 1, 0, none⟩), .agg #[.string y.path, .string y.origin, .slice y.body.a y.body.l.length y.body.c, .slice y.snaps.a y.snaps.l.length y.snaps.c, .slice y.own.a y.own.l.length y.own.c]] (wr.alloc o).drew fun e w' => e = .returned (.tuple #[]) ∧ CInv w st quota (S + setChg y) w' := by
  have hB : Below wr.heap.size wr (wr.alloc o).drew := ((Below.refl _ _).alloc (Nat.le_refl _) _).drew
  have hsz := h.size
  refine (set_any (w.heap.size + 1) (wrap64 S) y w _ hy (h.below.trans (hB.mono h.below.size)) (by omega) (by have := hB.size; omega) (h.acc.below hsz hB)).mono ?_
  rintro e w' ⟨rfl, hk, ha⟩
  rw [wrap_add rfl] at ha
  exact ⟨rfl, h.kept ((Kept.of_below hsz hB).trans hk) ha⟩

theorem CInv.add {w wr : World} {st : Value} {quota S : Int} (h : CInv w st quota S wr) (a : Option Addr) (n c : Nat) (hn : n * 24 ≤ 140737488355328) (o : Obj) :
    Calls Try.prog 74 #[.pointer (some ⟨w.heap.size + 1, 0, none⟩), .slice a n c] (wr.alloc o).drew fun e w' => e = .returned (.tuple #[]) ∧ CInv w st quota (S + (1 + (n : Int))) w' := by
  have hB : Below wr.heap.size wr (wr.alloc o).drew := ((Below.refl _ _).alloc (Nat.le_refl _) _).drew
  have hsz := h.size
  refine (addr_any (w.heap.size + 1) (wrap64 S) a n c _ (h.acc.below hsz hB) hn).mono ?_
  rintro e w' ⟨rfl, hk, ha⟩
  rw [wrap_add rfl] at ha
  exact ⟨rfl, h.kept ((Kept.of_below hsz hB).trans hk) ha⟩

end Go.Proofs.Ytbkghiaafkmapaa
