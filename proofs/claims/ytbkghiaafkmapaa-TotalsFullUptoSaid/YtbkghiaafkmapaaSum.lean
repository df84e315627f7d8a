/- The walk of totals.Sum: rows' sums. No condition but that what comes in reads as data. -/
import Derived.Test.YtbkghiaafkmapaaColumn
import Derived.Deep.RegionHeld3
namespace Go.Proofs.Ytbkghiaafkmapaa
open Go.ChangeShapes Go.WideShapes Go.ChangeAt Go.RowKit

theorem cf63 (args : Array Value) (W : World) : Sem.run Try.prog (callFunc 63 args) W = .ok (.enter 63 args) W := by go_simp
theorem cf64 (args : Array Value) (W : World) : Sem.run Try.prog (callFunc 64 args) W = .ok (.enter 64 args) W := by go_simp
theorem cf65 (args : Array Value) (W : World) : Sem.run Try.prog (callFunc 65 args) W = .ok (.enter 65 args) W := by go_simp
theorem cf66 (args : Array Value) (W : World) : Sem.run Try.prog (callFunc 66 args) W = .ok (.enter 66 args) W := by go_simp
theorem cf67 (args : Array Value) (W : World) : Sem.run Try.prog (callFunc 67 args) W = .ok (.enter 67 args) W := by go_simp

theorem RowAt.grown {w w' : World} {r ab : Nat} {y : RowD} (h : RowAt w r y) (hg : w.grownBy w' (some ab)) (hne : r ≠ ab) : RowAt w' r y := by
  have hb : ∀ o, w'.cell? ⟨r, o, none⟩ = w.cell? ⟨r, o, none⟩ := fun o => World.cell?_of_block (hg.block r h.lt (fun e => hne (by injection e)))
  have hf : ∀ o, w'.frozen? ⟨r, o, none⟩ = w.frozen? ⟨r, o, none⟩ := fun o => World.frozen?_of_block (hg.block r h.lt (fun e => hne (by injection e)))
  exact ⟨Nat.lt_of_lt_of_le h.lt hg.size, (hb 0).trans h.c0, (hb 1).trans h.c1, (hb 2).trans h.c2, (hb 3).trans h.c3, (hb 4).trans h.c4, (hb 5).trans h.c5, fun o => (hf o).trans (h.f o)⟩
theorem Adder.far {w : World} {ab n rc b o : Nat} {ra : Option Addr} {e : Int} {v : Value} (h : Adder w ab ra n rc e) (hne : ab ≠ b) : Adder (w.setCell ⟨b, o, none⟩ v) ab ra n rc e := by
  have hz := ((Below.refl 0 w).setCell (p := ⟨b, o, none⟩) (Nat.zero_le _) v).size
  exact ⟨Nat.lt_of_lt_of_le h.lt hz, by rw [World.cell?_setCell_other _ _ _ _ (by intro e; simp at e; try omega)]; exact h.c0, by rw [World.cell?_setCell_other _ _ _ _ (by intro e; simp at e; try omega)]; exact h.c1, by rw [World.frozen?_setCell]; exact h.f1⟩
/-- Sum's boxes: the result's row, the adder, the sum on its way; what comes in stands -/
structure SInv (w : World) (ra : Option Addr) (rc : Nat) (l : List RowD) (e : Int) (y : RowD) (wr : World) : Prop where
  below : Below w.heap.size w wr
  res : RowAt wr w.heap.size (⟨⟨#[]⟩, 0, 0, 0, 0, 0⟩ : RowD)
  add : Adder wr (w.heap.size + 1) ra l.length rc e
  out : RowAt wr (w.heap.size + 2) y
theorem SInv.col {w wr w' : World} {ra : Option Addr} {rc : Nat} {l : List RowD} {e e' : Int} {y : RowD} (h : SInv w ra rc l e y wr) (hg : wr.grownBy w' (some (w.heap.size + 1))) (ha : Adder w' (w.heap.size + 1) ra l.length rc e') : SInv w ra rc l e' y w' :=
  ⟨h.below.grown hg h.below.size (fun q hq => by injection hq; omega), h.res.grown hg (by omega), ha, h.out.grown hg (by omega)⟩
theorem SInv.s_sets {w wr : World} {ra : Option Addr} {rc : Nat} {l : List RowD} {e : Int} {y : RowD} (h : SInv w ra rc l e y wr) (n : Int) : SInv w ra rc l e { y with sets := n } (wr.setCell ⟨w.heap.size + 2, 1, none⟩ (.int .i64 n)) :=
  ⟨h.below.setCell (show w.heap.size ≤ w.heap.size + 2 by omega) _, h.res.far (by omega), h.add.far (by omega), h.out.set1 n⟩
theorem SInv.s_snaps {w wr : World} {ra : Option Addr} {rc : Nat} {l : List RowD} {e : Int} {y : RowD} (h : SInv w ra rc l e y wr) (n : Int) : SInv w ra rc l e { y with snaps := n } (wr.setCell ⟨w.heap.size + 2, 2, none⟩ (.int .i64 n)) :=
  ⟨h.below.setCell (show w.heap.size ≤ w.heap.size + 2 by omega) _, h.res.far (by omega), h.add.far (by omega), h.out.set2 n⟩
theorem SInv.s_blocks {w wr : World} {ra : Option Addr} {rc : Nat} {l : List RowD} {e : Int} {y : RowD} (h : SInv w ra rc l e y wr) (n : Int) : SInv w ra rc l e { y with blocks := n } (wr.setCell ⟨w.heap.size + 2, 3, none⟩ (.int .i64 n)) :=
  ⟨h.below.setCell (show w.heap.size ≤ w.heap.size + 2 by omega) _, h.res.far (by omega), h.add.far (by omega), h.out.set3 n⟩
theorem SInv.s_charge {w wr : World} {ra : Option Addr} {rc : Nat} {l : List RowD} {e : Int} {y : RowD} (h : SInv w ra rc l e y wr) (n : Int) : SInv w ra rc l e { y with charge := n } (wr.setCell ⟨w.heap.size + 2, 4, none⟩ (.int .i64 n)) :=
  ⟨h.below.setCell (show w.heap.size ≤ w.heap.size + 2 by omega) _, h.res.far (by omega), h.add.far (by omega), h.out.set4 n⟩
theorem SInv.s_quota {w wr : World} {ra : Option Addr} {rc : Nat} {l : List RowD} {e : Int} {y : RowD} (h : SInv w ra rc l e y wr) (n : Int) : SInv w ra rc l e { y with quota := n } (wr.setCell ⟨w.heap.size + 2, 5, none⟩ (.int .i64 n)) :=
  ⟨h.below.setCell (show w.heap.size ≤ w.heap.size + 2 by omega) _, h.res.far (by omega), h.add.far (by omega), h.out.set5 n⟩

/-- the first error of the columns' sums -/
def sumE (l : List RowD) : Int := errUp (errUp (errUp (errUp (errUp 0 (addE (colOf RowD.sets l))) (addE (colOf RowD.snaps l))) (addE (colOf RowD.blocks l))) (addE (colOf RowD.charge l))) (addE (colOf RowD.quota l))
/-- the columns' sums -/
def sumR (l : List RowD) : RowD := if sumE l = 0 then ⟨⟨#[]⟩, addN (colOf RowD.sets l), addN (colOf RowD.snaps l), addN (colOf RowD.blocks l), addN (colOf RowD.charge l), addN (colOf RowD.quota l)⟩ else ⟨⟨#[]⟩, 0, 0, 0, 0, 0⟩
theorem col_inR {w : World} {a : Option Addr} {c : Nat} {l : List RowD} (h : IsRows w ⟨a, c, l⟩) (f : RowD → Int) (hf : ∀ r, okRow w r → InR (f r)) : ∀ z ∈ colOf f l, InR z := by
  intro z hz
  obtain ⟨x, hx, rfl⟩ := List.mem_map.1 hz
  obtain ⟨k, hk⟩ := List.getElem?_of_mem hx
  exact hf x (IsSl.at' h k x hk).2

set_option maxRecDepth 100000 in
set_option maxHeartbeats 4000000 in
theorem Sum_any (ra : Option Addr) (rc : Nat) (l : List RowD) (w : World) (h : IsRows w ⟨ra, rc, l⟩) :
    Calls Try.prog 47 #[.slice ra l.length rc] w fun e w' => e = .returned (.tuple #[.agg (cellsRow (sumR l)).toArray, .int .i64 (sumE l)]) ∧ Below w.heap.size w w' := by
  have HSE : Hid (sumE l = errUp (errUp (errUp (errUp (errUp 0 (addE (colOf RowD.sets l))) (addE (colOf RowD.snaps l))) (addE (colOf RowD.blocks l))) (addE (colOf RowD.charge l))) (addE (colOf RowD.quota l))) := rfl
  have HSR : Hid (sumR l = if sumE l = 0 then ⟨⟨#[]⟩, addN (colOf RowD.sets l), addN (colOf RowD.snaps l), addN (colOf RowD.blocks l), addN (colOf RowD.charge l), addN (colOf RowD.quota l)⟩ else ⟨⟨#[]⟩, 0, 0, 0, 0, 0⟩) := rfl
  generalize sumR l = sr at *
  generalize sumE l = se at *
  have HR := Lib.hid h
  have hc63 := fun (e0 : Int) (W : World) (hB : Below w.heap.size w W) (ha : Adder W (w.heap.size + 1) ra l.length rc e0) => column_any RowD.sets 63 r_sets_any (w.heap.size + 1) ra rc l e0 W cf63 (col_inR h RowD.sets (fun r hr => hr.2.1)) (h.below hB) ha
  generalize addN (colOf RowD.sets l) = n63 at *
  generalize addE (colOf RowD.sets l) = e63 at *
  have HC63 := Lib.hid hc63
  clear hc63
  have hc64 := fun (e0 : Int) (W : World) (hB : Below w.heap.size w W) (ha : Adder W (w.heap.size + 1) ra l.length rc e0) => column_any RowD.snaps 64 r_snaps_any (w.heap.size + 1) ra rc l e0 W cf64 (col_inR h RowD.snaps (fun r hr => hr.2.2.1)) (h.below hB) ha
  generalize addN (colOf RowD.snaps l) = n64 at *
  generalize addE (colOf RowD.snaps l) = e64 at *
  have HC64 := Lib.hid hc64
  clear hc64
  have hc65 := fun (e0 : Int) (W : World) (hB : Below w.heap.size w W) (ha : Adder W (w.heap.size + 1) ra l.length rc e0) => column_any RowD.blocks 65 r_blocks_any (w.heap.size + 1) ra rc l e0 W cf65 (col_inR h RowD.blocks (fun r hr => hr.2.2.2.1)) (h.below hB) ha
  generalize addN (colOf RowD.blocks l) = n65 at *
  generalize addE (colOf RowD.blocks l) = e65 at *
  have HC65 := Lib.hid hc65
  clear hc65
  have hc66 := fun (e0 : Int) (W : World) (hB : Below w.heap.size w W) (ha : Adder W (w.heap.size + 1) ra l.length rc e0) => column_any RowD.charge 66 r_charge_any (w.heap.size + 1) ra rc l e0 W cf66 (col_inR h RowD.charge (fun r hr => hr.2.2.2.2.1)) (h.below hB) ha
  generalize addN (colOf RowD.charge l) = n66 at *
  generalize addE (colOf RowD.charge l) = e66 at *
  have HC66 := Lib.hid hc66
  clear hc66
  have hc67 := fun (e0 : Int) (W : World) (hB : Below w.heap.size w W) (ha : Adder W (w.heap.size + 1) ra l.length rc e0) => column_any RowD.quota 67 r_quota_any (w.heap.size + 1) ra rc l e0 W cf67 (col_inR h RowD.quota (fun r hr => hr.2.2.2.2.2)) (h.below hB) ha
  generalize addN (colOf RowD.quota l) = n67 at *
  generalize addE (colOf RowD.quota l) = e67 at *
  have HC67 := Lib.hid hc67
  clear hc67
  clear h
  have HI0 : Hid (SInv w ra rc l 0 (⟨⟨#[]⟩, 0, 0, 0, 0, 0⟩ : RowD) (((w.alloc (.cells #[.string ⟨#[]⟩, .int .i64 0, .int .i64 0, .int .i64 0, .int .i64 0, .int .i64 0] 59)).alloc (.cells #[.slice ra l.length rc, .int .i64 0] 106)).alloc (.cells #[.string ⟨#[]⟩, .int .i64 0, .int .i64 0, .int .i64 0, .int .i64 0, .int .i64 0] 59))) :=
    ⟨(((Below.refl _ _).alloc (Nat.le_refl _) _).alloc (by simp) _).alloc (by first | omega | (simp; done) | (simp; omega)) _,
      (RowAt.new w (⟨⟨#[]⟩, 0, 0, 0, 0, 0⟩ : RowD)).below (((Below.refl (w.heap.size + 1) (w.alloc (.cells #[.string ⟨#[]⟩, .int .i64 0, .int .i64 0, .int .i64 0, .int .i64 0, .int .i64 0] 59))).alloc (by simp) _).alloc (by simp) _) (by omega),
      ⟨by first | omega | (simp; done) | (simp; omega), by go_simp, by go_simp, by go_simp⟩,
      RowAt.new' _ (⟨⟨#[]⟩, 0, 0, 0, 0, 0⟩ : RowD) _ (by simp)⟩
  go_enter Try.func47, Try.ntmps47
  go_wp2_with fail
  refine (HC63.out _ _ HI0.out.below HI0.out.add).mono ?_
  rintro e w1 ⟨rfl, hg, ha⟩
  have HJ1 := Lib.hid (HI0.out.col hg ha)
  have HI1 := Lib.hid (HJ1.out.s_sets n63)
  clear hg ha HI0
  have o1 := HJ1.out.out.c1
  have f1 := HJ1.out.out.f 1
  dsimp only at o1
  go_wp2_with fail
  refine (HC64.out _ _ HI1.out.below HI1.out.add).mono ?_
  rintro e w2 ⟨rfl, hg, ha⟩
  have HJ2 := Lib.hid (HI1.out.col hg ha)
  have HI2 := Lib.hid (HJ2.out.s_snaps n64)
  clear hg ha HI1
  have o2 := HJ2.out.out.c2
  have f2 := HJ2.out.out.f 2
  dsimp only at o2
  go_wp2_with fail
  refine (HC65.out _ _ HI2.out.below HI2.out.add).mono ?_
  rintro e w3 ⟨rfl, hg, ha⟩
  have HJ3 := Lib.hid (HI2.out.col hg ha)
  have HI3 := Lib.hid (HJ3.out.s_blocks n65)
  clear hg ha HI2
  have o3 := HJ3.out.out.c3
  have f3 := HJ3.out.out.f 3
  dsimp only at o3
  go_wp2_with fail
  refine (HC66.out _ _ HI3.out.below HI3.out.add).mono ?_
  rintro e w4 ⟨rfl, hg, ha⟩
  have HJ4 := Lib.hid (HI3.out.col hg ha)
  have HI4 := Lib.hid (HJ4.out.s_charge n66)
  clear hg ha HI3
  have o4 := HJ4.out.out.c4
  have f4 := HJ4.out.out.f 4
  dsimp only at o4
  go_wp2_with fail
  refine (HC67.out _ _ HI4.out.below HI4.out.add).mono ?_
  rintro e w5 ⟨rfl, hg, ha⟩
  have HJ5 := Lib.hid (HI4.out.col hg ha)
  have HI5 := Lib.hid (HJ5.out.s_quota n67)
  clear hg ha HI4
  have o5 := HJ5.out.out.c5
  have f5 := HJ5.out.out.f 5
  dsimp only at o5
  have a1 : w5.cell? ⟨w.heap.size + 1, 1, none⟩ = some (.int .i64 se) := by rw [HSE.out]; exact HJ5.out.add.c1
  obtain ⟨-, d0, d1, d2, d3, d4, -, -⟩ := HJ5.out.out
  obtain ⟨-, g0, g1, g2, g3, g4, g5, gf⟩ := HJ5.out.res
  dsimp only at d0 d1 d2 d3 d4 g0 g1 g2 g3 g4 g5
  have gf0 := gf 0
  have gf1 := gf 1
  have gf2 := gf 2
  have gf3 := gf 3
  have gf4 := gf 4
  have gf5 := gf 5
  clear gf o1 o2 o3 o4 f1 f2 f3 f4 HJ1 HJ2 HJ3 HJ4 HC63 HC64 HC65 HC66 HC67 HR
  by_cases hse : se = 0
  · have HSR' : Hid (sr = ⟨⟨#[]⟩, n63, n64, n65, n66, n67⟩) := by show _ = _; rw [HSR.out, if_pos hse]
    clear HSR HSE
    subst hse
    have hR : RowAt (((((((w5.setCell ⟨w.heap.size + 2, 5, none⟩ (.int .i64 n67)).setCell ⟨w.heap.size, 0, none⟩ (.string ⟨#[]⟩)).setCell ⟨w.heap.size, 1, none⟩ (.int .i64 n63)).setCell ⟨w.heap.size, 2, none⟩ (.int .i64 n64)).setCell ⟨w.heap.size, 3, none⟩ (.int .i64 n65)).setCell ⟨w.heap.size, 4, none⟩ (.int .i64 n66)).setCell ⟨w.heap.size, 5, none⟩ (.int .i64 n67)) w.heap.size ⟨⟨#[]⟩, n63, n64, n65, n66, n67⟩ := (((((HI5.out.res.set0 ⟨#[]⟩).set1 _).set2 _).set3 _).set4 _).set5 _
    have hB : Below w.heap.size w (((((((w5.setCell ⟨w.heap.size + 2, 5, none⟩ (.int .i64 n67)).setCell ⟨w.heap.size, 0, none⟩ (.string ⟨#[]⟩)).setCell ⟨w.heap.size, 1, none⟩ (.int .i64 n63)).setCell ⟨w.heap.size, 2, none⟩ (.int .i64 n64)).setCell ⟨w.heap.size, 3, none⟩ (.int .i64 n65)).setCell ⟨w.heap.size, 4, none⟩ (.int .i64 n66)).setCell ⟨w.heap.size, 5, none⟩ (.int .i64 n67)) := (((((HI5.out.below.setCell (Nat.le_refl _) _).setCell (Nat.le_refl _) _).setCell (Nat.le_refl _) _).setCell (Nat.le_refl _) _).setCell (Nat.le_refl _) _).setCell (Nat.le_refl _) _
    have HR := Lib.hid hR
    have HB := Lib.hid hB
    clear hR hB HI5 HJ5
    go_wp2_with fail
    generalize (((((((w5.setCell ⟨w.heap.size + 2, 5, none⟩ (.int .i64 n67)).setCell ⟨w.heap.size, 0, none⟩ (.string ⟨#[]⟩)).setCell ⟨w.heap.size, 1, none⟩ (.int .i64 n63)).setCell ⟨w.heap.size, 2, none⟩ (.int .i64 n64)).setCell ⟨w.heap.size, 3, none⟩ (.int .i64 n65)).setCell ⟨w.heap.size, 4, none⟩ (.int .i64 n66)).setCell ⟨w.heap.size, 5, none⟩ (.int .i64 n67)) = Wf at *
    obtain ⟨-, e0, e1, e2, e3, e4, e5, -⟩ := HR.out
    dsimp only at e0 e1 e2 e3 e4 e5
    exact bodyPost_ret (v := .tuple #[.agg #[.string ⟨#[]⟩, .int .i64 n63, .int .i64 n64, .int .i64 n65, .int .i64 n66, .int .i64 n67], .int .i64 0]) (by simp [results, Try.results47, go_sem, e0, e1, e2, e3, e4, e5]) rfl ⟨by rw [HSR'.out]; rfl, HB.out⟩
  · have HSR' : Hid (sr = ⟨⟨#[]⟩, 0, 0, 0, 0, 0⟩) := by show _ = _; rw [HSR.out, if_neg hse]
    have hse1 : (se == 0) = false := by simpa using hse
    have hse2 : (se != 0) = true := by simpa using hse
    have hR : RowAt (((((((w5.setCell ⟨w.heap.size + 2, 5, none⟩ (.int .i64 n67)).setCell ⟨w.heap.size, 0, none⟩ (.string ⟨#[]⟩)).setCell ⟨w.heap.size, 1, none⟩ (.int .i64 0)).setCell ⟨w.heap.size, 2, none⟩ (.int .i64 0)).setCell ⟨w.heap.size, 3, none⟩ (.int .i64 0)).setCell ⟨w.heap.size, 4, none⟩ (.int .i64 0)).setCell ⟨w.heap.size, 5, none⟩ (.int .i64 0)) w.heap.size ⟨⟨#[]⟩, 0, 0, 0, 0, 0⟩ := (((((HI5.out.res.set0 ⟨#[]⟩).set1 _).set2 _).set3 _).set4 _).set5 _
    have hB : Below w.heap.size w (((((((w5.setCell ⟨w.heap.size + 2, 5, none⟩ (.int .i64 n67)).setCell ⟨w.heap.size, 0, none⟩ (.string ⟨#[]⟩)).setCell ⟨w.heap.size, 1, none⟩ (.int .i64 0)).setCell ⟨w.heap.size, 2, none⟩ (.int .i64 0)).setCell ⟨w.heap.size, 3, none⟩ (.int .i64 0)).setCell ⟨w.heap.size, 4, none⟩ (.int .i64 0)).setCell ⟨w.heap.size, 5, none⟩ (.int .i64 0)) := (((((HI5.out.below.setCell (Nat.le_refl _) _).setCell (Nat.le_refl _) _).setCell (Nat.le_refl _) _).setCell (Nat.le_refl _) _).setCell (Nat.le_refl _) _).setCell (Nat.le_refl _) _
    have HR := Lib.hid hR
    have HB := Lib.hid hB
    clear hR hB HI5 HJ5 HSR HSE hse d0 d1 d2 d3 d4
    go_wp2_with fail
    go_region_held3 (fun w' => w'.cell? ⟨w.heap.size + 1, 1, none⟩ = some (.int .i64 se)) (go_keep) (fail)
    go_wp2_with fail
    generalize (((((((w5.setCell ⟨w.heap.size + 2, 5, none⟩ (.int .i64 n67)).setCell ⟨w.heap.size, 0, none⟩ (.string ⟨#[]⟩)).setCell ⟨w.heap.size, 1, none⟩ (.int .i64 0)).setCell ⟨w.heap.size, 2, none⟩ (.int .i64 0)).setCell ⟨w.heap.size, 3, none⟩ (.int .i64 0)).setCell ⟨w.heap.size, 4, none⟩ (.int .i64 0)).setCell ⟨w.heap.size, 5, none⟩ (.int .i64 0)) = Wf at *
    obtain ⟨-, e0, e1, e2, e3, e4, e5, -⟩ := HR.out
    dsimp only at e0 e1 e2 e3 e4 e5
    exact bodyPost_ret (v := .tuple #[.agg #[.string ⟨#[]⟩, .int .i64 0, .int .i64 0, .int .i64 0, .int .i64 0, .int .i64 0], .int .i64 se]) (by simp [results, Try.results47, go_sem, e0, e1, e2, e3, e4, e5]) rfl ⟨by rw [HSR'.out]; rfl, HB.out.drew⟩
end Go.Proofs.Ytbkghiaafkmapaa
