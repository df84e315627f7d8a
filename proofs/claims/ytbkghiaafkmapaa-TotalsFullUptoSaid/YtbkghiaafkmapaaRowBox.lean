/- A totals.Row in a box of the call's own, and what a tenant's row tells. No condition. -/
import Derived.Test.YtbkghiaafkmapaaRowed
namespace Go.Proofs.Ytbkghiaafkmapaa
open Go.ChangeShapes Go.WideShapes Go.ChangeAt Go.RowKit

/-- a row stands in block r, and may be written -/
structure RowAt (w : World) (r : Nat) (y : RowD) : Prop where
  lt : r < w.heap.size
  c0 : w.cell? ⟨r, 0, none⟩ = some (.string y.name)
  c1 : w.cell? ⟨r, 1, none⟩ = some (.int .i64 y.sets)
  c2 : w.cell? ⟨r, 2, none⟩ = some (.int .i64 y.snaps)
  c3 : w.cell? ⟨r, 3, none⟩ = some (.int .i64 y.blocks)
  c4 : w.cell? ⟨r, 4, none⟩ = some (.int .i64 y.charge)
  c5 : w.cell? ⟨r, 5, none⟩ = some (.int .i64 y.quota)
  f : ∀ o, w.frozen? ⟨r, o, none⟩ = false
theorem RowAt.below {w w' : World} {r B : Nat} {y : RowD} (h : RowAt w r y) (hb : Below B w w') (hr : r < B) : RowAt w' r y :=
  ⟨Nat.lt_of_lt_of_le h.lt hb.size, by rw [hb.cell (p := ⟨r, 0, none⟩) hr]; exact h.c0, by rw [hb.cell (p := ⟨r, 1, none⟩) hr]; exact h.c1, by rw [hb.cell (p := ⟨r, 2, none⟩) hr]; exact h.c2,
    by rw [hb.cell (p := ⟨r, 3, none⟩) hr]; exact h.c3, by rw [hb.cell (p := ⟨r, 4, none⟩) hr]; exact h.c4, by rw [hb.cell (p := ⟨r, 5, none⟩) hr]; exact h.c5, fun o => by rw [hb.frozen (p := ⟨r, o, none⟩) hr]; exact h.f o⟩
theorem RowAt.far {w : World} {r b o : Nat} {y : RowD} {v : Value} (h : RowAt w r y) (hne : r ≠ b) : RowAt (w.setCell ⟨b, o, none⟩ v) r y := by
  have hz := ((Below.refl 0 w).setCell (p := ⟨b, o, none⟩) (Nat.zero_le _) v).size
  refine ⟨Nat.lt_of_lt_of_le h.lt hz, ?_, ?_, ?_, ?_, ?_, ?_, fun o => ?_⟩
  · rw [World.cell?_setCell_other _ _ _ _ (by intro e; simp at e; try omega)]; exact h.c0
  · rw [World.cell?_setCell_other _ _ _ _ (by intro e; simp at e; try omega)]; exact h.c1
  · rw [World.cell?_setCell_other _ _ _ _ (by intro e; simp at e; try omega)]; exact h.c2
  · rw [World.cell?_setCell_other _ _ _ _ (by intro e; simp at e; try omega)]; exact h.c3
  · rw [World.cell?_setCell_other _ _ _ _ (by intro e; simp at e; try omega)]; exact h.c4
  · rw [World.cell?_setCell_other _ _ _ _ (by intro e; simp at e; try omega)]; exact h.c5
  · rw [World.frozen?_setCell]; exact h.f o
theorem RowAt.drew {w : World} {r : Nat} {y : RowD} (h : RowAt w r y) : RowAt w.drew r y := ⟨h.lt, h.c0, h.c1, h.c2, h.c3, h.c4, h.c5, h.f⟩
theorem RowAt.set1 {w : World} {r : Nat} {y : RowD} (h : RowAt w r y) (n : Int) : RowAt (w.setCell ⟨r, 1, none⟩ (.int .i64 n)) r { y with sets := n } := by
  have hz := ((Below.refl 0 w).setCell (p := ⟨r, 1, none⟩) (Nat.zero_le _) (.int .i64 n)).size
  refine ⟨Nat.lt_of_lt_of_le h.lt hz, ?_, ?_, ?_, ?_, ?_, ?_, fun o => ?_⟩
  · rw [World.cell?_setCell_other _ _ _ _ (by simp)]; exact h.c0
  · exact World.cell?_setCell_same _ _ _ h.c1
  · rw [World.cell?_setCell_other _ _ _ _ (by simp)]; exact h.c2
  · rw [World.cell?_setCell_other _ _ _ _ (by simp)]; exact h.c3
  · rw [World.cell?_setCell_other _ _ _ _ (by simp)]; exact h.c4
  · rw [World.cell?_setCell_other _ _ _ _ (by simp)]; exact h.c5
  · rw [World.frozen?_setCell]; exact h.f o
theorem RowAt.set2 {w : World} {r : Nat} {y : RowD} (h : RowAt w r y) (n : Int) : RowAt (w.setCell ⟨r, 2, none⟩ (.int .i64 n)) r { y with snaps := n } := by
  have hz := ((Below.refl 0 w).setCell (p := ⟨r, 2, none⟩) (Nat.zero_le _) (.int .i64 n)).size
  refine ⟨Nat.lt_of_lt_of_le h.lt hz, ?_, ?_, ?_, ?_, ?_, ?_, fun o => ?_⟩
  · rw [World.cell?_setCell_other _ _ _ _ (by simp)]; exact h.c0
  · rw [World.cell?_setCell_other _ _ _ _ (by simp)]; exact h.c1
  · exact World.cell?_setCell_same _ _ _ h.c2
  · rw [World.cell?_setCell_other _ _ _ _ (by simp)]; exact h.c3
  · rw [World.cell?_setCell_other _ _ _ _ (by simp)]; exact h.c4
  · rw [World.cell?_setCell_other _ _ _ _ (by simp)]; exact h.c5
  · rw [World.frozen?_setCell]; exact h.f o
theorem RowAt.set3 {w : World} {r : Nat} {y : RowD} (h : RowAt w r y) (n : Int) : RowAt (w.setCell ⟨r, 3, none⟩ (.int .i64 n)) r { y with blocks := n } := by
  have hz := ((Below.refl 0 w).setCell (p := ⟨r, 3, none⟩) (Nat.zero_le _) (.int .i64 n)).size
  refine ⟨Nat.lt_of_lt_of_le h.lt hz, ?_, ?_, ?_, ?_, ?_, ?_, fun o => ?_⟩
  · rw [World.cell?_setCell_other _ _ _ _ (by simp)]; exact h.c0
  · rw [World.cell?_setCell_other _ _ _ _ (by simp)]; exact h.c1
  · rw [World.cell?_setCell_other _ _ _ _ (by simp)]; exact h.c2
  · exact World.cell?_setCell_same _ _ _ h.c3
  · rw [World.cell?_setCell_other _ _ _ _ (by simp)]; exact h.c4
  · rw [World.cell?_setCell_other _ _ _ _ (by simp)]; exact h.c5
  · rw [World.frozen?_setCell]; exact h.f o
theorem RowAt.set4 {w : World} {r : Nat} {y : RowD} (h : RowAt w r y) (n : Int) : RowAt (w.setCell ⟨r, 4, none⟩ (.int .i64 n)) r { y with charge := n } := by
  have hz := ((Below.refl 0 w).setCell (p := ⟨r, 4, none⟩) (Nat.zero_le _) (.int .i64 n)).size
  refine ⟨Nat.lt_of_lt_of_le h.lt hz, ?_, ?_, ?_, ?_, ?_, ?_, fun o => ?_⟩
  · rw [World.cell?_setCell_other _ _ _ _ (by simp)]; exact h.c0
  · rw [World.cell?_setCell_other _ _ _ _ (by simp)]; exact h.c1
  · rw [World.cell?_setCell_other _ _ _ _ (by simp)]; exact h.c2
  · rw [World.cell?_setCell_other _ _ _ _ (by simp)]; exact h.c3
  · exact World.cell?_setCell_same _ _ _ h.c4
  · rw [World.cell?_setCell_other _ _ _ _ (by simp)]; exact h.c5
  · rw [World.frozen?_setCell]; exact h.f o
theorem RowAt.set5 {w : World} {r : Nat} {y : RowD} (h : RowAt w r y) (n : Int) : RowAt (w.setCell ⟨r, 5, none⟩ (.int .i64 n)) r { y with quota := n } := by
  have hz := ((Below.refl 0 w).setCell (p := ⟨r, 5, none⟩) (Nat.zero_le _) (.int .i64 n)).size
  refine ⟨Nat.lt_of_lt_of_le h.lt hz, ?_, ?_, ?_, ?_, ?_, ?_, fun o => ?_⟩
  · rw [World.cell?_setCell_other _ _ _ _ (by simp)]; exact h.c0
  · rw [World.cell?_setCell_other _ _ _ _ (by simp)]; exact h.c1
  · rw [World.cell?_setCell_other _ _ _ _ (by simp)]; exact h.c2
  · rw [World.cell?_setCell_other _ _ _ _ (by simp)]; exact h.c3
  · rw [World.cell?_setCell_other _ _ _ _ (by simp)]; exact h.c4
  · exact World.cell?_setCell_same _ _ _ h.c5
  · rw [World.frozen?_setCell]; exact h.f o

theorem RowAt.set0 {w : World} {r : Nat} {y : RowD} (h : RowAt w r y) (n : ByteArray) : RowAt (w.setCell ⟨r, 0, none⟩ (.string n)) r { y with name := n } := by
  have hz := ((Below.refl 0 w).setCell (p := ⟨r, 0, none⟩) (Nat.zero_le _) (.string n)).size
  refine ⟨Nat.lt_of_lt_of_le h.lt hz, ?_, ?_, ?_, ?_, ?_, ?_, fun o => ?_⟩
  · exact World.cell?_setCell_same _ _ _ h.c0
  · rw [World.cell?_setCell_other _ _ _ _ (by simp)]; exact h.c1
  · rw [World.cell?_setCell_other _ _ _ _ (by simp)]; exact h.c2
  · rw [World.cell?_setCell_other _ _ _ _ (by simp)]; exact h.c3
  · rw [World.cell?_setCell_other _ _ _ _ (by simp)]; exact h.c4
  · rw [World.cell?_setCell_other _ _ _ _ (by simp)]; exact h.c5
  · rw [World.frozen?_setCell]; exact h.f o
theorem frozen_new (w : World) (cs : Array Value) (t : TypeId) (o : Nat) : (w.alloc (.cells cs t)).frozen? ⟨w.heap.size, o, none⟩ = false := by
  have h := heap_alloc_new w (.cells cs t)
  simp only [World.frozen?, h]
  simp
/-- a new box -/
theorem RowAt.new (w : World) (y : RowD) : RowAt (w.alloc (.cells #[.string y.name, .int .i64 y.sets, .int .i64 y.snaps, .int .i64 y.blocks, .int .i64 y.charge, .int .i64 y.quota] 59)) w.heap.size y :=
  ⟨by simp, by go_simp, by go_simp, by go_simp, by go_simp, by go_simp, by go_simp, frozen_new w _ _⟩

theorem RowAt.new' (w : World) (y : RowD) (n : Nat) (hn : n = w.heap.size) : RowAt (w.alloc (.cells #[.string y.name, .int .i64 y.sets, .int .i64 y.snaps, .int .i64 y.blocks, .int .i64 y.charge, .int .i64 y.quota] 59)) n y := hn ▸ RowAt.new w y

/-- how many snapshots -/
def snapsN : List SetD → Int
  | [] => 0
  | x :: l => (x.snaps.l.length : Int) + snapsN l
/-- a list of snapshots' blocks -/
def snBlocks : List SnapD → Int
  | [] => 0
  | x :: l => (x.body.l.length : Int) + snBlocks l
def setBlocks : List SetD → Int
  | [] => 0
  | x :: l => (x.body.l.length : Int) + snBlocks x.snaps.l + setBlocks l
def stBlocks : List StageD → Int
  | [] => 0
  | x :: l => (x.body.l.length : Int) + stBlocks l
theorem snapsN_step {l : List SetD} {k : Nat} {y : SetD} (h : l[k]? = some y) : snapsN (l.drop k) = (y.snaps.l.length : Int) + snapsN (l.drop (k + 1)) := by
  obtain ⟨hk, rfl⟩ := List.getElem?_eq_some_iff.1 h
  rw [List.drop_eq_getElem_cons hk]; rfl
theorem snBlocks_step {l : List SnapD} {k : Nat} {y : SnapD} (h : l[k]? = some y) : snBlocks (l.drop k) = (y.body.l.length : Int) + snBlocks (l.drop (k + 1)) := by
  obtain ⟨hk, rfl⟩ := List.getElem?_eq_some_iff.1 h
  rw [List.drop_eq_getElem_cons hk]; rfl
theorem setBlocks_step {l : List SetD} {k : Nat} {y : SetD} (h : l[k]? = some y) : setBlocks (l.drop k) = (y.body.l.length : Int) + snBlocks y.snaps.l + setBlocks (l.drop (k + 1)) := by
  obtain ⟨hk, rfl⟩ := List.getElem?_eq_some_iff.1 h
  rw [List.drop_eq_getElem_cons hk]; rfl
theorem stBlocks_step {l : List StageD} {k : Nat} {y : StageD} (h : l[k]? = some y) : stBlocks (l.drop k) = (y.body.l.length : Int) + stBlocks (l.drop (k + 1)) := by
  obtain ⟨hk, rfl⟩ := List.getElem?_eq_some_iff.1 h
  rw [List.drop_eq_getElem_cons hk]; rfl
/-- a tenant's row, as the page says it -/
def rowOf (x : TenantD) : RowD := ⟨x.name, x.sets.l.length, wrap64 (snapsN x.sets.l), wrap64 (setBlocks x.sets.l + stBlocks x.stages.l), wrap64 (tenChg x), x.quota⟩

theorem blocks_any (r : Nat) (y : RowD) (a : Option Addr) (n c : Nat) (w : World) (h : RowAt w r y) :
    Calls Try.prog 60 #[.pointer (some ⟨r, 0, none⟩), .slice a n c] w fun e w' => e = .returned (.tuple #[]) ∧ w' = w.setCell ⟨r, 3, none⟩ (.int .i64 (wrap64 (y.blocks + (n : Int)))) := by
  obtain ⟨-, -, -, -, h3, -, -, hf⟩ := h
  have f3 := hf 3
  clear hf
  go_enter Try.func60, Try.ntmps60
  go_wp2
  go_end0
  exact ⟨rfl, rfl⟩
end Go.Proofs.Ytbkghiaafkmapaa
