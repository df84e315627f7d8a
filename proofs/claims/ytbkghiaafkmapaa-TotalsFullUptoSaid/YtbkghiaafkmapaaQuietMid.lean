/- A great struct's load in a region that draws its order, its cells behind a name. No condition. -/
import Derived.Test.YtbkghiaafkmapaaQuiet
import Derived.Deep.MidRow
namespace Go.Proofs.Ytbkghiaafkmapaa
open Go.ChangeShapes Go.WideShapes Go.ChangeAt Go.RowKit

theorem q_load_mid {P : Program} {C : World → Prop} {a : Act} {o : Oper} {K : Act → Prop} (ty : TypeId) (x : Operand) (ho : o.op = .load ty x) (b off : Nat) (hx : a.eval x = .pointer (some ⟨b, off, none⟩)) (cs : List Value) (d : TypeDesc)
    (hS : ∀ w, C w → w.rangeAt b off cs) (hu : P.underlying ty = some d) (hd : d.isRow = true) (hi : (P.info? ty).map (·.size) = some cs.length) (h : K (a.put o.dst (.agg cs.toArray))) : o.quiet P a C K :=
  q_val (v := .agg cs.toArray) (fun w' hw' => by
    unfold execOp
    simp only [ho, hx, Instr.loadAt, Instr.sureAddr, Sem.run_bind, Sem.run_pure, Result.andThen_ok, run_loadVar_mid w' b off ty cs d (hS w' hw') hu hd hi]) h
/-- a range stands as long as its block does -/
theorem rangeAt_later {w w' : World} {b off : Nat} {cs : List Value} (h : w.rangeAt b off cs) (hb : b < w.heap.size) (hB : Below w.heap.size w w') : w'.rangeAt b off cs := fun j v hj => by
  rw [hB.cell (p := ⟨b, off + j, none⟩) hb]; exact h j v hj
/-- the class: the cells and a range stand, and below a world's heap nothing has turned -/
def ClsR (W : World) (fs : List (Nat × Nat × Value)) (b off : Nat) (cs : List Value) (w' : World) : Prop := Cls W fs w' ∧ w'.rangeAt b off cs
theorem ClsR.start {W : World} {fs : List (Nat × Nat × Value)} {b off : Nat} {cs : List Value} (h : At W fs) (hr : W.rangeAt b off cs) (hb : b < W.heap.size) : ClsR W fs b off cs W.drew :=
  ⟨Cls.start h, rangeAt_later hr hb (Below.refl _ _).drew⟩
theorem ClsR.later {W w' w'' : World} {fs : List (Nat × Nat × Value)} {b off : Nat} {cs : List Value} (h : ClsR W fs b off cs w') (hbl : b < W.heap.size) (hb : Below w'.heap.size w' w'') : ClsR W fs b off cs w'' :=
  ⟨h.1.later hb, rangeAt_later h.2 (Nat.lt_of_lt_of_le hbl h.1.2.size) hb⟩
end Go.Proofs.Ytbkghiaafkmapaa
