/- A region that draws its order, walked once in the order of the text, in a class of worlds of one's own: small laws over the kit's own theorem. No condition. -/
import Derived.Test.YtbkghiaafkmapaaBase
import Derived.Deep.QuietTactic
import Derived.BigQuiet
namespace Go.Proofs.Ytbkghiaafkmapaa
open Go.ChangeShapes Go.WideShapes Go.ChangeAt Go.RowKit

section
variable {P : Program} {C : World → Prop}
theorem region_C {id : Nat} {Q : Exit → Act → World → Prop} {a : Act} {w : World} {l : List Oper} (hm : P.follows .mixedOrders = true) (hB : Region.lexB .any l.toArray = true) (hC : C w.drew)
    (h : wpQuiet P l.toArray C (fun a' => ∀ w', C w' → Q .normal a' w') l a) : (Code.region id l.toArray true).wp P Q a w :=
  wp_region_quiet hm hB hC (by simpa using h)

end

theorem q_val {P : Program} {C : World → Prop} {a : Act} {o : Oper} {v : Value} {K : Act → Prop} (hv : ∀ w', C w' → (execOp a.eval o).run P w' = .ok (.value v) w') (h : K (a.put o.dst v)) : o.quiet P a C K :=
  ⟨v, fun w' hw' => by unfold Oper.quietAt; rw [hv w' hw']; exact ⟨rfl, rfl⟩, h⟩
theorem q_call {P : Program} {C : World → Prop} {a : Act} {o : Oper} (f : FuncId) {args : Array Value} {v : Value} {K : Act → Prop} (hv : ∀ w', C w' → (execOp a.eval o).run P w' = .ok (.enter f args) w')
    (hc : ∀ w', C w' → Calls P f args w' fun e w'' => e = .returned v ∧ C w'') (h : K (a.put o.dst v)) : o.quiet P a C K :=
  ⟨v, fun w' hw' => by unfold Oper.quietAt; rw [hv w' hw']; exact ⟨rfl, hc w' hw'⟩, h⟩

/-- some cells of a world -/
def At (W : World) (fs : List (Nat × Nat × Value)) : Prop := ∀ b o v, (b, o, v) ∈ fs → b < W.heap.size ∧ W.cell? ⟨b, o, none⟩ = some v
theorem At.later {W W' : World} {fs : List (Nat × Nat × Value)} (h : At W fs) (hb : Below W.heap.size W W') : At W' fs := fun b o v hm => by
  obtain ⟨h1, h2⟩ := h b o v hm
  exact ⟨Nat.lt_of_lt_of_le h1 hb.size, by rw [hb.cell (p := ⟨b, o, none⟩) h1]; exact h2⟩
theorem At.cons {W : World} {b o : Nat} {v : Value} {fs : List (Nat × Nat × Value)} (h1 : b < W.heap.size) (h2 : W.cell? ⟨b, o, none⟩ = some v) (h : At W fs) : At W ((b, o, v) :: fs) := fun b' o' v' hm => by
  rcases List.mem_cons.1 hm with e | hm
  · injection e with e1 e2; injection e2 with e2 e3; subst e1 e2 e3; exact ⟨h1, h2⟩
  · exact h b' o' v' hm
theorem At.nil (W : World) : At W [] := fun b o v hm => by cases hm
theorem At.hd {W : World} {b o : Nat} {v : Value} {fs : List (Nat × Nat × Value)} (h : At W ((b, o, v) :: fs)) : W.cell? ⟨b, o, none⟩ = some v := (h b o v (List.mem_cons_self ..)).2
theorem At.tl {W : World} {f : Nat × Nat × Value} {fs : List (Nat × Nat × Value)} (h : At W (f :: fs)) : At W fs := fun b o v hm => h b o v (List.mem_cons_of_mem _ hm)

/-- the class: the cells stand, and below a world's heap nothing has turned -/
def Cls (W : World) (fs : List (Nat × Nat × Value)) (w' : World) : Prop := At w' fs ∧ Below W.heap.size W w'
theorem Cls.start {W : World} {fs : List (Nat × Nat × Value)} (h : At W fs) : Cls W fs W.drew := ⟨h.later (Below.refl _ _).drew, (Below.refl _ _).drew⟩
theorem Cls.later {W w' w'' : World} {fs : List (Nat × Nat × Value)} (h : Cls W fs w') (hb : Below w'.heap.size w' w'') : Cls W fs w'' := ⟨h.1.later hb, h.2.trans (hb.mono h.2.size)⟩
end Go.Proofs.Ytbkghiaafkmapaa
