/- The plain law of UsageSnaps: behind a snapshot of it nothing is changed; as much more is charged as it has. No condition. -/
import Derived.Test.YtbkghiaafkmapaaUniq
import Derived.Test.YtbkghiaafkmapaaSharp
namespace Go.Proofs.Ytbkghiaafkmapaa.usageSnaps
open Go.ChangeShapes Go.WideShapes Go.ChangeAt Go.RowKit

theorem missN_any {ll : List (SliceV BlockD)} {l : List BlockD} (h : ∀ x ∈ l, inAny ll x = true) : missN ll l = 0 := by
  induction l with
  | nil => rfl
  | cons x l ih =>
    rw [missN, h x (List.mem_cons_self ..), ih fun y hy => h y (List.mem_cons_of_mem _ hy)]
    rfl
theorem same_self (x : BlockD) : sameB x x = true := by simp [sameB]
theorem has_self {l : List BlockD} {x : BlockD} (h : x ∈ l) : hasB l x = true := by
  unfold hasB
  exact List.any_eq_true.2 ⟨x, h, by simp [same_self]⟩
/-- the set with a snapshot of itself behind the others -/
def snapped (x : SetD) (name : ByteArray) (a : Option Addr) (c : Nat) : SetD := { x with snaps := ⟨a, c, x.snaps.l ++ [⟨name, 0, x.body, ⟨none, 0, []⟩, ⟨none, 0, []⟩⟩]⟩ }
theorem snapped_changed (x : SetD) (name : ByteArray) (a : Option Addr) (c : Nat) : changedN (snapped x name a c) = 0 := by
  unfold changedN snapped
  simp only [List.length_append, List.length_singleton, Nat.add_sub_cancel, List.getElem?_concat_length]
  refine missN_any fun y hy => ?_
  simp [inAny, has_self hy]
theorem snapsChg_append (l : List SnapD) (y : SnapD) : snapsChg (l ++ [y]) = snapsChg l + (1 + (y.body.l.length : Int)) := by
  induction l with
  | nil => simp [snapsChg]
  | cons z l ih => simp only [List.cons_append, snapsChg, ih]; omega
theorem snapped_chg (x : SetD) (name : ByteArray) (a : Option Addr) (c : Nat) : setChg (snapped x name a c) = setChg x + 1 + (x.body.l.length : Int) := by
  simp only [setChg, snapped, snapsChg_append]; omega
theorem snapped_wrap (x : SetD) (name : ByteArray) (a : Option Addr) (c : Nat) : wrap64 (setChg (snapped x name a c)) = wrap64 (wrap64 (wrap64 (setChg x) + 1) + (x.body.l.length : Int)) := by
  rw [snapped_chg]
  simp only [wrap64_eq]
  omega
end Go.Proofs.Ytbkghiaafkmapaa.usageSnaps
