/- The walk of usage.missing: how many of a content's blocks none of some others has. No condition but that what comes in reads as data. -/
import Derived.Test.YtbkghiaafkmapaaHas
import Derived.WalkMore
import Derived.Deep.LoopGhost
namespace Go.Proofs.Ytbkghiaafkmapaa
open Go.ChangeShapes Go.WideShapes Go.ChangeAt Go.RowKit

/-- [][]api.Block -/
def IsOthers (w : World) (s : SliceV (SliceV BlockD)) : Prop := IsSl (fun s : SliceV BlockD => [.slice s.a s.l.length s.c]) (fun w s => IsBlocks w s) 1 24 w s
theorem IsOthers.below {w w' : World} {s : SliceV (SliceV BlockD)} (h : IsOthers w s) (hb : Below w.heap.size w w') : IsOthers w' s := IsSl.below h hb (fun _ h => h.below hb)
theorem IsOthers.get {w : World} {a : Option Addr} {c : Nat} {l : List (SliceV BlockD)} (h : IsOthers w ⟨a, c, l⟩) {k : Nat} (hk : k < l.length) : ∃ (x : SliceV BlockD) (b off : Nat), l[k]? = some x ∧ a = some ⟨b, off, none⟩ ∧ b < w.heap.size ∧
    w.cell? ⟨b, off + k, none⟩ = some (.slice x.a x.l.length x.c) ∧ IsBlocks w x := by
  obtain ⟨⟨b, off, e, hlt, hc⟩, ho⟩ := IsSl.at' h k l[k] (List.getElem?_eq_getElem hk)
  refine ⟨l[k], b, off, List.getElem?_eq_getElem hk, e, hlt, ?_, ho⟩
  have := hc 0 _ rfl
  simpa using this

def inAny (ll : List (SliceV BlockD)) (x : BlockD) : Bool := ll.any fun o => hasB o.l x
theorem inAny_step {ll : List (SliceV BlockD)} {j : Nat} {o : SliceV BlockD} (h : ll[j]? = some o) (x : BlockD) : inAny (ll.drop j) x = (hasB o.l x || inAny (ll.drop (j + 1)) x) := by rw [drop_get h]; rfl
def missN (ll : List (SliceV BlockD)) : List BlockD → Nat
  | [] => 0
  | x :: l => (if inAny ll x then 0 else 1) + missN ll l
theorem missN_step {ll : List (SliceV BlockD)} {l : List BlockD} {k : Nat} {x : BlockD} (h : l[k]? = some x) : missN ll (l.drop k) = (if inAny ll x then 0 else 1) + missN ll (l.drop (k + 1)) := by rw [drop_get h, missN]
theorem missN_le (ll : List (SliceV BlockD)) (l : List BlockD) : missN ll l ≤ l.length := by
  induction l with
  | nil => simp [missN]
  | cons x l ih => simp only [missN, List.length_cons]; split <;> omega

set_option maxHeartbeats 1000000 in
theorem missing_any (a a' : Option Addr) (c c' : Nat) (l : List BlockD) (ll : List (SliceV BlockD)) (w : World) (h : IsBlocks w ⟨a, c, l⟩) (h' : IsOthers w ⟨a', c', ll⟩) :
    Calls Try.prog 55 #[.slice a l.length c, .slice a' ll.length c'] w fun e w' => e = .returned (.int .i64 (missN ll l)) ∧ Below w.heap.size w w' := by
  have hl := IsSl.len h
  have hl' := IsSl.len h'
  dsimp only at hl hl'
  go_enter Try.func55, Try.ntmps55
  go_wp2
  go_step3
  go_wp2
  go_step3
  go_wp2
  go_loopg [5, 7, 9, 12, 18] l.length (fun g n _ _ i _ wr => ∃ (k t : Nat), k + g = l.length ∧ i = .int .i64 k ∧ n = .int .i64 t ∧ t ≤ k ∧ Aside (t + missN ll (l.drop k) = missN ll l) ∧ Below w.heap.size w wr)
  case atStart => exact ⟨0, 0, by omega, rfl, rfl, by omega, by show _ = _; simp, Below.refl _ _⟩
  case round =>
    obtain ⟨k, t, hkg, rfl, rfl, htk, HS, hB⟩ := hrel
    have HB := Lib.hid hB
    clear hB
    cases gk with
    | zero =>
      have hlt : ¬ ((k : Int) < (l.length : Int)) := by omega
      have HF := Lib.hid (show t = missN ll l by have h1 := HS.out; rw [List.drop_of_length_le (by omega)] at h1; simpa [missN] using h1)
      go_wp2_with fail
      go_ret
      exact ⟨ret_int (by rw [HF.out]), HB.out⟩
    | succ g =>
      have hlt : (k : Int) < (l.length : Int) := by omega
      obtain ⟨y, b, off, hy, hya, -, hy0, hy1, -⟩ := (h.below HB.out).get (show k < l.length by omega)
      subst hya
      have HST := Lib.hid (missN_step (ll := ll) hy)
      clear hy
      go_wp2_with fail
      obtain ⟨wo, hwo⟩ : ∃ wo : World, wo = wr := ⟨_, rfl⟩
      subst hwo
      have HBX : Hid (BoxB wo y (wo.alloc (.cells #[.int .i64 y.idx, .string y.data] 94))) := ⟨(Below.refl _ _).alloc (Nat.le_refl _) _, by simp, by go_simp, by go_simp⟩
      go_loopg [9, 18] ll.length (fun g2 _ i wx => ∃ (j : Nat), j + g2 = ll.length ∧ i = .int .i64 j ∧ Aside (inAny (ll.drop j) y = inAny ll y) ∧ BoxB wo y wx)
      case atStart => exact ⟨0, by omega, rfl, rfl, HBX.out⟩
      case round =>
        obtain ⟨j, hjg, rfl, HJ, hX⟩ := hrel
        have HX := Lib.hid hX
        obtain ⟨-, hxz, hx0, hx1⟩ := hX
        have HBW := Lib.hid (HB.out.trans (HX.out.below.mono HB.out.size))
        cases gk with
        | zero =>
          have hlj : ¬ ((j : Int) < (ll.length : Int)) := by omega
          have hany : inAny ll y = false := by rw [← HJ.out, List.drop_of_length_le (by omega)]; rfl
          have HF := Lib.hid (show (t + 1) + missN ll (l.drop (k + 1)) = missN ll l by have h1 := HS.out; have h2 := HST.out; rw [hany] at h2; simp at h2; omega)
          clear hany
          go_wp2_with fail
          go_roundg g
          case measure => omega
          case rel => exact ⟨k + 1, t + 1, by omega, by go_num, by go_num, by omega, HF.out, HBW.out⟩
        | succ g2 =>
          have hlj : (j : Int) < (ll.length : Int) := by omega
          obtain ⟨o, b', off', ho, hoa, -, ho0, hob⟩ := (h'.below HBW.out).get (show j < ll.length by omega)
          subst hoa
          have hst := inAny_step ho y
          have HC := Lib.hid (has_any o.a o.c o.l y _ hob)
          clear ho hob
          cases hhas : hasB o.l y
          · rw [hhas] at hst HC
            have HF := Lib.hid (show inAny (ll.drop (j + 1)) y = inAny ll y by rw [← HJ.out, hst]; rfl)
            clear hst hhas
            go_wp2_with fail
            refine HC.out.mono ?_
            rintro e w2 ⟨rfl, hb2⟩
            have HX2 := Lib.hid (HX.out.later hb2)
            clear hb2
            go_wp2_with fail
            go_roundg g2
            case measure => omega
            case rel => exact ⟨j + 1, by omega, by go_num, HF.out, HX2.out⟩
          · rw [hhas] at hst HC
            have hany : inAny ll y = true := by rw [← HJ.out, hst]; rfl
            have HF := Lib.hid (show t + missN ll (l.drop (k + 1)) = missN ll l by have h1 := HS.out; have h2 := HST.out; rw [hany] at h2; simp at h2; omega)
            clear hst hhas hany
            go_wp2_with fail
            refine HC.out.mono ?_
            rintro e w2 ⟨rfl, hb2⟩
            have HX2 := Lib.hid (HX.out.later hb2)
            have HBW2 := Lib.hid (HB.out.trans (HX2.out.below.mono HB.out.size))
            clear hb2
            go_wp2_with fail
            go_roundg g
            case measure => omega
            case rel => exact ⟨k + 1, t, by omega, by go_num, rfl, by omega, HF.out, HBW2.out⟩
end Go.Proofs.Ytbkghiaafkmapaa
