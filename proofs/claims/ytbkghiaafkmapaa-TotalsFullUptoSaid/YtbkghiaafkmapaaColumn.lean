/- Walks of package totals' adder: a column's sum. No condition but that what comes in reads as data. -/
import Derived.Test.YtbkghiaafkmapaaRowBox
import Derived.Test.YtbkghiaafkmapaaLedger
namespace Go.Proofs.Ytbkghiaafkmapaa
open Go.ChangeShapes Go.WideShapes Go.ChangeAt Go.RowKit

theorem r_sets_any (r : RowD) (w : World) : Calls Try.prog 63 #[.agg #[.string r.name, .int .i64 r.sets, .int .i64 r.snaps, .int .i64 r.blocks, .int .i64 r.charge, .int .i64 r.quota]] w fun e w' => e = .returned (.int .i64 r.sets) ∧ Below w.heap.size w w' := by
  go_enter Try.func63, Try.ntmps63
  go_wp2
  go_ret
  exact ⟨rfl, (Below.refl _ _).alloc (Nat.le_refl _) _⟩
theorem r_snaps_any (r : RowD) (w : World) : Calls Try.prog 64 #[.agg #[.string r.name, .int .i64 r.sets, .int .i64 r.snaps, .int .i64 r.blocks, .int .i64 r.charge, .int .i64 r.quota]] w fun e w' => e = .returned (.int .i64 r.snaps) ∧ Below w.heap.size w w' := by
  go_enter Try.func64, Try.ntmps64
  go_wp2
  go_ret
  exact ⟨rfl, (Below.refl _ _).alloc (Nat.le_refl _) _⟩
theorem r_blocks_any (r : RowD) (w : World) : Calls Try.prog 65 #[.agg #[.string r.name, .int .i64 r.sets, .int .i64 r.snaps, .int .i64 r.blocks, .int .i64 r.charge, .int .i64 r.quota]] w fun e w' => e = .returned (.int .i64 r.blocks) ∧ Below w.heap.size w w' := by
  go_enter Try.func65, Try.ntmps65
  go_wp2
  go_ret
  exact ⟨rfl, (Below.refl _ _).alloc (Nat.le_refl _) _⟩
theorem r_charge_any (r : RowD) (w : World) : Calls Try.prog 66 #[.agg #[.string r.name, .int .i64 r.sets, .int .i64 r.snaps, .int .i64 r.blocks, .int .i64 r.charge, .int .i64 r.quota]] w fun e w' => e = .returned (.int .i64 r.charge) ∧ Below w.heap.size w w' := by
  go_enter Try.func66, Try.ntmps66
  go_wp2
  go_ret
  exact ⟨rfl, (Below.refl _ _).alloc (Nat.le_refl _) _⟩
theorem r_quota_any (r : RowD) (w : World) : Calls Try.prog 67 #[.agg #[.string r.name, .int .i64 r.sets, .int .i64 r.snaps, .int .i64 r.blocks, .int .i64 r.charge, .int .i64 r.quota]] w fun e w' => e = .returned (.int .i64 r.quota) ∧ Below w.heap.size w w' := by
  go_enter Try.func67, Try.ntmps67
  go_wp2
  go_ret
  exact ⟨rfl, (Below.refl _ _).alloc (Nat.le_refl _) _⟩

/-- the adder's box: the rows, and the first error -/
structure Adder (w : World) (ab : Nat) (ra : Option Addr) (n rc : Nat) (e : Int) : Prop where
  lt : ab < w.heap.size
  c0 : w.cell? ⟨ab, 0, none⟩ = some (.slice ra n rc)
  c1 : w.cell? ⟨ab, 1, none⟩ = some (.int .i64 e)
  f1 : w.frozen? ⟨ab, 1, none⟩ = false
theorem Adder.below {w w' : World} {ab n rc : Nat} {ra : Option Addr} {e : Int} (h : Adder w ab ra n rc e) (hb : Below w.heap.size w w') : Adder w' ab ra n rc e :=
  ⟨Nat.lt_of_lt_of_le h.lt hb.size, by rw [hb.cell (p := ⟨ab, 0, none⟩) h.lt]; exact h.c0, by rw [hb.cell (p := ⟨ab, 1, none⟩) h.lt]; exact h.c1, by rw [hb.frozen (p := ⟨ab, 1, none⟩) h.lt]; exact h.f1⟩
theorem Adder.set {w : World} {ab n rc : Nat} {ra : Option Addr} {e : Int} (h : Adder w ab ra n rc e) (e' : Int) : Adder (w.setCell ⟨ab, 1, none⟩ (.int .i64 e')) ab ra n rc e' := by
  have hz := ((Below.refl 0 w).setCell (p := ⟨ab, 1, none⟩) (Nat.zero_le _) (.int .i64 e')).size
  exact ⟨Nat.lt_of_lt_of_le h.lt hz, by rw [World.cell?_setCell_other _ _ _ _ (by simp)]; exact h.c0, World.cell?_setCell_same _ _ _ h.c1, by rw [World.frozen?_setCell]; exact h.f1⟩
def errUp (e0 e1 : Int) : Int := if e0 = 0 then e1 else e0
theorem grownBy_below {w w' : World} (ab : Nat) (h : Below w.heap.size w w') : w.grownBy w' (some ab) := ⟨h.os, h.tape, h.output, h.size, fun k hk _ => h.block k hk⟩
theorem grownBy_set (w : World) (ab o : Nat) (v : Value) : w.grownBy (w.setCell ⟨ab, o, none⟩ v) (some ab) := ⟨rfl, rfl, rfl, by simp [World.setCell], fun k _ hne => Below.heap_setCell w ⟨ab, o, none⟩ v k (fun e => hne (by rw [e]))⟩
theorem grownBy_trans {w w1 w2 : World} {row : Option Nat} (h : w.grownBy w1 row) (h' : w1.grownBy w2 row) : w.grownBy w2 row :=
  ⟨h'.os.trans h.os, h'.tape.trans h.tape, h'.output.trans h.output, Nat.le_trans h.size h'.size, fun k hk hn => (h'.block k (Nat.lt_of_lt_of_le hk h.size) hn).trans (h.block k hk hn)⟩
theorem owned_below {B e k : Nat} {v : Value} {n : Nat} {xs : List Value} {w w' : World} (h : w.ownsRow B e k v n xs) (hb : Below w.heap.size w w') : w'.ownsRow B e k v n xs := by
  refine ⟨h.1, ?_⟩
  rcases h.2 with h2 | ⟨g, cap, cur, hv, hB, hg, rest⟩
  · exact .inl h2
  · exact .inr ⟨g, cap, cur, hv, hB, by rw [hb.block g (Array.getElem?_eq_some_iff.1 hg).1]; exact hg, rest⟩
/-- a column -/
def colOf (f : RowD → Int) (l : List RowD) : List Int := l.map f
theorem col_take {f : RowD → Int} {l : List RowD} {k : Nat} {x : RowD} (h : l[k]? = some x) : (colOf f (l.take (k + 1))).map (Value.int .i64) = (colOf f (l.take k)).map (Value.int .i64) ++ [.int .i64 (f x)] := by
  rw [List.take_add_one, h]; simp [colOf]

/-- what the loop over the rows keeps: below the heap at the call's beginning nothing has turned; the row of ints -/
structure CoInv (w : World) (f : RowD → Int) (l : List RowD) (k : Nat) (v : Value) (wr : World) : Prop where
  below : Below w.heap.size w wr
  own : wr.ownsRow w.heap.size 3 1 v k ((colOf f (l.take k)).map (Value.int .i64))
theorem CoInv.step {w wr W w' : World} {f : RowD → Int} {l : List RowD} {k : Nat} {v v' : Value} (h : CoInv w f l k v wr) {x : RowD} (hx : l[k]? = some x) (hW : Below wr.heap.size wr W)
    (hown : w'.ownsRow w.heap.size 3 1 v' (k + 1) ((colOf f (l.take k)).map (Value.int .i64) ++ [.int .i64 (f x)])) (hg : W.grownBy w' v.ownBlock) : CoInv w f l (k + 1) v' w' := by
  have hb := h.below.trans (hW.mono h.below.size)
  have hlt := h.own.lt
  exact ⟨hb.grown hg hb.size (fun q hq => (hlt q hq).1), by rw [col_take hx]; exact hown⟩
theorem CoInv.done {w wr : World} {f : RowD → Int} {l : List RowD} {k : Nat} {v : Value} (h : CoInv w f l k v wr) (hk : k = l.length) (hlen : l.length ≤ 9223372036854775807) (hr : ∀ z ∈ colOf f l, InR z) : ∃ a c, v = .slice a (colOf f l).length c ∧ IsInts wr a (colOf f l) := by
  subst hk
  have ho := h.own
  rw [List.take_length] at ho
  have e : (colOf f l).length = l.length := by simp [colOf]
  exact ints_owned (by rw [e]; exact ho) (by rw [e]; exact hlen) hr

set_option maxRecDepth 100000 in
set_option maxHeartbeats 2000000 in
theorem column_any (f : RowD → Int) (fn : Nat) (hf : ∀ (r : RowD) (W : World), Calls Try.prog fn #[.agg #[.string r.name, .int .i64 r.sets, .int .i64 r.snaps, .int .i64 r.blocks, .int .i64 r.charge, .int .i64 r.quota]] W fun e w' => e = .returned (.int .i64 (f r)) ∧ Below W.heap.size W w') (ab : Nat) (ra : Option Addr) (rc : Nat) (l : List RowD) (e0 : Int) (w : World)
    (hcf : ∀ (args : Array Value) (W : World), Sem.run Try.prog (callFunc fn args) W = .ok (.enter fn args) W) (hfR : ∀ z ∈ colOf f l, InR z) (hrows : IsRows w ⟨ra, rc, l⟩) (ha : Adder w ab ra l.length rc e0) :
    Calls Try.prog 62 #[.pointer (some ⟨ab, 0, none⟩), .func (.func fn) #[] #[]] w fun e w' => e = .returned (.int .i64 (addN (colOf f l))) ∧ w.grownBy w' (some ab) ∧ Adder w' ab ra l.length rc (errUp e0 (addE (colOf f l))) := by
  have hl := IsSl.len hrows
  dsimp only at hl
  have HF := Lib.hid hf
  have HR := Lib.hid hrows
  have HQ := Lib.hid hfR
  have HA := Lib.hid ha
  clear hf hrows hfR
  obtain ⟨hab, a0, a1, af⟩ := ha
  obtain ⟨i0, hi, hz0, hz1, hz2⟩ := info_parts info3
  have HI := Lib.hid (And.intro hi (And.intro hz0 (And.intro hz1 hz2)))
  clear hi hz0 hz1 hz2
  go_enter Try.func62, Try.ntmps62
  go_wp2_with (at_make; refine wpList_make_own _ rfl _ _ 22 rfl w.heap.size 3 i0 (.int .i64 0) 1 Try.underlying22 HI.out.1 HI.out.2.1 HI.out.2.2.1 _ _ _ l.length rfl rfl (by omega) (by rw [HI.out.2.2.2]; omega) (by unfold maxLen; omega) (by simp) ?_)
  intro w1 hown hgrow
  have hb1 : Below w.heap.size w w1 := (Below.refl _ _).grown hgrow (Nat.le_refl _) (fun q hq => by cases hq)
  have HP : Hid (CoInv w f l 0 _ w1) := ⟨hb1, hown⟩
  have b0 : w1.cell? ⟨ab, 0, none⟩ = some (.slice ra l.length rc) := by rw [hb1.cell (p := ⟨ab, 0, none⟩) hab]; exact a0
  clear hown hgrow hb1
  go_wp2_with fail
  go_loopg [5, 7, 21] l.length (fun g v _ i wr => ∃ k : Nat, k + g = l.length ∧ i = .int .i64 k ∧ CoInv w f l k v wr)
  case atStart => exact ⟨0, by omega, rfl, HP.out⟩
  case round =>
    obtain ⟨k, hkg, rfl, hP⟩ := hrel
    have HPr := Lib.hid hP
    clear hP HP b0 a0 a1 af
    cases gk with
    | zero =>
      have hlt : ¬ ((k : Int) < (l.length : Int)) := by omega
      obtain ⟨va, vc, hv, hints⟩ := HPr.out.done (by omega) (by omega) HQ.out
      subst hv
      have HII := Lib.hid hints
      have hA := HA.out.below HPr.out.below
      have HAr := Lib.hid hA
      obtain ⟨-, a0, a1, af⟩ := hA
      clear hints
      go_wp2_with fail
      refine (add_any _ _ _ _ HII.out).mono ?_
      rintro e w2 ⟨rfl, rfl⟩
      by_cases he : e0 = 0
      · subst he
        go_wp2_with fail
        go_ret
        exact ⟨rfl, grownBy_trans (grownBy_below ab HPr.out.below) (grownBy_set _ _ _ _), by rw [show errUp 0 (addE (colOf f l)) = addE (colOf f l) from rfl]; exact HAr.out.set _⟩
      · have he1 : (e0 == 0) = false := by simpa using he
        go_wp2_with fail
        go_ret
        exact ⟨rfl, grownBy_below ab HPr.out.below, by rw [show errUp e0 (addE (colOf f l)) = e0 from if_neg he]; exact HAr.out⟩
    | succ g =>
      have hlt : (k : Int) < (l.length : Int) := by omega
      obtain ⟨y, b, off, hy, hya, -, hy0, hy1, hy2, hy3, hy4, hy5, -⟩ := (HR.out.below HPr.out.below).get (show k < l.length by omega)
      have HY := Lib.hid hy
      subst hya
      have HC := Lib.hid (HF.out y)
      clear hy
      go_wp2_with fail
      refine (HC.out _).mono ?_
      rintro e w2 ⟨rfl, hb2⟩
      have hB2 := ((Below.refl wr.heap.size wr).alloc (Nat.le_refl _) (.cells #[.string y.name, .int .i64 y.sets, .int .i64 y.snaps, .int .i64 y.blocks, .int .i64 y.charge, .int .i64 y.quota] 59)).trans (hb2.mono (by simp))
      have hw0 : w.heap.size ≤ w2.heap.size := by have := hB2.size; have := HPr.out.below.size; omega
      have HB2 := Lib.hid hB2
      have hO2 := owned_below HPr.out.own hB2
      have HO2 := Lib.hid hO2
      clear hb2 hB2 hO2
      go_wp2_with (at_builtin; refine wpList_append_own _ rfl _ _ 22 rfl w.heap.size 3 i0 (.int .i64 0) 1 8 Try.underlying22 HI.out.1 HI.out.2.1 HI.out.2.2.1 HI.out.2.2.2 rfl (by decide) _ _ _ rfl (HO2.out.alloc _) ⟨w2.heap.size, 0, none⟩ 1 1 [.int .i64 (f y)] rfl rfl ?c1 ?c2 ?c3 ?c4 ?c5 ?_)
      case c1 =>
        intro j u hj
        match j, hj with
        | 0, hj => simp at hj; subst hj; go_simp
      case c2 => intro u hu; simp at hu; subst hu; rfl
      case c3 => unfold maxLen; omega
      case c4 => omega
      case c5 => simp; omega
      intro v' w3 hown' hgrow' _
      have HS := Lib.hid (HPr.out.step HY.out (HB2.out.alloc HB2.out.size _) hown' hgrow')
      clear hown' hgrow'
      go_wp2_with fail
      go_roundg g
      case measure => omega
      case rel => exact ⟨k + 1, by omega, by go_num, HS.out⟩
end Go.Proofs.Ytbkghiaafkmapaa
