/- Walks of the charges: the reference's own. Each answers the sum, as an int wraps. No condition but that what comes in reads as data. -/
import Derived.Test.YtbkghiaafkmapaaData
import Derived.Outline
namespace Go.Proofs.Ytbkghiaafkmapaa
open Go.ChangeShapes Go.WideShapes Go.ChangeAt Go.RowKit

theorem wrap64_eq (n : Int) : wrap64 n = (n + 9223372036854775808) % 18446744073709551616 - 9223372036854775808 := by
  unfold wrap64
  omega
theorem wrap_in {n : Int} (h : InR n) : wrap64 n = n := by unfold InR at h; rw [wrap64_eq]; omega
theorem wrap_zero : (0 : Int) = wrap64 0 := (wrap_in (by unfold InR; omega)).symm
theorem wrap_inR (n : Int) : InR (wrap64 n) := by unfold InR; rw [wrap64_eq]; omega
theorem wrap_add {t S : Int} (h : t = wrap64 S) (a : Int) : wrap64 (t + a) = wrap64 (S + a) := by
  subst h; simp only [wrap64_eq]; omega
theorem wrap_add2 {t S : Int} (h : t = wrap64 S) (a b : Int) : wrap64 (wrap64 (t + a) + b) = wrap64 (S + (a + b)) := by
  subst h; simp only [wrap64_eq]; omega
theorem wrap_addw {t S a b : Int} (h : t = wrap64 S) (h' : a = wrap64 b) : wrap64 (t + a) = wrap64 (S + b) := by
  subst h h'; simp only [wrap64_eq]; omega

/-- what the snapshots are charged -/
def snapsChg : List SnapD → Int
  | [] => 0
  | x :: l => 1 + (x.body.l.length : Int) + snapsChg l
def setChg (x : SetD) : Int := 1 + (x.body.l.length : Int) + snapsChg x.snaps.l
def setsChg : List SetD → Int
  | [] => 0
  | x :: l => setChg x + setsChg l
def stagesChg : List StageD → Int
  | [] => 0
  | x :: l => 1 + (x.body.l.length : Int) + stagesChg l
def tenChg (x : TenantD) : Int := setsChg x.sets.l + stagesChg x.stages.l

theorem drop_get {α : Type} {l : List α} {k : Nat} {x : α} (h : l[k]? = some x) : l.drop k = x :: l.drop (k + 1) := by
  obtain ⟨hk, rfl⟩ := List.getElem?_eq_some_iff.1 h
  exact List.drop_eq_getElem_cons hk
theorem snapsChg_step {l : List SnapD} {k : Nat} {x : SnapD} (h : l[k]? = some x) : snapsChg (l.drop k) = 1 + (x.body.l.length : Int) + snapsChg (l.drop (k + 1)) := by rw [drop_get h, snapsChg]
theorem setsChg_step {l : List SetD} {k : Nat} {x : SetD} (h : l[k]? = some x) : setsChg (l.drop k) = setChg x + setsChg (l.drop (k + 1)) := by rw [drop_get h, setsChg]
theorem stagesChg_step {l : List StageD} {k : Nat} {x : StageD} (h : l[k]? = some x) : stagesChg (l.drop k) = 1 + (x.body.l.length : Int) + stagesChg (l.drop (k + 1)) := by rw [drop_get h, stagesChg]

set_option maxHeartbeats 400000 in
theorem refSet_any (x : SetD) (w : World) (h : okSet w x) :
    Calls Try.prog 32 #[.agg #[.string x.path, .string x.origin, .slice x.body.a x.body.l.length x.body.c, .slice x.snaps.a x.snaps.l.length x.snaps.c, .slice x.own.a x.own.l.length x.own.c]] w fun e w' => e = .returned (.int .i64 (wrap64 (setChg x))) ∧ Below w.heap.size w w' := by
  obtain ⟨path, origin, ⟨ba, bc, bl⟩, ⟨sa, sc, sl⟩, own⟩ := x
  obtain ⟨-, -, hb, hs, -⟩ := h
  have hbl := IsSl.len hb
  have hsl := IsSl.len hs
  dsimp only at hb hs hbl hsl ⊢
  have HG : Hid (setChg ⟨path, origin, ⟨ba, bc, bl⟩, ⟨sa, sc, sl⟩, own⟩ = 1 + (bl.length : Int) + snapsChg sl) := rfl
  go_enter Try.func32, Try.ntmps32
  go_wp2
  go_loop [3, 4] (fun n i => ∃ (k : Nat) (t S : Int), k ≤ sl.length ∧ i = .int .i64 k ∧ n = .int .i64 t ∧ t = wrap64 S ∧ S + snapsChg (sl.drop k) = 1 + (bl.length : Int) + snapsChg sl) (fun _ i => sl.length - (intOf i).toNat)
  case atStart => exact ⟨0, _, 1 + (bl.length : Int), Nat.zero_le _, rfl, rfl, (wrap_in (by unfold InR; omega)).symm, by simp⟩
  case round =>
    obtain ⟨k, t, S, hk, rfl, rfl, ht, hS⟩ := hrel
    have HT := Lib.hid ht
    have HS := Lib.hid hS
    clear ht hS
    by_cases hlt : k < sl.length
    · obtain ⟨y, b, off, hy, rfl, hbs, -, -, hc, -, -, -, -, hyb, -⟩ := hs.get hlt
      have hst := Lib.hid (snapsChg_step hy)
      have hyl := IsSl.len hyb
      clear hy
      obtain ⟨yn, yg, ⟨ya, yc, yl⟩, yt, yo⟩ := y
      dsimp only at hc hyl hst
      have hne : b ≠ w.heap.size := by omega
      go_wp2
      go_round
      case rel => exact ⟨k + 1, _, S + (1 + (yl.length : Int)), by omega, by go_num, rfl, wrap_add2 HT.out _ _, by have h1 := HS.out; have h2 := hst.out; omega⟩
      case measure => simp [intOf]; omega
    · have hn : snapsChg (sl.drop k) = 0 := by rw [List.drop_of_length_le (by omega)]; rfl
      have HN := Lib.hid hn
      clear hn
      go_wp2
      go_ret
      exact ⟨ret_int (by rw [HT.out, HG.out]; have h1 := HS.out; rw [HN.out] at h1; rw [← h1]; congr 1; omega), (Below.refl _ _).alloc (Nat.le_refl _) _⟩

set_option maxHeartbeats 1000000 in
theorem refCharge_any (x : TenantD) (w : World) (h : okTenant w x) :
    Calls Try.prog 30 #[.agg #[.string x.name, .int .i64 x.quota, .int .i64 x.next, .slice x.sets.a x.sets.l.length x.sets.c, .slice x.grants.a x.grants.l.length x.grants.c, .slice x.stages.a x.stages.l.length x.stages.c, .slice x.log.a x.log.l.length x.log.c]] w fun e w' => e = .returned (.int .i64 (wrap64 (tenChg x))) ∧ Below w.heap.size w w' := by
  obtain ⟨name, quota, next, ⟨sa, sc, sl⟩, grants, ⟨ta, tc, tl⟩, log⟩ := x
  obtain ⟨-, -, -, hs, -, ht, -⟩ := h
  have hsl := IsSl.len hs
  have htl := IsSl.len ht
  dsimp only at hs ht hsl htl ⊢
  have HG : Hid (tenChg ⟨name, quota, next, ⟨sa, sc, sl⟩, grants, ⟨ta, tc, tl⟩, log⟩ = setsChg sl + stagesChg tl) := rfl
  go_enter Try.func30, Try.ntmps30
  go_wp2
  go_loopw [3, 4] (fun n i wr => ∃ (k : Nat) (t S : Int), k ≤ sl.length ∧ i = .int .i64 k ∧ n = .int .i64 t ∧ t = wrap64 S ∧ S + setsChg (sl.drop k) = setsChg sl ∧ Below w.heap.size w wr ∧ wr.cell? ⟨w.heap.size, 3, none⟩ = some (.slice sa sl.length sc) ∧ wr.cell? ⟨w.heap.size, 5, none⟩ = some (.slice ta tl.length tc) ∧ w.heap.size < wr.heap.size) (fun _ i _ => sl.length - (intOf i).toNat)
  case atStart => exact ⟨0, 0, 0, Nat.zero_le _, rfl, rfl, wrap_zero, by simp, (Below.refl _ _).alloc (Nat.le_refl _) _, by go_simp, by go_simp, by simp⟩
  case round =>
    obtain ⟨k, t, S, hk, rfl, rfl, hT, hS, hB, hc3, hc5, hz⟩ := hrel
    have HT := Lib.hid hT
    have HS := Lib.hid hS
    have HB := Lib.hid hB
    clear hT hS hB
    by_cases hlt : k < sl.length
    · obtain ⟨y, b, off, hy, rfl, hbs, hy0, hy1, hy2, hy3, hy4, hyo⟩ := (hs.below HB.out).get hlt
      have hst := Lib.hid (setsChg_step hy)
      have hc := Lib.hid (refSet_any y wr hyo)
      clear hy hyo
      go_wp2_with fail
      refine hc.out.mono ?_
      rintro e w1 ⟨rfl, hb1⟩
      have hB1 := Lib.hid (HB.out.trans (hb1.mono HB.out.size))
      have h3' : w1.cell? ⟨w.heap.size, 3, none⟩ = some (.slice (some ⟨b, off, none⟩) sl.length sc) := by rw [hb1.cell (p := ⟨w.heap.size, 3, none⟩) hz]; exact hc3
      have h5' : w1.cell? ⟨w.heap.size, 5, none⟩ = some (.slice ta tl.length tc) := by rw [hb1.cell (p := ⟨w.heap.size, 5, none⟩) hz]; exact hc5
      have hz' : w.heap.size < w1.heap.size := Nat.lt_of_lt_of_le hz hb1.size
      clear hb1
      go_wp2_with fail
      go_roundw
      case rel => exact ⟨k + 1, _, S + setChg y, by omega, by go_num, rfl, wrap_addw HT.out rfl, by have h1 := HS.out; have h2 := hst.out; omega, hB1.out, h3', h5', hz'⟩
      case measure => simp [intOf]; omega
    · have hn : S = setsChg sl := by have h1 := HS.out; rw [List.drop_of_length_le (by omega)] at h1; simpa [setsChg] using h1
      have HT' := Lib.hid (hn ▸ HT.out)
      clear HT HS hn S
      go_wp2
      go_loop [3, 5] (fun n i => ∃ (k : Nat) (t S : Int), k ≤ tl.length ∧ i = .int .i64 k ∧ n = .int .i64 t ∧ t = wrap64 S ∧ S + stagesChg (tl.drop k) = setsChg sl + stagesChg tl) (fun _ i => tl.length - (intOf i).toNat)
      case atStart => exact ⟨0, _, _, Nat.zero_le _, rfl, rfl, HT'.out, by simp⟩
      case round =>
        obtain ⟨j, t2, S, hj, rfl, rfl, hT, hS⟩ := hrel
        have HT := Lib.hid hT
        have HS := Lib.hid hS
        clear hT hS
        by_cases hlj : j < tl.length
        · obtain ⟨y, b, off, hy, hta, hbs, hy0, hy1, hy2, hy3, hy4, hy5, hy6, hy7, hy8, hy9, hy10, hy11, hy12, hy13, -, -, -, -, -, -, -, hyo⟩ := (ht.below HB.out).get hlj
          clear hy0 hy1 hy2 hy3 hy4 hy5 hy6 hy7 hy8 hy9 hy10 hy11 hy12
          subst hta
          have hst := Lib.hid (stagesChg_step hy)
          have hyl := IsSl.len hyo.2.2.1
          clear hy hyo
          go_wp2
          go_round
          case rel => exact ⟨j + 1, _, S + (1 + (y.body.l.length : Int)), by omega, by go_num, rfl, wrap_add2 HT.out _ _, by have h1 := HS.out; have h2 := hst.out; omega⟩
          case measure => simp [intOf]; omega
        · have hn : stagesChg (tl.drop j) = 0 := by rw [List.drop_of_length_le (by omega)]; rfl
          have HN := Lib.hid hn
          clear hn
          go_wp2
          go_ret
          exact ⟨ret_int (by rw [HT.out, HG.out]; have h1 := HS.out; rw [HN.out] at h1; rw [← h1]; congr 1; omega), HB.out⟩
end Go.Proofs.Ytbkghiaafkmapaa
