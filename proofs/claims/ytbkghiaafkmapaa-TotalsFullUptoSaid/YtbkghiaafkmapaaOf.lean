/- The walk of totals.Of: a tenant's row. No condition but that what comes in reads as data. -/
import Derived.Test.YtbkghiaafkmapaaRowBox
import Derived.Deep.RegionHeld3
namespace Go.Proofs.Ytbkghiaafkmapaa
open Go.ChangeShapes Go.WideShapes Go.ChangeAt Go.RowKit

/-- what a round finds: the result's cell, the tenant's stages, the row on its way -/
structure OInv (w : World) (st : Value) (r : Nat) (y : RowD) (S B : Int) (wr : World) : Prop where
  below : Below w.heap.size w wr
  rlt : w.heap.size + 1 < r
  five : wr.cell? ⟨w.heap.size, 5, none⟩ = some st
  out : RowAt wr (w.heap.size + 1) (⟨⟨#[]⟩, 0, 0, 0, 0, 0⟩ : RowD)
  row : RowAt wr r { y with snaps := wrap64 S, blocks := wrap64 B }
theorem OInv.size {w wr : World} {st : Value} {r : Nat} {y : RowD} {S B : Int} (h : OInv w st r y S B wr) : w.heap.size + 1 < wr.heap.size := Nat.lt_trans h.rlt h.row.lt
theorem OInv.alloc {w wr : World} {st : Value} {r : Nat} {y : RowD} {S B : Int} (h : OInv w st r y S B wr) (o : Obj) : OInv w st r y S B (wr.alloc o) := by
  have hb : Below wr.heap.size wr (wr.alloc o) := (Below.refl _ _).alloc (Nat.le_refl _) _
  have hz := h.size
  exact ⟨h.below.trans (hb.mono h.below.size), h.rlt, by rw [hb.cell (p := ⟨w.heap.size, 5, none⟩) (show w.heap.size < wr.heap.size by omega)]; exact h.five, h.out.below hb hz, h.row.below hb h.row.lt⟩
theorem OInv.snaps {w wr : World} {st : Value} {r : Nat} {y : RowD} {S B : Int} (h : OInv w st r y S B wr) (n : Int) (m : Int) (hm : m = wrap64 (S + n)) : OInv w st r y (S + n) B (wr.setCell ⟨r, 2, none⟩ (.int .i64 m)) := by
  subst hm
  have hr := h.rlt
  exact ⟨h.below.setCell (show w.heap.size ≤ r by omega) _, h.rlt, by rw [World.cell?_setCell_other _ _ _ _ (by intro e; simp at e; try omega)]; exact h.five, h.out.far (by omega), h.row.set2 _⟩
theorem OInv.blocks {w wr : World} {st : Value} {r : Nat} {y : RowD} {S B : Int} (h : OInv w st r y S B wr) (n : Int) (m : Int) (hm : m = wrap64 (B + n)) : OInv w st r y S (B + n) (wr.setCell ⟨r, 3, none⟩ (.int .i64 m)) := by
  subst hm
  have hr := h.rlt
  exact ⟨h.below.setCell (show w.heap.size ≤ r by omega) _, h.rlt, by rw [World.cell?_setCell_other _ _ _ _ (by intro e; simp at e; try omega)]; exact h.five, h.out.far (by omega), h.row.set3 _⟩
theorem OInv.add {w wr : World} {st : Value} {r : Nat} {y : RowD} {S B : Int} (h : OInv w st r y S B wr) (a : Option Addr) (n c : Nat) :
    Calls Try.prog 60 #[.pointer (some ⟨r, 0, none⟩), .slice a n c] wr fun e w' => e = .returned (.tuple #[]) ∧ OInv w st r y S (B + (n : Int)) w' :=
  (blocks_any r _ a n c wr h.row).mono fun e w' ⟨he, hw⟩ => ⟨he, by rw [hw]; exact h.blocks _ _ (by rw [wrap_add (S := B) rfl])⟩

set_option maxRecDepth 100000 in
set_option maxHeartbeats 4000000 in
theorem Of_any (x : TenantD) (w : World) (h : okTenant w x) :
    Calls Try.prog 36 #[.agg #[.string x.name, .int .i64 x.quota, .int .i64 x.next, .slice x.sets.a x.sets.l.length x.sets.c, .slice x.grants.a x.grants.l.length x.grants.c, .slice x.stages.a x.stages.l.length x.stages.c, .slice x.log.a x.log.l.length x.log.c]] w fun e w' => e = .returned (.agg (cellsRow (rowOf x)).toArray) ∧ Below w.heap.size w w' := by
  have hT := fun W hW => Tenant_any x W (okTenant_below h hW)
  have HX := Lib.hid h
  have HRO : Hid (rowOf x = ⟨x.name, x.sets.l.length, wrap64 (snapsN x.sets.l), wrap64 (setBlocks x.sets.l + stBlocks x.stages.l), wrap64 (tenChg x), x.quota⟩) := rfl
  obtain ⟨name, quota, next, ⟨sa, sc, sl⟩, ⟨ga, gc, gl⟩, ⟨ta, tc, tl⟩, ⟨la, lc, ll⟩⟩ := x
  generalize rowOf ⟨name, quota, next, ⟨sa, sc, sl⟩, ⟨ga, gc, gl⟩, ⟨ta, tc, tl⟩, ⟨la, lc, ll⟩⟩ = ro at *
  dsimp only at hT HRO ⊢
  generalize wrap64 (tenChg ⟨name, quota, next, ⟨sa, sc, sl⟩, ⟨ga, gc, gl⟩, ⟨ta, tc, tl⟩, ⟨la, lc, ll⟩⟩) = chg at *
  obtain ⟨-, -, -, hs, -, ht, -⟩ := h
  have hsl := IsSl.len hs
  have htl := IsSl.len ht
  dsimp only at hs ht hsl htl
  have HT := Lib.hid hT
  clear hT
  have HKP : Hid (∀ w', Below (w.heap.size + 2) ((w.alloc (.cells #[.string name, .int .i64 quota, .int .i64 next, .slice sa sl.length sc, .slice ga gl.length gc, .slice ta tl.length tc, .slice la ll.length lc] 53)).alloc (.cells #[.string ⟨#[]⟩, .int .i64 0, .int .i64 0, .int .i64 0, .int .i64 0, .int .i64 0] 59)) w' → w'.cell? ⟨w.heap.size, 0, none⟩ = some (.string name) ∧ w'.cell? ⟨w.heap.size, 1, none⟩ = some (.int .i64 quota) ∧ w'.cell? ⟨w.heap.size, 2, none⟩ = some (.int .i64 next) ∧ w'.cell? ⟨w.heap.size, 3, none⟩ = some (.slice sa sl.length sc) ∧ w'.cell? ⟨w.heap.size, 4, none⟩ = some (.slice ga gl.length gc) ∧ w'.cell? ⟨w.heap.size, 5, none⟩ = some (.slice ta tl.length tc) ∧ w'.cell? ⟨w.heap.size, 6, none⟩ = some (.slice la ll.length lc)) := fun W hb => ⟨(hb.cell (p := ⟨w.heap.size, 0, none⟩) (show w.heap.size < w.heap.size + 2 by omega)).trans (by go_simp), (hb.cell (p := ⟨w.heap.size, 1, none⟩) (show w.heap.size < w.heap.size + 2 by omega)).trans (by go_simp), (hb.cell (p := ⟨w.heap.size, 2, none⟩) (show w.heap.size < w.heap.size + 2 by omega)).trans (by go_simp), (hb.cell (p := ⟨w.heap.size, 3, none⟩) (show w.heap.size < w.heap.size + 2 by omega)).trans (by go_simp), (hb.cell (p := ⟨w.heap.size, 4, none⟩) (show w.heap.size < w.heap.size + 2 by omega)).trans (by go_simp), (hb.cell (p := ⟨w.heap.size, 5, none⟩) (show w.heap.size < w.heap.size + 2 by omega)).trans (by go_simp), (hb.cell (p := ⟨w.heap.size, 6, none⟩) (show w.heap.size < w.heap.size + 2 by omega)).trans (by go_simp)⟩
  go_enter Try.func36, Try.ntmps36
  go_wp2_with fail
  go_region_held3 (fun w' => w'.cell? ⟨w.heap.size, 0, none⟩ = some (.string name) ∧ w'.cell? ⟨w.heap.size, 1, none⟩ = some (.int .i64 quota) ∧ w'.cell? ⟨w.heap.size, 2, none⟩ = some (.int .i64 next) ∧ w'.cell? ⟨w.heap.size, 3, none⟩ = some (.slice sa sl.length sc) ∧ w'.cell? ⟨w.heap.size, 4, none⟩ = some (.slice ga gl.length gc) ∧ w'.cell? ⟨w.heap.size, 5, none⟩ = some (.slice ta tl.length tc) ∧ w'.cell? ⟨w.heap.size, 6, none⟩ = some (.slice la ll.length lc))
    ((refine HKP.out _ ?_; first | with_reducible exact (Below.refl _ _).drew | with_reducible exact ((Below.refl _ _).alloc (by first | omega | (simp; done) | (simp; omega)) _).drew | with_reducible exact (((Below.refl _ _).drew).alloc (by first | omega | (simp; done) | (simp; omega)) _) | with_reducible exact HB1.out | with_reducible exact (HB1.out.alloc HZ1.out _) | (repeat (first | with_reducible exact HB1.out | refine Below.setCell ?_ (show w.heap.size + 2 ≤ w.heap.size + 1 + 1 by omega) _))))
    (first
      | (go_at_call 29; (with_reducible refine (HT.out _ ((((Below.refl _ _).alloc (Nat.le_refl _) _).alloc (by first | omega | (simp; done) | (simp; omega)) _).drew)).mono ?_); rintro e w1 ⟨rfl, hb1⟩; have HB1 := Lib.hid (((Below.refl (w.heap.size + 2) ((w.alloc (.cells #[.string name, .int .i64 quota, .int .i64 next, .slice sa sl.length sc, .slice ga gl.length gc, .slice ta tl.length tc, .slice la ll.length lc] 53)).alloc (.cells #[.string ⟨#[]⟩, .int .i64 0, .int .i64 0, .int .i64 0, .int .i64 0, .int .i64 0] 59))).drew).trans (hb1.mono (by first | omega | (simp; done) | (simp; omega)))); have hz1 := HB1.out.size; simp at hz1; have HZ1 := Lib.hid hz1; clear hb1 hz1)
      | (go_at_call 29; (with_reducible refine (HT.out _ (((((Below.refl _ _).alloc (Nat.le_refl _) _).alloc (by first | omega | (simp; done) | (simp; omega)) _).alloc (by first | omega | (simp; done) | (simp; omega)) _).drew)).mono ?_); rintro e w1 ⟨rfl, hb1⟩; have HB1 := Lib.hid ((((Below.refl (w.heap.size + 2) ((w.alloc (.cells #[.string name, .int .i64 quota, .int .i64 next, .slice sa sl.length sc, .slice ga gl.length gc, .slice ta tl.length tc, .slice la ll.length lc] 53)).alloc (.cells #[.string ⟨#[]⟩, .int .i64 0, .int .i64 0, .int .i64 0, .int .i64 0, .int .i64 0] 59))).alloc (by first | omega | (simp; done) | (simp; omega)) _).drew).trans (hb1.mono (by first | omega | (simp; done) | (simp; omega)))); have hR : RowAt w1 (w.heap.size + 1 + 1) (⟨⟨#[]⟩, 0, 0, 0, 0, 0⟩ : RowD) := RowAt.below ((RowAt.new' ((w.alloc (.cells #[.string name, .int .i64 quota, .int .i64 next, .slice sa sl.length sc, .slice ga gl.length gc, .slice ta tl.length tc, .slice la ll.length lc] 53)).alloc (.cells #[.string ⟨#[]⟩, .int .i64 0, .int .i64 0, .int .i64 0, .int .i64 0, .int .i64 0] 59)) (⟨⟨#[]⟩, 0, 0, 0, 0, 0⟩ : RowD) (w.heap.size + 1 + 1) (by simp)).drew) hb1 (by first | omega | (simp; done) | (simp; omega)); have HR := Lib.hid hR; obtain ⟨-, g0, g1, g2, g3, g4, g5, gf⟩ := hR; dsimp only at g0 g1 g2 g3 g4 g5; have gf0 := gf 0; have gf1 := gf 1; have gf2 := gf 2; have gf3 := gf 3; have gf4 := gf 4; have gf5 := gf 5; clear hb1 gf)
      | (fail "no arm"))
  · have hI : OInv w (.slice ta tl.length tc) w1.heap.size ⟨name, sl.length, 0, 0, chg, quota⟩ 0 0 (w1.alloc (.cells #[.string name, .int .i64 sl.length, .int .i64 0, .int .i64 0, .int .i64 chg, .int .i64 quota] 59)) :=
      have hb := HB1.out.alloc HZ1.out (.cells #[.string name, .int .i64 sl.length, .int .i64 0, .int .i64 0, .int .i64 chg, .int .i64 quota] 59)
      ⟨(((Below.refl _ _).alloc (Nat.le_refl _) _).alloc (by first | omega | (simp; done) | (simp; omega)) _).trans (hb.mono (by omega)), Nat.lt_of_lt_of_le (by omega) HZ1.out, (HKP.out _ hb).2.2.2.2.2.1, (RowAt.new' (w.alloc (.cells #[.string name, .int .i64 quota, .int .i64 next, .slice sa sl.length sc, .slice ga gl.length gc, .slice ta tl.length tc, .slice la ll.length lc] 53)) (⟨⟨#[]⟩, 0, 0, 0, 0, 0⟩ : RowD) (w.heap.size + 1) (by simp)).below hb (by omega), by rw [← wrap_zero]; exact RowAt.new w1 ⟨name, sl.length, 0, 0, chg, quota⟩⟩
    have hc3 := (HKP.out _ (HB1.out.alloc HZ1.out (.cells #[.string name, .int .i64 sl.length, .int .i64 0, .int .i64 0, .int .i64 chg, .int .i64 quota] 59))).2.2.2.1
    have HI := Lib.hid hI
    clear hI HKP HB1 HZ1
    generalize w1.alloc (.cells #[.string name, .int .i64 sl.length, .int .i64 0, .int .i64 0, .int .i64 chg, .int .i64 quota] 59) = W at *
    generalize w1.heap.size = r at *
    clear HT
    try clear w1
    have hrl := HI.out.rlt
    have hrz := HI.out.row.lt
    have hre : r ≠ w.heap.size := by omega
    go_wp2_with fail
    go_loopw [5, 23] (fun _ i wr => ∃ (k : Nat) (S B : Int), k ≤ sl.length ∧ i = .int .i64 k ∧ S + snapsN (sl.drop k) = snapsN sl ∧ B + setBlocks (sl.drop k) = setBlocks sl ∧ OInv w (.slice ta tl.length tc) r ⟨name, sl.length, 0, 0, chg, quota⟩ S B wr) (fun _ i _ => sl.length - (intOf i).toNat)
    case atStart => exact ⟨0, 0, 0, Nat.zero_le _, rfl, by simp, by simp, HI.out⟩
    case round =>
      obtain ⟨k, S, B, hk, rfl, hS, hB, hI⟩ := hrel
      have HS := Lib.hid hS
      have HB := Lib.hid hB
      have HI := Lib.hid hI
      clear hS hB hI hc3 hrz
      have hrz := HI.out.row.lt
      have hz := HI.out.size
      by_cases hlt : k < sl.length
      · obtain ⟨y, bb, off, hy, hsa, hbs, hy0, hy1, hy2, hy3, hy4, -⟩ := (hs.below HI.out.below).get hlt
        obtain ⟨y', -, -, hy', -, -, -, -, -, -, -, hyo⟩ := hs.get hlt
        obtain rfl : y = y' := by rw [hy] at hy'; exact Option.some.inj hy'
        have hst := Lib.hid (snapsN_step hy)
        have hsb := Lib.hid (setBlocks_step hy)
        subst hsa
        obtain ⟨yp, yg, ⟨ya, yc, yl⟩, ⟨za, zc, zl⟩, ⟨ua, uc, ul⟩⟩ := y
        obtain ⟨-, -, -, hsn, -⟩ := hyo
        have hzl := IsSl.len hsn
        dsimp only at hy0 hy1 hy2 hy3 hy4 hst hsb hsn hzl
        have HI1 := Lib.hid ((HI.out.snaps (zl.length : Int) _ rfl).alloc (.cells #[.string yp, .string yg, .slice ya yl.length yc, .slice za zl.length zc, .slice ua ul.length uc] 38))
        have HI2 := Lib.hid (((HI.out.snaps (zl.length : Int) _ rfl).blocks (yl.length : Int) _ rfl).alloc (.cells #[.string yp, .string yg, .slice ya yl.length yc, .slice za zl.length zc, .slice ua ul.length uc] 38))
        have HC := Lib.hid (blocks_any r _ ya yl.length yc _ HI1.out.row)
        dsimp only at HC
        rw [← wrap_add (S := S) rfl] at HI1 HC HI2
        rw [← wrap_add (S := B) rfl] at HI2
        obtain ⟨-, -, -, h2, h3, -, -, hf⟩ := HI.out.row
        dsimp only at h2 h3
        have hf2 := hf 2
        clear hy hy' hf
        have hrw : r ≠ wr.heap.size := by omega
        have hrw' : wr.heap.size ≠ r := by omega
        go_wp2_with fail
        refine HC.out.mono ?_
        rintro e w5 ⟨rfl, rfl⟩
        clear h2 h3 hf2 HC HI1
        go_wp2_with fail
        go_loopw [7, 40] (fun _ i wr => ∃ (j : Nat) (B' : Int), j ≤ zl.length ∧ i = .int .i64 j ∧ B' + snBlocks (zl.drop j) = B + (yl.length : Int) + snBlocks zl ∧ OInv w (.slice ta tl.length tc) r ⟨name, sl.length, 0, 0, chg, quota⟩ (S + (zl.length : Int)) B' wr) (fun _ i _ => zl.length - (intOf i).toNat)
        case atStart => exact ⟨0, B + (yl.length : Int), Nat.zero_le _, rfl, by simp, HI2.out⟩
        case round =>
          obtain ⟨j, B', hj, rfl, hB', hI⟩ := hrel
          have HB' := Lib.hid hB'
          have HI := Lib.hid hI
          clear hB' hI hy0 hy1 hy2 hy3 hy4 HI2
          have hrz := HI.out.row.lt
          have hz := HI.out.size
          by_cases hlj : j < zl.length
          · obtain ⟨x, b2, off2, hx, hza, hbz, hx0, hx1, hx2, hx3, hx4, hxo⟩ := (hsn.below HI.out.below).get hlj
            have hsx := Lib.hid (snBlocks_step hx)
            subst hza
            obtain ⟨xn, xg, ⟨xa, xc, xl⟩, ⟨va, vc, vl⟩, ⟨oa, oc, ol⟩⟩ := x
            dsimp only at hx0 hx1 hx2 hx3 hx4 hsx
            have HI1 := Lib.hid (HI.out.alloc (.cells #[.string xn, .int .i64 xg, .slice xa xl.length xc, .slice va vl.length vc, .slice oa ol.length oc] 42))
            have HI3 := Lib.hid ((HI.out.blocks (xl.length : Int) _ rfl).alloc (.cells #[.string xn, .int .i64 xg, .slice xa xl.length xc, .slice va vl.length vc, .slice oa ol.length oc] 42))
            have HC := Lib.hid (blocks_any r _ xa xl.length xc _ HI1.out.row)
            dsimp only at HC
            rw [← wrap_add (S := B') rfl] at HI3
            clear hx hxo HI1
            have hrw : r ≠ wr.heap.size := by omega
            have hrw' : wr.heap.size ≠ r := by omega
            go_wp2_with fail
            refine HC.out.mono ?_
            rintro e w6 ⟨rfl, rfl⟩
            clear HC
            go_wp2_with fail
            go_roundw
            case rel => exact ⟨j + 1, B' + (xl.length : Int), by omega, by go_num, by have h1 := HB'.out; have h2 := hsx.out; omega, HI3.out⟩
            case measure => simp [intOf]; omega
          · have hn : snBlocks (zl.drop j) = 0 := by rw [List.drop_of_length_le (by omega)]; rfl
            have HN := Lib.hid hn
            clear hn
            go_wp2_with fail
            go_roundw
            case rel => exact ⟨k + 1, S + (zl.length : Int), B', by omega, by go_num, by have h1 := HS.out; have h2 := hst.out; omega, by have h1 := HB.out; have h2 := hsb.out; have h3 := HB'.out; have h4 := HN.out; omega, HI.out⟩
            case measure => simp [intOf]; omega
      · have hn : S = snapsN sl ∧ B = setBlocks sl := by
          have h1 := HS.out
          have h2 := HB.out
          rw [List.drop_of_length_le (by omega)] at h1 h2
          simp only [snapsN, setBlocks] at h1 h2
          omega
        have HI' : Hid (OInv w (.slice ta tl.length tc) r ⟨name, sl.length, 0, 0, chg, quota⟩ (snapsN sl) (setBlocks sl) wr) := by rw [← hn.1, ← hn.2]; exact HI.out
        have hc5 := HI'.out.five
        clear HI HS HB hn
        go_wp2_with fail
        go_loopw [9, 52] (fun _ i wr => ∃ (j : Nat) (B : Int), j ≤ tl.length ∧ i = .int .i64 j ∧ B + stBlocks (tl.drop j) = setBlocks sl + stBlocks tl ∧ OInv w (.slice ta tl.length tc) r ⟨name, sl.length, 0, 0, chg, quota⟩ (snapsN sl) B wr) (fun _ i _ => tl.length - (intOf i).toNat)
        case atStart => exact ⟨0, setBlocks sl, Nat.zero_le _, rfl, by simp, HI'.out⟩
        case round =>
          obtain ⟨j, B, hj, rfl, hB, hI⟩ := hrel
          have HB := Lib.hid hB
          have HI := Lib.hid hI
          clear hB hI hc5 HI'
          have hrz := HI.out.row.lt
          have hz := HI.out.size
          by_cases hlj : j < tl.length
          · obtain ⟨y, bb, off, hy, hta, hbb, hR, hyo⟩ := stage_row (ht.below HI.out.below) hlj
            have hst := Lib.hid (stBlocks_step hy)
            subst hta
            have HI1 := Lib.hid (HI.out.alloc (.cells (cellsStage y).toArray 67))
            have HI3 := Lib.hid ((HI.out.blocks (y.body.l.length : Int) _ rfl).alloc (.cells (cellsStage y).toArray 67))
            have HC := Lib.hid (blocks_any r _ y.body.a y.body.l.length y.body.c _ HI1.out.row)
            dsimp only at HC
            rw [← wrap_add (S := B) rfl] at HI3
            have hnew := stage_new wr y
            have HR := Lib.hid hR
            clear hy hyo hR HI1
            have hrw : r ≠ wr.heap.size := by omega
            have hrw' : wr.heap.size ≠ r := by omega
            go_wp2_with (first | (refine wpList_load_mid rfl 67 _ rfl bb (off + j * 21) rfl (cellsStage y) _ HR.out Try.underlying67 rfl (hi67 y) ?_; simp only [Act.put, List.setIfInBounds_toArray, List.set_cons_zero, List.set_cons_succ]) | (refine wpList_store_row rfl 67 _ _ rfl wr.heap.size (cellsStage y).toArray rfl rfl 67 _ (heap_alloc_new _ _) (hi67 y) rfl (one67 y) ?_; rw [setRow_new]; simp only [Act.put]))
            refine HC.out.mono ?_
            rintro e w6 ⟨rfl, rfl⟩
            clear HC
            go_wp2_with fail
            go_roundw
            case rel => exact ⟨j + 1, B + (y.body.l.length : Int), by omega, by go_num, by have h1 := HB.out; have h2 := hst.out; omega, by first | exact HI3.out | (have h := HI3.out; rw [World.setCell_alloc _ _ _ _ hrw] at h; exact h) | skip⟩
            case measure => simp [intOf]; omega
          · have hn : B = setBlocks sl + stBlocks tl := by
              have h1 := HB.out
              rw [List.drop_of_length_le (by omega)] at h1
              simp only [stBlocks] at h1
              omega
            have HI2 : Hid (OInv w (.slice ta tl.length tc) r ⟨name, sl.length, 0, 0, chg, quota⟩ (snapsN sl) (setBlocks sl + stBlocks tl) wr) := by rw [← hn]; exact HI.out
            clear HI HB hn
            obtain ⟨-, d0, d1, d2, d3, d4, d5, -⟩ := HI2.out.row
            obtain ⟨-, g0, g1, g2, g3, g4, g5, gf⟩ := HI2.out.out
            dsimp only at d0 d1 d2 d3 d4 d5 g0 g1 g2 g3 g4 g5
            have gf0 := gf 0
            have gf1 := gf 1
            have gf2 := gf 2
            have gf3 := gf 3
            have gf4 := gf 4
            have gf5 := gf 5
            clear gf
            have hr1 : r ≠ w.heap.size + 1 := by omega
            have hR : RowAt ((((((wr.setCell ⟨w.heap.size + 1, 0, none⟩ (.string name)).setCell ⟨w.heap.size + 1, 1, none⟩ (.int .i64 sl.length)).setCell ⟨w.heap.size + 1, 2, none⟩ (.int .i64 (wrap64 (snapsN sl)))).setCell ⟨w.heap.size + 1, 3, none⟩ (.int .i64 (wrap64 (setBlocks sl + stBlocks tl)))).setCell ⟨w.heap.size + 1, 4, none⟩ (.int .i64 chg)).setCell ⟨w.heap.size + 1, 5, none⟩ (.int .i64 quota)) (w.heap.size + 1) ⟨name, sl.length, wrap64 (snapsN sl), wrap64 (setBlocks sl + stBlocks tl), chg, quota⟩ := (((((HI2.out.out.set0 name).set1 _).set2 _).set3 _).set4 _).set5 _
            have hB : Below w.heap.size w ((((((wr.setCell ⟨w.heap.size + 1, 0, none⟩ (.string name)).setCell ⟨w.heap.size + 1, 1, none⟩ (.int .i64 sl.length)).setCell ⟨w.heap.size + 1, 2, none⟩ (.int .i64 (wrap64 (snapsN sl)))).setCell ⟨w.heap.size + 1, 3, none⟩ (.int .i64 (wrap64 (setBlocks sl + stBlocks tl)))).setCell ⟨w.heap.size + 1, 4, none⟩ (.int .i64 chg)).setCell ⟨w.heap.size + 1, 5, none⟩ (.int .i64 quota)) := (((((HI2.out.below.setCell (by simp) _).setCell (by simp) _).setCell (by simp) _).setCell (by simp) _).setCell (by simp) _).setCell (by simp) _
            have HR := Lib.hid hR
            have HB := Lib.hid hB
            clear hR hB
            go_wp2_with fail
            generalize ((((((wr.setCell ⟨w.heap.size + 1, 0, none⟩ (.string name)).setCell ⟨w.heap.size + 1, 1, none⟩ (.int .i64 sl.length)).setCell ⟨w.heap.size + 1, 2, none⟩ (.int .i64 (wrap64 (snapsN sl)))).setCell ⟨w.heap.size + 1, 3, none⟩ (.int .i64 (wrap64 (setBlocks sl + stBlocks tl)))).setCell ⟨w.heap.size + 1, 4, none⟩ (.int .i64 chg)).setCell ⟨w.heap.size + 1, 5, none⟩ (.int .i64 quota)) = Wf at *
            obtain ⟨-, e0, e1, e2, e3, e4, e5, -⟩ := HR.out
            dsimp only at e0 e1 e2 e3 e4 e5
            exact bodyPost_ret (v := .agg #[.string name, .int .i64 sl.length, .int .i64 (wrap64 (snapsN sl)), .int .i64 (wrap64 (setBlocks sl + stBlocks tl)), .int .i64 chg, .int .i64 quota]) (by simp [results, Try.results36, go_sem, e0, e1, e2, e3, e4, e5]) rfl ⟨by rw [HRO.out]; rfl, HB.out⟩

  · have hb : Below (w.heap.size + 2) ((w.alloc (.cells #[.string name, .int .i64 quota, .int .i64 next, .slice sa sl.length sc, .slice ga gl.length gc, .slice ta tl.length tc, .slice la ll.length lc] 53)).alloc (.cells #[.string ⟨#[]⟩, .int .i64 0, .int .i64 0, .int .i64 0, .int .i64 0, .int .i64 0] 59)) ((((((w1.setCell ⟨w.heap.size + 1 + 1, 0, none⟩ (.string name)).setCell ⟨w.heap.size + 1 + 1, 1, none⟩ (.int .i64 sl.length)).setCell ⟨w.heap.size + 1 + 1, 2, none⟩ (.int .i64 0)).setCell ⟨w.heap.size + 1 + 1, 3, none⟩ (.int .i64 0)).setCell ⟨w.heap.size + 1 + 1, 4, none⟩ (.int .i64 chg)).setCell ⟨w.heap.size + 1 + 1, 5, none⟩ (.int .i64 quota)) := by
      repeat (first | with_reducible exact HB1.out | refine Below.setCell ?_ (show w.heap.size + 2 ≤ w.heap.size + 1 + 1 by omega) _)
    have hI : OInv w (.slice ta tl.length tc) (w.heap.size + 1 + 1) ⟨name, sl.length, 0, 0, chg, quota⟩ 0 0 ((((((w1.setCell ⟨w.heap.size + 1 + 1, 0, none⟩ (.string name)).setCell ⟨w.heap.size + 1 + 1, 1, none⟩ (.int .i64 sl.length)).setCell ⟨w.heap.size + 1 + 1, 2, none⟩ (.int .i64 0)).setCell ⟨w.heap.size + 1 + 1, 3, none⟩ (.int .i64 0)).setCell ⟨w.heap.size + 1 + 1, 4, none⟩ (.int .i64 chg)).setCell ⟨w.heap.size + 1 + 1, 5, none⟩ (.int .i64 quota)) :=
      ⟨(((Below.refl _ _).alloc (Nat.le_refl _) _).alloc (by first | omega | (simp; done) | (simp; omega)) _).trans (hb.mono (by omega)), by omega, (HKP.out _ hb).2.2.2.2.2.1, (RowAt.new' (w.alloc (.cells #[.string name, .int .i64 quota, .int .i64 next, .slice sa sl.length sc, .slice ga gl.length gc, .slice ta tl.length tc, .slice la ll.length lc] 53)) (⟨⟨#[]⟩, 0, 0, 0, 0, 0⟩ : RowD) (w.heap.size + 1) (by simp)).below hb (by omega), by rw [← wrap_zero]; exact (((((HR.out.set0 name).set1 _).set2 _).set3 _).set4 _).set5 _⟩
    have hc3 := (HKP.out _ hb).2.2.2.1
    have HI := Lib.hid hI
    clear hI HKP HB1 hb HR g0 g1 g2 g3 g4 g5 gf0 gf1 gf2 gf3 gf4 gf5
    generalize ((((((w1.setCell ⟨w.heap.size + 1 + 1, 0, none⟩ (.string name)).setCell ⟨w.heap.size + 1 + 1, 1, none⟩ (.int .i64 sl.length)).setCell ⟨w.heap.size + 1 + 1, 2, none⟩ (.int .i64 0)).setCell ⟨w.heap.size + 1 + 1, 3, none⟩ (.int .i64 0)).setCell ⟨w.heap.size + 1 + 1, 4, none⟩ (.int .i64 chg)).setCell ⟨w.heap.size + 1 + 1, 5, none⟩ (.int .i64 quota)) = W at *
    generalize w.heap.size + 1 + 1 = r at *
    clear HT
    try clear w1
    have hrl := HI.out.rlt
    have hrz := HI.out.row.lt
    have hre : r ≠ w.heap.size := by omega
    go_wp2_with fail
    go_loopw [5, 23] (fun _ i wr => ∃ (k : Nat) (S B : Int), k ≤ sl.length ∧ i = .int .i64 k ∧ S + snapsN (sl.drop k) = snapsN sl ∧ B + setBlocks (sl.drop k) = setBlocks sl ∧ OInv w (.slice ta tl.length tc) r ⟨name, sl.length, 0, 0, chg, quota⟩ S B wr) (fun _ i _ => sl.length - (intOf i).toNat)
    case atStart => exact ⟨0, 0, 0, Nat.zero_le _, rfl, by simp, by simp, HI.out⟩
    case round =>
      obtain ⟨k, S, B, hk, rfl, hS, hB, hI⟩ := hrel
      have HS := Lib.hid hS
      have HB := Lib.hid hB
      have HI := Lib.hid hI
      clear hS hB hI hc3 hrz
      have hrz := HI.out.row.lt
      have hz := HI.out.size
      by_cases hlt : k < sl.length
      · obtain ⟨y, bb, off, hy, hsa, hbs, hy0, hy1, hy2, hy3, hy4, -⟩ := (hs.below HI.out.below).get hlt
        obtain ⟨y', -, -, hy', -, -, -, -, -, -, -, hyo⟩ := hs.get hlt
        obtain rfl : y = y' := by rw [hy] at hy'; exact Option.some.inj hy'
        have hst := Lib.hid (snapsN_step hy)
        have hsb := Lib.hid (setBlocks_step hy)
        subst hsa
        obtain ⟨yp, yg, ⟨ya, yc, yl⟩, ⟨za, zc, zl⟩, ⟨ua, uc, ul⟩⟩ := y
        obtain ⟨-, -, -, hsn, -⟩ := hyo
        have hzl := IsSl.len hsn
        dsimp only at hy0 hy1 hy2 hy3 hy4 hst hsb hsn hzl
        have HI1 := Lib.hid ((HI.out.snaps (zl.length : Int) _ rfl).alloc (.cells #[.string yp, .string yg, .slice ya yl.length yc, .slice za zl.length zc, .slice ua ul.length uc] 38))
        have HI2 := Lib.hid (((HI.out.snaps (zl.length : Int) _ rfl).blocks (yl.length : Int) _ rfl).alloc (.cells #[.string yp, .string yg, .slice ya yl.length yc, .slice za zl.length zc, .slice ua ul.length uc] 38))
        have HC := Lib.hid (blocks_any r _ ya yl.length yc _ HI1.out.row)
        dsimp only at HC
        rw [← wrap_add (S := S) rfl] at HI1 HC HI2
        rw [← wrap_add (S := B) rfl] at HI2
        obtain ⟨-, -, -, h2, h3, -, -, hf⟩ := HI.out.row
        dsimp only at h2 h3
        have hf2 := hf 2
        clear hy hy' hf
        have hrw : r ≠ wr.heap.size := by omega
        have hrw' : wr.heap.size ≠ r := by omega
        go_wp2_with fail
        refine HC.out.mono ?_
        rintro e w5 ⟨rfl, rfl⟩
        clear h2 h3 hf2 HC HI1
        go_wp2_with fail
        go_loopw [7, 40] (fun _ i wr => ∃ (j : Nat) (B' : Int), j ≤ zl.length ∧ i = .int .i64 j ∧ B' + snBlocks (zl.drop j) = B + (yl.length : Int) + snBlocks zl ∧ OInv w (.slice ta tl.length tc) r ⟨name, sl.length, 0, 0, chg, quota⟩ (S + (zl.length : Int)) B' wr) (fun _ i _ => zl.length - (intOf i).toNat)
        case atStart => exact ⟨0, B + (yl.length : Int), Nat.zero_le _, rfl, by simp, HI2.out⟩
        case round =>
          obtain ⟨j, B', hj, rfl, hB', hI⟩ := hrel
          have HB' := Lib.hid hB'
          have HI := Lib.hid hI
          clear hB' hI hy0 hy1 hy2 hy3 hy4 HI2
          have hrz := HI.out.row.lt
          have hz := HI.out.size
          by_cases hlj : j < zl.length
          · obtain ⟨x, b2, off2, hx, hza, hbz, hx0, hx1, hx2, hx3, hx4, hxo⟩ := (hsn.below HI.out.below).get hlj
            have hsx := Lib.hid (snBlocks_step hx)
            subst hza
            obtain ⟨xn, xg, ⟨xa, xc, xl⟩, ⟨va, vc, vl⟩, ⟨oa, oc, ol⟩⟩ := x
            dsimp only at hx0 hx1 hx2 hx3 hx4 hsx
            have HI1 := Lib.hid (HI.out.alloc (.cells #[.string xn, .int .i64 xg, .slice xa xl.length xc, .slice va vl.length vc, .slice oa ol.length oc] 42))
            have HI3 := Lib.hid ((HI.out.blocks (xl.length : Int) _ rfl).alloc (.cells #[.string xn, .int .i64 xg, .slice xa xl.length xc, .slice va vl.length vc, .slice oa ol.length oc] 42))
            have HC := Lib.hid (blocks_any r _ xa xl.length xc _ HI1.out.row)
            dsimp only at HC
            rw [← wrap_add (S := B') rfl] at HI3
            clear hx hxo HI1
            have hrw : r ≠ wr.heap.size := by omega
            have hrw' : wr.heap.size ≠ r := by omega
            go_wp2_with fail
            refine HC.out.mono ?_
            rintro e w6 ⟨rfl, rfl⟩
            clear HC
            go_wp2_with fail
            go_roundw
            case rel => exact ⟨j + 1, B' + (xl.length : Int), by omega, by go_num, by have h1 := HB'.out; have h2 := hsx.out; omega, HI3.out⟩
            case measure => simp [intOf]; omega
          · have hn : snBlocks (zl.drop j) = 0 := by rw [List.drop_of_length_le (by omega)]; rfl
            have HN := Lib.hid hn
            clear hn
            go_wp2_with fail
            go_roundw
            case rel => exact ⟨k + 1, S + (zl.length : Int), B', by omega, by go_num, by have h1 := HS.out; have h2 := hst.out; omega, by have h1 := HB.out; have h2 := hsb.out; have h3 := HB'.out; have h4 := HN.out; omega, HI.out⟩
            case measure => simp [intOf]; omega
      · have hn : S = snapsN sl ∧ B = setBlocks sl := by
          have h1 := HS.out
          have h2 := HB.out
          rw [List.drop_of_length_le (by omega)] at h1 h2
          simp only [snapsN, setBlocks] at h1 h2
          omega
        have HI' : Hid (OInv w (.slice ta tl.length tc) r ⟨name, sl.length, 0, 0, chg, quota⟩ (snapsN sl) (setBlocks sl) wr) := by rw [← hn.1, ← hn.2]; exact HI.out
        have hc5 := HI'.out.five
        clear HI HS HB hn
        go_wp2_with fail
        go_loopw [9, 52] (fun _ i wr => ∃ (j : Nat) (B : Int), j ≤ tl.length ∧ i = .int .i64 j ∧ B + stBlocks (tl.drop j) = setBlocks sl + stBlocks tl ∧ OInv w (.slice ta tl.length tc) r ⟨name, sl.length, 0, 0, chg, quota⟩ (snapsN sl) B wr) (fun _ i _ => tl.length - (intOf i).toNat)
        case atStart => exact ⟨0, setBlocks sl, Nat.zero_le _, rfl, by simp, HI'.out⟩
        case round =>
          obtain ⟨j, B, hj, rfl, hB, hI⟩ := hrel
          have HB := Lib.hid hB
          have HI := Lib.hid hI
          clear hB hI hc5 HI'
          have hrz := HI.out.row.lt
          have hz := HI.out.size
          by_cases hlj : j < tl.length
          · obtain ⟨y, bb, off, hy, hta, hbb, hR, hyo⟩ := stage_row (ht.below HI.out.below) hlj
            have hst := Lib.hid (stBlocks_step hy)
            subst hta
            have HI1 := Lib.hid (HI.out.alloc (.cells (cellsStage y).toArray 67))
            have HI3 := Lib.hid ((HI.out.blocks (y.body.l.length : Int) _ rfl).alloc (.cells (cellsStage y).toArray 67))
            have HC := Lib.hid (blocks_any r _ y.body.a y.body.l.length y.body.c _ HI1.out.row)
            dsimp only at HC
            rw [← wrap_add (S := B) rfl] at HI3
            have hnew := stage_new wr y
            have HR := Lib.hid hR
            clear hy hyo hR HI1
            have hrw : r ≠ wr.heap.size := by omega
            have hrw' : wr.heap.size ≠ r := by omega
            go_wp2_with (first | (refine wpList_load_mid rfl 67 _ rfl bb (off + j * 21) rfl (cellsStage y) _ HR.out Try.underlying67 rfl (hi67 y) ?_; simp only [Act.put, List.setIfInBounds_toArray, List.set_cons_zero, List.set_cons_succ]) | (refine wpList_store_row rfl 67 _ _ rfl wr.heap.size (cellsStage y).toArray rfl rfl 67 _ (heap_alloc_new _ _) (hi67 y) rfl (one67 y) ?_; rw [setRow_new]; simp only [Act.put]))
            refine HC.out.mono ?_
            rintro e w6 ⟨rfl, rfl⟩
            clear HC
            go_wp2_with fail
            go_roundw
            case rel => exact ⟨j + 1, B + (y.body.l.length : Int), by omega, by go_num, by have h1 := HB.out; have h2 := hst.out; omega, by first | exact HI3.out | (have h := HI3.out; rw [World.setCell_alloc _ _ _ _ hrw] at h; exact h) | skip⟩
            case measure => simp [intOf]; omega
          · have hn : B = setBlocks sl + stBlocks tl := by
              have h1 := HB.out
              rw [List.drop_of_length_le (by omega)] at h1
              simp only [stBlocks] at h1
              omega
            have HI2 : Hid (OInv w (.slice ta tl.length tc) r ⟨name, sl.length, 0, 0, chg, quota⟩ (snapsN sl) (setBlocks sl + stBlocks tl) wr) := by rw [← hn]; exact HI.out
            clear HI HB hn
            obtain ⟨-, d0, d1, d2, d3, d4, d5, -⟩ := HI2.out.row
            obtain ⟨-, g0, g1, g2, g3, g4, g5, gf⟩ := HI2.out.out
            dsimp only at d0 d1 d2 d3 d4 d5 g0 g1 g2 g3 g4 g5
            have gf0 := gf 0
            have gf1 := gf 1
            have gf2 := gf 2
            have gf3 := gf 3
            have gf4 := gf 4
            have gf5 := gf 5
            clear gf
            have hr1 : r ≠ w.heap.size + 1 := by omega
            have hR : RowAt ((((((wr.setCell ⟨w.heap.size + 1, 0, none⟩ (.string name)).setCell ⟨w.heap.size + 1, 1, none⟩ (.int .i64 sl.length)).setCell ⟨w.heap.size + 1, 2, none⟩ (.int .i64 (wrap64 (snapsN sl)))).setCell ⟨w.heap.size + 1, 3, none⟩ (.int .i64 (wrap64 (setBlocks sl + stBlocks tl)))).setCell ⟨w.heap.size + 1, 4, none⟩ (.int .i64 chg)).setCell ⟨w.heap.size + 1, 5, none⟩ (.int .i64 quota)) (w.heap.size + 1) ⟨name, sl.length, wrap64 (snapsN sl), wrap64 (setBlocks sl + stBlocks tl), chg, quota⟩ := (((((HI2.out.out.set0 name).set1 _).set2 _).set3 _).set4 _).set5 _
            have hB : Below w.heap.size w ((((((wr.setCell ⟨w.heap.size + 1, 0, none⟩ (.string name)).setCell ⟨w.heap.size + 1, 1, none⟩ (.int .i64 sl.length)).setCell ⟨w.heap.size + 1, 2, none⟩ (.int .i64 (wrap64 (snapsN sl)))).setCell ⟨w.heap.size + 1, 3, none⟩ (.int .i64 (wrap64 (setBlocks sl + stBlocks tl)))).setCell ⟨w.heap.size + 1, 4, none⟩ (.int .i64 chg)).setCell ⟨w.heap.size + 1, 5, none⟩ (.int .i64 quota)) := (((((HI2.out.below.setCell (by simp) _).setCell (by simp) _).setCell (by simp) _).setCell (by simp) _).setCell (by simp) _).setCell (by simp) _
            have HR := Lib.hid hR
            have HB := Lib.hid hB
            clear hR hB
            go_wp2_with fail
            generalize ((((((wr.setCell ⟨w.heap.size + 1, 0, none⟩ (.string name)).setCell ⟨w.heap.size + 1, 1, none⟩ (.int .i64 sl.length)).setCell ⟨w.heap.size + 1, 2, none⟩ (.int .i64 (wrap64 (snapsN sl)))).setCell ⟨w.heap.size + 1, 3, none⟩ (.int .i64 (wrap64 (setBlocks sl + stBlocks tl)))).setCell ⟨w.heap.size + 1, 4, none⟩ (.int .i64 chg)).setCell ⟨w.heap.size + 1, 5, none⟩ (.int .i64 quota)) = Wf at *
            obtain ⟨-, e0, e1, e2, e3, e4, e5, -⟩ := HR.out
            dsimp only at e0 e1 e2 e3 e4 e5
            exact bodyPost_ret (v := .agg #[.string name, .int .i64 sl.length, .int .i64 (wrap64 (snapsN sl)), .int .i64 (wrap64 (setBlocks sl + stBlocks tl)), .int .i64 chg, .int .i64 quota]) (by simp [results, Try.results36, go_sem, e0, e1, e2, e3, e4, e5]) rfl ⟨by rw [HRO.out]; rfl, HB.out⟩

end Go.Proofs.Ytbkghiaafkmapaa
