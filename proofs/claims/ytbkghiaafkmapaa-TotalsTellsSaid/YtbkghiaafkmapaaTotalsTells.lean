/- godownlaw37.TotalsTells answers true for every tenant and every row. No condition. -/
import Derived.Test.YtbkghiaafkmapaaAlive37
import Derived.Test.YtbkghiaafkmapaaQuiet
namespace Go.Proofs.Ytbkghiaafkmapaa.totalsTells
open Go.ChangeShapes Go.WideShapes Go.ChangeAt Go.RowKit

theorem share_ways (c q : Int) :
    (decide (0 ≤ c) = false ∧ ¬ (0 ≤ c ∧ c ≤ 10995116277 ∧ 1 ≤ q ∧ q ≤ 1099511627776)) ∨
    (decide (0 ≤ c) = true ∧ decide (c ≤ 10995116277) = false ∧ ¬ (0 ≤ c ∧ c ≤ 10995116277 ∧ 1 ≤ q ∧ q ≤ 1099511627776)) ∨
    (decide (0 ≤ c) = true ∧ decide (c ≤ 10995116277) = true ∧ decide (1 ≤ q) = false ∧ ¬ (0 ≤ c ∧ c ≤ 10995116277 ∧ 1 ≤ q ∧ q ≤ 1099511627776)) ∨
    (decide (0 ≤ c) = true ∧ decide (c ≤ 10995116277) = true ∧ decide (1 ≤ q) = true ∧ decide (q ≤ 1099511627776) = false ∧ ¬ (0 ≤ c ∧ c ≤ 10995116277 ∧ 1 ≤ q ∧ q ≤ 1099511627776)) ∨
    (decide (0 ≤ c) = true ∧ decide (c ≤ 10995116277) = true ∧ decide (1 ≤ q) = true ∧ decide (q ≤ 1099511627776) = true ∧ (0 ≤ c ∧ c ≤ 10995116277 ∧ 1 ≤ q ∧ q ≤ 1099511627776) ∧ 0 ≤ c * 100 ∧ c * 100 ≤ 1099511627776 ∧ (q == 0) = false ∧ 1 ≤ q) := by
  by_cases h0 : 0 ≤ c
  · by_cases h1 : c ≤ 10995116277
    · by_cases h2 : 1 ≤ q
      · by_cases h3 : q ≤ 1099511627776
        · exact .inr (.inr (.inr (.inr ⟨by simpa using h0, by simpa using h1, by simpa using h2, by simpa using h3, ⟨h0, h1, h2, h3⟩, by omega, by omega, by simp; omega, h2⟩)))
        · exact .inr (.inr (.inr (.inl ⟨by simpa using h0, by simpa using h1, by simpa using h2, by simpa using h3, by omega⟩)))
      · exact .inr (.inr (.inl ⟨by simpa using h0, by simpa using h1, by simpa using h2, by omega⟩))
    · exact .inr (.inl ⟨by simpa using h0, by simpa using h1, by omega⟩)
  · exact .inl ⟨by simpa using h0, by omega⟩
set_option maxRecDepth 100000 in
set_option maxHeartbeats 4000000 in
theorem walk (t : TenantD) (r : RowD) (w : World) (ht : okTenant w t) (hr : okRow w r) :
    Calls Try.prog 9 #[.agg #[.string t.name, .int .i64 t.quota, .int .i64 t.next, .slice t.sets.a t.sets.l.length t.sets.c, .slice t.grants.a t.grants.l.length t.grants.c, .slice t.stages.a t.stages.l.length t.stages.c, .slice t.log.a t.log.l.length t.log.c], .agg #[.string r.name, .int .i64 r.sets, .int .i64 r.snaps, .int .i64 r.blocks, .int .i64 r.charge, .int .i64 r.quota]] w fun e w' => e = .returned (.bool true) ∧ Below w.heap.size w w' := by
  have hO := fun W hW => Of_any t W (okTenant_below ht hW)
  have hC := fun W hW => refCharge_any t W (okTenant_below ht hW)
  have hSh := fun W => Share_any r W hr
  have HSN : Hid (shareN r = if 0 ≤ r.charge ∧ r.charge ≤ 10995116277 ∧ 1 ≤ r.quota ∧ r.quota ≤ 1099511627776 then r.charge * 100 / r.quota else 0) := rfl
  simp only [rowOf, cellsRow] at hO
  obtain ⟨name, quota, next, ⟨sa, sc, sl⟩, ⟨ga, gc, gl⟩, ⟨ta, tc, tl⟩, ⟨la, lc, ll⟩⟩ := t
  obtain ⟨rn, rs, rp, rb, rc, rq⟩ := r
  generalize shareN ⟨rn, rs, rp, rb, rc, rq⟩ = sh at *
  dsimp only at hO hC hSh HSN ⊢
  generalize wrap64 (tenChg ⟨name, quota, next, ⟨sa, sc, sl⟩, ⟨ga, gc, gl⟩, ⟨ta, tc, tl⟩, ⟨la, lc, ll⟩⟩) = chg at *
  have HT := Lib.hid ht
  obtain ⟨-, -, -, hs, -, hts, -⟩ := ht
  have hsl := IsSl.len hs
  have htl := IsSl.len hts
  dsimp only at hs hts hsl htl
  have HO := Lib.hid hO
  have HC := Lib.hid hC
  have HSh := Lib.hid hSh
  clear hO hC hSh hr
  go_enter Try.func9, Try.ntmps9
  go_wp2_with fail
  refine (HO.out _ (((Below.refl _ _).alloc (Nat.le_refl _) _).alloc (by simp) _)).mono ?_
  rintro e w1 ⟨rfl, hb⟩
  have hB : Below (w.heap.size + 2) ((w.alloc (.cells #[.string name, .int .i64 quota, .int .i64 next, .slice sa sl.length sc, .slice ga gl.length gc, .slice ta tl.length tc, .slice la ll.length lc] 53)).alloc (.cells #[.string rn, .int .i64 rs, .int .i64 rp, .int .i64 rb, .int .i64 rc, .int .i64 rq] 59)) (w1.alloc (.cells #[.string name, .int .i64 sl.length, .int .i64 (wrap64 (snapsN sl)), .int .i64 (wrap64 (setBlocks sl + stBlocks tl)), .int .i64 chg, .int .i64 quota] 59)) := (hb.mono (by simp)).alloc (by have := hb.size; simp at this; omega) _
  have HB : Hid (Below w.heap.size w (w1.alloc (.cells #[.string name, .int .i64 sl.length, .int .i64 (wrap64 (snapsN sl)), .int .i64 (wrap64 (setBlocks sl + stBlocks tl)), .int .i64 chg, .int .i64 quota] 59))) := (((Below.refl _ _).alloc (Nat.le_refl _) _).alloc (by simp) _).trans (hB.mono (by omega))
  have hz : w.heap.size + 2 ≤ w1.heap.size := by have := hb.size; simp at this; omega
  have hA : At (w1.alloc (.cells #[.string name, .int .i64 sl.length, .int .i64 (wrap64 (snapsN sl)), .int .i64 (wrap64 (setBlocks sl + stBlocks tl)), .int .i64 chg, .int .i64 quota] 59)) [(w.heap.size, 0, (.string name)), (w.heap.size, 1, (.int .i64 quota)), (w.heap.size, 2, (.int .i64 next)), (w.heap.size, 3, (.slice sa sl.length sc)), (w.heap.size, 4, (.slice ga gl.length gc)), (w.heap.size, 5, (.slice ta tl.length tc)), (w.heap.size, 6, (.slice la ll.length lc)), (w.heap.size + 1, 0, (.string rn)), (w.heap.size + 1, 1, (.int .i64 rs)), (w.heap.size + 1, 2, (.int .i64 rp)), (w.heap.size + 1, 3, (.int .i64 rb)), (w.heap.size + 1, 4, (.int .i64 rc)), (w.heap.size + 1, 5, (.int .i64 rq)), (w1.heap.size, 0, (.string name)), (w1.heap.size, 1, (.int .i64 sl.length)), (w1.heap.size, 2, (.int .i64 (wrap64 (snapsN sl)))), (w1.heap.size, 3, (.int .i64 (wrap64 (setBlocks sl + stBlocks tl)))), (w1.heap.size, 4, (.int .i64 chg)), (w1.heap.size, 5, (.int .i64 quota))] := by
    refine At.cons (by simp; omega) ((hB.cell (p := ⟨w.heap.size, 0, none⟩) (show w.heap.size < w.heap.size + 2 by omega)).trans (by go_simp)) ?_
    refine At.cons (by simp; omega) ((hB.cell (p := ⟨w.heap.size, 1, none⟩) (show w.heap.size < w.heap.size + 2 by omega)).trans (by go_simp)) ?_
    refine At.cons (by simp; omega) ((hB.cell (p := ⟨w.heap.size, 2, none⟩) (show w.heap.size < w.heap.size + 2 by omega)).trans (by go_simp)) ?_
    refine At.cons (by simp; omega) ((hB.cell (p := ⟨w.heap.size, 3, none⟩) (show w.heap.size < w.heap.size + 2 by omega)).trans (by go_simp)) ?_
    refine At.cons (by simp; omega) ((hB.cell (p := ⟨w.heap.size, 4, none⟩) (show w.heap.size < w.heap.size + 2 by omega)).trans (by go_simp)) ?_
    refine At.cons (by simp; omega) ((hB.cell (p := ⟨w.heap.size, 5, none⟩) (show w.heap.size < w.heap.size + 2 by omega)).trans (by go_simp)) ?_
    refine At.cons (by simp; omega) ((hB.cell (p := ⟨w.heap.size, 6, none⟩) (show w.heap.size < w.heap.size + 2 by omega)).trans (by go_simp)) ?_
    refine At.cons (by simp; omega) ((hB.cell (p := ⟨w.heap.size + 1, 0, none⟩) (show w.heap.size + 1 < w.heap.size + 2 by omega)).trans (by go_simp)) ?_
    refine At.cons (by simp; omega) ((hB.cell (p := ⟨w.heap.size + 1, 1, none⟩) (show w.heap.size + 1 < w.heap.size + 2 by omega)).trans (by go_simp)) ?_
    refine At.cons (by simp; omega) ((hB.cell (p := ⟨w.heap.size + 1, 2, none⟩) (show w.heap.size + 1 < w.heap.size + 2 by omega)).trans (by go_simp)) ?_
    refine At.cons (by simp; omega) ((hB.cell (p := ⟨w.heap.size + 1, 3, none⟩) (show w.heap.size + 1 < w.heap.size + 2 by omega)).trans (by go_simp)) ?_
    refine At.cons (by simp; omega) ((hB.cell (p := ⟨w.heap.size + 1, 4, none⟩) (show w.heap.size + 1 < w.heap.size + 2 by omega)).trans (by go_simp)) ?_
    refine At.cons (by simp; omega) ((hB.cell (p := ⟨w.heap.size + 1, 5, none⟩) (show w.heap.size + 1 < w.heap.size + 2 by omega)).trans (by go_simp)) ?_
    refine At.cons (by simp) (by go_simp) ?_
    refine At.cons (by simp) (by go_simp) ?_
    refine At.cons (by simp) (by go_simp) ?_
    refine At.cons (by simp) (by go_simp) ?_
    refine At.cons (by simp) (by go_simp) ?_
    refine At.cons (by simp) (by go_simp) ?_
    exact At.nil _
  have HA := Lib.hid hA
  clear hA hB hb
  have hz' : w1.heap.size + 1 = (w1.alloc (.cells #[.string name, .int .i64 sl.length, .int .i64 (wrap64 (snapsN sl)), .int .i64 (wrap64 (setBlocks sl + stBlocks tl)), .int .i64 chg, .int .i64 quota] 59)).heap.size := by simp
  go_wp2_with fail
  generalize w1.alloc (.cells #[.string name, .int .i64 sl.length, .int .i64 (wrap64 (snapsN sl)), .int .i64 (wrap64 (setBlocks sl + stBlocks tl)), .int .i64 chg, .int .i64 quota] 59) = W2 at *
  generalize w1.heap.size = n1 at *
  have p3 := (HA.out _ _ _ (List.mem_iff_getElem?.2 ⟨3, rfl⟩)).2
  have p5 := (HA.out _ _ _ (List.mem_iff_getElem?.2 ⟨5, rfl⟩)).2
  go_loop [6, 7, 8] (fun s b i => ∃ (k : Nat) (S B : Int), k ≤ sl.length ∧ i = .int .i64 k ∧ s = .int .i64 (wrap64 S) ∧ b = .int .i64 (wrap64 B) ∧ S + snapsN (sl.drop k) = snapsN sl ∧ B + setBlocks (sl.drop k) = setBlocks sl) (fun _ _ i => sl.length - (intOf i).toNat)
  case atStart => exact ⟨0, 0, 0, Nat.zero_le _, rfl, by rw [← wrap_zero], by rw [← wrap_zero], by simp, by simp⟩
  case round =>
    obtain ⟨k, S, B, hk, rfl, rfl, rfl, hS, hB⟩ := hrel
    have HS := Lib.hid hS
    have HB' := Lib.hid hB
    clear hS hB
    by_cases hlt : k < sl.length
    · obtain ⟨y, bb, off, hy, hsa, hbs, hy0, hy1, hy2, hy3, hy4, -⟩ := (hs.below HB.out).get hlt
      obtain ⟨y', -, -, hy', -, -, -, -, -, -, -, hyo⟩ := hs.get hlt
      obtain rfl : y = y' := by rw [hy] at hy'; exact Option.some.inj hy'
      have hst := Lib.hid (snapsN_step hy)
      have hsb := Lib.hid (setBlocks_step hy)
      subst hsa
      obtain ⟨yp, yg, ⟨ya, yc, yl⟩, ⟨za, zc, zl⟩, ⟨ua, uc, ul⟩⟩ := y
      obtain ⟨-, -, hyb, hsn, -⟩ := hyo
      have hzl := IsSl.len hsn
      have hyl := IsSl.len hyb
      dsimp only at hy0 hy1 hy2 hy3 hy4 hst hsb hsn hzl hyl
      have hw1 : wrap64 (wrap64 S + (zl.length : Int)) = wrap64 (S + (zl.length : Int)) := by rw [wrap_add rfl]
      have hw2 : wrap64 (wrap64 B + (yl.length : Int)) = wrap64 (B + (yl.length : Int)) := by rw [wrap_add rfl]
      have HW1 := Lib.hid hw1
      have HW2 := Lib.hid hw2
      clear hy hy' hw1 hw2 hyb
      go_wp2_with fail
      go_loop [7, 9] (fun b i => ∃ (j : Nat) (B' : Int), j ≤ zl.length ∧ i = .int .i64 j ∧ b = .int .i64 (wrap64 B') ∧ B' + snBlocks (zl.drop j) = B + (yl.length : Int) + snBlocks zl) (fun _ i => zl.length - (intOf i).toNat)
      case atStart => exact ⟨0, B + (yl.length : Int), Nat.zero_le _, rfl, by rw [HW2.out], by simp⟩
      case round =>
        obtain ⟨j, B', hj, rfl, rfl, hB2⟩ := hrel
        have HB2 := Lib.hid hB2
        clear hB2
        by_cases hlj : j < zl.length
        · obtain ⟨x, b2, off2, hx, hza, hbz, hx0, hx1, hx2, hx3, hx4, hxo⟩ := (hsn.below HB.out).get hlj
          have hsx := Lib.hid (snBlocks_step hx)
          subst hza
          obtain ⟨xn, xg, ⟨xa, xc, xl⟩, ⟨va, vc, vl⟩, ⟨oa, oc, ol⟩⟩ := x
          dsimp only at hx0 hx1 hx2 hx3 hx4 hsx
          have hxl := IsSl.len hxo.2.2.1
          dsimp only at hxl
          have hw3 : wrap64 (wrap64 B' + (xl.length : Int)) = wrap64 (B' + (xl.length : Int)) := by rw [wrap_add rfl]
          have HW3 := Lib.hid hw3
          clear hx hxo hw3
          go_wp2_with fail
          go_round
          case rel => exact ⟨j + 1, B' + (xl.length : Int), by omega, by go_num, by rw [HW3.out], by have h1 := HB2.out; have h2 := hsx.out; omega⟩
          case measure => simp [intOf]; omega
        · have hn : snBlocks (zl.drop j) = 0 := by rw [List.drop_of_length_le (by omega)]; rfl
          have HN := Lib.hid hn
          clear hn
          go_wp2_with fail
          go_round
          case rel => exact ⟨k + 1, S + (zl.length : Int), B', by omega, by go_num, by rw [HW1.out], rfl, by have h1 := HS.out; have h2 := hst.out; omega, by have h1 := HB'.out; have h2 := hsb.out; have h3 := HB2.out; have h4 := HN.out; omega⟩
          case measure => simp [intOf]; omega
    · have hn : S = snapsN sl ∧ B = setBlocks sl := by
        have h1 := HS.out
        have h2 := HB'.out
        rw [List.drop_of_length_le (by omega)] at h1 h2
        simp only [snapsN, setBlocks] at h1 h2
        omega
      obtain ⟨rfl, rfl⟩ := hn
      clear HS HB'
      go_wp2_with fail
      go_loop [7, 10] (fun b i => ∃ (j : Nat) (B : Int), j ≤ tl.length ∧ i = .int .i64 j ∧ b = .int .i64 (wrap64 B) ∧ B + stBlocks (tl.drop j) = setBlocks sl + stBlocks tl) (fun _ i => tl.length - (intOf i).toNat)
      case atStart => exact ⟨0, setBlocks sl, Nat.zero_le _, rfl, rfl, by simp⟩
      case round =>
        obtain ⟨j, B, hj, rfl, rfl, hB⟩ := hrel
        have HB' := Lib.hid hB
        clear hB
        by_cases hlj : j < tl.length
        · obtain ⟨y, bb, off, hy, hta, hbb, hR, hyo⟩ := stage_row (hts.below HB.out) hlj
          have hst := Lib.hid (stBlocks_step hy)
          have h13 : W2.cell? ⟨bb, off + j * 21 + 13, none⟩ = some (.slice y.body.a y.body.l.length y.body.c) := hR 13 _ rfl
          have hyl := IsSl.len hyo.2.2.1
          have hw3 : wrap64 (wrap64 B + (y.body.l.length : Int)) = wrap64 (B + (y.body.l.length : Int)) := by rw [wrap_add rfl]
          have HW3 := Lib.hid hw3
          subst hta
          clear hy hyo hR hw3
          go_wp2_with fail
          go_round
          case rel => exact ⟨j + 1, B + (y.body.l.length : Int), by omega, by go_num, by rw [HW3.out], by have h1 := HB'.out; have h2 := hst.out; omega⟩
          case measure => simp [intOf]; omega
        · have hn : B = setBlocks sl + stBlocks tl := by
            have h1 := HB'.out
            rw [List.drop_of_length_le (by omega)] at h1
            simp only [stBlocks] at h1
            omega
          subst hn
          clear HB'
          have r4 := (HA.out _ _ _ (List.mem_iff_getElem?.2 ⟨11, rfl⟩)).2
          have r5 := (HA.out _ _ _ (List.mem_iff_getElem?.2 ⟨12, rfl⟩)).2
          rcases share_ways rc rq with ⟨d0, hn⟩ | ⟨d0, d1, hn⟩ | ⟨d0, d1, d2, hn⟩ | ⟨d0, d1, d2, d3, hn⟩ | ⟨d0, d1, d2, d3, hn, b1, b2, b3, b4⟩
          · have hsh : sh = 0 := by rw [HSN.out, if_neg hn]
            subst hsh
            clear HSN hn
            go_wp2_with fail
            clear p3 p5 r4 r5
            try clear d0
            try clear d1
            try clear d2
            try clear d3
            refine region_C (by kernel_rfl) (by kernel_rfl) (Cls.start HA.out) ?_
            repeat (first | go_big_quiet_skip | (go_big_quiet_want; (first | (apply q_val; (· (rintro w' ⟨hA, -⟩; have c0 := hA.hd; have c1 := hA.tl.hd; have c2 := hA.tl.tl.hd; have c3 := hA.tl.tl.tl.hd; have c4 := hA.tl.tl.tl.tl.hd; have c5 := hA.tl.tl.tl.tl.tl.hd; have c6 := hA.tl.tl.tl.tl.tl.tl.hd; have c7 := hA.tl.tl.tl.tl.tl.tl.tl.hd; have c8 := hA.tl.tl.tl.tl.tl.tl.tl.tl.hd; have c9 := hA.tl.tl.tl.tl.tl.tl.tl.tl.tl.hd; have c10 := hA.tl.tl.tl.tl.tl.tl.tl.tl.tl.tl.hd; have c11 := hA.tl.tl.tl.tl.tl.tl.tl.tl.tl.tl.tl.hd; have c12 := hA.tl.tl.tl.tl.tl.tl.tl.tl.tl.tl.tl.tl.hd; have c13 := hA.tl.tl.tl.tl.tl.tl.tl.tl.tl.tl.tl.tl.tl.hd; have c14 := hA.tl.tl.tl.tl.tl.tl.tl.tl.tl.tl.tl.tl.tl.tl.hd; have c15 := hA.tl.tl.tl.tl.tl.tl.tl.tl.tl.tl.tl.tl.tl.tl.tl.hd; have c16 := hA.tl.tl.tl.tl.tl.tl.tl.tl.tl.tl.tl.tl.tl.tl.tl.tl.hd; have c17 := hA.tl.tl.tl.tl.tl.tl.tl.tl.tl.tl.tl.tl.tl.tl.tl.tl.tl.hd; have c18 := hA.tl.tl.tl.tl.tl.tl.tl.tl.tl.tl.tl.tl.tl.tl.tl.tl.tl.tl.hd; clear hA; go_simp; try rfl))) | (apply q_call 30; (· (rintro w' ⟨hA, -⟩; have c0 := hA.hd; have c1 := hA.tl.hd; have c2 := hA.tl.tl.hd; have c3 := hA.tl.tl.tl.hd; have c4 := hA.tl.tl.tl.tl.hd; have c5 := hA.tl.tl.tl.tl.tl.hd; have c6 := hA.tl.tl.tl.tl.tl.tl.hd; have c7 := hA.tl.tl.tl.tl.tl.tl.tl.hd; have c8 := hA.tl.tl.tl.tl.tl.tl.tl.tl.hd; have c9 := hA.tl.tl.tl.tl.tl.tl.tl.tl.tl.hd; have c10 := hA.tl.tl.tl.tl.tl.tl.tl.tl.tl.tl.hd; have c11 := hA.tl.tl.tl.tl.tl.tl.tl.tl.tl.tl.tl.hd; have c12 := hA.tl.tl.tl.tl.tl.tl.tl.tl.tl.tl.tl.tl.hd; have c13 := hA.tl.tl.tl.tl.tl.tl.tl.tl.tl.tl.tl.tl.tl.hd; have c14 := hA.tl.tl.tl.tl.tl.tl.tl.tl.tl.tl.tl.tl.tl.tl.hd; have c15 := hA.tl.tl.tl.tl.tl.tl.tl.tl.tl.tl.tl.tl.tl.tl.tl.hd; have c16 := hA.tl.tl.tl.tl.tl.tl.tl.tl.tl.tl.tl.tl.tl.tl.tl.tl.hd; have c17 := hA.tl.tl.tl.tl.tl.tl.tl.tl.tl.tl.tl.tl.tl.tl.tl.tl.tl.hd; have c18 := hA.tl.tl.tl.tl.tl.tl.tl.tl.tl.tl.tl.tl.tl.tl.tl.tl.tl.tl.hd; clear hA; go_simp; try rfl)); (· (intro w' hC; exact (HC.out _ (HB.out.trans (hC.2.mono HB.out.size))).mono (fun e w'' h => ⟨h.1, hC.later h.2⟩)))) | (apply q_call 37; (· (rintro w' ⟨hA, -⟩; have c0 := hA.hd; have c1 := hA.tl.hd; have c2 := hA.tl.tl.hd; have c3 := hA.tl.tl.tl.hd; have c4 := hA.tl.tl.tl.tl.hd; have c5 := hA.tl.tl.tl.tl.tl.hd; have c6 := hA.tl.tl.tl.tl.tl.tl.hd; have c7 := hA.tl.tl.tl.tl.tl.tl.tl.hd; have c8 := hA.tl.tl.tl.tl.tl.tl.tl.tl.hd; have c9 := hA.tl.tl.tl.tl.tl.tl.tl.tl.tl.hd; have c10 := hA.tl.tl.tl.tl.tl.tl.tl.tl.tl.tl.hd; have c11 := hA.tl.tl.tl.tl.tl.tl.tl.tl.tl.tl.tl.hd; have c12 := hA.tl.tl.tl.tl.tl.tl.tl.tl.tl.tl.tl.tl.hd; have c13 := hA.tl.tl.tl.tl.tl.tl.tl.tl.tl.tl.tl.tl.tl.hd; have c14 := hA.tl.tl.tl.tl.tl.tl.tl.tl.tl.tl.tl.tl.tl.tl.hd; have c15 := hA.tl.tl.tl.tl.tl.tl.tl.tl.tl.tl.tl.tl.tl.tl.tl.hd; have c16 := hA.tl.tl.tl.tl.tl.tl.tl.tl.tl.tl.tl.tl.tl.tl.tl.tl.hd; have c17 := hA.tl.tl.tl.tl.tl.tl.tl.tl.tl.tl.tl.tl.tl.tl.tl.tl.tl.hd; have c18 := hA.tl.tl.tl.tl.tl.tl.tl.tl.tl.tl.tl.tl.tl.tl.tl.tl.tl.tl.hd; clear hA; go_simp; try rfl)); (· (intro w' hC; exact (HSh.out _).mono (fun e w'' h => ⟨h.1, hC.later h.2⟩)))) | (apply q_call 38; (· (rintro w' ⟨hA, -⟩; have c0 := hA.hd; have c1 := hA.tl.hd; have c2 := hA.tl.tl.hd; have c3 := hA.tl.tl.tl.hd; have c4 := hA.tl.tl.tl.tl.hd; have c5 := hA.tl.tl.tl.tl.tl.hd; have c6 := hA.tl.tl.tl.tl.tl.tl.hd; have c7 := hA.tl.tl.tl.tl.tl.tl.tl.hd; have c8 := hA.tl.tl.tl.tl.tl.tl.tl.tl.hd; have c9 := hA.tl.tl.tl.tl.tl.tl.tl.tl.tl.hd; have c10 := hA.tl.tl.tl.tl.tl.tl.tl.tl.tl.tl.hd; have c11 := hA.tl.tl.tl.tl.tl.tl.tl.tl.tl.tl.tl.hd; have c12 := hA.tl.tl.tl.tl.tl.tl.tl.tl.tl.tl.tl.tl.hd; have c13 := hA.tl.tl.tl.tl.tl.tl.tl.tl.tl.tl.tl.tl.tl.hd; have c14 := hA.tl.tl.tl.tl.tl.tl.tl.tl.tl.tl.tl.tl.tl.tl.hd; have c15 := hA.tl.tl.tl.tl.tl.tl.tl.tl.tl.tl.tl.tl.tl.tl.tl.hd; have c16 := hA.tl.tl.tl.tl.tl.tl.tl.tl.tl.tl.tl.tl.tl.tl.tl.tl.hd; have c17 := hA.tl.tl.tl.tl.tl.tl.tl.tl.tl.tl.tl.tl.tl.tl.tl.tl.tl.hd; have c18 := hA.tl.tl.tl.tl.tl.tl.tl.tl.tl.tl.tl.tl.tl.tl.tl.tl.tl.tl.hd; clear hA; go_simp; try rfl)); (· (intro w' hC; exact (alive37 _).mono (fun e w'' h => ⟨h.1, hC.later h.2⟩))))); simp only [Act.put, List.setIfInBounds_toArray, List.set_cons_zero, List.set_cons_succ]; go_big_quiet_on))
            refine wpQuiet_nil ?_
            intro w3 hC3
            have HB3 := Lib.hid (HB.out.trans (hC3.2.mono HB.out.size))
            clear hC3
            go_wp2_with fail
            go_ret
            exact ⟨rfl, HB3.out⟩
          · have hsh : sh = 0 := by rw [HSN.out, if_neg hn]
            subst hsh
            clear HSN hn
            go_wp2_with fail
            clear p3 p5 r4 r5
            try clear d0
            try clear d1
            try clear d2
            try clear d3
            refine region_C (by kernel_rfl) (by kernel_rfl) (Cls.start HA.out) ?_
            repeat (first | go_big_quiet_skip | (go_big_quiet_want; (first | (apply q_val; (· (rintro w' ⟨hA, -⟩; have c0 := hA.hd; have c1 := hA.tl.hd; have c2 := hA.tl.tl.hd; have c3 := hA.tl.tl.tl.hd; have c4 := hA.tl.tl.tl.tl.hd; have c5 := hA.tl.tl.tl.tl.tl.hd; have c6 := hA.tl.tl.tl.tl.tl.tl.hd; have c7 := hA.tl.tl.tl.tl.tl.tl.tl.hd; have c8 := hA.tl.tl.tl.tl.tl.tl.tl.tl.hd; have c9 := hA.tl.tl.tl.tl.tl.tl.tl.tl.tl.hd; have c10 := hA.tl.tl.tl.tl.tl.tl.tl.tl.tl.tl.hd; have c11 := hA.tl.tl.tl.tl.tl.tl.tl.tl.tl.tl.tl.hd; have c12 := hA.tl.tl.tl.tl.tl.tl.tl.tl.tl.tl.tl.tl.hd; have c13 := hA.tl.tl.tl.tl.tl.tl.tl.tl.tl.tl.tl.tl.tl.hd; have c14 := hA.tl.tl.tl.tl.tl.tl.tl.tl.tl.tl.tl.tl.tl.tl.hd; have c15 := hA.tl.tl.tl.tl.tl.tl.tl.tl.tl.tl.tl.tl.tl.tl.tl.hd; have c16 := hA.tl.tl.tl.tl.tl.tl.tl.tl.tl.tl.tl.tl.tl.tl.tl.tl.hd; have c17 := hA.tl.tl.tl.tl.tl.tl.tl.tl.tl.tl.tl.tl.tl.tl.tl.tl.tl.hd; have c18 := hA.tl.tl.tl.tl.tl.tl.tl.tl.tl.tl.tl.tl.tl.tl.tl.tl.tl.tl.hd; clear hA; go_simp; try rfl))) | (apply q_call 30; (· (rintro w' ⟨hA, -⟩; have c0 := hA.hd; have c1 := hA.tl.hd; have c2 := hA.tl.tl.hd; have c3 := hA.tl.tl.tl.hd; have c4 := hA.tl.tl.tl.tl.hd; have c5 := hA.tl.tl.tl.tl.tl.hd; have c6 := hA.tl.tl.tl.tl.tl.tl.hd; have c7 := hA.tl.tl.tl.tl.tl.tl.tl.hd; have c8 := hA.tl.tl.tl.tl.tl.tl.tl.tl.hd; have c9 := hA.tl.tl.tl.tl.tl.tl.tl.tl.tl.hd; have c10 := hA.tl.tl.tl.tl.tl.tl.tl.tl.tl.tl.hd; have c11 := hA.tl.tl.tl.tl.tl.tl.tl.tl.tl.tl.tl.hd; have c12 := hA.tl.tl.tl.tl.tl.tl.tl.tl.tl.tl.tl.tl.hd; have c13 := hA.tl.tl.tl.tl.tl.tl.tl.tl.tl.tl.tl.tl.tl.hd; have c14 := hA.tl.tl.tl.tl.tl.tl.tl.tl.tl.tl.tl.tl.tl.tl.hd; have c15 := hA.tl.tl.tl.tl.tl.tl.tl.tl.tl.tl.tl.tl.tl.tl.tl.hd; have c16 := hA.tl.tl.tl.tl.tl.tl.tl.tl.tl.tl.tl.tl.tl.tl.tl.tl.hd; have c17 := hA.tl.tl.tl.tl.tl.tl.tl.tl.tl.tl.tl.tl.tl.tl.tl.tl.tl.hd; have c18 := hA.tl.tl.tl.tl.tl.tl.tl.tl.tl.tl.tl.tl.tl.tl.tl.tl.tl.tl.hd; clear hA; go_simp; try rfl)); (· (intro w' hC; exact (HC.out _ (HB.out.trans (hC.2.mono HB.out.size))).mono (fun e w'' h => ⟨h.1, hC.later h.2⟩)))) | (apply q_call 37; (· (rintro w' ⟨hA, -⟩; have c0 := hA.hd; have c1 := hA.tl.hd; have c2 := hA.tl.tl.hd; have c3 := hA.tl.tl.tl.hd; have c4 := hA.tl.tl.tl.tl.hd; have c5 := hA.tl.tl.tl.tl.tl.hd; have c6 := hA.tl.tl.tl.tl.tl.tl.hd; have c7 := hA.tl.tl.tl.tl.tl.tl.tl.hd; have c8 := hA.tl.tl.tl.tl.tl.tl.tl.tl.hd; have c9 := hA.tl.tl.tl.tl.tl.tl.tl.tl.tl.hd; have c10 := hA.tl.tl.tl.tl.tl.tl.tl.tl.tl.tl.hd; have c11 := hA.tl.tl.tl.tl.tl.tl.tl.tl.tl.tl.tl.hd; have c12 := hA.tl.tl.tl.tl.tl.tl.tl.tl.tl.tl.tl.tl.hd; have c13 := hA.tl.tl.tl.tl.tl.tl.tl.tl.tl.tl.tl.tl.tl.hd; have c14 := hA.tl.tl.tl.tl.tl.tl.tl.tl.tl.tl.tl.tl.tl.tl.hd; have c15 := hA.tl.tl.tl.tl.tl.tl.tl.tl.tl.tl.tl.tl.tl.tl.tl.hd; have c16 := hA.tl.tl.tl.tl.tl.tl.tl.tl.tl.tl.tl.tl.tl.tl.tl.tl.hd; have c17 := hA.tl.tl.tl.tl.tl.tl.tl.tl.tl.tl.tl.tl.tl.tl.tl.tl.tl.hd; have c18 := hA.tl.tl.tl.tl.tl.tl.tl.tl.tl.tl.tl.tl.tl.tl.tl.tl.tl.tl.hd; clear hA; go_simp; try rfl)); (· (intro w' hC; exact (HSh.out _).mono (fun e w'' h => ⟨h.1, hC.later h.2⟩)))) | (apply q_call 38; (· (rintro w' ⟨hA, -⟩; have c0 := hA.hd; have c1 := hA.tl.hd; have c2 := hA.tl.tl.hd; have c3 := hA.tl.tl.tl.hd; have c4 := hA.tl.tl.tl.tl.hd; have c5 := hA.tl.tl.tl.tl.tl.hd; have c6 := hA.tl.tl.tl.tl.tl.tl.hd; have c7 := hA.tl.tl.tl.tl.tl.tl.tl.hd; have c8 := hA.tl.tl.tl.tl.tl.tl.tl.tl.hd; have c9 := hA.tl.tl.tl.tl.tl.tl.tl.tl.tl.hd; have c10 := hA.tl.tl.tl.tl.tl.tl.tl.tl.tl.tl.hd; have c11 := hA.tl.tl.tl.tl.tl.tl.tl.tl.tl.tl.tl.hd; have c12 := hA.tl.tl.tl.tl.tl.tl.tl.tl.tl.tl.tl.tl.hd; have c13 := hA.tl.tl.tl.tl.tl.tl.tl.tl.tl.tl.tl.tl.tl.hd; have c14 := hA.tl.tl.tl.tl.tl.tl.tl.tl.tl.tl.tl.tl.tl.tl.hd; have c15 := hA.tl.tl.tl.tl.tl.tl.tl.tl.tl.tl.tl.tl.tl.tl.tl.hd; have c16 := hA.tl.tl.tl.tl.tl.tl.tl.tl.tl.tl.tl.tl.tl.tl.tl.tl.hd; have c17 := hA.tl.tl.tl.tl.tl.tl.tl.tl.tl.tl.tl.tl.tl.tl.tl.tl.tl.hd; have c18 := hA.tl.tl.tl.tl.tl.tl.tl.tl.tl.tl.tl.tl.tl.tl.tl.tl.tl.tl.hd; clear hA; go_simp; try rfl)); (· (intro w' hC; exact (alive37 _).mono (fun e w'' h => ⟨h.1, hC.later h.2⟩))))); simp only [Act.put, List.setIfInBounds_toArray, List.set_cons_zero, List.set_cons_succ]; go_big_quiet_on))
            refine wpQuiet_nil ?_
            intro w3 hC3
            have HB3 := Lib.hid (HB.out.trans (hC3.2.mono HB.out.size))
            clear hC3
            go_wp2_with fail
            go_ret
            exact ⟨rfl, HB3.out⟩
          · have hsh : sh = 0 := by rw [HSN.out, if_neg hn]
            subst hsh
            clear HSN hn
            go_wp2_with fail
            clear p3 p5 r4 r5
            try clear d0
            try clear d1
            try clear d2
            try clear d3
            refine region_C (by kernel_rfl) (by kernel_rfl) (Cls.start HA.out) ?_
            repeat (first | go_big_quiet_skip | (go_big_quiet_want; (first | (apply q_val; (· (rintro w' ⟨hA, -⟩; have c0 := hA.hd; have c1 := hA.tl.hd; have c2 := hA.tl.tl.hd; have c3 := hA.tl.tl.tl.hd; have c4 := hA.tl.tl.tl.tl.hd; have c5 := hA.tl.tl.tl.tl.tl.hd; have c6 := hA.tl.tl.tl.tl.tl.tl.hd; have c7 := hA.tl.tl.tl.tl.tl.tl.tl.hd; have c8 := hA.tl.tl.tl.tl.tl.tl.tl.tl.hd; have c9 := hA.tl.tl.tl.tl.tl.tl.tl.tl.tl.hd; have c10 := hA.tl.tl.tl.tl.tl.tl.tl.tl.tl.tl.hd; have c11 := hA.tl.tl.tl.tl.tl.tl.tl.tl.tl.tl.tl.hd; have c12 := hA.tl.tl.tl.tl.tl.tl.tl.tl.tl.tl.tl.tl.hd; have c13 := hA.tl.tl.tl.tl.tl.tl.tl.tl.tl.tl.tl.tl.tl.hd; have c14 := hA.tl.tl.tl.tl.tl.tl.tl.tl.tl.tl.tl.tl.tl.tl.hd; have c15 := hA.tl.tl.tl.tl.tl.tl.tl.tl.tl.tl.tl.tl.tl.tl.tl.hd; have c16 := hA.tl.tl.tl.tl.tl.tl.tl.tl.tl.tl.tl.tl.tl.tl.tl.tl.hd; have c17 := hA.tl.tl.tl.tl.tl.tl.tl.tl.tl.tl.tl.tl.tl.tl.tl.tl.tl.hd; have c18 := hA.tl.tl.tl.tl.tl.tl.tl.tl.tl.tl.tl.tl.tl.tl.tl.tl.tl.tl.hd; clear hA; go_simp; try rfl))) | (apply q_call 30; (· (rintro w' ⟨hA, -⟩; have c0 := hA.hd; have c1 := hA.tl.hd; have c2 := hA.tl.tl.hd; have c3 := hA.tl.tl.tl.hd; have c4 := hA.tl.tl.tl.tl.hd; have c5 := hA.tl.tl.tl.tl.tl.hd; have c6 := hA.tl.tl.tl.tl.tl.tl.hd; have c7 := hA.tl.tl.tl.tl.tl.tl.tl.hd; have c8 := hA.tl.tl.tl.tl.tl.tl.tl.tl.hd; have c9 := hA.tl.tl.tl.tl.tl.tl.tl.tl.tl.hd; have c10 := hA.tl.tl.tl.tl.tl.tl.tl.tl.tl.tl.hd; have c11 := hA.tl.tl.tl.tl.tl.tl.tl.tl.tl.tl.tl.hd; have c12 := hA.tl.tl.tl.tl.tl.tl.tl.tl.tl.tl.tl.tl.hd; have c13 := hA.tl.tl.tl.tl.tl.tl.tl.tl.tl.tl.tl.tl.tl.hd; have c14 := hA.tl.tl.tl.tl.tl.tl.tl.tl.tl.tl.tl.tl.tl.tl.hd; have c15 := hA.tl.tl.tl.tl.tl.tl.tl.tl.tl.tl.tl.tl.tl.tl.tl.hd; have c16 := hA.tl.tl.tl.tl.tl.tl.tl.tl.tl.tl.tl.tl.tl.tl.tl.tl.hd; have c17 := hA.tl.tl.tl.tl.tl.tl.tl.tl.tl.tl.tl.tl.tl.tl.tl.tl.tl.hd; have c18 := hA.tl.tl.tl.tl.tl.tl.tl.tl.tl.tl.tl.tl.tl.tl.tl.tl.tl.tl.hd; clear hA; go_simp; try rfl)); (· (intro w' hC; exact (HC.out _ (HB.out.trans (hC.2.mono HB.out.size))).mono (fun e w'' h => ⟨h.1, hC.later h.2⟩)))) | (apply q_call 37; (· (rintro w' ⟨hA, -⟩; have c0 := hA.hd; have c1 := hA.tl.hd; have c2 := hA.tl.tl.hd; have c3 := hA.tl.tl.tl.hd; have c4 := hA.tl.tl.tl.tl.hd; have c5 := hA.tl.tl.tl.tl.tl.hd; have c6 := hA.tl.tl.tl.tl.tl.tl.hd; have c7 := hA.tl.tl.tl.tl.tl.tl.tl.hd; have c8 := hA.tl.tl.tl.tl.tl.tl.tl.tl.hd; have c9 := hA.tl.tl.tl.tl.tl.tl.tl.tl.tl.hd; have c10 := hA.tl.tl.tl.tl.tl.tl.tl.tl.tl.tl.hd; have c11 := hA.tl.tl.tl.tl.tl.tl.tl.tl.tl.tl.tl.hd; have c12 := hA.tl.tl.tl.tl.tl.tl.tl.tl.tl.tl.tl.tl.hd; have c13 := hA.tl.tl.tl.tl.tl.tl.tl.tl.tl.tl.tl.tl.tl.hd; have c14 := hA.tl.tl.tl.tl.tl.tl.tl.tl.tl.tl.tl.tl.tl.tl.hd; have c15 := hA.tl.tl.tl.tl.tl.tl.tl.tl.tl.tl.tl.tl.tl.tl.tl.hd; have c16 := hA.tl.tl.tl.tl.tl.tl.tl.tl.tl.tl.tl.tl.tl.tl.tl.tl.hd; have c17 := hA.tl.tl.tl.tl.tl.tl.tl.tl.tl.tl.tl.tl.tl.tl.tl.tl.tl.hd; have c18 := hA.tl.tl.tl.tl.tl.tl.tl.tl.tl.tl.tl.tl.tl.tl.tl.tl.tl.tl.hd; clear hA; go_simp; try rfl)); (· (intro w' hC; exact (HSh.out _).mono (fun e w'' h => ⟨h.1, hC.later h.2⟩)))) | (apply q_call 38; (· (rintro w' ⟨hA, -⟩; have c0 := hA.hd; have c1 := hA.tl.hd; have c2 := hA.tl.tl.hd; have c3 := hA.tl.tl.tl.hd; have c4 := hA.tl.tl.tl.tl.hd; have c5 := hA.tl.tl.tl.tl.tl.hd; have c6 := hA.tl.tl.tl.tl.tl.tl.hd; have c7 := hA.tl.tl.tl.tl.tl.tl.tl.hd; have c8 := hA.tl.tl.tl.tl.tl.tl.tl.tl.hd; have c9 := hA.tl.tl.tl.tl.tl.tl.tl.tl.tl.hd; have c10 := hA.tl.tl.tl.tl.tl.tl.tl.tl.tl.tl.hd; have c11 := hA.tl.tl.tl.tl.tl.tl.tl.tl.tl.tl.tl.hd; have c12 := hA.tl.tl.tl.tl.tl.tl.tl.tl.tl.tl.tl.tl.hd; have c13 := hA.tl.tl.tl.tl.tl.tl.tl.tl.tl.tl.tl.tl.tl.hd; have c14 := hA.tl.tl.tl.tl.tl.tl.tl.tl.tl.tl.tl.tl.tl.tl.hd; have c15 := hA.tl.tl.tl.tl.tl.tl.tl.tl.tl.tl.tl.tl.tl.tl.tl.hd; have c16 := hA.tl.tl.tl.tl.tl.tl.tl.tl.tl.tl.tl.tl.tl.tl.tl.tl.hd; have c17 := hA.tl.tl.tl.tl.tl.tl.tl.tl.tl.tl.tl.tl.tl.tl.tl.tl.tl.hd; have c18 := hA.tl.tl.tl.tl.tl.tl.tl.tl.tl.tl.tl.tl.tl.tl.tl.tl.tl.tl.hd; clear hA; go_simp; try rfl)); (· (intro w' hC; exact (alive37 _).mono (fun e w'' h => ⟨h.1, hC.later h.2⟩))))); simp only [Act.put, List.setIfInBounds_toArray, List.set_cons_zero, List.set_cons_succ]; go_big_quiet_on))
            refine wpQuiet_nil ?_
            intro w3 hC3
            have HB3 := Lib.hid (HB.out.trans (hC3.2.mono HB.out.size))
            clear hC3
            go_wp2_with fail
            go_ret
            exact ⟨rfl, HB3.out⟩
          · have hsh : sh = 0 := by rw [HSN.out, if_neg hn]
            subst hsh
            clear HSN hn
            go_wp2_with fail
            clear p3 p5 r4 r5
            try clear d0
            try clear d1
            try clear d2
            try clear d3
            refine region_C (by kernel_rfl) (by kernel_rfl) (Cls.start HA.out) ?_
            repeat (first | go_big_quiet_skip | (go_big_quiet_want; (first | (apply q_val; (· (rintro w' ⟨hA, -⟩; have c0 := hA.hd; have c1 := hA.tl.hd; have c2 := hA.tl.tl.hd; have c3 := hA.tl.tl.tl.hd; have c4 := hA.tl.tl.tl.tl.hd; have c5 := hA.tl.tl.tl.tl.tl.hd; have c6 := hA.tl.tl.tl.tl.tl.tl.hd; have c7 := hA.tl.tl.tl.tl.tl.tl.tl.hd; have c8 := hA.tl.tl.tl.tl.tl.tl.tl.tl.hd; have c9 := hA.tl.tl.tl.tl.tl.tl.tl.tl.tl.hd; have c10 := hA.tl.tl.tl.tl.tl.tl.tl.tl.tl.tl.hd; have c11 := hA.tl.tl.tl.tl.tl.tl.tl.tl.tl.tl.tl.hd; have c12 := hA.tl.tl.tl.tl.tl.tl.tl.tl.tl.tl.tl.tl.hd; have c13 := hA.tl.tl.tl.tl.tl.tl.tl.tl.tl.tl.tl.tl.tl.hd; have c14 := hA.tl.tl.tl.tl.tl.tl.tl.tl.tl.tl.tl.tl.tl.tl.hd; have c15 := hA.tl.tl.tl.tl.tl.tl.tl.tl.tl.tl.tl.tl.tl.tl.tl.hd; have c16 := hA.tl.tl.tl.tl.tl.tl.tl.tl.tl.tl.tl.tl.tl.tl.tl.tl.hd; have c17 := hA.tl.tl.tl.tl.tl.tl.tl.tl.tl.tl.tl.tl.tl.tl.tl.tl.tl.hd; have c18 := hA.tl.tl.tl.tl.tl.tl.tl.tl.tl.tl.tl.tl.tl.tl.tl.tl.tl.tl.hd; clear hA; go_simp; try rfl))) | (apply q_call 30; (· (rintro w' ⟨hA, -⟩; have c0 := hA.hd; have c1 := hA.tl.hd; have c2 := hA.tl.tl.hd; have c3 := hA.tl.tl.tl.hd; have c4 := hA.tl.tl.tl.tl.hd; have c5 := hA.tl.tl.tl.tl.tl.hd; have c6 := hA.tl.tl.tl.tl.tl.tl.hd; have c7 := hA.tl.tl.tl.tl.tl.tl.tl.hd; have c8 := hA.tl.tl.tl.tl.tl.tl.tl.tl.hd; have c9 := hA.tl.tl.tl.tl.tl.tl.tl.tl.tl.hd; have c10 := hA.tl.tl.tl.tl.tl.tl.tl.tl.tl.tl.hd; have c11 := hA.tl.tl.tl.tl.tl.tl.tl.tl.tl.tl.tl.hd; have c12 := hA.tl.tl.tl.tl.tl.tl.tl.tl.tl.tl.tl.tl.hd; have c13 := hA.tl.tl.tl.tl.tl.tl.tl.tl.tl.tl.tl.tl.tl.hd; have c14 := hA.tl.tl.tl.tl.tl.tl.tl.tl.tl.tl.tl.tl.tl.tl.hd; have c15 := hA.tl.tl.tl.tl.tl.tl.tl.tl.tl.tl.tl.tl.tl.tl.tl.hd; have c16 := hA.tl.tl.tl.tl.tl.tl.tl.tl.tl.tl.tl.tl.tl.tl.tl.tl.hd; have c17 := hA.tl.tl.tl.tl.tl.tl.tl.tl.tl.tl.tl.tl.tl.tl.tl.tl.tl.hd; have c18 := hA.tl.tl.tl.tl.tl.tl.tl.tl.tl.tl.tl.tl.tl.tl.tl.tl.tl.tl.hd; clear hA; go_simp; try rfl)); (· (intro w' hC; exact (HC.out _ (HB.out.trans (hC.2.mono HB.out.size))).mono (fun e w'' h => ⟨h.1, hC.later h.2⟩)))) | (apply q_call 37; (· (rintro w' ⟨hA, -⟩; have c0 := hA.hd; have c1 := hA.tl.hd; have c2 := hA.tl.tl.hd; have c3 := hA.tl.tl.tl.hd; have c4 := hA.tl.tl.tl.tl.hd; have c5 := hA.tl.tl.tl.tl.tl.hd; have c6 := hA.tl.tl.tl.tl.tl.tl.hd; have c7 := hA.tl.tl.tl.tl.tl.tl.tl.hd; have c8 := hA.tl.tl.tl.tl.tl.tl.tl.tl.hd; have c9 := hA.tl.tl.tl.tl.tl.tl.tl.tl.tl.hd; have c10 := hA.tl.tl.tl.tl.tl.tl.tl.tl.tl.tl.hd; have c11 := hA.tl.tl.tl.tl.tl.tl.tl.tl.tl.tl.tl.hd; have c12 := hA.tl.tl.tl.tl.tl.tl.tl.tl.tl.tl.tl.tl.hd; have c13 := hA.tl.tl.tl.tl.tl.tl.tl.tl.tl.tl.tl.tl.tl.hd; have c14 := hA.tl.tl.tl.tl.tl.tl.tl.tl.tl.tl.tl.tl.tl.tl.hd; have c15 := hA.tl.tl.tl.tl.tl.tl.tl.tl.tl.tl.tl.tl.tl.tl.tl.hd; have c16 := hA.tl.tl.tl.tl.tl.tl.tl.tl.tl.tl.tl.tl.tl.tl.tl.tl.hd; have c17 := hA.tl.tl.tl.tl.tl.tl.tl.tl.tl.tl.tl.tl.tl.tl.tl.tl.tl.hd; have c18 := hA.tl.tl.tl.tl.tl.tl.tl.tl.tl.tl.tl.tl.tl.tl.tl.tl.tl.tl.hd; clear hA; go_simp; try rfl)); (· (intro w' hC; exact (HSh.out _).mono (fun e w'' h => ⟨h.1, hC.later h.2⟩)))) | (apply q_call 38; (· (rintro w' ⟨hA, -⟩; have c0 := hA.hd; have c1 := hA.tl.hd; have c2 := hA.tl.tl.hd; have c3 := hA.tl.tl.tl.hd; have c4 := hA.tl.tl.tl.tl.hd; have c5 := hA.tl.tl.tl.tl.tl.hd; have c6 := hA.tl.tl.tl.tl.tl.tl.hd; have c7 := hA.tl.tl.tl.tl.tl.tl.tl.hd; have c8 := hA.tl.tl.tl.tl.tl.tl.tl.tl.hd; have c9 := hA.tl.tl.tl.tl.tl.tl.tl.tl.tl.hd; have c10 := hA.tl.tl.tl.tl.tl.tl.tl.tl.tl.tl.hd; have c11 := hA.tl.tl.tl.tl.tl.tl.tl.tl.tl.tl.tl.hd; have c12 := hA.tl.tl.tl.tl.tl.tl.tl.tl.tl.tl.tl.tl.hd; have c13 := hA.tl.tl.tl.tl.tl.tl.tl.tl.tl.tl.tl.tl.tl.hd; have c14 := hA.tl.tl.tl.tl.tl.tl.tl.tl.tl.tl.tl.tl.tl.tl.hd; have c15 := hA.tl.tl.tl.tl.tl.tl.tl.tl.tl.tl.tl.tl.tl.tl.tl.hd; have c16 := hA.tl.tl.tl.tl.tl.tl.tl.tl.tl.tl.tl.tl.tl.tl.tl.tl.hd; have c17 := hA.tl.tl.tl.tl.tl.tl.tl.tl.tl.tl.tl.tl.tl.tl.tl.tl.tl.hd; have c18 := hA.tl.tl.tl.tl.tl.tl.tl.tl.tl.tl.tl.tl.tl.tl.tl.tl.tl.tl.hd; clear hA; go_simp; try rfl)); (· (intro w' hC; exact (alive37 _).mono (fun e w'' h => ⟨h.1, hC.later h.2⟩))))); simp only [Act.put, List.setIfInBounds_toArray, List.set_cons_zero, List.set_cons_succ]; go_big_quiet_on))
            refine wpQuiet_nil ?_
            intro w3 hC3
            have HB3 := Lib.hid (HB.out.trans (hC3.2.mono HB.out.size))
            clear hC3
            go_wp2_with fail
            go_ret
            exact ⟨rfl, HB3.out⟩
          · have hsh : sh = rc * 100 / rq := by rw [HSN.out, if_pos hn]
            subst hsh
            clear HSN hn
            go_wp2_with fail
            clear p3 p5 r4 r5
            try clear d0
            try clear d1
            try clear d2
            try clear d3
            refine region_C (by kernel_rfl) (by kernel_rfl) (Cls.start HA.out) ?_
            repeat (first | go_big_quiet_skip | (go_big_quiet_want; (first | (apply q_val; (· (rintro w' ⟨hA, -⟩; have c0 := hA.hd; have c1 := hA.tl.hd; have c2 := hA.tl.tl.hd; have c3 := hA.tl.tl.tl.hd; have c4 := hA.tl.tl.tl.tl.hd; have c5 := hA.tl.tl.tl.tl.tl.hd; have c6 := hA.tl.tl.tl.tl.tl.tl.hd; have c7 := hA.tl.tl.tl.tl.tl.tl.tl.hd; have c8 := hA.tl.tl.tl.tl.tl.tl.tl.tl.hd; have c9 := hA.tl.tl.tl.tl.tl.tl.tl.tl.tl.hd; have c10 := hA.tl.tl.tl.tl.tl.tl.tl.tl.tl.tl.hd; have c11 := hA.tl.tl.tl.tl.tl.tl.tl.tl.tl.tl.tl.hd; have c12 := hA.tl.tl.tl.tl.tl.tl.tl.tl.tl.tl.tl.tl.hd; have c13 := hA.tl.tl.tl.tl.tl.tl.tl.tl.tl.tl.tl.tl.tl.hd; have c14 := hA.tl.tl.tl.tl.tl.tl.tl.tl.tl.tl.tl.tl.tl.tl.hd; have c15 := hA.tl.tl.tl.tl.tl.tl.tl.tl.tl.tl.tl.tl.tl.tl.tl.hd; have c16 := hA.tl.tl.tl.tl.tl.tl.tl.tl.tl.tl.tl.tl.tl.tl.tl.tl.hd; have c17 := hA.tl.tl.tl.tl.tl.tl.tl.tl.tl.tl.tl.tl.tl.tl.tl.tl.tl.hd; have c18 := hA.tl.tl.tl.tl.tl.tl.tl.tl.tl.tl.tl.tl.tl.tl.tl.tl.tl.tl.hd; clear hA; go_simp; try rfl))) | (apply q_call 30; (· (rintro w' ⟨hA, -⟩; have c0 := hA.hd; have c1 := hA.tl.hd; have c2 := hA.tl.tl.hd; have c3 := hA.tl.tl.tl.hd; have c4 := hA.tl.tl.tl.tl.hd; have c5 := hA.tl.tl.tl.tl.tl.hd; have c6 := hA.tl.tl.tl.tl.tl.tl.hd; have c7 := hA.tl.tl.tl.tl.tl.tl.tl.hd; have c8 := hA.tl.tl.tl.tl.tl.tl.tl.tl.hd; have c9 := hA.tl.tl.tl.tl.tl.tl.tl.tl.tl.hd; have c10 := hA.tl.tl.tl.tl.tl.tl.tl.tl.tl.tl.hd; have c11 := hA.tl.tl.tl.tl.tl.tl.tl.tl.tl.tl.tl.hd; have c12 := hA.tl.tl.tl.tl.tl.tl.tl.tl.tl.tl.tl.tl.hd; have c13 := hA.tl.tl.tl.tl.tl.tl.tl.tl.tl.tl.tl.tl.tl.hd; have c14 := hA.tl.tl.tl.tl.tl.tl.tl.tl.tl.tl.tl.tl.tl.tl.hd; have c15 := hA.tl.tl.tl.tl.tl.tl.tl.tl.tl.tl.tl.tl.tl.tl.tl.hd; have c16 := hA.tl.tl.tl.tl.tl.tl.tl.tl.tl.tl.tl.tl.tl.tl.tl.tl.hd; have c17 := hA.tl.tl.tl.tl.tl.tl.tl.tl.tl.tl.tl.tl.tl.tl.tl.tl.tl.hd; have c18 := hA.tl.tl.tl.tl.tl.tl.tl.tl.tl.tl.tl.tl.tl.tl.tl.tl.tl.tl.hd; clear hA; go_simp; try rfl)); (· (intro w' hC; exact (HC.out _ (HB.out.trans (hC.2.mono HB.out.size))).mono (fun e w'' h => ⟨h.1, hC.later h.2⟩)))) | (apply q_call 37; (· (rintro w' ⟨hA, -⟩; have c0 := hA.hd; have c1 := hA.tl.hd; have c2 := hA.tl.tl.hd; have c3 := hA.tl.tl.tl.hd; have c4 := hA.tl.tl.tl.tl.hd; have c5 := hA.tl.tl.tl.tl.tl.hd; have c6 := hA.tl.tl.tl.tl.tl.tl.hd; have c7 := hA.tl.tl.tl.tl.tl.tl.tl.hd; have c8 := hA.tl.tl.tl.tl.tl.tl.tl.tl.hd; have c9 := hA.tl.tl.tl.tl.tl.tl.tl.tl.tl.hd; have c10 := hA.tl.tl.tl.tl.tl.tl.tl.tl.tl.tl.hd; have c11 := hA.tl.tl.tl.tl.tl.tl.tl.tl.tl.tl.tl.hd; have c12 := hA.tl.tl.tl.tl.tl.tl.tl.tl.tl.tl.tl.tl.hd; have c13 := hA.tl.tl.tl.tl.tl.tl.tl.tl.tl.tl.tl.tl.tl.hd; have c14 := hA.tl.tl.tl.tl.tl.tl.tl.tl.tl.tl.tl.tl.tl.tl.hd; have c15 := hA.tl.tl.tl.tl.tl.tl.tl.tl.tl.tl.tl.tl.tl.tl.tl.hd; have c16 := hA.tl.tl.tl.tl.tl.tl.tl.tl.tl.tl.tl.tl.tl.tl.tl.tl.hd; have c17 := hA.tl.tl.tl.tl.tl.tl.tl.tl.tl.tl.tl.tl.tl.tl.tl.tl.tl.hd; have c18 := hA.tl.tl.tl.tl.tl.tl.tl.tl.tl.tl.tl.tl.tl.tl.tl.tl.tl.tl.hd; clear hA; go_simp; try rfl)); (· (intro w' hC; exact (HSh.out _).mono (fun e w'' h => ⟨h.1, hC.later h.2⟩)))) | (apply q_call 38; (· (rintro w' ⟨hA, -⟩; have c0 := hA.hd; have c1 := hA.tl.hd; have c2 := hA.tl.tl.hd; have c3 := hA.tl.tl.tl.hd; have c4 := hA.tl.tl.tl.tl.hd; have c5 := hA.tl.tl.tl.tl.tl.hd; have c6 := hA.tl.tl.tl.tl.tl.tl.hd; have c7 := hA.tl.tl.tl.tl.tl.tl.tl.hd; have c8 := hA.tl.tl.tl.tl.tl.tl.tl.tl.hd; have c9 := hA.tl.tl.tl.tl.tl.tl.tl.tl.tl.hd; have c10 := hA.tl.tl.tl.tl.tl.tl.tl.tl.tl.tl.hd; have c11 := hA.tl.tl.tl.tl.tl.tl.tl.tl.tl.tl.tl.hd; have c12 := hA.tl.tl.tl.tl.tl.tl.tl.tl.tl.tl.tl.tl.hd; have c13 := hA.tl.tl.tl.tl.tl.tl.tl.tl.tl.tl.tl.tl.tl.hd; have c14 := hA.tl.tl.tl.tl.tl.tl.tl.tl.tl.tl.tl.tl.tl.tl.hd; have c15 := hA.tl.tl.tl.tl.tl.tl.tl.tl.tl.tl.tl.tl.tl.tl.tl.hd; have c16 := hA.tl.tl.tl.tl.tl.tl.tl.tl.tl.tl.tl.tl.tl.tl.tl.tl.hd; have c17 := hA.tl.tl.tl.tl.tl.tl.tl.tl.tl.tl.tl.tl.tl.tl.tl.tl.tl.hd; have c18 := hA.tl.tl.tl.tl.tl.tl.tl.tl.tl.tl.tl.tl.tl.tl.tl.tl.tl.tl.hd; clear hA; go_simp; try rfl)); (· (intro w' hC; exact (alive37 _).mono (fun e w'' h => ⟨h.1, hC.later h.2⟩))))); simp only [Act.put, List.setIfInBounds_toArray, List.set_cons_zero, List.set_cons_succ]; go_big_quiet_on))
            refine wpQuiet_nil ?_
            intro w3 hC3
            have HB3 := Lib.hid (HB.out.trans (hC3.2.mono HB.out.size))
            clear hC3
            go_wp2_with fail
            go_ret
            exact ⟨rfl, HB3.out⟩
set_option maxRecDepth 100000 in
theorem lifted (os : Os) (started : os.Started) (H : Type) (enc : TypeId × Value → H) :
    ReturnsInHanded {} Try.checked os 9 .any (Rows.totalsTellsSpec.pre6 enc Try.prog Try.f9 Rows.totalsTellsRow.domain false) (Rows.totalsTellsSpec.post enc Try.prog Try.f9 false true false false) := by
  refine returnsInHanded_of_change_sized (C := Try.checked) own started (by kernel_rfl) Try.func9
    (ChangeSpec.witness6 (enc := enc) (C := Try.checked) false ⟨#[], #[.agg #[.string .empty, .int .i64 0, .int .i64 0, .slice none 0 0, .slice none 0 0, .slice none 0 0, .slice none 0 0], .agg #[.string .empty, .int .i64 0, .int .i64 0, .int .i64 0, .int .i64 0, .int .i64 0]], []⟩ 8 (by kernel_rfl) (by kernel_rfl) (by kernel_rfl) (by kernel_rfl)) ?_
  intro W base args ds gs before hval0 hW hcnd hsz _
  have hval : ∀ (j : Nat) t v, Try.f9.params[j]? = some t → args[j]? = some v → Value.okWide Try.prog W .any base t v := hval0
  have hW' := hW
  obtain ⟨p, q, hA0, hV, rfl, hfz, hnd⟩ := hW
  have hA : DataW.TrodAll enc Try.prog W 0 (fun _ => true) true Try.f9.params.toList args.toList ds p := hA0
  rw [Try.params9] at hA hval
  obtain ⟨v0, vs0, d0, ds0, p0, q0, hargs, rfl, rfl, h0, r0⟩ := trodAll_cons hA
  obtain ⟨v1, vs1, d1, ds1, p1, q1, rfl, rfl, rfl, h1, r1⟩ := trodAll_cons r0
  obtain ⟨rfl, rfl, rfl⟩ := trodAll_nil r1
  obtain rfl : args = #[v0, v1] := by cases args; simp_all
  obtain ⟨rfl, rfl⟩ := trodVars_none hV
  have k0 := h0
  have lt0 : ∀ x ∈ p0, x.block < W.heap.size := by obtain ⟨m, hm⟩ := k0; exact DataW.trod_lt m _ _ _ hm
  have hwt := fun n hn => of_decide_eq_true (List.all_eq_true.1 hsz n hn)
  obtain ⟨x0, rfl, o0, b0⟩ := agg_in reads_Tenant (let ⟨cs, hc, _⟩ := okWide_struct Try.underlying53 (hval 0 53 v0 rfl rfl); ⟨cs, hc⟩) h0 (fun n hn => (hwt n (DataW.weights_mem_each (j := 0) rfl rfl n hn)))
  have k1 := h1
  have lt1 : ∀ x ∈ p1, x.block < W.heap.size := by obtain ⟨m, hm⟩ := k1; exact DataW.trod_lt m _ _ _ hm
  obtain ⟨x1, rfl, o1, b1⟩ := agg_in reads_Row (let ⟨cs, hc, _⟩ := okWide_struct Try.underlying59 (hval 1 59 v1 rfl rfl); ⟨cs, hc⟩) h1 (fun n hn => (hwt n (DataW.weights_mem_each (j := 1) rfl rfl n hn)))
  clear hA0 hval0
  refine (walk x0 x1 W o0 o1).mono fun e W' ⟨he, bel⟩ => ?_
  subst he
  exact ⟨_, rfl, _, _, _, [], _, [], hW', trodAll_mk1 (shut_bool Try.underlying4 _), (trodAll_cons_mk (Below.trod laidOut (by kernel_rfl) (of_decide_eq_true (by kernel_rfl)) k0 bel lt0) (trodAll_cons_mk (Below.trod laidOut (by kernel_rfl) (of_decide_eq_true (by kernel_rfl)) k1 bel lt1) trodAll_mk0)), rfl, bel.frame _, fun h => by cases h⟩

theorem over : Rows.totalsTellsRow.holds Try.pinned (OpenSpec.ofChange Rows.totalsTellsSpec) :=
  OpenClaim.holds_of_wide 9 Try.f9 rfl rfl rfl rfl rfl rfl rfl ⟨rfl, rfl, rfl, rfl, rfl⟩ rfl rfl rfl rfl rfl (by kernel_rfl) Try.func9 (by kernel_rfl)
    (of_decide_eq_true (by kernel_rfl)) (by unfold Func.isWrapper; first | (rw [if_pos (by decide +kernel)]; kernel_rfl) | (rw [if_neg (by decide +kernel)]; exact ⟨rfl, rfl⟩))
    (fun os started H enc _ => lifted os started H enc)

/-- THE STATEMENT -/
theorem proved : Rows.TotalsTellsSaid := over
#print axioms proved
end Go.Proofs.Ytbkghiaafkmapaa.totalsTells
