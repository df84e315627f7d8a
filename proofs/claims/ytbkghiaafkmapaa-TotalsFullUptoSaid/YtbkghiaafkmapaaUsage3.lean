/- Walks of package usage: a tenant's charge. No condition but that what comes in reads as data. -/
import Derived.Test.YtbkghiaafkmapaaUsage2
import Derived.Deep.RegionWith
import Derived.Deep.MidRow
import Derived.Outline
namespace Go.Proofs.Ytbkghiaafkmapaa
open Go.ChangeShapes Go.WideShapes Go.ChangeAt Go.RowKit

theorem hi67 (y : StageD) : (Try.prog.info? 67).map (·.size) = some (cellsStage y).length := by
  show _ = some 21
  kernel_rfl
theorem one67 (y : StageD) : (cellsStage y).toArray.all (·.oneCell') = true := by simp [cellsStage, Value.oneCell']
theorem setRow_new (w : World) (old new : Array Value) (t : TypeId) : (w.alloc (.cells old t)).setRow w.heap.size new = w.alloc (.cells new t) := by
  have h : (w.heap.push (.cells old t)).modify w.heap.size (fun
      | .cells _ elem frozen => .cells new elem frozen
      | o => o) = w.heap.push (.cells new t) := by
    apply Array.ext
    · simp
    · intro i h1 h2
      simp only [Array.getElem_modify, Array.getElem_push]
      split
      · rename_i hi; subst hi; simp
      · have hlt : i < w.heap.size := by simp at h2; omega
        rw [dif_pos hlt, dif_pos hlt]
  exact congrArg (fun h => ({ w with heap := h } : World)) h
theorem stage_row {w : World} {a : Option Addr} {c : Nat} {l : List StageD} (h : IsStages w ⟨a, c, l⟩) {k : Nat} (hk : k < l.length) : ∃ (x : StageD) (b off : Nat), l[k]? = some x ∧ a = some ⟨b, off, none⟩ ∧ b < w.heap.size ∧ w.rangeAt b (off + k * 21) (cellsStage x) ∧ okStage w x := by
  obtain ⟨⟨b, off, e, hlt, hc⟩, ho⟩ := IsSl.at' h k l[k] (List.getElem?_eq_getElem hk)
  exact ⟨l[k], b, off, List.getElem?_eq_getElem hk, e, hlt, fun j v hj => hc j v hj, ho⟩
theorem stage_new (w : World) (y : StageD) : (w.alloc (.cells (cellsStage y).toArray 67)).cell? ⟨w.heap.size, 13, none⟩ = some (.slice y.body.a y.body.l.length y.body.c) := by
  simp [go_sem, cellsStage]

set_option maxHeartbeats 1000000 in
theorem counted_any (x : TenantD) (w : World) (h : okTenant w x) :
    Calls Try.prog 57 #[.agg #[.string x.name, .int .i64 x.quota, .int .i64 x.next, .slice x.sets.a x.sets.l.length x.sets.c, .slice x.grants.a x.grants.l.length x.grants.c, .slice x.stages.a x.stages.l.length x.stages.c, .slice x.log.a x.log.l.length x.log.c]] w (Counted (tenChg x) x.quota w) := by
  obtain ⟨name, quota, next, ⟨sa, sc, sl⟩, grants, ⟨ta, tc, tl⟩, log⟩ := x
  obtain ⟨-, -, -, hs, -, ht, -⟩ := h
  have hsl := IsSl.len hs
  have htl := IsSl.len ht
  dsimp only at hs ht hsl htl ⊢
  have HG : Hid (tenChg ⟨name, quota, next, ⟨sa, sc, sl⟩, grants, ⟨ta, tc, tl⟩, log⟩ = setsChg sl + stagesChg tl) := rfl
  go_enter Try.func57, Try.ntmps57
  go_wp2_with fail
  go_loopw [5, 15] (fun _ i wr => ∃ (k : Nat) (S : Int), k ≤ sl.length ∧ i = .int .i64 k ∧ S + setsChg (sl.drop k) = setsChg sl ∧ CInv w (.slice ta tl.length tc) quota S wr) (fun _ i _ => sl.length - (intOf i).toNat)
  case atStart => exact ⟨0, 0, Nat.zero_le _, rfl, by simp, ((Below.refl _ _).alloc (Nat.le_refl _) _).alloc (by simp) _, by simp, by go_simp, by go_simp, ⟨by rw [← wrap_zero]; go_simp, by go_simp⟩⟩
  case round =>
    obtain ⟨k, S, hk, rfl, hS, hI⟩ := hrel
    have HS := Lib.hid hS
    have HI := Lib.hid hI
    clear hS hI
    have hz := HI.out.size
    by_cases hlt : k < sl.length
    · obtain ⟨y, bb, off, hy, hsa, hbs, hy0, hy1, hy2, hy3, hy4, -⟩ := (hs.below HI.out.below).get hlt
      obtain ⟨y', -, -, hy', -, -, -, -, -, -, -, hyo⟩ := hs.get hlt
      obtain rfl : y = y' := by rw [hy] at hy'; exact Option.some.inj hy'
      have hst := Lib.hid (setsChg_step hy)
      subst hsa
      have HC := Lib.hid (HI.out.set y hyo)
      clear hy hyo hy'
      go_wp2_with fail
      go_region_with (go_at_call 54; refine (HC.out _).mono ?_; rintro e w2 ⟨rfl, hI2⟩)
      all_goals
        have HI2 := Lib.hid hI2
        clear hI2
        go_wp2_with fail
        go_roundw
        case rel => exact ⟨k + 1, S + setChg y, by omega, by go_num, by have h1 := HS.out; have h2 := hst.out; omega, HI2.out⟩
        case measure => simp [intOf]; omega
    · have hn : S = setsChg sl := by have h1 := HS.out; rw [List.drop_of_length_le (by omega)] at h1; simpa [setsChg] using h1
      have HI' := Lib.hid (hn ▸ HI.out)
      have hc5 := HI.out.five
      clear HI HS hn
      go_wp2_with fail
      go_loopw [7, 28] (fun _ i wr => ∃ (k : Nat) (S : Int), k ≤ tl.length ∧ i = .int .i64 k ∧ S + stagesChg (tl.drop k) = setsChg sl + stagesChg tl ∧ CInv w (.slice ta tl.length tc) quota S wr) (fun _ i _ => tl.length - (intOf i).toNat)
      case atStart => exact ⟨0, setsChg sl, Nat.zero_le _, rfl, by simp, HI'.out⟩
      case round =>
        obtain ⟨j, S, hj, rfl, hS, hI⟩ := hrel
        have HS := Lib.hid hS
        have HI := Lib.hid hI
        clear hS hI
        have hz := HI.out.size
        by_cases hlj : j < tl.length
        · obtain ⟨y, bb, off, hy, hta, -, hR, hyo⟩ := stage_row (ht.below HI.out.below) hlj
          have hst := Lib.hid (stagesChg_step hy)
          subst hta
          have HC := Lib.hid (HI.out.add y.body.a y.body.l.length y.body.c (IsSl.len hyo.2.2.1))
          have hnew := stage_new wr y
          have HR := Lib.hid hR
          clear hy hyo hR
          go_wp2_with (first | (refine wpList_load_mid rfl 67 _ rfl bb (off + j * 21) rfl (cellsStage y) _ HR.out Try.underlying67 rfl (hi67 y) ?_; simp only [Act.put, List.setIfInBounds_toArray, List.set_cons_zero, List.set_cons_succ]) | (refine wpList_store_row rfl 67 _ _ rfl wr.heap.size (cellsStage y).toArray rfl rfl 67 _ (heap_alloc_new _ _) (hi67 y) rfl (one67 y) ?_; rw [setRow_new]; simp only [Act.put]))
          go_region_with (go_at_call 74; refine (HC.out _).mono ?_; rintro e w2 ⟨rfl, hI2⟩)
          all_goals
            have HI2 := Lib.hid hI2
            clear hI2
            go_wp2_with fail
            go_roundw
            case rel => exact ⟨j + 1, S + (1 + (y.body.l.length : Int)), by omega, by go_num, by have h1 := HS.out; have h2 := hst.out; omega, HI2.out⟩
            case measure => simp [intOf]; omega
        · have hn : S = setsChg sl + stagesChg tl := by have h1 := HS.out; rw [List.drop_of_length_le (by omega)] at h1; simpa [stagesChg] using h1
          have HI2 := Lib.hid (hn ▸ HI.out)
          clear HI HS hn
          go_wp2_with fail
          go_ret
          exact ⟨_, rfl, HI2.out.below, HI2.out.size, by rw [HG.out]; exact HI2.out.acc.1, HI2.out.quota⟩

theorem over_any (b : Nat) (t q : Int) (w : World) (h0 : w.cell? ⟨b, 0, none⟩ = some (.int .i64 t)) (h1 : w.cell? ⟨b, 1, none⟩ = some (.int .i64 q)) :
    Calls Try.prog 58 #[.pointer (some ⟨b, 0, none⟩)] w fun e w' => e = .returned (.bool (decide (q < t))) ∧ Below w.heap.size w w' := by
  go_enter Try.func58, Try.ntmps58
  go_wp2
  go_region
  all_goals
    go_wp2
    go_ret
    exact ⟨rfl, (Below.refl _ _).drew⟩

/-- a tenant's charge, as the program tells it -/
theorem Tenant_any (x : TenantD) (w : World) (h : okTenant w x) :
    Calls Try.prog 29 #[.agg #[.string x.name, .int .i64 x.quota, .int .i64 x.next, .slice x.sets.a x.sets.l.length x.sets.c, .slice x.grants.a x.grants.l.length x.grants.c, .slice x.stages.a x.stages.l.length x.stages.c, .slice x.log.a x.log.l.length x.log.c]] w fun e w' => e = .returned (.int .i64 (wrap64 (tenChg x))) ∧ Below w.heap.size w w' := by
  have hB : Below w.heap.size w (w.alloc (.cells #[.string x.name, .int .i64 x.quota, .int .i64 x.next, .slice x.sets.a x.sets.l.length x.sets.c, .slice x.grants.a x.grants.l.length x.grants.c, .slice x.stages.a x.stages.l.length x.stages.c, .slice x.log.a x.log.l.length x.log.c] 53)) := (Below.refl _ _).alloc (Nat.le_refl _) _
  have HC := Lib.hid (counted_any x _ (okTenant_below h hB))
  have HB := Lib.hid hB
  clear h hB
  go_enter Try.func29, Try.ntmps29
  go_wp2_with (go_at_call 57; refine HC.out.mono ?_; rintro e w1 ⟨b, rfl, hb1, hlt, hc0, hc1⟩)
  go_ret
  exact ⟨rfl, HB.out.trans (hb1.mono HB.out.size)⟩

/-- does it fit? -/
theorem Fits_any (x : TenantD) (w : World) (h : okTenant w x) :
    Calls Try.prog 31 #[.agg #[.string x.name, .int .i64 x.quota, .int .i64 x.next, .slice x.sets.a x.sets.l.length x.sets.c, .slice x.grants.a x.grants.l.length x.grants.c, .slice x.stages.a x.stages.l.length x.stages.c, .slice x.log.a x.log.l.length x.log.c]] w fun e w' => e = .returned (.bool (!decide (x.quota < wrap64 (tenChg x)))) ∧ Below w.heap.size w w' := by
  have hB : Below w.heap.size w (w.alloc (.cells #[.string x.name, .int .i64 x.quota, .int .i64 x.next, .slice x.sets.a x.sets.l.length x.sets.c, .slice x.grants.a x.grants.l.length x.grants.c, .slice x.stages.a x.stages.l.length x.stages.c, .slice x.log.a x.log.l.length x.log.c] 53)) := (Below.refl _ _).alloc (Nat.le_refl _) _
  have HC := Lib.hid (counted_any x _ (okTenant_below h hB))
  have HB := Lib.hid hB
  clear h hB
  go_enter Try.func31, Try.ntmps31
  go_wp2_with fail
  refine HC.out.mono ?_
  rintro e w1 ⟨b, rfl, hb1, hlt, hc0, hc1⟩
  have HB1 := Lib.hid (HB.out.trans (hb1.mono HB.out.size))
  have HO := Lib.hid (over_any b _ _ _ hc0 hc1)
  clear hb1 hc0 hc1
  go_wp2_with fail
  refine HO.out.mono ?_
  rintro e w2 ⟨rfl, hb2⟩
  have HB2 := Lib.hid (HB1.out.trans (hb2.mono HB1.out.size))
  clear hb2
  go_wp2_with fail
  go_ret
  exact ⟨rfl, HB2.out⟩
end Go.Proofs.Ytbkghiaafkmapaa
