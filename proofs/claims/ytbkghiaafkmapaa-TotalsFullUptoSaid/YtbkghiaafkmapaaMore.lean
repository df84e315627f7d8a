/- Plain lemmas for a smaller quota's admission, and lists of rows that the call owns. No condition. -/
import Derived.Test.YtbkghiaafkmapaaLedger3
import Derived.Deep.AppendLies
import Derived.Deep.MidRow
import Derived.Deep.CondSized
import Derived.Deep.RegionHeld3
namespace Go.Proofs.Ytbkghiaafkmapaa
open Go.ChangeShapes Go.WideShapes Go.ChangeAt Go.RowKit

theorem flat_get {α : Type} {cells : α → List Value} {m : Nat} (hm : ∀ x, (cells x).length = m) : ∀ (l : List α) (j : Nat) (u : Value), (l.flatMap cells)[j]? = some u → ∃ i r x, j = i * m + r ∧ l[i]? = some x ∧ (cells x)[r]? = some u
  | [], j, u, h => by simp at h
  | x :: l, j, u, h => by
    rw [List.flatMap_cons, List.getElem?_append] at h
    split at h
    · exact ⟨0, j, x, by simp, rfl, h⟩
    · rename_i hj
      rw [hm] at h hj
      obtain ⟨i, r, y, hr, hi, hy⟩ := flat_get hm l _ u h
      exact ⟨i + 1, r, y, by rw [Nat.succ_mul]; omega, hi, hy⟩
theorem flat_at {α : Type} {cells : α → List Value} {m : Nat} (hm : ∀ x, (cells x).length = m) : ∀ (l : List α) (i r : Nat) (x : α) (u : Value), l[i]? = some x → (cells x)[r]? = some u → (l.flatMap cells)[i * m + r]? = some u
  | [], i, r, x, u, h, _ => by simp at h
  | y :: l, 0, r, x, u, h, hu => by
    simp at h
    subst h
    rw [List.flatMap_cons, List.getElem?_append, if_pos (by have := (List.getElem?_eq_some_iff.1 hu).1; omega)]
    simpa using hu
  | y :: l, i + 1, r, x, u, h, hu => by
    rw [List.flatMap_cons, List.getElem?_append, if_neg (by rw [hm, Nat.succ_mul]; omega), hm, show (i + 1) * m + r - m = i * m + r by rw [Nat.succ_mul]; omega]
    exact flat_at hm l i r x u (by simpa using h) hu
theorem flat_length {α : Type} {cells : α → List Value} {m : Nat} (hm : ∀ x, (cells x).length = m) : ∀ (l : List α), (l.flatMap cells).length = l.length * m
  | [] => by simp
  | x :: l => by rw [List.flatMap_cons, List.length_append, hm, flat_length hm l, List.length_cons, Nat.succ_mul]; omega

/-- what stands in a row that the call owns -/
theorem owned_cell {w : World} {base e size n cap g : Nat} {xs : List Value} (h : w.ownsRow base e size (.slice (some ⟨g, 0, none⟩) n cap) n xs) :
    base ≤ g ∧ g < w.heap.size ∧ ∀ j u, xs[j]? = some u → w.cell? ⟨g, j, none⟩ = some u ∧ w.frozen? ⟨g, j, none⟩ = false := by
  obtain ⟨_, h2⟩ := h
  rcases h2 with ⟨h0, _⟩ | ⟨g', cap', cur, hv, hb, hg, hn, hc, hcs, htk⟩
  · cases h0
  · cases hv
    refine ⟨hb, (Array.getElem?_eq_some_iff.1 hg).1, fun j u hj => ⟨?_, ?_⟩⟩
    · rw [cell_of_row w g j cur e (0, 0) hg]
      rw [← htk, List.getElem?_take] at hj
      split at hj
      · simpa using hj
      · cases hj
    · simp [World.frozen?, hg]

theorem sumUp_less : ∀ (zs : List Int) (s s' t : Int), s' ≤ s → sumUp zs s = some t → ∃ t', sumUp zs s' = some t' ∧ t' ≤ t
  | [], s, s', t, hs, h => by simp only [sumUp] at h ⊢; cases h; exact ⟨s', rfl, hs⟩
  | x :: l, s, s', t, hs, h => by
    simp only [sumUp] at h ⊢
    split at h
    · cases h
    · rw [if_neg (by omega)]
      exact sumUp_less l _ _ t (by omega) h
theorem sumUp_set : ∀ (zs : List Int) (k : Nat) (z z' : Int) (s t : Int), zs[k]? = some z → z' ≤ z → sumUp zs s = some t → ∃ t', sumUp (zs.set k z') s = some t' ∧ t' ≤ t
  | [], k, z, z', s, t, hk, _, _ => by simp at hk
  | x :: l, 0, z, z', s, t, hk, hz, h => by
    simp at hk
    subst hk
    simp only [sumUp, List.set_cons_zero] at h ⊢
    split at h
    · cases h
    · rw [if_neg (by omega)]
      exact sumUp_less l _ _ t (by omega) h
  | x :: l, k + 1, z, z', s, t, hk, hz, h => by
    simp only [sumUp, List.set_cons_succ] at h ⊢
    split at h
    · cases h
    · rename_i hn
      rw [if_neg hn]
      exact sumUp_set l k z z' _ t (by simpa using hk) hz h
theorem amounts_get {zs : List Int} (h : amounts zs = true) {k : Nat} {z : Int} (hk : zs[k]? = some z) : 0 ≤ z ∧ z ≤ 1099511627776 := by
  have := amounts_at h k (List.getElem?_eq_some_iff.1 hk).1
  simpa [List.getD, hk] using this
theorem amounts_set {zs : List Int} (h : amounts zs = true) {k : Nat} {z z' : Int} (hk : zs[k]? = some z) (h0 : 0 ≤ z') (h1 : z' ≤ z) : amounts (zs.set k z') = true := by
  have hz := amounts_get h hk
  refine List.all_eq_true.2 fun x hx => ?_
  rcases List.mem_or_eq_of_mem_set hx with hx | rfl
  · exact List.all_eq_true.1 h x hx
  · simp [oddB]; omega

theorem admit_parts {cap : Int} {l : List TenantD} (h : admitE cap l = 0) : amounts (quotas l) = true ∧ ∃ t, sumUp (quotas l) 0 = some t ∧ t ≤ cap ∧ ∀ x ∈ l, fitsB x = true := by
  unfold admitE at h
  split at h
  · rename_i he
    unfold addE at he
    split at he
    · rename_i ha
      cases hs : sumUp (quotas l) 0 with
      | none => simp [hs] at he
      | some t =>
        have hn : addN (quotas l) = t := by simp [addN, ha, hs]
        rw [hn] at h
        split at h
        · omega
        · split at h
          · rename_i hf
            exact ⟨ha, t, rfl, by omega, fun x hx => List.all_eq_true.1 hf x hx⟩
          · omega
    · omega
  · contradiction
theorem admit_of {cap : Int} {l : List TenantD} {t : Int} (ha : amounts (quotas l) = true) (hs : sumUp (quotas l) 0 = some t) (ht : t ≤ cap) (hf : ∀ x ∈ l, fitsB x = true) : admitE cap l = 0 := by
  have he : addE (quotas l) = 0 := by simp [addE, ha, hs]
  have hn : addN (quotas l) = t := by simp [addN, ha, hs]
  unfold admitE
  rw [if_pos he, hn, if_neg (by omega), if_pos (List.all_eq_true.2 hf)]
/-- a smaller quota is admitted, if its tenant fits -/
theorem admit_set {cap : Int} {l : List TenantD} (h : admitE cap l = 0) {k : Nat} {y : TenantD} (hk : l[k]? = some y) (q : Int) (h0 : 0 ≤ q) (h1 : q ≤ y.quota) (hfit : wrap64 (tenChg y) ≤ q) : admitE cap (l.set k { y with quota := q }) = 0 := by
  obtain ⟨ha, t, hs, ht, hf⟩ := admit_parts h
  have hq : (quotas l)[k]? = some y.quota := by simp [quotas, hk]
  have e : quotas (l.set k { y with quota := q }) = (quotas l).set k q := by simp [quotas, List.map_set]
  obtain ⟨t', hs', ht'⟩ := sumUp_set _ k _ q 0 t hq h1 hs
  refine admit_of (t := t') (by rw [e]; exact amounts_set ha hq h0 h1) (by rw [e]; exact hs') (by omega) fun x hx => ?_
  rcases List.mem_or_eq_of_mem_set hx with hx | rfl
  · exact hf x hx
  · simp only [fitsB, show tenChg { y with quota := q } = tenChg y from rfl]
    simpa using hfit

theorem snapsChg_bulk : ∀ (l : List SnapD), 0 ≤ snapsChg l ∧ snapsChg l ≤ (l.map bulkSnap).sum
  | [] => by simp [snapsChg]
  | x :: l => by
    have h := snapsChg_bulk l
    have hb : x.body.l.length ≤ (x.body.l.map bulkBlock).sum := by
      generalize x.body.l = bl
      induction bl with
      | nil => simp
      | cons y r ih => simp only [List.length_cons, List.map_cons, List.sum_cons, bulkBlock]; omega
    simp only [snapsChg, List.map_cons, List.sum_cons, bulkSnap, SliceV.bulk]
    omega
theorem blocks_bulk : ∀ (l : List BlockD), l.length ≤ (l.map bulkBlock).sum
  | [] => by simp
  | y :: r => by have := blocks_bulk r; simp only [List.length_cons, List.map_cons, List.sum_cons, bulkBlock]; omega
theorem setsChg_bulk : ∀ (l : List SetD), 0 ≤ setsChg l ∧ setsChg l ≤ (l.map bulkSet).sum
  | [] => by simp [setsChg]
  | x :: l => by
    have h := setsChg_bulk l
    have hb := blocks_bulk x.body.l
    have hs := snapsChg_bulk x.snaps.l
    simp only [setsChg, setChg, List.map_cons, List.sum_cons, bulkSet, SliceV.bulk]
    omega
theorem stagesChg_bulk : ∀ (l : List StageD), 0 ≤ stagesChg l ∧ stagesChg l ≤ (l.map bulkStage).sum
  | [] => by simp [stagesChg]
  | x :: l => by
    have h := stagesChg_bulk l
    have hb := blocks_bulk x.body.l
    simp only [stagesChg, List.map_cons, List.sum_cons, bulkStage, SliceV.bulk]
    omega
theorem tenChg_bulk (x : TenantD) : 0 ≤ tenChg x ∧ tenChg x ≤ bulkTenant x := by
  have h1 := setsChg_bulk x.sets.l
  have h2 := stagesChg_bulk x.stages.l
  simp only [tenChg, bulkTenant, SliceV.bulk]
  omega
theorem bulk_mem {α : Type} {f : α → Nat} : ∀ {l : List α} {x : α}, x ∈ l → f x ≤ (l.map f).sum
  | y :: l, x, h => by
    rcases List.mem_cons.1 h with rfl | h
    · simp only [List.map_cons, List.sum_cons]; omega
    · have := bulk_mem (f := f) h
      simp only [List.map_cons, List.sum_cons]; omega
theorem info53 : (Try.prog.info? 53).map (fun i => (i.zero, i.size, i.bytes)) = some (some (.agg #[.string .empty, .int .i64 0, .int .i64 0, .slice none 0 0, .slice none 0 0, .slice none 0 0, .slice none 0 0]), 7, 128) := by kernel_rfl
theorem lenTen (x : TenantD) : (cellsTenant x).length = 7 := rfl
/-- the cells of a list of tenants, one behind the other -/
theorem tenants_news {w : World} {c b off : Nat} {l : List TenantD} (h : IsTenants w ⟨some ⟨b, off, none⟩, c, l⟩) : ∀ (j : Nat) (u : Value), (l.flatMap cellsTenant)[j]? = some u → w.cell? ((⟨b, off, none⟩ : Addr).add j) = some u := by
  intro j u hj
  obtain ⟨i, r, x, rfl, hi, hr⟩ := flat_get lenTen l j u hj
  obtain ⟨⟨b', off', e, _, hc⟩, _⟩ := IsSl.at' h i x hi
  cases e
  rw [Addr.add_mid, ← Nat.add_assoc]
  exact hc r u hr
theorem tenants_set {W : World} {g cap : Nat} {l : List TenantD} {k : Nat} {y : TenantD} {q : Int} (hg : g < W.heap.size) (h : ∀ j u, (l.flatMap cellsTenant)[j]? = some u → W.cell? ⟨g, j, none⟩ = some u)
    (hk : l[k]? = some y) (hq : InR q) (hlen : l.length * 128 ≤ 140737488355328) (hok : ∀ x ∈ l, okTenant (W.setCell ⟨g, k * 7 + 1, none⟩ (.int .i64 q)) x) :
    IsTenants (W.setCell ⟨g, k * 7 + 1, none⟩ (.int .i64 q)) ⟨some ⟨g, 0, none⟩, cap, l.set k { y with quota := q }⟩ := by
  have hkl := (List.getElem?_eq_some_iff.1 hk).1
  have hsz : g < (W.setCell ⟨g, k * 7 + 1, none⟩ (.int .i64 q)).heap.size := Nat.lt_of_lt_of_le hg ((Below.refl 0 W).setCell (Nat.zero_le _) _).size
  refine ⟨by simpa using hlen, fun i x hi => ?_⟩
  by_cases hik : i = k
  · subst hik
    obtain rfl : { y with quota := q } = x := by simpa [hkl] using hi
    have hy := hok y (List.mem_of_getElem? hk)
    refine ⟨⟨g, 0, rfl, hsz, fun j v hj => ?_⟩, ⟨hy.1, hq, hy.2.2⟩⟩
    rw [Nat.zero_add]
    by_cases hj1 : j = 1
    · subst hj1
      have : v = .int .i64 q := by simpa [cellsTenant] using hj.symm
      subst this
      exact World.cell?_setCell_same _ _ _ (h _ _ (flat_at lenTen l i 1 y (.int .i64 y.quota) hk rfl))
    · rw [World.cell?_setCell_other _ _ _ _ (by intro e; simp at e; try omega)]
      refine h _ _ (flat_at lenTen l i j y v hk ?_)
      match j, hj1, hj with
      | 0, _, hj => exact hj
      | 1, hj1, _ => exact absurd rfl hj1
      | 2, _, hj => exact hj
      | 3, _, hj => exact hj
      | 4, _, hj => exact hj
      | 5, _, hj => exact hj
      | 6, _, hj => exact hj
      | j + 7, _, hj => simp [cellsTenant] at hj
  · have hi' : l[i]? = some x := by rw [List.getElem?_set_ne (fun e => hik e.symm)] at hi; exact hi
    refine ⟨⟨g, 0, rfl, hsz, fun j v hj => ?_⟩, hok x (List.mem_of_getElem? hi')⟩
    have hj7 : j < 7 := (List.getElem?_eq_some_iff.1 hj).1
    rw [Nat.zero_add, World.cell?_setCell_other _ _ _ _ (by intro e; simp at e; try omega)]
    exact h _ _ (flat_at lenTen l i j x v hi' hj)
theorem cells_one (l : List TenantD) : ∀ u ∈ l.flatMap cellsTenant, u.oneCell' = true := by
  intro u hu
  obtain ⟨x, _, hx⟩ := List.mem_flatMap.1 hu
  simp only [cellsTenant, List.mem_cons, List.not_mem_nil, or_false] at hx
  rcases hx with rfl | rfl | rfl | rfl | rfl | rfl | rfl <;> rfl
/-- the copy of the pool and its list stand, and below the world's heap nothing has turned -/
structure QB (w : World) (n0 g cap2 : Nat) (cap : Int) (l : List TenantD) (fa : Option Addr) (fn fc : Nat) (la : Option Addr) (ln lc : Nat) (W : World) : Prop where
  below : Below w.heap.size w W
  n0lt : n0 < W.heap.size
  glt : g < W.heap.size
  c0 : W.cell? ⟨n0, 0, none⟩ = some (.int .i64 cap)
  c1 : W.cell? ⟨n0, 1, none⟩ = some (.slice (some ⟨g, 0, none⟩) l.length cap2)
  c2 : W.cell? ⟨n0, 2, none⟩ = some (.slice fa fn fc)
  c3 : W.cell? ⟨n0, 3, none⟩ = some (.slice la ln lc)
  row : ∀ j u, (l.flatMap cellsTenant)[j]? = some u → W.cell? ⟨g, j, none⟩ = some u ∧ W.frozen? ⟨g, j, none⟩ = false
theorem QB.later {w W W' : World} {n0 g cap2 : Nat} {cap : Int} {l : List TenantD} {fa la : Option Addr} {fn fc ln lc : Nat} (h : QB w n0 g cap2 cap l fa fn fc la ln lc W) (hb : Below W.heap.size W W') : QB w n0 g cap2 cap l fa fn fc la ln lc W' :=
  ⟨h.below.trans (hb.mono h.below.size), Nat.lt_of_lt_of_le h.n0lt hb.size, Nat.lt_of_lt_of_le h.glt hb.size,
    by rw [hb.cell (p := ⟨n0, 0, none⟩) h.n0lt]; exact h.c0, by rw [hb.cell (p := ⟨n0, 1, none⟩) h.n0lt]; exact h.c1,
    by rw [hb.cell (p := ⟨n0, 2, none⟩) h.n0lt]; exact h.c2, by rw [hb.cell (p := ⟨n0, 3, none⟩) h.n0lt]; exact h.c3,
    fun j u hj => ⟨by rw [hb.cell (p := ⟨g, j, none⟩) h.glt]; exact (h.row j u hj).1, by rw [hb.frozen (p := ⟨g, j, none⟩) h.glt]; exact (h.row j u hj).2⟩⟩
theorem QB.start {w w2 w3 : World} {g cap2 : Nat} {cap : Int} {l : List TenantD} {fa la : Option Addr} {fn fc ln lc : Nat} {old : Value} (hb : Below w.heap.size w w3) (hw : w.heap.size < w2.heap.size) (hz : w2.heap.size < w3.heap.size) (hg : g < w3.heap.size) (hne : g ≠ w2.heap.size)
    (c0 : w3.cell? ⟨w2.heap.size, 0, none⟩ = some (.int .i64 cap)) (c1 : w3.cell? ⟨w2.heap.size, 1, none⟩ = some old) (c2 : w3.cell? ⟨w2.heap.size, 2, none⟩ = some (.slice fa fn fc)) (c3 : w3.cell? ⟨w2.heap.size, 3, none⟩ = some (.slice la ln lc))
    (row : ∀ j u, (l.flatMap cellsTenant)[j]? = some u → w3.cell? ⟨g, j, none⟩ = some u ∧ w3.frozen? ⟨g, j, none⟩ = false) : QB w w2.heap.size g cap2 cap l fa fn fc la ln lc (w3.setCell ⟨w2.heap.size, 1, none⟩ (.slice (some ⟨g, 0, none⟩) l.length cap2)) := by
  have hsz := ((Below.refl 0 w3).setCell (p := ⟨w2.heap.size, 1, none⟩) (Nat.zero_le _) (.slice (some ⟨g, 0, none⟩) l.length cap2)).size
  refine ⟨hb.setCell (Nat.le_of_lt hw) _, by omega, by omega, ?_, World.cell?_setCell_same _ _ _ c1, ?_, ?_, fun j u hj => ⟨?_, ?_⟩⟩
  · rw [World.cell?_setCell_other _ _ _ _ (by simp)]; exact c0
  · rw [World.cell?_setCell_other _ _ _ _ (by simp)]; exact c2
  · rw [World.cell?_setCell_other _ _ _ _ (by simp)]; exact c3
  · rw [World.cell?_setCell_other _ _ _ _ (by intro e; simp at e; try omega)]; exact (row j u hj).1
  · rw [World.frozen?_setCell]; exact (row j u hj).2
theorem ownsRow_none {w : World} {base g : Nat} {e size : Nat} (hb : base ≤ g) (hg : w.heap[g]? = some (.cells #[] e (0, 0))) : w.ownsRow base e size (.slice (some ⟨g, 0, none⟩) 0 0) 0 [] :=
  ⟨by simp, .inr ⟨g, 0, #[], rfl, hb, hg, Nat.le_refl _, by unfold maxLen; omega, by simp, by simp⟩⟩
end Go.Proofs.Ytbkghiaafkmapaa
