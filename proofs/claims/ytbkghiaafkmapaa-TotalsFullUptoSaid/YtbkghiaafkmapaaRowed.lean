/- Lists in rows that the call owns, and the facts that an append's law asks, for snapshots. No condition. -/
import Derived.Test.YtbkghiaafkmapaaMore
import Derived.Test.YtbkghiaafkmapaaSnapLaw
import Derived.Deep.Upon
namespace Go.Proofs.Ytbkghiaafkmapaa
open Go.ChangeShapes Go.WideShapes Go.ChangeAt Go.RowKit

/-- a list whose elements' cells stand one behind the other in a row of the call's own -/
theorem isSl_of_row {α : Type} {cells : α → List Value} {ok : World → α → Prop} {m by_ : Nat} {W : World} {g cap : Nat} {l : List α} (hm : ∀ x, (cells x).length = m) (hlen : l.length * by_ ≤ 140737488355328) (hg : g < W.heap.size)
    (hrow : ∀ j u, (l.flatMap cells)[j]? = some u → W.cell? ⟨g, j, none⟩ = some u) (hok : ∀ x ∈ l, ok W x) : IsSl cells ok m by_ W ⟨some ⟨g, 0, none⟩, cap, l⟩ :=
  ⟨hlen, fun i x hi => ⟨⟨g, 0, rfl, hg, fun j v hj => by rw [Nat.zero_add]; exact hrow _ _ (flat_at hm l i j x v hi hj)⟩, hok x (List.mem_of_getElem? hi)⟩⟩
/-- the cells of a list that came in, one behind the other -/
theorem sl_news {α : Type} {cells : α → List Value} {ok : World → α → Prop} {m by_ : Nat} (hm : ∀ x, (cells x).length = m) {w : World} {c b off : Nat} {l : List α} (h : IsSl cells ok m by_ w ⟨some ⟨b, off, none⟩, c, l⟩) : ∀ (j : Nat) (u : Value), (l.flatMap cells)[j]? = some u → w.cell? ((⟨b, off, none⟩ : Addr).add j) = some u := by
  intro j u hj
  obtain ⟨i, r, x, rfl, hi, hr⟩ := flat_get hm l j u hj
  obtain ⟨⟨b', off', e, _, hc⟩, _⟩ := IsSl.at' h i x hi
  cases e
  rw [Addr.add_mid, ← Nat.add_assoc]
  exact hc r u hr
theorem isSl_nil {α : Type} {cells : α → List Value} {ok : World → α → Prop} {m b : Nat} {W : World} : IsSl cells ok m b W ⟨none, 0, []⟩ := ⟨by simp, fun i x hi => by simp at hi⟩
theorem info42 : (Try.prog.info? 42).map (fun i => (i.zero, i.size, i.bytes)) = some (some (.agg #[.string .empty, .int .i64 0, .slice none 0 0, .slice none 0 0, .slice none 0 0]), 5, 96) := by kernel_rfl
theorem lenSnap (x : SnapD) : (cellsSnap x).length = 5 := rfl
theorem snap_one (x : SnapD) : ∀ u ∈ cellsSnap x, u.oneCell' = true := by
  intro u hx
  simp only [cellsSnap, List.mem_cons, List.not_mem_nil, or_false] at hx
  rcases hx with rfl | rfl | rfl | rfl | rfl <;> rfl
theorem snaps_one (l : List SnapD) : ∀ u ∈ l.flatMap cellsSnap, u.oneCell' = true := by
  intro u hu
  obtain ⟨x, _, hx⟩ := List.mem_flatMap.1 hu
  exact snap_one x u hx
/-- what stands in the block of a literal of one snapshot, behind an append -/
theorem news_far {w w' : World} {B g : Nat} {cs : Array Value} {t : TypeId} {fr : Nat × Nat} (hg : w.grownBy w' (some g)) (hb : w.heap[B]? = some (.cells cs t fr)) (hne : B ≠ g) : ∀ j u, cs.toList[j]? = some u → w'.cell? ((⟨B, 0, none⟩ : Addr).add j) = some u := fun j u hu => by
  have h := World.news_of_block hb j u hu
  have hadd : (⟨B, 0, none⟩ : Addr).add j = ⟨B, j, none⟩ := by unfold Addr.add; split <;> simp_all
  rw [hadd] at h ⊢
  rw [hg.cell_far ⟨B, j, none⟩ ((Array.getElem?_eq_some_iff.1 hb).1) (fun e => hne (by injection e))]
  exact h
theorem ownsRow_same {w w' : World} {base e size n : Nat} {v : Value} {xs : List Value} (h : w.ownsRow base e size v n xs) (hh : w'.heap = w.heap) : w'.ownsRow base e size v n xs := by
  unfold World.ownsRow at h ⊢
  rw [hh]
  exact h

theorem sl_news' {α : Type} {cells : α → List Value} {ok : World → α → Prop} {m by_ : Nat} (hm : ∀ x, (cells x).length = m) {w : World} {c : Nat} {xa : Option Addr} {l : List α} (h : IsSl cells ok m by_ w ⟨xa, c, l⟩) : ∀ (ad : Addr), xa = some ad → ∀ (j : Nat) (u : Value), (l.flatMap cells)[j]? = some u → w.cell? (ad.add j) = some u := by
  intro ad e j u hj
  subst e
  obtain ⟨i, r, x, rfl, hi, hr⟩ := flat_get hm l j u hj
  obtain ⟨⟨b', off', e, _, hc⟩, _⟩ := IsSl.at' h i x hi
  cases e
  rw [Addr.add_mid, ← Nat.add_assoc]
  exact hc r u hr
theorem sl_none {α : Type} {cells : α → List Value} {ok : World → α → Prop} {m by_ : Nat} {w : World} {c : Nat} {xa : Option Addr} {l : List α} (h : IsSl cells ok m by_ w ⟨xa, c, l⟩) : xa = none → l.length = 0 := by
  intro e
  subst e
  cases l with
  | nil => rfl
  | cons x l => obtain ⟨⟨b', off', e, _⟩, _⟩ := IsSl.at' h 0 x rfl; cases e

/-- a string that came in -/
theorem str_in {H : Type} {enc : TypeId × Value → H} {w : World} {base : Nat} {spare : Nat → Bool} {held : Bool} {v : Value} {d : DataW H} {p : List MemPlace} (hv : ∃ s, v = .string s) (h : DataW.Trod enc Try.prog w base spare held 9 v d p)
    (hwt : ∀ n ∈ d.weights Try.prog 9, n ≤ reachBytes) : ∃ s, v = .string s ∧ okStr s ∧ bulkStr s ≤ Rows.uptoBulk d := by
  obtain ⟨s0, rfl⟩ := hv
  obtain ⟨fuel, hf⟩ := h
  obtain ⟨s, hx, ho, hb⟩ := reads_str Try.underlying9 fuel _ _ hf hwt
  refine ⟨s, ?_, ho, hb⟩
  simpa [Value.cells] using hx

section
variable {P : Program}
theorem grownBy_refl (w : World) (row : Option Nat) : w.grownBy w row := ⟨rfl, rfl, rfl, Nat.le_refl _, fun _ _ _ => rfl⟩
/-- append onto a row of the call's own, of whatever came in, nothing too -/
theorem run_append_rows (w : World) (t ty : TypeId) (base : Nat) (e : TypeId) (i : TypeInfo) (z : Value) (size bytes : Nat) (ht : P.underlying t = some (.slice e)) (hi : P.info? e = some i) (hz : i.zero = some z)
    (hsize : i.size = size) (hby : i.bytes = bytes) (hzs : z.cells.size = size) (hsz : 0 < size)
    (g0 c0 n : Nat) (xs : List Value) (hown : w.ownsRow base e size (.slice (some ⟨g0, 0, none⟩) n c0) n xs)
    (xa : Option Addr) (m c : Nat) (news : List Value) (hl : news.length = m * size) (hnone : xa = none → m = 0) (hnews : ∀ ad, xa = some ad → ∀ j u, news[j]? = some u → w.cell? (ad.add j) = some u) (h1 : ∀ u ∈ news, u.oneCell' = true)
    (h63 : n + m ≤ maxLen) (hbytes : (n + m) * bytes ≤ 140737488355328) (hbase : base ≤ w.heap.size) :
    ∃ g cap w', (Builtin.append_ #[t, t] ty #[.slice (some ⟨g0, 0, none⟩) n c0, .slice xa m c]).run P w = .ok (.slice (some ⟨g, 0, none⟩) (n + m) cap) w' ∧
      w'.ownsRow base e size (.slice (some ⟨g, 0, none⟩) (n + m) cap) (n + m) (xs ++ news) ∧ w.grownBy w' (some g0) ∧ (g = g0 ∨ g = w.heap.size) ∧ g < w'.heap.size := by
  rcases Nat.eq_zero_or_pos m with h0 | hpos
  · subst h0
    obtain rfl : news = [] := List.eq_nil_of_length_eq_zero (by simpa using hl)
    have hle : n ≤ c0 ∧ g0 < w.heap.size := by
      rcases hown.2 with ⟨h, _⟩ | ⟨g', cap', cur, hv, _, hg, hn, _⟩
      · cases h
      · cases hv; exact ⟨hn, (Array.getElem?_eq_some_iff.1 hg).1⟩
    refine ⟨g0, c0, w, ?_, by simpa using hown, grownBy_refl w _, .inl rfl, hle.2⟩
    refine Go.run_append_nothing (P := P) w t t ty e i ht hi (some ⟨g0, 0, none⟩) n c0 hle.1 (.slice xa 0 c) ⟨.inl ⟨e, ht⟩, fun w' => ?_, ?_, ?_, by simp, fun u hu => by cases hu⟩
    · cases xa <;> simp [Builtin.lenOf]
    · cases xa <;> simp [Builtin.firstCells, loadCells, loadCellsFrom]
    · cases xa <;> simp [Builtin.firstCells, loadCells, loadCellsFrom]
  · cases xa with
    | none => exact absurd (hnone rfl) (by omega)
    | some ad =>
      obtain ⟨g, cap, w', h2, h3, h4, h5, h6⟩ := run_append_lies (P := P) w t ty base e i z size bytes ht hi hz hsize hby hzs hsz _ n xs hown ad m c news hl (hnews ad rfl) h1 hpos h63 hbytes hbase _ rfl
      refine ⟨g, cap, w', h2, h3, h4, ?_, h6⟩
      rcases h5 with h5 | h5
      · left; simpa [Value.ownBlock] using h5.symm
      · exact .inr h5

theorem wp_append_rows (w : World) {o : Oper} {a : Act} {K : Act → World → Prop} {Q : Exit → Act → World → Prop} (s x : Operand) (t : TypeId)
    (ho : o.op = .call { callee := .builtin .append, args := #[s, x], argTypes := #[t, t] })
    (base : Nat) (e : TypeId) (i : TypeInfo) (z : Value) (size bytes : Nat) (ht : P.underlying t = some (.slice e)) (hi : P.info? e = some i) (hz : i.zero = some z)
    (hsize : i.size = size) (hby : i.bytes = bytes) (hzs : z.cells.size = size) (hsz : 0 < size)
    (g0 c0 n : Nat) (xs : List Value) (hs : a.eval s = .slice (some ⟨g0, 0, none⟩) n c0) (hown : w.ownsRow base e size (.slice (some ⟨g0, 0, none⟩) n c0) n xs)
    (xa : Option Addr) (m c : Nat) (news : List Value) (hx : a.eval x = .slice xa m c) (hl : news.length = m * size) (hnone : xa = none → m = 0) (hnews : ∀ ad, xa = some ad → ∀ j u, news[j]? = some u → w.cell? (ad.add j) = some u) (h1 : ∀ u ∈ news, u.oneCell' = true)
    (h63 : n + m ≤ maxLen) (hbytes : (n + m) * bytes ≤ 140737488355328) (hbase : base ≤ w.heap.size)
    (h : ∀ g cap w', w'.ownsRow base e size (.slice (some ⟨g, 0, none⟩) (n + m) cap) (n + m) (xs ++ news) → w.grownBy w' (some g0) → (g = g0 ∨ g = w.heap.size) → g < w'.heap.size → K (a.put o.dst (.slice (some ⟨g, 0, none⟩) (n + m) cap)) w') : o.wp P a w K Q := by
  obtain ⟨g, cap, w', hr, h2, h3, h4, h5⟩ := run_append_rows (P := P) w t o.type base e i z size bytes ht hi hz hsize hby hzs hsz g0 c0 n xs hown xa m c news hl hnone hnews h1 h63 hbytes hbase
  unfold Oper.wp execOp
  simp only [ho, resolve, invoke, builtin, Sem.run_bind, Sem.run_pure, Result.andThen_ok, List.map_toArray, List.map_cons, List.map_nil, hs, hx, hr]
  exact h g cap w' h2 h3 h4 h5

theorem step_append_rows (w : World) {ops : Array Oper} {o : Oper} {a : Act} {K : Act → World → Prop} {Q : Exit → Act → World → Prop} {E : Prop} (hgd : o.guard = none) (s x : Operand) (t : TypeId)
    (ho : o.op = .call { callee := .builtin .append, args := #[s, x], argTypes := #[t, t] })
    (base : Nat) (e : TypeId) (i : TypeInfo) (z : Value) (size bytes : Nat) (ht : P.underlying t = some (.slice e)) (hi : P.info? e = some i) (hz : i.zero = some z)
    (hsize : i.size = size) (hby : i.bytes = bytes) (hzs : z.cells.size = size) (hsz : 0 < size)
    (g0 c0 n : Nat) (xs : List Value) (hs : a.eval s = .slice (some ⟨g0, 0, none⟩) n c0) (hown : w.ownsRow base e size (.slice (some ⟨g0, 0, none⟩) n c0) n xs)
    (xa : Option Addr) (m c : Nat) (news : List Value) (hx : a.eval x = .slice xa m c) (hl : news.length = m * size) (hnone : xa = none → m = 0) (hnews : ∀ ad, xa = some ad → ∀ j u, news[j]? = some u → w.cell? (ad.add j) = some u) (h1 : ∀ u ∈ news, u.oneCell' = true)
    (h63 : n + m ≤ maxLen) (hbytes : (n + m) * bytes ≤ 140737488355328) (hbase : base ≤ w.heap.size)
    (h : ∀ g cap w', w'.ownsRow base e size (.slice (some ⟨g, 0, none⟩) (n + m) cap) (n + m) (xs ++ news) → w.grownBy w' (some g0) → (g = g0 ∨ g = w.heap.size) → g < w'.heap.size → K (a.put o.dst (.slice (some ⟨g, 0, none⟩) (n + m) cap)) w') :
    if Region.wanted o (yielded ops a.tmps) = true then Oper.wp P o a w K Q else E := by
  have hw : Region.wanted o (yielded ops a.tmps) = true := by simp [Region.wanted, hgd]
  rw [if_pos hw]
  exact wp_append_rows w s x t ho base e i z size bytes ht hi hz hsize hby hzs hsz g0 c0 n xs hs hown xa m c news hx hl hnone hnews h1 h63 hbytes hbase h
end
end Go.Proofs.Ytbkghiaafkmapaa
