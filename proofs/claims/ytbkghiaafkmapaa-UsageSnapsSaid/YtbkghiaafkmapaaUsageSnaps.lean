/- godownlaw15.UsageSnaps answers true for every set and every name. No condition. -/
import Derived.Test.YtbkghiaafkmapaaRowed
import Derived.Test.YtbkghiaafkmapaaAlive15
import Derived.Test.YtbkghiaafkmapaaQuiet
namespace Go.Proofs.Ytbkghiaafkmapaa.usageSnaps
open Go.ChangeShapes Go.WideShapes Go.ChangeAt Go.RowKit

/-- the set's box stands, and below the world's heap nothing has turned -/
structure SB (w : World) (x : SetD) (W : World) : Prop where
  below : Below w.heap.size w W
  size : w.heap.size < W.heap.size
  c0 : W.cell? ⟨w.heap.size, 0, none⟩ = some (.string x.path)
  c1 : W.cell? ⟨w.heap.size, 1, none⟩ = some (.string x.origin)
  c2 : W.cell? ⟨w.heap.size, 2, none⟩ = some (.slice x.body.a x.body.l.length x.body.c)
  c3 : W.cell? ⟨w.heap.size, 3, none⟩ = some (.slice x.snaps.a x.snaps.l.length x.snaps.c)
  c4 : W.cell? ⟨w.heap.size, 4, none⟩ = some (.slice x.own.a x.own.l.length x.own.c)
theorem SB.later {w W W' : World} {x : SetD} (h : SB w x W) (hb : Below W.heap.size W W') : SB w x W' :=
  ⟨h.below.trans (hb.mono h.below.size), Nat.lt_of_lt_of_le h.size hb.size,
    by rw [hb.cell (p := ⟨w.heap.size, 0, none⟩) h.size]; exact h.c0, by rw [hb.cell (p := ⟨w.heap.size, 1, none⟩) h.size]; exact h.c1,
    by rw [hb.cell (p := ⟨w.heap.size, 2, none⟩) h.size]; exact h.c2, by rw [hb.cell (p := ⟨w.heap.size, 3, none⟩) h.size]; exact h.c3,
    by rw [hb.cell (p := ⟨w.heap.size, 4, none⟩) h.size]; exact h.c4⟩
/-- the set's body in its box, and the copy in its own; below the world's heap nothing has turned -/
structure QD (w : World) (q : Nat) (b : SliceV BlockD) (y : SetD) (W : World) : Prop where
  below : Below w.heap.size w W
  plt : w.heap.size < W.heap.size
  qlt : q < W.heap.size
  p2 : W.cell? ⟨w.heap.size, 2, none⟩ = some (.slice b.a b.l.length b.c)
  q0 : W.cell? ⟨q, 0, none⟩ = some (.string y.path)
  q1 : W.cell? ⟨q, 1, none⟩ = some (.string y.origin)
  q2 : W.cell? ⟨q, 2, none⟩ = some (.slice y.body.a y.body.l.length y.body.c)
  q3 : W.cell? ⟨q, 3, none⟩ = some (.slice y.snaps.a y.snaps.l.length y.snaps.c)
  q4 : W.cell? ⟨q, 4, none⟩ = some (.slice y.own.a y.own.l.length y.own.c)
  ok : okSet W y
theorem QD.at' {w W : World} {q : Nat} {b : SliceV BlockD} {y : SetD} (h : QD w q b y W) : At W [(w.heap.size, 2, .slice b.a b.l.length b.c), (q, 0, .string y.path), (q, 1, .string y.origin), (q, 2, .slice y.body.a y.body.l.length y.body.c), (q, 3, .slice y.snaps.a y.snaps.l.length y.snaps.c), (q, 4, .slice y.own.a y.own.l.length y.own.c)] :=
  .cons h.plt h.p2 (.cons h.qlt h.q0 (.cons h.qlt h.q1 (.cons h.qlt h.q2 (.cons h.qlt h.q3 (.cons h.qlt h.q4 (.nil W))))))
theorem QD.start {w w2 W : World} {path origin name : ByteArray} {ba sa oa : Option Addr} {bc sc oc : Nat} {bl : List BlockD} {sl : List SnapD} {ol : List PropD} {g cap : Nat} (hX : okSet w ⟨path, origin, ⟨ba, bc, bl⟩, ⟨sa, sc, sl⟩, ⟨oa, oc, ol⟩⟩) (hname : okStr name) (hlen : (sl.length + 1) * 96 ≤ 140737488355328)
    (hw : Below w.heap.size w w2) (gz : w.heap.size < w2.heap.size) (c2 : w2.cell? ⟨w.heap.size, 2, none⟩ = some (.slice ba bl.length bc)) (hb : Below (w2.heap.size + 1) (w2.alloc (.cells #[.string path, .string origin, .slice ba bl.length bc, .slice sa sl.length sc, .slice oa ol.length oc] 38)) W)
    (hown : W.ownsRow (w2.heap.size + 1) 42 5 (.slice (some ⟨g, 0, none⟩) (sl.length + 1) cap) (sl.length + 1) (sl.flatMap cellsSnap ++ cellsSnap ⟨name, 0, ⟨ba, bc, bl⟩, ⟨none, 0, []⟩, ⟨none, 0, []⟩⟩)) :
    QD w w2.heap.size ⟨ba, bc, bl⟩ (snapped ⟨path, origin, ⟨ba, bc, bl⟩, ⟨sa, sc, sl⟩, ⟨oa, oc, ol⟩⟩ name (some ⟨g, 0, none⟩) cap) (W.setCell ⟨w2.heap.size, 3, none⟩ (.slice (some ⟨g, 0, none⟩) (sl.length + 1) cap)) := by
  obtain ⟨hgb, hgl, hrow⟩ := owned_cell hown
  have hz := hb.size
  simp at hz
  have hbW : Below w.heap.size w W := hw.trans (((Below.refl w.heap.size w2).alloc (Nat.le_of_lt gz) _).trans (hb.mono (by omega)))
  have hsz := ((Below.refl 0 W).setCell (p := ⟨w2.heap.size, 3, none⟩) (Nat.zero_le _) (.slice (some ⟨g, 0, none⟩) (sl.length + 1) cap)).size
  have hbS := hbW.setCell (p := ⟨w2.heap.size, 3, none⟩) (Nat.le_of_lt gz) (.slice (some ⟨g, 0, none⟩) (sl.length + 1) cap)
  have hok := okSet_below hX hbS
  have hq : ∀ o, W.cell? ⟨w2.heap.size, o, none⟩ = (w2.alloc (.cells #[.string path, .string origin, .slice ba bl.length bc, .slice sa sl.length sc, .slice oa ol.length oc] 38)).cell? ⟨w2.heap.size, o, none⟩ := fun o => hb.cell (p := ⟨w2.heap.size, o, none⟩) (Nat.lt_succ_self _)
  refine ⟨hbS, by omega, by omega, ?_, ?_, ?_, ?_, ?_, ?_, hok.1, hok.2.1, hok.2.2.1, ?_, hok.2.2.2.2⟩
  · rw [World.cell?_setCell_other _ _ _ _ (by intro e; simp at e; try omega), hb.cell (p := ⟨w.heap.size, 2, none⟩) (show w.heap.size < w2.heap.size + 1 by omega)]; go_simp
  · exact (World.cell?_setCell_other _ _ _ _ (by simp)).trans ((hq _).trans (by first | (simp [snapped]; done) | (simp [snapped]; go_simp)))
  · exact (World.cell?_setCell_other _ _ _ _ (by simp)).trans ((hq _).trans (by first | (simp [snapped]; done) | (simp [snapped]; go_simp)))
  · exact (World.cell?_setCell_other _ _ _ _ (by simp)).trans ((hq _).trans (by first | (simp [snapped]; done) | (simp [snapped]; go_simp)))
  · exact (World.cell?_setCell_same _ _ _ (show W.cell? ⟨w2.heap.size, 3, none⟩ = some (.slice sa sl.length sc) from (hq 3).trans (by go_simp))).trans (by simp [snapped])
  · exact (World.cell?_setCell_other _ _ _ _ (by simp)).trans ((hq _).trans (by first | (simp [snapped]; done) | (simp [snapped]; go_simp)))
  · refine isSl_of_row lenSnap (by simpa using hlen) (by omega) (fun j u hj => ?_) (fun y hy => ?_)
    · rw [World.cell?_setCell_other _ _ _ _ (by intro e; simp at e; try omega)]
      exact (hrow j u (by simpa using hj)).1
    · rcases List.mem_append.1 hy with hy | hy
      · obtain ⟨i, hi⟩ := List.getElem?_of_mem hy
        exact (IsSl.at' hok.2.2.2.1 i y hi).2
      · obtain rfl : y = ⟨name, 0, ⟨ba, bc, bl⟩, ⟨none, 0, []⟩, ⟨none, 0, []⟩⟩ := by simpa using hy
        exact ⟨hname, show InR 0 by unfold InR; omega, hok.2.2.1, isSl_nil, isSl_nil⟩

set_option maxRecDepth 100000 in
set_option maxHeartbeats 4000000 in
theorem walk (x : SetD) (name : ByteArray) (hname : okStr name) (w : World) (h : okSet w x) (hsh : x.snaps.l.length * 96 ≤ 140737488351232) :
    Calls Try.prog 5 #[.agg #[.string x.path, .string x.origin, .slice x.body.a x.body.l.length x.body.c, .slice x.snaps.a x.snaps.l.length x.snaps.c, .slice x.own.a x.own.l.length x.own.c], .string name] w fun e w' => e = .returned (.bool true) ∧ Below w.heap.size w w' := by
  have hS := fun W hW => Set_any x W (okSet_below h hW)
  have HX := Lib.hid h
  obtain ⟨path, origin, ⟨ba, bc, bl⟩, ⟨sa, sc, sl⟩, ⟨oa, oc, ol⟩⟩ := x
  dsimp only at hS hsh ⊢
  have HS := Lib.hid hS
  clear hS h
  have HB0 : Hid (SB w ⟨path, origin, ⟨ba, bc, bl⟩, ⟨sa, sc, sl⟩, ⟨oa, oc, ol⟩⟩ (w.alloc (.cells #[.string path, .string origin, .slice ba bl.length bc, .slice sa sl.length sc, .slice oa ol.length oc] 38))) := ⟨(Below.refl _ _).alloc (Nat.le_refl _) _, by simp, by go_simp, by go_simp, by go_simp, by go_simp, by go_simp⟩
  go_enter Try.func5, Try.ntmps5
  go_wp2_with fail
  refine (alive15 _).mono ?_
  rintro e w1 ⟨rfl, hb⟩
  have HB1 := Lib.hid (HB0.out.later hb)
  clear hb
  obtain ⟨-, -, c0, c1, c2, c3, c4⟩ := HB1.out
  dsimp only at c0 c1 c2 c3 c4
  go_wp2_with fail
  refine (HS.out _ HB1.out.below).mono ?_
  rintro e w2 ⟨rfl, hb⟩
  have HB2 := Lib.hid (HB1.out.later hb)
  clear hb c0 c1 c2 c3 c4 HB1
  obtain ⟨-, gz, c0, c1, c2, c3, c4⟩ := HB2.out
  dsimp only at c0 c1 c2 c3 c4
  have gne : w2.heap.size ≠ w.heap.size := by omega
  have gne' : w.heap.size ≠ w2.heap.size := by omega
  go_wp2_with fail

  obtain ⟨i0, hi, hz0, hz1, hz2⟩ := info_parts info42
  have HI := Lib.hid (And.intro hi (And.intro hz0 (And.intro hz1 hz2)))
  clear hi hz0 hz1 hz2
  have H63 : Hid (0 + sl.length ≤ maxLen) := by show _ ≤ _; unfold maxLen; omega
  have H64 : Hid (sl.length + 1 ≤ maxLen) := by show _ ≤ _; unfold maxLen; omega
  have HBY : Hid ((0 + sl.length) * 96 ≤ 140737488355328) := by show _ ≤ _; omega
  have HBZ : Hid ((sl.length + 1) * 96 ≤ 140737488355328) := by show _ ≤ _; omega
  have HNONE : Hid (sa = none → sl.length = 0) := sl_none HX.out.2.2.2.1
  have HOA : Hid (((w2.alloc (.cells #[.string path, .string origin, .slice ba bl.length bc, .slice sa sl.length sc, .slice oa ol.length oc] 38)).alloc (.cells #[] 42)).ownsRow (w2.heap.size + 1) 42 5 (.slice (some ⟨w2.heap.size + 1, 0, none⟩) 0 0) 0 []) := ownsRow_none (Nat.le_refl _) (by have hh := heap_alloc_new (w2.alloc (.cells #[.string path, .string origin, .slice ba bl.length bc, .slice sa sl.length sc, .slice oa ol.length oc] 38)) (.cells #[] 42); simp only [World.alloc, Array.size_push] at hh ⊢; exact hh)
  have HOC : Hid ((((w2.alloc (.cells #[.string path, .string origin, .slice ba bl.length bc, .slice sa sl.length sc, .slice oa ol.length oc] 38)).alloc (.cells #[.string name, .int .i64 0, .slice ba bl.length bc, .slice none 0 0, .slice none 0 0] 42)).alloc (.cells #[] 42)).ownsRow (w2.heap.size + 1) 42 5 (.slice (some ⟨w2.heap.size + 2, 0, none⟩) 0 0) 0 []) := ownsRow_none (by omega) (by have hh := heap_alloc_new ((w2.alloc (.cells #[.string path, .string origin, .slice ba bl.length bc, .slice sa sl.length sc, .slice oa ol.length oc] 38)).alloc (.cells #[.string name, .int .i64 0, .slice ba bl.length bc, .slice none 0 0, .slice none 0 0] 42)) (.cells #[] 42); simp only [World.alloc, Array.size_push] at hh ⊢; exact hh)
  have HOB : Hid ((((w2.alloc (.cells #[.string path, .string origin, .slice ba bl.length bc, .slice sa sl.length sc, .slice oa ol.length oc] 38)).alloc (.cells #[] 42)).alloc (.cells #[.string name, .int .i64 0, .slice ba bl.length bc, .slice none 0 0, .slice none 0 0] 42)).ownsRow (w2.heap.size + 1) 42 5 (.slice (some ⟨w2.heap.size + 1, 0, none⟩) 0 0) 0 []) := HOA.out.alloc _
  have hnews : ∀ W, Below (w2.heap.size + 1) (w2.alloc (.cells #[.string path, .string origin, .slice ba bl.length bc, .slice sa sl.length sc, .slice oa ol.length oc] 38)) W → ∀ ad, sa = some ad → ∀ (j : Nat) (u : Value), (sl.flatMap cellsSnap)[j]? = some u → W.cell? (ad.add j) = some u := fun W hW => sl_news' lenSnap (HX.out.2.2.2.1.below (HB2.out.below.trans (((Below.refl _ _).alloc HB2.out.below.size _).trans (hW.mono (by omega)))))
  have HNEWS := Lib.hid hnews
  clear hnews
  have HN1 : Hid True := trivial
  have HEB : Hid ((((w2.alloc (.cells #[.string path, .string origin, .slice ba bl.length bc, .slice sa sl.length sc, .slice oa ol.length oc] 38)).alloc (.cells #[] 42)).alloc (.cells #[.string name, .int .i64 0, .slice ba bl.length bc, .slice none 0 0, .slice none 0 0] 42)).drew.heap[w2.heap.size + 2]? = some (.cells #[.string name, .int .i64 0, .slice ba bl.length bc, .slice none 0 0, .slice none 0 0] 42)) := by show _ = _; have hh := heap_alloc_new ((w2.alloc (.cells #[.string path, .string origin, .slice ba bl.length bc, .slice sa sl.length sc, .slice oa ol.length oc] 38)).alloc (.cells #[] 42)) (.cells #[.string name, .int .i64 0, .slice ba bl.length bc, .slice none 0 0, .slice none 0 0] 42); simp only [World.alloc, World.drew, Array.size_push] at hh ⊢; exact hh
  have HEC : Hid ((((w2.alloc (.cells #[.string path, .string origin, .slice ba bl.length bc, .slice sa sl.length sc, .slice oa ol.length oc] 38)).alloc (.cells #[.string name, .int .i64 0, .slice ba bl.length bc, .slice none 0 0, .slice none 0 0] 42)).alloc (.cells #[] 42)).drew.heap[w2.heap.size + 1]? = some (.cells #[.string name, .int .i64 0, .slice ba bl.length bc, .slice none 0 0, .slice none 0 0] 42)) := by show _ = _; have hh := (Below.heap_alloc ((w2.alloc (.cells #[.string path, .string origin, .slice ba bl.length bc, .slice sa sl.length sc, .slice oa ol.length oc] 38)).alloc (.cells #[.string name, .int .i64 0, .slice ba bl.length bc, .slice none 0 0, .slice none 0 0] 42)) (.cells #[] 42) (w2.heap.size + 1) (by simp)).trans (by have hh := heap_alloc_new (w2.alloc (.cells #[.string path, .string origin, .slice ba bl.length bc, .slice sa sl.length sc, .slice oa ol.length oc] 38)) (.cells #[.string name, .int .i64 0, .slice ba bl.length bc, .slice none 0 0, .slice none 0 0] 42); simp only [World.alloc, Array.size_push] at hh ⊢; exact hh); exact hh
  have HKP : Hid (∀ w', Below (w2.heap.size + 1) (w2.alloc (.cells #[.string path, .string origin, .slice ba bl.length bc, .slice sa sl.length sc, .slice oa ol.length oc] 38)) w' → w'.cell? ⟨w.heap.size, 2, none⟩ = some (.slice ba bl.length bc) ∧ w'.cell? ⟨w.heap.size, 3, none⟩ = some (.slice sa sl.length sc)) := fun W hb => ⟨(hb.cell (p := ⟨w.heap.size, 2, none⟩) (show w.heap.size < w2.heap.size + 1 by omega)).trans (by go_simp), (hb.cell (p := ⟨w.heap.size, 3, none⟩) (show w.heap.size < w2.heap.size + 1 by omega)).trans (by go_simp)⟩
  go_region_held3 (fun w' => w'.cell? ⟨w.heap.size, 2, none⟩ = some (.slice ba bl.length bc) ∧ w'.cell? ⟨w.heap.size, 3, none⟩ = some (.slice sa sl.length sc))
    (first | exact HKP.out _ (((Below.refl _ _).alloc (by first | omega | (simp; done) | (simp; omega)) _).alloc (by first | omega | (simp; done) | (simp; omega)) _).drew | exact HKP.out _ ((((Below.refl _ _).alloc (by first | omega | (simp; done) | (simp; omega)) _).drew).alloc (by first | omega | (simp; done) | (simp; omega)) _) | exact HKP.out _ HM1.out.1 | exact HKP.out _ (HM1.out.1.alloc HZ1.out _) | exact HKP.out _ HM3.out.1 | go_keep)
    (first
      | (refine step_append_rows _ (by rfl) _ _ _ (by rfl) (w2.heap.size + 1) 42 i0 _ 5 96 Try.underlying35 HI.out.1 HI.out.2.1 HI.out.2.2.1 HI.out.2.2.2 (by rfl) (by decide)  (w2.heap.size + 1) 0 0 [] (by rfl) HOA.out sa sl.length sc (sl.flatMap cellsSnap) (by rfl) (flat_length lenSnap sl) HNONE.out (HNEWS.out _ (((Below.refl _ (w2.alloc (.cells #[.string path, .string origin, .slice ba bl.length bc, .slice sa sl.length sc, .slice oa ol.length oc] 38))).alloc (by first | omega | (simp; done) | (simp; omega)) _).drew)) (snaps_one sl) H63.out HBY.out (by first | omega | (simp; done) | (simp; omega)) ?_; intro g1 cap1 W1 hown1 hgrow1 hat1 hlt1; simp only [Nat.zero_add, List.nil_append] at hown1 ⊢; have hb1 : Below (w2.heap.size + 1) (w2.alloc (.cells #[.string path, .string origin, .slice ba bl.length bc, .slice sa sl.length sc, .slice oa ol.length oc] 38)) W1 := (((Below.refl _ (w2.alloc (.cells #[.string path, .string origin, .slice ba bl.length bc, .slice sa sl.length sc, .slice oa ol.length oc] 38))).alloc (by first | omega | (simp; done) | (simp; omega)) _).drew).grown hgrow1 (by first | omega | (simp; done) | (simp; omega)) (fun q hq => by injection hq; omega); have hp2 : W1.cell? ⟨w.heap.size, 2, none⟩ = some (.slice ba bl.length bc) := (hb1.cell (p := ⟨w.heap.size, 2, none⟩) (by first | omega | (simp; done) | (simp; omega))).trans (by go_simp); have hp3 : W1.cell? ⟨w.heap.size, 3, none⟩ = some (.slice sa sl.length sc) := (hb1.cell (p := ⟨w.heap.size, 3, none⟩) (by first | omega | (simp; done) | (simp; omega))).trans (by go_simp); have HM1 := Lib.hid (And.intro hb1 hown1); have hz1 : w2.heap.size + 1 ≤ W1.heap.size := (by have := hb1.size; simp at this; omega); have HZ1 := Lib.hid hz1; clear hz1 hb1 hown1 hat1 hgrow1)
      | (refine step_append_rows _ (by rfl) _ _ _ (by rfl) (w2.heap.size + 1) 42 i0 _ 5 96 Try.underlying35 HI.out.1 HI.out.2.1 HI.out.2.2.1 HI.out.2.2.2 (by rfl) (by decide)  (w2.heap.size + 1) 0 0 [] (by rfl) HOB.out sa sl.length sc (sl.flatMap cellsSnap) (by rfl) (flat_length lenSnap sl) HNONE.out (HNEWS.out _ ((((Below.refl _ (w2.alloc (.cells #[.string path, .string origin, .slice ba bl.length bc, .slice sa sl.length sc, .slice oa ol.length oc] 38))).alloc (by first | omega | (simp; done) | (simp; omega)) _).alloc (by first | omega | (simp; done) | (simp; omega)) _).drew)) (snaps_one sl) H63.out HBY.out (by first | omega | (simp; done) | (simp; omega)) ?_; intro g1 cap1 W1 hown1 hgrow1 hat1 hlt1; simp only [Nat.zero_add, List.nil_append] at hown1 ⊢; have hb1 : Below (w2.heap.size + 1) (w2.alloc (.cells #[.string path, .string origin, .slice ba bl.length bc, .slice sa sl.length sc, .slice oa ol.length oc] 38)) W1 := ((((Below.refl _ (w2.alloc (.cells #[.string path, .string origin, .slice ba bl.length bc, .slice sa sl.length sc, .slice oa ol.length oc] 38))).alloc (by first | omega | (simp; done) | (simp; omega)) _).alloc (by first | omega | (simp; done) | (simp; omega)) _).drew).grown hgrow1 (by first | omega | (simp; done) | (simp; omega)) (fun q hq => by injection hq; omega); have hp2 : W1.cell? ⟨w.heap.size, 2, none⟩ = some (.slice ba bl.length bc) := (hb1.cell (p := ⟨w.heap.size, 2, none⟩) (by first | omega | (simp; done) | (simp; omega))).trans (by go_simp); have hp3 : W1.cell? ⟨w.heap.size, 3, none⟩ = some (.slice sa sl.length sc) := (hb1.cell (p := ⟨w.heap.size, 3, none⟩) (by first | omega | (simp; done) | (simp; omega))).trans (by go_simp); have hn1 : ∀ j u, (cellsSnap (⟨name, 0, ⟨ba, bc, bl⟩, ⟨none, 0, []⟩, ⟨none, 0, []⟩⟩ : SnapD))[j]? = some u → W1.cell? ((⟨w2.heap.size + 2, 0, none⟩ : Addr).add j) = some u := news_far hgrow1 (B := w2.heap.size + 2) (cs := #[.string name, .int .i64 0, .slice ba bl.length bc, .slice none 0 0, .slice none 0 0]) (t := 42) (fr := (0, 0)) HEB.out (by first | omega | (simp; done) | (simp; omega)); have HN1 := Lib.hid hn1; clear hn1; have HM1 := Lib.hid (And.intro hb1 hown1); have hz1 : w2.heap.size + 1 ≤ W1.heap.size := (by have := hb1.size; simp at this; omega); have HZ1 := Lib.hid hz1; clear hz1 hb1 hown1 hat1 hgrow1)
      | (refine step_append_rows _ (by rfl) _ _ _ (by rfl) (w2.heap.size + 1) 42 i0 _ 5 96 Try.underlying35 HI.out.1 HI.out.2.1 HI.out.2.2.1 HI.out.2.2.2 (by rfl) (by decide)  (w2.heap.size + 2) 0 0 [] (by rfl) HOC.out sa sl.length sc (sl.flatMap cellsSnap) (by rfl) (flat_length lenSnap sl) HNONE.out (HNEWS.out _ ((((Below.refl _ (w2.alloc (.cells #[.string path, .string origin, .slice ba bl.length bc, .slice sa sl.length sc, .slice oa ol.length oc] 38))).alloc (by first | omega | (simp; done) | (simp; omega)) _).alloc (by first | omega | (simp; done) | (simp; omega)) _).drew)) (snaps_one sl) H63.out HBY.out (by first | omega | (simp; done) | (simp; omega)) ?_; intro g1 cap1 W1 hown1 hgrow1 hat1 hlt1; simp only [Nat.zero_add, List.nil_append] at hown1 ⊢; have hb1 : Below (w2.heap.size + 1) (w2.alloc (.cells #[.string path, .string origin, .slice ba bl.length bc, .slice sa sl.length sc, .slice oa ol.length oc] 38)) W1 := ((((Below.refl _ (w2.alloc (.cells #[.string path, .string origin, .slice ba bl.length bc, .slice sa sl.length sc, .slice oa ol.length oc] 38))).alloc (by first | omega | (simp; done) | (simp; omega)) _).alloc (by first | omega | (simp; done) | (simp; omega)) _).drew).grown hgrow1 (by first | omega | (simp; done) | (simp; omega)) (fun q hq => by injection hq; omega); have hp2 : W1.cell? ⟨w.heap.size, 2, none⟩ = some (.slice ba bl.length bc) := (hb1.cell (p := ⟨w.heap.size, 2, none⟩) (by first | omega | (simp; done) | (simp; omega))).trans (by go_simp); have hp3 : W1.cell? ⟨w.heap.size, 3, none⟩ = some (.slice sa sl.length sc) := (hb1.cell (p := ⟨w.heap.size, 3, none⟩) (by first | omega | (simp; done) | (simp; omega))).trans (by go_simp); have hn1 : ∀ j u, (cellsSnap (⟨name, 0, ⟨ba, bc, bl⟩, ⟨none, 0, []⟩, ⟨none, 0, []⟩⟩ : SnapD))[j]? = some u → W1.cell? ((⟨w2.heap.size + 1, 0, none⟩ : Addr).add j) = some u := news_far hgrow1 (B := w2.heap.size + 1) (cs := #[.string name, .int .i64 0, .slice ba bl.length bc, .slice none 0 0, .slice none 0 0]) (t := 42) (fr := (0, 0)) HEC.out (by first | omega | (simp; done) | (simp; omega)); have HN1 := Lib.hid hn1; clear hn1; have HM1 := Lib.hid (And.intro hb1 hown1); have hz1 : w2.heap.size + 1 ≤ W1.heap.size := (by have := hb1.size; simp at this; omega); have HZ1 := Lib.hid hz1; clear hz1 hb1 hown1 hat1 hgrow1)
      | (refine step_append_rows _ (by rfl) _ _ _ (by rfl) (w2.heap.size + 1) 42 i0 _ 5 96 Try.underlying35 HI.out.1 HI.out.2.1 HI.out.2.2.1 HI.out.2.2.2 (by rfl) (by decide)  g1 cap1 sl.length (sl.flatMap cellsSnap) (by rfl) (HM1.out.2.alloc _) (some ⟨W1.heap.size, 0, none⟩) 1 1 (cellsSnap (⟨name, 0, ⟨ba, bc, bl⟩, ⟨none, 0, []⟩, ⟨none, 0, []⟩⟩ : SnapD)) (by rfl) (by rfl) (fun e => by cases e) (fun ad e => by cases e; exact World.news_of_block (cs := #[.string name, .int .i64 0, .slice ba bl.length bc, .slice none 0 0, .slice none 0 0]) (t := 42) (fr := (0, 0)) (heap_alloc_new W1 _)) (snap_one _) H64.out HBZ.out (Nat.le_trans HZ1.out (Nat.le_of_lt (by first | omega | (simp; done) | (simp; omega)))) ?_; intro g2 cap2 W3 hown2 hgrow2 hat2 hlt2; have hb3 : Below (w2.heap.size + 1) (w2.alloc (.cells #[.string path, .string origin, .slice ba bl.length bc, .slice sa sl.length sc, .slice oa ol.length oc] 38)) W3 := (HM1.out.1.alloc HZ1.out _).grown hgrow2 (Nat.le_trans HZ1.out (Nat.le_of_lt (by first | omega | (simp; done) | (simp; omega)))) (fun q hq => by injection hq with hq; rw [← hq]; exact (owned_cell HM1.out.2).1); have hq3 : W3.cell? ⟨w2.heap.size, 3, none⟩ = some (.slice sa sl.length sc) := (hb3.cell (p := ⟨w2.heap.size, 3, none⟩) (by first | omega | (simp; done) | (simp; omega))).trans (by go_simp); have hf3 : W3.frozen? ⟨w2.heap.size, 3, none⟩ = false := (hb3.frozen (p := ⟨w2.heap.size, 3, none⟩) (by first | omega | (simp; done) | (simp; omega))).trans (by first | go_simp | simp [World.frozen?, World.alloc]); clear hp2 hp3; have hp2 : W3.cell? ⟨w.heap.size, 2, none⟩ = some (.slice ba bl.length bc) := (hb3.cell (p := ⟨w.heap.size, 2, none⟩) (by first | omega | (simp; done) | (simp; omega))).trans (by go_simp); have hp3 : W3.cell? ⟨w.heap.size, 3, none⟩ = some (.slice sa sl.length sc) := (hb3.cell (p := ⟨w.heap.size, 3, none⟩) (by first | omega | (simp; done) | (simp; omega))).trans (by go_simp); have HM3 := Lib.hid (And.intro hb3 hown2); clear hb3 hown2 hat2 hgrow2)
      | (refine step_append_rows _ (by rfl) _ _ _ (by rfl) (w2.heap.size + 1) 42 i0 _ 5 96 Try.underlying35 HI.out.1 HI.out.2.1 HI.out.2.2.1 HI.out.2.2.2 (by rfl) (by decide)  g1 cap1 sl.length (sl.flatMap cellsSnap) (by rfl) HM1.out.2 (some ⟨w2.heap.size + 2, 0, none⟩) 1 1 (cellsSnap (⟨name, 0, ⟨ba, bc, bl⟩, ⟨none, 0, []⟩, ⟨none, 0, []⟩⟩ : SnapD)) (by rfl) (by rfl) (fun e => by cases e) (fun ad e => by cases e; exact HN1.out) (snap_one _) H64.out HBZ.out HZ1.out ?_; intro g2 cap2 W3 hown2 hgrow2 hat2 hlt2; have hb3 : Below (w2.heap.size + 1) (w2.alloc (.cells #[.string path, .string origin, .slice ba bl.length bc, .slice sa sl.length sc, .slice oa ol.length oc] 38)) W3 := (HM1.out.1).grown hgrow2 HZ1.out (fun q hq => by injection hq with hq; rw [← hq]; exact (owned_cell HM1.out.2).1); have hq3 : W3.cell? ⟨w2.heap.size, 3, none⟩ = some (.slice sa sl.length sc) := (hb3.cell (p := ⟨w2.heap.size, 3, none⟩) (by first | omega | (simp; done) | (simp; omega))).trans (by go_simp); have hf3 : W3.frozen? ⟨w2.heap.size, 3, none⟩ = false := (hb3.frozen (p := ⟨w2.heap.size, 3, none⟩) (by first | omega | (simp; done) | (simp; omega))).trans (by first | go_simp | simp [World.frozen?, World.alloc]); clear hp2 hp3; have hp2 : W3.cell? ⟨w.heap.size, 2, none⟩ = some (.slice ba bl.length bc) := (hb3.cell (p := ⟨w.heap.size, 2, none⟩) (by first | omega | (simp; done) | (simp; omega))).trans (by go_simp); have hp3 : W3.cell? ⟨w.heap.size, 3, none⟩ = some (.slice sa sl.length sc) := (hb3.cell (p := ⟨w.heap.size, 3, none⟩) (by first | omega | (simp; done) | (simp; omega))).trans (by go_simp); have HM3 := Lib.hid (And.intro hb3 hown2); clear hb3 hown2 hat2 hgrow2)
      | (refine step_append_rows _ (by rfl) _ _ _ (by rfl) (w2.heap.size + 1) 42 i0 _ 5 96 Try.underlying35 HI.out.1 HI.out.2.1 HI.out.2.2.1 HI.out.2.2.2 (by rfl) (by decide)  g1 cap1 sl.length (sl.flatMap cellsSnap) (by rfl) HM1.out.2 (some ⟨w2.heap.size + 1, 0, none⟩) 1 1 (cellsSnap (⟨name, 0, ⟨ba, bc, bl⟩, ⟨none, 0, []⟩, ⟨none, 0, []⟩⟩ : SnapD)) (by rfl) (by rfl) (fun e => by cases e) (fun ad e => by cases e; exact HN1.out) (snap_one _) H64.out HBZ.out HZ1.out ?_; intro g2 cap2 W3 hown2 hgrow2 hat2 hlt2; have hb3 : Below (w2.heap.size + 1) (w2.alloc (.cells #[.string path, .string origin, .slice ba bl.length bc, .slice sa sl.length sc, .slice oa ol.length oc] 38)) W3 := (HM1.out.1).grown hgrow2 HZ1.out (fun q hq => by injection hq with hq; rw [← hq]; exact (owned_cell HM1.out.2).1); have hq3 : W3.cell? ⟨w2.heap.size, 3, none⟩ = some (.slice sa sl.length sc) := (hb3.cell (p := ⟨w2.heap.size, 3, none⟩) (by first | omega | (simp; done) | (simp; omega))).trans (by go_simp); have hf3 : W3.frozen? ⟨w2.heap.size, 3, none⟩ = false := (hb3.frozen (p := ⟨w2.heap.size, 3, none⟩) (by first | omega | (simp; done) | (simp; omega))).trans (by first | go_simp | simp [World.frozen?, World.alloc]); clear hp2 hp3; have hp2 : W3.cell? ⟨w.heap.size, 2, none⟩ = some (.slice ba bl.length bc) := (hb3.cell (p := ⟨w.heap.size, 2, none⟩) (by first | omega | (simp; done) | (simp; omega))).trans (by go_simp); have hp3 : W3.cell? ⟨w.heap.size, 3, none⟩ = some (.slice sa sl.length sc) := (hb3.cell (p := ⟨w.heap.size, 3, none⟩) (by first | omega | (simp; done) | (simp; omega))).trans (by go_simp); have HM3 := Lib.hid (And.intro hb3 hown2); clear hb3 hown2 hat2 hgrow2)
      | (fail "no arm"))
  all_goals
    have HQ := Lib.hid (QD.start HX.out hname HBZ.out HB2.out.below gz c2 HM3.out.1 HM3.out.2)
    clear HOA HOB HOC HEB HEC HKP HM1 HZ1 HM3 hlt1 hlt2 hq3 hf3 hp2 hp3 HN1 HNEWS HNONE H63 H64 HBY HBZ HI HB0 HB2 gne gne' c0 c1 c2 c3 c4
    try clear hHeld
    generalize W3.setCell ⟨w2.heap.size, 3, none⟩ (.slice (some ⟨g2, 0, none⟩) (sl.length + 1) cap2) = W4 at *
    have hCh := fun W hW => Changed_any (snapped ⟨path, origin, ⟨ba, bc, bl⟩, ⟨sa, sc, sl⟩, ⟨oa, oc, ol⟩⟩ name (some ⟨g2, 0, none⟩) cap2) W (okSet_below HQ.out.ok hW)
    have hSt := fun W hW => Set_any (snapped ⟨path, origin, ⟨ba, bc, bl⟩, ⟨sa, sc, sl⟩, ⟨oa, oc, ol⟩⟩ name (some ⟨g2, 0, none⟩) cap2) W (okSet_below HQ.out.ok hW)
    have hwr := snapped_wrap ⟨path, origin, ⟨ba, bc, bl⟩, ⟨sa, sc, sl⟩, ⟨oa, oc, ol⟩⟩ name (some ⟨g2, 0, none⟩) cap2
    simp only [snapped_changed] at hCh
    have hA := HQ.out.at'
    generalize wrap64 (setChg (snapped ⟨path, origin, ⟨ba, bc, bl⟩, ⟨sa, sc, sl⟩, ⟨oa, oc, ol⟩⟩ name (some ⟨g2, 0, none⟩) cap2)) = v2 at *
    generalize wrap64 (setChg ⟨path, origin, ⟨ba, bc, bl⟩, ⟨sa, sc, sl⟩, ⟨oa, oc, ol⟩⟩) = v1 at *
    have hd : IntKind.i64.wrap (IntKind.i64.wrap (v1 + 1) + (bl.length : Int)) = v2 := by rw [i64_wrap, i64_wrap]; exact hwr.symm
    simp only [snapped, List.length_append, List.length_singleton] at hCh hSt hA
    have HCh := Lib.hid hCh
    have HSt := Lib.hid hSt
    have HA := Lib.hid hA
    clear hCh hSt hA hwr
    go_wp2_with fail
    refine region_C (by kernel_rfl) (by kernel_rfl) (Cls.start HA.out) ?_
    repeat (first | go_big_quiet_skip | (go_big_quiet_want; (first | (apply q_val; (· (rintro w' ⟨hA, -⟩; have c0 := hA.hd; have c1 := hA.tl.hd; have c2 := hA.tl.tl.hd; have c3 := hA.tl.tl.tl.hd; have c4 := hA.tl.tl.tl.tl.hd; have c5 := hA.tl.tl.tl.tl.tl.hd; clear hA; go_simp; try rfl))) | (apply q_call 24; (· (rintro w' ⟨hA, -⟩; have c0 := hA.hd; have c1 := hA.tl.hd; have c2 := hA.tl.tl.hd; have c3 := hA.tl.tl.tl.hd; have c4 := hA.tl.tl.tl.tl.hd; have c5 := hA.tl.tl.tl.tl.tl.hd; clear hA; go_simp; try rfl)); (· (intro w' hC; exact (HCh.out _ hC.2).mono (fun e w'' h => ⟨h.1, hC.later h.2⟩)))) | (apply q_call 23; (· (rintro w' ⟨hA, -⟩; have c0 := hA.hd; have c1 := hA.tl.hd; have c2 := hA.tl.tl.hd; have c3 := hA.tl.tl.tl.hd; have c4 := hA.tl.tl.tl.tl.hd; have c5 := hA.tl.tl.tl.tl.tl.hd; clear hA; go_simp; try rfl)); (· (intro w' hC; exact (HSt.out _ hC.2).mono (fun e w'' h => ⟨h.1, hC.later h.2⟩))))); simp only [Act.put, List.setIfInBounds_toArray, List.set_cons_zero, List.set_cons_succ]; go_big_quiet_on))
    refine wpQuiet_nil ?_
    intro w5 hC5
    have HB5 := Lib.hid (HQ.out.below.trans (hC5.2.mono HQ.out.below.size))
    clear hC5
    go_wp2_with fail
    go_ret
    exact ⟨rfl, HB5.out⟩

set_option maxRecDepth 100000 in
theorem lifted (os : Os) (started : os.Started) (H : Type) (enc : TypeId × Value → H) :
    ReturnsInHanded {} Try.checked os 5 .any (Rows.usageSnapsSpec.pre6 enc Try.prog Try.f5 Rows.usageSnapsRow.domain false) (Rows.usageSnapsSpec.post enc Try.prog Try.f5 false true false false) := by
  refine returnsInHanded_of_change_sized (C := Try.checked) own started (by kernel_rfl) Try.func5
    (ChangeSpec.witness6 (enc := enc) (C := Try.checked) false ⟨#[], #[.agg #[.string .empty, .string .empty, .slice none 0 0, .slice none 0 0, .slice none 0 0], .string .empty], []⟩ 8 (by kernel_rfl) (by kernel_rfl) (by kernel_rfl) (by kernel_rfl)) ?_
  intro W base args ds gs before hval0 hW hcnd hsz _
  have hval : ∀ (j : Nat) t v, Try.f5.params[j]? = some t → args[j]? = some v → Value.okWide Try.prog W .any base t v := hval0
  have hW' := hW
  obtain ⟨p, q, hA0, hV, rfl, hfz, hnd⟩ := hW
  have hA : DataW.TrodAll enc Try.prog W 0 (fun _ => true) true Try.f5.params.toList args.toList ds p := hA0
  rw [Try.params5] at hA hval
  obtain ⟨v0, vs0, d0, ds0, p0, q0, hargs, rfl, rfl, h0, r0⟩ := trodAll_cons hA
  obtain ⟨v1, vs1, d1, ds1, p1, q1, rfl, rfl, rfl, h1, r1⟩ := trodAll_cons r0
  obtain ⟨rfl, rfl, rfl⟩ := trodAll_nil r1
  obtain rfl : args = #[v0, v1] := by cases args; simp_all
  obtain ⟨rfl, rfl⟩ := trodVars_none hV
  have k0 := h0
  have lt0 : ∀ x ∈ p0, x.block < W.heap.size := by obtain ⟨m, hm⟩ := k0; exact DataW.trod_lt m _ _ _ hm
  have hwt := fun n hn => of_decide_eq_true (List.all_eq_true.1 hsz n hn)
  have h0' := h0
  obtain ⟨x0, rfl, o0, b0⟩ := agg_in reads_Set (let ⟨cs, hc, _⟩ := okWide_struct Try.underlying38 (hval 0 38 v0 rfl rfl); ⟨cs, hc⟩) h0 (fun n hn => (hwt n (DataW.weights_mem_each (j := 0) rfl rfl n hn)))
  have hsh : x0.snaps.l.length * 96 ≤ 140737488351232 := set_sharp h0' (fun n hn => (hwt n (DataW.weights_mem_each (j := 0) rfl rfl n hn)))
  have k1 := h1
  have lt1 : ∀ x ∈ p1, x.block < W.heap.size := by obtain ⟨m, hm⟩ := k1; exact DataW.trod_lt m _ _ _ hm
  obtain ⟨x1, rfl, o1, b1⟩ := str_in (okWide_string Try.underlying9 (hval 1 9 v1 rfl rfl)) h1 (fun n hn => (hwt n (DataW.weights_mem_each (j := 1) rfl rfl n hn)))
  clear hA0 hval0
  refine (walk x0 x1 o1 W o0 hsh).mono fun e W' ⟨he, bel⟩ => ?_
  subst he
  exact ⟨_, rfl, _, _, _, [], _, [], hW', trodAll_mk1 (shut_bool Try.underlying4 _), (trodAll_cons_mk (Below.trod laidOut (by kernel_rfl) (of_decide_eq_true (by kernel_rfl)) k0 bel lt0) (trodAll_cons_mk (Below.trod laidOut (by kernel_rfl) (of_decide_eq_true (by kernel_rfl)) k1 bel lt1) trodAll_mk0)), rfl, bel.frame _, fun h => by cases h⟩

theorem over : Rows.usageSnapsRow.holds Try.pinned (OpenSpec.ofChange Rows.usageSnapsSpec) :=
  OpenClaim.holds_of_wide 5 Try.f5 rfl rfl rfl rfl rfl rfl rfl ⟨rfl, rfl, rfl, rfl, rfl⟩ rfl rfl rfl rfl rfl (by kernel_rfl) Try.func5 (by kernel_rfl)
    (of_decide_eq_true (by kernel_rfl)) (by unfold Func.isWrapper; first | (rw [if_pos (by decide +kernel)]; kernel_rfl) | (rw [if_neg (by decide +kernel)]; exact ⟨rfl, rfl⟩))
    (fun os started H enc _ => lifted os started H enc)

/-- THE STATEMENT -/
theorem proved : Rows.UsageSnapsSaid := over
#print axioms proved
end Go.Proofs.Ytbkghiaafkmapaa.usageSnaps
