/- godownlaw15.UsageUnique answers true for every set and every number. No condition. -/
import Derived.Test.YtbkghiaafkmapaaAlive15
import Derived.Test.YtbkghiaafkmapaaRefU
namespace Go.Proofs.Ytbkghiaafkmapaa.usageUnique
open Go.ChangeShapes Go.WideShapes Go.ChangeAt Go.RowKit

theorem missN_inAny {ll : List (SliceV BlockD)} {l : List BlockD} (h : ∀ x ∈ l, inAny ll x = true) : missN ll l = 0 := by
  induction l with
  | nil => rfl
  | cons x l ih =>
    rw [missN, h x (List.mem_cons_self ..), ih fun y hy => h y (List.mem_cons_of_mem _ hy)]
    rfl
theorem sameB_refl (x : BlockD) : sameB x x = true := by simp [sameB]
theorem hasB_of_same {a b : List BlockD} (h : sameL a b = true) : ∀ x ∈ b, hasB a x = true := by
  simp only [sameL, Bool.and_eq_true, beq_iff_eq] at h
  obtain ⟨hl, hz⟩ := h
  induction a generalizing b with
  | nil =>
    have : b = [] := List.eq_nil_of_length_eq_zero (by simpa using hl.symm)
    subst this
    intro x hx
    cases hx
  | cons y a ih =>
    cases b with
    | nil => intro x hx; cases hx
    | cons z b =>
      simp only [List.zip_cons_cons, List.all_cons, Bool.and_eq_true] at hz
      intro x hx
      rcases List.mem_cons.1 hx with rfl | hx
      · simp only [hasB, List.any_cons, hz.1, Bool.true_or]
      · have := ih (by simpa using hl) hz.2 x hx
        simp only [hasB, List.any_cons] at this ⊢
        rw [this, Bool.or_true]

set_option maxHeartbeats 1000000 in
theorem walk (x : SetD) (i : Int) (hir : InR i) (w : World) (hx : okSet w x) :
    Calls Try.prog 6 #[.agg #[.string x.path, .string x.origin, .slice x.body.a x.body.l.length x.body.c, .slice x.snaps.a x.snaps.l.length x.snaps.c, .slice x.own.a x.own.l.length x.own.c], .int .i64 i] w fun e w' => e = .returned (.bool true) ∧ Below w.heap.size w w' := by
  have hUq := fun (W : World) (hB : Below w.heap.size w W) => Unique_any x i hir W (okSet_below hx hB)
  obtain ⟨path, origin, ⟨ba, bc, bl⟩, ⟨sa, sc, sl⟩, ⟨oa, oc, ol⟩⟩ := x
  obtain ⟨-, -, hb, hs, -⟩ := hx
  have hsl := IsSl.len hs
  have hbl := IsSl.len hb
  dsimp only at hb hs hsl hbl hUq ⊢
  by_cases h0 : i < 0 ∨ (sl.length : Int) ≤ i
  · have e : uniqueN ⟨path, origin, ⟨ba, bc, bl⟩, ⟨sa, sc, sl⟩, ⟨oa, oc, ol⟩⟩ i = 0 := by
      by_cases h : i < 0
      · simp only [uniqueN, if_pos h]
      · simp only [uniqueN, if_neg h, uniqAt, List.getElem?_eq_none (show sl.length ≤ i.toNat by omega)]
    simp only [e] at hUq
    have HU := Lib.hid hUq
    clear hUq e
    go_enter Try.func6, Try.ntmps6
    go_wp2_with fail
    refine (alive15 _).mono ?_
    rintro e w1 ⟨rfl, hb1⟩
    have HB1 := Lib.hid (((Below.refl w.heap.size w).alloc (Nat.le_refl _) (.cells #[.string path, .string origin, .slice ba bl.length bc, .slice sa sl.length sc, .slice oa ol.length oc] 38)).trans (hb1.mono (by simp)))
    have c0 : w1.cell? ⟨w.heap.size, 0, none⟩ = some (.string path) := by rw [hb1.cell (p := ⟨w.heap.size, 0, none⟩) (by simp)]; go_simp
    have c1 : w1.cell? ⟨w.heap.size, 1, none⟩ = some (.string origin) := by rw [hb1.cell (p := ⟨w.heap.size, 1, none⟩) (by simp)]; go_simp
    have c2 : w1.cell? ⟨w.heap.size, 2, none⟩ = some (.slice ba bl.length bc) := by rw [hb1.cell (p := ⟨w.heap.size, 2, none⟩) (by simp)]; go_simp
    have c3 : w1.cell? ⟨w.heap.size, 3, none⟩ = some (.slice sa sl.length sc) := by rw [hb1.cell (p := ⟨w.heap.size, 3, none⟩) (by simp)]; go_simp
    have c4 : w1.cell? ⟨w.heap.size, 4, none⟩ = some (.slice oa ol.length oc) := by rw [hb1.cell (p := ⟨w.heap.size, 4, none⟩) (by simp)]; go_simp
    have hz1 : w.heap.size < w1.heap.size := by have := hb1.size; simp at this; omega
    clear hb1
    go_wp2_with fail
    refine (HU.out _ HB1.out).mono ?_
    rintro e w2 ⟨rfl, hb2⟩
    have HB2 := Lib.hid (HB1.out.trans (hb2.mono HB1.out.size))
    have d3 : w2.cell? ⟨w.heap.size, 3, none⟩ = some (.slice sa sl.length sc) := by rw [hb2.cell (p := ⟨w.heap.size, 3, none⟩) hz1]; exact c3
    clear hb2 c0 c1 c2 c3 c4
    by_cases hi : i < 0
    · have hd : decide (i < 0) = true := decide_eq_true hi
      go_wp2_with fail
      go_ret
      exact ⟨rfl, HB2.out⟩
    · have hd : decide (i < 0) = false := decide_eq_false hi
      have hd2 : decide ((sl.length : Int) ≤ i) = true := decide_eq_true (by omega)
      go_wp2_with fail
      go_ret
      exact ⟨rfl, HB2.out⟩
  · obtain ⟨k, rfl⟩ := Int.eq_ofNat_of_zero_le (show 0 ≤ i by omega)
    have hk : k < sl.length := by omega
    have e : uniqueN ⟨path, origin, ⟨ba, bc, bl⟩, ⟨sa, sc, sl⟩, ⟨oa, oc, ol⟩⟩ (k : Int) = uniqAt ⟨ba, bc, bl⟩ sl k := by simp only [uniqueN, if_neg (show ¬ ((k : Int) < 0) by omega), Int.toNat_natCast]
    simp only [e] at hUq
    clear e
    obtain ⟨y, b, off, hy, hya, hbs, -, -, hy2, -, -, hyo⟩ := hs.get hk
    have hu : uniqAt ⟨ba, bc, bl⟩ sl k = missN [aheadOf sl k, behindOf ⟨ba, bc, bl⟩ sl k] y.body.l := by simp only [uniqAt, hy]
    have hle : uniqAt ⟨ba, bc, bl⟩ sl k ≤ y.body.l.length := by rw [hu]; exact missN_le _ _
    have hzero : sameL (behindOf ⟨ba, bc, bl⟩ sl k).l y.body.l = true → uniqAt ⟨ba, bc, bl⟩ sl k = 0 := fun hsm => by
      rw [hu]
      exact missN_inAny fun x hx => by rw [inAny_two, hasB_of_same hsm x hx, Bool.or_true]
    have hyb : IsBlocks w y.body := hyo.2.2.1
    obtain ⟨yn, yg, ⟨ya, yc, yl⟩, yt, yw⟩ := y
    dsimp only at hy2 hyb hle hzero hu
    have hyl := IsSl.len hyb
    dsimp only at hyl
    subst hya
    clear hu hy hyo h0
    generalize uniqAt ⟨ba, bc, bl⟩ sl k = u at *
    have hd : decide ((k : Int) < 0) = false := decide_eq_false (by omega)
    have hd2 : decide ((sl.length : Int) ≤ (k : Int)) = false := decide_eq_false (by omega)
    have hd2n : decide (sl.length ≤ k) = false := decide_eq_false (by omega)
    have hd3 : decide ((0 : Int) ≤ (u : Int)) = true := decide_eq_true (by omega)
    have hd4 : decide ((u : Int) ≤ (yl.length : Int)) = true := decide_eq_true (by omega)
    have hd4n : decide (u ≤ yl.length) = true := decide_eq_true hle
    have HU := Lib.hid hUq
    have HZ := Lib.hid hzero
    have HYB := Lib.hid hyb
    have HSN := Lib.hid hs
    have HBB := Lib.hid hb
    clear hUq hzero hyb hs hb
    by_cases h1 : k + 1 < sl.length
    · obtain ⟨q, b'', off'', hq, hqa, -, -, -, hq2, -, -, hqo⟩ := HSN.out.get h1
      obtain ⟨rfl, rfl⟩ : b = b'' ∧ off = off'' := by simpa using hqa
      clear hqa
      have eb : behindOf ⟨ba, bc, bl⟩ sl k = q.body := by simp only [behindOf, hq]
      rw [eb] at HZ
      have hqb : IsBlocks w q.body := hqo.2.2.1
      obtain ⟨qn, qg, ⟨qa, qc, ql⟩, qt, qw⟩ := q
      dsimp only at hq2 hqb HZ
      have HC : Hid (∀ W, Below w.heap.size w W → Calls Try.prog 26 #[.slice qa ql.length qc, .slice ya yl.length yc] W fun e w' => e = .returned (.bool (sameL ql yl)) ∧ Below W.heap.size W w') := fun W hB => same_any qa ya qc yc ql yl W (hqb.below hB) (HYB.out.below hB)
      have hd5 : decide ((k : Int) + 1 < (sl.length : Int)) = true := decide_eq_true (by omega)
      have hd5' : (k : Int) + 1 < (sl.length : Int) := by omega
      have hk2 : ((k : Int) + 1).toNat = k + 1 := by omega
      clear hq hqo hqb eb
      go_enter Try.func6, Try.ntmps6
      go_wp2_with fail
      refine (alive15 _).mono ?_
      rintro e w1 ⟨rfl, hb1⟩
      have HB1 := Lib.hid (((Below.refl w.heap.size w).alloc (Nat.le_refl _) (.cells #[.string path, .string origin, .slice ba bl.length bc, .slice (some ⟨b, off, none⟩) sl.length sc, .slice oa ol.length oc] 38)).trans (hb1.mono (by simp)))
      have c0 : w1.cell? ⟨w.heap.size, 0, none⟩ = some (.string path) := by rw [hb1.cell (p := ⟨w.heap.size, 0, none⟩) (by simp)]; go_simp
      have c1 : w1.cell? ⟨w.heap.size, 1, none⟩ = some (.string origin) := by rw [hb1.cell (p := ⟨w.heap.size, 1, none⟩) (by simp)]; go_simp
      have c2 : w1.cell? ⟨w.heap.size, 2, none⟩ = some (.slice ba bl.length bc) := by rw [hb1.cell (p := ⟨w.heap.size, 2, none⟩) (by simp)]; go_simp
      have c3 : w1.cell? ⟨w.heap.size, 3, none⟩ = some (.slice (some ⟨b, off, none⟩) sl.length sc) := by rw [hb1.cell (p := ⟨w.heap.size, 3, none⟩) (by simp)]; go_simp
      have c4 : w1.cell? ⟨w.heap.size, 4, none⟩ = some (.slice oa ol.length oc) := by rw [hb1.cell (p := ⟨w.heap.size, 4, none⟩) (by simp)]; go_simp
      have hz1 : w.heap.size < w1.heap.size := by have := hb1.size; simp at this; omega
      clear hb1
      go_wp2_with fail
      refine (HU.out _ HB1.out).mono ?_
      rintro e w2 ⟨rfl, hb2⟩
      have HB2 := Lib.hid (HB1.out.trans (hb2.mono HB1.out.size))
      have d2 : w2.cell? ⟨w.heap.size, 2, none⟩ = some (.slice ba bl.length bc) := by rw [hb2.cell (p := ⟨w.heap.size, 2, none⟩) hz1]; exact c2
      have d3 : w2.cell? ⟨w.heap.size, 3, none⟩ = some (.slice (some ⟨b, off, none⟩) sl.length sc) := by rw [hb2.cell (p := ⟨w.heap.size, 3, none⟩) hz1]; exact c3
      have dy : w2.cell? ⟨b, off + k * 5 + 2, none⟩ = some (.slice ya yl.length yc) := by rw [HB2.out.cell (p := ⟨b, off + k * 5 + 2, none⟩) hbs]; exact hy2
      have dq : w2.cell? ⟨b, off + (k + 1) * 5 + 2, none⟩ = some (.slice qa ql.length qc) := by rw [HB2.out.cell (p := ⟨b, off + (k + 1) * 5 + 2, none⟩) hbs]; exact hq2
      clear hb2 c0 c1 c2 c3 c4
      cases hsm : sameL ql yl
      · rw [hsm] at HC
        clear hsm
        go_wp2_with fail
        refine (HC.out _ HB2.out).mono ?_
        rintro e w3 ⟨rfl, hb3⟩
        have HB3 := Lib.hid (HB2.out.trans (hb3.mono HB2.out.size))
        clear hb3
        go_wp2_with fail
        go_ret
        exact ⟨rfl, HB3.out⟩
      · rw [hsm] at HC
        have hu0 : ((u : Int) == 0) = true := by rw [HZ.out hsm]; rfl
        clear hsm
        go_wp2_with fail
        refine (HC.out _ HB2.out).mono ?_
        rintro e w3 ⟨rfl, hb3⟩
        have HB3 := Lib.hid (HB2.out.trans (hb3.mono HB2.out.size))
        clear hb3
        go_wp2_with fail
        go_ret
        exact ⟨rfl, HB3.out⟩
    · have eb : behindOf ⟨ba, bc, bl⟩ sl k = ⟨ba, bc, bl⟩ := by simp only [behindOf, List.getElem?_eq_none (show sl.length ≤ k + 1 by omega)]
      rw [eb] at HZ
      dsimp only at HZ
      have HC : Hid (∀ W, Below w.heap.size w W → Calls Try.prog 26 #[.slice ba bl.length bc, .slice ya yl.length yc] W fun e w' => e = .returned (.bool (sameL bl yl)) ∧ Below W.heap.size W w') := fun W hB => same_any ba ya bc yc bl yl W (HBB.out.below hB) (HYB.out.below hB)
      have hd5 : decide ((k : Int) + 1 < (sl.length : Int)) = false := decide_eq_false (by omega)
      have hd5' : (sl.length : Int) ≤ (k : Int) + 1 := by omega
      clear eb
      go_enter Try.func6, Try.ntmps6
      go_wp2_with fail
      refine (alive15 _).mono ?_
      rintro e w1 ⟨rfl, hb1⟩
      have HB1 := Lib.hid (((Below.refl w.heap.size w).alloc (Nat.le_refl _) (.cells #[.string path, .string origin, .slice ba bl.length bc, .slice (some ⟨b, off, none⟩) sl.length sc, .slice oa ol.length oc] 38)).trans (hb1.mono (by simp)))
      have c0 : w1.cell? ⟨w.heap.size, 0, none⟩ = some (.string path) := by rw [hb1.cell (p := ⟨w.heap.size, 0, none⟩) (by simp)]; go_simp
      have c1 : w1.cell? ⟨w.heap.size, 1, none⟩ = some (.string origin) := by rw [hb1.cell (p := ⟨w.heap.size, 1, none⟩) (by simp)]; go_simp
      have c2 : w1.cell? ⟨w.heap.size, 2, none⟩ = some (.slice ba bl.length bc) := by rw [hb1.cell (p := ⟨w.heap.size, 2, none⟩) (by simp)]; go_simp
      have c3 : w1.cell? ⟨w.heap.size, 3, none⟩ = some (.slice (some ⟨b, off, none⟩) sl.length sc) := by rw [hb1.cell (p := ⟨w.heap.size, 3, none⟩) (by simp)]; go_simp
      have c4 : w1.cell? ⟨w.heap.size, 4, none⟩ = some (.slice oa ol.length oc) := by rw [hb1.cell (p := ⟨w.heap.size, 4, none⟩) (by simp)]; go_simp
      have hz1 : w.heap.size < w1.heap.size := by have := hb1.size; simp at this; omega
      clear hb1
      go_wp2_with fail
      refine (HU.out _ HB1.out).mono ?_
      rintro e w2 ⟨rfl, hb2⟩
      have HB2 := Lib.hid (HB1.out.trans (hb2.mono HB1.out.size))
      have d2 : w2.cell? ⟨w.heap.size, 2, none⟩ = some (.slice ba bl.length bc) := by rw [hb2.cell (p := ⟨w.heap.size, 2, none⟩) hz1]; exact c2
      have d3 : w2.cell? ⟨w.heap.size, 3, none⟩ = some (.slice (some ⟨b, off, none⟩) sl.length sc) := by rw [hb2.cell (p := ⟨w.heap.size, 3, none⟩) hz1]; exact c3
      have dy : w2.cell? ⟨b, off + k * 5 + 2, none⟩ = some (.slice ya yl.length yc) := by rw [HB2.out.cell (p := ⟨b, off + k * 5 + 2, none⟩) hbs]; exact hy2
      clear hb2 c0 c1 c2 c3 c4
      cases hsm : sameL bl yl
      · rw [hsm] at HC
        clear hsm
        go_wp2_with fail
        refine (HC.out _ HB2.out).mono ?_
        rintro e w3 ⟨rfl, hb3⟩
        have HB3 := Lib.hid (HB2.out.trans (hb3.mono HB2.out.size))
        clear hb3
        go_wp2_with fail
        go_ret
        exact ⟨rfl, HB3.out⟩
      · rw [hsm] at HC
        have hu0 : ((u : Int) == 0) = true := by rw [HZ.out hsm]; rfl
        clear hsm
        go_wp2_with fail
        refine (HC.out _ HB2.out).mono ?_
        rintro e w3 ⟨rfl, hb3⟩
        have HB3 := Lib.hid (HB2.out.trans (hb3.mono HB2.out.size))
        clear hb3
        go_wp2_with fail
        go_ret
        exact ⟨rfl, HB3.out⟩

set_option maxRecDepth 100000 in
theorem lifted (os : Os) (started : os.Started) (H : Type) (enc : TypeId × Value → H) :
    ReturnsInHanded {} Try.checked os 6 .any (Rows.usageUniqueSpec.pre6 enc Try.prog Try.f6 Rows.usageUniqueRow.domain false) (Rows.usageUniqueSpec.post enc Try.prog Try.f6 false true false false) := by
  refine returnsInHanded_of_change_sized (C := Try.checked) own started (by kernel_rfl) Try.func6
    (ChangeSpec.witness6 (enc := enc) (C := Try.checked) false ⟨#[], #[.agg #[.string .empty, .string .empty, .slice none 0 0, .slice none 0 0, .slice none 0 0], .int .i64 0], []⟩ 8 (by kernel_rfl) (by kernel_rfl) (by kernel_rfl) (by kernel_rfl)) ?_
  intro W base args ds gs before hval0 hW hcnd hsz _
  have hval : ∀ (j : Nat) t v, Try.f6.params[j]? = some t → args[j]? = some v → Value.okWide Try.prog W .any base t v := hval0
  have hW' := hW
  obtain ⟨p, q, hA0, hV, rfl, hfz, hnd⟩ := hW
  have hA : DataW.TrodAll enc Try.prog W 0 (fun _ => true) true Try.f6.params.toList args.toList ds p := hA0
  rw [Try.params6] at hA hval
  obtain ⟨v0, vs0, d0, ds0, p0, q0, hargs, rfl, rfl, h0, r0⟩ := trodAll_cons hA
  obtain ⟨v1, vs1, d1, ds1, p1, q1, rfl, rfl, rfl, h1, r1⟩ := trodAll_cons r0
  obtain ⟨rfl, rfl, rfl⟩ := trodAll_nil r1
  obtain rfl : args = #[v0, v1] := by cases args; simp_all
  obtain ⟨rfl, rfl⟩ := trodVars_none hV
  have k0 := h0
  have lt0 : ∀ x ∈ p0, x.block < W.heap.size := by obtain ⟨m, hm⟩ := k0; exact DataW.trod_lt m _ _ _ hm
  have hwt := fun n hn => of_decide_eq_true (List.all_eq_true.1 hsz n hn)
  obtain ⟨x0, rfl, o0, b0⟩ := agg_in reads_Set (let ⟨cs, hc, _⟩ := okWide_struct Try.underlying38 (hval 0 38 v0 rfl rfl); ⟨cs, hc⟩) h0 (fun n hn => (hwt n (DataW.weights_mem_each (j := 0) rfl rfl n hn)))
  obtain ⟨a1, rfl, rfl, rfl, w1⟩ := open_int Try.underlying3 (hval 1 3 v1 rfl rfl) h1
  clear hA0 hval0
  refine (walk x0 a1 (inR_of_wf w1) W o0).mono fun e W' ⟨he, bel⟩ => ?_
  subst he
  exact ⟨_, rfl, _, _, _, [], _, [], hW', trodAll_mk1 (shut_bool Try.underlying4 _), (trodAll_cons_mk (Below.trod laidOut (by kernel_rfl) (of_decide_eq_true (by kernel_rfl)) k0 bel lt0) (trodAll_cons_mk (shut_int Try.underlying3 w1) trodAll_mk0)), rfl, bel.frame _, fun h => by cases h⟩

theorem over : Rows.usageUniqueRow.holds Try.pinned (OpenSpec.ofChange Rows.usageUniqueSpec) :=
  OpenClaim.holds_of_wide 6 Try.f6 rfl rfl rfl rfl rfl rfl rfl ⟨rfl, rfl, rfl, rfl, rfl⟩ rfl rfl rfl rfl rfl (by kernel_rfl) Try.func6 (by kernel_rfl)
    (of_decide_eq_true (by kernel_rfl)) (by unfold Func.isWrapper; first | (rw [if_pos (by decide +kernel)]; kernel_rfl) | (rw [if_neg (by decide +kernel)]; exact ⟨rfl, rfl⟩))
    (fun os started H enc _ => lifted os started H enc)

/-- THE STATEMENT -/
theorem proved : Rows.UsageUniqueSaid := over
#print axioms proved
end Go.Proofs.Ytbkghiaafkmapaa.usageUnique
