/- What the lists and structs that come in read as, type by type: the cells of each element, its strings' and lists' sizes, kept where below the heap's old size nothing has turned. Printed by a program (wip/gen_data.py). No condition. -/
import Derived.Test.YtbkghiaafkmapaaBase
import Derived.SizedLaws
namespace Go.Proofs.Ytbkghiaafkmapaa
open Go.ChangeShapes Go.WideShapes Go.ChangeAt Go.RowKit

/-- a slice's value: '.slice a l.length c', and what its elements read as -/
structure SliceV (α : Type) where
  a : Option Addr
  c : Nat
  l : List α

/-- 'm' cells an element, 'by' bytes -/
structure IsSl {α : Type} (cells : α → List Value) (ok : World → α → Prop) (m by_ : Nat) (w : World) (s : SliceV α) : Prop where
  len : s.l.length * by_ ≤ 140737488355328
  at' : ∀ (i : Nat) (x : α), s.l[i]? = some x → (∃ b off, s.a = some ⟨b, off, none⟩ ∧ b < w.heap.size ∧ ∀ (j : Nat) (v : Value), (cells x)[j]? = some v → w.cell? ⟨b, off + i * m + j, none⟩ = some v) ∧ ok w x

theorem IsSl.below {α : Type} {cells : α → List Value} {ok : World → α → Prop} {m by_ : Nat} {w w' : World} {s : SliceV α} (h : IsSl cells ok m by_ w s) (hb : Below w.heap.size w w')
    (hok : ∀ x, ok w x → ok w' x) : IsSl cells ok m by_ w' s := by
  refine ⟨h.len, fun i x hi => ?_⟩
  obtain ⟨⟨b, off, e, hlt, hc⟩, ho⟩ := h.at' i x hi
  refine ⟨⟨b, off, e, Nat.lt_of_lt_of_le hlt hb.size, fun j v hj => ?_⟩, hok x ho⟩
  rw [hb.cell (p := ⟨b, off + i * m + j, none⟩) hlt]
  exact hc j v hj

def SliceV.bulk {α : Type} (f : α → Nat) (s : SliceV α) : Nat := (s.l.map f).sum + 1

/-- a string's length is within the reach -/
def okStr (s : ByteArray) : Prop := s.size ≤ 140737488355328
def bulkStr (s : ByteArray) : Nat := s.size + 1

section
variable {H : Type} {enc : TypeId × Value → H} {w : World} {base : Nat} {spare : Nat → Bool} {held : Bool}

/-- what a reader of one type gives -/
def Reads {α : Type} (enc : TypeId × Value → H) (w : World) (base : Nat) (spare : Nat → Bool) (held : Bool) (t : TypeId) (cells : α → List Value) (ok : World → α → Prop) (bulk : α → Nat) : Prop :=
  ∀ (fuel : Nat) (cs : List Value) (y : DataW H × List MemPlace), DataW.trod enc Try.prog w base spare held fuel t cs = some y → (∀ n ∈ y.1.weights Try.prog t, n ≤ reachBytes) → ∃ d : α, cs = cells d ∧ ok w d ∧ bulk d ≤ Rows.uptoBulk y.1

theorem bulkAll_map {H : Type} {α : Type} (f : Nat → DataW H) (g : Nat → α) (bulk : α → Nat) : ∀ (n : Nat), (∀ i, i < n → bulk (g i) ≤ Rows.uptoBulk (f i)) → (((List.range n).map g).map bulk).sum ≤ Rows.uptoBulkAll ((List.range n).map f) := by
  have app : ∀ (l r : List (DataW H)), Rows.uptoBulkAll (l ++ r) = Rows.uptoBulkAll l + Rows.uptoBulkAll r := by
    intro l r
    induction l with
    | nil => simp [Rows.uptoBulkAll]
    | cons x l ih => simp only [List.cons_append, Rows.uptoBulkAll, ih]; omega
  intro n
  induction n with
  | zero => intro _; simp [Rows.uptoBulkAll]
  | succ n ih =>
    intro h
    have h1 := ih (fun i hi => h i (by omega))
    have h2 := h n (by omega)
    rw [List.range_succ]
    simp only [List.map_append, List.map_cons, List.map_nil, List.sum_append, List.sum_cons, List.sum_nil, app, Rows.uptoBulkAll]
    omega

theorem mem_weightsAll {P : Program} {e : TypeId} {l : List (DataW H)} {d : DataW H} (hd : d ∈ l) : ∀ n ∈ d.weights P e, n ∈ DataW.weightsAll P e l := by
  induction l with
  | nil => cases hd
  | cons x l ih =>
    intro n hn
    simp only [DataW.weightsAll, List.mem_append]
    cases List.mem_cons.1 hd with
    | inl h => subst h; exact .inl hn
    | inr h => exact .inr (ih h n hn)

/-- a slice, by its elements' reader -/
theorem reads_slice {α : Type} [Inhabited α] {t e : TypeId} {cells : α → List Value} {ok : World → α → Prop} {bulk : α → Nat} {m by_ : Nat} (ht : Try.prog.underlying t = some (.slice e)) (hc : Try.prog.cellsOf e = m) (hm0 : 0 < m) (hby : Try.prog.bytesOf e = by_)
    (hlen : ∀ d, (cells d).length = m) (hel : Reads enc w base spare held e cells ok bulk) :
    Reads enc w base spare held t (fun s : SliceV α => [.slice s.a s.l.length s.c]) (fun w s => IsSl cells ok m by_ w s) (SliceV.bulk bulk) := by
  intro fuel cs y h hwt
  rcases Go.Deep.open_slice ht h with ⟨rfl, rfl⟩ | ⟨a, len, cap, mm, n, Dt, Pl, rfl, hb, hl, hmx, hmm, rfl, hx⟩
  · exact ⟨⟨none, 0, []⟩, rfl, ⟨by simp, fun i x hi => by simp at hi⟩, by simp [SliceV.bulk, Rows.uptoBulk]⟩
  · have hle : len ≤ mm := by rw [hmm]; split <;> omega
    have hw0 : (len + (mm - len)) * by_ ≤ reachBytes := by
      refine hwt _ ?_
      simp only [DataW.weights, ht, List.length_map, List.length_range, hby]
      exact List.mem_cons_self ..
    have hwe : ∀ i, i < len → ∀ n ∈ (Dt i).weights Try.prog e, n ≤ reachBytes := fun i hi n hn => by
      refine hwt n ?_
      simp only [DataW.weights, ht]
      refine List.mem_cons_of_mem _ (List.mem_append.2 (.inl (mem_weightsAll (List.mem_map.2 ⟨i, List.mem_range.2 hi, rfl⟩) n hn)))
    obtain ⟨g, hg⟩ := Go.Deep.choose_lt (α := α) (n := len) (p := fun i d => (w.cells? base (a.add (i * m)) m = some (cells d)) ∧ ok w d ∧ bulk d ≤ Rows.uptoBulk (Dt i)) (fun i hi => by
      obtain ⟨cs', h1, h2⟩ := hx i (by omega)
      obtain ⟨d, rfl, hd2, hd3⟩ := hel n cs' _ h2 (hwe i hi)
      rw [hc] at h1
      exact ⟨d, h1, hd2, hd3⟩)
    have hll : ((List.range len).map g).length = len := by simp
    refine ⟨⟨some a, cap, (List.range len).map g⟩, by simp, ⟨?_, fun i x hi => ?_⟩, ?_⟩
    · simp only [hll]
      have : len * by_ ≤ (len + (mm - len)) * by_ := Nat.mul_le_mul_right _ (by omega)
      have h2 : reachBytes = 140737488351232 := rfl
      omega
    · have hil : i < len := by
        have := (List.getElem?_eq_some_iff.1 hi).1
        simpa using this
      have hgx : x = g i := by simpa [hil] using hi.symm
      subst hgx
      obtain ⟨h1, h2, _⟩ := hg i hil
      obtain ⟨_, _, hat⟩ := World.cells?_some h1
      obtain ⟨b, off, spot⟩ := a
      have h0 := hat 0 hm0
      have hcl := hlen (g i)
      rw [List.getElem?_eq_getElem (by omega)] at h0
      have hspot : spot = none := by
        obtain ⟨_, _, hat0⟩ := World.cells?_some (hg 0 (by omega)).1
        have h00 := hat0 0 hm0
        have hcl0 := hlen (g 0)
        rw [List.getElem?_eq_getElem (by omega)] at h00
        simpa [Addr.add] using World.cell?_spot h00
      subst hspot
      refine ⟨⟨b, off, rfl, ?_, fun j v hj => ?_⟩, h2⟩
      · have := World.block_lt_of_cell? _ _ h0
        by_cases hz : i * m = 0 <;> simpa [Addr.add, hz] using this
      · have hjm : j < m := by rw [← hcl]; exact (List.getElem?_eq_some_iff.1 hj).1
        have := hat j hjm
        rw [hj, Go.Deep.add_add, Go.WideShapes.add_plain] at this
        rw [← this, Nat.add_assoc]
    · have := bulkAll_map Dt g bulk len (fun i hi => (hg i hi).2.2)
      simp only [SliceV.bulk, Rows.uptoBulk]
      omega

theorem reads_int {t : TypeId} (ht : Try.prog.underlying t = some (.int .i64)) : Reads enc w base spare held t (fun n : Int => [.int .i64 n]) (fun _ n => InR n) (fun _ => 1) := by
  intro fuel cs y h _
  obtain ⟨n, rfl, rfl, hw⟩ := DataW.trod_int ht h
  exact ⟨n, rfl, inR_of_wf hw, by simp [Rows.uptoBulk]⟩

theorem reads_u64 {t : TypeId} (ht : Try.prog.underlying t = some (.int .u64)) : Reads enc w base spare held t (fun n : Int => [.int .u64 n]) (fun _ n => 0 ≤ n ∧ n ≤ 18446744073709551615) (fun _ => 1) := by
  intro fuel cs y h _
  obtain ⟨n, rfl, rfl, hw⟩ := DataW.trod_int ht h
  have hx : 0 ≤ n ∧ n ≤ 18446744073709551615 := by simpa [Lit.wf, IntKind.min, IntKind.max, IntKind.signed, IntKind.bits] using hw
  exact ⟨n, rfl, hx, by simp [Rows.uptoBulk]⟩

theorem reads_bool {t : TypeId} (ht : Try.prog.underlying t = some .bool) : Reads enc w base spare held t (fun b : Bool => [.bool b]) (fun _ _ => True) (fun _ => 1) := by
  intro fuel cs y h _
  obtain ⟨b, rfl, rfl⟩ := DataW.trod_bool ht h
  exact ⟨b, rfl, trivial, by simp [Rows.uptoBulk]⟩

theorem reads_str {t : TypeId} (ht : Try.prog.underlying t = some .string) : Reads enc w base spare held t (fun s : ByteArray => [.string s]) (fun _ s => okStr s) bulkStr := by
  intro fuel cs y h hwt
  obtain ⟨s, rfl, rfl, hm⟩ := DataW.trod_string ht h
  have e : s.data.toList.length = s.size := by rw [Array.length_toList]; rfl
  refine ⟨s, rfl, ?_, by simp only [bulkStr, Rows.uptoBulk]; omega⟩
  have := hwt s.data.toList.length (by simp [DataW.weights])
  rw [e] at this
  have h2 : reachBytes = 140737488351232 := rfl
  unfold okStr
  omega

/-- a struct: its fields' readings, one by one -/
theorem struct_parts {t : TypeId} {fs : Array Field} {fuel : Nat} {cs : List Value} {y : DataW H × List MemPlace} (ht : Try.prog.underlying t = some (.struct fs)) (h : DataW.trod enc Try.prog w base spare held fuel t cs = some y)
    (hwt : ∀ n ∈ y.1.weights Try.prog t, n ≤ reachBytes) :
    ∃ (ys : List (DataW H × List MemPlace)) (n : Nat), y.1 = .agg (ys.map (·.1)) ∧ cs.length = Try.prog.cellsOf t ∧ ys.length = fs.size ∧
      ∀ (i : Nat) (f : Field), fs[i]? = some f → ∃ z, ys[i]? = some z ∧ DataW.trod enc Try.prog w base spare held n f.type ((cs.drop f.offset).take (Try.prog.cellsOf f.type)) = some z ∧ ∀ k ∈ z.1.weights Try.prog f.type, k ≤ reachBytes := by
  obtain ⟨xs, n, _, rfl, hcl, hxl, hf⟩ := DataW.trod_struct ht h
  refine ⟨xs, n, rfl, hcl, hxl, fun i f hi => ?_⟩
  have hlt : i < xs.length := by rw [hxl]; exact (Array.getElem?_eq_some_iff.1 hi).1
  refine ⟨xs[i], List.getElem?_eq_getElem hlt, by rw [hf i f hi, List.getElem?_eq_getElem hlt], fun k hk => hwt k ?_⟩
  simp only [DataW.weights, ht]
  refine DataW.weights_mem_each (j := i) (t := f.type) (d := xs[i].1) ?_ ?_ k hk
  · simp [List.getElem?_map, hi]
  · simp [List.getElem?_map, List.getElem?_eq_getElem hlt]

end

theorem cells3 : Try.prog.cellsOf 3 = 1 := by kernel_rfl
theorem cells4 : Try.prog.cellsOf 4 = 1 := by kernel_rfl
theorem cells9 : Try.prog.cellsOf 9 = 1 := by kernel_rfl
theorem cells61 : Try.prog.cellsOf 61 = 1 := by kernel_rfl
theorem cells23 : Try.prog.cellsOf 23 = 1 := by kernel_rfl
theorem cells34 : Try.prog.cellsOf 34 = 1 := by kernel_rfl
theorem cells35 : Try.prog.cellsOf 35 = 1 := by kernel_rfl
theorem cells36 : Try.prog.cellsOf 36 = 1 := by kernel_rfl
theorem cells40 : Try.prog.cellsOf 40 = 1 := by kernel_rfl
theorem cells48 : Try.prog.cellsOf 48 = 1 := by kernel_rfl
theorem cells49 : Try.prog.cellsOf 49 = 1 := by kernel_rfl
theorem cells50 : Try.prog.cellsOf 50 = 1 := by kernel_rfl
theorem cells51 : Try.prog.cellsOf 51 = 1 := by kernel_rfl
theorem cells70 : Try.prog.cellsOf 70 = 1 := by kernel_rfl
theorem cells79 : Try.prog.cellsOf 79 = 1 := by kernel_rfl
theorem cells94 : Try.prog.cellsOf 94 = 2 := by kernel_rfl
theorem bytes94 : Try.prog.bytesOf 94 = 24 := by kernel_rfl
theorem cells121 : Try.prog.cellsOf 121 = 2 := by kernel_rfl
theorem bytes121 : Try.prog.bytesOf 121 = 32 := by kernel_rfl
theorem cells42 : Try.prog.cellsOf 42 = 5 := by kernel_rfl
theorem bytes42 : Try.prog.bytesOf 42 = 96 := by kernel_rfl
theorem cells38 : Try.prog.cellsOf 38 = 5 := by kernel_rfl
theorem bytes38 : Try.prog.bytesOf 38 = 104 := by kernel_rfl
theorem cells129 : Try.prog.cellsOf 129 = 3 := by kernel_rfl
theorem bytes129 : Try.prog.bytesOf 129 = 40 := by kernel_rfl
theorem cells112 : Try.prog.cellsOf 112 = 4 := by kernel_rfl
theorem bytes112 : Try.prog.bytesOf 112 = 48 := by kernel_rfl
theorem cells63 : Try.prog.cellsOf 63 = 4 := by kernel_rfl
theorem bytes63 : Try.prog.bytesOf 63 = 32 := by kernel_rfl
theorem cells65 : Try.prog.cellsOf 65 = 12 := by kernel_rfl
theorem bytes65 : Try.prog.bytesOf 65 = 128 := by kernel_rfl
theorem cells67 : Try.prog.cellsOf 67 = 21 := by kernel_rfl
theorem bytes67 : Try.prog.bytesOf 67 = 224 := by kernel_rfl
theorem cells53 : Try.prog.cellsOf 53 = 7 := by kernel_rfl
theorem bytes53 : Try.prog.bytesOf 53 = 128 := by kernel_rfl
theorem cells72 : Try.prog.cellsOf 72 = 4 := by kernel_rfl
theorem bytes72 : Try.prog.bytesOf 72 = 80 := by kernel_rfl
theorem cells59 : Try.prog.cellsOf 59 = 6 := by kernel_rfl
theorem bytes59 : Try.prog.bytesOf 59 = 56 := by kernel_rfl
theorem len2 {α : Type} {l : List α} (h : l.length = 2) : ∃ a0 a1, l = [a0, a1] := by
  match l, h with
  | [a0, a1], _ => exact ⟨_, _, rfl⟩
theorem len3 {α : Type} {l : List α} (h : l.length = 3) : ∃ a0 a1 a2, l = [a0, a1, a2] := by
  match l, h with
  | [a0, a1, a2], _ => exact ⟨_, _, _, rfl⟩
theorem len4 {α : Type} {l : List α} (h : l.length = 4) : ∃ a0 a1 a2 a3, l = [a0, a1, a2, a3] := by
  match l, h with
  | [a0, a1, a2, a3], _ => exact ⟨_, _, _, _, rfl⟩
theorem len5 {α : Type} {l : List α} (h : l.length = 5) : ∃ a0 a1 a2 a3 a4, l = [a0, a1, a2, a3, a4] := by
  match l, h with
  | [a0, a1, a2, a3, a4], _ => exact ⟨_, _, _, _, _, rfl⟩
theorem len6 {α : Type} {l : List α} (h : l.length = 6) : ∃ a0 a1 a2 a3 a4 a5, l = [a0, a1, a2, a3, a4, a5] := by
  match l, h with
  | [a0, a1, a2, a3, a4, a5], _ => exact ⟨_, _, _, _, _, _, rfl⟩
theorem len7 {α : Type} {l : List α} (h : l.length = 7) : ∃ a0 a1 a2 a3 a4 a5 a6, l = [a0, a1, a2, a3, a4, a5, a6] := by
  match l, h with
  | [a0, a1, a2, a3, a4, a5, a6], _ => exact ⟨_, _, _, _, _, _, _, rfl⟩
theorem len9 {α : Type} {l : List α} (h : l.length = 9) : ∃ a0 a1 a2 a3 a4 a5 a6 a7 a8, l = [a0, a1, a2, a3, a4, a5, a6, a7, a8] := by
  match l, h with
  | [a0, a1, a2, a3, a4, a5, a6, a7, a8], _ => exact ⟨_, _, _, _, _, _, _, _, _, rfl⟩
theorem len12 {α : Type} {l : List α} (h : l.length = 12) : ∃ a0 a1 a2 a3 a4 a5 a6 a7 a8 a9 a10 a11, l = [a0, a1, a2, a3, a4, a5, a6, a7, a8, a9, a10, a11] := by
  match l, h with
  | [a0, a1, a2, a3, a4, a5, a6, a7, a8, a9, a10, a11], _ => exact ⟨_, _, _, _, _, _, _, _, _, _, _, _, rfl⟩
theorem len21 {α : Type} {l : List α} (h : l.length = 21) : ∃ a0 a1 a2 a3 a4 a5 a6 a7 a8 a9 a10 a11 a12 a13 a14 a15 a16 a17 a18 a19 a20, l = [a0, a1, a2, a3, a4, a5, a6, a7, a8, a9, a10, a11, a12, a13, a14, a15, a16, a17, a18, a19, a20] := by
  match l, h with
  | [a0, a1, a2, a3, a4, a5, a6, a7, a8, a9, a10, a11, a12, a13, a14, a15, a16, a17, a18, a19, a20], _ => exact ⟨_, _, _, _, _, _, _, _, _, _, _, _, _, _, _, _, _, _, _, _, _, rfl⟩
theorem bytes9 : Try.prog.bytesOf 9 = 16 := by kernel_rfl
theorem bytes3 : Try.prog.bytesOf 3 = 8 := by kernel_rfl

/-- []string -/
def IsStrs (w : World) (s : SliceV ByteArray) : Prop := IsSl (fun s : ByteArray => [.string s]) (fun _ s => okStr s) 1 16 w s
theorem IsStrs.below {w w' : World} {s : SliceV ByteArray} (h : IsStrs w s) (hb : Below w.heap.size w w') : IsStrs w' s := IsSl.below h hb (fun _ h => h)

theorem reads_Strs {H : Type} {enc : TypeId × Value → H} {w : World} {base : Nat} {spare : Nat → Bool} {held : Bool} : Reads enc w base spare held 40 (fun s : SliceV ByteArray => [.slice s.a s.l.length s.c]) (fun w s => IsStrs w s) (SliceV.bulk bulkStr) :=
  reads_slice (α := ByteArray) Try.underlying40 cells9 (by decide) bytes9 (fun _ => rfl) (reads_str Try.underlying9)

/-- Block -/
structure BlockD where
  idx : Int
  data : ByteArray
instance : Inhabited BlockD := ⟨⟨0, .empty⟩⟩
def cellsBlock (x : BlockD) : List Value := [.int .i64 x.idx, .string x.data]
theorem cellsBlock_at {x : BlockD} : (cellsBlock x)[0]? = some (.int .i64 x.idx) ∧ (cellsBlock x)[1]? = some (.string x.data) := ⟨rfl, rfl⟩
def okBlock (_w : World) (x : BlockD) : Prop := InR x.idx ∧ okStr x.data
def bulkBlock (x : BlockD) : Nat := 1 + bulkStr x.data + 1
theorem okBlock_below {w w' : World} {x : BlockD} (h : okBlock w x) (_hb : Below w.heap.size w w') : okBlock w' x := by
  obtain ⟨h0, h1⟩ := h
  exact ⟨h0, h1⟩
theorem reads_Block {H : Type} {enc : TypeId × Value → H} {w : World} {base : Nat} {spare : Nat → Bool} {held : Bool} : Reads enc w base spare held 94 cellsBlock okBlock bulkBlock := by
  intro fuel cs y h hwt
  obtain ⟨ys, n, hy, hcl, hyl, hf⟩ := struct_parts Try.underlying94 h hwt
  rw [cells94] at hcl
  obtain ⟨c0, c1, rfl⟩ := len2 hcl
  obtain ⟨z0, z1, rfl⟩ := len2 (show ys.length = 2 from hyl)
  obtain ⟨z, hz, g0, e0⟩ := hf 0 _ rfl
  obtain rfl : z0 = z := by simpa using hz
  have g0' : DataW.trod enc Try.prog w base spare held n 3 (([c0, c1].drop 0).take (Try.prog.cellsOf 3)) = some z0 := g0
  rw [cells3] at g0'
  obtain ⟨x0, u0, o0, b0⟩ := reads_int Try.underlying3 _ _ _ (show DataW.trod enc Try.prog w base spare held n 3 [c0] = some z0 from g0') e0
  obtain ⟨z, hz, g1, e1⟩ := hf 1 _ rfl
  obtain rfl : z1 = z := by simpa using hz
  have g1' : DataW.trod enc Try.prog w base spare held n 9 (([c0, c1].drop 1).take (Try.prog.cellsOf 9)) = some z1 := g1
  rw [cells9] at g1'
  obtain ⟨x1, u1, o1, b1⟩ := reads_str Try.underlying9 _ _ _ (show DataW.trod enc Try.prog w base spare held n 9 [c1] = some z1 from g1') e1
  dsimp only at b0
  refine ⟨⟨x0, x1⟩, ?_, ⟨o0, o1⟩, ?_⟩
  · simp [cellsBlock] at u0 u1 ⊢
    simp [*]
  · rw [hy]
    simp only [bulkBlock, Rows.uptoBulk, Rows.uptoBulkAll, List.map_cons, List.map_nil]
    omega

/-- []Block -/
def IsBlocks (w : World) (s : SliceV BlockD) : Prop := IsSl cellsBlock okBlock 2 24 w s
theorem IsBlocks.below {w w' : World} {s : SliceV BlockD} (h : IsBlocks w s) (hb : Below w.heap.size w w') : IsBlocks w' s := IsSl.below h hb (fun _ h => okBlock_below h hb)
theorem reads_Blocks {H : Type} {enc : TypeId × Value → H} {w : World} {base : Nat} {spare : Nat → Bool} {held : Bool} : Reads enc w base spare held 34 (fun s : SliceV BlockD => [.slice s.a s.l.length s.c]) (fun w s => IsBlocks w s) (SliceV.bulk bulkBlock) :=
  reads_slice (α := BlockD) Try.underlying34 cells94 (by decide) bytes94 (fun _ => rfl) reads_Block

/-- Prop -/
structure PropD where
  name : ByteArray
  value : ByteArray
instance : Inhabited PropD := ⟨⟨.empty, .empty⟩⟩
def cellsProp (x : PropD) : List Value := [.string x.name, .string x.value]
theorem cellsProp_at {x : PropD} : (cellsProp x)[0]? = some (.string x.name) ∧ (cellsProp x)[1]? = some (.string x.value) := ⟨rfl, rfl⟩
def okProp (_w : World) (x : PropD) : Prop := okStr x.name ∧ okStr x.value
def bulkProp (x : PropD) : Nat := bulkStr x.name + bulkStr x.value + 1
theorem okProp_below {w w' : World} {x : PropD} (h : okProp w x) (_hb : Below w.heap.size w w') : okProp w' x := by
  obtain ⟨h0, h1⟩ := h
  exact ⟨h0, h1⟩
theorem reads_Prop {H : Type} {enc : TypeId × Value → H} {w : World} {base : Nat} {spare : Nat → Bool} {held : Bool} : Reads enc w base spare held 121 cellsProp okProp bulkProp := by
  intro fuel cs y h hwt
  obtain ⟨ys, n, hy, hcl, hyl, hf⟩ := struct_parts Try.underlying121 h hwt
  rw [cells121] at hcl
  obtain ⟨c0, c1, rfl⟩ := len2 hcl
  obtain ⟨z0, z1, rfl⟩ := len2 (show ys.length = 2 from hyl)
  obtain ⟨z, hz, g0, e0⟩ := hf 0 _ rfl
  obtain rfl : z0 = z := by simpa using hz
  have g0' : DataW.trod enc Try.prog w base spare held n 9 (([c0, c1].drop 0).take (Try.prog.cellsOf 9)) = some z0 := g0
  rw [cells9] at g0'
  obtain ⟨x0, u0, o0, b0⟩ := reads_str Try.underlying9 _ _ _ (show DataW.trod enc Try.prog w base spare held n 9 [c0] = some z0 from g0') e0
  obtain ⟨z, hz, g1, e1⟩ := hf 1 _ rfl
  obtain rfl : z1 = z := by simpa using hz
  have g1' : DataW.trod enc Try.prog w base spare held n 9 (([c0, c1].drop 1).take (Try.prog.cellsOf 9)) = some z1 := g1
  rw [cells9] at g1'
  obtain ⟨x1, u1, o1, b1⟩ := reads_str Try.underlying9 _ _ _ (show DataW.trod enc Try.prog w base spare held n 9 [c1] = some z1 from g1') e1
  refine ⟨⟨x0, x1⟩, ?_, ⟨o0, o1⟩, ?_⟩
  · simp [cellsProp] at u0 u1 ⊢
    simp [*]
  · rw [hy]
    simp only [bulkProp, Rows.uptoBulk, Rows.uptoBulkAll, List.map_cons, List.map_nil]
    omega

/-- []Prop -/
def IsProps (w : World) (s : SliceV PropD) : Prop := IsSl cellsProp okProp 2 32 w s
theorem IsProps.below {w w' : World} {s : SliceV PropD} (h : IsProps w s) (hb : Below w.heap.size w w') : IsProps w' s := IsSl.below h hb (fun _ h => okProp_below h hb)
theorem reads_Props {H : Type} {enc : TypeId × Value → H} {w : World} {base : Nat} {spare : Nat → Bool} {held : Bool} : Reads enc w base spare held 36 (fun s : SliceV PropD => [.slice s.a s.l.length s.c]) (fun w s => IsProps w s) (SliceV.bulk bulkProp) :=
  reads_slice (α := PropD) Try.underlying36 cells121 (by decide) bytes121 (fun _ => rfl) reads_Prop

/-- Snap -/
structure SnapD where
  name : ByteArray
  guid : Int
  body : SliceV BlockD
  tags : SliceV ByteArray
  own : SliceV PropD
instance : Inhabited SnapD := ⟨⟨.empty, 0, ⟨none, 0, []⟩, ⟨none, 0, []⟩, ⟨none, 0, []⟩⟩⟩
def cellsSnap (x : SnapD) : List Value := [.string x.name, .int .i64 x.guid, .slice x.body.a x.body.l.length x.body.c, .slice x.tags.a x.tags.l.length x.tags.c, .slice x.own.a x.own.l.length x.own.c]
theorem cellsSnap_at {x : SnapD} : (cellsSnap x)[0]? = some (.string x.name) ∧ (cellsSnap x)[1]? = some (.int .i64 x.guid) ∧ (cellsSnap x)[2]? = some (.slice x.body.a x.body.l.length x.body.c) ∧ (cellsSnap x)[3]? = some (.slice x.tags.a x.tags.l.length x.tags.c) ∧ (cellsSnap x)[4]? = some (.slice x.own.a x.own.l.length x.own.c) := ⟨rfl, rfl, rfl, rfl, rfl⟩
def okSnap (w : World) (x : SnapD) : Prop := okStr x.name ∧ InR x.guid ∧ IsBlocks w x.body ∧ IsStrs w x.tags ∧ IsProps w x.own
def bulkSnap (x : SnapD) : Nat := bulkStr x.name + 1 + x.body.bulk bulkBlock + x.tags.bulk bulkStr + x.own.bulk bulkProp + 1
theorem okSnap_below {w w' : World} {x : SnapD} (h : okSnap w x) (hb : Below w.heap.size w w') : okSnap w' x := by
  obtain ⟨h0, h1, h2, h3, h4⟩ := h
  exact ⟨h0, h1, h2.below hb, h3.below hb, h4.below hb⟩
theorem reads_Snap {H : Type} {enc : TypeId × Value → H} {w : World} {base : Nat} {spare : Nat → Bool} {held : Bool} : Reads enc w base spare held 42 cellsSnap okSnap bulkSnap := by
  intro fuel cs y h hwt
  obtain ⟨ys, n, hy, hcl, hyl, hf⟩ := struct_parts Try.underlying42 h hwt
  rw [cells42] at hcl
  obtain ⟨c0, c1, c2, c3, c4, rfl⟩ := len5 hcl
  obtain ⟨z0, z1, z2, z3, z4, rfl⟩ := len5 (show ys.length = 5 from hyl)
  obtain ⟨z, hz, g0, e0⟩ := hf 0 _ rfl
  obtain rfl : z0 = z := by simpa using hz
  have g0' : DataW.trod enc Try.prog w base spare held n 9 (([c0, c1, c2, c3, c4].drop 0).take (Try.prog.cellsOf 9)) = some z0 := g0
  rw [cells9] at g0'
  obtain ⟨x0, u0, o0, b0⟩ := reads_str Try.underlying9 _ _ _ (show DataW.trod enc Try.prog w base spare held n 9 [c0] = some z0 from g0') e0
  obtain ⟨z, hz, g1, e1⟩ := hf 1 _ rfl
  obtain rfl : z1 = z := by simpa using hz
  have g1' : DataW.trod enc Try.prog w base spare held n 3 (([c0, c1, c2, c3, c4].drop 1).take (Try.prog.cellsOf 3)) = some z1 := g1
  rw [cells3] at g1'
  obtain ⟨x1, u1, o1, b1⟩ := reads_int Try.underlying3 _ _ _ (show DataW.trod enc Try.prog w base spare held n 3 [c1] = some z1 from g1') e1
  obtain ⟨z, hz, g2, e2⟩ := hf 2 _ rfl
  obtain rfl : z2 = z := by simpa using hz
  have g2' : DataW.trod enc Try.prog w base spare held n 34 (([c0, c1, c2, c3, c4].drop 2).take (Try.prog.cellsOf 34)) = some z2 := g2
  rw [cells34] at g2'
  obtain ⟨x2, u2, o2, b2⟩ := reads_Blocks _ _ _ (show DataW.trod enc Try.prog w base spare held n 34 [c2] = some z2 from g2') e2
  obtain ⟨z, hz, g3, e3⟩ := hf 3 _ rfl
  obtain rfl : z3 = z := by simpa using hz
  have g3' : DataW.trod enc Try.prog w base spare held n 40 (([c0, c1, c2, c3, c4].drop 3).take (Try.prog.cellsOf 40)) = some z3 := g3
  rw [cells40] at g3'
  obtain ⟨x3, u3, o3, b3⟩ := reads_Strs _ _ _ (show DataW.trod enc Try.prog w base spare held n 40 [c3] = some z3 from g3') e3
  obtain ⟨z, hz, g4, e4⟩ := hf 4 _ rfl
  obtain rfl : z4 = z := by simpa using hz
  have g4' : DataW.trod enc Try.prog w base spare held n 36 (([c0, c1, c2, c3, c4].drop 4).take (Try.prog.cellsOf 36)) = some z4 := g4
  rw [cells36] at g4'
  obtain ⟨x4, u4, o4, b4⟩ := reads_Props _ _ _ (show DataW.trod enc Try.prog w base spare held n 36 [c4] = some z4 from g4') e4
  dsimp only at b1
  refine ⟨⟨x0, x1, x2, x3, x4⟩, ?_, ⟨o0, o1, o2, o3, o4⟩, ?_⟩
  · simp [cellsSnap] at u0 u1 u2 u3 u4 ⊢
    simp [*]
  · rw [hy]
    simp only [bulkSnap, Rows.uptoBulk, Rows.uptoBulkAll, List.map_cons, List.map_nil]
    omega

/-- []Snap -/
def IsSnaps (w : World) (s : SliceV SnapD) : Prop := IsSl cellsSnap okSnap 5 96 w s
theorem IsSnaps.below {w w' : World} {s : SliceV SnapD} (h : IsSnaps w s) (hb : Below w.heap.size w w') : IsSnaps w' s := IsSl.below h hb (fun _ h => okSnap_below h hb)
theorem reads_Snaps {H : Type} {enc : TypeId × Value → H} {w : World} {base : Nat} {spare : Nat → Bool} {held : Bool} : Reads enc w base spare held 35 (fun s : SliceV SnapD => [.slice s.a s.l.length s.c]) (fun w s => IsSnaps w s) (SliceV.bulk bulkSnap) :=
  reads_slice (α := SnapD) Try.underlying35 cells42 (by decide) bytes42 (fun _ => rfl) reads_Snap

/-- Set -/
structure SetD where
  path : ByteArray
  origin : ByteArray
  body : SliceV BlockD
  snaps : SliceV SnapD
  own : SliceV PropD
instance : Inhabited SetD := ⟨⟨.empty, .empty, ⟨none, 0, []⟩, ⟨none, 0, []⟩, ⟨none, 0, []⟩⟩⟩
def cellsSet (x : SetD) : List Value := [.string x.path, .string x.origin, .slice x.body.a x.body.l.length x.body.c, .slice x.snaps.a x.snaps.l.length x.snaps.c, .slice x.own.a x.own.l.length x.own.c]
theorem cellsSet_at {x : SetD} : (cellsSet x)[0]? = some (.string x.path) ∧ (cellsSet x)[1]? = some (.string x.origin) ∧ (cellsSet x)[2]? = some (.slice x.body.a x.body.l.length x.body.c) ∧ (cellsSet x)[3]? = some (.slice x.snaps.a x.snaps.l.length x.snaps.c) ∧ (cellsSet x)[4]? = some (.slice x.own.a x.own.l.length x.own.c) := ⟨rfl, rfl, rfl, rfl, rfl⟩
def okSet (w : World) (x : SetD) : Prop := okStr x.path ∧ okStr x.origin ∧ IsBlocks w x.body ∧ IsSnaps w x.snaps ∧ IsProps w x.own
def bulkSet (x : SetD) : Nat := bulkStr x.path + bulkStr x.origin + x.body.bulk bulkBlock + x.snaps.bulk bulkSnap + x.own.bulk bulkProp + 1
theorem okSet_below {w w' : World} {x : SetD} (h : okSet w x) (hb : Below w.heap.size w w') : okSet w' x := by
  obtain ⟨h0, h1, h2, h3, h4⟩ := h
  exact ⟨h0, h1, h2.below hb, h3.below hb, h4.below hb⟩
theorem reads_Set {H : Type} {enc : TypeId × Value → H} {w : World} {base : Nat} {spare : Nat → Bool} {held : Bool} : Reads enc w base spare held 38 cellsSet okSet bulkSet := by
  intro fuel cs y h hwt
  obtain ⟨ys, n, hy, hcl, hyl, hf⟩ := struct_parts Try.underlying38 h hwt
  rw [cells38] at hcl
  obtain ⟨c0, c1, c2, c3, c4, rfl⟩ := len5 hcl
  obtain ⟨z0, z1, z2, z3, z4, rfl⟩ := len5 (show ys.length = 5 from hyl)
  obtain ⟨z, hz, g0, e0⟩ := hf 0 _ rfl
  obtain rfl : z0 = z := by simpa using hz
  have g0' : DataW.trod enc Try.prog w base spare held n 9 (([c0, c1, c2, c3, c4].drop 0).take (Try.prog.cellsOf 9)) = some z0 := g0
  rw [cells9] at g0'
  obtain ⟨x0, u0, o0, b0⟩ := reads_str Try.underlying9 _ _ _ (show DataW.trod enc Try.prog w base spare held n 9 [c0] = some z0 from g0') e0
  obtain ⟨z, hz, g1, e1⟩ := hf 1 _ rfl
  obtain rfl : z1 = z := by simpa using hz
  have g1' : DataW.trod enc Try.prog w base spare held n 9 (([c0, c1, c2, c3, c4].drop 1).take (Try.prog.cellsOf 9)) = some z1 := g1
  rw [cells9] at g1'
  obtain ⟨x1, u1, o1, b1⟩ := reads_str Try.underlying9 _ _ _ (show DataW.trod enc Try.prog w base spare held n 9 [c1] = some z1 from g1') e1
  obtain ⟨z, hz, g2, e2⟩ := hf 2 _ rfl
  obtain rfl : z2 = z := by simpa using hz
  have g2' : DataW.trod enc Try.prog w base spare held n 34 (([c0, c1, c2, c3, c4].drop 2).take (Try.prog.cellsOf 34)) = some z2 := g2
  rw [cells34] at g2'
  obtain ⟨x2, u2, o2, b2⟩ := reads_Blocks _ _ _ (show DataW.trod enc Try.prog w base spare held n 34 [c2] = some z2 from g2') e2
  obtain ⟨z, hz, g3, e3⟩ := hf 3 _ rfl
  obtain rfl : z3 = z := by simpa using hz
  have g3' : DataW.trod enc Try.prog w base spare held n 35 (([c0, c1, c2, c3, c4].drop 3).take (Try.prog.cellsOf 35)) = some z3 := g3
  rw [cells35] at g3'
  obtain ⟨x3, u3, o3, b3⟩ := reads_Snaps _ _ _ (show DataW.trod enc Try.prog w base spare held n 35 [c3] = some z3 from g3') e3
  obtain ⟨z, hz, g4, e4⟩ := hf 4 _ rfl
  obtain rfl : z4 = z := by simpa using hz
  have g4' : DataW.trod enc Try.prog w base spare held n 36 (([c0, c1, c2, c3, c4].drop 4).take (Try.prog.cellsOf 36)) = some z4 := g4
  rw [cells36] at g4'
  obtain ⟨x4, u4, o4, b4⟩ := reads_Props _ _ _ (show DataW.trod enc Try.prog w base spare held n 36 [c4] = some z4 from g4') e4
  refine ⟨⟨x0, x1, x2, x3, x4⟩, ?_, ⟨o0, o1, o2, o3, o4⟩, ?_⟩
  · simp [cellsSet] at u0 u1 u2 u3 u4 ⊢
    simp [*]
  · rw [hy]
    simp only [bulkSet, Rows.uptoBulk, Rows.uptoBulkAll, List.map_cons, List.map_nil]
    omega

/-- []Set -/
def IsSets (w : World) (s : SliceV SetD) : Prop := IsSl cellsSet okSet 5 104 w s
theorem IsSets.below {w w' : World} {s : SliceV SetD} (h : IsSets w s) (hb : Below w.heap.size w w') : IsSets w' s := IsSl.below h hb (fun _ h => okSet_below h hb)
theorem reads_Sets {H : Type} {enc : TypeId × Value → H} {w : World} {base : Nat} {spare : Nat → Bool} {held : Bool} : Reads enc w base spare held 48 (fun s : SliceV SetD => [.slice s.a s.l.length s.c]) (fun w s => IsSets w s) (SliceV.bulk bulkSet) :=
  reads_slice (α := SetD) Try.underlying48 cells38 (by decide) bytes38 (fun _ => rfl) reads_Set

/-- Grant -/
structure GrantD where
  user : ByteArray
  path : ByteArray
  perms : Int
instance : Inhabited GrantD := ⟨⟨.empty, .empty, 0⟩⟩
def cellsGrant (x : GrantD) : List Value := [.string x.user, .string x.path, .int .i64 x.perms]
theorem cellsGrant_at {x : GrantD} : (cellsGrant x)[0]? = some (.string x.user) ∧ (cellsGrant x)[1]? = some (.string x.path) ∧ (cellsGrant x)[2]? = some (.int .i64 x.perms) := ⟨rfl, rfl, rfl⟩
def okGrant (_w : World) (x : GrantD) : Prop := okStr x.user ∧ okStr x.path ∧ InR x.perms
def bulkGrant (x : GrantD) : Nat := bulkStr x.user + bulkStr x.path + 1 + 1
theorem okGrant_below {w w' : World} {x : GrantD} (h : okGrant w x) (_hb : Below w.heap.size w w') : okGrant w' x := by
  obtain ⟨h0, h1, h2⟩ := h
  exact ⟨h0, h1, h2⟩
theorem reads_Grant {H : Type} {enc : TypeId × Value → H} {w : World} {base : Nat} {spare : Nat → Bool} {held : Bool} : Reads enc w base spare held 129 cellsGrant okGrant bulkGrant := by
  intro fuel cs y h hwt
  obtain ⟨ys, n, hy, hcl, hyl, hf⟩ := struct_parts Try.underlying129 h hwt
  rw [cells129] at hcl
  obtain ⟨c0, c1, c2, rfl⟩ := len3 hcl
  obtain ⟨z0, z1, z2, rfl⟩ := len3 (show ys.length = 3 from hyl)
  obtain ⟨z, hz, g0, e0⟩ := hf 0 _ rfl
  obtain rfl : z0 = z := by simpa using hz
  have g0' : DataW.trod enc Try.prog w base spare held n 9 (([c0, c1, c2].drop 0).take (Try.prog.cellsOf 9)) = some z0 := g0
  rw [cells9] at g0'
  obtain ⟨x0, u0, o0, b0⟩ := reads_str Try.underlying9 _ _ _ (show DataW.trod enc Try.prog w base spare held n 9 [c0] = some z0 from g0') e0
  obtain ⟨z, hz, g1, e1⟩ := hf 1 _ rfl
  obtain rfl : z1 = z := by simpa using hz
  have g1' : DataW.trod enc Try.prog w base spare held n 9 (([c0, c1, c2].drop 1).take (Try.prog.cellsOf 9)) = some z1 := g1
  rw [cells9] at g1'
  obtain ⟨x1, u1, o1, b1⟩ := reads_str Try.underlying9 _ _ _ (show DataW.trod enc Try.prog w base spare held n 9 [c1] = some z1 from g1') e1
  obtain ⟨z, hz, g2, e2⟩ := hf 2 _ rfl
  obtain rfl : z2 = z := by simpa using hz
  have g2' : DataW.trod enc Try.prog w base spare held n 3 (([c0, c1, c2].drop 2).take (Try.prog.cellsOf 3)) = some z2 := g2
  rw [cells3] at g2'
  obtain ⟨x2, u2, o2, b2⟩ := reads_int Try.underlying3 _ _ _ (show DataW.trod enc Try.prog w base spare held n 3 [c2] = some z2 from g2') e2
  dsimp only at b2
  refine ⟨⟨x0, x1, x2⟩, ?_, ⟨o0, o1, o2⟩, ?_⟩
  · simp [cellsGrant] at u0 u1 u2 ⊢
    simp [*]
  · rw [hy]
    simp only [bulkGrant, Rows.uptoBulk, Rows.uptoBulkAll, List.map_cons, List.map_nil]
    omega

/-- []Grant -/
def IsGrants (w : World) (s : SliceV GrantD) : Prop := IsSl cellsGrant okGrant 3 40 w s
theorem IsGrants.below {w w' : World} {s : SliceV GrantD} (h : IsGrants w s) (hb : Below w.heap.size w w') : IsGrants w' s := IsSl.below h hb (fun _ h => okGrant_below h hb)
theorem reads_Grants {H : Type} {enc : TypeId × Value → H} {w : World} {base : Nat} {spare : Nat → Bool} {held : Bool} : Reads enc w base spare held 49 (fun s : SliceV GrantD => [.slice s.a s.l.length s.c]) (fun w s => IsGrants w s) (SliceV.bulk bulkGrant) :=
  reads_slice (α := GrantD) Try.underlying49 cells129 (by decide) bytes129 (fun _ => rfl) reads_Grant

/-- Entry -/
structure EntryD where
  user : ByteArray
  kind : Int
  path : ByteArray
  err : Int
instance : Inhabited EntryD := ⟨⟨.empty, 0, .empty, 0⟩⟩
def cellsEntry (x : EntryD) : List Value := [.string x.user, .int .i64 x.kind, .string x.path, .int .i64 x.err]
theorem cellsEntry_at {x : EntryD} : (cellsEntry x)[0]? = some (.string x.user) ∧ (cellsEntry x)[1]? = some (.int .i64 x.kind) ∧ (cellsEntry x)[2]? = some (.string x.path) ∧ (cellsEntry x)[3]? = some (.int .i64 x.err) := ⟨rfl, rfl, rfl, rfl⟩
def okEntry (_w : World) (x : EntryD) : Prop := okStr x.user ∧ InR x.kind ∧ okStr x.path ∧ InR x.err
def bulkEntry (x : EntryD) : Nat := bulkStr x.user + 1 + bulkStr x.path + 1 + 1
theorem okEntry_below {w w' : World} {x : EntryD} (h : okEntry w x) (_hb : Below w.heap.size w w') : okEntry w' x := by
  obtain ⟨h0, h1, h2, h3⟩ := h
  exact ⟨h0, h1, h2, h3⟩
theorem reads_Entry {H : Type} {enc : TypeId × Value → H} {w : World} {base : Nat} {spare : Nat → Bool} {held : Bool} : Reads enc w base spare held 112 cellsEntry okEntry bulkEntry := by
  intro fuel cs y h hwt
  obtain ⟨ys, n, hy, hcl, hyl, hf⟩ := struct_parts Try.underlying112 h hwt
  rw [cells112] at hcl
  obtain ⟨c0, c1, c2, c3, rfl⟩ := len4 hcl
  obtain ⟨z0, z1, z2, z3, rfl⟩ := len4 (show ys.length = 4 from hyl)
  obtain ⟨z, hz, g0, e0⟩ := hf 0 _ rfl
  obtain rfl : z0 = z := by simpa using hz
  have g0' : DataW.trod enc Try.prog w base spare held n 9 (([c0, c1, c2, c3].drop 0).take (Try.prog.cellsOf 9)) = some z0 := g0
  rw [cells9] at g0'
  obtain ⟨x0, u0, o0, b0⟩ := reads_str Try.underlying9 _ _ _ (show DataW.trod enc Try.prog w base spare held n 9 [c0] = some z0 from g0') e0
  obtain ⟨z, hz, g1, e1⟩ := hf 1 _ rfl
  obtain rfl : z1 = z := by simpa using hz
  have g1' : DataW.trod enc Try.prog w base spare held n 3 (([c0, c1, c2, c3].drop 1).take (Try.prog.cellsOf 3)) = some z1 := g1
  rw [cells3] at g1'
  obtain ⟨x1, u1, o1, b1⟩ := reads_int Try.underlying3 _ _ _ (show DataW.trod enc Try.prog w base spare held n 3 [c1] = some z1 from g1') e1
  obtain ⟨z, hz, g2, e2⟩ := hf 2 _ rfl
  obtain rfl : z2 = z := by simpa using hz
  have g2' : DataW.trod enc Try.prog w base spare held n 9 (([c0, c1, c2, c3].drop 2).take (Try.prog.cellsOf 9)) = some z2 := g2
  rw [cells9] at g2'
  obtain ⟨x2, u2, o2, b2⟩ := reads_str Try.underlying9 _ _ _ (show DataW.trod enc Try.prog w base spare held n 9 [c2] = some z2 from g2') e2
  obtain ⟨z, hz, g3, e3⟩ := hf 3 _ rfl
  obtain rfl : z3 = z := by simpa using hz
  have g3' : DataW.trod enc Try.prog w base spare held n 23 (([c0, c1, c2, c3].drop 3).take (Try.prog.cellsOf 23)) = some z3 := g3
  rw [cells23] at g3'
  obtain ⟨x3, u3, o3, b3⟩ := reads_int Try.underlying23 _ _ _ (show DataW.trod enc Try.prog w base spare held n 23 [c3] = some z3 from g3') e3
  dsimp only at b1
  dsimp only at b3
  refine ⟨⟨x0, x1, x2, x3⟩, ?_, ⟨o0, o1, o2, o3⟩, ?_⟩
  · simp [cellsEntry] at u0 u1 u2 u3 ⊢
    simp [*]
  · rw [hy]
    simp only [bulkEntry, Rows.uptoBulk, Rows.uptoBulkAll, List.map_cons, List.map_nil]
    omega

/-- []Entry -/
def IsEntrys (w : World) (s : SliceV EntryD) : Prop := IsSl cellsEntry okEntry 4 48 w s
theorem IsEntrys.below {w w' : World} {s : SliceV EntryD} (h : IsEntrys w s) (hb : Below w.heap.size w w') : IsEntrys w' s := IsSl.below h hb (fun _ h => okEntry_below h hb)
theorem reads_Entrys {H : Type} {enc : TypeId × Value → H} {w : World} {base : Nat} {spare : Nat → Bool} {held : Bool} : Reads enc w base spare held 51 (fun s : SliceV EntryD => [.slice s.a s.l.length s.c]) (fun w s => IsEntrys w s) (SliceV.bulk bulkEntry) :=
  reads_slice (α := EntryD) Try.underlying51 cells112 (by decide) bytes112 (fun _ => rfl) reads_Entry

/-- Sum -/
structure SumD where
  sa : Int
  sb : Int
  sc : Int
  sd : Int
instance : Inhabited SumD := ⟨⟨0, 0, 0, 0⟩⟩
def cellsSum (x : SumD) : List Value := [.int .u64 x.sa, .int .u64 x.sb, .int .u64 x.sc, .int .u64 x.sd]
def okSum (_w : World) (x : SumD) : Prop := (0 ≤ x.sa ∧ x.sa ≤ 18446744073709551615) ∧ (0 ≤ x.sb ∧ x.sb ≤ 18446744073709551615) ∧ (0 ≤ x.sc ∧ x.sc ≤ 18446744073709551615) ∧ (0 ≤ x.sd ∧ x.sd ≤ 18446744073709551615)
def bulkSum (_x : SumD) : Nat := 1 + 1 + 1 + 1 + 1
theorem okSum_below {w w' : World} {x : SumD} (h : okSum w x) (_hb : Below w.heap.size w w') : okSum w' x := by
  obtain ⟨h0, h1, h2, h3⟩ := h
  exact ⟨h0, h1, h2, h3⟩
theorem reads_Sum {H : Type} {enc : TypeId × Value → H} {w : World} {base : Nat} {spare : Nat → Bool} {held : Bool} : Reads enc w base spare held 63 cellsSum okSum bulkSum := by
  intro fuel cs y h hwt
  obtain ⟨ys, n, hy, hcl, hyl, hf⟩ := struct_parts Try.underlying63 h hwt
  rw [cells63] at hcl
  obtain ⟨c0, c1, c2, c3, rfl⟩ := len4 hcl
  obtain ⟨z0, z1, z2, z3, rfl⟩ := len4 (show ys.length = 4 from hyl)
  obtain ⟨z, hz, g0, e0⟩ := hf 0 _ rfl
  obtain rfl : z0 = z := by simpa using hz
  have g0' : DataW.trod enc Try.prog w base spare held n 61 (([c0, c1, c2, c3].drop 0).take (Try.prog.cellsOf 61)) = some z0 := g0
  rw [cells61] at g0'
  obtain ⟨x0, u0, o0, b0⟩ := reads_u64 Try.underlying61 _ _ _ (show DataW.trod enc Try.prog w base spare held n 61 [c0] = some z0 from g0') e0
  obtain ⟨z, hz, g1, e1⟩ := hf 1 _ rfl
  obtain rfl : z1 = z := by simpa using hz
  have g1' : DataW.trod enc Try.prog w base spare held n 61 (([c0, c1, c2, c3].drop 1).take (Try.prog.cellsOf 61)) = some z1 := g1
  rw [cells61] at g1'
  obtain ⟨x1, u1, o1, b1⟩ := reads_u64 Try.underlying61 _ _ _ (show DataW.trod enc Try.prog w base spare held n 61 [c1] = some z1 from g1') e1
  obtain ⟨z, hz, g2, e2⟩ := hf 2 _ rfl
  obtain rfl : z2 = z := by simpa using hz
  have g2' : DataW.trod enc Try.prog w base spare held n 61 (([c0, c1, c2, c3].drop 2).take (Try.prog.cellsOf 61)) = some z2 := g2
  rw [cells61] at g2'
  obtain ⟨x2, u2, o2, b2⟩ := reads_u64 Try.underlying61 _ _ _ (show DataW.trod enc Try.prog w base spare held n 61 [c2] = some z2 from g2') e2
  obtain ⟨z, hz, g3, e3⟩ := hf 3 _ rfl
  obtain rfl : z3 = z := by simpa using hz
  have g3' : DataW.trod enc Try.prog w base spare held n 61 (([c0, c1, c2, c3].drop 3).take (Try.prog.cellsOf 61)) = some z3 := g3
  rw [cells61] at g3'
  obtain ⟨x3, u3, o3, b3⟩ := reads_u64 Try.underlying61 _ _ _ (show DataW.trod enc Try.prog w base spare held n 61 [c3] = some z3 from g3') e3
  dsimp only at b0
  dsimp only at b1
  dsimp only at b2
  dsimp only at b3
  refine ⟨⟨x0, x1, x2, x3⟩, ?_, ⟨o0, o1, o2, o3⟩, ?_⟩
  · simp [cellsSum] at u0 u1 u2 u3 ⊢
    simp [*]
  · rw [hy]
    simp only [bulkSum, Rows.uptoBulk, Rows.uptoBulkAll, List.map_cons, List.map_nil]
    omega

/-- Record -/
structure RecordD where
  kind : Int
  name : ByteArray
  from_ : Int
  guid : Int
  own : SliceV PropD
  index : Int
  count : Int
  data : ByteArray
  sum : SumD
instance : Inhabited RecordD := ⟨⟨0, .empty, 0, 0, ⟨none, 0, []⟩, 0, 0, .empty, default⟩⟩
def cellsRecord (x : RecordD) : List Value := [.int .i64 x.kind, .string x.name, .int .i64 x.from_, .int .i64 x.guid, .slice x.own.a x.own.l.length x.own.c, .int .i64 x.index, .int .i64 x.count, .string x.data, .int .u64 x.sum.sa, .int .u64 x.sum.sb, .int .u64 x.sum.sc, .int .u64 x.sum.sd]
def okRecord (w : World) (x : RecordD) : Prop := InR x.kind ∧ okStr x.name ∧ InR x.from_ ∧ InR x.guid ∧ IsProps w x.own ∧ InR x.index ∧ InR x.count ∧ okStr x.data ∧ okSum w x.sum
def bulkRecord (x : RecordD) : Nat := 1 + bulkStr x.name + 1 + 1 + x.own.bulk bulkProp + 1 + 1 + bulkStr x.data + bulkSum x.sum + 1
theorem okRecord_below {w w' : World} {x : RecordD} (h : okRecord w x) (hb : Below w.heap.size w w') : okRecord w' x := by
  obtain ⟨h0, h1, h2, h3, h4, h5, h6, h7, h8⟩ := h
  exact ⟨h0, h1, h2, h3, h4.below hb, h5, h6, h7, okSum_below h8 hb⟩
theorem reads_Record {H : Type} {enc : TypeId × Value → H} {w : World} {base : Nat} {spare : Nat → Bool} {held : Bool} : Reads enc w base spare held 65 cellsRecord okRecord bulkRecord := by
  intro fuel cs y h hwt
  obtain ⟨ys, n, hy, hcl, hyl, hf⟩ := struct_parts Try.underlying65 h hwt
  rw [cells65] at hcl
  obtain ⟨c0, c1, c2, c3, c4, c5, c6, c7, c8, c9, c10, c11, rfl⟩ := len12 hcl
  obtain ⟨z0, z1, z2, z3, z4, z5, z6, z7, z8, rfl⟩ := len9 (show ys.length = 9 from hyl)
  obtain ⟨z, hz, g0, e0⟩ := hf 0 _ rfl
  obtain rfl : z0 = z := by simpa using hz
  have g0' : DataW.trod enc Try.prog w base spare held n 3 (([c0, c1, c2, c3, c4, c5, c6, c7, c8, c9, c10, c11].drop 0).take (Try.prog.cellsOf 3)) = some z0 := g0
  rw [cells3] at g0'
  obtain ⟨x0, u0, o0, b0⟩ := reads_int Try.underlying3 _ _ _ (show DataW.trod enc Try.prog w base spare held n 3 [c0] = some z0 from g0') e0
  obtain ⟨z, hz, g1, e1⟩ := hf 1 _ rfl
  obtain rfl : z1 = z := by simpa using hz
  have g1' : DataW.trod enc Try.prog w base spare held n 9 (([c0, c1, c2, c3, c4, c5, c6, c7, c8, c9, c10, c11].drop 1).take (Try.prog.cellsOf 9)) = some z1 := g1
  rw [cells9] at g1'
  obtain ⟨x1, u1, o1, b1⟩ := reads_str Try.underlying9 _ _ _ (show DataW.trod enc Try.prog w base spare held n 9 [c1] = some z1 from g1') e1
  obtain ⟨z, hz, g2, e2⟩ := hf 2 _ rfl
  obtain rfl : z2 = z := by simpa using hz
  have g2' : DataW.trod enc Try.prog w base spare held n 3 (([c0, c1, c2, c3, c4, c5, c6, c7, c8, c9, c10, c11].drop 2).take (Try.prog.cellsOf 3)) = some z2 := g2
  rw [cells3] at g2'
  obtain ⟨x2, u2, o2, b2⟩ := reads_int Try.underlying3 _ _ _ (show DataW.trod enc Try.prog w base spare held n 3 [c2] = some z2 from g2') e2
  obtain ⟨z, hz, g3, e3⟩ := hf 3 _ rfl
  obtain rfl : z3 = z := by simpa using hz
  have g3' : DataW.trod enc Try.prog w base spare held n 3 (([c0, c1, c2, c3, c4, c5, c6, c7, c8, c9, c10, c11].drop 3).take (Try.prog.cellsOf 3)) = some z3 := g3
  rw [cells3] at g3'
  obtain ⟨x3, u3, o3, b3⟩ := reads_int Try.underlying3 _ _ _ (show DataW.trod enc Try.prog w base spare held n 3 [c3] = some z3 from g3') e3
  obtain ⟨z, hz, g4, e4⟩ := hf 4 _ rfl
  obtain rfl : z4 = z := by simpa using hz
  have g4' : DataW.trod enc Try.prog w base spare held n 36 (([c0, c1, c2, c3, c4, c5, c6, c7, c8, c9, c10, c11].drop 4).take (Try.prog.cellsOf 36)) = some z4 := g4
  rw [cells36] at g4'
  obtain ⟨x4, u4, o4, b4⟩ := reads_Props _ _ _ (show DataW.trod enc Try.prog w base spare held n 36 [c4] = some z4 from g4') e4
  obtain ⟨z, hz, g5, e5⟩ := hf 5 _ rfl
  obtain rfl : z5 = z := by simpa using hz
  have g5' : DataW.trod enc Try.prog w base spare held n 3 (([c0, c1, c2, c3, c4, c5, c6, c7, c8, c9, c10, c11].drop 5).take (Try.prog.cellsOf 3)) = some z5 := g5
  rw [cells3] at g5'
  obtain ⟨x5, u5, o5, b5⟩ := reads_int Try.underlying3 _ _ _ (show DataW.trod enc Try.prog w base spare held n 3 [c5] = some z5 from g5') e5
  obtain ⟨z, hz, g6, e6⟩ := hf 6 _ rfl
  obtain rfl : z6 = z := by simpa using hz
  have g6' : DataW.trod enc Try.prog w base spare held n 3 (([c0, c1, c2, c3, c4, c5, c6, c7, c8, c9, c10, c11].drop 6).take (Try.prog.cellsOf 3)) = some z6 := g6
  rw [cells3] at g6'
  obtain ⟨x6, u6, o6, b6⟩ := reads_int Try.underlying3 _ _ _ (show DataW.trod enc Try.prog w base spare held n 3 [c6] = some z6 from g6') e6
  obtain ⟨z, hz, g7, e7⟩ := hf 7 _ rfl
  obtain rfl : z7 = z := by simpa using hz
  have g7' : DataW.trod enc Try.prog w base spare held n 9 (([c0, c1, c2, c3, c4, c5, c6, c7, c8, c9, c10, c11].drop 7).take (Try.prog.cellsOf 9)) = some z7 := g7
  rw [cells9] at g7'
  obtain ⟨x7, u7, o7, b7⟩ := reads_str Try.underlying9 _ _ _ (show DataW.trod enc Try.prog w base spare held n 9 [c7] = some z7 from g7') e7
  obtain ⟨z, hz, g8, e8⟩ := hf 8 _ rfl
  obtain rfl : z8 = z := by simpa using hz
  have g8' : DataW.trod enc Try.prog w base spare held n 63 (([c0, c1, c2, c3, c4, c5, c6, c7, c8, c9, c10, c11].drop 8).take (Try.prog.cellsOf 63)) = some z8 := g8
  rw [cells63] at g8'
  obtain ⟨x8, u8, o8, b8⟩ := reads_Sum _ _ _ (show DataW.trod enc Try.prog w base spare held n 63 [c8, c9, c10, c11] = some z8 from g8') e8
  dsimp only at b0
  dsimp only at b2
  dsimp only at b3
  dsimp only at b5
  dsimp only at b6
  refine ⟨⟨x0, x1, x2, x3, x4, x5, x6, x7, x8⟩, ?_, ⟨o0, o1, o2, o3, o4, o5, o6, o7, o8⟩, ?_⟩
  · simp [cellsRecord, cellsSum] at u0 u1 u2 u3 u4 u5 u6 u7 u8 ⊢
    simp [*]
  · rw [hy]
    simp only [bulkRecord, Rows.uptoBulk, Rows.uptoBulkAll, List.map_cons, List.map_nil]
    omega

/-- Stage -/
structure StageD where
  into : ByteArray
  begin_ : RecordD
  body : SliceV BlockD
  at_ : Int
  next : Int
  sum : SumD
  done : Bool
instance : Inhabited StageD := ⟨⟨.empty, default, ⟨none, 0, []⟩, 0, 0, default, false⟩⟩
def cellsStage (x : StageD) : List Value := [.string x.into, .int .i64 x.begin_.kind, .string x.begin_.name, .int .i64 x.begin_.from_, .int .i64 x.begin_.guid, .slice x.begin_.own.a x.begin_.own.l.length x.begin_.own.c, .int .i64 x.begin_.index, .int .i64 x.begin_.count, .string x.begin_.data, .int .u64 x.begin_.sum.sa, .int .u64 x.begin_.sum.sb, .int .u64 x.begin_.sum.sc, .int .u64 x.begin_.sum.sd, .slice x.body.a x.body.l.length x.body.c, .int .i64 x.at_, .int .i64 x.next, .int .u64 x.sum.sa, .int .u64 x.sum.sb, .int .u64 x.sum.sc, .int .u64 x.sum.sd, .bool x.done]
def okStage (w : World) (x : StageD) : Prop := okStr x.into ∧ okRecord w x.begin_ ∧ IsBlocks w x.body ∧ InR x.at_ ∧ InR x.next ∧ okSum w x.sum
def bulkStage (x : StageD) : Nat := bulkStr x.into + bulkRecord x.begin_ + x.body.bulk bulkBlock + 1 + 1 + bulkSum x.sum + 1 + 1
theorem okStage_below {w w' : World} {x : StageD} (h : okStage w x) (hb : Below w.heap.size w w') : okStage w' x := by
  obtain ⟨h0, h1, h2, h3, h4, h5⟩ := h
  exact ⟨h0, okRecord_below h1 hb, h2.below hb, h3, h4, okSum_below h5 hb⟩
theorem reads_Stage {H : Type} {enc : TypeId × Value → H} {w : World} {base : Nat} {spare : Nat → Bool} {held : Bool} : Reads enc w base spare held 67 cellsStage okStage bulkStage := by
  intro fuel cs y h hwt
  obtain ⟨ys, n, hy, hcl, hyl, hf⟩ := struct_parts Try.underlying67 h hwt
  rw [cells67] at hcl
  obtain ⟨c0, c1, c2, c3, c4, c5, c6, c7, c8, c9, c10, c11, c12, c13, c14, c15, c16, c17, c18, c19, c20, rfl⟩ := len21 hcl
  obtain ⟨z0, z1, z2, z3, z4, z5, z6, rfl⟩ := len7 (show ys.length = 7 from hyl)
  obtain ⟨z, hz, g0, e0⟩ := hf 0 _ rfl
  obtain rfl : z0 = z := by simpa using hz
  have g0' : DataW.trod enc Try.prog w base spare held n 9 (([c0, c1, c2, c3, c4, c5, c6, c7, c8, c9, c10, c11, c12, c13, c14, c15, c16, c17, c18, c19, c20].drop 0).take (Try.prog.cellsOf 9)) = some z0 := g0
  rw [cells9] at g0'
  obtain ⟨x0, u0, o0, b0⟩ := reads_str Try.underlying9 _ _ _ (show DataW.trod enc Try.prog w base spare held n 9 [c0] = some z0 from g0') e0
  obtain ⟨z, hz, g1, e1⟩ := hf 1 _ rfl
  obtain rfl : z1 = z := by simpa using hz
  have g1' : DataW.trod enc Try.prog w base spare held n 65 (([c0, c1, c2, c3, c4, c5, c6, c7, c8, c9, c10, c11, c12, c13, c14, c15, c16, c17, c18, c19, c20].drop 1).take (Try.prog.cellsOf 65)) = some z1 := g1
  rw [cells65] at g1'
  obtain ⟨x1, u1, o1, b1⟩ := reads_Record _ _ _ (show DataW.trod enc Try.prog w base spare held n 65 [c1, c2, c3, c4, c5, c6, c7, c8, c9, c10, c11, c12] = some z1 from g1') e1
  obtain ⟨z, hz, g2, e2⟩ := hf 2 _ rfl
  obtain rfl : z2 = z := by simpa using hz
  have g2' : DataW.trod enc Try.prog w base spare held n 34 (([c0, c1, c2, c3, c4, c5, c6, c7, c8, c9, c10, c11, c12, c13, c14, c15, c16, c17, c18, c19, c20].drop 13).take (Try.prog.cellsOf 34)) = some z2 := g2
  rw [cells34] at g2'
  obtain ⟨x2, u2, o2, b2⟩ := reads_Blocks _ _ _ (show DataW.trod enc Try.prog w base spare held n 34 [c13] = some z2 from g2') e2
  obtain ⟨z, hz, g3, e3⟩ := hf 3 _ rfl
  obtain rfl : z3 = z := by simpa using hz
  have g3' : DataW.trod enc Try.prog w base spare held n 3 (([c0, c1, c2, c3, c4, c5, c6, c7, c8, c9, c10, c11, c12, c13, c14, c15, c16, c17, c18, c19, c20].drop 14).take (Try.prog.cellsOf 3)) = some z3 := g3
  rw [cells3] at g3'
  obtain ⟨x3, u3, o3, b3⟩ := reads_int Try.underlying3 _ _ _ (show DataW.trod enc Try.prog w base spare held n 3 [c14] = some z3 from g3') e3
  obtain ⟨z, hz, g4, e4⟩ := hf 4 _ rfl
  obtain rfl : z4 = z := by simpa using hz
  have g4' : DataW.trod enc Try.prog w base spare held n 3 (([c0, c1, c2, c3, c4, c5, c6, c7, c8, c9, c10, c11, c12, c13, c14, c15, c16, c17, c18, c19, c20].drop 15).take (Try.prog.cellsOf 3)) = some z4 := g4
  rw [cells3] at g4'
  obtain ⟨x4, u4, o4, b4⟩ := reads_int Try.underlying3 _ _ _ (show DataW.trod enc Try.prog w base spare held n 3 [c15] = some z4 from g4') e4
  obtain ⟨z, hz, g5, e5⟩ := hf 5 _ rfl
  obtain rfl : z5 = z := by simpa using hz
  have g5' : DataW.trod enc Try.prog w base spare held n 63 (([c0, c1, c2, c3, c4, c5, c6, c7, c8, c9, c10, c11, c12, c13, c14, c15, c16, c17, c18, c19, c20].drop 16).take (Try.prog.cellsOf 63)) = some z5 := g5
  rw [cells63] at g5'
  obtain ⟨x5, u5, o5, b5⟩ := reads_Sum _ _ _ (show DataW.trod enc Try.prog w base spare held n 63 [c16, c17, c18, c19] = some z5 from g5') e5
  obtain ⟨z, hz, g6, e6⟩ := hf 6 _ rfl
  obtain rfl : z6 = z := by simpa using hz
  have g6' : DataW.trod enc Try.prog w base spare held n 4 (([c0, c1, c2, c3, c4, c5, c6, c7, c8, c9, c10, c11, c12, c13, c14, c15, c16, c17, c18, c19, c20].drop 20).take (Try.prog.cellsOf 4)) = some z6 := g6
  rw [cells4] at g6'
  obtain ⟨x6, u6, o6, b6⟩ := reads_bool Try.underlying4 _ _ _ (show DataW.trod enc Try.prog w base spare held n 4 [c20] = some z6 from g6') e6
  dsimp only at b3
  dsimp only at b4
  dsimp only at b6
  refine ⟨⟨x0, x1, x2, x3, x4, x5, x6⟩, ?_, ⟨o0, o1, o2, o3, o4, o5⟩, ?_⟩
  · simp [cellsStage, cellsRecord, cellsSum] at u0 u1 u2 u3 u4 u5 u6 ⊢
    simp [*]
  · rw [hy]
    simp only [bulkStage, Rows.uptoBulk, Rows.uptoBulkAll, List.map_cons, List.map_nil]
    omega

/-- []Stage -/
def IsStages (w : World) (s : SliceV StageD) : Prop := IsSl cellsStage okStage 21 224 w s
theorem IsStages.below {w w' : World} {s : SliceV StageD} (h : IsStages w s) (hb : Below w.heap.size w w') : IsStages w' s := IsSl.below h hb (fun _ h => okStage_below h hb)
theorem reads_Stages {H : Type} {enc : TypeId × Value → H} {w : World} {base : Nat} {spare : Nat → Bool} {held : Bool} : Reads enc w base spare held 50 (fun s : SliceV StageD => [.slice s.a s.l.length s.c]) (fun w s => IsStages w s) (SliceV.bulk bulkStage) :=
  reads_slice (α := StageD) Try.underlying50 cells67 (by decide) bytes67 (fun _ => rfl) reads_Stage

/-- Tenant -/
structure TenantD where
  name : ByteArray
  quota : Int
  next : Int
  sets : SliceV SetD
  grants : SliceV GrantD
  stages : SliceV StageD
  log : SliceV EntryD
instance : Inhabited TenantD := ⟨⟨.empty, 0, 0, ⟨none, 0, []⟩, ⟨none, 0, []⟩, ⟨none, 0, []⟩, ⟨none, 0, []⟩⟩⟩
def cellsTenant (x : TenantD) : List Value := [.string x.name, .int .i64 x.quota, .int .i64 x.next, .slice x.sets.a x.sets.l.length x.sets.c, .slice x.grants.a x.grants.l.length x.grants.c, .slice x.stages.a x.stages.l.length x.stages.c, .slice x.log.a x.log.l.length x.log.c]
theorem cellsTenant_at {x : TenantD} : (cellsTenant x)[0]? = some (.string x.name) ∧ (cellsTenant x)[1]? = some (.int .i64 x.quota) ∧ (cellsTenant x)[2]? = some (.int .i64 x.next) ∧ (cellsTenant x)[3]? = some (.slice x.sets.a x.sets.l.length x.sets.c) ∧ (cellsTenant x)[4]? = some (.slice x.grants.a x.grants.l.length x.grants.c) ∧ (cellsTenant x)[5]? = some (.slice x.stages.a x.stages.l.length x.stages.c) ∧ (cellsTenant x)[6]? = some (.slice x.log.a x.log.l.length x.log.c) := ⟨rfl, rfl, rfl, rfl, rfl, rfl, rfl⟩
def okTenant (w : World) (x : TenantD) : Prop := okStr x.name ∧ InR x.quota ∧ InR x.next ∧ IsSets w x.sets ∧ IsGrants w x.grants ∧ IsStages w x.stages ∧ IsEntrys w x.log
def bulkTenant (x : TenantD) : Nat := bulkStr x.name + 1 + 1 + x.sets.bulk bulkSet + x.grants.bulk bulkGrant + x.stages.bulk bulkStage + x.log.bulk bulkEntry + 1
theorem okTenant_below {w w' : World} {x : TenantD} (h : okTenant w x) (hb : Below w.heap.size w w') : okTenant w' x := by
  obtain ⟨h0, h1, h2, h3, h4, h5, h6⟩ := h
  exact ⟨h0, h1, h2, h3.below hb, h4.below hb, h5.below hb, h6.below hb⟩
theorem reads_Tenant {H : Type} {enc : TypeId × Value → H} {w : World} {base : Nat} {spare : Nat → Bool} {held : Bool} : Reads enc w base spare held 53 cellsTenant okTenant bulkTenant := by
  intro fuel cs y h hwt
  obtain ⟨ys, n, hy, hcl, hyl, hf⟩ := struct_parts Try.underlying53 h hwt
  rw [cells53] at hcl
  obtain ⟨c0, c1, c2, c3, c4, c5, c6, rfl⟩ := len7 hcl
  obtain ⟨z0, z1, z2, z3, z4, z5, z6, rfl⟩ := len7 (show ys.length = 7 from hyl)
  obtain ⟨z, hz, g0, e0⟩ := hf 0 _ rfl
  obtain rfl : z0 = z := by simpa using hz
  have g0' : DataW.trod enc Try.prog w base spare held n 9 (([c0, c1, c2, c3, c4, c5, c6].drop 0).take (Try.prog.cellsOf 9)) = some z0 := g0
  rw [cells9] at g0'
  obtain ⟨x0, u0, o0, b0⟩ := reads_str Try.underlying9 _ _ _ (show DataW.trod enc Try.prog w base spare held n 9 [c0] = some z0 from g0') e0
  obtain ⟨z, hz, g1, e1⟩ := hf 1 _ rfl
  obtain rfl : z1 = z := by simpa using hz
  have g1' : DataW.trod enc Try.prog w base spare held n 3 (([c0, c1, c2, c3, c4, c5, c6].drop 1).take (Try.prog.cellsOf 3)) = some z1 := g1
  rw [cells3] at g1'
  obtain ⟨x1, u1, o1, b1⟩ := reads_int Try.underlying3 _ _ _ (show DataW.trod enc Try.prog w base spare held n 3 [c1] = some z1 from g1') e1
  obtain ⟨z, hz, g2, e2⟩ := hf 2 _ rfl
  obtain rfl : z2 = z := by simpa using hz
  have g2' : DataW.trod enc Try.prog w base spare held n 3 (([c0, c1, c2, c3, c4, c5, c6].drop 2).take (Try.prog.cellsOf 3)) = some z2 := g2
  rw [cells3] at g2'
  obtain ⟨x2, u2, o2, b2⟩ := reads_int Try.underlying3 _ _ _ (show DataW.trod enc Try.prog w base spare held n 3 [c2] = some z2 from g2') e2
  obtain ⟨z, hz, g3, e3⟩ := hf 3 _ rfl
  obtain rfl : z3 = z := by simpa using hz
  have g3' : DataW.trod enc Try.prog w base spare held n 48 (([c0, c1, c2, c3, c4, c5, c6].drop 3).take (Try.prog.cellsOf 48)) = some z3 := g3
  rw [cells48] at g3'
  obtain ⟨x3, u3, o3, b3⟩ := reads_Sets _ _ _ (show DataW.trod enc Try.prog w base spare held n 48 [c3] = some z3 from g3') e3
  obtain ⟨z, hz, g4, e4⟩ := hf 4 _ rfl
  obtain rfl : z4 = z := by simpa using hz
  have g4' : DataW.trod enc Try.prog w base spare held n 49 (([c0, c1, c2, c3, c4, c5, c6].drop 4).take (Try.prog.cellsOf 49)) = some z4 := g4
  rw [cells49] at g4'
  obtain ⟨x4, u4, o4, b4⟩ := reads_Grants _ _ _ (show DataW.trod enc Try.prog w base spare held n 49 [c4] = some z4 from g4') e4
  obtain ⟨z, hz, g5, e5⟩ := hf 5 _ rfl
  obtain rfl : z5 = z := by simpa using hz
  have g5' : DataW.trod enc Try.prog w base spare held n 50 (([c0, c1, c2, c3, c4, c5, c6].drop 5).take (Try.prog.cellsOf 50)) = some z5 := g5
  rw [cells50] at g5'
  obtain ⟨x5, u5, o5, b5⟩ := reads_Stages _ _ _ (show DataW.trod enc Try.prog w base spare held n 50 [c5] = some z5 from g5') e5
  obtain ⟨z, hz, g6, e6⟩ := hf 6 _ rfl
  obtain rfl : z6 = z := by simpa using hz
  have g6' : DataW.trod enc Try.prog w base spare held n 51 (([c0, c1, c2, c3, c4, c5, c6].drop 6).take (Try.prog.cellsOf 51)) = some z6 := g6
  rw [cells51] at g6'
  obtain ⟨x6, u6, o6, b6⟩ := reads_Entrys _ _ _ (show DataW.trod enc Try.prog w base spare held n 51 [c6] = some z6 from g6') e6
  dsimp only at b1
  dsimp only at b2
  refine ⟨⟨x0, x1, x2, x3, x4, x5, x6⟩, ?_, ⟨o0, o1, o2, o3, o4, o5, o6⟩, ?_⟩
  · simp [cellsTenant] at u0 u1 u2 u3 u4 u5 u6 ⊢
    simp [*]
  · rw [hy]
    simp only [bulkTenant, Rows.uptoBulk, Rows.uptoBulkAll, List.map_cons, List.map_nil]
    omega

/-- []Tenant -/
def IsTenants (w : World) (s : SliceV TenantD) : Prop := IsSl cellsTenant okTenant 7 128 w s
theorem IsTenants.below {w w' : World} {s : SliceV TenantD} (h : IsTenants w s) (hb : Below w.heap.size w w') : IsTenants w' s := IsSl.below h hb (fun _ h => okTenant_below h hb)
theorem reads_Tenants {H : Type} {enc : TypeId × Value → H} {w : World} {base : Nat} {spare : Nat → Bool} {held : Bool} : Reads enc w base spare held 70 (fun s : SliceV TenantD => [.slice s.a s.l.length s.c]) (fun w s => IsTenants w s) (SliceV.bulk bulkTenant) :=
  reads_slice (α := TenantD) Try.underlying70 cells53 (by decide) bytes53 (fun _ => rfl) reads_Tenant

/-- Pool -/
structure PoolD where
  capacity : Int
  tenants : SliceV TenantD
  forced : SliceV PropD
  log : SliceV EntryD
instance : Inhabited PoolD := ⟨⟨0, ⟨none, 0, []⟩, ⟨none, 0, []⟩, ⟨none, 0, []⟩⟩⟩
def cellsPool (x : PoolD) : List Value := [.int .i64 x.capacity, .slice x.tenants.a x.tenants.l.length x.tenants.c, .slice x.forced.a x.forced.l.length x.forced.c, .slice x.log.a x.log.l.length x.log.c]
theorem cellsPool_at {x : PoolD} : (cellsPool x)[0]? = some (.int .i64 x.capacity) ∧ (cellsPool x)[1]? = some (.slice x.tenants.a x.tenants.l.length x.tenants.c) ∧ (cellsPool x)[2]? = some (.slice x.forced.a x.forced.l.length x.forced.c) ∧ (cellsPool x)[3]? = some (.slice x.log.a x.log.l.length x.log.c) := ⟨rfl, rfl, rfl, rfl⟩
def okPool (w : World) (x : PoolD) : Prop := InR x.capacity ∧ IsTenants w x.tenants ∧ IsProps w x.forced ∧ IsEntrys w x.log
def bulkPool (x : PoolD) : Nat := 1 + x.tenants.bulk bulkTenant + x.forced.bulk bulkProp + x.log.bulk bulkEntry + 1
theorem okPool_below {w w' : World} {x : PoolD} (h : okPool w x) (hb : Below w.heap.size w w') : okPool w' x := by
  obtain ⟨h0, h1, h2, h3⟩ := h
  exact ⟨h0, h1.below hb, h2.below hb, h3.below hb⟩
theorem reads_Pool {H : Type} {enc : TypeId × Value → H} {w : World} {base : Nat} {spare : Nat → Bool} {held : Bool} : Reads enc w base spare held 72 cellsPool okPool bulkPool := by
  intro fuel cs y h hwt
  obtain ⟨ys, n, hy, hcl, hyl, hf⟩ := struct_parts Try.underlying72 h hwt
  rw [cells72] at hcl
  obtain ⟨c0, c1, c2, c3, rfl⟩ := len4 hcl
  obtain ⟨z0, z1, z2, z3, rfl⟩ := len4 (show ys.length = 4 from hyl)
  obtain ⟨z, hz, g0, e0⟩ := hf 0 _ rfl
  obtain rfl : z0 = z := by simpa using hz
  have g0' : DataW.trod enc Try.prog w base spare held n 3 (([c0, c1, c2, c3].drop 0).take (Try.prog.cellsOf 3)) = some z0 := g0
  rw [cells3] at g0'
  obtain ⟨x0, u0, o0, b0⟩ := reads_int Try.underlying3 _ _ _ (show DataW.trod enc Try.prog w base spare held n 3 [c0] = some z0 from g0') e0
  obtain ⟨z, hz, g1, e1⟩ := hf 1 _ rfl
  obtain rfl : z1 = z := by simpa using hz
  have g1' : DataW.trod enc Try.prog w base spare held n 70 (([c0, c1, c2, c3].drop 1).take (Try.prog.cellsOf 70)) = some z1 := g1
  rw [cells70] at g1'
  obtain ⟨x1, u1, o1, b1⟩ := reads_Tenants _ _ _ (show DataW.trod enc Try.prog w base spare held n 70 [c1] = some z1 from g1') e1
  obtain ⟨z, hz, g2, e2⟩ := hf 2 _ rfl
  obtain rfl : z2 = z := by simpa using hz
  have g2' : DataW.trod enc Try.prog w base spare held n 36 (([c0, c1, c2, c3].drop 2).take (Try.prog.cellsOf 36)) = some z2 := g2
  rw [cells36] at g2'
  obtain ⟨x2, u2, o2, b2⟩ := reads_Props _ _ _ (show DataW.trod enc Try.prog w base spare held n 36 [c2] = some z2 from g2') e2
  obtain ⟨z, hz, g3, e3⟩ := hf 3 _ rfl
  obtain rfl : z3 = z := by simpa using hz
  have g3' : DataW.trod enc Try.prog w base spare held n 51 (([c0, c1, c2, c3].drop 3).take (Try.prog.cellsOf 51)) = some z3 := g3
  rw [cells51] at g3'
  obtain ⟨x3, u3, o3, b3⟩ := reads_Entrys _ _ _ (show DataW.trod enc Try.prog w base spare held n 51 [c3] = some z3 from g3') e3
  dsimp only at b0
  refine ⟨⟨x0, x1, x2, x3⟩, ?_, ⟨o0, o1, o2, o3⟩, ?_⟩
  · simp [cellsPool] at u0 u1 u2 u3 ⊢
    simp [*]
  · rw [hy]
    simp only [bulkPool, Rows.uptoBulk, Rows.uptoBulkAll, List.map_cons, List.map_nil]
    omega

/-- Row -/
structure RowD where
  name : ByteArray
  sets : Int
  snaps : Int
  blocks : Int
  charge : Int
  quota : Int
instance : Inhabited RowD := ⟨⟨.empty, 0, 0, 0, 0, 0⟩⟩
def cellsRow (x : RowD) : List Value := [.string x.name, .int .i64 x.sets, .int .i64 x.snaps, .int .i64 x.blocks, .int .i64 x.charge, .int .i64 x.quota]
theorem cellsRow_at {x : RowD} : (cellsRow x)[0]? = some (.string x.name) ∧ (cellsRow x)[1]? = some (.int .i64 x.sets) ∧ (cellsRow x)[2]? = some (.int .i64 x.snaps) ∧ (cellsRow x)[3]? = some (.int .i64 x.blocks) ∧ (cellsRow x)[4]? = some (.int .i64 x.charge) ∧ (cellsRow x)[5]? = some (.int .i64 x.quota) := ⟨rfl, rfl, rfl, rfl, rfl, rfl⟩
def okRow (_w : World) (x : RowD) : Prop := okStr x.name ∧ InR x.sets ∧ InR x.snaps ∧ InR x.blocks ∧ InR x.charge ∧ InR x.quota
def bulkRow (x : RowD) : Nat := bulkStr x.name + 1 + 1 + 1 + 1 + 1 + 1
theorem okRow_below {w w' : World} {x : RowD} (h : okRow w x) (_hb : Below w.heap.size w w') : okRow w' x := by
  obtain ⟨h0, h1, h2, h3, h4, h5⟩ := h
  exact ⟨h0, h1, h2, h3, h4, h5⟩
theorem reads_Row {H : Type} {enc : TypeId × Value → H} {w : World} {base : Nat} {spare : Nat → Bool} {held : Bool} : Reads enc w base spare held 59 cellsRow okRow bulkRow := by
  intro fuel cs y h hwt
  obtain ⟨ys, n, hy, hcl, hyl, hf⟩ := struct_parts Try.underlying59 h hwt
  rw [cells59] at hcl
  obtain ⟨c0, c1, c2, c3, c4, c5, rfl⟩ := len6 hcl
  obtain ⟨z0, z1, z2, z3, z4, z5, rfl⟩ := len6 (show ys.length = 6 from hyl)
  obtain ⟨z, hz, g0, e0⟩ := hf 0 _ rfl
  obtain rfl : z0 = z := by simpa using hz
  have g0' : DataW.trod enc Try.prog w base spare held n 9 (([c0, c1, c2, c3, c4, c5].drop 0).take (Try.prog.cellsOf 9)) = some z0 := g0
  rw [cells9] at g0'
  obtain ⟨x0, u0, o0, b0⟩ := reads_str Try.underlying9 _ _ _ (show DataW.trod enc Try.prog w base spare held n 9 [c0] = some z0 from g0') e0
  obtain ⟨z, hz, g1, e1⟩ := hf 1 _ rfl
  obtain rfl : z1 = z := by simpa using hz
  have g1' : DataW.trod enc Try.prog w base spare held n 3 (([c0, c1, c2, c3, c4, c5].drop 1).take (Try.prog.cellsOf 3)) = some z1 := g1
  rw [cells3] at g1'
  obtain ⟨x1, u1, o1, b1⟩ := reads_int Try.underlying3 _ _ _ (show DataW.trod enc Try.prog w base spare held n 3 [c1] = some z1 from g1') e1
  obtain ⟨z, hz, g2, e2⟩ := hf 2 _ rfl
  obtain rfl : z2 = z := by simpa using hz
  have g2' : DataW.trod enc Try.prog w base spare held n 3 (([c0, c1, c2, c3, c4, c5].drop 2).take (Try.prog.cellsOf 3)) = some z2 := g2
  rw [cells3] at g2'
  obtain ⟨x2, u2, o2, b2⟩ := reads_int Try.underlying3 _ _ _ (show DataW.trod enc Try.prog w base spare held n 3 [c2] = some z2 from g2') e2
  obtain ⟨z, hz, g3, e3⟩ := hf 3 _ rfl
  obtain rfl : z3 = z := by simpa using hz
  have g3' : DataW.trod enc Try.prog w base spare held n 3 (([c0, c1, c2, c3, c4, c5].drop 3).take (Try.prog.cellsOf 3)) = some z3 := g3
  rw [cells3] at g3'
  obtain ⟨x3, u3, o3, b3⟩ := reads_int Try.underlying3 _ _ _ (show DataW.trod enc Try.prog w base spare held n 3 [c3] = some z3 from g3') e3
  obtain ⟨z, hz, g4, e4⟩ := hf 4 _ rfl
  obtain rfl : z4 = z := by simpa using hz
  have g4' : DataW.trod enc Try.prog w base spare held n 3 (([c0, c1, c2, c3, c4, c5].drop 4).take (Try.prog.cellsOf 3)) = some z4 := g4
  rw [cells3] at g4'
  obtain ⟨x4, u4, o4, b4⟩ := reads_int Try.underlying3 _ _ _ (show DataW.trod enc Try.prog w base spare held n 3 [c4] = some z4 from g4') e4
  obtain ⟨z, hz, g5, e5⟩ := hf 5 _ rfl
  obtain rfl : z5 = z := by simpa using hz
  have g5' : DataW.trod enc Try.prog w base spare held n 3 (([c0, c1, c2, c3, c4, c5].drop 5).take (Try.prog.cellsOf 3)) = some z5 := g5
  rw [cells3] at g5'
  obtain ⟨x5, u5, o5, b5⟩ := reads_int Try.underlying3 _ _ _ (show DataW.trod enc Try.prog w base spare held n 3 [c5] = some z5 from g5') e5
  dsimp only at b1
  dsimp only at b2
  dsimp only at b3
  dsimp only at b4
  dsimp only at b5
  refine ⟨⟨x0, x1, x2, x3, x4, x5⟩, ?_, ⟨o0, o1, o2, o3, o4, o5⟩, ?_⟩
  · simp [cellsRow] at u0 u1 u2 u3 u4 u5 ⊢
    simp [*]
  · rw [hy]
    simp only [bulkRow, Rows.uptoBulk, Rows.uptoBulkAll, List.map_cons, List.map_nil]
    omega

/-- []Row -/
def IsRows (w : World) (s : SliceV RowD) : Prop := IsSl cellsRow okRow 6 56 w s
theorem IsRows.below {w w' : World} {s : SliceV RowD} (h : IsRows w s) (hb : Below w.heap.size w w') : IsRows w' s := IsSl.below h hb (fun _ h => okRow_below h hb)
theorem reads_Rows {H : Type} {enc : TypeId × Value → H} {w : World} {base : Nat} {spare : Nat → Bool} {held : Bool} : Reads enc w base spare held 79 (fun s : SliceV RowD => [.slice s.a s.l.length s.c]) (fun w s => IsRows w s) (SliceV.bulk bulkRow) :=
  reads_slice (α := RowD) Try.underlying79 cells59 (by decide) bytes59 (fun _ => rfl) reads_Row

theorem IsStrs.get {w : World} {a : Option Addr} {c : Nat} {l : List ByteArray} (h : IsStrs w ⟨a, c, l⟩) {k : Nat} (hk : k < l.length) : ∃ (x : ByteArray) (b off : Nat), l[k]? = some x ∧ a = some ⟨b, off, none⟩ ∧ b < w.heap.size ∧
    w.cell? ⟨b, off + k, none⟩ = some (.string x) ∧ okStr x := by
  obtain ⟨⟨b, off, e, hlt, hc⟩, ho⟩ := IsSl.at' h k l[k] (List.getElem?_eq_getElem hk)
  refine ⟨l[k], b, off, List.getElem?_eq_getElem hk, e, hlt, ?_, ho⟩
  · have := hc 0 _ rfl
    simpa using this

theorem IsBlocks.get {w : World} {a : Option Addr} {c : Nat} {l : List BlockD} (h : IsBlocks w ⟨a, c, l⟩) {k : Nat} (hk : k < l.length) : ∃ (x : BlockD) (b off : Nat), l[k]? = some x ∧ a = some ⟨b, off, none⟩ ∧ b < w.heap.size ∧
    w.cell? ⟨b, off + k * 2, none⟩ = some (.int .i64 x.idx) ∧ w.cell? ⟨b, off + k * 2 + 1, none⟩ = some (.string x.data) ∧ okBlock w x := by
  obtain ⟨⟨b, off, e, hlt, hc⟩, ho⟩ := IsSl.at' h k l[k] (List.getElem?_eq_getElem hk)
  refine ⟨l[k], b, off, List.getElem?_eq_getElem hk, e, hlt, ?_, ?_, ho⟩
  · have := hc 0 _ rfl
    simpa using this
  · exact hc 1 _ rfl

theorem IsProps.get {w : World} {a : Option Addr} {c : Nat} {l : List PropD} (h : IsProps w ⟨a, c, l⟩) {k : Nat} (hk : k < l.length) : ∃ (x : PropD) (b off : Nat), l[k]? = some x ∧ a = some ⟨b, off, none⟩ ∧ b < w.heap.size ∧
    w.cell? ⟨b, off + k * 2, none⟩ = some (.string x.name) ∧ w.cell? ⟨b, off + k * 2 + 1, none⟩ = some (.string x.value) ∧ okProp w x := by
  obtain ⟨⟨b, off, e, hlt, hc⟩, ho⟩ := IsSl.at' h k l[k] (List.getElem?_eq_getElem hk)
  refine ⟨l[k], b, off, List.getElem?_eq_getElem hk, e, hlt, ?_, ?_, ho⟩
  · have := hc 0 _ rfl
    simpa using this
  · exact hc 1 _ rfl

theorem IsSnaps.get {w : World} {a : Option Addr} {c : Nat} {l : List SnapD} (h : IsSnaps w ⟨a, c, l⟩) {k : Nat} (hk : k < l.length) : ∃ (x : SnapD) (b off : Nat), l[k]? = some x ∧ a = some ⟨b, off, none⟩ ∧ b < w.heap.size ∧
    w.cell? ⟨b, off + k * 5, none⟩ = some (.string x.name) ∧ w.cell? ⟨b, off + k * 5 + 1, none⟩ = some (.int .i64 x.guid) ∧ w.cell? ⟨b, off + k * 5 + 2, none⟩ = some (.slice x.body.a x.body.l.length x.body.c) ∧ w.cell? ⟨b, off + k * 5 + 3, none⟩ = some (.slice x.tags.a x.tags.l.length x.tags.c) ∧ w.cell? ⟨b, off + k * 5 + 4, none⟩ = some (.slice x.own.a x.own.l.length x.own.c) ∧ okSnap w x := by
  obtain ⟨⟨b, off, e, hlt, hc⟩, ho⟩ := IsSl.at' h k l[k] (List.getElem?_eq_getElem hk)
  refine ⟨l[k], b, off, List.getElem?_eq_getElem hk, e, hlt, ?_, ?_, ?_, ?_, ?_, ho⟩
  · have := hc 0 _ rfl
    simpa using this
  · exact hc 1 _ rfl
  · exact hc 2 _ rfl
  · exact hc 3 _ rfl
  · exact hc 4 _ rfl

theorem IsSets.get {w : World} {a : Option Addr} {c : Nat} {l : List SetD} (h : IsSets w ⟨a, c, l⟩) {k : Nat} (hk : k < l.length) : ∃ (x : SetD) (b off : Nat), l[k]? = some x ∧ a = some ⟨b, off, none⟩ ∧ b < w.heap.size ∧
    w.cell? ⟨b, off + k * 5, none⟩ = some (.string x.path) ∧ w.cell? ⟨b, off + k * 5 + 1, none⟩ = some (.string x.origin) ∧ w.cell? ⟨b, off + k * 5 + 2, none⟩ = some (.slice x.body.a x.body.l.length x.body.c) ∧ w.cell? ⟨b, off + k * 5 + 3, none⟩ = some (.slice x.snaps.a x.snaps.l.length x.snaps.c) ∧ w.cell? ⟨b, off + k * 5 + 4, none⟩ = some (.slice x.own.a x.own.l.length x.own.c) ∧ okSet w x := by
  obtain ⟨⟨b, off, e, hlt, hc⟩, ho⟩ := IsSl.at' h k l[k] (List.getElem?_eq_getElem hk)
  refine ⟨l[k], b, off, List.getElem?_eq_getElem hk, e, hlt, ?_, ?_, ?_, ?_, ?_, ho⟩
  · have := hc 0 _ rfl
    simpa using this
  · exact hc 1 _ rfl
  · exact hc 2 _ rfl
  · exact hc 3 _ rfl
  · exact hc 4 _ rfl

theorem IsGrants.get {w : World} {a : Option Addr} {c : Nat} {l : List GrantD} (h : IsGrants w ⟨a, c, l⟩) {k : Nat} (hk : k < l.length) : ∃ (x : GrantD) (b off : Nat), l[k]? = some x ∧ a = some ⟨b, off, none⟩ ∧ b < w.heap.size ∧
    w.cell? ⟨b, off + k * 3, none⟩ = some (.string x.user) ∧ w.cell? ⟨b, off + k * 3 + 1, none⟩ = some (.string x.path) ∧ w.cell? ⟨b, off + k * 3 + 2, none⟩ = some (.int .i64 x.perms) ∧ okGrant w x := by
  obtain ⟨⟨b, off, e, hlt, hc⟩, ho⟩ := IsSl.at' h k l[k] (List.getElem?_eq_getElem hk)
  refine ⟨l[k], b, off, List.getElem?_eq_getElem hk, e, hlt, ?_, ?_, ?_, ho⟩
  · have := hc 0 _ rfl
    simpa using this
  · exact hc 1 _ rfl
  · exact hc 2 _ rfl

theorem IsEntrys.get {w : World} {a : Option Addr} {c : Nat} {l : List EntryD} (h : IsEntrys w ⟨a, c, l⟩) {k : Nat} (hk : k < l.length) : ∃ (x : EntryD) (b off : Nat), l[k]? = some x ∧ a = some ⟨b, off, none⟩ ∧ b < w.heap.size ∧
    w.cell? ⟨b, off + k * 4, none⟩ = some (.string x.user) ∧ w.cell? ⟨b, off + k * 4 + 1, none⟩ = some (.int .i64 x.kind) ∧ w.cell? ⟨b, off + k * 4 + 2, none⟩ = some (.string x.path) ∧ w.cell? ⟨b, off + k * 4 + 3, none⟩ = some (.int .i64 x.err) ∧ okEntry w x := by
  obtain ⟨⟨b, off, e, hlt, hc⟩, ho⟩ := IsSl.at' h k l[k] (List.getElem?_eq_getElem hk)
  refine ⟨l[k], b, off, List.getElem?_eq_getElem hk, e, hlt, ?_, ?_, ?_, ?_, ho⟩
  · have := hc 0 _ rfl
    simpa using this
  · exact hc 1 _ rfl
  · exact hc 2 _ rfl
  · exact hc 3 _ rfl

theorem IsStages.get {w : World} {a : Option Addr} {c : Nat} {l : List StageD} (h : IsStages w ⟨a, c, l⟩) {k : Nat} (hk : k < l.length) : ∃ (x : StageD) (b off : Nat), l[k]? = some x ∧ a = some ⟨b, off, none⟩ ∧ b < w.heap.size ∧
    w.cell? ⟨b, off + k * 21, none⟩ = some (.string x.into) ∧ w.cell? ⟨b, off + k * 21 + 1, none⟩ = some (.int .i64 x.begin_.kind) ∧ w.cell? ⟨b, off + k * 21 + 2, none⟩ = some (.string x.begin_.name) ∧ w.cell? ⟨b, off + k * 21 + 3, none⟩ = some (.int .i64 x.begin_.from_) ∧ w.cell? ⟨b, off + k * 21 + 4, none⟩ = some (.int .i64 x.begin_.guid) ∧ w.cell? ⟨b, off + k * 21 + 5, none⟩ = some (.slice x.begin_.own.a x.begin_.own.l.length x.begin_.own.c) ∧ w.cell? ⟨b, off + k * 21 + 6, none⟩ = some (.int .i64 x.begin_.index) ∧ w.cell? ⟨b, off + k * 21 + 7, none⟩ = some (.int .i64 x.begin_.count) ∧ w.cell? ⟨b, off + k * 21 + 8, none⟩ = some (.string x.begin_.data) ∧ w.cell? ⟨b, off + k * 21 + 9, none⟩ = some (.int .u64 x.begin_.sum.sa) ∧ w.cell? ⟨b, off + k * 21 + 10, none⟩ = some (.int .u64 x.begin_.sum.sb) ∧ w.cell? ⟨b, off + k * 21 + 11, none⟩ = some (.int .u64 x.begin_.sum.sc) ∧ w.cell? ⟨b, off + k * 21 + 12, none⟩ = some (.int .u64 x.begin_.sum.sd) ∧ w.cell? ⟨b, off + k * 21 + 13, none⟩ = some (.slice x.body.a x.body.l.length x.body.c) ∧ w.cell? ⟨b, off + k * 21 + 14, none⟩ = some (.int .i64 x.at_) ∧ w.cell? ⟨b, off + k * 21 + 15, none⟩ = some (.int .i64 x.next) ∧ w.cell? ⟨b, off + k * 21 + 16, none⟩ = some (.int .u64 x.sum.sa) ∧ w.cell? ⟨b, off + k * 21 + 17, none⟩ = some (.int .u64 x.sum.sb) ∧ w.cell? ⟨b, off + k * 21 + 18, none⟩ = some (.int .u64 x.sum.sc) ∧ w.cell? ⟨b, off + k * 21 + 19, none⟩ = some (.int .u64 x.sum.sd) ∧ w.cell? ⟨b, off + k * 21 + 20, none⟩ = some (.bool x.done) ∧ okStage w x := by
  obtain ⟨⟨b, off, e, hlt, hc⟩, ho⟩ := IsSl.at' h k l[k] (List.getElem?_eq_getElem hk)
  refine ⟨l[k], b, off, List.getElem?_eq_getElem hk, e, hlt, ?_, ?_, ?_, ?_, ?_, ?_, ?_, ?_, ?_, ?_, ?_, ?_, ?_, ?_, ?_, ?_, ?_, ?_, ?_, ?_, ?_, ho⟩
  · have := hc 0 _ rfl
    simpa using this
  · exact hc 1 _ rfl
  · exact hc 2 _ rfl
  · exact hc 3 _ rfl
  · exact hc 4 _ rfl
  · exact hc 5 _ rfl
  · exact hc 6 _ rfl
  · exact hc 7 _ rfl
  · exact hc 8 _ rfl
  · exact hc 9 _ rfl
  · exact hc 10 _ rfl
  · exact hc 11 _ rfl
  · exact hc 12 _ rfl
  · exact hc 13 _ rfl
  · exact hc 14 _ rfl
  · exact hc 15 _ rfl
  · exact hc 16 _ rfl
  · exact hc 17 _ rfl
  · exact hc 18 _ rfl
  · exact hc 19 _ rfl
  · exact hc 20 _ rfl

theorem IsTenants.get {w : World} {a : Option Addr} {c : Nat} {l : List TenantD} (h : IsTenants w ⟨a, c, l⟩) {k : Nat} (hk : k < l.length) : ∃ (x : TenantD) (b off : Nat), l[k]? = some x ∧ a = some ⟨b, off, none⟩ ∧ b < w.heap.size ∧
    w.cell? ⟨b, off + k * 7, none⟩ = some (.string x.name) ∧ w.cell? ⟨b, off + k * 7 + 1, none⟩ = some (.int .i64 x.quota) ∧ w.cell? ⟨b, off + k * 7 + 2, none⟩ = some (.int .i64 x.next) ∧ w.cell? ⟨b, off + k * 7 + 3, none⟩ = some (.slice x.sets.a x.sets.l.length x.sets.c) ∧ w.cell? ⟨b, off + k * 7 + 4, none⟩ = some (.slice x.grants.a x.grants.l.length x.grants.c) ∧ w.cell? ⟨b, off + k * 7 + 5, none⟩ = some (.slice x.stages.a x.stages.l.length x.stages.c) ∧ w.cell? ⟨b, off + k * 7 + 6, none⟩ = some (.slice x.log.a x.log.l.length x.log.c) ∧ okTenant w x := by
  obtain ⟨⟨b, off, e, hlt, hc⟩, ho⟩ := IsSl.at' h k l[k] (List.getElem?_eq_getElem hk)
  refine ⟨l[k], b, off, List.getElem?_eq_getElem hk, e, hlt, ?_, ?_, ?_, ?_, ?_, ?_, ?_, ho⟩
  · have := hc 0 _ rfl
    simpa using this
  · exact hc 1 _ rfl
  · exact hc 2 _ rfl
  · exact hc 3 _ rfl
  · exact hc 4 _ rfl
  · exact hc 5 _ rfl
  · exact hc 6 _ rfl

theorem IsRows.get {w : World} {a : Option Addr} {c : Nat} {l : List RowD} (h : IsRows w ⟨a, c, l⟩) {k : Nat} (hk : k < l.length) : ∃ (x : RowD) (b off : Nat), l[k]? = some x ∧ a = some ⟨b, off, none⟩ ∧ b < w.heap.size ∧
    w.cell? ⟨b, off + k * 6, none⟩ = some (.string x.name) ∧ w.cell? ⟨b, off + k * 6 + 1, none⟩ = some (.int .i64 x.sets) ∧ w.cell? ⟨b, off + k * 6 + 2, none⟩ = some (.int .i64 x.snaps) ∧ w.cell? ⟨b, off + k * 6 + 3, none⟩ = some (.int .i64 x.blocks) ∧ w.cell? ⟨b, off + k * 6 + 4, none⟩ = some (.int .i64 x.charge) ∧ w.cell? ⟨b, off + k * 6 + 5, none⟩ = some (.int .i64 x.quota) ∧ okRow w x := by
  obtain ⟨⟨b, off, e, hlt, hc⟩, ho⟩ := IsSl.at' h k l[k] (List.getElem?_eq_getElem hk)
  refine ⟨l[k], b, off, List.getElem?_eq_getElem hk, e, hlt, ?_, ?_, ?_, ?_, ?_, ?_, ho⟩
  · have := hc 0 _ rfl
    simpa using this
  · exact hc 1 _ rfl
  · exact hc 2 _ rfl
  · exact hc 3 _ rfl
  · exact hc 4 _ rfl
  · exact hc 5 _ rfl

theorem agg_shape {P : Program} {w : World} {r : Reach} {b0 : Nat} {t : TypeId} {fs : Array Field} {v : Value} (hs : P.underlying t = some (.struct fs)) (hv : Value.okWide P w r b0 t v) : ∃ cs, v = .agg cs := by
  obtain ⟨cs, h, _⟩ := okWide_struct hs hv
  exact ⟨cs, h⟩

/-- a struct by value -/
theorem agg_in {α : Type} {H : Type} {enc : TypeId × Value → H} {w : World} {base : Nat} {spare : Nat → Bool} {held : Bool} {t : TypeId} {cells : α → List Value} {ok : World → α → Prop} {bulk : α → Nat} {v : Value} {d : DataW H} {p : List MemPlace}
    (hR : Reads enc w base spare held t cells ok bulk) (hv : ∃ cs, v = .agg cs) (h : DataW.Trod enc Try.prog w base spare held t v d p)
    (hwt : ∀ n ∈ d.weights Try.prog t, n ≤ reachBytes) : ∃ x, v = .agg (cells x).toArray ∧ ok w x ∧ bulk x ≤ Rows.uptoBulk d := by
  obtain ⟨cs, rfl⟩ := hv
  obtain ⟨fuel, hf⟩ := h
  obtain ⟨x, hx, ho, hb⟩ := hR fuel _ _ hf hwt
  refine ⟨x, ?_, ho, hb⟩
  have e : cs.toList = cells x := by simpa [Value.cells] using hx
  rw [← e]

end Go.Proofs.Ytbkghiaafkmapaa
