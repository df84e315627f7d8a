/- Walks of the reference's parents and splits. No condition but a string's size. -/
import Derived.Test.YtbkghiaafkmapaaPaths
import Derived.Test.YtbkghiaafkmapaaQuiet
namespace Go.Proofs.Ytbkghiaafkmapaa
open Go.ChangeShapes Go.WideShapes Go.ChangeAt Go.RowKit

theorem below_drewN (B : Nat) (w : World) (n : Nat) : Below B w (w.drewN n) := ⟨rfl, rfl, rfl, Nat.le_refl _, fun _ _ => rfl⟩
/-- the last place of an octet among the first k -/
def lastAt (s : ByteArray) (c : Nat) : Nat → Option Nat
  | 0 => none
  | k + 1 => if (s.data.toList.getD k 0).toNat = c then some k else lastAt s c k
def parentS (s : ByteArray) : ByteArray := match lastAt s 47 s.size with
  | some i => s.extract 0 i
  | none => ⟨#[]⟩
def parV (s : ByteArray) : ByteArray × Bool := if s.toList.isEmpty = true ∨ pathB s = false then (⟨#[]⟩, false) else (parentS s, true)
theorem parV_size (s : ByteArray) : (parV s).1.size ≤ s.size := by
  unfold parV
  split
  · exact Nat.zero_le _
  · unfold parentS
    split
    · exact extract_size _ _ _
    · exact Nat.zero_le _

set_option maxRecDepth 100000 in
set_option maxHeartbeats 2000000 in
theorem Parent_any (s : ByteArray) (w : World) (hs : s.size ≤ 1048576) : Calls Try.prog 87 #[.string s] w fun e w' => e = .returned (.tuple #[.string (parV s).1, .bool (parV s).2]) ∧ Below w.heap.size w w' := by
  have HP : Hid (parV s = if s.toList.isEmpty = true ∨ pathB s = false then (⟨#[]⟩, false) else (parentS s, true)) := rfl
  have HS : Hid (parentS s = match lastAt s 47 s.size with
    | some i => s.extract 0 i
    | none => ⟨#[]⟩) := rfl
  have hC := fun W => Path_any s W hs
  generalize parV s = pv at *
  generalize parentS s = ps at *
  cases h0 : s.toList.isEmpty
  case true =>
    have HX : Hid (pv = (⟨#[]⟩, false)) := by show _ = _; rw [HP.out, if_pos (.inl h0)]
    have h0' : s.toList = [] := by simpa using h0
    clear HP hC
    go_enter Try.func87, Try.ntmps87
    go_wp2_with fail
    go_ret2
    exact ⟨by rw [HX.out]; rfl, Below.refl _ _⟩
  case false =>
    have h0' : (!s.toList.isEmpty) = true := by rw [h0]; rfl
    cases hp : pathB s
    · have HX : Hid (pv = (⟨#[]⟩, false)) := by show _ = _; rw [HP.out, if_pos (.inr hp)]
      rw [hp] at hC
      have HC := Lib.hid hC
      clear HP hC hp
      go_enter Try.func87, Try.ntmps87
      go_wp2_with fail
      refine (HC.out _).mono ?_
      rintro e w1 ⟨rfl, hb⟩
      have HB := Lib.hid hb
      clear hb
      go_wp2_with fail
      go_ret2
      exact ⟨by rw [HX.out]; rfl, HB.out⟩
    · have HX : Hid (pv = (ps, true)) := by show _ = _; rw [HP.out, if_neg (by simp [h0, hp])]
      rw [hp] at hC
      have HC := Lib.hid hC
      clear HP hC hp
      go_enter Try.func87, Try.ntmps87
      go_wp2_with fail
      refine (HC.out _).mono ?_
      rintro e w1 ⟨rfl, hb⟩
      have HB := Lib.hid hb
      clear hb
      go_wp2_with fail
      go_loopg [4] s.size (fun g i wr => g ≤ s.size ∧ i = .int .i64 ((g : Int) - 1) ∧ lastAt s 47 s.size = lastAt s 47 g ∧ w1 = wr)
      case atStart => exact ⟨Nat.le_refl _, rfl, rfl, rfl⟩
      case round =>
        obtain ⟨hg, rfl, hl, rfl⟩ := hrel
        have HL := Lib.hid hl
        clear hl
        cases gk with
        | zero =>
          have hi1 : ((0 : Nat) : Int) - 1 = -1 := rfl
          rw [hi1]
          clear hi1
          have HX2 : Hid (ps = ⟨#[]⟩) := by show _ = _; rw [HS.out, HL.out]; rfl
          go_wp2_with fail
          go_ret2
          exact ⟨by rw [HX.out, HX2.out]; rfl, HB.out⟩
        | succ g =>
          have hi1 : ((g + 1 : Nat) : Int) - 1 = (g : Int) := by omega
          rw [hi1]
          clear hi1
          have hlt : g < s.size := by omega
          have hl0 : (0 : Int) ≤ (g : Int) := by omega
          have hl1 : (g : Int) < (s.size : Int) := by omega
          have HE := Lib.hid (str_getD s hlt)
          have HST : Hid (lastAt s 47 (g + 1) = if (s.data.toList.getD g 0).toNat = 47 then some g else lastAt s 47 g) := rfl
          by_cases hcc : s[g].toNat = 47
          · have hcc' : ((s[g].toNat : Int) == 47) = true := by simp [hcc]
            have HX2 : Hid (ps = s.extract 0 g) := by show _ = _; rw [HS.out, HL.out, HST.out, HE.out, if_pos hcc]
            clear HST hcc
            go_wp2_with fail
            go_ret2
            exact ⟨by rw [HX.out, HX2.out]; rfl, HB.out⟩
          · have hcc' : ((s[g].toNat : Int) == 47) = false := by simp; omega
            have HX2 : Hid (lastAt s 47 s.size = lastAt s 47 g) := by show _ = _; rw [HL.out, HST.out, HE.out, if_neg hcc]
            clear HST hcc
            go_wp2_with fail
            go_roundg g
            case measure => omega
            case rel => exact ⟨by omega, by go_num, HX2.out, rfl⟩

/-- the first '@' from k on -/
def firstFrom (s : ByteArray) (k : Nat) : Option Nat := if k < s.size then (if (s.data.toList.getD k 0).toNat = 64 then some k else firstFrom s (k + 1)) else none
termination_by s.size - k
def splitV (s : ByteArray) : ByteArray × ByteArray × Int := match firstFrom s 0 with
  | none => (⟨#[]⟩, ⟨#[]⟩, 31)
  | some i => if pathB (s.extract 0 i) = true ∧ nameB (s.extract (i + 1) s.size) = true then (s.extract 0 i, s.extract (i + 1) s.size, 0) else (⟨#[]⟩, ⟨#[]⟩, 31)
theorem splitV_size (s : ByteArray) : (splitV s).1.size ≤ s.size ∧ (splitV s).2.1.size ≤ s.size := by
  unfold splitV
  split
  · exact ⟨Nat.zero_le _, Nat.zero_le _⟩
  · split
    · exact ⟨extract_size _ _ _, extract_size _ _ _⟩
    · exact ⟨Nat.zero_le _, Nat.zero_le _⟩

set_option maxRecDepth 100000 in
set_option maxHeartbeats 2000000 in
theorem Split_any (s : ByteArray) (w : World) (hs : s.size ≤ 1048576) : Calls Try.prog 90 #[.string s] w fun e w' => e = .returned (.tuple #[.string (splitV s).1, .string (splitV s).2.1, .int .i64 (splitV s).2.2]) ∧ Below w.heap.size w w' := by
  have HS : Hid (splitV s = match firstFrom s 0 with
    | none => (⟨#[]⟩, ⟨#[]⟩, 31)
    | some i => if pathB (s.extract 0 i) = true ∧ nameB (s.extract (i + 1) s.size) = true then (s.extract 0 i, s.extract (i + 1) s.size, 0) else (⟨#[]⟩, ⟨#[]⟩, 31)) := rfl
  generalize splitV s = sv at *
  go_enter Try.func90, Try.ntmps90
  go_wp2_with fail
  go_loop [5] (fun i => ∃ k : Nat, k ≤ s.size ∧ i = .int .i64 k ∧ firstFrom s 0 = firstFrom s k) (fun i => s.size - (intOf i).toNat)
  case atStart => exact ⟨0, Nat.zero_le _, rfl, rfl⟩
  case round =>
    obtain ⟨k, hk, rfl, hl⟩ := hrel
    have HL := Lib.hid hl
    clear hl
    by_cases hlt : k < s.size
    · have hl0 : (0 : Int) ≤ (k : Int) := by omega
      have hl1 : (k : Int) < (s.size : Int) := by omega
      have HST : Hid (firstFrom s k = if s[k].toNat = 64 then some k else firstFrom s (k + 1)) := by show _ = _; rw [firstFrom, if_pos hlt, str_getD s hlt]
      by_cases hcc : s[k].toNat = 64
      · have hcc' : ((s[k].toNat : Int) == 64) = true := by simp [hcc]
        have HX : Hid (sv = if pathB (s.extract 0 k) = true ∧ nameB (s.extract (k + 1) s.size) = true then (s.extract 0 k, s.extract (k + 1) s.size, 0) else (⟨#[]⟩, ⟨#[]⟩, 31)) := by show _ = _; rw [HS.out, HL.out, HST.out, if_pos hcc]
        have hC := fun W => Path_any (s.extract 0 k) W (Nat.le_trans (extract_size _ _ _) hs)
        have hN := fun W => Name_any (s.extract (k + 1) s.size) W (Nat.le_trans (extract_size _ _ _) (by omega))
        have hk0 : (k : Int) ≤ (s.size : Int) := by omega
        have hk1 : (k : Int) + 1 ≤ (s.size : Int) := by omega
        have hk2 : ((k : Int) + 1).toNat = k + 1 := by omega
        clear HST hcc HS HL
        cases hp : pathB (s.extract 0 k)
        · have HX2 : Hid (sv = (⟨#[]⟩, ⟨#[]⟩, 31)) := by show _ = _; rw [HX.out, if_neg (by simp [hp])]
          rw [hp] at hC
          have HC := Lib.hid hC
          clear hC hN hp HX
          go_wp2_with fail
          refine (HC.out _).mono ?_
          rintro e w1 ⟨rfl, hb⟩
          have HB := Lib.hid hb
          clear hb
          go_wp2_with fail
          exact bodyPost_ret (v := .tuple #[.string ⟨#[]⟩, .string ⟨#[]⟩, .int .i64 31]) (by simp [results, Try.results90, go_sem]) rfl ⟨by rw [HX2.out], HB.out⟩
        · rw [hp] at hC
          have HC := Lib.hid hC
          clear hC
          cases hn : nameB (s.extract (k + 1) s.size)
          · have HX2 : Hid (sv = (⟨#[]⟩, ⟨#[]⟩, 31)) := by show _ = _; rw [HX.out, if_neg (by simp [hn])]
            rw [hn] at hN
            have HN := Lib.hid hN
            clear hN hp hn HX
            go_wp2_with fail
            refine (HC.out _).mono ?_
            rintro e w1 ⟨rfl, hb⟩
            have HB := Lib.hid hb
            clear hb
            go_wp2_with fail
            refine (HN.out _).mono ?_
            rintro e w2 ⟨rfl, rfl⟩
            go_wp2_with fail
            exact bodyPost_ret (v := .tuple #[.string ⟨#[]⟩, .string ⟨#[]⟩, .int .i64 31]) (by simp [results, Try.results90, go_sem]) rfl ⟨by rw [HX2.out], HB.out⟩
          · have HX2 : Hid (sv = (s.extract 0 k, s.extract (k + 1) s.size, 0)) := by show _ = _; rw [HX.out, if_pos ⟨hp, hn⟩]
            rw [hn] at hN
            have HN := Lib.hid hN
            clear hN hp hn HX
            go_wp2_with fail
            refine (HC.out _).mono ?_
            rintro e w1 ⟨rfl, hb⟩
            have HB := Lib.hid hb
            clear hb
            go_wp2_with fail
            refine (HN.out _).mono ?_
            rintro e w2 ⟨rfl, rfl⟩
            go_wp2_with fail
            go_quiet (fail)
            go_wp2_with fail
            exact bodyPost_ret (v := .tuple #[.string (s.extract 0 k), .string (s.extract (k + 1) s.size), .int .i64 0]) (by simp [results, Try.results90, go_sem]) rfl ⟨by rw [HX2.out], HB.out.trans (below_drewN _ _ _)⟩
      · have hcc' : ((s[k].toNat : Int) == 64) = false := by simp; omega
        have HX2 : Hid (firstFrom s 0 = firstFrom s (k + 1)) := by show _ = _; rw [HL.out, HST.out, if_neg hcc]
        clear HST hcc
        go_wp2_with fail
        go_round
        case rel => exact ⟨k + 1, by omega, by go_num, HX2.out⟩
        case measure => simp [intOf]; omega
    · have HX2 : Hid (sv = (⟨#[]⟩, ⟨#[]⟩, 31)) := by show _ = _; rw [HS.out, HL.out, firstFrom, if_neg hlt]
      go_wp2_with fail
      exact bodyPost_ret (v := .tuple #[.string ⟨#[]⟩, .string ⟨#[]⟩, .int .i64 31]) (by simp [results, Try.results90, go_sem]) rfl ⟨by rw [HX2.out], Below.refl _ _⟩
end Go.Proofs.Ytbkghiaafkmapaa
