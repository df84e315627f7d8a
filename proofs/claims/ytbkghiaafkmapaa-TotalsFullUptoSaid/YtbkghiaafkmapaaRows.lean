/-
  No cell of these rows narrows 'for every input' (looked for: loops, veiled, ifaces, maps, wideKeys, modest, calm, conditions, laid).
  DERIVED. THE GIVEN ROWS OF THIS SEAT. 12 by the template 'for every input the law returns true; each argument reads behind the call as it read before'; 0 by the template 'total and deterministic' (their statements: YtbkghiaafkmapaaTotals.lean).
  GIVEN WITH THE SEED: the statements are not yours to turn. If you find one false, say at which input.
  Laid BY PROGRAM, IN A SANDBOX (cutbox-rows.mjs): the forced cells as the released guide's own fill.sh prints them over the translation a2803a92d3e5ec7d… (all of the seat's roots in one cut). By AI agents, Wed Nov 11 2026. No macro, syntax, notation, axiom, sorry.
-/
import Derived.Test.YtbkghiaafkmapaaChecked
import GoSem.Claim
import GoSem.ClaimJoined
import GoSem.ClaimMapViews
import Derived.JoinedTies
import Derived.KernelRfl
namespace Go.Proofs.Ytbkghiaafkmapaa
/- THE CELL 'sum', in the pinned program and in every row, IS THE sha256 OF THE DUMP (.gsa) THAT YtbkghiaafkmapaaProg.lean LOADS. Nothing in Lean hashes anything: it is a label: what it is worth is what the hold of that sum in a sandbox is worth. -/
noncomputable def Try.pinned : Pinned := { name := "ytbkghiaafkmapaa", sum := "a2803a92d3e5ec7d15dbe871bab40eaa209f7d459c0ace6b0e2a17b892ec3dc9", checked := Try.checked }
namespace Rows
def none {H : Type} : Left H := { results := [], args := [] }

/-- 'godownlaw02.CountAdds': WHATEVER THE INPUT: true; the input reads as it did. -/
def countAddsSpec : ChangeSpec := { name := "countAdds", fn := fun _ => fun
  | [d] => { results := [.lit (.bool true)], args := [d] }
  | _ => none }
def countAddsRow : OpenClaim := { program := "ytbkghiaafkmapaa", sum := "a2803a92d3e5ec7d15dbe871bab40eaa209f7d459c0ace6b0e2a17b892ec3dc9", func := "godown/godownlaw02.CountAdds", spec := "countAdds", unfollowed := true, recurses := true, apart := false }
def CountAddsSaid : Prop := countAddsRow.holds Try.pinned (OpenSpec.ofChange countAddsSpec)

/-- ITS FALSE NEIGHBOUR: 'it returns false'. Refute it at one input. -/
def countAddsWrong : ChangeSpec := { name := "countAdds", fn := fun _ => fun
  | [d] => { results := [.lit (.bool false)], args := [d] }
  | _ => none }
def CountAddsWrongFalsely : Prop := countAddsRow.holds Try.pinned (OpenSpec.ofChange countAddsWrong)

/-- 'godownlaw02.CountBack': WHATEVER THE INPUT: true; the input reads as it did. -/
def countBackSpec : ChangeSpec := { name := "countBack", fn := fun _ => fun
  | [d1, d2, d3] => { results := [.lit (.bool true)], args := [d1, d2, d3] }
  | _ => none }
def countBackRow : OpenClaim := { program := "ytbkghiaafkmapaa", sum := "a2803a92d3e5ec7d15dbe871bab40eaa209f7d459c0ace6b0e2a17b892ec3dc9", func := "godown/godownlaw02.CountBack", spec := "countBack", unfollowed := true, recurses := true, apart := false }
def CountBackSaid : Prop := countBackRow.holds Try.pinned (OpenSpec.ofChange countBackSpec)

/-- ITS FALSE NEIGHBOUR: 'it returns false'. Refute it at one input. -/
def countBackWrong : ChangeSpec := { name := "countBack", fn := fun _ => fun
  | [d1, d2, d3] => { results := [.lit (.bool false)], args := [d1, d2, d3] }
  | _ => none }
def CountBackWrongFalsely : Prop := countBackRow.holds Try.pinned (OpenSpec.ofChange countBackWrong)

/-- 'godownlaw15.UsageSnaps': WHATEVER THE INPUT: true; the input reads as it did. -/
def usageSnapsSpec : ChangeSpec := { name := "usageSnaps", fn := fun _ => fun
  | [d1, d2] => { results := [.lit (.bool true)], args := [d1, d2] }
  | _ => none }
def usageSnapsRow : OpenClaim := { program := "ytbkghiaafkmapaa", sum := "a2803a92d3e5ec7d15dbe871bab40eaa209f7d459c0ace6b0e2a17b892ec3dc9", func := "godown/godownlaw15.UsageSnaps", spec := "usageSnaps", unfollowed := true, recurses := true, apart := false }
def UsageSnapsSaid : Prop := usageSnapsRow.holds Try.pinned (OpenSpec.ofChange usageSnapsSpec)

/-- ITS FALSE NEIGHBOUR: 'it returns false'. Refute it at one input. -/
def usageSnapsWrong : ChangeSpec := { name := "usageSnaps", fn := fun _ => fun
  | [d1, d2] => { results := [.lit (.bool false)], args := [d1, d2] }
  | _ => none }
def UsageSnapsWrongFalsely : Prop := usageSnapsRow.holds Try.pinned (OpenSpec.ofChange usageSnapsWrong)

/-- 'godownlaw15.UsageUnique': WHATEVER THE INPUT: true; the input reads as it did. -/
def usageUniqueSpec : ChangeSpec := { name := "usageUnique", fn := fun _ => fun
  | [d1, d2] => { results := [.lit (.bool true)], args := [d1, d2] }
  | _ => none }
def usageUniqueRow : OpenClaim := { program := "ytbkghiaafkmapaa", sum := "a2803a92d3e5ec7d15dbe871bab40eaa209f7d459c0ace6b0e2a17b892ec3dc9", func := "godown/godownlaw15.UsageUnique", spec := "usageUnique", unfollowed := true, recurses := true, apart := false }
def UsageUniqueSaid : Prop := usageUniqueRow.holds Try.pinned (OpenSpec.ofChange usageUniqueSpec)

/-- ITS FALSE NEIGHBOUR: 'it returns false'. Refute it at one input. -/
def usageUniqueWrong : ChangeSpec := { name := "usageUnique", fn := fun _ => fun
  | [d1, d2] => { results := [.lit (.bool false)], args := [d1, d2] }
  | _ => none }
def UsageUniqueWrongFalsely : Prop := usageUniqueRow.holds Try.pinned (OpenSpec.ofChange usageUniqueWrong)

/-- 'godownlaw02.CountTells': WHATEVER THE INPUT: true; the input reads as it did. -/
def countTellsSpec : ChangeSpec := { name := "countTells", fn := fun _ => fun
  | [d1, d2, d3] => { results := [.lit (.bool true)], args := [d1, d2, d3] }
  | _ => none }
def countTellsRow : OpenClaim := { program := "ytbkghiaafkmapaa", sum := "a2803a92d3e5ec7d15dbe871bab40eaa209f7d459c0ace6b0e2a17b892ec3dc9", func := "godown/godownlaw02.CountTells", spec := "countTells", unfollowed := true, recurses := true, apart := false }
def CountTellsSaid : Prop := countTellsRow.holds Try.pinned (OpenSpec.ofChange countTellsSpec)

/-- ITS FALSE NEIGHBOUR: 'it returns false'. Refute it at one input. -/
def countTellsWrong : ChangeSpec := { name := "countTells", fn := fun _ => fun
  | [d1, d2, d3] => { results := [.lit (.bool false)], args := [d1, d2, d3] }
  | _ => none }
def CountTellsWrongFalsely : Prop := countTellsRow.holds Try.pinned (OpenSpec.ofChange countTellsWrong)

/-- 'godownlaw15.UsageTells': WHATEVER THE INPUT: true; the input reads as it did. -/
def usageTellsSpec : ChangeSpec := { name := "usageTells", fn := fun _ => fun
  | [d1, d2, d3] => { results := [.lit (.bool true)], args := [d1, d2, d3] }
  | _ => none }
def usageTellsRow : OpenClaim := { program := "ytbkghiaafkmapaa", sum := "a2803a92d3e5ec7d15dbe871bab40eaa209f7d459c0ace6b0e2a17b892ec3dc9", func := "godown/godownlaw15.UsageTells", spec := "usageTells", unfollowed := true, recurses := true, apart := false }
def UsageTellsSaid : Prop := usageTellsRow.holds Try.pinned (OpenSpec.ofChange usageTellsSpec)

/-- ITS FALSE NEIGHBOUR: 'it returns false'. Refute it at one input. -/
def usageTellsWrong : ChangeSpec := { name := "usageTells", fn := fun _ => fun
  | [d1, d2, d3] => { results := [.lit (.bool false)], args := [d1, d2, d3] }
  | _ => none }
def UsageTellsWrongFalsely : Prop := usageTellsRow.holds Try.pinned (OpenSpec.ofChange usageTellsWrong)

/-- 'godownlaw37.TotalsTells': WHATEVER THE INPUT: true; the input reads as it did. -/
def totalsTellsSpec : ChangeSpec := { name := "totalsTells", fn := fun _ => fun
  | [d1, d2] => { results := [.lit (.bool true)], args := [d1, d2] }
  | _ => none }
def totalsTellsRow : OpenClaim := { program := "ytbkghiaafkmapaa", sum := "a2803a92d3e5ec7d15dbe871bab40eaa209f7d459c0ace6b0e2a17b892ec3dc9", func := "godown/godownlaw37.TotalsTells", spec := "totalsTells", unfollowed := true, recurses := true, apart := false }
def TotalsTellsSaid : Prop := totalsTellsRow.holds Try.pinned (OpenSpec.ofChange totalsTellsSpec)

/-- ITS FALSE NEIGHBOUR: 'it returns false'. Refute it at one input. -/
def totalsTellsWrong : ChangeSpec := { name := "totalsTells", fn := fun _ => fun
  | [d1, d2] => { results := [.lit (.bool false)], args := [d1, d2] }
  | _ => none }
def TotalsTellsWrongFalsely : Prop := totalsTellsRow.holds Try.pinned (OpenSpec.ofChange totalsTellsWrong)

/-- 'godownlaw24.LedgerMore': WHATEVER THE INPUT: true; the input reads as it did. -/
def ledgerMoreSpec : ChangeSpec := { name := "ledgerMore", fn := fun _ => fun
  | [d1, d2, d3, d4] => { results := [.lit (.bool true)], args := [d1, d2, d3, d4] }
  | _ => none }
def ledgerMoreRow : OpenClaim := { program := "ytbkghiaafkmapaa", sum := "a2803a92d3e5ec7d15dbe871bab40eaa209f7d459c0ace6b0e2a17b892ec3dc9", func := "godown/godownlaw24.LedgerMore", spec := "ledgerMore", unfollowed := true, recurses := true, apart := false }
def LedgerMoreSaid : Prop := ledgerMoreRow.holds Try.pinned (OpenSpec.ofChange ledgerMoreSpec)

/-- ITS FALSE NEIGHBOUR: 'it returns false'. Refute it at one input. -/
def ledgerMoreWrong : ChangeSpec := { name := "ledgerMore", fn := fun _ => fun
  | [d1, d2, d3, d4] => { results := [.lit (.bool false)], args := [d1, d2, d3, d4] }
  | _ => none }
def LedgerMoreWrongFalsely : Prop := ledgerMoreRow.holds Try.pinned (OpenSpec.ofChange ledgerMoreWrong)

/-- 'godownlaw24.LedgerTells': WHATEVER THE INPUT: true; the input reads as it did. -/
def ledgerTellsSpec : ChangeSpec := { name := "ledgerTells", fn := fun _ => fun
  | [d1, d2] => { results := [.lit (.bool true)], args := [d1, d2] }
  | _ => none }
def ledgerTellsRow : OpenClaim := { program := "ytbkghiaafkmapaa", sum := "a2803a92d3e5ec7d15dbe871bab40eaa209f7d459c0ace6b0e2a17b892ec3dc9", func := "godown/godownlaw24.LedgerTells", spec := "ledgerTells", unfollowed := true, recurses := true, apart := false }
def LedgerTellsSaid : Prop := ledgerTellsRow.holds Try.pinned (OpenSpec.ofChange ledgerTellsSpec)

/-- ITS FALSE NEIGHBOUR: 'it returns false'. Refute it at one input. -/
def ledgerTellsWrong : ChangeSpec := { name := "ledgerTells", fn := fun _ => fun
  | [d1, d2] => { results := [.lit (.bool false)], args := [d1, d2] }
  | _ => none }
def LedgerTellsWrongFalsely : Prop := ledgerTellsRow.holds Try.pinned (OpenSpec.ofChange ledgerTellsWrong)

/-- 'godownlaw24.LedgerEnough': WHATEVER THE INPUT: true; the input reads as it did. -/
def ledgerEnoughSpec : ChangeSpec := { name := "ledgerEnough", fn := fun _ => fun
  | [d1, d2] => { results := [.lit (.bool true)], args := [d1, d2] }
  | _ => none }
def ledgerEnoughRow : OpenClaim := { program := "ytbkghiaafkmapaa", sum := "a2803a92d3e5ec7d15dbe871bab40eaa209f7d459c0ace6b0e2a17b892ec3dc9", func := "godown/godownlaw24.LedgerEnough", spec := "ledgerEnough", unfollowed := true, recurses := true, apart := false }
def LedgerEnoughSaid : Prop := ledgerEnoughRow.holds Try.pinned (OpenSpec.ofChange ledgerEnoughSpec)

/-- ITS FALSE NEIGHBOUR: 'it returns false'. Refute it at one input. -/
def ledgerEnoughWrong : ChangeSpec := { name := "ledgerEnough", fn := fun _ => fun
  | [d1, d2] => { results := [.lit (.bool false)], args := [d1, d2] }
  | _ => none }
def LedgerEnoughWrongFalsely : Prop := ledgerEnoughRow.holds Try.pinned (OpenSpec.ofChange ledgerEnoughWrong)

/-- 'godownlaw37.TotalsSums': WHATEVER THE INPUT: true; the input reads as it did. -/
def totalsSumsSpec : ChangeSpec := { name := "totalsSums", fn := fun _ => fun
  | [d] => { results := [.lit (.bool true)], args := [d] }
  | _ => none }
def totalsSumsRow : OpenClaim := { program := "ytbkghiaafkmapaa", sum := "a2803a92d3e5ec7d15dbe871bab40eaa209f7d459c0ace6b0e2a17b892ec3dc9", func := "godown/godownlaw37.TotalsSums", spec := "totalsSums", unfollowed := true, recurses := true, apart := false }
def TotalsSumsSaid : Prop := totalsSumsRow.holds Try.pinned (OpenSpec.ofChange totalsSumsSpec)

/-- ITS FALSE NEIGHBOUR: 'it returns false'. Refute it at one input. -/
def totalsSumsWrong : ChangeSpec := { name := "totalsSums", fn := fun _ => fun
  | [d] => { results := [.lit (.bool false)], args := [d] }
  | _ => none }
def TotalsSumsWrongFalsely : Prop := totalsSumsRow.holds Try.pinned (OpenSpec.ofChange totalsSumsWrong)

/-- 'godownlaw37.TotalsFull': WHATEVER THE INPUT: true; the input reads as it did. -/
def totalsFullSpec : ChangeSpec := { name := "totalsFull", fn := fun _ => fun
  | [d1, d2] => { results := [.lit (.bool true)], args := [d1, d2] }
  | _ => none }
def totalsFullRow : OpenClaim := { program := "ytbkghiaafkmapaa", sum := "a2803a92d3e5ec7d15dbe871bab40eaa209f7d459c0ace6b0e2a17b892ec3dc9", func := "godown/godownlaw37.TotalsFull", spec := "totalsFull", unfollowed := true, recurses := true, apart := false }
def TotalsFullSaid : Prop := totalsFullRow.holds Try.pinned (OpenSpec.ofChange totalsFullSpec)

/-- ITS FALSE NEIGHBOUR: 'it returns false'. Refute it at one input. -/
def totalsFullWrong : ChangeSpec := { name := "totalsFull", fn := fun _ => fun
  | [d1, d2] => { results := [.lit (.bool false)], args := [d1, d2] }
  | _ => none }
def TotalsFullWrongFalsely : Prop := totalsFullRow.holds Try.pinned (OpenSpec.ofChange totalsFullWrong)

/- THE SECOND FORM. 'bulk': how many values and letters a reading holds, each counted each time it is reached (what is shared counts as often as it is met; a slice's spare places count too). A statement '..UptoSaid' is the law's where the arguments, and the package variables that the reading takes, are together of bulk at most 1048576: NARROWER than '..Said'. Prove '..Said' where nothing that the law and all that it calls make is longer than what came in: it says more and counts as full. Else prove '..UptoSaid'. A law counts once. -/
mutual
def uptoBulk {H : Type} : DataW H → Nat
  | .lit (.string bytes) => bytes.length + 1
  | .lit _ => 1
  | .nil => 1
  | .ptr d => uptoBulk d + 1
  | .slice elems spare => uptoBulkAll elems + uptoBulkAll spare + 1
  | .agg parts => uptoBulkAll parts + 1
  | .iface _ d => uptoBulk d + 1
  | .map entries => uptoBulkEntries entries + 1
  | .held _ => 1
def uptoBulkAll {H : Type} : List (DataW H) → Nat
  | [] => 0
  | d :: r => uptoBulk d + uptoBulkAll r
def uptoBulkEntries {H : Type} : List (Lit × DataW H) → Nat
  | [] => 0
  | x :: r => uptoBulkEntry x + uptoBulkEntries r
def uptoBulkEntry {H : Type} : Lit × DataW H → Nat
  | (.string bytes, d) => bytes.length + uptoBulk d + 1
  | (_, d) => uptoBulk d + 1
 end
def uptoSmall : (H : Type) → List (DataW H) → Bool := fun _ ds => decide (uptoBulkAll ds ≤ 1048576)
def OpenSpec.upto (s : _root_.Go.ChangeSpec) : _root_.Go.OpenSpec := { _root_.Go.OpenSpec.ofChange s with cond := some uptoSmall }

/-- 'godownlaw02.CountAdds', WHERE WHAT IT READS IS OF BULK AT MOST 1048576: true; the input reads as it did. -/
def countAddsUptoRow : OpenClaim := { program := "ytbkghiaafkmapaa", sum := "a2803a92d3e5ec7d15dbe871bab40eaa209f7d459c0ace6b0e2a17b892ec3dc9", func := "godown/godownlaw02.CountAdds", spec := "countAdds", unfollowed := true, recurses := true, apart := false, narrowed := true }
def CountAddsUptoSaid : Prop := countAddsUptoRow.holds Try.pinned (OpenSpec.upto countAddsSpec)

/-- 'godownlaw02.CountBack', WHERE WHAT IT READS IS OF BULK AT MOST 1048576: true; the input reads as it did. -/
def countBackUptoRow : OpenClaim := { program := "ytbkghiaafkmapaa", sum := "a2803a92d3e5ec7d15dbe871bab40eaa209f7d459c0ace6b0e2a17b892ec3dc9", func := "godown/godownlaw02.CountBack", spec := "countBack", unfollowed := true, recurses := true, apart := false, narrowed := true }
def CountBackUptoSaid : Prop := countBackUptoRow.holds Try.pinned (OpenSpec.upto countBackSpec)

/-- 'godownlaw15.UsageSnaps', WHERE WHAT IT READS IS OF BULK AT MOST 1048576: true; the input reads as it did. -/
def usageSnapsUptoRow : OpenClaim := { program := "ytbkghiaafkmapaa", sum := "a2803a92d3e5ec7d15dbe871bab40eaa209f7d459c0ace6b0e2a17b892ec3dc9", func := "godown/godownlaw15.UsageSnaps", spec := "usageSnaps", unfollowed := true, recurses := true, apart := false, narrowed := true }
def UsageSnapsUptoSaid : Prop := usageSnapsUptoRow.holds Try.pinned (OpenSpec.upto usageSnapsSpec)

/-- 'godownlaw15.UsageUnique', WHERE WHAT IT READS IS OF BULK AT MOST 1048576: true; the input reads as it did. -/
def usageUniqueUptoRow : OpenClaim := { program := "ytbkghiaafkmapaa", sum := "a2803a92d3e5ec7d15dbe871bab40eaa209f7d459c0ace6b0e2a17b892ec3dc9", func := "godown/godownlaw15.UsageUnique", spec := "usageUnique", unfollowed := true, recurses := true, apart := false, narrowed := true }
def UsageUniqueUptoSaid : Prop := usageUniqueUptoRow.holds Try.pinned (OpenSpec.upto usageUniqueSpec)

/-- 'godownlaw02.CountTells', WHERE WHAT IT READS IS OF BULK AT MOST 1048576: true; the input reads as it did. -/
def countTellsUptoRow : OpenClaim := { program := "ytbkghiaafkmapaa", sum := "a2803a92d3e5ec7d15dbe871bab40eaa209f7d459c0ace6b0e2a17b892ec3dc9", func := "godown/godownlaw02.CountTells", spec := "countTells", unfollowed := true, recurses := true, apart := false, narrowed := true }
def CountTellsUptoSaid : Prop := countTellsUptoRow.holds Try.pinned (OpenSpec.upto countTellsSpec)

/-- 'godownlaw15.UsageTells', WHERE WHAT IT READS IS OF BULK AT MOST 1048576: true; the input reads as it did. -/
def usageTellsUptoRow : OpenClaim := { program := "ytbkghiaafkmapaa", sum := "a2803a92d3e5ec7d15dbe871bab40eaa209f7d459c0ace6b0e2a17b892ec3dc9", func := "godown/godownlaw15.UsageTells", spec := "usageTells", unfollowed := true, recurses := true, apart := false, narrowed := true }
def UsageTellsUptoSaid : Prop := usageTellsUptoRow.holds Try.pinned (OpenSpec.upto usageTellsSpec)

/-- 'godownlaw37.TotalsTells', WHERE WHAT IT READS IS OF BULK AT MOST 1048576: true; the input reads as it did. -/
def totalsTellsUptoRow : OpenClaim := { program := "ytbkghiaafkmapaa", sum := "a2803a92d3e5ec7d15dbe871bab40eaa209f7d459c0ace6b0e2a17b892ec3dc9", func := "godown/godownlaw37.TotalsTells", spec := "totalsTells", unfollowed := true, recurses := true, apart := false, narrowed := true }
def TotalsTellsUptoSaid : Prop := totalsTellsUptoRow.holds Try.pinned (OpenSpec.upto totalsTellsSpec)

/-- 'godownlaw24.LedgerMore', WHERE WHAT IT READS IS OF BULK AT MOST 1048576: true; the input reads as it did. -/
def ledgerMoreUptoRow : OpenClaim := { program := "ytbkghiaafkmapaa", sum := "a2803a92d3e5ec7d15dbe871bab40eaa209f7d459c0ace6b0e2a17b892ec3dc9", func := "godown/godownlaw24.LedgerMore", spec := "ledgerMore", unfollowed := true, recurses := true, apart := false, narrowed := true }
def LedgerMoreUptoSaid : Prop := ledgerMoreUptoRow.holds Try.pinned (OpenSpec.upto ledgerMoreSpec)

/-- 'godownlaw24.LedgerTells', WHERE WHAT IT READS IS OF BULK AT MOST 1048576: true; the input reads as it did. -/
def ledgerTellsUptoRow : OpenClaim := { program := "ytbkghiaafkmapaa", sum := "a2803a92d3e5ec7d15dbe871bab40eaa209f7d459c0ace6b0e2a17b892ec3dc9", func := "godown/godownlaw24.LedgerTells", spec := "ledgerTells", unfollowed := true, recurses := true, apart := false, narrowed := true }
def LedgerTellsUptoSaid : Prop := ledgerTellsUptoRow.holds Try.pinned (OpenSpec.upto ledgerTellsSpec)

/-- 'godownlaw24.LedgerEnough', WHERE WHAT IT READS IS OF BULK AT MOST 1048576: true; the input reads as it did. -/
def ledgerEnoughUptoRow : OpenClaim := { program := "ytbkghiaafkmapaa", sum := "a2803a92d3e5ec7d15dbe871bab40eaa209f7d459c0ace6b0e2a17b892ec3dc9", func := "godown/godownlaw24.LedgerEnough", spec := "ledgerEnough", unfollowed := true, recurses := true, apart := false, narrowed := true }
def LedgerEnoughUptoSaid : Prop := ledgerEnoughUptoRow.holds Try.pinned (OpenSpec.upto ledgerEnoughSpec)

/-- 'godownlaw37.TotalsSums', WHERE WHAT IT READS IS OF BULK AT MOST 1048576: true; the input reads as it did. -/
def totalsSumsUptoRow : OpenClaim := { program := "ytbkghiaafkmapaa", sum := "a2803a92d3e5ec7d15dbe871bab40eaa209f7d459c0ace6b0e2a17b892ec3dc9", func := "godown/godownlaw37.TotalsSums", spec := "totalsSums", unfollowed := true, recurses := true, apart := false, narrowed := true }
def TotalsSumsUptoSaid : Prop := totalsSumsUptoRow.holds Try.pinned (OpenSpec.upto totalsSumsSpec)

/-- 'godownlaw37.TotalsFull', WHERE WHAT IT READS IS OF BULK AT MOST 1048576: true; the input reads as it did. -/
def totalsFullUptoRow : OpenClaim := { program := "ytbkghiaafkmapaa", sum := "a2803a92d3e5ec7d15dbe871bab40eaa209f7d459c0ace6b0e2a17b892ec3dc9", func := "godown/godownlaw37.TotalsFull", spec := "totalsFull", unfollowed := true, recurses := true, apart := false, narrowed := true }
def TotalsFullUptoSaid : Prop := totalsFullUptoRow.holds Try.pinned (OpenSpec.upto totalsFullSpec)

end Rows
end Go.Proofs.Ytbkghiaafkmapaa
