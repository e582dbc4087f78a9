/-
  No cell of these rows narrows 'for every input' (looked for: loops, veiled, ifaces, maps, wideKeys, modest, calm, conditions, laid).
  DERIVED. THE GIVEN ROWS OF THIS SEAT. 6 by the template 'for every input the law returns true; each argument reads behind the call as it read before'; 0 by the template 'total and deterministic' (their statements: YtbkdogijkfampaaTotals.lean).
  GIVEN WITH THE SEED: the statements are not yours to turn. If you find one false, say at which input.
  Laid BY PROGRAM, IN A SANDBOX (cutbox-rows.mjs): the forced cells as the released guide's own fill.sh prints them over the translation 63cfa107552d1e22… (all of the seat's roots in one cut). By AI agents, Wed Nov 11 2026. No macro, syntax, notation, axiom, sorry.
-/
import Derived.Test.YtbkdogijkfampaaChecked
import GoSem.Claim
import GoSem.ClaimJoined
import GoSem.ClaimMapViews
import Derived.JoinedTies
import Derived.KernelRfl
namespace Go.Proofs.Ytbkdogijkfampaa
/- THE CELL 'sum', in the pinned program and in every row, IS THE sha256 OF THE DUMP (.gsa) THAT YtbkdogijkfampaaProg.lean LOADS. Nothing in Lean hashes anything: it is a label: what it is worth is what the hold of that sum in a sandbox is worth. -/
noncomputable def Try.pinned : Pinned := { name := "ytbkdogijkfampaa", sum := "63cfa107552d1e2215f60f36490f7a44fc3f4093f041732e63f500bda589a9bc", checked := Try.checked }
namespace Rows
def none {H : Type} : Left H := { results := [], args := [] }

/-- 'argosylaw12.MergeMerges': WHATEVER THE INPUT: true; the input reads as it did. -/
def mergeMergesSpec : ChangeSpec := { name := "mergeMerges", fn := fun _ => fun
  | [d] => { results := [.lit (.bool true)], args := [d] }
  | _ => none }
def mergeMergesRow : OpenClaim := { program := "ytbkdogijkfampaa", sum := "63cfa107552d1e2215f60f36490f7a44fc3f4093f041732e63f500bda589a9bc", func := "argosy/argosylaw12.MergeMerges", spec := "mergeMerges", unfollowed := true, recurses := true, apart := false }
def MergeMergesSaid : Prop := mergeMergesRow.holds Try.pinned (OpenSpec.ofChange mergeMergesSpec)

/-- ITS FALSE NEIGHBOUR: 'it returns false'. Refute it at one input. -/
def mergeMergesWrong : ChangeSpec := { name := "mergeMerges", fn := fun _ => fun
  | [d] => { results := [.lit (.bool false)], args := [d] }
  | _ => none }
def MergeMergesWrongFalsely : Prop := mergeMergesRow.holds Try.pinned (OpenSpec.ofChange mergeMergesWrong)

/-- 'argosylaw12.MergeSplits': WHATEVER THE INPUT: true; the input reads as it did. -/
def mergeSplitsSpec : ChangeSpec := { name := "mergeSplits", fn := fun _ => fun
  | [d1, d2, d3, d4] => { results := [.lit (.bool true)], args := [d1, d2, d3, d4] }
  | _ => none }
def mergeSplitsRow : OpenClaim := { program := "ytbkdogijkfampaa", sum := "63cfa107552d1e2215f60f36490f7a44fc3f4093f041732e63f500bda589a9bc", func := "argosy/argosylaw12.MergeSplits", spec := "mergeSplits", unfollowed := true, recurses := true, apart := false }
def MergeSplitsSaid : Prop := mergeSplitsRow.holds Try.pinned (OpenSpec.ofChange mergeSplitsSpec)

/-- ITS FALSE NEIGHBOUR: 'it returns false'. Refute it at one input. -/
def mergeSplitsWrong : ChangeSpec := { name := "mergeSplits", fn := fun _ => fun
  | [d1, d2, d3, d4] => { results := [.lit (.bool false)], args := [d1, d2, d3, d4] }
  | _ => none }
def MergeSplitsWrongFalsely : Prop := mergeSplitsRow.holds Try.pinned (OpenSpec.ofChange mergeSplitsWrong)

/-- 'argosylaw12.MergeHistory': WHATEVER THE INPUT: true; the input reads as it did. -/
def mergeHistorySpec : ChangeSpec := { name := "mergeHistory", fn := fun _ => fun
  | [d] => { results := [.lit (.bool true)], args := [d] }
  | _ => none }
def mergeHistoryRow : OpenClaim := { program := "ytbkdogijkfampaa", sum := "63cfa107552d1e2215f60f36490f7a44fc3f4093f041732e63f500bda589a9bc", func := "argosy/argosylaw12.MergeHistory", spec := "mergeHistory", unfollowed := true, recurses := true, apart := false }
def MergeHistorySaid : Prop := mergeHistoryRow.holds Try.pinned (OpenSpec.ofChange mergeHistorySpec)

/-- ITS FALSE NEIGHBOUR: 'it returns false'. Refute it at one input. -/
def mergeHistoryWrong : ChangeSpec := { name := "mergeHistory", fn := fun _ => fun
  | [d] => { results := [.lit (.bool false)], args := [d] }
  | _ => none }
def MergeHistoryWrongFalsely : Prop := mergeHistoryRow.holds Try.pinned (OpenSpec.ofChange mergeHistoryWrong)

/-- 'argosylaw12.MergeAll': WHATEVER THE INPUT: true; the input reads as it did. -/
def mergeAllSpec : ChangeSpec := { name := "mergeAll", fn := fun _ => fun
  | [d1, d2] => { results := [.lit (.bool true)], args := [d1, d2] }
  | _ => none }
def mergeAllRow : OpenClaim := { program := "ytbkdogijkfampaa", sum := "63cfa107552d1e2215f60f36490f7a44fc3f4093f041732e63f500bda589a9bc", func := "argosy/argosylaw12.MergeAll", spec := "mergeAll", unfollowed := true, recurses := true, apart := false }
def MergeAllSaid : Prop := mergeAllRow.holds Try.pinned (OpenSpec.ofChange mergeAllSpec)

/-- ITS FALSE NEIGHBOUR: 'it returns false'. Refute it at one input. -/
def mergeAllWrong : ChangeSpec := { name := "mergeAll", fn := fun _ => fun
  | [d1, d2] => { results := [.lit (.bool false)], args := [d1, d2] }
  | _ => none }
def MergeAllWrongFalsely : Prop := mergeAllRow.holds Try.pinned (OpenSpec.ofChange mergeAllWrong)

/-- 'argosylaw12.MergeCauses': WHATEVER THE INPUT: true; the input reads as it did. -/
def mergeCausesSpec : ChangeSpec := { name := "mergeCauses", fn := fun _ => fun
  | [d1, d2] => { results := [.lit (.bool true)], args := [d1, d2] }
  | _ => none }
def mergeCausesRow : OpenClaim := { program := "ytbkdogijkfampaa", sum := "63cfa107552d1e2215f60f36490f7a44fc3f4093f041732e63f500bda589a9bc", func := "argosy/argosylaw12.MergeCauses", spec := "mergeCauses", unfollowed := true, recurses := true, apart := false }
def MergeCausesSaid : Prop := mergeCausesRow.holds Try.pinned (OpenSpec.ofChange mergeCausesSpec)

/-- ITS FALSE NEIGHBOUR: 'it returns false'. Refute it at one input. -/
def mergeCausesWrong : ChangeSpec := { name := "mergeCauses", fn := fun _ => fun
  | [d1, d2] => { results := [.lit (.bool false)], args := [d1, d2] }
  | _ => none }
def MergeCausesWrongFalsely : Prop := mergeCausesRow.holds Try.pinned (OpenSpec.ofChange mergeCausesWrong)

/-- 'argosylaw12.MergeLess': WHATEVER THE INPUT: true; the input reads as it did. -/
def mergeLessSpec : ChangeSpec := { name := "mergeLess", fn := fun _ => fun
  | [d1, d2] => { results := [.lit (.bool true)], args := [d1, d2] }
  | _ => none }
def mergeLessRow : OpenClaim := { program := "ytbkdogijkfampaa", sum := "63cfa107552d1e2215f60f36490f7a44fc3f4093f041732e63f500bda589a9bc", func := "argosy/argosylaw12.MergeLess", spec := "mergeLess", unfollowed := true, recurses := true, apart := false }
def MergeLessSaid : Prop := mergeLessRow.holds Try.pinned (OpenSpec.ofChange mergeLessSpec)

/-- ITS FALSE NEIGHBOUR: 'it returns false'. Refute it at one input. -/
def mergeLessWrong : ChangeSpec := { name := "mergeLess", fn := fun _ => fun
  | [d1, d2] => { results := [.lit (.bool false)], args := [d1, d2] }
  | _ => none }
def MergeLessWrongFalsely : Prop := mergeLessRow.holds Try.pinned (OpenSpec.ofChange mergeLessWrong)

/- THE SECOND FORM. 'bulk': how many values and letters a reading holds, each counted each time it is reached (what is shared counts as often as it is met; a slice's spare places count too). A statement '..UptoSaid' is the law's where the arguments, and the package variables that the reading takes, are together of bulk at most 1048576: NARROWER than '..Said'. Prove '..Said' where nothing that the law and all that it calls make is longer than what came in: it says more and counts as full. Else prove '..UptoSaid'. A law counts once. -/
mutual
def uptoBulk {H : Type} : DataW H → Nat
  | .lit (.string bytes) => bytes.length + 1
  | .lit _ => 1
  | .nil => 1
  | .ptr d => uptoBulk d + 1
  | .slice elems spare => uptoBulkAll elems + uptoBulkAll spare + 1
  | .agg parts => uptoBulkAll parts + 1
  | .iface _ d => uptoBulk d + 1
  | .map entries => uptoBulkEntries entries + 1
  | .held _ => 1
def uptoBulkAll {H : Type} : List (DataW H) → Nat
  | [] => 0
  | d :: r => uptoBulk d + uptoBulkAll r
def uptoBulkEntries {H : Type} : List (Lit × DataW H) → Nat
  | [] => 0
  | x :: r => uptoBulkEntry x + uptoBulkEntries r
def uptoBulkEntry {H : Type} : Lit × DataW H → Nat
  | (.string bytes, d) => bytes.length + uptoBulk d + 1
  | (_, d) => uptoBulk d + 1
 end
def uptoSmall : (H : Type) → List (DataW H) → Bool := fun _ ds => decide (uptoBulkAll ds ≤ 1048576)
def OpenSpec.upto (s : _root_.Go.ChangeSpec) : _root_.Go.OpenSpec := { _root_.Go.OpenSpec.ofChange s with cond := some uptoSmall }

/-- 'argosylaw12.MergeMerges', WHERE WHAT IT READS IS OF BULK AT MOST 1048576: true; the input reads as it did. -/
def mergeMergesUptoRow : OpenClaim := { program := "ytbkdogijkfampaa", sum := "63cfa107552d1e2215f60f36490f7a44fc3f4093f041732e63f500bda589a9bc", func := "argosy/argosylaw12.MergeMerges", spec := "mergeMerges", unfollowed := true, recurses := true, apart := false, narrowed := true }
def MergeMergesUptoSaid : Prop := mergeMergesUptoRow.holds Try.pinned (OpenSpec.upto mergeMergesSpec)

/-- 'argosylaw12.MergeSplits', WHERE WHAT IT READS IS OF BULK AT MOST 1048576: true; the input reads as it did. -/
def mergeSplitsUptoRow : OpenClaim := { program := "ytbkdogijkfampaa", sum := "63cfa107552d1e2215f60f36490f7a44fc3f4093f041732e63f500bda589a9bc", func := "argosy/argosylaw12.MergeSplits", spec := "mergeSplits", unfollowed := true, recurses := true, apart := false, narrowed := true }
def MergeSplitsUptoSaid : Prop := mergeSplitsUptoRow.holds Try.pinned (OpenSpec.upto mergeSplitsSpec)

/-- 'argosylaw12.MergeHistory', WHERE WHAT IT READS IS OF BULK AT MOST 1048576: true; the input reads as it did. -/
def mergeHistoryUptoRow : OpenClaim := { program := "ytbkdogijkfampaa", sum := "63cfa107552d1e2215f60f36490f7a44fc3f4093f041732e63f500bda589a9bc", func := "argosy/argosylaw12.MergeHistory", spec := "mergeHistory", unfollowed := true, recurses := true, apart := false, narrowed := true }
def MergeHistoryUptoSaid : Prop := mergeHistoryUptoRow.holds Try.pinned (OpenSpec.upto mergeHistorySpec)

/-- 'argosylaw12.MergeAll', WHERE WHAT IT READS IS OF BULK AT MOST 1048576: true; the input reads as it did. -/
def mergeAllUptoRow : OpenClaim := { program := "ytbkdogijkfampaa", sum := "63cfa107552d1e2215f60f36490f7a44fc3f4093f041732e63f500bda589a9bc", func := "argosy/argosylaw12.MergeAll", spec := "mergeAll", unfollowed := true, recurses := true, apart := false, narrowed := true }
def MergeAllUptoSaid : Prop := mergeAllUptoRow.holds Try.pinned (OpenSpec.upto mergeAllSpec)

/-- 'argosylaw12.MergeCauses', WHERE WHAT IT READS IS OF BULK AT MOST 1048576: true; the input reads as it did. -/
def mergeCausesUptoRow : OpenClaim := { program := "ytbkdogijkfampaa", sum := "63cfa107552d1e2215f60f36490f7a44fc3f4093f041732e63f500bda589a9bc", func := "argosy/argosylaw12.MergeCauses", spec := "mergeCauses", unfollowed := true, recurses := true, apart := false, narrowed := true }
def MergeCausesUptoSaid : Prop := mergeCausesUptoRow.holds Try.pinned (OpenSpec.upto mergeCausesSpec)

/-- 'argosylaw12.MergeLess', WHERE WHAT IT READS IS OF BULK AT MOST 1048576: true; the input reads as it did. -/
def mergeLessUptoRow : OpenClaim := { program := "ytbkdogijkfampaa", sum := "63cfa107552d1e2215f60f36490f7a44fc3f4093f041732e63f500bda589a9bc", func := "argosy/argosylaw12.MergeLess", spec := "mergeLess", unfollowed := true, recurses := true, apart := false, narrowed := true }
def MergeLessUptoSaid : Prop := mergeLessUptoRow.holds Try.pinned (OpenSpec.upto mergeLessSpec)

end Rows
end Go.Proofs.Ytbkdogijkfampaa
