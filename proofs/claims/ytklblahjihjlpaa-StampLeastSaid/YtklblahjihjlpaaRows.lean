/-
  No cell of these rows narrows 'for every input' (looked for: loops, veiled, ifaces, maps, wideKeys, modest, calm, conditions, laid).
  DERIVED. THE GIVEN ROWS OF THIS SEAT. 7 by the template 'for every input the law returns true; each argument reads behind the call as it read before'; 0 by the template 'total and deterministic' (their statements: YtklblahjihjlpaaTotals.lean).
  GIVEN WITH THE SEED: the statements are not yours to turn. If you find one false, say at which input.
  Laid BY PROGRAM, IN A SANDBOX (cutbox-rows.mjs): the forced cells as the released guide's own fill.sh prints them over the translation c504808f5fc77438… (all of the seat's roots in one cut). By AI agents, Wed Nov 11 2026. No macro, syntax, notation, axiom, sorry.
-/
import Derived.Test.YtklblahjihjlpaaChecked
import GoSem.Claim
import GoSem.ClaimJoined
import GoSem.ClaimMapViews
import Derived.JoinedTies
import Derived.KernelRfl
namespace Go.Proofs.Ytklblahjihjlpaa
/- THE CELL 'sum', in the pinned program and in every row, IS THE sha256 OF THE DUMP (.gsa) THAT YtklblahjihjlpaaProg.lean LOADS. Nothing in Lean hashes anything: it is a label: what it is worth is what the hold of that sum in a sandbox is worth. -/
noncomputable def Try.pinned : Pinned := { name := "ytklblahjihjlpaa", sum := "c504808f5fc77438707d7114b40691bd4594562c723e9bdb6c920df445cf19fd", checked := Try.checked }
namespace Rows
def none {H : Type} : Left H := { results := [], args := [] }

/-- 'argosylaw09.StampTells': WHATEVER THE INPUT: true; the input reads as it did. -/
def stampTellsSpec : ChangeSpec := { name := "stampTells", fn := fun _ => fun
  | [d1, d2, d3] => { results := [.lit (.bool true)], args := [d1, d2, d3] }
  | _ => none }
def stampTellsRow : OpenClaim := { program := "ytklblahjihjlpaa", sum := "c504808f5fc77438707d7114b40691bd4594562c723e9bdb6c920df445cf19fd", func := "argosy/argosylaw09.StampTells", spec := "stampTells", unfollowed := true, recurses := true, apart := false }
def StampTellsSaid : Prop := stampTellsRow.holds Try.pinned (OpenSpec.ofChange stampTellsSpec)

/-- ITS FALSE NEIGHBOUR: 'it returns false'. Refute it at one input. -/
def stampTellsWrong : ChangeSpec := { name := "stampTells", fn := fun _ => fun
  | [d1, d2, d3] => { results := [.lit (.bool false)], args := [d1, d2, d3] }
  | _ => none }
def StampTellsWrongFalsely : Prop := stampTellsRow.holds Try.pinned (OpenSpec.ofChange stampTellsWrong)

/-- 'argosylaw09.StampTicks': WHATEVER THE INPUT: true; the input reads as it did. -/
def stampTicksSpec : ChangeSpec := { name := "stampTicks", fn := fun _ => fun
  | [d1, d2, d3] => { results := [.lit (.bool true)], args := [d1, d2, d3] }
  | _ => none }
def stampTicksRow : OpenClaim := { program := "ytklblahjihjlpaa", sum := "c504808f5fc77438707d7114b40691bd4594562c723e9bdb6c920df445cf19fd", func := "argosy/argosylaw09.StampTicks", spec := "stampTicks", unfollowed := true, recurses := true, apart := false }
def StampTicksSaid : Prop := stampTicksRow.holds Try.pinned (OpenSpec.ofChange stampTicksSpec)

/-- ITS FALSE NEIGHBOUR: 'it returns false'. Refute it at one input. -/
def stampTicksWrong : ChangeSpec := { name := "stampTicks", fn := fun _ => fun
  | [d1, d2, d3] => { results := [.lit (.bool false)], args := [d1, d2, d3] }
  | _ => none }
def StampTicksWrongFalsely : Prop := stampTicksRow.holds Try.pinned (OpenSpec.ofChange stampTicksWrong)

/-- 'argosylaw09.StampOrder': WHATEVER THE INPUT: true; the input reads as it did. -/
def stampOrderSpec : ChangeSpec := { name := "stampOrder", fn := fun _ => fun
  | [d1, d2, d3] => { results := [.lit (.bool true)], args := [d1, d2, d3] }
  | _ => none }
def stampOrderRow : OpenClaim := { program := "ytklblahjihjlpaa", sum := "c504808f5fc77438707d7114b40691bd4594562c723e9bdb6c920df445cf19fd", func := "argosy/argosylaw09.StampOrder", spec := "stampOrder", unfollowed := true, recurses := true, apart := false }
def StampOrderSaid : Prop := stampOrderRow.holds Try.pinned (OpenSpec.ofChange stampOrderSpec)

/-- ITS FALSE NEIGHBOUR: 'it returns false'. Refute it at one input. -/
def stampOrderWrong : ChangeSpec := { name := "stampOrder", fn := fun _ => fun
  | [d1, d2, d3] => { results := [.lit (.bool false)], args := [d1, d2, d3] }
  | _ => none }
def StampOrderWrongFalsely : Prop := stampOrderRow.holds Try.pinned (OpenSpec.ofChange stampOrderWrong)

/-- 'argosylaw09.StampLeast': WHATEVER THE INPUT: true; the input reads as it did. -/
def stampLeastSpec : ChangeSpec := { name := "stampLeast", fn := fun _ => fun
  | [d1, d2, d3] => { results := [.lit (.bool true)], args := [d1, d2, d3] }
  | _ => none }
def stampLeastRow : OpenClaim := { program := "ytklblahjihjlpaa", sum := "c504808f5fc77438707d7114b40691bd4594562c723e9bdb6c920df445cf19fd", func := "argosy/argosylaw09.StampLeast", spec := "stampLeast", unfollowed := true, recurses := true, apart := false }
def StampLeastSaid : Prop := stampLeastRow.holds Try.pinned (OpenSpec.ofChange stampLeastSpec)

/-- ITS FALSE NEIGHBOUR: 'it returns false'. Refute it at one input. -/
def stampLeastWrong : ChangeSpec := { name := "stampLeast", fn := fun _ => fun
  | [d1, d2, d3] => { results := [.lit (.bool false)], args := [d1, d2, d3] }
  | _ => none }
def StampLeastWrongFalsely : Prop := stampLeastRow.holds Try.pinned (OpenSpec.ofChange stampLeastWrong)

/-- 'argosylaw09.StampTicked': WHATEVER THE INPUT: true; the input reads as it did. -/
def stampTickedSpec : ChangeSpec := { name := "stampTicked", fn := fun _ => fun
  | [d1, d2, d3] => { results := [.lit (.bool true)], args := [d1, d2, d3] }
  | _ => none }
def stampTickedRow : OpenClaim := { program := "ytklblahjihjlpaa", sum := "c504808f5fc77438707d7114b40691bd4594562c723e9bdb6c920df445cf19fd", func := "argosy/argosylaw09.StampTicked", spec := "stampTicked", unfollowed := true, recurses := true, apart := false }
def StampTickedSaid : Prop := stampTickedRow.holds Try.pinned (OpenSpec.ofChange stampTickedSpec)

/-- ITS FALSE NEIGHBOUR: 'it returns false'. Refute it at one input. -/
def stampTickedWrong : ChangeSpec := { name := "stampTicked", fn := fun _ => fun
  | [d1, d2, d3] => { results := [.lit (.bool false)], args := [d1, d2, d3] }
  | _ => none }
def StampTickedWrongFalsely : Prop := stampTickedRow.holds Try.pinned (OpenSpec.ofChange stampTickedWrong)

/-- 'argosylaw09.StampReads': WHATEVER THE INPUT: true; the input reads as it did. -/
def stampReadsSpec : ChangeSpec := { name := "stampReads", fn := fun _ => fun
  | [d1, d2, d3, d4] => { results := [.lit (.bool true)], args := [d1, d2, d3, d4] }
  | _ => none }
def stampReadsRow : OpenClaim := { program := "ytklblahjihjlpaa", sum := "c504808f5fc77438707d7114b40691bd4594562c723e9bdb6c920df445cf19fd", func := "argosy/argosylaw09.StampReads", spec := "stampReads", unfollowed := true, recurses := true, apart := false }
def StampReadsSaid : Prop := stampReadsRow.holds Try.pinned (OpenSpec.ofChange stampReadsSpec)

/-- ITS FALSE NEIGHBOUR: 'it returns false'. Refute it at one input. -/
def stampReadsWrong : ChangeSpec := { name := "stampReads", fn := fun _ => fun
  | [d1, d2, d3, d4] => { results := [.lit (.bool false)], args := [d1, d2, d3, d4] }
  | _ => none }
def StampReadsWrongFalsely : Prop := stampReadsRow.holds Try.pinned (OpenSpec.ofChange stampReadsWrong)

/-- 'argosylaw09.StampBack': WHATEVER THE INPUT: true; the input reads as it did. -/
def stampBackSpec : ChangeSpec := { name := "stampBack", fn := fun _ => fun
  | [d1, d2] => { results := [.lit (.bool true)], args := [d1, d2] }
  | _ => none }
def stampBackRow : OpenClaim := { program := "ytklblahjihjlpaa", sum := "c504808f5fc77438707d7114b40691bd4594562c723e9bdb6c920df445cf19fd", func := "argosy/argosylaw09.StampBack", spec := "stampBack", unfollowed := true, recurses := true, apart := false }
def StampBackSaid : Prop := stampBackRow.holds Try.pinned (OpenSpec.ofChange stampBackSpec)

/-- ITS FALSE NEIGHBOUR: 'it returns false'. Refute it at one input. -/
def stampBackWrong : ChangeSpec := { name := "stampBack", fn := fun _ => fun
  | [d1, d2] => { results := [.lit (.bool false)], args := [d1, d2] }
  | _ => none }
def StampBackWrongFalsely : Prop := stampBackRow.holds Try.pinned (OpenSpec.ofChange stampBackWrong)

/- THE SECOND FORM. 'bulk': how many values and letters a reading holds, each counted each time it is reached (what is shared counts as often as it is met; a slice's spare places count too). A statement '..UptoSaid' is the law's where the arguments, and the package variables that the reading takes, are together of bulk at most 1048576: NARROWER than '..Said'. Prove '..Said' where nothing that the law and all that it calls make is longer than what came in: it says more and counts as full. Else prove '..UptoSaid'. A law counts once. -/
mutual
def uptoBulk {H : Type} : DataW H → Nat
  | .lit (.string bytes) => bytes.length + 1
  | .lit _ => 1
  | .nil => 1
  | .ptr d => uptoBulk d + 1
  | .slice elems spare => uptoBulkAll elems + uptoBulkAll spare + 1
  | .agg parts => uptoBulkAll parts + 1
  | .iface _ d => uptoBulk d + 1
  | .map entries => uptoBulkEntries entries + 1
  | .held _ => 1
def uptoBulkAll {H : Type} : List (DataW H) → Nat
  | [] => 0
  | d :: r => uptoBulk d + uptoBulkAll r
def uptoBulkEntries {H : Type} : List (Lit × DataW H) → Nat
  | [] => 0
  | x :: r => uptoBulkEntry x + uptoBulkEntries r
def uptoBulkEntry {H : Type} : Lit × DataW H → Nat
  | (.string bytes, d) => bytes.length + uptoBulk d + 1
  | (_, d) => uptoBulk d + 1
 end
def uptoSmall : (H : Type) → List (DataW H) → Bool := fun _ ds => decide (uptoBulkAll ds ≤ 1048576)
def OpenSpec.upto (s : _root_.Go.ChangeSpec) : _root_.Go.OpenSpec := { _root_.Go.OpenSpec.ofChange s with cond := some uptoSmall }

/-- 'argosylaw09.StampTells', WHERE WHAT IT READS IS OF BULK AT MOST 1048576: true; the input reads as it did. -/
def stampTellsUptoRow : OpenClaim := { program := "ytklblahjihjlpaa", sum := "c504808f5fc77438707d7114b40691bd4594562c723e9bdb6c920df445cf19fd", func := "argosy/argosylaw09.StampTells", spec := "stampTells", unfollowed := true, recurses := true, apart := false, narrowed := true }
def StampTellsUptoSaid : Prop := stampTellsUptoRow.holds Try.pinned (OpenSpec.upto stampTellsSpec)

/-- 'argosylaw09.StampTicks', WHERE WHAT IT READS IS OF BULK AT MOST 1048576: true; the input reads as it did. -/
def stampTicksUptoRow : OpenClaim := { program := "ytklblahjihjlpaa", sum := "c504808f5fc77438707d7114b40691bd4594562c723e9bdb6c920df445cf19fd", func := "argosy/argosylaw09.StampTicks", spec := "stampTicks", unfollowed := true, recurses := true, apart := false, narrowed := true }
def StampTicksUptoSaid : Prop := stampTicksUptoRow.holds Try.pinned (OpenSpec.upto stampTicksSpec)

/-- 'argosylaw09.StampOrder', WHERE WHAT IT READS IS OF BULK AT MOST 1048576: true; the input reads as it did. -/
def stampOrderUptoRow : OpenClaim := { program := "ytklblahjihjlpaa", sum := "c504808f5fc77438707d7114b40691bd4594562c723e9bdb6c920df445cf19fd", func := "argosy/argosylaw09.StampOrder", spec := "stampOrder", unfollowed := true, recurses := true, apart := false, narrowed := true }
def StampOrderUptoSaid : Prop := stampOrderUptoRow.holds Try.pinned (OpenSpec.upto stampOrderSpec)

/-- 'argosylaw09.StampLeast', WHERE WHAT IT READS IS OF BULK AT MOST 1048576: true; the input reads as it did. -/
def stampLeastUptoRow : OpenClaim := { program := "ytklblahjihjlpaa", sum := "c504808f5fc77438707d7114b40691bd4594562c723e9bdb6c920df445cf19fd", func := "argosy/argosylaw09.StampLeast", spec := "stampLeast", unfollowed := true, recurses := true, apart := false, narrowed := true }
def StampLeastUptoSaid : Prop := stampLeastUptoRow.holds Try.pinned (OpenSpec.upto stampLeastSpec)

/-- 'argosylaw09.StampTicked', WHERE WHAT IT READS IS OF BULK AT MOST 1048576: true; the input reads as it did. -/
def stampTickedUptoRow : OpenClaim := { program := "ytklblahjihjlpaa", sum := "c504808f5fc77438707d7114b40691bd4594562c723e9bdb6c920df445cf19fd", func := "argosy/argosylaw09.StampTicked", spec := "stampTicked", unfollowed := true, recurses := true, apart := false, narrowed := true }
def StampTickedUptoSaid : Prop := stampTickedUptoRow.holds Try.pinned (OpenSpec.upto stampTickedSpec)

/-- 'argosylaw09.StampReads', WHERE WHAT IT READS IS OF BULK AT MOST 1048576: true; the input reads as it did. -/
def stampReadsUptoRow : OpenClaim := { program := "ytklblahjihjlpaa", sum := "c504808f5fc77438707d7114b40691bd4594562c723e9bdb6c920df445cf19fd", func := "argosy/argosylaw09.StampReads", spec := "stampReads", unfollowed := true, recurses := true, apart := false, narrowed := true }
def StampReadsUptoSaid : Prop := stampReadsUptoRow.holds Try.pinned (OpenSpec.upto stampReadsSpec)

/-- 'argosylaw09.StampBack', WHERE WHAT IT READS IS OF BULK AT MOST 1048576: true; the input reads as it did. -/
def stampBackUptoRow : OpenClaim := { program := "ytklblahjihjlpaa", sum := "c504808f5fc77438707d7114b40691bd4594562c723e9bdb6c920df445cf19fd", func := "argosy/argosylaw09.StampBack", spec := "stampBack", unfollowed := true, recurses := true, apart := false, narrowed := true }
def StampBackUptoSaid : Prop := stampBackUptoRow.holds Try.pinned (OpenSpec.upto stampBackSpec)

end Rows
end Go.Proofs.Ytklblahjihjlpaa
