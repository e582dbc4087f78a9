/-
  No cell of these rows narrows 'for every input' (looked for: loops, veiled, ifaces, maps, wideKeys, modest, calm, conditions, laid).
  DERIVED. THE GIVEN ROWS OF THIS SEAT. 4 by the template 'for every input the law returns true; each argument reads behind the call as it read before'; 0 by the template 'total and deterministic' (their statements: YtfmbdmkiamedeaaTotals.lean).
  GIVEN WITH THE SEED: the statements are not yours to turn. If you find one false, say at which input.
  Laid BY PROGRAM, IN A SANDBOX (cutbox-rows.mjs): the forced cells as the released guide's own fill.sh prints them over the translation 2ef8403a07f60d8a… (all of the seat's roots in one cut). By AI agents, Wed Nov 11 2026. No macro, syntax, notation, axiom, sorry.
-/
import Derived.Test.YtfmbdmkiamedeaaChecked
import GoSem.Claim
import GoSem.ClaimJoined
import GoSem.ClaimMapViews
import Derived.JoinedTies
import Derived.KernelRfl
namespace Go.Proofs.Ytfmbdmkiamedeaa
/- THE CELL 'sum', in the pinned program and in every row, IS THE sha256 OF THE DUMP (.gsa) THAT YtfmbdmkiamedeaaProg.lean LOADS. Nothing in Lean hashes anything: it is a label: what it is worth is what the hold of that sum in a sandbox is worth. -/
noncomputable def Try.pinned : Pinned := { name := "ytfmbdmkiamedeaa", sum := "2ef8403a07f60d8a268e1c4d93ab080b316cad8f74a3512fb0f4202b78954c39", checked := Try.checked }
namespace Rows
def none {H : Type} : Left H := { results := [], args := [] }

/-- 'argosylaw27.SceneReads': WHATEVER THE INPUT: true; the input reads as it did. -/
def sceneReadsSpec : ChangeSpec := { name := "sceneReads", fn := fun _ => fun
  | [d] => { results := [.lit (.bool true)], args := [d] }
  | _ => none }
def sceneReadsRow : OpenClaim := { program := "ytfmbdmkiamedeaa", sum := "2ef8403a07f60d8a268e1c4d93ab080b316cad8f74a3512fb0f4202b78954c39", func := "argosy/argosylaw27.SceneReads", spec := "sceneReads", unfollowed := true, recurses := true, apart := false }
def SceneReadsSaid : Prop := sceneReadsRow.holds Try.pinned (OpenSpec.ofChange sceneReadsSpec)

/-- ITS FALSE NEIGHBOUR: 'it returns false'. Refute it at one input. -/
def sceneReadsWrong : ChangeSpec := { name := "sceneReads", fn := fun _ => fun
  | [d] => { results := [.lit (.bool false)], args := [d] }
  | _ => none }
def SceneReadsWrongFalsely : Prop := sceneReadsRow.holds Try.pinned (OpenSpec.ofChange sceneReadsWrong)

/-- 'argosylaw27.SceneNumbers': WHATEVER THE INPUT: true; the input reads as it did. -/
def sceneNumbersSpec : ChangeSpec := { name := "sceneNumbers", fn := fun _ => fun
  | [d1, d2] => { results := [.lit (.bool true)], args := [d1, d2] }
  | _ => none }
def sceneNumbersRow : OpenClaim := { program := "ytfmbdmkiamedeaa", sum := "2ef8403a07f60d8a268e1c4d93ab080b316cad8f74a3512fb0f4202b78954c39", func := "argosy/argosylaw27.SceneNumbers", spec := "sceneNumbers", unfollowed := true, recurses := true, apart := false }
def SceneNumbersSaid : Prop := sceneNumbersRow.holds Try.pinned (OpenSpec.ofChange sceneNumbersSpec)

/-- ITS FALSE NEIGHBOUR: 'it returns false'. Refute it at one input. -/
def sceneNumbersWrong : ChangeSpec := { name := "sceneNumbers", fn := fun _ => fun
  | [d1, d2] => { results := [.lit (.bool false)], args := [d1, d2] }
  | _ => none }
def SceneNumbersWrongFalsely : Prop := sceneNumbersRow.holds Try.pinned (OpenSpec.ofChange sceneNumbersWrong)

/-- 'argosylaw27.SceneParts': WHATEVER THE INPUT: true; the input reads as it did. -/
def scenePartsSpec : ChangeSpec := { name := "sceneParts", fn := fun _ => fun
  | [d1, d2] => { results := [.lit (.bool true)], args := [d1, d2] }
  | _ => none }
def scenePartsRow : OpenClaim := { program := "ytfmbdmkiamedeaa", sum := "2ef8403a07f60d8a268e1c4d93ab080b316cad8f74a3512fb0f4202b78954c39", func := "argosy/argosylaw27.SceneParts", spec := "sceneParts", unfollowed := true, recurses := true, apart := false }
def ScenePartsSaid : Prop := scenePartsRow.holds Try.pinned (OpenSpec.ofChange scenePartsSpec)

/-- ITS FALSE NEIGHBOUR: 'it returns false'. Refute it at one input. -/
def scenePartsWrong : ChangeSpec := { name := "sceneParts", fn := fun _ => fun
  | [d1, d2] => { results := [.lit (.bool false)], args := [d1, d2] }
  | _ => none }
def ScenePartsWrongFalsely : Prop := scenePartsRow.holds Try.pinned (OpenSpec.ofChange scenePartsWrong)

/-- 'argosylaw27.SceneStops': WHATEVER THE INPUT: true; the input reads as it did. -/
def sceneStopsSpec : ChangeSpec := { name := "sceneStops", fn := fun _ => fun
  | [d] => { results := [.lit (.bool true)], args := [d] }
  | _ => none }
def sceneStopsRow : OpenClaim := { program := "ytfmbdmkiamedeaa", sum := "2ef8403a07f60d8a268e1c4d93ab080b316cad8f74a3512fb0f4202b78954c39", func := "argosy/argosylaw27.SceneStops", spec := "sceneStops", unfollowed := true, recurses := true, apart := false }
def SceneStopsSaid : Prop := sceneStopsRow.holds Try.pinned (OpenSpec.ofChange sceneStopsSpec)

/-- ITS FALSE NEIGHBOUR: 'it returns false'. Refute it at one input. -/
def sceneStopsWrong : ChangeSpec := { name := "sceneStops", fn := fun _ => fun
  | [d] => { results := [.lit (.bool false)], args := [d] }
  | _ => none }
def SceneStopsWrongFalsely : Prop := sceneStopsRow.holds Try.pinned (OpenSpec.ofChange sceneStopsWrong)

/- THE SECOND FORM. 'bulk': how many values and letters a reading holds, each counted each time it is reached (what is shared counts as often as it is met; a slice's spare places count too). A statement '..UptoSaid' is the law's where the arguments, and the package variables that the reading takes, are together of bulk at most 1048576: NARROWER than '..Said'. Prove '..Said' where nothing that the law and all that it calls make is longer than what came in: it says more and counts as full. Else prove '..UptoSaid'. A law counts once. -/
mutual
def uptoBulk {H : Type} : DataW H → Nat
  | .lit (.string bytes) => bytes.length + 1
  | .lit _ => 1
  | .nil => 1
  | .ptr d => uptoBulk d + 1
  | .slice elems spare => uptoBulkAll elems + uptoBulkAll spare + 1
  | .agg parts => uptoBulkAll parts + 1
  | .iface _ d => uptoBulk d + 1
  | .map entries => uptoBulkEntries entries + 1
  | .held _ => 1
def uptoBulkAll {H : Type} : List (DataW H) → Nat
  | [] => 0
  | d :: r => uptoBulk d + uptoBulkAll r
def uptoBulkEntries {H : Type} : List (Lit × DataW H) → Nat
  | [] => 0
  | x :: r => uptoBulkEntry x + uptoBulkEntries r
def uptoBulkEntry {H : Type} : Lit × DataW H → Nat
  | (.string bytes, d) => bytes.length + uptoBulk d + 1
  | (_, d) => uptoBulk d + 1
 end
def uptoSmall : (H : Type) → List (DataW H) → Bool := fun _ ds => decide (uptoBulkAll ds ≤ 1048576)
def OpenSpec.upto (s : _root_.Go.ChangeSpec) : _root_.Go.OpenSpec := { _root_.Go.OpenSpec.ofChange s with cond := some uptoSmall }

/-- 'argosylaw27.SceneReads', WHERE WHAT IT READS IS OF BULK AT MOST 1048576: true; the input reads as it did. -/
def sceneReadsUptoRow : OpenClaim := { program := "ytfmbdmkiamedeaa", sum := "2ef8403a07f60d8a268e1c4d93ab080b316cad8f74a3512fb0f4202b78954c39", func := "argosy/argosylaw27.SceneReads", spec := "sceneReads", unfollowed := true, recurses := true, apart := false, narrowed := true }
def SceneReadsUptoSaid : Prop := sceneReadsUptoRow.holds Try.pinned (OpenSpec.upto sceneReadsSpec)

/-- 'argosylaw27.SceneNumbers', WHERE WHAT IT READS IS OF BULK AT MOST 1048576: true; the input reads as it did. -/
def sceneNumbersUptoRow : OpenClaim := { program := "ytfmbdmkiamedeaa", sum := "2ef8403a07f60d8a268e1c4d93ab080b316cad8f74a3512fb0f4202b78954c39", func := "argosy/argosylaw27.SceneNumbers", spec := "sceneNumbers", unfollowed := true, recurses := true, apart := false, narrowed := true }
def SceneNumbersUptoSaid : Prop := sceneNumbersUptoRow.holds Try.pinned (OpenSpec.upto sceneNumbersSpec)

/-- 'argosylaw27.SceneParts', WHERE WHAT IT READS IS OF BULK AT MOST 1048576: true; the input reads as it did. -/
def scenePartsUptoRow : OpenClaim := { program := "ytfmbdmkiamedeaa", sum := "2ef8403a07f60d8a268e1c4d93ab080b316cad8f74a3512fb0f4202b78954c39", func := "argosy/argosylaw27.SceneParts", spec := "sceneParts", unfollowed := true, recurses := true, apart := false, narrowed := true }
def ScenePartsUptoSaid : Prop := scenePartsUptoRow.holds Try.pinned (OpenSpec.upto scenePartsSpec)

/-- 'argosylaw27.SceneStops', WHERE WHAT IT READS IS OF BULK AT MOST 1048576: true; the input reads as it did. -/
def sceneStopsUptoRow : OpenClaim := { program := "ytfmbdmkiamedeaa", sum := "2ef8403a07f60d8a268e1c4d93ab080b316cad8f74a3512fb0f4202b78954c39", func := "argosy/argosylaw27.SceneStops", spec := "sceneStops", unfollowed := true, recurses := true, apart := false, narrowed := true }
def SceneStopsUptoSaid : Prop := sceneStopsUptoRow.holds Try.pinned (OpenSpec.upto sceneStopsSpec)

end Rows
end Go.Proofs.Ytfmbdmkiamedeaa
