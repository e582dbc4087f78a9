/-
  No cell of these rows narrows 'for every input' (looked for: loops, veiled, ifaces, maps, wideKeys, modest, calm, conditions, laid).
  DERIVED. THE GIVEN ROWS OF THIS SEAT. 6 by the template 'for every input the law returns true; each argument reads behind the call as it read before'; 0 by the template 'total and deterministic' (their statements: YtmjbpcoopbihhaaTotals.lean).
  GIVEN WITH THE SEED: the statements are not yours to turn. If you find one false, say at which input.
  Laid BY PROGRAM, IN A SANDBOX (cutbox-rows.mjs): the forced cells as the released guide's own fill.sh prints them over the translation fc55690a0acb76d2… (all of the seat's roots in one cut). By AI agents, Wed Nov 11 2026. No macro, syntax, notation, axiom, sorry.
-/
import Derived.Test.YtmjbpcoopbihhaaChecked
import GoSem.Claim
import GoSem.ClaimJoined
import GoSem.ClaimMapViews
import Derived.JoinedTies
import Derived.KernelRfl
namespace Go.Proofs.Ytmjbpcoopbihhaa
/- THE CELL 'sum', in the pinned program and in every row, IS THE sha256 OF THE DUMP (.gsa) THAT YtmjbpcoopbihhaaProg.lean LOADS. Nothing in Lean hashes anything: it is a label: what it is worth is what the hold of that sum in a sandbox is worth. -/
noncomputable def Try.pinned : Pinned := { name := "ytmjbpcoopbihhaa", sum := "fc55690a0acb76d2dd331639ca76ea5564ead4fadcdb203801e2df776d7973c2", checked := Try.checked }
namespace Rows
def none {H : Type} : Left H := { results := [], args := [] }

/-- 'argosylaw01.GlyphRunes': WHATEVER THE INPUT: true; the input reads as it did. -/
def glyphRunesSpec : ChangeSpec := { name := "glyphRunes", fn := fun _ => fun
  | [d1, d2] => { results := [.lit (.bool true)], args := [d1, d2] }
  | _ => none }
def glyphRunesRow : OpenClaim := { program := "ytmjbpcoopbihhaa", sum := "fc55690a0acb76d2dd331639ca76ea5564ead4fadcdb203801e2df776d7973c2", func := "argosy/argosylaw01.GlyphRunes", spec := "glyphRunes", unfollowed := true, recurses := true, apart := false }
def GlyphRunesSaid : Prop := glyphRunesRow.holds Try.pinned (OpenSpec.ofChange glyphRunesSpec)

/-- ITS FALSE NEIGHBOUR: 'it returns false'. Refute it at one input. -/
def glyphRunesWrong : ChangeSpec := { name := "glyphRunes", fn := fun _ => fun
  | [d1, d2] => { results := [.lit (.bool false)], args := [d1, d2] }
  | _ => none }
def GlyphRunesWrongFalsely : Prop := glyphRunesRow.holds Try.pinned (OpenSpec.ofChange glyphRunesWrong)

/-- 'argosylaw01.GlyphTexts': WHATEVER THE INPUT: true; the input reads as it did. -/
def glyphTextsSpec : ChangeSpec := { name := "glyphTexts", fn := fun _ => fun
  | [d] => { results := [.lit (.bool true)], args := [d] }
  | _ => none }
def glyphTextsRow : OpenClaim := { program := "ytmjbpcoopbihhaa", sum := "fc55690a0acb76d2dd331639ca76ea5564ead4fadcdb203801e2df776d7973c2", func := "argosy/argosylaw01.GlyphTexts", spec := "glyphTexts", unfollowed := true, recurses := true, apart := false }
def GlyphTextsSaid : Prop := glyphTextsRow.holds Try.pinned (OpenSpec.ofChange glyphTextsSpec)

/-- ITS FALSE NEIGHBOUR: 'it returns false'. Refute it at one input. -/
def glyphTextsWrong : ChangeSpec := { name := "glyphTexts", fn := fun _ => fun
  | [d] => { results := [.lit (.bool false)], args := [d] }
  | _ => none }
def GlyphTextsWrongFalsely : Prop := glyphTextsRow.holds Try.pinned (OpenSpec.ofChange glyphTextsWrong)

/-- 'argosylaw01.GlyphClasses': WHATEVER THE INPUT: true; the input reads as it did. -/
def glyphClassesSpec : ChangeSpec := { name := "glyphClasses", fn := fun _ => fun
  | [d] => { results := [.lit (.bool true)], args := [d] }
  | _ => none }
def glyphClassesRow : OpenClaim := { program := "ytmjbpcoopbihhaa", sum := "fc55690a0acb76d2dd331639ca76ea5564ead4fadcdb203801e2df776d7973c2", func := "argosy/argosylaw01.GlyphClasses", spec := "glyphClasses", unfollowed := true, recurses := true, apart := false }
def GlyphClassesSaid : Prop := glyphClassesRow.holds Try.pinned (OpenSpec.ofChange glyphClassesSpec)

/-- ITS FALSE NEIGHBOUR: 'it returns false'. Refute it at one input. -/
def glyphClassesWrong : ChangeSpec := { name := "glyphClasses", fn := fun _ => fun
  | [d] => { results := [.lit (.bool false)], args := [d] }
  | _ => none }
def GlyphClassesWrongFalsely : Prop := glyphClassesRow.holds Try.pinned (OpenSpec.ofChange glyphClassesWrong)

/-- 'argosylaw01.GlyphBack': WHATEVER THE INPUT: true; the input reads as it did. -/
def glyphBackSpec : ChangeSpec := { name := "glyphBack", fn := fun _ => fun
  | [d1, d2] => { results := [.lit (.bool true)], args := [d1, d2] }
  | _ => none }
def glyphBackRow : OpenClaim := { program := "ytmjbpcoopbihhaa", sum := "fc55690a0acb76d2dd331639ca76ea5564ead4fadcdb203801e2df776d7973c2", func := "argosy/argosylaw01.GlyphBack", spec := "glyphBack", unfollowed := true, recurses := true, apart := false }
def GlyphBackSaid : Prop := glyphBackRow.holds Try.pinned (OpenSpec.ofChange glyphBackSpec)

/-- ITS FALSE NEIGHBOUR: 'it returns false'. Refute it at one input. -/
def glyphBackWrong : ChangeSpec := { name := "glyphBack", fn := fun _ => fun
  | [d1, d2] => { results := [.lit (.bool false)], args := [d1, d2] }
  | _ => none }
def GlyphBackWrongFalsely : Prop := glyphBackRow.holds Try.pinned (OpenSpec.ofChange glyphBackWrong)

/-- 'argosylaw01.GlyphJoins': WHATEVER THE INPUT: true; the input reads as it did. -/
def glyphJoinsSpec : ChangeSpec := { name := "glyphJoins", fn := fun _ => fun
  | [d1, d2] => { results := [.lit (.bool true)], args := [d1, d2] }
  | _ => none }
def glyphJoinsRow : OpenClaim := { program := "ytmjbpcoopbihhaa", sum := "fc55690a0acb76d2dd331639ca76ea5564ead4fadcdb203801e2df776d7973c2", func := "argosy/argosylaw01.GlyphJoins", spec := "glyphJoins", unfollowed := true, recurses := true, apart := false }
def GlyphJoinsSaid : Prop := glyphJoinsRow.holds Try.pinned (OpenSpec.ofChange glyphJoinsSpec)

/-- ITS FALSE NEIGHBOUR: 'it returns false'. Refute it at one input. -/
def glyphJoinsWrong : ChangeSpec := { name := "glyphJoins", fn := fun _ => fun
  | [d1, d2] => { results := [.lit (.bool false)], args := [d1, d2] }
  | _ => none }
def GlyphJoinsWrongFalsely : Prop := glyphJoinsRow.holds Try.pinned (OpenSpec.ofChange glyphJoinsWrong)

/-- 'argosylaw01.GlyphCuts': WHATEVER THE INPUT: true; the input reads as it did. -/
def glyphCutsSpec : ChangeSpec := { name := "glyphCuts", fn := fun _ => fun
  | [d1, d2] => { results := [.lit (.bool true)], args := [d1, d2] }
  | _ => none }
def glyphCutsRow : OpenClaim := { program := "ytmjbpcoopbihhaa", sum := "fc55690a0acb76d2dd331639ca76ea5564ead4fadcdb203801e2df776d7973c2", func := "argosy/argosylaw01.GlyphCuts", spec := "glyphCuts", unfollowed := true, recurses := true, apart := false }
def GlyphCutsSaid : Prop := glyphCutsRow.holds Try.pinned (OpenSpec.ofChange glyphCutsSpec)

/-- ITS FALSE NEIGHBOUR: 'it returns false'. Refute it at one input. -/
def glyphCutsWrong : ChangeSpec := { name := "glyphCuts", fn := fun _ => fun
  | [d1, d2] => { results := [.lit (.bool false)], args := [d1, d2] }
  | _ => none }
def GlyphCutsWrongFalsely : Prop := glyphCutsRow.holds Try.pinned (OpenSpec.ofChange glyphCutsWrong)

/- THE SECOND FORM. 'bulk': how many values and letters a reading holds, each counted each time it is reached (what is shared counts as often as it is met; a slice's spare places count too). A statement '..UptoSaid' is the law's where the arguments, and the package variables that the reading takes, are together of bulk at most 1048576: NARROWER than '..Said'. Prove '..Said' where nothing that the law and all that it calls make is longer than what came in: it says more and counts as full. Else prove '..UptoSaid'. A law counts once. -/
mutual
def uptoBulk {H : Type} : DataW H → Nat
  | .lit (.string bytes) => bytes.length + 1
  | .lit _ => 1
  | .nil => 1
  | .ptr d => uptoBulk d + 1
  | .slice elems spare => uptoBulkAll elems + uptoBulkAll spare + 1
  | .agg parts => uptoBulkAll parts + 1
  | .iface _ d => uptoBulk d + 1
  | .map entries => uptoBulkEntries entries + 1
  | .held _ => 1
def uptoBulkAll {H : Type} : List (DataW H) → Nat
  | [] => 0
  | d :: r => uptoBulk d + uptoBulkAll r
def uptoBulkEntries {H : Type} : List (Lit × DataW H) → Nat
  | [] => 0
  | x :: r => uptoBulkEntry x + uptoBulkEntries r
def uptoBulkEntry {H : Type} : Lit × DataW H → Nat
  | (.string bytes, d) => bytes.length + uptoBulk d + 1
  | (_, d) => uptoBulk d + 1
 end
def uptoSmall : (H : Type) → List (DataW H) → Bool := fun _ ds => decide (uptoBulkAll ds ≤ 1048576)
def OpenSpec.upto (s : _root_.Go.ChangeSpec) : _root_.Go.OpenSpec := { _root_.Go.OpenSpec.ofChange s with cond := some uptoSmall }

/-- 'argosylaw01.GlyphRunes', WHERE WHAT IT READS IS OF BULK AT MOST 1048576: true; the input reads as it did. -/
def glyphRunesUptoRow : OpenClaim := { program := "ytmjbpcoopbihhaa", sum := "fc55690a0acb76d2dd331639ca76ea5564ead4fadcdb203801e2df776d7973c2", func := "argosy/argosylaw01.GlyphRunes", spec := "glyphRunes", unfollowed := true, recurses := true, apart := false, narrowed := true }
def GlyphRunesUptoSaid : Prop := glyphRunesUptoRow.holds Try.pinned (OpenSpec.upto glyphRunesSpec)

/-- 'argosylaw01.GlyphTexts', WHERE WHAT IT READS IS OF BULK AT MOST 1048576: true; the input reads as it did. -/
def glyphTextsUptoRow : OpenClaim := { program := "ytmjbpcoopbihhaa", sum := "fc55690a0acb76d2dd331639ca76ea5564ead4fadcdb203801e2df776d7973c2", func := "argosy/argosylaw01.GlyphTexts", spec := "glyphTexts", unfollowed := true, recurses := true, apart := false, narrowed := true }
def GlyphTextsUptoSaid : Prop := glyphTextsUptoRow.holds Try.pinned (OpenSpec.upto glyphTextsSpec)

/-- 'argosylaw01.GlyphClasses', WHERE WHAT IT READS IS OF BULK AT MOST 1048576: true; the input reads as it did. -/
def glyphClassesUptoRow : OpenClaim := { program := "ytmjbpcoopbihhaa", sum := "fc55690a0acb76d2dd331639ca76ea5564ead4fadcdb203801e2df776d7973c2", func := "argosy/argosylaw01.GlyphClasses", spec := "glyphClasses", unfollowed := true, recurses := true, apart := false, narrowed := true }
def GlyphClassesUptoSaid : Prop := glyphClassesUptoRow.holds Try.pinned (OpenSpec.upto glyphClassesSpec)

/-- 'argosylaw01.GlyphBack', WHERE WHAT IT READS IS OF BULK AT MOST 1048576: true; the input reads as it did. -/
def glyphBackUptoRow : OpenClaim := { program := "ytmjbpcoopbihhaa", sum := "fc55690a0acb76d2dd331639ca76ea5564ead4fadcdb203801e2df776d7973c2", func := "argosy/argosylaw01.GlyphBack", spec := "glyphBack", unfollowed := true, recurses := true, apart := false, narrowed := true }
def GlyphBackUptoSaid : Prop := glyphBackUptoRow.holds Try.pinned (OpenSpec.upto glyphBackSpec)

/-- 'argosylaw01.GlyphJoins', WHERE WHAT IT READS IS OF BULK AT MOST 1048576: true; the input reads as it did. -/
def glyphJoinsUptoRow : OpenClaim := { program := "ytmjbpcoopbihhaa", sum := "fc55690a0acb76d2dd331639ca76ea5564ead4fadcdb203801e2df776d7973c2", func := "argosy/argosylaw01.GlyphJoins", spec := "glyphJoins", unfollowed := true, recurses := true, apart := false, narrowed := true }
def GlyphJoinsUptoSaid : Prop := glyphJoinsUptoRow.holds Try.pinned (OpenSpec.upto glyphJoinsSpec)

/-- 'argosylaw01.GlyphCuts', WHERE WHAT IT READS IS OF BULK AT MOST 1048576: true; the input reads as it did. -/
def glyphCutsUptoRow : OpenClaim := { program := "ytmjbpcoopbihhaa", sum := "fc55690a0acb76d2dd331639ca76ea5564ead4fadcdb203801e2df776d7973c2", func := "argosy/argosylaw01.GlyphCuts", spec := "glyphCuts", unfollowed := true, recurses := true, apart := false, narrowed := true }
def GlyphCutsUptoSaid : Prop := glyphCutsUptoRow.holds Try.pinned (OpenSpec.upto glyphCutsSpec)

end Rows
end Go.Proofs.Ytmjbpcoopbihhaa
