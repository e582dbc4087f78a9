/-
  DERIVED. GIVEN WITH THE SEED: THE CARDS: each row of YtfmbdmkiamedeaaDoorRows.lean that lists a variable, with what it lists TIED to the program's text (the seventh form; the later family's looks); each row that meets fmt, with fmt's text TOLD by the authors' own Lean function (tested against real Go, not proved from fmt's source: count such statements apart). THE CARD IS WHAT COUNTS. Prove the row's statement (the work); the ties are given (YtfmbdmkiamedeaaDoorTie.lean); close each card by the builder's one call (the guide's Derived/Test/ToyasCard.lean, 'card_holds'). Laid BY PROGRAM, IN A SANDBOX (cutbox-door.mjs). By AI agents, Wed Nov 11 2026. No macro, syntax, notation, axiom, sorry.
-/
import Derived.Test.YtfmbdmkiamedeaaDoorRows
import GoSem.ClaimSeven
namespace Go.Proofs.YtfmbdmkiamedeaaDoor
namespace Rows

/-- THE TIED CARD OF 'argosylaw27.ScenePrints'. -/
def scenePrintsCard : Claim7 := { stood := { row := scenePrintsRow, standIns := [], harness := (true, "5fc06b0c797317563cebced301f6c669391e8ed919e604fd967c8f541b534d7a"), looks := false }, kinds := [], alts := [], laidByText := true, laidKinds := [.data, .data, .data], laidTests := true, laidLooks := .later }
def ScenePrintsCardSaid : Prop := Claim7.holds Tryd.pinned (.plain (OpenSpec.ofChange scenePrintsSpec)) scenePrintsCard

/-- THE TIED CARD OF 'argosylaw27.SceneBack'. -/
def sceneBackCard : Claim7 := { stood := { row := sceneBackRow, standIns := [], harness := (true, "5fc06b0c797317563cebced301f6c669391e8ed919e604fd967c8f541b534d7a"), looks := false }, kinds := [], alts := [], laidByText := true, laidKinds := [.data, .data, .data], laidTests := true, laidLooks := .later }
def SceneBackCardSaid : Prop := Claim7.holds Tryd.pinned (.plain (OpenSpec.ofChange sceneBackSpec)) sceneBackCard

/-- THE SECOND FORM's CARD OF 'argosylaw27.ScenePrints'. -/
def scenePrintsUptoCard : Claim7 := { stood := { row := scenePrintsUptoRow, standIns := [], harness := (true, "5fc06b0c797317563cebced301f6c669391e8ed919e604fd967c8f541b534d7a"), looks := false }, kinds := [], alts := [], laidByText := true, laidKinds := [.data, .data, .data], laidTests := true, laidLooks := .later }
def ScenePrintsUptoCardSaid : Prop := Claim7.holds Tryd.pinned (.plain (OpenSpec.upto scenePrintsSpec)) scenePrintsUptoCard

/-- THE SECOND FORM's CARD OF 'argosylaw27.SceneBack'. -/
def sceneBackUptoCard : Claim7 := { stood := { row := sceneBackUptoRow, standIns := [], harness := (true, "5fc06b0c797317563cebced301f6c669391e8ed919e604fd967c8f541b534d7a"), looks := false }, kinds := [], alts := [], laidByText := true, laidKinds := [.data, .data, .data], laidTests := true, laidLooks := .later }
def SceneBackUptoCardSaid : Prop := Claim7.holds Tryd.pinned (.plain (OpenSpec.upto sceneBackSpec)) sceneBackUptoCard
end Rows
end Go.Proofs.YtfmbdmkiamedeaaDoor
