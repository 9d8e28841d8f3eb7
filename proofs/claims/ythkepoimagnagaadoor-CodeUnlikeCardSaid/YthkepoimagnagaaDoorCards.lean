/-
  DERIVED. GIVEN WITH THE SEED: THE CARDS: each row of YthkepoimagnagaaDoorRows.lean that lists a variable, with what it lists TIED to the program's text (the seventh form; the later family's looks); each row that meets fmt, with fmt's text TOLD by the authors' own Lean function (tested against real Go, not proved from fmt's source: count such statements apart). THE CARD IS WHAT COUNTS. Prove the row's statement (the work); the ties are given (YthkepoimagnagaaDoorTie.lean); close each card by the builder's one call (the guide's Derived/Test/ToyasCard.lean, 'card_holds'). Laid BY PROGRAM, IN A SANDBOX (cutbox-door.mjs). By AI agents, Wed Nov 11 2026. No macro, syntax, notation, axiom, sorry.
-/
import Derived.Test.YthkepoimagnagaaDoorRows
import GoSem.ClaimSeven
namespace Go.Proofs.YthkepoimagnagaaDoor
namespace Rows

/-- THE TIED CARD OF 'cachetlaw05.CodeUnlike'. -/
def codeUnlikeCard : Claim7 := { stood := { row := codeUnlikeRow, standIns := [], harness := (true, "0bebbc76cea18ca1c5af0d746f974de237a5328d5a18bf9b3138fecf79056ef8"), looks := false }, kinds := [], alts := [], laidByText := true, laidKinds := [.data, .data, .data], laidTests := true, laidLooks := .later }
def CodeUnlikeCardSaid : Prop := Claim7.holds Tryd.pinned (.plain (OpenSpec.ofChange codeUnlikeSpec)) codeUnlikeCard

/-- THE TIED CARD OF 'cachetlaw05.CodeTexts'. -/
def codeTextsCard : Claim7 := { stood := { row := codeTextsRow, standIns := [], harness := (true, "0bebbc76cea18ca1c5af0d746f974de237a5328d5a18bf9b3138fecf79056ef8"), looks := false }, kinds := [], alts := [], laidByText := true, laidKinds := [.data, .data, .data], laidTests := true, laidLooks := .later }
def CodeTextsCardSaid : Prop := Claim7.holds Tryd.pinned (.plain (OpenSpec.ofChange codeTextsSpec)) codeTextsCard

/-- THE SECOND FORM's CARD OF 'cachetlaw05.CodeUnlike'. -/
def codeUnlikeUptoCard : Claim7 := { stood := { row := codeUnlikeUptoRow, standIns := [], harness := (true, "0bebbc76cea18ca1c5af0d746f974de237a5328d5a18bf9b3138fecf79056ef8"), looks := false }, kinds := [], alts := [], laidByText := true, laidKinds := [.data, .data, .data], laidTests := true, laidLooks := .later }
def CodeUnlikeUptoCardSaid : Prop := Claim7.holds Tryd.pinned (.plain (OpenSpec.upto codeUnlikeSpec)) codeUnlikeUptoCard

/-- THE SECOND FORM's CARD OF 'cachetlaw05.CodeTexts'. -/
def codeTextsUptoCard : Claim7 := { stood := { row := codeTextsUptoRow, standIns := [], harness := (true, "0bebbc76cea18ca1c5af0d746f974de237a5328d5a18bf9b3138fecf79056ef8"), looks := false }, kinds := [], alts := [], laidByText := true, laidKinds := [.data, .data, .data], laidTests := true, laidLooks := .later }
def CodeTextsUptoCardSaid : Prop := Claim7.holds Tryd.pinned (.plain (OpenSpec.upto codeTextsSpec)) codeTextsUptoCard
end Rows
end Go.Proofs.YthkepoimagnagaaDoor
