/-
  DERIVED. GIVEN WITH THE SEED: THE CARDS: each row of YtkkpafhoiofaiaaGreatDoorRows.lean that lists a variable, with what it lists TIED to the program's text (the seventh form; the later family's looks); each row that meets fmt, with fmt's text TOLD by the authors' own Lean function (tested against real Go, not proved from fmt's source: count such statements apart). THE CARD IS WHAT COUNTS. Prove the row's statement (the work); the ties are given (YtkkpafhoiofaiaaGreatDoorTie.lean); close each card by the builder's one call (the guide's Derived/Test/ToyasCard.lean, 'card_holds'). Laid BY PROGRAM, IN A SANDBOX (cutbox-door.mjs). By AI agents, Wed Nov 11 2026. No macro, syntax, notation, axiom, sorry.
-/
import Derived.Test.YtkkpafhoiofaiaaGreatDoorRows
import GoSem.ClaimSeven
namespace Go.Proofs.YtkkpafhoiofaiaaGreatDoor
namespace Rows

/-- THE TIED CARD OF 'pleachlaw20.NodeForms'. -/
def nodeFormsCard : Claim7 := { stood := { row := nodeFormsRow, standIns := [], harness := (true, "4287ecb894bba09200daf507586ceb4edbec26c4f9b7eff3fe0c89ccf2a3f547"), looks := true }, kinds := [], alts := [], laidByText := true, laidKinds := [.data, .pinned], laidTests := true, laidLooks := .later }
def NodeFormsCardSaid : Prop := Claim7.holds Tryz.pinned (.plain (OpenSpec.ofChange nodeFormsSpec)) nodeFormsCard

/-- THE TIED CARD OF 'pleachlaw22.WorldForms'. -/
def worldFormsCard : Claim7 := { stood := { row := worldFormsRow, standIns := [], harness := (true, "4287ecb894bba09200daf507586ceb4edbec26c4f9b7eff3fe0c89ccf2a3f547"), looks := true }, kinds := [], alts := [], laidByText := true, laidKinds := [.data, .pinned], laidTests := true, laidLooks := .later }
def WorldFormsCardSaid : Prop := Claim7.holds Tryz.pinned (.plain (OpenSpec.ofChange worldFormsSpec)) worldFormsCard

/-- THE TIED CARD OF 'pleachlaw23.QuietForms'. -/
def quietFormsCard : Claim7 := { stood := { row := quietFormsRow, standIns := [], harness := (true, "4287ecb894bba09200daf507586ceb4edbec26c4f9b7eff3fe0c89ccf2a3f547"), looks := true }, kinds := [], alts := [], laidByText := true, laidKinds := [.data, .pinned], laidTests := true, laidLooks := .later }
def QuietFormsCardSaid : Prop := Claim7.holds Tryz.pinned (.plain (OpenSpec.ofChange quietFormsSpec)) quietFormsCard

/-- THE SECOND FORM's CARD OF 'pleachlaw20.NodeForms'. -/
def nodeFormsUptoCard : Claim7 := { stood := { row := nodeFormsUptoRow, standIns := [], harness := (true, "4287ecb894bba09200daf507586ceb4edbec26c4f9b7eff3fe0c89ccf2a3f547"), looks := true }, kinds := [], alts := [], laidByText := true, laidKinds := [.data, .pinned], laidTests := true, laidLooks := .later }
def NodeFormsUptoCardSaid : Prop := Claim7.holds Tryz.pinned (.plain (OpenSpec.upto nodeFormsSpec)) nodeFormsUptoCard

/-- THE SECOND FORM's CARD OF 'pleachlaw22.WorldForms'. -/
def worldFormsUptoCard : Claim7 := { stood := { row := worldFormsUptoRow, standIns := [], harness := (true, "4287ecb894bba09200daf507586ceb4edbec26c4f9b7eff3fe0c89ccf2a3f547"), looks := true }, kinds := [], alts := [], laidByText := true, laidKinds := [.data, .pinned], laidTests := true, laidLooks := .later }
def WorldFormsUptoCardSaid : Prop := Claim7.holds Tryz.pinned (.plain (OpenSpec.upto worldFormsSpec)) worldFormsUptoCard

/-- THE SECOND FORM's CARD OF 'pleachlaw23.QuietForms'. -/
def quietFormsUptoCard : Claim7 := { stood := { row := quietFormsUptoRow, standIns := [], harness := (true, "4287ecb894bba09200daf507586ceb4edbec26c4f9b7eff3fe0c89ccf2a3f547"), looks := true }, kinds := [], alts := [], laidByText := true, laidKinds := [.data, .pinned], laidTests := true, laidLooks := .later }
def QuietFormsUptoCardSaid : Prop := Claim7.holds Tryz.pinned (.plain (OpenSpec.upto quietFormsSpec)) quietFormsUptoCard
end Rows
end Go.Proofs.YtkkpafhoiofaiaaGreatDoor
