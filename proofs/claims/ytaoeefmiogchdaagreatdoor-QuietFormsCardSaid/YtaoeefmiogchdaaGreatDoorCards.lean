/-
  DERIVED. GIVEN WITH THE SEED: THE CARDS: each row of YtaoeefmiogchdaaGreatDoorRows.lean that lists a variable, with what it lists TIED to the program's text (the seventh form; the later family's looks); each row that meets fmt, with fmt's text TOLD by the authors' own Lean function (tested against real Go, not proved from fmt's source: count such statements apart). THE CARD IS WHAT COUNTS. Prove the row's statement (the work); the ties are given (YtaoeefmiogchdaaGreatDoorTie.lean); close each card by the builder's one call (the guide's Derived/Test/ToyasCard.lean, 'card_holds'). Laid BY PROGRAM, IN A SANDBOX (cutbox-door.mjs). By AI agents, Wed Nov 11 2026. No macro, syntax, notation, axiom, sorry.
-/
import Derived.Test.YtaoeefmiogchdaaGreatDoorRows
import GoSem.ClaimSeven
namespace Go.Proofs.YtaoeefmiogchdaaGreatDoor
namespace Rows

/-- THE TIED CARD OF 'pleachlaw23.QuietForms'. -/
def quietFormsCard : Claim7 := { stood := { row := quietFormsRow, standIns := [], harness := (true, "441a6effc5a6b68bcd8dce6cbda3f9c212dbb10a260456022924390c46b0dca2"), looks := true }, kinds := [], alts := [], laidByText := true, laidKinds := [.data, .pinned], laidTests := true, laidLooks := .later }
def QuietFormsCardSaid : Prop := Claim7.holds Tryz.pinned (.plain (OpenSpec.ofChange quietFormsSpec)) quietFormsCard

/-- THE SECOND FORM's CARD OF 'pleachlaw23.QuietForms'. -/
def quietFormsUptoCard : Claim7 := { stood := { row := quietFormsUptoRow, standIns := [], harness := (true, "441a6effc5a6b68bcd8dce6cbda3f9c212dbb10a260456022924390c46b0dca2"), looks := true }, kinds := [], alts := [], laidByText := true, laidKinds := [.data, .pinned], laidTests := true, laidLooks := .later }
def QuietFormsUptoCardSaid : Prop := Claim7.holds Tryz.pinned (.plain (OpenSpec.upto quietFormsSpec)) quietFormsUptoCard
end Rows
end Go.Proofs.YtaoeefmiogchdaaGreatDoor
