/-
  DERIVED. GIVEN WITH THE SEED: THE CARDS: each row of YtmfiijdlhjajcaaGreatDoorRows.lean that lists a variable, with what it lists TIED to the program's text (the seventh form; the later family's looks); each row that meets fmt, with fmt's text TOLD by the authors' own Lean function (tested against real Go, not proved from fmt's source: count such statements apart). THE CARD IS WHAT COUNTS. Prove the row's statement (the work); the ties are given (YtmfiijdlhjajcaaGreatDoorTie.lean); close each card by the builder's one call (the guide's Derived/Test/ToyasCard.lean, 'card_holds'). Laid BY PROGRAM, IN A SANDBOX (cutbox-door.mjs). By AI agents, Wed Nov 11 2026. No macro, syntax, notation, axiom, sorry.
-/
import Derived.Test.YtmfiijdlhjajcaaGreatDoorRows
import GoSem.ClaimSeven
namespace Go.Proofs.YtmfiijdlhjajcaaGreatDoor
namespace Rows

/-- THE TIED CARD OF 'pleachlaw20.NodeJoins'. -/
def nodeJoinsCard : Claim7 := { stood := { row := nodeJoinsRow, standIns := [], harness := (true, "30142ab17430bdfdcd1a7180a463491b520788a206443f02f45dabf0a750fdfa"), looks := true }, kinds := [], alts := [], laidByText := true, laidKinds := [.data, .pinned], laidTests := true, laidLooks := .later }
def NodeJoinsCardSaid : Prop := Claim7.holds Tryz.pinned (.plain (OpenSpec.ofChange nodeJoinsSpec)) nodeJoinsCard

/-- THE TIED CARD OF 'pleachlaw20.NodeDown'. -/
def nodeDownCard : Claim7 := { stood := { row := nodeDownRow, standIns := [], harness := (true, "30142ab17430bdfdcd1a7180a463491b520788a206443f02f45dabf0a750fdfa"), looks := true }, kinds := [], alts := [], laidByText := true, laidKinds := [.data, .pinned], laidTests := true, laidLooks := .later }
def NodeDownCardSaid : Prop := Claim7.holds Tryz.pinned (.plain (OpenSpec.ofChange nodeDownSpec)) nodeDownCard

/-- THE TIED CARD OF 'pleachlaw20.NodeResumes'. -/
def nodeResumesCard : Claim7 := { stood := { row := nodeResumesRow, standIns := [], harness := (true, "30142ab17430bdfdcd1a7180a463491b520788a206443f02f45dabf0a750fdfa"), looks := true }, kinds := [], alts := [], laidByText := true, laidKinds := [.data, .pinned], laidTests := true, laidLooks := .later }
def NodeResumesCardSaid : Prop := Claim7.holds Tryz.pinned (.plain (OpenSpec.ofChange nodeResumesSpec)) nodeResumesCard

/-- THE TIED CARD OF 'pleachlaw20.NodeServes'. -/
def nodeServesCard : Claim7 := { stood := { row := nodeServesRow, standIns := [], harness := (true, "30142ab17430bdfdcd1a7180a463491b520788a206443f02f45dabf0a750fdfa"), looks := true }, kinds := [], alts := [], laidByText := true, laidKinds := [.data, .pinned], laidTests := true, laidLooks := .later }
def NodeServesCardSaid : Prop := Claim7.holds Tryz.pinned (.plain (OpenSpec.ofChange nodeServesSpec)) nodeServesCard

/-- THE TIED CARD OF 'pleachlaw20.NodeDeaf'. -/
def nodeDeafCard : Claim7 := { stood := { row := nodeDeafRow, standIns := [], harness := (true, "30142ab17430bdfdcd1a7180a463491b520788a206443f02f45dabf0a750fdfa"), looks := true }, kinds := [], alts := [], laidByText := true, laidKinds := [.data, .pinned], laidTests := true, laidLooks := .later }
def NodeDeafCardSaid : Prop := Claim7.holds Tryz.pinned (.plain (OpenSpec.ofChange nodeDeafSpec)) nodeDeafCard

/-- THE TIED CARD OF 'pleachlaw20.NodeTwo'. -/
def nodeTwoCard : Claim7 := { stood := { row := nodeTwoRow, standIns := [], harness := (true, "30142ab17430bdfdcd1a7180a463491b520788a206443f02f45dabf0a750fdfa"), looks := true }, kinds := [], alts := [], laidByText := true, laidKinds := [.data, .pinned], laidTests := true, laidLooks := .later }
def NodeTwoCardSaid : Prop := Claim7.holds Tryz.pinned (.plain (OpenSpec.ofChange nodeTwoSpec)) nodeTwoCard

/-- THE TIED CARD OF 'pleachlaw20.NodeAll'. -/
def nodeAllCard : Claim7 := { stood := { row := nodeAllRow, standIns := [], harness := (true, "30142ab17430bdfdcd1a7180a463491b520788a206443f02f45dabf0a750fdfa"), looks := true }, kinds := [], alts := [], laidByText := true, laidKinds := [.data, .pinned], laidTests := true, laidLooks := .later }
def NodeAllCardSaid : Prop := Claim7.holds Tryz.pinned (.plain (OpenSpec.ofChange nodeAllSpec)) nodeAllCard

/-- THE SECOND FORM's CARD OF 'pleachlaw20.NodeJoins'. -/
def nodeJoinsUptoCard : Claim7 := { stood := { row := nodeJoinsUptoRow, standIns := [], harness := (true, "30142ab17430bdfdcd1a7180a463491b520788a206443f02f45dabf0a750fdfa"), looks := true }, kinds := [], alts := [], laidByText := true, laidKinds := [.data, .pinned], laidTests := true, laidLooks := .later }
def NodeJoinsUptoCardSaid : Prop := Claim7.holds Tryz.pinned (.plain (OpenSpec.upto nodeJoinsSpec)) nodeJoinsUptoCard

/-- THE SECOND FORM's CARD OF 'pleachlaw20.NodeDown'. -/
def nodeDownUptoCard : Claim7 := { stood := { row := nodeDownUptoRow, standIns := [], harness := (true, "30142ab17430bdfdcd1a7180a463491b520788a206443f02f45dabf0a750fdfa"), looks := true }, kinds := [], alts := [], laidByText := true, laidKinds := [.data, .pinned], laidTests := true, laidLooks := .later }
def NodeDownUptoCardSaid : Prop := Claim7.holds Tryz.pinned (.plain (OpenSpec.upto nodeDownSpec)) nodeDownUptoCard

/-- THE SECOND FORM's CARD OF 'pleachlaw20.NodeResumes'. -/
def nodeResumesUptoCard : Claim7 := { stood := { row := nodeResumesUptoRow, standIns := [], harness := (true, "30142ab17430bdfdcd1a7180a463491b520788a206443f02f45dabf0a750fdfa"), looks := true }, kinds := [], alts := [], laidByText := true, laidKinds := [.data, .pinned], laidTests := true, laidLooks := .later }
def NodeResumesUptoCardSaid : Prop := Claim7.holds Tryz.pinned (.plain (OpenSpec.upto nodeResumesSpec)) nodeResumesUptoCard

/-- THE SECOND FORM's CARD OF 'pleachlaw20.NodeServes'. -/
def nodeServesUptoCard : Claim7 := { stood := { row := nodeServesUptoRow, standIns := [], harness := (true, "30142ab17430bdfdcd1a7180a463491b520788a206443f02f45dabf0a750fdfa"), looks := true }, kinds := [], alts := [], laidByText := true, laidKinds := [.data, .pinned], laidTests := true, laidLooks := .later }
def NodeServesUptoCardSaid : Prop := Claim7.holds Tryz.pinned (.plain (OpenSpec.upto nodeServesSpec)) nodeServesUptoCard

/-- THE SECOND FORM's CARD OF 'pleachlaw20.NodeDeaf'. -/
def nodeDeafUptoCard : Claim7 := { stood := { row := nodeDeafUptoRow, standIns := [], harness := (true, "30142ab17430bdfdcd1a7180a463491b520788a206443f02f45dabf0a750fdfa"), looks := true }, kinds := [], alts := [], laidByText := true, laidKinds := [.data, .pinned], laidTests := true, laidLooks := .later }
def NodeDeafUptoCardSaid : Prop := Claim7.holds Tryz.pinned (.plain (OpenSpec.upto nodeDeafSpec)) nodeDeafUptoCard

/-- THE SECOND FORM's CARD OF 'pleachlaw20.NodeTwo'. -/
def nodeTwoUptoCard : Claim7 := { stood := { row := nodeTwoUptoRow, standIns := [], harness := (true, "30142ab17430bdfdcd1a7180a463491b520788a206443f02f45dabf0a750fdfa"), looks := true }, kinds := [], alts := [], laidByText := true, laidKinds := [.data, .pinned], laidTests := true, laidLooks := .later }
def NodeTwoUptoCardSaid : Prop := Claim7.holds Tryz.pinned (.plain (OpenSpec.upto nodeTwoSpec)) nodeTwoUptoCard

/-- THE SECOND FORM's CARD OF 'pleachlaw20.NodeAll'. -/
def nodeAllUptoCard : Claim7 := { stood := { row := nodeAllUptoRow, standIns := [], harness := (true, "30142ab17430bdfdcd1a7180a463491b520788a206443f02f45dabf0a750fdfa"), looks := true }, kinds := [], alts := [], laidByText := true, laidKinds := [.data, .pinned], laidTests := true, laidLooks := .later }
def NodeAllUptoCardSaid : Prop := Claim7.holds Tryz.pinned (.plain (OpenSpec.upto nodeAllSpec)) nodeAllUptoCard
end Rows
end Go.Proofs.YtmfiijdlhjajcaaGreatDoor
