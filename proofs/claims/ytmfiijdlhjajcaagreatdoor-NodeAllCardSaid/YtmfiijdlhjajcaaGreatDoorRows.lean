/-
  NARROWER THAN 'FOR EVERY INPUT', by the rows' own cells (each row's printed sentence says how): NodeJoins: laid · NodeDown: laid · NodeResumes: laid · NodeServes: laid · NodeDeaf: laid · NodeTwo: laid · NodeAll: laid.
  DERIVED. THE GIVEN ROWS OF THIS SEAT. 7 by the template 'for every input the law returns true; each argument reads behind the call as it read before'; 0 by the template 'total and deterministic' (their statements: YtmfiijdlhjajcaaGreatDoorTotals.lean).
  GIVEN WITH THE SEED: the statements are not yours to turn. If you find one false, say at which input.
  Laid BY PROGRAM, IN A SANDBOX (cutbox-rows.mjs): the forced cells as the released guide's own fill.sh prints them over the translation a574558ec8623adc… (all of the seat's roots in one cut). By AI agents, Wed Nov 11 2026. No macro, syntax, notation, axiom, sorry.
-/
import Derived.Test.YtmfiijdlhjajcaaGreatDoorChecked
import GoSem.PinnedTables
import GoSem.Claim
import GoSem.ClaimJoined
import GoSem.ClaimMapViews
import Derived.JoinedTies
import Derived.KernelRfl
namespace Go.Proofs.YtmfiijdlhjajcaaGreatDoor
/- THE CELL 'sum', in the pinned program and in every row, IS THE sha256 OF THE DUMP (.gsa) THAT YtmfiijdlhjajcaaGreatDoorProg.lean LOADS. Nothing in Lean hashes anything: it is a label: what it is worth is what the hold of that sum in a sandbox is worth. -/
noncomputable def Tryz.pinned : Pinned := { name := "ytmfiijdlhjajcaagreatdoor", sum := "a574558ec8623adc897fa4e1744d9d5fdf55c53359f6d05471bfde2efbbea6a0", checked := Tryz.checked }
namespace Rows
def none {H : Type} : Left H := { results := [], args := [] }

/- WHAT THE LISTED PACKAGE-LEVEL VARIABLES READ AS WHEN THE CALL BEGINS. Each datum BY PROGRAM (the guide's laid-datum.mjs) off the statement by which the dump's own 'gosem.cut.vars' lays the variable. In a bare row this is a premise. The card (YtmfiijdlhjajcaaGreatDoorCards.lean) ties it to the program's text. -/
def laid_unicode_utf8_acceptRanges {H : Type} : DataW H := .agg [.agg [.lit (.int .u8 128), .lit (.int .u8 191)], .agg [.lit (.int .u8 160), .lit (.int .u8 191)], .agg [.lit (.int .u8 128), .lit (.int .u8 159)], .agg [.lit (.int .u8 144), .lit (.int .u8 191)], .agg [.lit (.int .u8 128), .lit (.int .u8 143)], .agg [.lit (.int .u8 0), .lit (.int .u8 0)], .agg [.lit (.int .u8 0), .lit (.int .u8 0)], .agg [.lit (.int .u8 0), .lit (.int .u8 0)], .agg [.lit (.int .u8 0), .lit (.int .u8 0)], .agg [.lit (.int .u8 0), .lit (.int .u8 0)], .agg [.lit (.int .u8 0), .lit (.int .u8 0)], .agg [.lit (.int .u8 0), .lit (.int .u8 0)], .agg [.lit (.int .u8 0), .lit (.int .u8 0)], .agg [.lit (.int .u8 0), .lit (.int .u8 0)], .agg [.lit (.int .u8 0), .lit (.int .u8 0)], .agg [.lit (.int .u8 0), .lit (.int .u8 0)]]
/-- One of Go's own tables, pinned by name: the form's constant. -/
def laid_unicode_utf8_first : DataW Unit := Go.Pinned.utf8First

/-- 'pleachlaw20.NodeJoins': WHATEVER THE INPUT: true; the input reads as it did. -/
def nodeJoinsSpec : ChangeSpec := { name := "nodeJoins", fn := fun _ => fun
  | [d1, d2, d3, d4, d5] => { results := [.lit (.bool true)], args := [d1, d2, d3, d4, d5] }
  | _ => none }
def nodeJoinsRow : OpenClaim := { program := "ytmfiijdlhjajcaagreatdoor", sum := "a574558ec8623adc897fa4e1744d9d5fdf55c53359f6d05471bfde2efbbea6a0", func := "pleach/pleachlaw20.NodeJoins", spec := "nodeJoins", inPlace := ["slices.overlaps[pleach/api.Kid]", "slices.overlaps[pleach/api.Item]"], unfollowed := true, recurses := true, named := ["unicode/utf8.first", "unicode/utf8.acceptRanges"], apart := false, laid := [("unicode/utf8.acceptRanges", laid_unicode_utf8_acceptRanges), ("unicode/utf8.first", laid_unicode_utf8_first)] }
def NodeJoinsSaid : Prop := nodeJoinsRow.holds Tryz.pinned (OpenSpec.ofChange nodeJoinsSpec)

/-- ITS FALSE NEIGHBOUR: 'it returns false'. Refute it at one input. -/
def nodeJoinsWrong : ChangeSpec := { name := "nodeJoins", fn := fun _ => fun
  | [d1, d2, d3, d4, d5] => { results := [.lit (.bool false)], args := [d1, d2, d3, d4, d5] }
  | _ => none }
def NodeJoinsWrongFalsely : Prop := nodeJoinsRow.holds Tryz.pinned (OpenSpec.ofChange nodeJoinsWrong)

/-- 'pleachlaw20.NodeDown': WHATEVER THE INPUT: true; the input reads as it did. -/
def nodeDownSpec : ChangeSpec := { name := "nodeDown", fn := fun _ => fun
  | [d1, d2, d3] => { results := [.lit (.bool true)], args := [d1, d2, d3] }
  | _ => none }
def nodeDownRow : OpenClaim := { program := "ytmfiijdlhjajcaagreatdoor", sum := "a574558ec8623adc897fa4e1744d9d5fdf55c53359f6d05471bfde2efbbea6a0", func := "pleach/pleachlaw20.NodeDown", spec := "nodeDown", inPlace := ["slices.overlaps[pleach/api.Kid]", "slices.overlaps[pleach/api.Item]"], unfollowed := true, recurses := true, named := ["unicode/utf8.first", "unicode/utf8.acceptRanges"], apart := false, laid := [("unicode/utf8.acceptRanges", laid_unicode_utf8_acceptRanges), ("unicode/utf8.first", laid_unicode_utf8_first)] }
def NodeDownSaid : Prop := nodeDownRow.holds Tryz.pinned (OpenSpec.ofChange nodeDownSpec)

/-- ITS FALSE NEIGHBOUR: 'it returns false'. Refute it at one input. -/
def nodeDownWrong : ChangeSpec := { name := "nodeDown", fn := fun _ => fun
  | [d1, d2, d3] => { results := [.lit (.bool false)], args := [d1, d2, d3] }
  | _ => none }
def NodeDownWrongFalsely : Prop := nodeDownRow.holds Tryz.pinned (OpenSpec.ofChange nodeDownWrong)

/-- 'pleachlaw20.NodeResumes': WHATEVER THE INPUT: true; the input reads as it did. -/
def nodeResumesSpec : ChangeSpec := { name := "nodeResumes", fn := fun _ => fun
  | [d1, d2, d3] => { results := [.lit (.bool true)], args := [d1, d2, d3] }
  | _ => none }
def nodeResumesRow : OpenClaim := { program := "ytmfiijdlhjajcaagreatdoor", sum := "a574558ec8623adc897fa4e1744d9d5fdf55c53359f6d05471bfde2efbbea6a0", func := "pleach/pleachlaw20.NodeResumes", spec := "nodeResumes", inPlace := ["slices.overlaps[pleach/api.Kid]", "slices.overlaps[pleach/api.Item]"], unfollowed := true, recurses := true, named := ["unicode/utf8.first", "unicode/utf8.acceptRanges"], apart := false, laid := [("unicode/utf8.acceptRanges", laid_unicode_utf8_acceptRanges), ("unicode/utf8.first", laid_unicode_utf8_first)] }
def NodeResumesSaid : Prop := nodeResumesRow.holds Tryz.pinned (OpenSpec.ofChange nodeResumesSpec)

/-- ITS FALSE NEIGHBOUR: 'it returns false'. Refute it at one input. -/
def nodeResumesWrong : ChangeSpec := { name := "nodeResumes", fn := fun _ => fun
  | [d1, d2, d3] => { results := [.lit (.bool false)], args := [d1, d2, d3] }
  | _ => none }
def NodeResumesWrongFalsely : Prop := nodeResumesRow.holds Tryz.pinned (OpenSpec.ofChange nodeResumesWrong)

/-- 'pleachlaw20.NodeServes': WHATEVER THE INPUT: true; the input reads as it did. -/
def nodeServesSpec : ChangeSpec := { name := "nodeServes", fn := fun _ => fun
  | [d1, d2, d3, d4, d5] => { results := [.lit (.bool true)], args := [d1, d2, d3, d4, d5] }
  | _ => none }
def nodeServesRow : OpenClaim := { program := "ytmfiijdlhjajcaagreatdoor", sum := "a574558ec8623adc897fa4e1744d9d5fdf55c53359f6d05471bfde2efbbea6a0", func := "pleach/pleachlaw20.NodeServes", spec := "nodeServes", inPlace := ["slices.overlaps[pleach/api.Kid]", "slices.overlaps[pleach/api.Item]"], unfollowed := true, recurses := true, named := ["unicode/utf8.first", "unicode/utf8.acceptRanges"], apart := false, laid := [("unicode/utf8.acceptRanges", laid_unicode_utf8_acceptRanges), ("unicode/utf8.first", laid_unicode_utf8_first)] }
def NodeServesSaid : Prop := nodeServesRow.holds Tryz.pinned (OpenSpec.ofChange nodeServesSpec)

/-- ITS FALSE NEIGHBOUR: 'it returns false'. Refute it at one input. -/
def nodeServesWrong : ChangeSpec := { name := "nodeServes", fn := fun _ => fun
  | [d1, d2, d3, d4, d5] => { results := [.lit (.bool false)], args := [d1, d2, d3, d4, d5] }
  | _ => none }
def NodeServesWrongFalsely : Prop := nodeServesRow.holds Tryz.pinned (OpenSpec.ofChange nodeServesWrong)

/-- 'pleachlaw20.NodeDeaf': WHATEVER THE INPUT: true; the input reads as it did. -/
def nodeDeafSpec : ChangeSpec := { name := "nodeDeaf", fn := fun _ => fun
  | [d1, d2, d3, d4] => { results := [.lit (.bool true)], args := [d1, d2, d3, d4] }
  | _ => none }
def nodeDeafRow : OpenClaim := { program := "ytmfiijdlhjajcaagreatdoor", sum := "a574558ec8623adc897fa4e1744d9d5fdf55c53359f6d05471bfde2efbbea6a0", func := "pleach/pleachlaw20.NodeDeaf", spec := "nodeDeaf", inPlace := ["slices.overlaps[pleach/api.Kid]", "slices.overlaps[pleach/api.Item]"], unfollowed := true, recurses := true, named := ["unicode/utf8.first", "unicode/utf8.acceptRanges"], apart := false, laid := [("unicode/utf8.acceptRanges", laid_unicode_utf8_acceptRanges), ("unicode/utf8.first", laid_unicode_utf8_first)] }
def NodeDeafSaid : Prop := nodeDeafRow.holds Tryz.pinned (OpenSpec.ofChange nodeDeafSpec)

/-- ITS FALSE NEIGHBOUR: 'it returns false'. Refute it at one input. -/
def nodeDeafWrong : ChangeSpec := { name := "nodeDeaf", fn := fun _ => fun
  | [d1, d2, d3, d4] => { results := [.lit (.bool false)], args := [d1, d2, d3, d4] }
  | _ => none }
def NodeDeafWrongFalsely : Prop := nodeDeafRow.holds Tryz.pinned (OpenSpec.ofChange nodeDeafWrong)

/-- 'pleachlaw20.NodeTwo': WHATEVER THE INPUT: true; the input reads as it did. -/
def nodeTwoSpec : ChangeSpec := { name := "nodeTwo", fn := fun _ => fun
  | [d] => { results := [.lit (.bool true)], args := [d] }
  | _ => none }
def nodeTwoRow : OpenClaim := { program := "ytmfiijdlhjajcaagreatdoor", sum := "a574558ec8623adc897fa4e1744d9d5fdf55c53359f6d05471bfde2efbbea6a0", func := "pleach/pleachlaw20.NodeTwo", spec := "nodeTwo", inPlace := ["slices.overlaps[pleach/api.Kid]", "slices.overlaps[pleach/api.Item]"], unfollowed := true, recurses := true, named := ["unicode/utf8.first", "unicode/utf8.acceptRanges"], apart := false, laid := [("unicode/utf8.acceptRanges", laid_unicode_utf8_acceptRanges), ("unicode/utf8.first", laid_unicode_utf8_first)] }
def NodeTwoSaid : Prop := nodeTwoRow.holds Tryz.pinned (OpenSpec.ofChange nodeTwoSpec)

/-- ITS FALSE NEIGHBOUR: 'it returns false'. Refute it at one input. -/
def nodeTwoWrong : ChangeSpec := { name := "nodeTwo", fn := fun _ => fun
  | [d] => { results := [.lit (.bool false)], args := [d] }
  | _ => none }
def NodeTwoWrongFalsely : Prop := nodeTwoRow.holds Tryz.pinned (OpenSpec.ofChange nodeTwoWrong)

/-- 'pleachlaw20.NodeAll': WHATEVER THE INPUT: true; the input reads as it did. -/
def nodeAllSpec : ChangeSpec := { name := "nodeAll", fn := fun _ => fun
  | [d1, d2, d3, d4] => { results := [.lit (.bool true)], args := [d1, d2, d3, d4] }
  | _ => none }
def nodeAllRow : OpenClaim := { program := "ytmfiijdlhjajcaagreatdoor", sum := "a574558ec8623adc897fa4e1744d9d5fdf55c53359f6d05471bfde2efbbea6a0", func := "pleach/pleachlaw20.NodeAll", spec := "nodeAll", inPlace := ["slices.overlaps[pleach/api.Kid]", "slices.overlaps[pleach/api.Item]"], unfollowed := true, recurses := true, named := ["unicode/utf8.first", "unicode/utf8.acceptRanges"], apart := false, laid := [("unicode/utf8.acceptRanges", laid_unicode_utf8_acceptRanges), ("unicode/utf8.first", laid_unicode_utf8_first)] }
def NodeAllSaid : Prop := nodeAllRow.holds Tryz.pinned (OpenSpec.ofChange nodeAllSpec)

/-- ITS FALSE NEIGHBOUR: 'it returns false'. Refute it at one input. -/
def nodeAllWrong : ChangeSpec := { name := "nodeAll", fn := fun _ => fun
  | [d1, d2, d3, d4] => { results := [.lit (.bool false)], args := [d1, d2, d3, d4] }
  | _ => none }
def NodeAllWrongFalsely : Prop := nodeAllRow.holds Tryz.pinned (OpenSpec.ofChange nodeAllWrong)

/- THE SECOND FORM. 'bulk': how many values and letters a reading holds, each counted each time it is reached (what is shared counts as often as it is met; a slice's spare places count too). A statement '..UptoSaid' is the law's where the arguments, and the package variables that the reading takes, are together of bulk at most 1048576: NARROWER than '..Said'. Prove '..Said' where nothing that the law and all that it calls make is longer than what came in: it says more and counts as full. Else prove '..UptoSaid'. A law counts once. -/
mutual
def uptoBulk {H : Type} : DataW H → Nat
  | .lit (.string bytes) => bytes.length + 1
  | .lit _ => 1
  | .nil => 1
  | .ptr d => uptoBulk d + 1
  | .slice elems spare => uptoBulkAll elems + uptoBulkAll spare + 1
  | .agg parts => uptoBulkAll parts + 1
  | .iface _ d => uptoBulk d + 1
  | .map entries => uptoBulkEntries entries + 1
  | .held _ => 1
def uptoBulkAll {H : Type} : List (DataW H) → Nat
  | [] => 0
  | d :: r => uptoBulk d + uptoBulkAll r
def uptoBulkEntries {H : Type} : List (Lit × DataW H) → Nat
  | [] => 0
  | x :: r => uptoBulkEntry x + uptoBulkEntries r
def uptoBulkEntry {H : Type} : Lit × DataW H → Nat
  | (.string bytes, d) => bytes.length + uptoBulk d + 1
  | (_, d) => uptoBulk d + 1
 end
def uptoSmall : (H : Type) → List (DataW H) → Bool := fun _ ds => decide (uptoBulkAll ds ≤ 1048576)
def OpenSpec.upto (s : _root_.Go.ChangeSpec) : _root_.Go.OpenSpec := { _root_.Go.OpenSpec.ofChange s with cond := some uptoSmall }

/-- 'pleachlaw20.NodeJoins', WHERE WHAT IT READS IS OF BULK AT MOST 1048576: true; the input reads as it did. -/
def nodeJoinsUptoRow : OpenClaim := { program := "ytmfiijdlhjajcaagreatdoor", sum := "a574558ec8623adc897fa4e1744d9d5fdf55c53359f6d05471bfde2efbbea6a0", func := "pleach/pleachlaw20.NodeJoins", spec := "nodeJoins", inPlace := ["slices.overlaps[pleach/api.Kid]", "slices.overlaps[pleach/api.Item]"], unfollowed := true, recurses := true, named := ["unicode/utf8.first", "unicode/utf8.acceptRanges"], apart := false, laid := [("unicode/utf8.acceptRanges", laid_unicode_utf8_acceptRanges), ("unicode/utf8.first", laid_unicode_utf8_first)], narrowed := true }
def NodeJoinsUptoSaid : Prop := nodeJoinsUptoRow.holds Tryz.pinned (OpenSpec.upto nodeJoinsSpec)

/-- 'pleachlaw20.NodeDown', WHERE WHAT IT READS IS OF BULK AT MOST 1048576: true; the input reads as it did. -/
def nodeDownUptoRow : OpenClaim := { program := "ytmfiijdlhjajcaagreatdoor", sum := "a574558ec8623adc897fa4e1744d9d5fdf55c53359f6d05471bfde2efbbea6a0", func := "pleach/pleachlaw20.NodeDown", spec := "nodeDown", inPlace := ["slices.overlaps[pleach/api.Kid]", "slices.overlaps[pleach/api.Item]"], unfollowed := true, recurses := true, named := ["unicode/utf8.first", "unicode/utf8.acceptRanges"], apart := false, laid := [("unicode/utf8.acceptRanges", laid_unicode_utf8_acceptRanges), ("unicode/utf8.first", laid_unicode_utf8_first)], narrowed := true }
def NodeDownUptoSaid : Prop := nodeDownUptoRow.holds Tryz.pinned (OpenSpec.upto nodeDownSpec)

/-- 'pleachlaw20.NodeResumes', WHERE WHAT IT READS IS OF BULK AT MOST 1048576: true; the input reads as it did. -/
def nodeResumesUptoRow : OpenClaim := { program := "ytmfiijdlhjajcaagreatdoor", sum := "a574558ec8623adc897fa4e1744d9d5fdf55c53359f6d05471bfde2efbbea6a0", func := "pleach/pleachlaw20.NodeResumes", spec := "nodeResumes", inPlace := ["slices.overlaps[pleach/api.Kid]", "slices.overlaps[pleach/api.Item]"], unfollowed := true, recurses := true, named := ["unicode/utf8.first", "unicode/utf8.acceptRanges"], apart := false, laid := [("unicode/utf8.acceptRanges", laid_unicode_utf8_acceptRanges), ("unicode/utf8.first", laid_unicode_utf8_first)], narrowed := true }
def NodeResumesUptoSaid : Prop := nodeResumesUptoRow.holds Tryz.pinned (OpenSpec.upto nodeResumesSpec)

/-- 'pleachlaw20.NodeServes', WHERE WHAT IT READS IS OF BULK AT MOST 1048576: true; the input reads as it did. -/
def nodeServesUptoRow : OpenClaim := { program := "ytmfiijdlhjajcaagreatdoor", sum := "a574558ec8623adc897fa4e1744d9d5fdf55c53359f6d05471bfde2efbbea6a0", func := "pleach/pleachlaw20.NodeServes", spec := "nodeServes", inPlace := ["slices.overlaps[pleach/api.Kid]", "slices.overlaps[pleach/api.Item]"], unfollowed := true, recurses := true, named := ["unicode/utf8.first", "unicode/utf8.acceptRanges"], apart := false, laid := [("unicode/utf8.acceptRanges", laid_unicode_utf8_acceptRanges), ("unicode/utf8.first", laid_unicode_utf8_first)], narrowed := true }
def NodeServesUptoSaid : Prop := nodeServesUptoRow.holds Tryz.pinned (OpenSpec.upto nodeServesSpec)

/-- 'pleachlaw20.NodeDeaf', WHERE WHAT IT READS IS OF BULK AT MOST 1048576: true; the input reads as it did. -/
def nodeDeafUptoRow : OpenClaim := { program := "ytmfiijdlhjajcaagreatdoor", sum := "a574558ec8623adc897fa4e1744d9d5fdf55c53359f6d05471bfde2efbbea6a0", func := "pleach/pleachlaw20.NodeDeaf", spec := "nodeDeaf", inPlace := ["slices.overlaps[pleach/api.Kid]", "slices.overlaps[pleach/api.Item]"], unfollowed := true, recurses := true, named := ["unicode/utf8.first", "unicode/utf8.acceptRanges"], apart := false, laid := [("unicode/utf8.acceptRanges", laid_unicode_utf8_acceptRanges), ("unicode/utf8.first", laid_unicode_utf8_first)], narrowed := true }
def NodeDeafUptoSaid : Prop := nodeDeafUptoRow.holds Tryz.pinned (OpenSpec.upto nodeDeafSpec)

/-- 'pleachlaw20.NodeTwo', WHERE WHAT IT READS IS OF BULK AT MOST 1048576: true; the input reads as it did. -/
def nodeTwoUptoRow : OpenClaim := { program := "ytmfiijdlhjajcaagreatdoor", sum := "a574558ec8623adc897fa4e1744d9d5fdf55c53359f6d05471bfde2efbbea6a0", func := "pleach/pleachlaw20.NodeTwo", spec := "nodeTwo", inPlace := ["slices.overlaps[pleach/api.Kid]", "slices.overlaps[pleach/api.Item]"], unfollowed := true, recurses := true, named := ["unicode/utf8.first", "unicode/utf8.acceptRanges"], apart := false, laid := [("unicode/utf8.acceptRanges", laid_unicode_utf8_acceptRanges), ("unicode/utf8.first", laid_unicode_utf8_first)], narrowed := true }
def NodeTwoUptoSaid : Prop := nodeTwoUptoRow.holds Tryz.pinned (OpenSpec.upto nodeTwoSpec)

/-- 'pleachlaw20.NodeAll', WHERE WHAT IT READS IS OF BULK AT MOST 1048576: true; the input reads as it did. -/
def nodeAllUptoRow : OpenClaim := { program := "ytmfiijdlhjajcaagreatdoor", sum := "a574558ec8623adc897fa4e1744d9d5fdf55c53359f6d05471bfde2efbbea6a0", func := "pleach/pleachlaw20.NodeAll", spec := "nodeAll", inPlace := ["slices.overlaps[pleach/api.Kid]", "slices.overlaps[pleach/api.Item]"], unfollowed := true, recurses := true, named := ["unicode/utf8.first", "unicode/utf8.acceptRanges"], apart := false, laid := [("unicode/utf8.acceptRanges", laid_unicode_utf8_acceptRanges), ("unicode/utf8.first", laid_unicode_utf8_first)], narrowed := true }
def NodeAllUptoSaid : Prop := nodeAllUptoRow.holds Tryz.pinned (OpenSpec.upto nodeAllSpec)

end Rows
end Go.Proofs.YtmfiijdlhjajcaaGreatDoor
