/-
  No cell of these rows narrows 'for every input' (looked for: loops, veiled, ifaces, maps, wideKeys, modest, calm, conditions, laid).
  DERIVED. THE GIVEN ROWS OF THIS SEAT. 11 by the template 'for every input the law returns true; each argument reads behind the call as it read before'; 0 by the template 'total and deterministic' (their statements: YtemajkklbjdmjaaTotals.lean).
  GIVEN WITH THE SEED: the statements are not yours to turn. If you find one false, say at which input.
  Laid BY PROGRAM, IN A SANDBOX (cutbox-rows.mjs): the forced cells as the released guide's own fill.sh prints them over the translation 74bf79f160f47c77… (all of the seat's roots in one cut). By AI agents, Wed Nov 11 2026. No macro, syntax, notation, axiom, sorry.
-/
import Derived.Test.YtemajkklbjdmjaaChecked
import GoSem.Claim
import GoSem.ClaimJoined
import GoSem.ClaimMapViews
import Derived.JoinedTies
import Derived.KernelRfl
namespace Go.Proofs.Ytemajkklbjdmjaa
/- THE CELL 'sum', in the pinned program and in every row, IS THE sha256 OF THE DUMP (.gsa) THAT YtemajkklbjdmjaaProg.lean LOADS. Nothing in Lean hashes anything: it is a label: what it is worth is what the hold of that sum in a sandbox is worth. -/
noncomputable def Try.pinned : Pinned := { name := "ytemajkklbjdmjaa", sum := "74bf79f160f47c77f3bcf626607ff00c01a21705d5bf871173d5583aa676dde4", checked := Try.checked }
namespace Rows
def none {H : Type} : Left H := { results := [], args := [] }

/-- 'pleachlaw8.ClusAll': WHATEVER THE INPUT: true; the input reads as it did. -/
def clusAllSpec : ChangeSpec := { name := "clusAll", fn := fun _ => fun
  | [d1, d2, d3] => { results := [.lit (.bool true)], args := [d1, d2, d3] }
  | _ => none }
def clusAllRow : OpenClaim := { program := "ytemajkklbjdmjaa", sum := "74bf79f160f47c77f3bcf626607ff00c01a21705d5bf871173d5583aa676dde4", func := "pleach/pleachlaw8.ClusAll", spec := "clusAll", unfollowed := true, recurses := true, apart := false }
def ClusAllSaid : Prop := clusAllRow.holds Try.pinned (OpenSpec.ofChange clusAllSpec)

/-- ITS FALSE NEIGHBOUR: 'it returns false'. Refute it at one input. -/
def clusAllWrong : ChangeSpec := { name := "clusAll", fn := fun _ => fun
  | [d1, d2, d3] => { results := [.lit (.bool false)], args := [d1, d2, d3] }
  | _ => none }
def ClusAllWrongFalsely : Prop := clusAllRow.holds Try.pinned (OpenSpec.ofChange clusAllWrong)

/-- 'pleachlaw8.ClusMoves': WHATEVER THE INPUT: true; the input reads as it did. -/
def clusMovesSpec : ChangeSpec := { name := "clusMoves", fn := fun _ => fun
  | [d1, d2, d3] => { results := [.lit (.bool true)], args := [d1, d2, d3] }
  | _ => none }
def clusMovesRow : OpenClaim := { program := "ytemajkklbjdmjaa", sum := "74bf79f160f47c77f3bcf626607ff00c01a21705d5bf871173d5583aa676dde4", func := "pleach/pleachlaw8.ClusMoves", spec := "clusMoves", unfollowed := true, recurses := true, apart := false }
def ClusMovesSaid : Prop := clusMovesRow.holds Try.pinned (OpenSpec.ofChange clusMovesSpec)

/-- ITS FALSE NEIGHBOUR: 'it returns false'. Refute it at one input. -/
def clusMovesWrong : ChangeSpec := { name := "clusMoves", fn := fun _ => fun
  | [d1, d2, d3] => { results := [.lit (.bool false)], args := [d1, d2, d3] }
  | _ => none }
def ClusMovesWrongFalsely : Prop := clusMovesRow.holds Try.pinned (OpenSpec.ofChange clusMovesWrong)

/-- 'pleachlaw8.ClusSizes': WHATEVER THE INPUT: true; the input reads as it did. -/
def clusSizesSpec : ChangeSpec := { name := "clusSizes", fn := fun _ => fun
  | [d1, d2, d3] => { results := [.lit (.bool true)], args := [d1, d2, d3] }
  | _ => none }
def clusSizesRow : OpenClaim := { program := "ytemajkklbjdmjaa", sum := "74bf79f160f47c77f3bcf626607ff00c01a21705d5bf871173d5583aa676dde4", func := "pleach/pleachlaw8.ClusSizes", spec := "clusSizes", unfollowed := true, recurses := true, apart := false }
def ClusSizesSaid : Prop := clusSizesRow.holds Try.pinned (OpenSpec.ofChange clusSizesSpec)

/-- ITS FALSE NEIGHBOUR: 'it returns false'. Refute it at one input. -/
def clusSizesWrong : ChangeSpec := { name := "clusSizes", fn := fun _ => fun
  | [d1, d2, d3] => { results := [.lit (.bool false)], args := [d1, d2, d3] }
  | _ => none }
def ClusSizesWrongFalsely : Prop := clusSizesRow.holds Try.pinned (OpenSpec.ofChange clusSizesWrong)

/-- 'pleachlaw8.ClusSplit': WHATEVER THE INPUT: true; the input reads as it did. -/
def clusSplitSpec : ChangeSpec := { name := "clusSplit", fn := fun _ => fun
  | [d1, d2, d3] => { results := [.lit (.bool true)], args := [d1, d2, d3] }
  | _ => none }
def clusSplitRow : OpenClaim := { program := "ytemajkklbjdmjaa", sum := "74bf79f160f47c77f3bcf626607ff00c01a21705d5bf871173d5583aa676dde4", func := "pleach/pleachlaw8.ClusSplit", spec := "clusSplit", unfollowed := true, recurses := true, apart := false }
def ClusSplitSaid : Prop := clusSplitRow.holds Try.pinned (OpenSpec.ofChange clusSplitSpec)

/-- ITS FALSE NEIGHBOUR: 'it returns false'. Refute it at one input. -/
def clusSplitWrong : ChangeSpec := { name := "clusSplit", fn := fun _ => fun
  | [d1, d2, d3] => { results := [.lit (.bool false)], args := [d1, d2, d3] }
  | _ => none }
def ClusSplitWrongFalsely : Prop := clusSplitRow.holds Try.pinned (OpenSpec.ofChange clusSplitWrong)

/-- 'pleachlaw8.ClusForms': WHATEVER THE INPUT: true; the input reads as it did. -/
def clusFormsSpec : ChangeSpec := { name := "clusForms", fn := fun _ => fun
  | [] => { results := [.lit (.bool true)], args := [] }
  | _ => none }
def clusFormsRow : OpenClaim := { program := "ytemajkklbjdmjaa", sum := "74bf79f160f47c77f3bcf626607ff00c01a21705d5bf871173d5583aa676dde4", func := "pleach/pleachlaw8.ClusForms", spec := "clusForms", unfollowed := true, recurses := true, apart := false }
def ClusFormsSaid : Prop := clusFormsRow.holds Try.pinned (OpenSpec.ofChange clusFormsSpec)

/-- ITS FALSE NEIGHBOUR: 'it returns false'. Refute it at one input. -/
def clusFormsWrong : ChangeSpec := { name := "clusForms", fn := fun _ => fun
  | [] => { results := [.lit (.bool false)], args := [] }
  | _ => none }
def ClusFormsWrongFalsely : Prop := clusFormsRow.holds Try.pinned (OpenSpec.ofChange clusFormsWrong)

/-- 'pleachlaw8.ClusNear': WHATEVER THE INPUT: true; the input reads as it did. -/
def clusNearSpec : ChangeSpec := { name := "clusNear", fn := fun _ => fun
  | [d1, d2, d3, d4] => { results := [.lit (.bool true)], args := [d1, d2, d3, d4] }
  | _ => none }
def clusNearRow : OpenClaim := { program := "ytemajkklbjdmjaa", sum := "74bf79f160f47c77f3bcf626607ff00c01a21705d5bf871173d5583aa676dde4", func := "pleach/pleachlaw8.ClusNear", spec := "clusNear", unfollowed := true, recurses := true, apart := false }
def ClusNearSaid : Prop := clusNearRow.holds Try.pinned (OpenSpec.ofChange clusNearSpec)

/-- ITS FALSE NEIGHBOUR: 'it returns false'. Refute it at one input. -/
def clusNearWrong : ChangeSpec := { name := "clusNear", fn := fun _ => fun
  | [d1, d2, d3, d4] => { results := [.lit (.bool false)], args := [d1, d2, d3, d4] }
  | _ => none }
def ClusNearWrongFalsely : Prop := clusNearRow.holds Try.pinned (OpenSpec.ofChange clusNearWrong)

/-- 'pleachlaw8.ClusGroup': WHATEVER THE INPUT: true; the input reads as it did. -/
def clusGroupSpec : ChangeSpec := { name := "clusGroup", fn := fun _ => fun
  | [d1, d2, d3] => { results := [.lit (.bool true)], args := [d1, d2, d3] }
  | _ => none }
def clusGroupRow : OpenClaim := { program := "ytemajkklbjdmjaa", sum := "74bf79f160f47c77f3bcf626607ff00c01a21705d5bf871173d5583aa676dde4", func := "pleach/pleachlaw8.ClusGroup", spec := "clusGroup", unfollowed := true, recurses := true, apart := false }
def ClusGroupSaid : Prop := clusGroupRow.holds Try.pinned (OpenSpec.ofChange clusGroupSpec)

/-- ITS FALSE NEIGHBOUR: 'it returns false'. Refute it at one input. -/
def clusGroupWrong : ChangeSpec := { name := "clusGroup", fn := fun _ => fun
  | [d1, d2, d3] => { results := [.lit (.bool false)], args := [d1, d2, d3] }
  | _ => none }
def ClusGroupWrongFalsely : Prop := clusGroupRow.holds Try.pinned (OpenSpec.ofChange clusGroupWrong)

/-- 'pleachlaw9.HierLeads': WHATEVER THE INPUT: true; the input reads as it did. -/
def hierLeadsSpec : ChangeSpec := { name := "hierLeads", fn := fun _ => fun
  | [d1, d2, d3] => { results := [.lit (.bool true)], args := [d1, d2, d3] }
  | _ => none }
def hierLeadsRow : OpenClaim := { program := "ytemajkklbjdmjaa", sum := "74bf79f160f47c77f3bcf626607ff00c01a21705d5bf871173d5583aa676dde4", func := "pleach/pleachlaw9.HierLeads", spec := "hierLeads", unfollowed := true, recurses := true, apart := false }
def HierLeadsSaid : Prop := hierLeadsRow.holds Try.pinned (OpenSpec.ofChange hierLeadsSpec)

/-- ITS FALSE NEIGHBOUR: 'it returns false'. Refute it at one input. -/
def hierLeadsWrong : ChangeSpec := { name := "hierLeads", fn := fun _ => fun
  | [d1, d2, d3] => { results := [.lit (.bool false)], args := [d1, d2, d3] }
  | _ => none }
def HierLeadsWrongFalsely : Prop := hierLeadsRow.holds Try.pinned (OpenSpec.ofChange hierLeadsWrong)

/-- 'pleachlaw9.HierForms': WHATEVER THE INPUT: true; the input reads as it did. -/
def hierFormsSpec : ChangeSpec := { name := "hierForms", fn := fun _ => fun
  | [] => { results := [.lit (.bool true)], args := [] }
  | _ => none }
def hierFormsRow : OpenClaim := { program := "ytemajkklbjdmjaa", sum := "74bf79f160f47c77f3bcf626607ff00c01a21705d5bf871173d5583aa676dde4", func := "pleach/pleachlaw9.HierForms", spec := "hierForms", unfollowed := true, recurses := true, apart := false }
def HierFormsSaid : Prop := hierFormsRow.holds Try.pinned (OpenSpec.ofChange hierFormsSpec)

/-- ITS FALSE NEIGHBOUR: 'it returns false'. Refute it at one input. -/
def hierFormsWrong : ChangeSpec := { name := "hierForms", fn := fun _ => fun
  | [] => { results := [.lit (.bool false)], args := [] }
  | _ => none }
def HierFormsWrongFalsely : Prop := hierFormsRow.holds Try.pinned (OpenSpec.ofChange hierFormsWrong)

/-- 'pleachlaw9.HierAlone': WHATEVER THE INPUT: true; the input reads as it did. -/
def hierAloneSpec : ChangeSpec := { name := "hierAlone", fn := fun _ => fun
  | [d1, d2, d3, d4] => { results := [.lit (.bool true)], args := [d1, d2, d3, d4] }
  | _ => none }
def hierAloneRow : OpenClaim := { program := "ytemajkklbjdmjaa", sum := "74bf79f160f47c77f3bcf626607ff00c01a21705d5bf871173d5583aa676dde4", func := "pleach/pleachlaw9.HierAlone", spec := "hierAlone", unfollowed := true, recurses := true, apart := false }
def HierAloneSaid : Prop := hierAloneRow.holds Try.pinned (OpenSpec.ofChange hierAloneSpec)

/-- ITS FALSE NEIGHBOUR: 'it returns false'. Refute it at one input. -/
def hierAloneWrong : ChangeSpec := { name := "hierAlone", fn := fun _ => fun
  | [d1, d2, d3, d4] => { results := [.lit (.bool false)], args := [d1, d2, d3, d4] }
  | _ => none }
def HierAloneWrongFalsely : Prop := hierAloneRow.holds Try.pinned (OpenSpec.ofChange hierAloneWrong)

/-- 'pleachlaw9.HierSizes': WHATEVER THE INPUT: true; the input reads as it did. -/
def hierSizesSpec : ChangeSpec := { name := "hierSizes", fn := fun _ => fun
  | [d1, d2, d3, d4] => { results := [.lit (.bool true)], args := [d1, d2, d3, d4] }
  | _ => none }
def hierSizesRow : OpenClaim := { program := "ytemajkklbjdmjaa", sum := "74bf79f160f47c77f3bcf626607ff00c01a21705d5bf871173d5583aa676dde4", func := "pleach/pleachlaw9.HierSizes", spec := "hierSizes", unfollowed := true, recurses := true, apart := false }
def HierSizesSaid : Prop := hierSizesRow.holds Try.pinned (OpenSpec.ofChange hierSizesSpec)

/-- ITS FALSE NEIGHBOUR: 'it returns false'. Refute it at one input. -/
def hierSizesWrong : ChangeSpec := { name := "hierSizes", fn := fun _ => fun
  | [d1, d2, d3, d4] => { results := [.lit (.bool false)], args := [d1, d2, d3, d4] }
  | _ => none }
def HierSizesWrongFalsely : Prop := hierSizesRow.holds Try.pinned (OpenSpec.ofChange hierSizesWrong)

/- THE SECOND FORM. 'bulk': how many values and letters a reading holds, each counted each time it is reached (what is shared counts as often as it is met; a slice's spare places count too). A statement '..UptoSaid' is the law's where the arguments, and the package variables that the reading takes, are together of bulk at most 1048576: NARROWER than '..Said'. Prove '..Said' where nothing that the law and all that it calls make is longer than what came in: it says more and counts as full. Else prove '..UptoSaid'. A law counts once. -/
mutual
def uptoBulk {H : Type} : DataW H → Nat
  | .lit (.string bytes) => bytes.length + 1
  | .lit _ => 1
  | .nil => 1
  | .ptr d => uptoBulk d + 1
  | .slice elems spare => uptoBulkAll elems + uptoBulkAll spare + 1
  | .agg parts => uptoBulkAll parts + 1
  | .iface _ d => uptoBulk d + 1
  | .map entries => uptoBulkEntries entries + 1
  | .held _ => 1
def uptoBulkAll {H : Type} : List (DataW H) → Nat
  | [] => 0
  | d :: r => uptoBulk d + uptoBulkAll r
def uptoBulkEntries {H : Type} : List (Lit × DataW H) → Nat
  | [] => 0
  | x :: r => uptoBulkEntry x + uptoBulkEntries r
def uptoBulkEntry {H : Type} : Lit × DataW H → Nat
  | (.string bytes, d) => bytes.length + uptoBulk d + 1
  | (_, d) => uptoBulk d + 1
 end
def uptoSmall : (H : Type) → List (DataW H) → Bool := fun _ ds => decide (uptoBulkAll ds ≤ 1048576)
def OpenSpec.upto (s : _root_.Go.ChangeSpec) : _root_.Go.OpenSpec := { _root_.Go.OpenSpec.ofChange s with cond := some uptoSmall }

/-- 'pleachlaw8.ClusAll', WHERE WHAT IT READS IS OF BULK AT MOST 1048576: true; the input reads as it did. -/
def clusAllUptoRow : OpenClaim := { program := "ytemajkklbjdmjaa", sum := "74bf79f160f47c77f3bcf626607ff00c01a21705d5bf871173d5583aa676dde4", func := "pleach/pleachlaw8.ClusAll", spec := "clusAll", unfollowed := true, recurses := true, apart := false, narrowed := true }
def ClusAllUptoSaid : Prop := clusAllUptoRow.holds Try.pinned (OpenSpec.upto clusAllSpec)

/-- 'pleachlaw8.ClusMoves', WHERE WHAT IT READS IS OF BULK AT MOST 1048576: true; the input reads as it did. -/
def clusMovesUptoRow : OpenClaim := { program := "ytemajkklbjdmjaa", sum := "74bf79f160f47c77f3bcf626607ff00c01a21705d5bf871173d5583aa676dde4", func := "pleach/pleachlaw8.ClusMoves", spec := "clusMoves", unfollowed := true, recurses := true, apart := false, narrowed := true }
def ClusMovesUptoSaid : Prop := clusMovesUptoRow.holds Try.pinned (OpenSpec.upto clusMovesSpec)

/-- 'pleachlaw8.ClusSizes', WHERE WHAT IT READS IS OF BULK AT MOST 1048576: true; the input reads as it did. -/
def clusSizesUptoRow : OpenClaim := { program := "ytemajkklbjdmjaa", sum := "74bf79f160f47c77f3bcf626607ff00c01a21705d5bf871173d5583aa676dde4", func := "pleach/pleachlaw8.ClusSizes", spec := "clusSizes", unfollowed := true, recurses := true, apart := false, narrowed := true }
def ClusSizesUptoSaid : Prop := clusSizesUptoRow.holds Try.pinned (OpenSpec.upto clusSizesSpec)

/-- 'pleachlaw8.ClusSplit', WHERE WHAT IT READS IS OF BULK AT MOST 1048576: true; the input reads as it did. -/
def clusSplitUptoRow : OpenClaim := { program := "ytemajkklbjdmjaa", sum := "74bf79f160f47c77f3bcf626607ff00c01a21705d5bf871173d5583aa676dde4", func := "pleach/pleachlaw8.ClusSplit", spec := "clusSplit", unfollowed := true, recurses := true, apart := false, narrowed := true }
def ClusSplitUptoSaid : Prop := clusSplitUptoRow.holds Try.pinned (OpenSpec.upto clusSplitSpec)

/-- 'pleachlaw8.ClusForms', WHERE WHAT IT READS IS OF BULK AT MOST 1048576: true; the input reads as it did. -/
def clusFormsUptoRow : OpenClaim := { program := "ytemajkklbjdmjaa", sum := "74bf79f160f47c77f3bcf626607ff00c01a21705d5bf871173d5583aa676dde4", func := "pleach/pleachlaw8.ClusForms", spec := "clusForms", unfollowed := true, recurses := true, apart := false, narrowed := true }
def ClusFormsUptoSaid : Prop := clusFormsUptoRow.holds Try.pinned (OpenSpec.upto clusFormsSpec)

/-- 'pleachlaw8.ClusNear', WHERE WHAT IT READS IS OF BULK AT MOST 1048576: true; the input reads as it did. -/
def clusNearUptoRow : OpenClaim := { program := "ytemajkklbjdmjaa", sum := "74bf79f160f47c77f3bcf626607ff00c01a21705d5bf871173d5583aa676dde4", func := "pleach/pleachlaw8.ClusNear", spec := "clusNear", unfollowed := true, recurses := true, apart := false, narrowed := true }
def ClusNearUptoSaid : Prop := clusNearUptoRow.holds Try.pinned (OpenSpec.upto clusNearSpec)

/-- 'pleachlaw8.ClusGroup', WHERE WHAT IT READS IS OF BULK AT MOST 1048576: true; the input reads as it did. -/
def clusGroupUptoRow : OpenClaim := { program := "ytemajkklbjdmjaa", sum := "74bf79f160f47c77f3bcf626607ff00c01a21705d5bf871173d5583aa676dde4", func := "pleach/pleachlaw8.ClusGroup", spec := "clusGroup", unfollowed := true, recurses := true, apart := false, narrowed := true }
def ClusGroupUptoSaid : Prop := clusGroupUptoRow.holds Try.pinned (OpenSpec.upto clusGroupSpec)

/-- 'pleachlaw9.HierLeads', WHERE WHAT IT READS IS OF BULK AT MOST 1048576: true; the input reads as it did. -/
def hierLeadsUptoRow : OpenClaim := { program := "ytemajkklbjdmjaa", sum := "74bf79f160f47c77f3bcf626607ff00c01a21705d5bf871173d5583aa676dde4", func := "pleach/pleachlaw9.HierLeads", spec := "hierLeads", unfollowed := true, recurses := true, apart := false, narrowed := true }
def HierLeadsUptoSaid : Prop := hierLeadsUptoRow.holds Try.pinned (OpenSpec.upto hierLeadsSpec)

/-- 'pleachlaw9.HierForms', WHERE WHAT IT READS IS OF BULK AT MOST 1048576: true; the input reads as it did. -/
def hierFormsUptoRow : OpenClaim := { program := "ytemajkklbjdmjaa", sum := "74bf79f160f47c77f3bcf626607ff00c01a21705d5bf871173d5583aa676dde4", func := "pleach/pleachlaw9.HierForms", spec := "hierForms", unfollowed := true, recurses := true, apart := false, narrowed := true }
def HierFormsUptoSaid : Prop := hierFormsUptoRow.holds Try.pinned (OpenSpec.upto hierFormsSpec)

/-- 'pleachlaw9.HierAlone', WHERE WHAT IT READS IS OF BULK AT MOST 1048576: true; the input reads as it did. -/
def hierAloneUptoRow : OpenClaim := { program := "ytemajkklbjdmjaa", sum := "74bf79f160f47c77f3bcf626607ff00c01a21705d5bf871173d5583aa676dde4", func := "pleach/pleachlaw9.HierAlone", spec := "hierAlone", unfollowed := true, recurses := true, apart := false, narrowed := true }
def HierAloneUptoSaid : Prop := hierAloneUptoRow.holds Try.pinned (OpenSpec.upto hierAloneSpec)

/-- 'pleachlaw9.HierSizes', WHERE WHAT IT READS IS OF BULK AT MOST 1048576: true; the input reads as it did. -/
def hierSizesUptoRow : OpenClaim := { program := "ytemajkklbjdmjaa", sum := "74bf79f160f47c77f3bcf626607ff00c01a21705d5bf871173d5583aa676dde4", func := "pleach/pleachlaw9.HierSizes", spec := "hierSizes", unfollowed := true, recurses := true, apart := false, narrowed := true }
def HierSizesUptoSaid : Prop := hierSizesUptoRow.holds Try.pinned (OpenSpec.upto hierSizesSpec)

end Rows
end Go.Proofs.Ytemajkklbjdmjaa
