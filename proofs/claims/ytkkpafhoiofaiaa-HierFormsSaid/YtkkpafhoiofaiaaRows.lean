/-
  No cell of these rows narrows 'for every input' (looked for: loops, veiled, ifaces, maps, wideKeys, modest, calm, conditions, laid).
  DERIVED. THE GIVEN ROWS OF THIS SEAT. 2 by the template 'for every input the law returns true; each argument reads behind the call as it read before'; 0 by the template 'total and deterministic' (their statements: YtkkpafhoiofaiaaTotals.lean).
  GIVEN WITH THE SEED: the statements are not yours to turn. If you find one false, say at which input.
  Laid BY PROGRAM, IN A SANDBOX (cutbox-rows.mjs): the forced cells as the released guide's own fill.sh prints them over the translation 2f88fe55a900db32… (all of the seat's roots in one cut). By AI agents, Wed Nov 11 2026. No macro, syntax, notation, axiom, sorry.
-/
import Derived.Test.YtkkpafhoiofaiaaChecked
import GoSem.Claim
import GoSem.ClaimJoined
import GoSem.ClaimMapViews
import Derived.JoinedTies
import Derived.KernelRfl
namespace Go.Proofs.Ytkkpafhoiofaiaa
/- THE CELL 'sum', in the pinned program and in every row, IS THE sha256 OF THE DUMP (.gsa) THAT YtkkpafhoiofaiaaProg.lean LOADS. Nothing in Lean hashes anything: it is a label: what it is worth is what the hold of that sum in a sandbox is worth. -/
noncomputable def Try.pinned : Pinned := { name := "ytkkpafhoiofaiaa", sum := "2f88fe55a900db325063d54f43705f824ea5cd6a28b33cca03d72e97d7fd6b13", checked := Try.checked }
namespace Rows
def none {H : Type} : Left H := { results := [], args := [] }

/-- 'pleachlaw8.ClusForms': WHATEVER THE INPUT: true; the input reads as it did. -/
def clusFormsSpec : ChangeSpec := { name := "clusForms", fn := fun _ => fun
  | [] => { results := [.lit (.bool true)], args := [] }
  | _ => none }
def clusFormsRow : OpenClaim := { program := "ytkkpafhoiofaiaa", sum := "2f88fe55a900db325063d54f43705f824ea5cd6a28b33cca03d72e97d7fd6b13", func := "pleach/pleachlaw8.ClusForms", spec := "clusForms", unfollowed := true, recurses := true, apart := false }
def ClusFormsSaid : Prop := clusFormsRow.holds Try.pinned (OpenSpec.ofChange clusFormsSpec)

/-- ITS FALSE NEIGHBOUR: 'it returns false'. Refute it at one input. -/
def clusFormsWrong : ChangeSpec := { name := "clusForms", fn := fun _ => fun
  | [] => { results := [.lit (.bool false)], args := [] }
  | _ => none }
def ClusFormsWrongFalsely : Prop := clusFormsRow.holds Try.pinned (OpenSpec.ofChange clusFormsWrong)

/-- 'pleachlaw9.HierForms': WHATEVER THE INPUT: true; the input reads as it did. -/
def hierFormsSpec : ChangeSpec := { name := "hierForms", fn := fun _ => fun
  | [] => { results := [.lit (.bool true)], args := [] }
  | _ => none }
def hierFormsRow : OpenClaim := { program := "ytkkpafhoiofaiaa", sum := "2f88fe55a900db325063d54f43705f824ea5cd6a28b33cca03d72e97d7fd6b13", func := "pleach/pleachlaw9.HierForms", spec := "hierForms", unfollowed := true, recurses := true, apart := false }
def HierFormsSaid : Prop := hierFormsRow.holds Try.pinned (OpenSpec.ofChange hierFormsSpec)

/-- ITS FALSE NEIGHBOUR: 'it returns false'. Refute it at one input. -/
def hierFormsWrong : ChangeSpec := { name := "hierForms", fn := fun _ => fun
  | [] => { results := [.lit (.bool false)], args := [] }
  | _ => none }
def HierFormsWrongFalsely : Prop := hierFormsRow.holds Try.pinned (OpenSpec.ofChange hierFormsWrong)

/- THE SECOND FORM. 'bulk': how many values and letters a reading holds, each counted each time it is reached (what is shared counts as often as it is met; a slice's spare places count too). A statement '..UptoSaid' is the law's where the arguments, and the package variables that the reading takes, are together of bulk at most 1048576: NARROWER than '..Said'. Prove '..Said' where nothing that the law and all that it calls make is longer than what came in: it says more and counts as full. Else prove '..UptoSaid'. A law counts once. -/
mutual
def uptoBulk {H : Type} : DataW H → Nat
  | .lit (.string bytes) => bytes.length + 1
  | .lit _ => 1
  | .nil => 1
  | .ptr d => uptoBulk d + 1
  | .slice elems spare => uptoBulkAll elems + uptoBulkAll spare + 1
  | .agg parts => uptoBulkAll parts + 1
  | .iface _ d => uptoBulk d + 1
  | .map entries => uptoBulkEntries entries + 1
  | .held _ => 1
def uptoBulkAll {H : Type} : List (DataW H) → Nat
  | [] => 0
  | d :: r => uptoBulk d + uptoBulkAll r
def uptoBulkEntries {H : Type} : List (Lit × DataW H) → Nat
  | [] => 0
  | x :: r => uptoBulkEntry x + uptoBulkEntries r
def uptoBulkEntry {H : Type} : Lit × DataW H → Nat
  | (.string bytes, d) => bytes.length + uptoBulk d + 1
  | (_, d) => uptoBulk d + 1
 end
def uptoSmall : (H : Type) → List (DataW H) → Bool := fun _ ds => decide (uptoBulkAll ds ≤ 1048576)
def OpenSpec.upto (s : _root_.Go.ChangeSpec) : _root_.Go.OpenSpec := { _root_.Go.OpenSpec.ofChange s with cond := some uptoSmall }

/-- 'pleachlaw8.ClusForms', WHERE WHAT IT READS IS OF BULK AT MOST 1048576: true; the input reads as it did. -/
def clusFormsUptoRow : OpenClaim := { program := "ytkkpafhoiofaiaa", sum := "2f88fe55a900db325063d54f43705f824ea5cd6a28b33cca03d72e97d7fd6b13", func := "pleach/pleachlaw8.ClusForms", spec := "clusForms", unfollowed := true, recurses := true, apart := false, narrowed := true }
def ClusFormsUptoSaid : Prop := clusFormsUptoRow.holds Try.pinned (OpenSpec.upto clusFormsSpec)

/-- 'pleachlaw9.HierForms', WHERE WHAT IT READS IS OF BULK AT MOST 1048576: true; the input reads as it did. -/
def hierFormsUptoRow : OpenClaim := { program := "ytkkpafhoiofaiaa", sum := "2f88fe55a900db325063d54f43705f824ea5cd6a28b33cca03d72e97d7fd6b13", func := "pleach/pleachlaw9.HierForms", spec := "hierForms", unfollowed := true, recurses := true, apart := false, narrowed := true }
def HierFormsUptoSaid : Prop := hierFormsUptoRow.holds Try.pinned (OpenSpec.upto hierFormsSpec)

end Rows
end Go.Proofs.Ytkkpafhoiofaiaa
