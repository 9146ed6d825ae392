/-
  No cell of these rows narrows 'for every input' (looked for: loops, veiled, ifaces, maps, wideKeys, modest, calm, conditions, laid).
  DERIVED. THE GIVEN ROWS OF THIS SEAT. 3 by the template 'for every input the law returns true; each argument reads behind the call as it read before'; 0 by the template 'total and deterministic' (their statements: YtkkpafhoiofaiaaGreatTotals.lean).
  GIVEN WITH THE SEED: the statements are not yours to turn. If you find one false, say at which input.
  Laid BY PROGRAM, IN A SANDBOX (cutbox-rows.mjs): the forced cells as the released guide's own fill.sh prints them over the translation 0b6fdc01afd006ad… (all of the seat's roots in one cut). By AI agents, Wed Nov 11 2026. No macro, syntax, notation, axiom, sorry.
-/
import Derived.Test.YtkkpafhoiofaiaaGreatChecked
import GoSem.Claim
import GoSem.ClaimJoined
import GoSem.ClaimMapViews
import Derived.JoinedTies
import Derived.KernelRfl
namespace Go.Proofs.YtkkpafhoiofaiaaGreat
/- THE CELL 'sum', in the pinned program and in every row, IS THE sha256 OF THE DUMP (.gsa) THAT YtkkpafhoiofaiaaGreatProg.lean LOADS. Nothing in Lean hashes anything: it is a label: what it is worth is what the hold of that sum in a sandbox is worth. -/
noncomputable def Tryz.pinned : Pinned := { name := "ytkkpafhoiofaiaagreat", sum := "0b6fdc01afd006adc9e0aadecef90eb407b7fae1ad0a9c5efe4324f911fe6cf3", checked := Tryz.checked }
namespace Rows
def none {H : Type} : Left H := { results := [], args := [] }

/-- 'pleachlaw24.TruthAll': WHATEVER THE INPUT: true; the input reads as it did. -/
def truthAllSpec : ChangeSpec := { name := "truthAll", fn := fun _ => fun
  | [d1, d2, d3, d4, d5, d6] => { results := [.lit (.bool true)], args := [d1, d2, d3, d4, d5, d6] }
  | _ => none }
def truthAllRow : OpenClaim := { program := "ytkkpafhoiofaiaagreat", sum := "0b6fdc01afd006adc9e0aadecef90eb407b7fae1ad0a9c5efe4324f911fe6cf3", func := "pleach/pleachlaw24.TruthAll", spec := "truthAll", inPlace := ["slices.overlaps[pleach/api.Span]"], unfollowed := true, recurses := true, apart := false }
def TruthAllSaid : Prop := truthAllRow.holds Tryz.pinned (OpenSpec.ofChange truthAllSpec)

/-- ITS FALSE NEIGHBOUR: 'it returns false'. Refute it at one input. -/
def truthAllWrong : ChangeSpec := { name := "truthAll", fn := fun _ => fun
  | [d1, d2, d3, d4, d5, d6] => { results := [.lit (.bool false)], args := [d1, d2, d3, d4, d5, d6] }
  | _ => none }
def TruthAllWrongFalsely : Prop := truthAllRow.holds Tryz.pinned (OpenSpec.ofChange truthAllWrong)

/-- 'pleachlaw24.TruthForms': WHATEVER THE INPUT: true; the input reads as it did. -/
def truthFormsSpec : ChangeSpec := { name := "truthForms", fn := fun _ => fun
  | [] => { results := [.lit (.bool true)], args := [] }
  | _ => none }
def truthFormsRow : OpenClaim := { program := "ytkkpafhoiofaiaagreat", sum := "0b6fdc01afd006adc9e0aadecef90eb407b7fae1ad0a9c5efe4324f911fe6cf3", func := "pleach/pleachlaw24.TruthForms", spec := "truthForms", inPlace := ["slices.overlaps[pleach/api.Span]"], unfollowed := true, recurses := true, apart := false }
def TruthFormsSaid : Prop := truthFormsRow.holds Tryz.pinned (OpenSpec.ofChange truthFormsSpec)

/-- ITS FALSE NEIGHBOUR: 'it returns false'. Refute it at one input. -/
def truthFormsWrong : ChangeSpec := { name := "truthForms", fn := fun _ => fun
  | [] => { results := [.lit (.bool false)], args := [] }
  | _ => none }
def TruthFormsWrongFalsely : Prop := truthFormsRow.holds Tryz.pinned (OpenSpec.ofChange truthFormsWrong)

/-- 'pleachlaw24.TruthLacks': WHATEVER THE INPUT: true; the input reads as it did. -/
def truthLacksSpec : ChangeSpec := { name := "truthLacks", fn := fun _ => fun
  | [d1, d2] => { results := [.lit (.bool true)], args := [d1, d2] }
  | _ => none }
def truthLacksRow : OpenClaim := { program := "ytkkpafhoiofaiaagreat", sum := "0b6fdc01afd006adc9e0aadecef90eb407b7fae1ad0a9c5efe4324f911fe6cf3", func := "pleach/pleachlaw24.TruthLacks", spec := "truthLacks", inPlace := ["slices.overlaps[pleach/api.Span]"], unfollowed := true, recurses := true, apart := false }
def TruthLacksSaid : Prop := truthLacksRow.holds Tryz.pinned (OpenSpec.ofChange truthLacksSpec)

/-- ITS FALSE NEIGHBOUR: 'it returns false'. Refute it at one input. -/
def truthLacksWrong : ChangeSpec := { name := "truthLacks", fn := fun _ => fun
  | [d1, d2] => { results := [.lit (.bool false)], args := [d1, d2] }
  | _ => none }
def TruthLacksWrongFalsely : Prop := truthLacksRow.holds Tryz.pinned (OpenSpec.ofChange truthLacksWrong)

/- THE SECOND FORM. 'bulk': how many values and letters a reading holds, each counted each time it is reached (what is shared counts as often as it is met; a slice's spare places count too). A statement '..UptoSaid' is the law's where the arguments, and the package variables that the reading takes, are together of bulk at most 1048576: NARROWER than '..Said'. Prove '..Said' where nothing that the law and all that it calls make is longer than what came in: it says more and counts as full. Else prove '..UptoSaid'. A law counts once. -/
mutual
def uptoBulk {H : Type} : DataW H → Nat
  | .lit (.string bytes) => bytes.length + 1
  | .lit _ => 1
  | .nil => 1
  | .ptr d => uptoBulk d + 1
  | .slice elems spare => uptoBulkAll elems + uptoBulkAll spare + 1
  | .agg parts => uptoBulkAll parts + 1
  | .iface _ d => uptoBulk d + 1
  | .map entries => uptoBulkEntries entries + 1
  | .held _ => 1
def uptoBulkAll {H : Type} : List (DataW H) → Nat
  | [] => 0
  | d :: r => uptoBulk d + uptoBulkAll r
def uptoBulkEntries {H : Type} : List (Lit × DataW H) → Nat
  | [] => 0
  | x :: r => uptoBulkEntry x + uptoBulkEntries r
def uptoBulkEntry {H : Type} : Lit × DataW H → Nat
  | (.string bytes, d) => bytes.length + uptoBulk d + 1
  | (_, d) => uptoBulk d + 1
 end
def uptoSmall : (H : Type) → List (DataW H) → Bool := fun _ ds => decide (uptoBulkAll ds ≤ 1048576)
def OpenSpec.upto (s : _root_.Go.ChangeSpec) : _root_.Go.OpenSpec := { _root_.Go.OpenSpec.ofChange s with cond := some uptoSmall }

/-- 'pleachlaw24.TruthAll', WHERE WHAT IT READS IS OF BULK AT MOST 1048576: true; the input reads as it did. -/
def truthAllUptoRow : OpenClaim := { program := "ytkkpafhoiofaiaagreat", sum := "0b6fdc01afd006adc9e0aadecef90eb407b7fae1ad0a9c5efe4324f911fe6cf3", func := "pleach/pleachlaw24.TruthAll", spec := "truthAll", inPlace := ["slices.overlaps[pleach/api.Span]"], unfollowed := true, recurses := true, apart := false, narrowed := true }
def TruthAllUptoSaid : Prop := truthAllUptoRow.holds Tryz.pinned (OpenSpec.upto truthAllSpec)

/-- 'pleachlaw24.TruthForms', WHERE WHAT IT READS IS OF BULK AT MOST 1048576: true; the input reads as it did. -/
def truthFormsUptoRow : OpenClaim := { program := "ytkkpafhoiofaiaagreat", sum := "0b6fdc01afd006adc9e0aadecef90eb407b7fae1ad0a9c5efe4324f911fe6cf3", func := "pleach/pleachlaw24.TruthForms", spec := "truthForms", inPlace := ["slices.overlaps[pleach/api.Span]"], unfollowed := true, recurses := true, apart := false, narrowed := true }
def TruthFormsUptoSaid : Prop := truthFormsUptoRow.holds Tryz.pinned (OpenSpec.upto truthFormsSpec)

/-- 'pleachlaw24.TruthLacks', WHERE WHAT IT READS IS OF BULK AT MOST 1048576: true; the input reads as it did. -/
def truthLacksUptoRow : OpenClaim := { program := "ytkkpafhoiofaiaagreat", sum := "0b6fdc01afd006adc9e0aadecef90eb407b7fae1ad0a9c5efe4324f911fe6cf3", func := "pleach/pleachlaw24.TruthLacks", spec := "truthLacks", inPlace := ["slices.overlaps[pleach/api.Span]"], unfollowed := true, recurses := true, apart := false, narrowed := true }
def TruthLacksUptoSaid : Prop := truthLacksUptoRow.holds Tryz.pinned (OpenSpec.upto truthLacksSpec)

end Rows
end Go.Proofs.YtkkpafhoiofaiaaGreat
