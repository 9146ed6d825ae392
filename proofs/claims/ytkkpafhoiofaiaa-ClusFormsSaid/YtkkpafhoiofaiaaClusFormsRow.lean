/-
  ClusForms: the statement, proved.
  Conditions: none.
-/
import Derived.Test.YtkkpafhoiofaiaaClusFormsF1
import Derived.Test.YtkkpafhoiofaiaaRows
import Derived.WalkKit
import Derived.ProofKit
import Derived.OpenShut
set_option linter.unusedVariables false
set_option maxRecDepth 100000
namespace Go.Proofs.Ytkkpafhoiofaiaa.clusForms
open Go.PE Go.ChangeShapes Go.WideShapes Go.ChangeAt Go.RowKit
theorem own : ownKnob Try.prog.godebug = none := by kernel_rfl
theorem laid : laidOutB Try.prog = true := by kernel_rfl
theorem reckoned : pleachlaw8_ClusForms = some ((true, ()), ()) := by kernel_rfl
theorem pure (x : PDs []) (h : wfPs [] x) : ∃ o, pleachlaw8_ClusForms = some ((true, ()), o) := ⟨(), reckoned⟩
theorem good : Go.PE.Good tab.ty Try.prog 3 ⟨[], [⟨.bool, [false], none⟩], fun x => pleachlaw8_ClusForms⟩ := pleachlaw8_ClusForms_good
theorem lifted (os : Os) (started : os.Started) (H : Type) (enc : TypeId × Value → H) :
    ReturnsInHanded {} Try.checked os 3 .any (Rows.clusFormsSpec.pre6 enc Try.prog Try.f3 Rows.clusFormsRow.domain false) (Rows.clusFormsSpec.post enc Try.prog Try.f3 false true false false) := by
  refine returnsInHanded_of_change (C := Try.checked) own started (by kernel_rfl) Try.func3
    (ChangeSpec.witness6 (enc := enc) (C := Try.checked) false ⟨#[], #[], []⟩ 8 (by kernel_rfl) (by kernel_rfl) (by kernel_rfl) (by kernel_rfl)) ?_
  intro W base args ds gs before hval hW _ _
  exact law_calls (TB := 4) tabok laid good (by kernel_rfl) (by kernel_rfl) (by kernel_rfl) (by kernel_rfl) rfl (fun ds h => match ds, h with | [], _ => ⟨rfl, rfl, rfl⟩) pure hval hW
theorem over : Rows.clusFormsRow.holds Try.pinned (OpenSpec.ofChange Rows.clusFormsSpec) :=
  OpenClaim.holds_of_wide 3 Try.f3 rfl rfl rfl rfl rfl rfl rfl ⟨rfl, rfl, rfl, rfl, rfl⟩ rfl rfl rfl rfl rfl (by kernel_rfl) Try.func3 (by kernel_rfl)
    (of_decide_eq_true (by kernel_rfl)) (by unfold Func.isWrapper; first | (rw [if_pos (by decide +kernel)]; kernel_rfl) | (rw [if_neg (by decide +kernel)]; exact ⟨rfl, rfl⟩))
    (fun os started H enc _ => lifted os started H enc)
theorem proved : Rows.ClusFormsSaid := over
#print axioms proved
end Go.Proofs.Ytkkpafhoiofaiaa.clusForms
