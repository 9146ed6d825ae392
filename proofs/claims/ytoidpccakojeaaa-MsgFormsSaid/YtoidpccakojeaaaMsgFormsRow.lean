/-
  MsgForms: the statement, proved.
  Conditions: none.
-/
import Derived.Test.YtoidpccakojeaaaMsgFormsF1
import Derived.Test.YtoidpccakojeaaaRows
import Derived.WalkKit
import Derived.ProofKit
import Derived.OpenShut
set_option linter.unusedVariables false
set_option maxRecDepth 100000
namespace Go.Proofs.Ytoidpccakojeaaa.msgForms
open Go.PE Go.ChangeShapes Go.WideShapes Go.ChangeAt Go.RowKit
theorem own : ownKnob Try.prog.godebug = none := by kernel_rfl
theorem laid : laidOutB Try.prog = true := by kernel_rfl
theorem reckoned : pleachlaw12_MsgForms = some ((true, ()), ()) := by kernel_rfl
theorem pure (x : PDs []) (h : wfPs [] x) : ∃ o, pleachlaw12_MsgForms = some ((true, ()), o) := ⟨(), reckoned⟩
theorem good : Go.PE.Good tab.ty Try.prog 13 ⟨[], [⟨.bool, [false], none⟩], fun x => pleachlaw12_MsgForms⟩ := pleachlaw12_MsgForms_good
theorem lifted (os : Os) (started : os.Started) (H : Type) (enc : TypeId × Value → H) :
    ReturnsInHanded {} Try.checked os 13 .any (Rows.msgFormsSpec.pre6 enc Try.prog Try.f13 Rows.msgFormsRow.domain false) (Rows.msgFormsSpec.post enc Try.prog Try.f13 false true false false) := by
  refine returnsInHanded_of_change (C := Try.checked) own started (by kernel_rfl) Try.func13
    (ChangeSpec.witness6 (enc := enc) (C := Try.checked) false ⟨#[], #[], []⟩ 8 (by kernel_rfl) (by kernel_rfl) (by kernel_rfl) (by kernel_rfl)) ?_
  intro W base args ds gs before hval hW _ _
  exact law_calls (TB := 4) tabok laid good (by kernel_rfl) (by kernel_rfl) (by kernel_rfl) (by kernel_rfl) rfl (fun ds h => match ds, h with | [], _ => ⟨rfl, rfl, rfl⟩) pure hval hW
theorem over : Rows.msgFormsRow.holds Try.pinned (OpenSpec.ofChange Rows.msgFormsSpec) :=
  OpenClaim.holds_of_wide 13 Try.f13 rfl rfl rfl rfl rfl rfl rfl ⟨rfl, rfl, rfl, rfl, rfl⟩ rfl rfl rfl rfl rfl (by kernel_rfl) Try.func13 (by kernel_rfl)
    (of_decide_eq_true (by kernel_rfl)) (by unfold Func.isWrapper; first | (rw [if_pos (by decide +kernel)]; kernel_rfl) | (rw [if_neg (by decide +kernel)]; exact ⟨rfl, rfl⟩))
    (fun os started H enc _ => lifted os started H enc)
theorem proved : Rows.MsgFormsSaid := over
#print axioms proved
end Go.Proofs.Ytoidpccakojeaaa.msgForms
