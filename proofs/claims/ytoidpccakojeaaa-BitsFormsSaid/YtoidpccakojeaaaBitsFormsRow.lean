/-
  BitsForms: the statement, proved.
  Conditions: none.
-/
import Derived.Test.YtoidpccakojeaaaBitsFormsF1
import Derived.Test.YtoidpccakojeaaaRows
import Derived.WalkKit
import Derived.ProofKit
import Derived.OpenShut
set_option linter.unusedVariables false
set_option maxRecDepth 100000
namespace Go.Proofs.Ytoidpccakojeaaa.bitsForms
open Go.PE Go.ChangeShapes Go.WideShapes Go.ChangeAt Go.RowKit
theorem own : ownKnob Try.prog.godebug = none := by kernel_rfl
theorem laid : laidOutB Try.prog = true := by kernel_rfl
theorem reckoned : pleachlaw11_BitsForms = some ((true, ()), ()) := by kernel_rfl
theorem pure (x : PDs []) (h : wfPs [] x) : ∃ o, pleachlaw11_BitsForms = some ((true, ()), o) := ⟨(), reckoned⟩
theorem good : Go.PE.Good tab.ty Try.prog 5 ⟨[], [⟨.bool, [false], none⟩], fun x => pleachlaw11_BitsForms⟩ := pleachlaw11_BitsForms_good
theorem lifted (os : Os) (started : os.Started) (H : Type) (enc : TypeId × Value → H) :
    ReturnsInHanded {} Try.checked os 5 .any (Rows.bitsFormsSpec.pre6 enc Try.prog Try.f5 Rows.bitsFormsRow.domain false) (Rows.bitsFormsSpec.post enc Try.prog Try.f5 false true false false) := by
  refine returnsInHanded_of_change (C := Try.checked) own started (by kernel_rfl) Try.func5
    (ChangeSpec.witness6 (enc := enc) (C := Try.checked) false ⟨#[], #[], []⟩ 8 (by kernel_rfl) (by kernel_rfl) (by kernel_rfl) (by kernel_rfl)) ?_
  intro W base args ds gs before hval hW _ _
  exact law_calls (TB := 4) tabok laid good (by kernel_rfl) (by kernel_rfl) (by kernel_rfl) (by kernel_rfl) rfl (fun ds h => match ds, h with | [], _ => ⟨rfl, rfl, rfl⟩) pure hval hW
theorem over : Rows.bitsFormsRow.holds Try.pinned (OpenSpec.ofChange Rows.bitsFormsSpec) :=
  OpenClaim.holds_of_wide 5 Try.f5 rfl rfl rfl rfl rfl rfl rfl ⟨rfl, rfl, rfl, rfl, rfl⟩ rfl rfl rfl rfl rfl (by kernel_rfl) Try.func5 (by kernel_rfl)
    (of_decide_eq_true (by kernel_rfl)) (by unfold Func.isWrapper; first | (rw [if_pos (by decide +kernel)]; kernel_rfl) | (rw [if_neg (by decide +kernel)]; exact ⟨rfl, rfl⟩))
    (fun os started H enc _ => lifted os started H enc)
theorem proved : Rows.BitsFormsSaid := over
#print axioms proved
end Go.Proofs.Ytoidpccakojeaaa.bitsForms
