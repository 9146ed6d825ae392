/-
  TruthForms: the statement, proved.
  Conditions: none.
-/
import Derived.Test.YtkkpafhoiofaiaaGreatTruthFormsF3
import Derived.Test.YtkkpafhoiofaiaaGreatRows
import Derived.WalkKit
import Derived.ProofKit
import Derived.OpenShut
set_option linter.unusedVariables false
set_option maxRecDepth 100000
namespace Go.Proofs.YtkkpafhoiofaiaaGreat.truthForms
open Go.PE Go.ChangeShapes Go.WideShapes Go.ChangeAt Go.RowKit
theorem own : ownKnob Tryz.prog.godebug = none := by kernel_rfl
theorem laid : laidOutB Tryz.prog = true := by kernel_rfl
theorem reckoned : pleachlaw24_TruthForms = some ((true, ()), ()) := by kernel_rfl
theorem pure (x : PDs []) (h : wfPs [] x) : ∃ o, pleachlaw24_TruthForms = some ((true, ()), o) := ⟨(), reckoned⟩
theorem good : Go.PE.Good tab.ty Tryz.prog 4 ⟨[], [⟨.bool, [false], none⟩], fun x => pleachlaw24_TruthForms⟩ := pleachlaw24_TruthForms_good
theorem lifted (os : Os) (started : os.Started) (H : Type) (enc : TypeId × Value → H) :
    ReturnsInHanded {} Tryz.checked os 4 .any (Rows.truthFormsSpec.pre6 enc Tryz.prog Tryz.f4 Rows.truthFormsRow.domain false) (Rows.truthFormsSpec.post enc Tryz.prog Tryz.f4 false true false false) := by
  refine returnsInHanded_of_change (C := Tryz.checked) own started (by kernel_rfl) Tryz.func4
    (ChangeSpec.witness6 (enc := enc) (C := Tryz.checked) false ⟨#[], #[], []⟩ 8 (by kernel_rfl) (by kernel_rfl) (by kernel_rfl) (by kernel_rfl)) ?_
  intro W base args ds gs before hval hW _ _
  exact law_calls (TB := 4) tabok laid good (by kernel_rfl) (by kernel_rfl) (by kernel_rfl) (by kernel_rfl) rfl (fun ds h => match ds, h with | [], _ => ⟨rfl, rfl, rfl⟩) pure hval hW
theorem over : Rows.truthFormsRow.holds Tryz.pinned (OpenSpec.ofChange Rows.truthFormsSpec) :=
  OpenClaim.holds_of_wide 4 Tryz.f4 rfl rfl rfl rfl rfl rfl rfl ⟨rfl, rfl, rfl, rfl, rfl⟩ rfl rfl rfl rfl rfl (by kernel_rfl) Tryz.func4 (by kernel_rfl)
    (of_decide_eq_true (by kernel_rfl)) (by unfold Func.isWrapper; first | (rw [if_pos (by decide +kernel)]; kernel_rfl) | (rw [if_neg (by decide +kernel)]; exact ⟨rfl, rfl⟩))
    (fun os started H enc _ => lifted os started H enc)
theorem proved : Rows.TruthFormsSaid := over
#print axioms proved
end Go.Proofs.YtkkpafhoiofaiaaGreat.truthForms
