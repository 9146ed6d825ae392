/-
  HierAlone: the statement, proved.
  Conditions: none.
-/
import Derived.Test.YtemajkklbjdmjaaHierAlonePHierLaws3
import Derived.Test.YtemajkklbjdmjaaRows
import Derived.WalkKit
import Derived.ProofKit
import Derived.OpenShut
set_option linter.unusedVariables false
set_option maxRecDepth 100000
namespace Go.Proofs.Ytemajkklbjdmjaa.hierAlone
open Go.PE Go.ChangeShapes Go.WideShapes Go.ChangeAt Go.RowKit
theorem own : ownKnob Try.prog.godebug = none := by kernel_rfl
theorem laid : laidOutB Try.prog = true := by kernel_rfl
theorem pure (x : PDs [.val t22, .val t5, .val t5, .val t5]) (h : wfPs [.val t22, .val t5, .val t5, .val t5] x) : ∃ o, pleachlaw9_HierAlone x.1 x.2.1 x.2.2.1 x.2.2.2.1 = some ((true, ()), o) := by
  obtain ⟨x0, x1, x2, x3, _u⟩ := x
  exact ⟨(), pleachlaw9_HierAlone_true x0 x1 x2 x3 h⟩
theorem good : Go.PE.Good tab.ty Try.prog 12 ⟨[.val t22, .val t5, .val t5, .val t5], [⟨.bool, [false], none⟩], fun x => pleachlaw9_HierAlone x.1 x.2.1 x.2.2.1 x.2.2.2.1⟩ := pleachlaw9_HierAlone_good
theorem lifted (os : Os) (started : os.Started) (H : Type) (enc : TypeId × Value → H) :
    ReturnsInHanded {} Try.checked os 12 .any (Rows.hierAloneSpec.pre6 enc Try.prog Try.f12 Rows.hierAloneRow.domain false) (Rows.hierAloneSpec.post enc Try.prog Try.f12 false true false false) := by
  refine returnsInHanded_of_change (C := Try.checked) own started (by kernel_rfl) Try.func12
    (ChangeSpec.witness6 (enc := enc) (C := Try.checked) false ⟨#[], #[.slice none 0 0, .int .u8 0, .int .u8 0, .int .u8 0], []⟩ 8 (by kernel_rfl) (by kernel_rfl) (by kernel_rfl) (by kernel_rfl)) ?_
  intro W base args ds gs before hval hW _ _
  exact law_calls (TB := 4) tabok laid good (by kernel_rfl) (by kernel_rfl) (by kernel_rfl) (by kernel_rfl) rfl (fun ds h => match ds, h with | [_d0, _d1, _d2, _d3], _ => ⟨rfl, rfl, rfl⟩) pure hval hW
theorem over : Rows.hierAloneRow.holds Try.pinned (OpenSpec.ofChange Rows.hierAloneSpec) :=
  OpenClaim.holds_of_wide 12 Try.f12 rfl rfl rfl rfl rfl rfl rfl ⟨rfl, rfl, rfl, rfl, rfl⟩ rfl rfl rfl rfl rfl (by kernel_rfl) Try.func12 (by kernel_rfl)
    (of_decide_eq_true (by kernel_rfl)) (by unfold Func.isWrapper; first | (rw [if_pos (by decide +kernel)]; kernel_rfl) | (rw [if_neg (by decide +kernel)]; exact ⟨rfl, rfl⟩))
    (fun os started H enc _ => lifted os started H enc)
theorem proved : Rows.HierAloneSaid := over
#print axioms proved
end Go.Proofs.Ytemajkklbjdmjaa.hierAlone
