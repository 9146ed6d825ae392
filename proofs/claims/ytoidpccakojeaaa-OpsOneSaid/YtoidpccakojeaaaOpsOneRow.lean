/-
  OpsOne: the statement, proved.
  Conditions: none.
-/
import Derived.Test.YtoidpccakojeaaaOpsOnePOpsLaws
import Derived.Test.YtoidpccakojeaaaRows
import Derived.WalkKit
import Derived.ProofKit
import Derived.OpenShut
set_option linter.unusedVariables false
set_option maxRecDepth 100000
namespace Go.Proofs.Ytoidpccakojeaaa.opsOne
open Go.PE Go.ChangeShapes Go.WideShapes Go.ChangeAt Go.RowKit
theorem own : ownKnob Try.prog.godebug = none := by kernel_rfl
theorem laid : laidOutB Try.prog = true := by kernel_rfl
theorem pure (x : PDs [.val t5, .val t54, .val t54, .val t54, .val t9]) (h : wfPs [.val t5, .val t54, .val t54, .val t54, .val t9] x) : ∃ o, pleachlaw25_OpsOne x.1 x.2.1 x.2.2.1 x.2.2.2.1 x.2.2.2.2.1 = some ((true, ()), o) := by
  obtain ⟨x0, x1, x2, x3, x4, _u⟩ := x
  exact ⟨(), pleachlaw25_OpsOne_true x0 x1 x2 x3 x4 h⟩
theorem good : Go.PE.Good tab.ty Try.prog 10 ⟨[.val t5, .val t54, .val t54, .val t54, .val t9], [⟨.bool, [false], none⟩], fun x => pleachlaw25_OpsOne x.1 x.2.1 x.2.2.1 x.2.2.2.1 x.2.2.2.2.1⟩ := pleachlaw25_OpsOne_good
theorem lifted (os : Os) (started : os.Started) (H : Type) (enc : TypeId × Value → H) :
    ReturnsInHanded {} Try.checked os 10 .any (Rows.opsOneSpec.pre6 enc Try.prog Try.f10 Rows.opsOneRow.domain false) (Rows.opsOneSpec.post enc Try.prog Try.f10 false true false false) := by
  refine returnsInHanded_of_change (C := Try.checked) own started (by kernel_rfl) Try.func10
    (ChangeSpec.witness6 (enc := enc) (C := Try.checked) false ⟨#[], #[.int .u8 0, .int .u16 0, .int .u16 0, .int .u16 0, .string ⟨#[]⟩], []⟩ 8 (by kernel_rfl) (by kernel_rfl) (by kernel_rfl) (by kernel_rfl)) ?_
  intro W base args ds gs before hval hW _ _
  exact law_calls (TB := 4) tabok laid good (by kernel_rfl) (by kernel_rfl) (by kernel_rfl) (by kernel_rfl) rfl (fun ds h => match ds, h with | [_d0, _d1, _d2, _d3, _d4], _ => ⟨rfl, rfl, rfl⟩) pure hval hW
theorem over : Rows.opsOneRow.holds Try.pinned (OpenSpec.ofChange Rows.opsOneSpec) :=
  OpenClaim.holds_of_wide 10 Try.f10 rfl rfl rfl rfl rfl rfl rfl ⟨rfl, rfl, rfl, rfl, rfl⟩ rfl rfl rfl rfl rfl (by kernel_rfl) Try.func10 (by kernel_rfl)
    (of_decide_eq_true (by kernel_rfl)) (by unfold Func.isWrapper; first | (rw [if_pos (by decide +kernel)]; kernel_rfl) | (rw [if_neg (by decide +kernel)]; exact ⟨rfl, rfl⟩))
    (fun os started H enc _ => lifted os started H enc)
theorem proved : Rows.OpsOneSaid := over
#print axioms proved
end Go.Proofs.Ytoidpccakojeaaa.opsOne
