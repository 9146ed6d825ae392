/-
  MsgApart: the statement, proved.
  Conditions: none.
-/
import Derived.Test.YtoidpccakojeaaaMsgApartPMsgLaws
import Derived.Test.YtoidpccakojeaaaRows
import Derived.WalkKit
import Derived.ProofKit
import Derived.OpenShut
set_option linter.unusedVariables false
set_option maxRecDepth 100000
namespace Go.Proofs.Ytoidpccakojeaaa.msgApart
open Go.PE Go.ChangeShapes Go.WideShapes Go.ChangeAt Go.RowKit
theorem own : ownKnob Try.prog.godebug = none := by kernel_rfl
theorem laid : laidOutB Try.prog = true := by kernel_rfl
theorem pure (x : PDs [.val t23, .val t23]) (h : wfPs [.val t23, .val t23] x) : ∃ o, pleachlaw12_MsgApart x.1 x.2.1 = some ((true, ()), o) := by
  obtain ⟨x0, x1, _u⟩ := x
  exact ⟨(), pleachlaw12_MsgApart_true x0 x1 h⟩
theorem good : Go.PE.Good tab.ty Try.prog 14 ⟨[.val t23, .val t23], [⟨.bool, [false], none⟩], fun x => pleachlaw12_MsgApart x.1 x.2.1⟩ := pleachlaw12_MsgApart_good
theorem lifted (os : Os) (started : os.Started) (H : Type) (enc : TypeId × Value → H) :
    ReturnsInHanded {} Try.checked os 14 .any (Rows.msgApartSpec.pre6 enc Try.prog Try.f14 Rows.msgApartRow.domain false) (Rows.msgApartSpec.post enc Try.prog Try.f14 false true false false) := by
  refine returnsInHanded_of_change (C := Try.checked) own started (by kernel_rfl) Try.func14
    (ChangeSpec.witness6 (enc := enc) (C := Try.checked) false ⟨#[], #[.slice none 0 0, .slice none 0 0], []⟩ 8 (by kernel_rfl) (by kernel_rfl) (by kernel_rfl) (by kernel_rfl)) ?_
  intro W base args ds gs before hval hW _ _
  exact law_calls (TB := 4) tabok laid good (by kernel_rfl) (by kernel_rfl) (by kernel_rfl) (by kernel_rfl) rfl (fun ds h => match ds, h with | [_d0, _d1], _ => ⟨rfl, rfl, rfl⟩) pure hval hW
theorem over : Rows.msgApartRow.holds Try.pinned (OpenSpec.ofChange Rows.msgApartSpec) :=
  OpenClaim.holds_of_wide 14 Try.f14 rfl rfl rfl rfl rfl rfl rfl ⟨rfl, rfl, rfl, rfl, rfl⟩ rfl rfl rfl rfl rfl (by kernel_rfl) Try.func14 (by kernel_rfl)
    (of_decide_eq_true (by kernel_rfl)) (by unfold Func.isWrapper; first | (rw [if_pos (by decide +kernel)]; kernel_rfl) | (rw [if_neg (by decide +kernel)]; exact ⟨rfl, rfl⟩))
    (fun os started H enc _ => lifted os started H enc)
theorem proved : Rows.MsgApartSaid := over
#print axioms proved
end Go.Proofs.Ytoidpccakojeaaa.msgApart
