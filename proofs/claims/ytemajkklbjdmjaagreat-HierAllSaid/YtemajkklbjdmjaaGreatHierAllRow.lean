/-
  HierAll: the statement, proved.
  Conditions: none.
-/
import Derived.Test.YtemajkklbjdmjaaGreatHierAllPHierLaws5
import Derived.Test.YtemajkklbjdmjaaGreatRows
import Derived.WalkKit
import Derived.ProofKit
import Derived.OpenShut
set_option linter.unusedVariables false
set_option maxRecDepth 100000
namespace Go.Proofs.YtemajkklbjdmjaaGreat.hierAll
open Go.PE Go.ChangeShapes Go.WideShapes Go.ChangeAt Go.RowKit
theorem own:ownKnob Tryz.prog.godebug=none:=by kernel_rfl
theorem laid:laidOutB Tryz.prog=true:=by kernel_rfl
theorem pure (x:PDs [.val t22,.val t23,.val t5,.val t2]) (h:wfPs [.val t22,.val t23,.val t5,.val t2] x):∃ o,pleachlaw9_HierAll x.1 x.2.1 x.2.2.1 x.2.2.2.1=some ((true,()),o):=by
  obtain ⟨x0,x1,x2,x3,_u⟩:=x
  exact ⟨(),pleachlaw9_HierAll_true x0 x1 x2 x3 h⟩
theorem good:Go.PE.Good tab.ty Tryz.prog 3 ⟨[.val t22,.val t23,.val t5,.val t2],[⟨.bool,[false],none⟩],fun x=>pleachlaw9_HierAll x.1 x.2.1 x.2.2.1 x.2.2.2.1⟩:=pleachlaw9_HierAll_good
theorem lifted (os:Os) (started:os.Started) (H:Type) (enc:TypeId × Value→H) :
    ReturnsInHanded {} Tryz.checked os 3 .any (Rows.hierAllSpec.pre6 enc Tryz.prog Tryz.f3 Rows.hierAllRow.domain false) (Rows.hierAllSpec.post enc Tryz.prog Tryz.f3 false true false false):=by
  refine returnsInHanded_of_change (C:=Tryz.checked) own started (by kernel_rfl) Tryz.func3
    (ChangeSpec.witness6 (enc:=enc) (C:=Tryz.checked) false ⟨#[],#[.slice none 0 0,.slice none 0 0,.int .u8 0,.int .i64 0],[]⟩ 8 (by kernel_rfl) (by kernel_rfl) (by kernel_rfl) (by kernel_rfl)) ?_
  intro W base args ds gs before hval hW _ _
  exact law_calls (TB:=4) tabok laid good (by kernel_rfl) (by kernel_rfl) (by kernel_rfl) (by kernel_rfl) rfl (fun ds h=>match ds,h with | [_d0,_d1,_d2,_d3],_=>⟨rfl,rfl,rfl⟩) pure hval hW
theorem over:Rows.hierAllRow.holds Tryz.pinned (OpenSpec.ofChange Rows.hierAllSpec):=
  OpenClaim.holds_of_wide 3 Tryz.f3 rfl rfl rfl rfl rfl rfl rfl ⟨rfl,rfl,rfl,rfl,rfl⟩ rfl rfl rfl rfl rfl (by kernel_rfl) Tryz.func3 (by kernel_rfl)
    (of_decide_eq_true (by kernel_rfl)) (by unfold Func.isWrapper;first | (rw [if_pos (by decide +kernel)];kernel_rfl) | (rw [if_neg (by decide +kernel)];exact ⟨rfl,rfl⟩))
    (fun os started H enc _=>lifted os started H enc)
theorem proved:Rows.HierAllSaid:=over
#print axioms proved
end Go.Proofs.YtemajkklbjdmjaaGreat.hierAll
