/-
  QuietForms: the statement, proved.
  Conditions: none.
-/
import Derived.Test.YtaoeefmiogchdaaGreatDoorQuietFormsPMQuietForms
import Derived.Test.YtaoeefmiogchdaaGreatDoorRows
import Derived.WalkKit
import Derived.ProofKit
import Derived.OpenShut
import Derived.Test.YtaoeefmiogchdaaGreatDoorCards
import Derived.Test.YtaoeefmiogchdaaGreatDoorTie
import Derived.PinnedBridge
import Derived.Lay
import Derived.LaidOnce
import Derived.SevenTiedAt
import Derived.LaidMore
set_option linter.unusedVariables false
set_option maxRecDepth 100000
namespace Go.Proofs.YtaoeefmiogchdaaGreatDoor.quietForms
open Go.PE Go.ChangeShapes Go.WideShapes Go.ChangeAt Go.RowKit
theorem own:ownKnob Tryz.prog.godebug=none:=by kernel_rfl
theorem laid:laidOutB Tryz.prog=true:=by kernel_rfl
theorem reckoned:Qlw=some ((true,()),()):=Qsn
theorem pure (x:PDs []) (h:Qhe [] x):∃ o,Qlw=some ((true,()),o):=⟨(),reckoned⟩
theorem good:Go.PE.Q4j tab.ty Tryz.prog 3 ⟨[],[⟨.bool,[false],none⟩],fun x=>Qlw⟩:=Qsm
noncomputable def LL:List FuncId:=Q4g (fun f=>(Tryz.prog.funcs[f]?).elim [] Tryz.prog.leadsTo) (1+(Tryz.prog.funcs.toList.map fun g=>(Tryz.prog.leadsTo g).length+1).sum) [3] [] 0
theorem j_wf:Rows.quietFormsRow.wf (OpenSpec.ofChange Rows.quietFormsSpec)=true:=by kernel_rfl
theorem j_rows:mapsRowed Tryz.prog=true:=by kernel_rfl
theorem j_stops:Tryz.prog.stops=[]:=by kernel_rfl
theorem j_knobs:Tryz.prog.stopKnobs=[]:=by kernel_rfl
theorem j_inp:Q7e Tryz.prog LL=Rows.quietFormsRow.inPlace:=by kernel_rfl
theorem j_unf:Q2x Tryz.prog LL=true:=by kernel_rfl
theorem j_unf2:Rows.quietFormsRow.unfollowed=true:=by kernel_rfl
theorem j_rec:Rows.quietFormsRow.recurses=true:=by kernel_rfl
theorem j_vars:Q4r Tryz.prog LL=Rows.quietFormsRow.named:=by kernel_rfl
theorem j_keys:Tryz.prog.plainKeys=Rows.quietFormsRow.plainKeys:=by kernel_rfl
theorem j_heard:Tryz.prog.stopsHeard=true:=by kernel_rfl
theorem j_ent:Tryz.prog.mayEnter=true:=by kernel_rfl
theorem j_fin:Tryz.prog.liftsFinal=Rows.quietFormsRow.lifted:=by kernel_rfl
theorem j_make:Tryz.prog.make=some Rows.quietFormsRow.make:=by kernel_rfl
theorem j_rest:Q6y Tryz.prog Tryz.f3 Rows.quietFormsSpec Rows.quietFormsRow=true:=by kernel_rfl
theorem joined:joinedFacts Tryz.prog 3 Tryz.f3 Rows.quietFormsSpec Rows.quietFormsRow=true:=Qj2 (L:=LL) (Qhx _ _) j_wf laid j_rows j_stops j_knobs j_inp j_unf j_unf2 j_rec j_vars j_keys j_heard j_ent j_fin j_make j_rest
theorem lifted (os:Os) (started:os.Started) (H:Type) (enc:TypeId × Value→H) :
    ReturnsInHanded {} Tryz.checked os 3 .any (fun w args=>(Rows.quietFormsSpec.pre enc Tryz.prog Tryz.f3 [] false w args∧laidMetH Tryz.prog Rows.quietFormsRow.laid w)∧sizedMet enc Tryz.prog Tryz.f3 (OpenSpec.ofChange Rows.quietFormsSpec) false w args) (Rows.quietFormsSpec.post enc Tryz.prog Tryz.f3 false true false false):=by
  refine returnsInHanded_of_change_and (C:=Tryz.checked) (X:=fun w _=>laidMetH Tryz.prog Rows.quietFormsRow.laid w) (fun _ _ _ hh h=>h.of_heap hh) own started (by kernel_rfl) Tryz.func3
    (ChangeSpec.witness_shaped (enc:=enc) (C:=Tryz.checked) (os:=os) (X:=fun w _=>laidMetH Tryz.prog Rows.quietFormsRow.laid w) false (World.laidAll Tryz.prog os Rows.quietFormsRow.laid) #[] 8 (World.laidAll_os _ _ _)
      (World.shaped_of_ZipB (by kernel_rfl) (by kernel_rfl)) (by kernel_rfl) (by kernel_rfl) (by kernel_rfl)
      (by rw [MakeChecks.laidMetH_plain _ _ _ (by kernel_rfl)];exact laidMet_laidAll _ (by kernel_rfl) (by kernel_rfl))) ?_
  intro W base args ds gs before hval hW _ _ hL _
  exact Qix (TB:=4) Qjz laid good (by kernel_rfl) (by kernel_rfl) (by kernel_rfl) (by kernel_rfl) rfl (fun ds h=>match ds,h with | [],_=>⟨rfl,rfl,rfl⟩) pure hval hW
theorem over:Rows.quietFormsRow.holds Tryz.pinned (OpenSpec.ofChange Rows.quietFormsSpec):=
  OpenClaim.holds_of_wide 3 Tryz.f3 rfl rfl rfl rfl rfl rfl rfl ⟨rfl,rfl,rfl,rfl,rfl⟩ rfl rfl rfl rfl rfl (by kernel_rfl) Tryz.func3 joined
    (of_decide_eq_true (by kernel_rfl)) (by unfold Func.isWrapper;first | (rw [if_pos (by decide +kernel)];kernel_rfl) | (rw [if_neg (by decide +kernel)];exact ⟨rfl,rfl⟩))
    (fun os started H enc _=>lifted os started H enc)
theorem proved:Rows.QuietFormsCardSaid:=
  Claim7.holds_tied_plain_at .later [] [.data,.pinned] true (true,"441a6effc5a6b68bcd8dce6cbda3f9c212dbb10a260456022924390c46b0dca2") true over (fun _ h=>by cases h) (by kernel_rfl) (fun _ h=>by cases h) quietForms_row_tie rfl ⟨rfl,rfl⟩ (by kernel_rfl) rfl
    (fun f fn hf hfn=>by
      obtain rfl:f=3:=Option.some.inj ((show Tryz.prog.funcNamed "pleach/pleachlaw23.QuietForms"=some 3 by kernel_rfl).symm.trans hf) |>.symm
      obtain rfl:fn=Tryz.f3:=(Option.some.inj (Tryz.func3.symm.trans hfn)).symm
      exact ⟨by kernel_rfl,fun j t ht=>by
        rw [Tryz.params3] at ht
        have hm:t∈[]:=by simpa using Array.mem_of_getElem? ht
        have hall:([].all fun u=>!Tryz.prog.wantsStandIn u)=true:=by kernel_rfl
        exact (show Tryz.prog.wantsStandIn t=false by simpa using List.all_eq_true.1 hall t hm)⟩)
    (by kernel_rfl)
#print axioms proved
end Go.Proofs.YtaoeefmiogchdaaGreatDoor.quietForms
