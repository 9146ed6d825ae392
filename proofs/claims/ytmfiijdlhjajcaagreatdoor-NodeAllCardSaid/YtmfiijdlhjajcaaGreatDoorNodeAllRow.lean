/-
  NodeAll: the statement, proved.
  Conditions: none.
-/
import Derived.Test.YtmfiijdlhjajcaaGreatDoorNodeAllPRefNode
import Derived.Test.YtmfiijdlhjajcaaGreatDoorRows
import Derived.WalkKit
import Derived.ProofKit
import Derived.OpenShut
import Derived.Test.YtmfiijdlhjajcaaGreatDoorCards
import Derived.Test.YtmfiijdlhjajcaaGreatDoorTie
import Derived.PinnedBridge
import Derived.Lay
import Derived.LaidOnce
import Derived.SevenTiedAt
import Derived.LaidMore
set_option linter.unusedVariables false
set_option maxRecDepth 100000
namespace Go.Proofs.YtmfiijdlhjajcaaGreatDoor.nodeAll
open Go.PE Go.ChangeShapes Go.WideShapes Go.ChangeAt Go.RowKit
theorem own:ownKnob Tryz.prog.godebug=none:=by kernel_rfl
theorem laid:laidOutB Tryz.prog=true:=by kernel_rfl
theorem pure (x:PDs [.val t25,.val t25,.val t5,.val t25]) (h:Qho [.val t25,.val t25,.val t5,.val t25] x):∃ o,Quy x.1 x.2.1 x.2.2.1 x.2.2.2.1=some ((true,()),o):=by
  obtain ⟨x0,x1,x2,x3,_u⟩:=x
  exact ⟨(),Zap x0 x1 x2 x3 h⟩
theorem good:Go.PE.Q4t tab.ty Tryz.prog 9 ⟨[.val t25,.val t25,.val t5,.val t25],[⟨.bool,[false],none⟩],fun x=>Quy x.1 x.2.1 x.2.2.1 x.2.2.2.1⟩:=Za3
noncomputable def LL:List FuncId:=Q4y (fun f=>(Tryz.prog.funcs[f]?).elim [] Tryz.prog.leadsTo) (1+(Tryz.prog.funcs.toList.map fun g=>(Tryz.prog.leadsTo g).length+1).sum) [9] [] 0
theorem j_wf:Rows.nodeAllRow.wf (OpenSpec.ofChange Rows.nodeAllSpec)=true:=by kernel_rfl
theorem j_rows:mapsRowed Tryz.prog=true:=by kernel_rfl
theorem j_stops:Tryz.prog.stops=[]:=by kernel_rfl
theorem j_knobs:Tryz.prog.stopKnobs=[]:=by kernel_rfl
theorem j_inp:Q8d Tryz.prog LL=Rows.nodeAllRow.inPlace:=by kernel_rfl
theorem j_unf:Q3b Tryz.prog LL=true:=by kernel_rfl
theorem j_unf2:Rows.nodeAllRow.unfollowed=true:=by kernel_rfl
theorem j_rec:Rows.nodeAllRow.recurses=true:=by kernel_rfl
theorem j_vars:Q4x Tryz.prog LL=Rows.nodeAllRow.named:=by kernel_rfl
theorem j_keys:Tryz.prog.plainKeys=Rows.nodeAllRow.plainKeys:=by kernel_rfl
theorem j_heard:Tryz.prog.stopsHeard=true:=by kernel_rfl
theorem j_ent:Tryz.prog.mayEnter=true:=by kernel_rfl
theorem j_fin:Tryz.prog.liftsFinal=Rows.nodeAllRow.lifted:=by kernel_rfl
theorem j_make:Tryz.prog.make=some Rows.nodeAllRow.make:=by kernel_rfl
theorem j_rest:Q83 Tryz.prog Tryz.f9 Rows.nodeAllSpec Rows.nodeAllRow=true:=by kernel_rfl
theorem joined:joinedFacts Tryz.prog 9 Tryz.f9 Rows.nodeAllSpec Rows.nodeAllRow=true:=Qje (L:=LL) (Qht _ _) j_wf laid j_rows j_stops j_knobs j_inp j_unf j_unf2 j_rec j_vars j_keys j_heard j_ent j_fin j_make j_rest
theorem lifted (os:Os) (started:os.Started) (H:Type) (enc:TypeId × Value→H) :
    ReturnsInHanded {} Tryz.checked os 9 .any (fun w args=>(Rows.nodeAllSpec.pre enc Tryz.prog Tryz.f9 [] false w args∧laidMetH Tryz.prog Rows.nodeAllRow.laid w)∧sizedMet enc Tryz.prog Tryz.f9 (OpenSpec.ofChange Rows.nodeAllSpec) false w args) (Rows.nodeAllSpec.post enc Tryz.prog Tryz.f9 false true false false):=by
  refine returnsInHanded_of_change_and (C:=Tryz.checked) (X:=fun w _=>laidMetH Tryz.prog Rows.nodeAllRow.laid w) (fun _ _ _ hh h=>h.of_heap hh) own started (by kernel_rfl) Tryz.func9
    (ChangeSpec.witness_shaped (enc:=enc) (C:=Tryz.checked) (os:=os) (X:=fun w _=>laidMetH Tryz.prog Rows.nodeAllRow.laid w) false (World.laidAll Tryz.prog os Rows.nodeAllRow.laid) #[.slice none 0 0,.slice none 0 0,.int .u8 0,.slice none 0 0] 8 (World.laidAll_os _ _ _)
      (World.shaped_of_ZipB (by kernel_rfl) (by kernel_rfl)) (by kernel_rfl) (by kernel_rfl) (by kernel_rfl)
      (by rw [MakeChecks.laidMetH_plain _ _ _ (by kernel_rfl)];exact laidMet_laidAll _ (by kernel_rfl) (by kernel_rfl))) ?_
  intro W base args ds gs before hval hW _ _ hL _
  exact Qj7 (TB:=4) Zfn laid good (by kernel_rfl) (by kernel_rfl) (by kernel_rfl) (by kernel_rfl) rfl (fun ds h=>match ds,h with | [_d0,_d1,_d2,_d3],_=>⟨rfl,rfl,rfl⟩) pure hval hW
theorem over:Rows.nodeAllRow.holds Tryz.pinned (OpenSpec.ofChange Rows.nodeAllSpec):=
  OpenClaim.holds_of_wide 9 Tryz.f9 rfl rfl rfl rfl rfl rfl rfl ⟨rfl,rfl,rfl,rfl,rfl⟩ rfl rfl rfl rfl rfl (by kernel_rfl) Tryz.func9 joined
    (of_decide_eq_true (by kernel_rfl)) (by unfold Func.isWrapper;first | (rw [if_pos (by decide +kernel)];kernel_rfl) | (rw [if_neg (by decide +kernel)];exact ⟨rfl,rfl⟩))
    (fun os started H enc _=>lifted os started H enc)
theorem proved:Rows.NodeAllCardSaid:=
  Claim7.holds_tied_plain_at .later [] [.data,.pinned] true (true,"30142ab17430bdfdcd1a7180a463491b520788a206443f02f45dabf0a750fdfa") true over (fun _ h=>by cases h) (by kernel_rfl) (fun _ h=>by cases h) nodeAll_row_tie rfl ⟨rfl,rfl⟩ (by kernel_rfl) rfl
    (fun f fn hf hfn=>by
      obtain rfl:f=9:=Option.some.inj ((show Tryz.prog.funcNamed "pleach/pleachlaw20.NodeAll"=some 9 by kernel_rfl).symm.trans hf) |>.symm
      obtain rfl:fn=Tryz.f9:=(Option.some.inj (Tryz.func9.symm.trans hfn)).symm
      exact ⟨by kernel_rfl,fun j t ht=>by
        rw [Tryz.params9] at ht
        have hm:t∈[25,25,5,25]:=by simpa using Array.mem_of_getElem? ht
        have hall:([25,25,5,25].all fun u=>!Tryz.prog.wantsStandIn u)=true:=by kernel_rfl
        exact (show Tryz.prog.wantsStandIn t=false by simpa using List.all_eq_true.1 hall t hm)⟩)
    (by kernel_rfl)
#print axioms proved
end Go.Proofs.YtmfiijdlhjajcaaGreatDoor.nodeAll
