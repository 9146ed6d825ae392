/-
  WorldForms: the statement, proved.
  Conditions: none.
-/
import Derived.Test.YtkkpafhoiofaiaaGreatDoorWorldFormsPMWorldForms
import Derived.Test.YtkkpafhoiofaiaaGreatDoorRows
import Derived.WalkKit
import Derived.ProofKit
import Derived.OpenShut
import Derived.Test.YtkkpafhoiofaiaaGreatDoorCards
import Derived.Test.YtkkpafhoiofaiaaGreatDoorTie
import Derived.PinnedBridge
import Derived.Lay
import Derived.LaidOnce
import Derived.SevenTiedAt
import Derived.LaidMore
set_option linter.unusedVariables false
set_option maxRecDepth 100000
namespace Go.Proofs.YtkkpafhoiofaiaaGreatDoor.worldForms
open Go.PE Go.ChangeShapes Go.WideShapes Go.ChangeAt Go.RowKit
theorem own : ownKnob Tryz.prog.godebug = none := by kernel_rfl
theorem laid : laidOutB Tryz.prog = true := by kernel_rfl
theorem reckoned : pleachlaw22_WorldForms_m = some ((true, ()), ()) := pleachlaw22_WorldForms_m_true
theorem pure (x : PDs []) (h : wfPs [] x) : ∃ o, pleachlaw22_WorldForms_m = some ((true, ()), o) := ⟨(), reckoned⟩
theorem good : Go.PE.Good tab.ty Tryz.prog 4 ⟨[], [⟨.bool, [false], none⟩], fun x => pleachlaw22_WorldForms_m⟩ := pleachlaw22_WorldForms_m_good
noncomputable def LL : List FuncId := clFast (fun f => (Tryz.prog.funcs[f]?).elim [] Tryz.prog.leadsTo) (1 + (Tryz.prog.funcs.toList.map fun g => (Tryz.prog.leadsTo g).length + 1).sum) [4] [] 0
theorem j_wf : Rows.worldFormsRow.wf (OpenSpec.ofChange Rows.worldFormsSpec) = true := by kernel_rfl
theorem j_rows : mapsRowed Tryz.prog = true := by kernel_rfl
theorem j_stops : Tryz.prog.stops = [] := by kernel_rfl
theorem j_knobs : Tryz.prog.stopKnobs = [] := by kernel_rfl
theorem j_inp : inPlaceL Tryz.prog LL = Rows.worldFormsRow.inPlace := by kernel_rfl
theorem j_unf : unfollowedL Tryz.prog LL = true := by kernel_rfl
theorem j_unf2 : Rows.worldFormsRow.unfollowed = true := by kernel_rfl
theorem j_rec : Rows.worldFormsRow.recurses = true := by kernel_rfl
theorem j_vars : varsNamedL Tryz.prog LL = Rows.worldFormsRow.named := by kernel_rfl
theorem j_keys : Tryz.prog.plainKeys = Rows.worldFormsRow.plainKeys := by kernel_rfl
theorem j_heard : Tryz.prog.stopsHeard = true := by kernel_rfl
theorem j_ent : Tryz.prog.mayEnter = true := by kernel_rfl
theorem j_fin : Tryz.prog.liftsFinal = Rows.worldFormsRow.lifted := by kernel_rfl
theorem j_make : Tryz.prog.make = some Rows.worldFormsRow.make := by kernel_rfl
theorem j_rest : joinedRest Tryz.prog Tryz.f4 Rows.worldFormsSpec Rows.worldFormsRow = true := by kernel_rfl
theorem joined : joinedFacts Tryz.prog 4 Tryz.f4 Rows.worldFormsSpec Rows.worldFormsRow = true := joined_L (L := LL) (closure_fast _ _) j_wf laid j_rows j_stops j_knobs j_inp j_unf j_unf2 j_rec j_vars j_keys j_heard j_ent j_fin j_make j_rest
theorem lifted (os : Os) (started : os.Started) (H : Type) (enc : TypeId × Value → H) :
    ReturnsInHanded {} Tryz.checked os 4 .any (fun w args => (Rows.worldFormsSpec.pre enc Tryz.prog Tryz.f4 [] false w args ∧ laidMetH Tryz.prog Rows.worldFormsRow.laid w) ∧ sizedMet enc Tryz.prog Tryz.f4 (OpenSpec.ofChange Rows.worldFormsSpec) false w args) (Rows.worldFormsSpec.post enc Tryz.prog Tryz.f4 false true false false) := by
  refine returnsInHanded_of_change_and (C := Tryz.checked) (X := fun w _ => laidMetH Tryz.prog Rows.worldFormsRow.laid w) (fun _ _ _ hh h => h.of_heap hh) own started (by kernel_rfl) Tryz.func4
    (ChangeSpec.witness_shaped (enc := enc) (C := Tryz.checked) (os := os) (X := fun w _ => laidMetH Tryz.prog Rows.worldFormsRow.laid w) false (World.laidAll Tryz.prog os Rows.worldFormsRow.laid) #[] 8 (World.laidAll_os _ _ _)
      (World.shaped_of_ZipB (by kernel_rfl) (by kernel_rfl)) (by kernel_rfl) (by kernel_rfl) (by kernel_rfl)
      (by rw [MakeChecks.laidMetH_plain _ _ _ (by kernel_rfl)]; exact laidMet_laidAll _ (by kernel_rfl) (by kernel_rfl))) ?_
  intro W base args ds gs before hval hW _ _ hL _
  exact law_calls (TB := 4) tabok laid good (by kernel_rfl) (by kernel_rfl) (by kernel_rfl) (by kernel_rfl) rfl (fun ds h => match ds, h with | [], _ => ⟨rfl, rfl, rfl⟩) pure hval hW
theorem over : Rows.worldFormsRow.holds Tryz.pinned (OpenSpec.ofChange Rows.worldFormsSpec) :=
  OpenClaim.holds_of_wide 4 Tryz.f4 rfl rfl rfl rfl rfl rfl rfl ⟨rfl, rfl, rfl, rfl, rfl⟩ rfl rfl rfl rfl rfl (by kernel_rfl) Tryz.func4 joined
    (of_decide_eq_true (by kernel_rfl)) (by unfold Func.isWrapper; first | (rw [if_pos (by decide +kernel)]; kernel_rfl) | (rw [if_neg (by decide +kernel)]; exact ⟨rfl, rfl⟩))
    (fun os started H enc _ => lifted os started H enc)
theorem proved : Rows.WorldFormsCardSaid :=
  Claim7.holds_tied_plain_at .later [] [.data, .pinned] true (true, "4287ecb894bba09200daf507586ceb4edbec26c4f9b7eff3fe0c89ccf2a3f547") true over (fun _ h => by cases h) (by kernel_rfl) (fun _ h => by cases h) worldForms_row_tie rfl ⟨rfl, rfl⟩ (by kernel_rfl) rfl
    (fun f fn hf hfn => by
      obtain rfl : f = 4 := Option.some.inj ((show Tryz.prog.funcNamed "pleach/pleachlaw22.WorldForms" = some 4 by kernel_rfl).symm.trans hf) |>.symm
      obtain rfl : fn = Tryz.f4 := (Option.some.inj (Tryz.func4.symm.trans hfn)).symm
      exact ⟨by kernel_rfl, fun j t ht => by
        rw [Tryz.params4] at ht
        have hm : t ∈ [] := by simpa using Array.mem_of_getElem? ht
        have hall : ([].all fun u => !Tryz.prog.wantsStandIn u) = true := by kernel_rfl
        exact (show Tryz.prog.wantsStandIn t = false by simpa using List.all_eq_true.1 hall t hm)⟩)
    (by kernel_rfl)
#print axioms proved
end Go.Proofs.YtkkpafhoiofaiaaGreatDoor.worldForms
