/-
  Functions of the program, each as the evaluator answers it, and its contract.
  Conditions: none.
-/
import Derived.Test.YtkkpafhoiofaiaaGreatTruthFormsT
set_option linter.unusedVariables false
set_option maxRecDepth 100000
namespace Go.PE
open Go.Proofs

noncomputable def pleachmade_Made_Γ : Ctx := []
def pleachmade_Made_fi : Fi := { keep := [], vty := [], vals := [], live := [(0, [0]), (1, [2])] }
noncomputable def pleachmade_Made (l_0 : List Int) : Option ((((List Int) × Int) × Unit) × Unit) :=
 some (((l_0, 0), ()), ())
theorem pleachmade_Made_eq (l_0 : List Int) : evFn pleachmade_Made_Γ tab pleachmade_Made_fi 1 [.val t22] [⟨t71, [false, false], some 72⟩] Tryz.f7 (l_0, ()) = pleachmade_Made l_0 := by kernel_rfl
noncomputable def pleachmade_Made_e : Ent := ⟨[.val t22], [⟨t71, [false, false], some 72⟩], fun x => pleachmade_Made x.1⟩
theorem pleachmade_Made_good : Good tab.ty Tryz.prog 7 pleachmade_Made_e := by
  refine fn_good (Γ := pleachmade_Made_Γ) (fi := pleachmade_Made_fi) (n := 1) follows gnil tabok Tryz.func7 (by kernel_rfl) (by kernel_rfl) (fun x r h => ?_)
  obtain ⟨l_0, _u⟩ := x
  exact (pleachmade_Made_eq l_0).trans h
noncomputable def pleachmade_Picks_Num_Γ : Ctx := []
def pleachmade_Picks_Num_fi : Fi := { keep := [], vty := [], vals := [], live := [(0, [0, 1, 16, 17]), (1, [0, 1, 18]), (2, [0, 4]), (3, [0, 1]), (4, [0, 4])] }
noncomputable def pleachmade_Picks_Num (p_0 : (List Int) × Int) (m_1 : Int) : Option ((Int × Unit) × (((List Int) × Int) × Unit)) :=
 bif decide (p_0.2 ≥ (p_0.1.length : Int)) then
  some ((0, ()), (p_0, ()))
 else
 bif decide (m_1 < 1) then
  some ((0, ()), (p_0, ()))
 else
 bif decide (0 ≤ IntKind.wrap .i64 ((IntKind.wrap .i64 (p_0.2 + 1)) - 1)) && decide (IntKind.wrap .i64 ((IntKind.wrap .i64 (p_0.2 + 1)) - 1) < (p_0.1.length : Int)) then
  bif !(m_1 == 0) then
   some ((Int.tmod (IntKind.wrap .i64 (List.getD p_0.1 ((IntKind.wrap .i64 ((IntKind.wrap .i64 (p_0.2 + 1)) - 1)).toNat) 0)) m_1, ()), ((p_0.1, IntKind.wrap .i64 (p_0.2 + 1)), ()))
  else none
 else none
theorem pleachmade_Picks_Num_eq (p_0 : (List Int) × Int) (m_1 : Int) : evFn pleachmade_Picks_Num_Γ tab pleachmade_Picks_Num_fi 1 [.box 72 t71 [false, false], .val t2] [⟨t2, [false], none⟩] Tryz.f25 (p_0, m_1, ()) = pleachmade_Picks_Num p_0 m_1 := by kernel_rfl
noncomputable def pleachmade_Picks_Num_e : Ent := ⟨[.box 72 t71 [false, false], .val t2], [⟨t2, [false], none⟩], fun x => pleachmade_Picks_Num x.1 x.2.1⟩
theorem pleachmade_Picks_Num_good : Good tab.ty Tryz.prog 25 pleachmade_Picks_Num_e := by
  refine fn_good (Γ := pleachmade_Picks_Num_Γ) (fi := pleachmade_Picks_Num_fi) (n := 1) follows gnil tabok Tryz.func25 (by kernel_rfl) (by kernel_rfl) (fun x r h => ?_)
  obtain ⟨p_0, m_1, _u⟩ := x
  exact (pleachmade_Picks_Num_eq p_0 m_1).trans h
noncomputable def pleachmade_Picks_Dist_Γ : Ctx := [(25, pleachmade_Picks_Num_e)]
def pleachmade_Picks_Dist_fi : Fi := { keep := [], vty := [], vals := [(3, 999)], live := [(0, [0]), (1, [0, 3]), (2, [0, 3, 4]), (3, [0, 3, 4, 9]), (4, [0, 3, 4]), (5, [0, 3, 4]), (6, [0, 3, 5]), (7, [0, 3, 5, 17]), (8, [0, 3, 5]), (9, [0, 3, 5, 6]), (10, [0, 3, 5, 6, 22]), (11, [0, 3, 5, 6]), (12, [0, 3, 5, 6, 7]), (13, [0, 3, 5, 6]), (14, [0, 2])], melt := [(14, 3)] }
noncomputable def pleachmade_Picks_Dist (p_0 : (List Int) × Int) : Option (((List (List Int)) × Unit) × (((List Int) × Int) × Unit)) :=
 Option.bind (pleachmade_Picks_Num p_0 9) fun (r1 : (Int × Unit) × (((List Int) × Int) × Unit)) =>
 bif decide (0 ≤ r1.1.1) && decide (r1.1.1 < 9) then
  bif decide (0 ≤ r1.1.1) && decide (r1.1.1 < 9) then
   Option.bind (pleachmade_Picks_Num r1.2.1 9) fun (r2 : (Int × Unit) × (((List Int) × Int) × Unit)) =>
   bif decide (0 ≤ r2.1.1) && decide (r2.1.1 < 9) then
    bif decide (0 ≤ r2.1.1) && decide (r2.1.1 < 9) then
     Option.bind (pleachmade_Picks_Num r2.2.1 9) fun (r3 : (Int × Unit) × (((List Int) × Int) × Unit)) =>
     bif decide (0 ≤ r3.1.1) && decide (r3.1.1 < 9) then
      bif decide (0 ≤ r3.1.1) && decide (r3.1.1 < 9) then
       Option.bind (pleachmade_Picks_Num r3.2.1 9) fun (r4 : (Int × Unit) × (((List Int) × Int) × Unit)) =>
       bif decide (0 ≤ r4.1.1) && decide (r4.1.1 < 9) then
        bif decide (0 ≤ r4.1.1) && decide (r4.1.1 < 9) then
         Option.bind (pleachmade_Picks_Num r4.2.1 9) fun (r5 : (Int × Unit) × (((List Int) × Int) × Unit)) =>
         bif decide (0 ≤ r5.1.1) && decide (r5.1.1 < 9) then
          bif decide (0 ≤ r5.1.1) && decide (r5.1.1 < 9) then
           Option.bind (pleachmade_Picks_Num r5.2.1 9) fun (r6 : (Int × Unit) × (((List Int) × Int) × Unit)) =>
           bif decide (0 ≤ r6.1.1) && decide (r6.1.1 < 9) then
            bif decide (0 ≤ r6.1.1) && decide (r6.1.1 < 9) then
            Option.bind (pleachmade_Picks_Num r6.2.1 9) fun (r7 : (Int × Unit) × (((List Int) × Int) × Unit)) =>
            bif decide (0 ≤ r7.1.1) && decide (r7.1.1 < 9) then
            bif decide (0 ≤ r7.1.1) && decide (r7.1.1 < 9) then
            Option.bind (pleachmade_Picks_Num r7.2.1 9) fun (r8 : (Int × Unit) × (((List Int) × Int) × Unit)) =>
            bif decide (0 ≤ r8.1.1) && decide (r8.1.1 < 9) then
            bif decide (0 ≤ r8.1.1) && decide (r8.1.1 < 9) then
            Option.bind (pleachmade_Picks_Num r8.2.1 9) fun (r9 : (Int × Unit) × (((List Int) × Int) × Unit)) =>
            bif decide (0 ≤ r9.1.1) && decide (r9.1.1 < 9) then
            bif decide (0 ≤ r9.1.1) && decide (r9.1.1 < 9) then
            Option.bind (pleachmade_Picks_Num r9.2.1 9) fun (r10 : (Int × Unit) × (((List Int) × Int) × Unit)) =>
            bif decide (0 ≤ r10.1.1) && decide (r10.1.1 < 9) then
            bif decide (0 ≤ r10.1.1) && decide (r10.1.1 < 9) then
            Option.bind (pleachmade_Picks_Num r10.2.1 9) fun (r11 : (Int × Unit) × (((List Int) × Int) × Unit)) =>
            bif decide (0 ≤ r11.1.1) && decide (r11.1.1 < 9) then
            bif decide (0 ≤ r11.1.1) && decide (r11.1.1 < 9) then
            Option.bind (pleachmade_Picks_Num r11.2.1 9) fun (r12 : (Int × Unit) × (((List Int) × Int) × Unit)) =>
            bif decide (0 ≤ r12.1.1) && decide (r12.1.1 < 9) then
            bif decide (0 ≤ r12.1.1) && decide (r12.1.1 < 9) then
            Option.bind (pleachmade_Picks_Num r12.2.1 9) fun (r13 : (Int × Unit) × (((List Int) × Int) × Unit)) =>
            bif decide (0 ≤ r13.1.1) && decide (r13.1.1 < 9) then
            bif decide (0 ≤ r13.1.1) && decide (r13.1.1 < 9) then
            Option.bind (pleachmade_Picks_Num r13.2.1 9) fun (r14 : (Int × Unit) × (((List Int) × Int) × Unit)) =>
            bif decide (0 ≤ r14.1.1) && decide (r14.1.1 < 9) then
            bif decide (0 ≤ r14.1.1) && decide (r14.1.1 < 9) then
            Option.bind (pleachmade_Picks_Num r14.2.1 9) fun (r15 : (Int × Unit) × (((List Int) × Int) × Unit)) =>
            bif decide (0 ≤ r15.1.1) && decide (r15.1.1 < 9) then
            bif decide (0 ≤ r15.1.1) && decide (r15.1.1 < 9) then
            Option.bind (pleachmade_Picks_Num r15.2.1 9) fun (r16 : (Int × Unit) × (((List Int) × Int) × Unit)) =>
            bif decide (0 ≤ r16.1.1) && decide (r16.1.1 < 9) then
            bif decide (0 ≤ r16.1.1) && decide (r16.1.1 < 9) then
            Option.bind (pleachmade_Picks_Num r16.2.1 9) fun (r17 : (Int × Unit) × (((List Int) × Int) × Unit)) =>
            bif decide (0 ≤ r17.1.1) && decide (r17.1.1 < 9) then
            bif decide (0 ≤ r17.1.1) && decide (r17.1.1 < 9) then
            Option.bind (pleachmade_Picks_Num r17.2.1 9) fun (r18 : (Int × Unit) × (((List Int) × Int) × Unit)) =>
            bif decide (0 ≤ r18.1.1) && decide (r18.1.1 < 9) then
            bif decide (0 ≤ r18.1.1) && decide (r18.1.1 < 9) then
            Option.bind (pleachmade_Picks_Num r18.2.1 9) fun (r19 : (Int × Unit) × (((List Int) × Int) × Unit)) =>
            bif decide (0 ≤ r19.1.1) && decide (r19.1.1 < 9) then
            bif decide (0 ≤ r19.1.1) && decide (r19.1.1 < 9) then
            Option.bind (pleachmade_Picks_Num r19.2.1 9) fun (r20 : (Int × Unit) × (((List Int) × Int) × Unit)) =>
            bif decide (0 ≤ r20.1.1) && decide (r20.1.1 < 9) then
            bif decide (0 ≤ r20.1.1) && decide (r20.1.1 < 9) then
            Option.bind (pleachmade_Picks_Num r20.2.1 9) fun (r21 : (Int × Unit) × (((List Int) × Int) × Unit)) =>
            bif decide (0 ≤ r21.1.1) && decide (r21.1.1 < 9) then
            bif decide (0 ≤ r21.1.1) && decide (r21.1.1 < 9) then
            Option.bind (pleachmade_Picks_Num r21.2.1 9) fun (r22 : (Int × Unit) × (((List Int) × Int) × Unit)) =>
            bif decide (0 ≤ r22.1.1) && decide (r22.1.1 < 9) then
            bif decide (0 ≤ r22.1.1) && decide (r22.1.1 < 9) then
            Option.bind (pleachmade_Picks_Num r22.2.1 9) fun (r23 : (Int × Unit) × (((List Int) × Int) × Unit)) =>
            bif decide (0 ≤ r23.1.1) && decide (r23.1.1 < 9) then
            bif decide (0 ≤ r23.1.1) && decide (r23.1.1 < 9) then
            Option.bind (pleachmade_Picks_Num r23.2.1 9) fun (r24 : (Int × Unit) × (((List Int) × Int) × Unit)) =>
            bif decide (0 ≤ r24.1.1) && decide (r24.1.1 < 9) then
            bif decide (0 ≤ r24.1.1) && decide (r24.1.1 < 9) then
            Option.bind (pleachmade_Picks_Num r24.2.1 9) fun (r25 : (Int × Unit) × (((List Int) × Int) × Unit)) =>
            bif decide (0 ≤ r25.1.1) && decide (r25.1.1 < 9) then
            bif decide (0 ≤ r25.1.1) && decide (r25.1.1 < 9) then
            Option.bind (pleachmade_Picks_Num r25.2.1 9) fun (r26 : (Int × Unit) × (((List Int) × Int) × Unit)) =>
            bif decide (0 ≤ r26.1.1) && decide (r26.1.1 < 9) then
            bif decide (0 ≤ r26.1.1) && decide (r26.1.1 < 9) then
            Option.bind (pleachmade_Picks_Num r26.2.1 9) fun (r27 : (Int × Unit) × (((List Int) × Int) × Unit)) =>
            bif decide (0 ≤ r27.1.1) && decide (r27.1.1 < 9) then
            bif decide (0 ≤ r27.1.1) && decide (r27.1.1 < 9) then
            Option.bind (pleachmade_Picks_Num r27.2.1 9) fun (r28 : (Int × Unit) × (((List Int) × Int) × Unit)) =>
            bif decide (0 ≤ r28.1.1) && decide (r28.1.1 < 9) then
            bif decide (0 ≤ r28.1.1) && decide (r28.1.1 < 9) then
            some (([[0, List.getD [1, 2, 3, 5, 9, 9, 20, 1000, 0] r1.1.1.toNat 0, List.getD [1, 2, 3, 5, 9, 9, 20, 1000, 0] r2.1.1.toNat 0, List.getD [1, 2, 3, 5, 9, 9, 20, 1000, 0] r4.1.1.toNat 0, List.getD [1, 2, 3, 5, 9, 9, 20, 1000, 0] r7.1.1.toNat 0, List.getD [1, 2, 3, 5, 9, 9, 20, 1000, 0] r11.1.1.toNat 0, List.getD [1, 2, 3, 5, 9, 9, 20, 1000, 0] r16.1.1.toNat 0, List.getD [1, 2, 3, 5, 9, 9, 20, 1000, 0] r22.1.1.toNat 0], [List.getD [1, 2, 3, 5, 9, 9, 20, 1000, 0] r1.1.1.toNat 0, 0, List.getD [1, 2, 3, 5, 9, 9, 20, 1000, 0] r3.1.1.toNat 0, List.getD [1, 2, 3, 5, 9, 9, 20, 1000, 0] r5.1.1.toNat 0, List.getD [1, 2, 3, 5, 9, 9, 20, 1000, 0] r8.1.1.toNat 0, List.getD [1, 2, 3, 5, 9, 9, 20, 1000, 0] r12.1.1.toNat 0, List.getD [1, 2, 3, 5, 9, 9, 20, 1000, 0] r17.1.1.toNat 0, List.getD [1, 2, 3, 5, 9, 9, 20, 1000, 0] r23.1.1.toNat 0], [List.getD [1, 2, 3, 5, 9, 9, 20, 1000, 0] r2.1.1.toNat 0, List.getD [1, 2, 3, 5, 9, 9, 20, 1000, 0] r3.1.1.toNat 0, 0, List.getD [1, 2, 3, 5, 9, 9, 20, 1000, 0] r6.1.1.toNat 0, List.getD [1, 2, 3, 5, 9, 9, 20, 1000, 0] r9.1.1.toNat 0, List.getD [1, 2, 3, 5, 9, 9, 20, 1000, 0] r13.1.1.toNat 0, List.getD [1, 2, 3, 5, 9, 9, 20, 1000, 0] r18.1.1.toNat 0, List.getD [1, 2, 3, 5, 9, 9, 20, 1000, 0] r24.1.1.toNat 0], [List.getD [1, 2, 3, 5, 9, 9, 20, 1000, 0] r4.1.1.toNat 0, List.getD [1, 2, 3, 5, 9, 9, 20, 1000, 0] r5.1.1.toNat 0, List.getD [1, 2, 3, 5, 9, 9, 20, 1000, 0] r6.1.1.toNat 0, 0, List.getD [1, 2, 3, 5, 9, 9, 20, 1000, 0] r10.1.1.toNat 0, List.getD [1, 2, 3, 5, 9, 9, 20, 1000, 0] r14.1.1.toNat 0, List.getD [1, 2, 3, 5, 9, 9, 20, 1000, 0] r19.1.1.toNat 0, List.getD [1, 2, 3, 5, 9, 9, 20, 1000, 0] r25.1.1.toNat 0], [List.getD [1, 2, 3, 5, 9, 9, 20, 1000, 0] r7.1.1.toNat 0, List.getD [1, 2, 3, 5, 9, 9, 20, 1000, 0] r8.1.1.toNat 0, List.getD [1, 2, 3, 5, 9, 9, 20, 1000, 0] r9.1.1.toNat 0, List.getD [1, 2, 3, 5, 9, 9, 20, 1000, 0] r10.1.1.toNat 0, 0, List.getD [1, 2, 3, 5, 9, 9, 20, 1000, 0] r15.1.1.toNat 0, List.getD [1, 2, 3, 5, 9, 9, 20, 1000, 0] r20.1.1.toNat 0, List.getD [1, 2, 3, 5, 9, 9, 20, 1000, 0] r26.1.1.toNat 0], [List.getD [1, 2, 3, 5, 9, 9, 20, 1000, 0] r11.1.1.toNat 0, List.getD [1, 2, 3, 5, 9, 9, 20, 1000, 0] r12.1.1.toNat 0, List.getD [1, 2, 3, 5, 9, 9, 20, 1000, 0] r13.1.1.toNat 0, List.getD [1, 2, 3, 5, 9, 9, 20, 1000, 0] r14.1.1.toNat 0, List.getD [1, 2, 3, 5, 9, 9, 20, 1000, 0] r15.1.1.toNat 0, 0, List.getD [1, 2, 3, 5, 9, 9, 20, 1000, 0] r21.1.1.toNat 0, List.getD [1, 2, 3, 5, 9, 9, 20, 1000, 0] r27.1.1.toNat 0], [List.getD [1, 2, 3, 5, 9, 9, 20, 1000, 0] r16.1.1.toNat 0, List.getD [1, 2, 3, 5, 9, 9, 20, 1000, 0] r17.1.1.toNat 0, List.getD [1, 2, 3, 5, 9, 9, 20, 1000, 0] r18.1.1.toNat 0, List.getD [1, 2, 3, 5, 9, 9, 20, 1000, 0] r19.1.1.toNat 0, List.getD [1, 2, 3, 5, 9, 9, 20, 1000, 0] r20.1.1.toNat 0, List.getD [1, 2, 3, 5, 9, 9, 20, 1000, 0] r21.1.1.toNat 0, 0, List.getD [1, 2, 3, 5, 9, 9, 20, 1000, 0] r28.1.1.toNat 0], [List.getD [1, 2, 3, 5, 9, 9, 20, 1000, 0] r22.1.1.toNat 0, List.getD [1, 2, 3, 5, 9, 9, 20, 1000, 0] r23.1.1.toNat 0, List.getD [1, 2, 3, 5, 9, 9, 20, 1000, 0] r24.1.1.toNat 0, List.getD [1, 2, 3, 5, 9, 9, 20, 1000, 0] r25.1.1.toNat 0, List.getD [1, 2, 3, 5, 9, 9, 20, 1000, 0] r26.1.1.toNat 0, List.getD [1, 2, 3, 5, 9, 9, 20, 1000, 0] r27.1.1.toNat 0, List.getD [1, 2, 3, 5, 9, 9, 20, 1000, 0] r28.1.1.toNat 0, 0]], ()), (r28.2.1, ()))
            else none
            else none
            else none
            else none
            else none
            else none
            else none
            else none
            else none
            else none
            else none
            else none
            else none
            else none
            else none
            else none
            else none
            else none
            else none
            else none
            else none
            else none
            else none
            else none
            else none
            else none
            else none
            else none
            else none
            else none
            else none
            else none
            else none
            else none
            else none
            else none
            else none
            else none
            else none
            else none
            else none
            else none
            else none
            else none
            else none
           else none
          else none
         else none
        else none
       else none
      else none
     else none
    else none
   else none
  else none
 else none
theorem pleachmade_Picks_Dist_eq (p_0 : (List Int) × Int) : evFn pleachmade_Picks_Dist_Γ tab pleachmade_Picks_Dist_fi 40 [.box 72 t71 [false, false]] [⟨t27, [true], none⟩] Tryz.f21 (p_0, ()) = pleachmade_Picks_Dist p_0 := by kernel_rfl
noncomputable def pleachmade_Picks_Dist_e : Ent := ⟨[.box 72 t71 [false, false]], [⟨t27, [true], none⟩], fun x => pleachmade_Picks_Dist x.1⟩
theorem pleachmade_Picks_Dist_good : Good tab.ty Tryz.prog 21 pleachmade_Picks_Dist_e := by
  refine fn_good (Γ := pleachmade_Picks_Dist_Γ) (fi := pleachmade_Picks_Dist_fi) (n := 40) follows (gcons pleachmade_Picks_Num_good gnil) tabok Tryz.func21 (by kernel_rfl) (by kernel_rfl) (fun x r h => ?_)
  obtain ⟨p_0, _u⟩ := x
  exact (pleachmade_Picks_Dist_eq p_0).trans h
noncomputable def pleachref1_MayDist_Γ : Ctx := []
def pleachref1_MayDist_fi : Fi := { keep := [], vty := [], vals := [], live := [(0, [0, 42, 43, 44, 45, 46, 47, 48, 49, 52, 53, 54, 55, 56, 57, 58, 59, 60, 61, 62, 63, 64, 65, 66, 69, 70, 71, 72, 73, 74, 75, 76, 77, 78, 79, 80, 81]), (1, [0, 8, 42, 43, 44, 45, 46, 47, 48, 49, 52, 53, 54, 55, 56, 57, 58, 59, 60, 61, 62, 63, 64, 65, 66, 69, 70, 71, 72, 73, 74, 75, 76, 77, 78, 79, 80, 81]), (2, [2]), (3, [0, 3, 42, 43, 44, 45, 46, 47, 48, 49, 52, 53, 54, 55, 56, 57, 58, 59, 60, 61, 62, 63, 64, 65, 66, 69, 70, 71, 72, 73, 74, 75, 76, 77, 78, 79, 80, 81]), (4, [0, 3, 12, 42, 43, 44, 45, 46, 47, 48, 49, 52, 53, 54, 55, 56, 57, 58, 59, 60, 61, 62, 63, 64, 65, 66, 69, 70, 71, 72, 73, 74, 75, 76, 77, 78, 79, 80, 81]), (5, [0, 3, 42, 43, 44, 45, 46, 47, 48, 49, 52, 53, 54, 55, 56, 57, 58, 59, 60, 61, 62, 63, 64, 65, 66, 69, 70, 71, 72, 73, 74, 75, 76, 77, 78, 79, 80, 81]), (6, [0, 3, 20, 42, 43, 44, 45, 46, 47, 48, 49, 52, 53, 54, 55, 56, 57, 58, 59, 60, 61, 62, 63, 64, 65, 66, 69, 70, 71, 72, 73, 74, 75, 76, 77, 78, 79, 80, 81]), (7, [2]), (8, [0, 4, 42, 43, 44, 45, 46, 47, 48, 49, 52, 53, 54, 55, 56, 57, 58, 59, 60, 61, 62, 63, 64, 65, 66, 69, 70, 71, 72, 73, 74, 75, 76, 77, 78, 79, 80, 81]), (9, [0, 4, 24, 42, 43, 44, 45, 46, 47, 48, 49, 52, 53, 54, 55, 56, 57, 58, 59, 60, 61, 62, 63, 64, 65, 66, 69, 70, 71, 72, 73, 74, 75, 76, 77, 78, 79, 80, 81]), (10, [0, 4, 42, 43, 44, 45, 46, 47, 48, 49, 52, 53, 54, 55, 56, 57, 58, 59, 60, 61, 62, 63, 64, 65, 66, 69, 70, 71, 72, 73, 74, 75, 76, 77, 78, 79, 80, 81]), (11, [0, 4, 5, 42, 43, 44, 45, 46, 47, 48, 49, 52, 53, 54, 55, 56, 57, 58, 59, 60, 61, 62, 63, 64, 65, 66, 69, 70, 71, 72, 73, 74, 75, 76, 77, 78, 79, 80, 81]), (12, [0, 4, 5, 30, 42, 43, 44, 45, 46, 47, 48, 49, 52, 53, 54, 55, 56, 57, 58, 59, 60, 61, 62, 63, 64, 65, 66, 69, 70, 71, 72, 73, 74, 75, 76, 77, 78, 79, 80, 81]), (13, [0, 4, 5, 42, 43, 44, 45, 46, 47, 48, 49, 52, 53, 54, 55, 56, 57, 58, 59, 60, 61, 62, 63, 64, 65, 66, 69, 70, 71, 72, 73, 74, 75, 76, 77, 78, 79, 80, 81]), (14, [0, 4, 5, 42, 43, 44, 45, 46, 47, 48, 49, 52, 53, 54, 55, 56, 57, 58, 59, 60, 61, 62, 63, 64, 65, 66, 69, 70, 71, 72, 73, 74, 75, 76, 77, 78, 79, 80, 81, 82]), (15, [2]), (16, [2])] }
noncomputable def pleachref1_MayDist_B1 (L1 : List (List Int) → Int → Option ((Bool × Unit) × Unit)) (L2 : List (List Int) → Int → Option ((Bool × Unit) × Unit)) (v1 : List (List Int)) (v2 : Int) : Option ((Bool × Unit) × Unit) :=
 bif decide (v2 < (v1.length : Int)) then
  bif decide (0 ≤ v2) && decide (v2 < (v1.length : Int)) then
   bif ((List.getD v1 v2.toNat []).length : Int) != 8 then
    some ((false, ()), ())
   else
    L1 v1 (IntKind.wrap .i64 (v2 + 1))
  else none
 else
  L2 v1 0
noncomputable def pleachref1_MayDist_B2 (L3 : List (List Int) → Int → Int → Option ((Bool × Unit) × Unit)) (v3 : List (List Int)) (v4 : Int) : Option ((Bool × Unit) × Unit) :=
 bif decide (v4 < (v3.length : Int)) then
  L3 v3 v4 0
 else
  some ((true, ()), ())
noncomputable def pleachref1_MayDist_B3 (L3 : List (List Int) → Int → Int → Option ((Bool × Unit) × Unit)) (L2 : List (List Int) → Int → Option ((Bool × Unit) × Unit)) (v5 : List (List Int)) (v6 : Int) (v7 : Int) : Option ((Bool × Unit) × Unit) :=
 bif decide (v7 < (v5.length : Int)) then
  bif decide (0 ≤ v6) && decide (v6 < (v5.length : Int)) then
   bif decide (0 ≤ v7) && decide (v7 < ((List.getD v5 v6.toNat []).length : Int)) then
    bif decide (List.getD (List.getD v5 v6.toNat []) v7.toNat 0 < 0) then
     some ((false, ()), ())
    else
    bif decide (0 ≤ v6) && decide (v6 < (v5.length : Int)) then
     bif decide (0 ≤ v7) && decide (v7 < ((List.getD v5 v6.toNat []).length : Int)) then
      bif decide (List.getD (List.getD v5 v6.toNat []) v7.toNat 0 > 1000) then
       some ((false, ()), ())
      else
      bif decide (0 ≤ v6) && decide (v6 < (v5.length : Int)) then
       bif decide (0 ≤ v7) && decide (v7 < ((List.getD v5 v6.toNat []).length : Int)) then
        bif decide (0 ≤ v7) && decide (v7 < (v5.length : Int)) then
         bif decide (0 ≤ v6) && decide (v6 < ((List.getD v5 v7.toNat []).length : Int)) then
          bif (List.getD (List.getD v5 v6.toNat []) v7.toNat 0) != (List.getD (List.getD v5 v7.toNat []) v6.toNat 0) then
           some ((false, ()), ())
          else
          bif v6 == v7 then
           bif decide (0 ≤ v6) && decide (v6 < (v5.length : Int)) then
            bif decide (0 ≤ v7) && decide (v7 < ((List.getD v5 v6.toNat []).length : Int)) then
            bif (List.getD (List.getD v5 v6.toNat []) v7.toNat 0) != 0 then
            some ((false, ()), ())
            else
            L3 v5 v6 (IntKind.wrap .i64 (v7 + 1))
            else none
           else none
          else
           L3 v5 v6 (IntKind.wrap .i64 (v7 + 1))
         else none
        else none
       else none
      else none
     else none
    else none
   else none
  else none
 else
  L2 v5 (IntKind.wrap .i64 (v6 + 1))
noncomputable def pleachref1_MayDist_T (L1 : List (List Int) → Int → Option ((Bool × Unit) × Unit)) (d_0 : List (List Int)) : Option ((Bool × Unit) × Unit) :=
 bif (d_0.length : Int) != 8 then
  some ((false, ()), ())
 else
  L1 d_0 0
noncomputable def pleachref1_MayDist_L3 (n : Nat) (m2 : Nat) (r2 : List (List Int) → Int → Option ((Bool × Unit) × Unit)) : Nat → List (List Int) → Int → Int → Option ((Bool × Unit) × Unit) := iter (fun _ _ _ => none) fun L => pleachref1_MayDist_B3 L r2
noncomputable def pleachref1_MayDist_L2 (n : Nat) : Nat → List (List Int) → Int → Option ((Bool × Unit) × Unit) := iterN (fun _ _ => none) fun m L => pleachref1_MayDist_B2 (pleachref1_MayDist_L3 n m L n)
noncomputable def pleachref1_MayDist_L1 (n : Nat) : Nat → List (List Int) → Int → Option ((Bool × Unit) × Unit) := iter (fun _ _ => none) fun L => pleachref1_MayDist_B1 L (pleachref1_MayDist_L2 n n)
noncomputable def pleachref1_MayDist_X1 (n m : Nat) (v1 : List (List Int)) (v2 : Int) : Option ((Bool × Unit) × Unit) :=
 atLoop pleachref1_MayDist_Γ tab (fiB [.val t27] pleachref1_MayDist_fi) n [.val t27] [⟨t4, [false], none⟩] Tryz.f58 [1, 1, 0, 1, 0] [] [0, 3] m
 ⟨[(0, SV.cv (CV.one (LV.pure t27 v1))), (3, SV.cv (CV.one (LV.pure t2 v2)))],
  []⟩
noncomputable def pleachref1_MayDist_X2 (n m : Nat) (v3 : List (List Int)) (v4 : Int) : Option ((Bool × Unit) × Unit) :=
 atLoop pleachref1_MayDist_Γ tab (fiB [.val t27] pleachref1_MayDist_fi) n [.val t27] [⟨t4, [false], none⟩] Tryz.f58 [1, 1, 1, 0, 1, 0] [] [0, 4] m
 ⟨[(0, SV.cv (CV.one (LV.pure t27 v3))), (4, SV.cv (CV.one (LV.pure t2 v4)))],
  []⟩
noncomputable def pleachref1_MayDist_X3 (n m2 m : Nat) (v5 : List (List Int)) (v6 : Int) (v7 : Int) : Option ((Bool × Unit) × Unit) :=
 atLoop pleachref1_MayDist_Γ tab (fiB [.val t27] pleachref1_MayDist_fi) n [.val t27] [⟨t4, [false], none⟩] Tryz.f58 [1, 1, 1, 0, 1, 0, 0, 1, 0, 0, 1, 0] [(m2, [0, 4])] [0, 4, 5] m
 ⟨[(0, SV.cv (CV.one (LV.pure t27 v5))), (4, SV.cv (CV.one (LV.pure t2 v6))), (5, SV.cv (CV.one (LV.pure t2 v7)))],
  []⟩
theorem pleachref1_MayDist_step1 (n m : Nat) (v1 : List (List Int)) (v2 : Int) : pleachref1_MayDist_X1 n (m + 1) v1 v2 = pleachref1_MayDist_B1 (pleachref1_MayDist_X1 n m) (pleachref1_MayDist_X2 n n) v1 v2 := by kernel_rfl
theorem pleachref1_MayDist_step2 (n m : Nat) (v3 : List (List Int)) (v4 : Int) : pleachref1_MayDist_X2 n (m + 1) v3 v4 = pleachref1_MayDist_B2 (pleachref1_MayDist_X3 n m n) v3 v4 := by kernel_rfl
theorem pleachref1_MayDist_step3 (n m2 m : Nat) (v5 : List (List Int)) (v6 : Int) (v7 : Int) : pleachref1_MayDist_X3 n m2 (m + 1) v5 v6 v7 = pleachref1_MayDist_B3 (pleachref1_MayDist_X3 n m2 m) (pleachref1_MayDist_X2 n m2) v5 v6 v7 := by kernel_rfl
theorem pleachref1_MayDist_start (n : Nat) (d_0 : List (List Int)) : evFn pleachref1_MayDist_Γ tab pleachref1_MayDist_fi n [.val t27] [⟨t4, [false], none⟩] Tryz.f58 (d_0, ()) = pleachref1_MayDist_T (pleachref1_MayDist_X1 n n) d_0 := by kernel_rfl
theorem pleachref1_MayDist_XL3 (n : Nat) (m2 : Nat) (r2 : List (List Int) → Int → Option ((Bool × Unit) × Unit)) (h2 : pleachref1_MayDist_X2 n m2 = r2) : ∀ m, pleachref1_MayDist_X3 n m2 m = pleachref1_MayDist_L3 n m2 r2 m
 | 0 => rfl
 | m + 1 => by
  have ih := pleachref1_MayDist_XL3 n m2 r2 h2 m
  funext v5 v6 v7
  rw [pleachref1_MayDist_step3, ih, h2]
  rfl
theorem pleachref1_MayDist_XL2 (n : Nat) : ∀ m, pleachref1_MayDist_X2 n m = pleachref1_MayDist_L2 n m
 | 0 => rfl
 | m + 1 => by
  have ih := pleachref1_MayDist_XL2 n m
  funext v3 v4
  rw [pleachref1_MayDist_step2, pleachref1_MayDist_XL3 n m _ ih n]
  rfl
theorem pleachref1_MayDist_XL1 (n : Nat) : ∀ m, pleachref1_MayDist_X1 n m = pleachref1_MayDist_L1 n m
 | 0 => rfl
 | m + 1 => by
  have ih := pleachref1_MayDist_XL1 n m
  funext v1 v2
  rw [pleachref1_MayDist_step1, pleachref1_MayDist_XL2 n n, ih]
  rfl
noncomputable def pleachref1_MayDist_n (n : Nat) (d_0 : List (List Int)) : Option ((Bool × Unit) × Unit) := pleachref1_MayDist_T (pleachref1_MayDist_L1 n n) d_0
noncomputable def pleachref1_MayDist (d_0 : List (List Int)) : Option ((Bool × Unit) × Unit) := pleachref1_MayDist_n 1099511627776 d_0
theorem pleachref1_MayDist_eq (n : Nat) (d_0 : List (List Int)) : evFn pleachref1_MayDist_Γ tab pleachref1_MayDist_fi n [.val t27] [⟨t4, [false], none⟩] Tryz.f58 (d_0, ()) = pleachref1_MayDist_n n d_0 := by
  rw [pleachref1_MayDist_start, pleachref1_MayDist_XL1 n n]
  rfl
noncomputable def pleachref1_MayDist_e : Ent := ⟨[.val t27], [⟨t4, [false], none⟩], fun x => pleachref1_MayDist x.1⟩
theorem pleachref1_MayDist_good : Good tab.ty Tryz.prog 58 pleachref1_MayDist_e := by
  refine fn_good (Γ := pleachref1_MayDist_Γ) (fi := pleachref1_MayDist_fi) (n := 1099511627776) follows gnil tabok Tryz.func58 (by kernel_rfl) (by kernel_rfl) (fun x r h => ?_)
  obtain ⟨d_0, _u⟩ := x
  exact (pleachref1_MayDist_eq 1099511627776 d_0).trans h
noncomputable def pleachref7_New_Γ : Ctx := [(58, pleachref1_MayDist_e)]
def pleachref7_New_fi : Fi := { keep := [], vty := [], vals := [], live := [(0, [0, 1, 4, 12, 13, 16, 17]), (1, [0, 1, 4, 18]), (2, [4, 5]), (3, [0, 4, 6]), (4, [0, 4, 6, 7]), (5, [0, 4, 6, 7, 25]), (6, [0, 4, 6, 7]), (7, [0, 4, 6, 7]), (8, [4, 5])] }
noncomputable def pleachref7_New_B1 (L1 : List (List Int) → Int → Int → List (List Int) → (List (List ((List Int) × Int))) → Int → List (List Int) → (List (List ((List Int) × Int))) → Option (((Int × (List (List Int)) × List (List ((List Int) × Int))) × Bool × Unit) × Unit)) (v2 : List (List Int)) (v3 : Int) (v4 : Int) (v5 : List (List Int)) (v6 : List (List ((List Int) × Int))) (v7 : Int) (v8 : List (List Int)) (v9 : List (List ((List Int) × Int))) : Option (((Int × (List (List Int)) × List (List ((List Int) × Int))) × Bool × Unit) × Unit) :=
 bif decide (v3 < (v2.length : Int)) then
  bif decide (0 ≤ v3) && decide (v3 < (v2.length : Int)) then
   bif Nat.ble (0 + (List.getD v2 v3.toNat []).length) 1073741824 then
    bif Nat.ble (v8.length + 1) 1073741824 then
     L1 v2 (IntKind.wrap .i64 (v3 + 1)) v4 v5 v6 v7 (v8 ++ [[] ++ (List.getD v2 v3.toNat [])]) v9
    else none
   else none
  else none
 else
  some (((v7, v8, v9), true, ()), ())
noncomputable def pleachref7_New_T (L1 : List (List Int) → Int → Int → List (List Int) → (List (List ((List Int) × Int))) → Int → List (List Int) → (List (List ((List Int) × Int))) → Option (((Int × (List (List Int)) × List (List ((List Int) × Int))) × Bool × Unit) × Unit)) (d_0 : List (List Int)) (k_1 : Int) : Option (((Int × (List (List Int)) × List (List ((List Int) × Int))) × Bool × Unit) × Unit) :=
 Option.bind (pleachref1_MayDist d_0) fun (r1 : (Bool × Unit) × Unit) =>
 bif !r1.1.1 then
  some (((0, [], []), false, ()), ())
 else
 bif decide (k_1 < 1) then
  some (((0, [], []), false, ()), ())
 else
 bif decide (k_1 > 3) then
  some (((0, [], []), false, ()), ())
 else
  L1 d_0 0 0 [] [] k_1 [] []
noncomputable def pleachref7_New_L1 (n : Nat) : Nat → List (List Int) → Int → Int → List (List Int) → (List (List ((List Int) × Int))) → Int → List (List Int) → (List (List ((List Int) × Int))) → Option (((Int × (List (List Int)) × List (List ((List Int) × Int))) × Bool × Unit) × Unit) := iter (fun _ _ _ _ _ _ _ _ => none) fun L => pleachref7_New_B1 L
noncomputable def pleachref7_New_X1 (n m : Nat) (v2 : List (List Int)) (v3 : Int) (v4 : Int) (v5 : List (List Int)) (v6 : List (List ((List Int) × Int))) (v7 : Int) (v8 : List (List Int)) (v9 : List (List ((List Int) × Int))) : Option (((Int × (List (List Int)) × List (List ((List Int) × Int))) × Bool × Unit) × Unit) :=
 atLoop pleachref7_New_Γ tab (fiB [.val t27, .val t2] pleachref7_New_fi) n [.val t27, .val t2] [⟨t29, [false, true, true], none⟩, ⟨t4, [false], none⟩] Tryz.f38 [1, 1, 1, 0, 1, 0] [] [0, 4, 6, 7] m
 ⟨[(0, SV.cv (CV.one (LV.pure t27 v2))), (4, SV.cv (CV.one (LV.ptr (4, 0) 0))), (6, SV.cv (CV.one (LV.ptr (6, 0) 0))), (7, SV.cv (CV.one (LV.pure t2 v3)))],
  [((4, 0), Ob.box 30 [LV.pure t2 v4, LV.ref (4, 2), LV.ref (4, 3)]), ((4, 2), Ob.row 37 t37 v5), ((4, 3), Ob.row 114 t114 v6), ((6, 0), Ob.box 30 [LV.pure t2 v7, LV.ref (6, 2), LV.ref (6, 3)]), ((6, 2), Ob.row 37 t37 v8), ((6, 3), Ob.row 114 t114 v9)]⟩
theorem pleachref7_New_step1 (n m : Nat) (v2 : List (List Int)) (v3 : Int) (v4 : Int) (v5 : List (List Int)) (v6 : List (List ((List Int) × Int))) (v7 : Int) (v8 : List (List Int)) (v9 : List (List ((List Int) × Int))) : pleachref7_New_X1 n (m + 1) v2 v3 v4 v5 v6 v7 v8 v9 = pleachref7_New_B1 (pleachref7_New_X1 n m) v2 v3 v4 v5 v6 v7 v8 v9 := by kernel_rfl
theorem pleachref7_New_start (n : Nat) (d_0 : List (List Int)) (k_1 : Int) : evFn pleachref7_New_Γ tab pleachref7_New_fi n [.val t27, .val t2] [⟨t29, [false, true, true], none⟩, ⟨t4, [false], none⟩] Tryz.f38 (d_0, k_1, ()) = pleachref7_New_T (pleachref7_New_X1 n n) d_0 k_1 := by kernel_rfl
theorem pleachref7_New_XL1 (n : Nat) : ∀ m, pleachref7_New_X1 n m = pleachref7_New_L1 n m
 | 0 => rfl
 | m + 1 => by
  have ih := pleachref7_New_XL1 n m
  funext v2 v3 v4 v5 v6 v7 v8 v9
  rw [pleachref7_New_step1, ih]
  rfl
noncomputable def pleachref7_New_n (n : Nat) (d_0 : List (List Int)) (k_1 : Int) : Option (((Int × (List (List Int)) × List (List ((List Int) × Int))) × Bool × Unit) × Unit) := pleachref7_New_T (pleachref7_New_L1 n n) d_0 k_1
noncomputable def pleachref7_New (d_0 : List (List Int)) (k_1 : Int) : Option (((Int × (List (List Int)) × List (List ((List Int) × Int))) × Bool × Unit) × Unit) := pleachref7_New_n 1099511627776 d_0 k_1
theorem pleachref7_New_eq (n : Nat) (d_0 : List (List Int)) (k_1 : Int) : evFn pleachref7_New_Γ tab pleachref7_New_fi n [.val t27, .val t2] [⟨t29, [false, true, true], none⟩, ⟨t4, [false], none⟩] Tryz.f38 (d_0, k_1, ()) = pleachref7_New_n n d_0 k_1 := by
  rw [pleachref7_New_start, pleachref7_New_XL1 n n]
  rfl
noncomputable def pleachref7_New_e : Ent := ⟨[.val t27, .val t2], [⟨t29, [false, true, true], none⟩, ⟨t4, [false], none⟩], fun x => pleachref7_New x.1 x.2.1⟩
theorem pleachref7_New_good : Good tab.ty Tryz.prog 38 pleachref7_New_e := by
  refine fn_good (Γ := pleachref7_New_Γ) (fi := pleachref7_New_fi) (n := 1099511627776) follows (gcons pleachref1_MayDist_good gnil) tabok Tryz.func38 (by kernel_rfl) (by kernel_rfl) (fun x r h => ?_)
  obtain ⟨d_0, k_1, _u⟩ := x
  exact (pleachref7_New_eq 1099511627776 d_0 k_1).trans h
noncomputable def pleachref1_Has_Γ : Ctx := []
def pleachref1_Has_fi : Fi := { keep := [], vty := [], vals := [], live := [(0, [0, 1]), (1, [0, 1, 5]), (2, [0, 1, 5, 9]), (3, [0, 1, 5]), (4, [0, 1, 5, 17]), (5, [4]), (6, [4])] }
noncomputable def pleachref1_Has_B1 (L1 : List Int → Int → Int → Option ((Bool × Unit) × Unit)) (v1 : List Int) (v2 : Int) (v3 : Int) : Option ((Bool × Unit) × Unit) :=
 bif decide (v3 < (v1.length : Int)) then
  bif decide (0 ≤ v3) && decide (v3 < (v1.length : Int)) then
   bif (List.getD v1 v3.toNat 0) == v2 then
    some ((true, ()), ())
   else
    L1 v1 v2 (IntKind.wrap .i64 (v3 + 1))
  else none
 else
  some ((false, ()), ())
noncomputable def pleachref1_Has_T (L1 : List Int → Int → Int → Option ((Bool × Unit) × Unit)) (p_0 : List Int) (id_1 : Int) : Option ((Bool × Unit) × Unit) :=
 L1 p_0 id_1 0
noncomputable def pleachref1_Has_L1 (n : Nat) : Nat → List Int → Int → Int → Option ((Bool × Unit) × Unit) := iter (fun _ _ _ => none) fun L => pleachref1_Has_B1 L
noncomputable def pleachref1_Has_X1 (n m : Nat) (v1 : List Int) (v2 : Int) (v3 : Int) : Option ((Bool × Unit) × Unit) :=
 atLoop pleachref1_Has_Γ tab (fiB [.val t37, .val t2] pleachref1_Has_fi) n [.val t37, .val t2] [⟨t4, [false], none⟩] Tryz.f80 [1, 0, 1, 0] [] [0, 1, 5] m
 ⟨[(0, SV.cv (CV.one (LV.pure t37 v1))), (1, SV.cv (CV.one (LV.pure t2 v2))), (5, SV.cv (CV.one (LV.pure t2 v3)))],
  []⟩
theorem pleachref1_Has_step1 (n m : Nat) (v1 : List Int) (v2 : Int) (v3 : Int) : pleachref1_Has_X1 n (m + 1) v1 v2 v3 = pleachref1_Has_B1 (pleachref1_Has_X1 n m) v1 v2 v3 := by kernel_rfl
theorem pleachref1_Has_start (n : Nat) (p_0 : List Int) (id_1 : Int) : evFn pleachref1_Has_Γ tab pleachref1_Has_fi n [.val t37, .val t2] [⟨t4, [false], none⟩] Tryz.f80 (p_0, id_1, ()) = pleachref1_Has_T (pleachref1_Has_X1 n n) p_0 id_1 := by kernel_rfl
theorem pleachref1_Has_XL1 (n : Nat) : ∀ m, pleachref1_Has_X1 n m = pleachref1_Has_L1 n m
 | 0 => rfl
 | m + 1 => by
  have ih := pleachref1_Has_XL1 n m
  funext v1 v2 v3
  rw [pleachref1_Has_step1, ih]
  rfl
noncomputable def pleachref1_Has_n (n : Nat) (p_0 : List Int) (id_1 : Int) : Option ((Bool × Unit) × Unit) := pleachref1_Has_T (pleachref1_Has_L1 n n) p_0 id_1
noncomputable def pleachref1_Has (p_0 : List Int) (id_1 : Int) : Option ((Bool × Unit) × Unit) := pleachref1_Has_n 1099511627776 p_0 id_1
theorem pleachref1_Has_eq (n : Nat) (p_0 : List Int) (id_1 : Int) : evFn pleachref1_Has_Γ tab pleachref1_Has_fi n [.val t37, .val t2] [⟨t4, [false], none⟩] Tryz.f80 (p_0, id_1, ()) = pleachref1_Has_n n p_0 id_1 := by
  rw [pleachref1_Has_start, pleachref1_Has_XL1 n n]
  rfl
noncomputable def pleachref1_Has_e : Ent := ⟨[.val t37, .val t2], [⟨t4, [false], none⟩], fun x => pleachref1_Has x.1 x.2.1⟩
theorem pleachref1_Has_good : Good tab.ty Tryz.prog 80 pleachref1_Has_e := by
  refine fn_good (Γ := pleachref1_Has_Γ) (fi := pleachref1_Has_fi) (n := 1099511627776) follows gnil tabok Tryz.func80 (by kernel_rfl) (by kernel_rfl) (fun x r h => ?_)
  obtain ⟨p_0, id_1, _u⟩ := x
  exact (pleachref1_Has_eq 1099511627776 p_0 id_1).trans h
noncomputable def pleachref7_Home_Γ : Ctx := [(80, pleachref1_Has_e)]
def pleachref7_Home_fi : Fi := { keep := [], vty := [], vals := [], live := [(0, [0, 1]), (1, [0, 1, 5]), (2, [0, 1, 5, 9]), (3, [0, 1, 5]), (4, [0, 1, 5, 18]), (5, [4]), (6, [4])] }
noncomputable def pleachref7_Home_B1 (L1 : (List ((List Int) × Int)) → Int → Int → Option ((Int × Unit) × Unit)) (v1 : List ((List Int) × Int)) (v2 : Int) (v3 : Int) : Option ((Int × Unit) × Unit) :=
 bif decide (v3 < (v1.length : Int)) then
  bif decide (0 ≤ v3) && decide (v3 < (v1.length : Int)) then
   Option.bind (pleachref1_Has ((List.getD v1 v3.toNat ([], 0)).1) v2) fun (r4 : (Bool × Unit) × Unit) =>
   bif r4.1.1 then
    some ((v3, ()), ())
   else
    L1 v1 v2 (IntKind.wrap .i64 (v3 + 1))
  else none
 else
  some (((-1), ()), ())
noncomputable def pleachref7_Home_T (L1 : (List ((List Int) × Int)) → Int → Int → Option ((Int × Unit) × Unit)) (cs_0 : List ((List Int) × Int)) (id_1 : Int) : Option ((Int × Unit) × Unit) :=
 L1 cs_0 id_1 0
noncomputable def pleachref7_Home_L1 (n : Nat) : Nat → (List ((List Int) × Int)) → Int → Int → Option ((Int × Unit) × Unit) := iter (fun _ _ _ => none) fun L => pleachref7_Home_B1 L
noncomputable def pleachref7_Home_X1 (n m : Nat) (v1 : List ((List Int) × Int)) (v2 : Int) (v3 : Int) : Option ((Int × Unit) × Unit) :=
 atLoop pleachref7_Home_Γ tab (fiB [.val t114, .val t2] pleachref7_Home_fi) n [.val t114, .val t2] [⟨t2, [false], none⟩] Tryz.f59 [1, 0, 1, 0] [] [0, 1, 5] m
 ⟨[(0, SV.cv (CV.one (LV.pure t114 v1))), (1, SV.cv (CV.one (LV.pure t2 v2))), (5, SV.cv (CV.one (LV.pure t2 v3)))],
  []⟩
theorem pleachref7_Home_step1 (n m : Nat) (v1 : List ((List Int) × Int)) (v2 : Int) (v3 : Int) : pleachref7_Home_X1 n (m + 1) v1 v2 v3 = pleachref7_Home_B1 (pleachref7_Home_X1 n m) v1 v2 v3 := by kernel_rfl
theorem pleachref7_Home_start (n : Nat) (cs_0 : List ((List Int) × Int)) (id_1 : Int) : evFn pleachref7_Home_Γ tab pleachref7_Home_fi n [.val t114, .val t2] [⟨t2, [false], none⟩] Tryz.f59 (cs_0, id_1, ()) = pleachref7_Home_T (pleachref7_Home_X1 n n) cs_0 id_1 := by kernel_rfl
theorem pleachref7_Home_XL1 (n : Nat) : ∀ m, pleachref7_Home_X1 n m = pleachref7_Home_L1 n m
 | 0 => rfl
 | m + 1 => by
  have ih := pleachref7_Home_XL1 n m
  funext v1 v2 v3
  rw [pleachref7_Home_step1, ih]
  rfl
noncomputable def pleachref7_Home_n (n : Nat) (cs_0 : List ((List Int) × Int)) (id_1 : Int) : Option ((Int × Unit) × Unit) := pleachref7_Home_T (pleachref7_Home_L1 n n) cs_0 id_1
noncomputable def pleachref7_Home (cs_0 : List ((List Int) × Int)) (id_1 : Int) : Option ((Int × Unit) × Unit) := pleachref7_Home_n 1099511627776 cs_0 id_1
theorem pleachref7_Home_eq (n : Nat) (cs_0 : List ((List Int) × Int)) (id_1 : Int) : evFn pleachref7_Home_Γ tab pleachref7_Home_fi n [.val t114, .val t2] [⟨t2, [false], none⟩] Tryz.f59 (cs_0, id_1, ()) = pleachref7_Home_n n cs_0 id_1 := by
  rw [pleachref7_Home_start, pleachref7_Home_XL1 n n]
  rfl
noncomputable def pleachref7_Home_e : Ent := ⟨[.val t114, .val t2], [⟨t2, [false], none⟩], fun x => pleachref7_Home x.1 x.2.1⟩
theorem pleachref7_Home_good : Good tab.ty Tryz.prog 59 pleachref7_Home_e := by
  refine fn_good (Γ := pleachref7_Home_Γ) (fi := pleachref7_Home_fi) (n := 1099511627776) follows (gcons pleachref1_Has_good gnil) tabok Tryz.func59 (by kernel_rfl) (by kernel_rfl) (fun x r h => ?_)
  obtain ⟨cs_0, id_1, _u⟩ := x
  exact (pleachref7_Home_eq 1099511627776 cs_0 id_1).trans h
noncomputable def pleachref7_Near_Γ : Ctx := [(80, pleachref1_Has_e)]
def pleachref7_Near_fi : Fi := { keep := [], vty := [], vals := [], live := [(0, [0, 1, 2, 17, 18, 19, 22, 23, 24, 25, 26, 27, 28, 29, 30, 31, 32, 33, 34, 35, 36, 37, 38, 39, 40, 41, 42, 43, 44]), (1, [0, 1, 2, 7, 17, 18, 19, 22, 23, 24, 25, 26, 27, 28, 29, 30, 31, 32, 33, 34, 35, 36, 37, 38, 39, 40, 41, 42, 43, 44]), (2, [0, 1, 2, 7, 8, 17, 18, 19, 22, 23, 24, 25, 26, 27, 28, 29, 30, 31, 32, 33, 34, 35, 36, 37, 38, 39, 40, 41, 42, 43, 44]), (3, [0, 1, 2, 7, 8, 10, 17, 18, 19, 22, 23, 24, 25, 26, 27, 28, 29, 30, 31, 32, 33, 34, 35, 36, 37, 38, 39, 40, 41, 42, 43, 44]), (4, [0, 1, 2, 7, 8, 17, 18, 19, 22, 23, 24, 25, 26, 27, 28, 29, 30, 31, 32, 33, 34, 35, 36, 37, 38, 39, 40, 41, 42, 43, 44]), (5, [0, 1, 2, 7, 8, 17, 18, 19, 22, 23, 24, 25, 26, 27, 28, 29, 30, 31, 32, 33, 34, 35, 36, 37, 38, 39, 40, 41, 42, 43, 44, 45]), (6, [0, 1, 2, 7, 8, 17, 18, 19, 22, 23, 24, 25, 26, 27, 28, 29, 30, 31, 32, 33, 34, 35, 36, 37, 38, 39, 40, 41, 42, 43, 44]), (7, [6])] }
noncomputable def pleachref7_Near_B1 (L1 : List (List Int) → Int → List Int → Int → Int → Option ((Int × Unit) × Unit)) (v1 : List (List Int)) (v2 : Int) (v3 : List Int) (v4 : Int) (v5 : Int) : Option ((Int × Unit) × Unit) :=
 bif decide (v5 ≤ 8) then
  bif v5 != v2 then
   Option.bind (pleachref1_Has v3 v5) fun (r6 : (Bool × Unit) × Unit) =>
   bif r6.1.1 then
    bif v4 == 0 then
     L1 v1 v2 v3 v5 (IntKind.wrap .i64 (v5 + 1))
    else
    bif decide (0 ≤ IntKind.wrap .i64 (v2 - 1)) && decide (IntKind.wrap .i64 (v2 - 1) < (v1.length : Int)) then
     bif decide (0 ≤ IntKind.wrap .i64 (v5 - 1)) && decide (IntKind.wrap .i64 (v5 - 1) < ((List.getD v1 ((IntKind.wrap .i64 (v2 - 1)).toNat) []).length : Int)) then
      bif decide (0 ≤ IntKind.wrap .i64 (v2 - 1)) && decide (IntKind.wrap .i64 (v2 - 1) < (v1.length : Int)) then
       bif decide (0 ≤ IntKind.wrap .i64 (v4 - 1)) && decide (IntKind.wrap .i64 (v4 - 1) < ((List.getD v1 ((IntKind.wrap .i64 (v2 - 1)).toNat) []).length : Int)) then
        bif decide (List.getD (List.getD v1 ((IntKind.wrap .i64 (v2 - 1)).toNat) []) ((IntKind.wrap .i64 (v5 - 1)).toNat) 0 < List.getD (List.getD v1 ((IntKind.wrap .i64 (v2 - 1)).toNat) []) ((IntKind.wrap .i64 (v4 - 1)).toNat) 0) then
         L1 v1 v2 v3 v5 (IntKind.wrap .i64 (v5 + 1))
        else
         L1 v1 v2 v3 v4 (IntKind.wrap .i64 (v5 + 1))
       else none
      else none
     else none
    else none
   else
    L1 v1 v2 v3 v4 (IntKind.wrap .i64 (v5 + 1))
  else
   L1 v1 v2 v3 v4 (IntKind.wrap .i64 (v5 + 1))
 else
  some ((v4, ()), ())
noncomputable def pleachref7_Near_T (L1 : List (List Int) → Int → List Int → Int → Int → Option ((Int × Unit) × Unit)) (d_0 : List (List Int)) (m_1 : Int) (l_2 : List Int) : Option ((Int × Unit) × Unit) :=
 L1 d_0 m_1 l_2 0 1
noncomputable def pleachref7_Near_L1 (n : Nat) : Nat → List (List Int) → Int → List Int → Int → Int → Option ((Int × Unit) × Unit) := iter (fun _ _ _ _ _ => none) fun L => pleachref7_Near_B1 L
noncomputable def pleachref7_Near_X1 (n m : Nat) (v1 : List (List Int)) (v2 : Int) (v3 : List Int) (v4 : Int) (v5 : Int) : Option ((Int × Unit) × Unit) :=
 atLoop pleachref7_Near_Γ tab (fiB [.val t27, .val t2, .val t37] pleachref7_Near_fi) n [.val t27, .val t2, .val t37] [⟨t2, [false], none⟩] Tryz.f60 [1, 1, 0, 1, 0] [] [0, 1, 2, 7, 8] m
 ⟨[(0, SV.cv (CV.one (LV.pure t27 v1))), (1, SV.cv (CV.one (LV.pure t2 v2))), (2, SV.cv (CV.one (LV.pure t37 v3))), (7, SV.cv (CV.one (LV.pure t2 v4))), (8, SV.cv (CV.one (LV.pure t2 v5)))],
  []⟩
theorem pleachref7_Near_step1 (n m : Nat) (v1 : List (List Int)) (v2 : Int) (v3 : List Int) (v4 : Int) (v5 : Int) : pleachref7_Near_X1 n (m + 1) v1 v2 v3 v4 v5 = pleachref7_Near_B1 (pleachref7_Near_X1 n m) v1 v2 v3 v4 v5 := by kernel_rfl
theorem pleachref7_Near_start (n : Nat) (d_0 : List (List Int)) (m_1 : Int) (l_2 : List Int) : evFn pleachref7_Near_Γ tab pleachref7_Near_fi n [.val t27, .val t2, .val t37] [⟨t2, [false], none⟩] Tryz.f60 (d_0, m_1, l_2, ()) = pleachref7_Near_T (pleachref7_Near_X1 n n) d_0 m_1 l_2 := by kernel_rfl
theorem pleachref7_Near_XL1 (n : Nat) : ∀ m, pleachref7_Near_X1 n m = pleachref7_Near_L1 n m
 | 0 => rfl
 | m + 1 => by
  have ih := pleachref7_Near_XL1 n m
  funext v1 v2 v3 v4 v5
  rw [pleachref7_Near_step1, ih]
  rfl
noncomputable def pleachref7_Near_n (n : Nat) (d_0 : List (List Int)) (m_1 : Int) (l_2 : List Int) : Option ((Int × Unit) × Unit) := pleachref7_Near_T (pleachref7_Near_L1 n n) d_0 m_1 l_2
noncomputable def pleachref7_Near (d_0 : List (List Int)) (m_1 : Int) (l_2 : List Int) : Option ((Int × Unit) × Unit) := pleachref7_Near_n 1099511627776 d_0 m_1 l_2
theorem pleachref7_Near_eq (n : Nat) (d_0 : List (List Int)) (m_1 : Int) (l_2 : List Int) : evFn pleachref7_Near_Γ tab pleachref7_Near_fi n [.val t27, .val t2, .val t37] [⟨t2, [false], none⟩] Tryz.f60 (d_0, m_1, l_2, ()) = pleachref7_Near_n n d_0 m_1 l_2 := by
  rw [pleachref7_Near_start, pleachref7_Near_XL1 n n]
  rfl
noncomputable def pleachref7_Near_e : Ent := ⟨[.val t27, .val t2, .val t37], [⟨t2, [false], none⟩], fun x => pleachref7_Near x.1 x.2.1 x.2.2.1⟩
theorem pleachref7_Near_good : Good tab.ty Tryz.prog 60 pleachref7_Near_e := by
  refine fn_good (Γ := pleachref7_Near_Γ) (fi := pleachref7_Near_fi) (n := 1099511627776) follows (gcons pleachref1_Has_good gnil) tabok Tryz.func60 (by kernel_rfl) (by kernel_rfl) (fun x r h => ?_)
  obtain ⟨d_0, m_1, l_2, _u⟩ := x
  exact (pleachref7_Near_eq 1099511627776 d_0 m_1 l_2).trans h
noncomputable def pleachref7_Far_Γ : Ctx := []
def pleachref7_Far_fi : Fi := { keep := [], vty := [], vals := [], live := [(0, [0, 1, 2]), (1, [0, 1, 2, 7]), (2, [0, 1, 2, 7, 8]), (3, [0, 1, 2, 7, 8, 12]), (4, [0, 1, 2, 7, 8]), (5, [0, 1, 2, 7, 8]), (6, [6])] }
noncomputable def pleachref7_Far_B1 (L1 : List (List Int) → Int → List Int → Int → Int → Option ((Int × Unit) × Unit)) (v1 : List (List Int)) (v2 : Int) (v3 : List Int) (v4 : Int) (v5 : Int) : Option ((Int × Unit) × Unit) :=
 bif decide (v5 < (v3.length : Int)) then
  bif decide (0 ≤ IntKind.wrap .i64 (v2 - 1)) && decide (IntKind.wrap .i64 (v2 - 1) < (v1.length : Int)) then
   bif decide (0 ≤ v5) && decide (v5 < (v3.length : Int)) then
    bif decide (0 ≤ IntKind.wrap .i64 ((List.getD v3 v5.toNat 0) - 1)) && decide (IntKind.wrap .i64 ((List.getD v3 v5.toNat 0) - 1) < ((List.getD v1 ((IntKind.wrap .i64 (v2 - 1)).toNat) []).length : Int)) then
     L1 v1 v2 v3 (if List.getD (List.getD v1 ((IntKind.wrap .i64 (v2 - 1)).toNat) []) ((IntKind.wrap .i64 ((List.getD v3 v5.toNat 0) - 1)).toNat) 0 > v4 then List.getD (List.getD v1 ((IntKind.wrap .i64 (v2 - 1)).toNat) []) ((IntKind.wrap .i64 ((List.getD v3 v5.toNat 0) - 1)).toNat) 0 else v4) (IntKind.wrap .i64 (v5 + 1))
    else none
   else none
  else none
 else
  some ((v4, ()), ())
noncomputable def pleachref7_Far_T (L1 : List (List Int) → Int → List Int → Int → Int → Option ((Int × Unit) × Unit)) (d_0 : List (List Int)) (m_1 : Int) (l_2 : List Int) : Option ((Int × Unit) × Unit) :=
 L1 d_0 m_1 l_2 0 0
noncomputable def pleachref7_Far_L1 (n : Nat) : Nat → List (List Int) → Int → List Int → Int → Int → Option ((Int × Unit) × Unit) := iter (fun _ _ _ _ _ => none) fun L => pleachref7_Far_B1 L
noncomputable def pleachref7_Far_X1 (n m : Nat) (v1 : List (List Int)) (v2 : Int) (v3 : List Int) (v4 : Int) (v5 : Int) : Option ((Int × Unit) × Unit) :=
 atLoop pleachref7_Far_Γ tab (fiB [.val t27, .val t2, .val t37] pleachref7_Far_fi) n [.val t27, .val t2, .val t37] [⟨t2, [false], none⟩] Tryz.f135 [1, 1, 0, 1, 0] [] [0, 1, 2, 7, 8] m
 ⟨[(0, SV.cv (CV.one (LV.pure t27 v1))), (1, SV.cv (CV.one (LV.pure t2 v2))), (2, SV.cv (CV.one (LV.pure t37 v3))), (7, SV.cv (CV.one (LV.pure t2 v4))), (8, SV.cv (CV.one (LV.pure t2 v5)))],
  []⟩
theorem pleachref7_Far_step1 (n m : Nat) (v1 : List (List Int)) (v2 : Int) (v3 : List Int) (v4 : Int) (v5 : Int) : pleachref7_Far_X1 n (m + 1) v1 v2 v3 v4 v5 = pleachref7_Far_B1 (pleachref7_Far_X1 n m) v1 v2 v3 v4 v5 := by kernel_rfl
theorem pleachref7_Far_start (n : Nat) (d_0 : List (List Int)) (m_1 : Int) (l_2 : List Int) : evFn pleachref7_Far_Γ tab pleachref7_Far_fi n [.val t27, .val t2, .val t37] [⟨t2, [false], none⟩] Tryz.f135 (d_0, m_1, l_2, ()) = pleachref7_Far_T (pleachref7_Far_X1 n n) d_0 m_1 l_2 := by kernel_rfl
theorem pleachref7_Far_XL1 (n : Nat) : ∀ m, pleachref7_Far_X1 n m = pleachref7_Far_L1 n m
 | 0 => rfl
 | m + 1 => by
  have ih := pleachref7_Far_XL1 n m
  funext v1 v2 v3 v4 v5
  rw [pleachref7_Far_step1, ih]
  rfl
noncomputable def pleachref7_Far_n (n : Nat) (d_0 : List (List Int)) (m_1 : Int) (l_2 : List Int) : Option ((Int × Unit) × Unit) := pleachref7_Far_T (pleachref7_Far_L1 n n) d_0 m_1 l_2
noncomputable def pleachref7_Far (d_0 : List (List Int)) (m_1 : Int) (l_2 : List Int) : Option ((Int × Unit) × Unit) := pleachref7_Far_n 1099511627776 d_0 m_1 l_2
theorem pleachref7_Far_eq (n : Nat) (d_0 : List (List Int)) (m_1 : Int) (l_2 : List Int) : evFn pleachref7_Far_Γ tab pleachref7_Far_fi n [.val t27, .val t2, .val t37] [⟨t2, [false], none⟩] Tryz.f135 (d_0, m_1, l_2, ()) = pleachref7_Far_n n d_0 m_1 l_2 := by
  rw [pleachref7_Far_start, pleachref7_Far_XL1 n n]
  rfl
noncomputable def pleachref7_Far_e : Ent := ⟨[.val t27, .val t2, .val t37], [⟨t2, [false], none⟩], fun x => pleachref7_Far x.1 x.2.1 x.2.2.1⟩
theorem pleachref7_Far_good : Good tab.ty Tryz.prog 135 pleachref7_Far_e := by
  refine fn_good (Γ := pleachref7_Far_Γ) (fi := pleachref7_Far_fi) (n := 1099511627776) follows gnil tabok Tryz.func135 (by kernel_rfl) (by kernel_rfl) (fun x r h => ?_)
  obtain ⟨d_0, m_1, l_2, _u⟩ := x
  exact (pleachref7_Far_eq 1099511627776 d_0 m_1 l_2).trans h
noncomputable def pleachref7_Mid_Γ : Ctx := [(80, pleachref1_Has_e), (135, pleachref7_Far_e)]
def pleachref7_Mid_fi : Fi := { keep := [], vty := [], vals := [], live := [(0, [0, 1, 15, 16, 17, 18, 19, 20, 21, 22, 23, 24, 25, 26, 27]), (1, [0, 1, 5, 15, 16, 17, 18, 19, 20, 21, 22, 23, 24, 25, 26, 27]), (2, [0, 1, 5, 6, 15, 16, 17, 18, 19, 20, 21, 22, 23, 24, 25, 26, 27]), (3, [0, 1, 5, 6, 8, 15, 16, 17, 18, 19, 20, 21, 22, 23, 24, 25, 26, 27]), (4, [0, 1, 5, 6, 15, 16, 17, 18, 19, 20, 21, 22, 23, 24, 25, 26, 27]), (5, [0, 1, 5, 6, 15, 16, 17, 18, 19, 20, 21, 22, 23, 24, 25, 26, 27, 28]), (6, [0, 1, 5, 6, 15, 16, 17, 18, 19, 20, 21, 22, 23, 24, 25, 26, 27]), (7, [4])] }
noncomputable def pleachref7_Mid_B1 (L1 : List (List Int) → List Int → Int → Int → Option ((Int × Unit) × Unit)) (v1 : List (List Int)) (v2 : List Int) (v3 : Int) (v4 : Int) : Option ((Int × Unit) × Unit) :=
 bif decide (v4 ≤ 8) then
  Option.bind (pleachref1_Has v2 v4) fun (r5 : (Bool × Unit) × Unit) =>
  bif r5.1.1 then
   bif v3 == 0 then
    L1 v1 v2 v4 (IntKind.wrap .i64 (v4 + 1))
   else
    Option.bind (pleachref7_Far v1 v4 v2) fun (r6 : (Int × Unit) × Unit) =>
    Option.bind (pleachref7_Far v1 v3 v2) fun (r7 : (Int × Unit) × Unit) =>
    bif decide (r6.1.1 < r7.1.1) then
     L1 v1 v2 v4 (IntKind.wrap .i64 (v4 + 1))
    else
     L1 v1 v2 v3 (IntKind.wrap .i64 (v4 + 1))
  else
   L1 v1 v2 v3 (IntKind.wrap .i64 (v4 + 1))
 else
  some ((v3, ()), ())
noncomputable def pleachref7_Mid_T (L1 : List (List Int) → List Int → Int → Int → Option ((Int × Unit) × Unit)) (d_0 : List (List Int)) (l_1 : List Int) : Option ((Int × Unit) × Unit) :=
 L1 d_0 l_1 0 1
noncomputable def pleachref7_Mid_L1 (n : Nat) : Nat → List (List Int) → List Int → Int → Int → Option ((Int × Unit) × Unit) := iter (fun _ _ _ _ => none) fun L => pleachref7_Mid_B1 L
noncomputable def pleachref7_Mid_X1 (n m : Nat) (v1 : List (List Int)) (v2 : List Int) (v3 : Int) (v4 : Int) : Option ((Int × Unit) × Unit) :=
 atLoop pleachref7_Mid_Γ tab (fiB [.val t27, .val t37] pleachref7_Mid_fi) n [.val t27, .val t37] [⟨t2, [false], none⟩] Tryz.f108 [1, 1, 0, 1, 0] [] [0, 1, 5, 6] m
 ⟨[(0, SV.cv (CV.one (LV.pure t27 v1))), (1, SV.cv (CV.one (LV.pure t37 v2))), (5, SV.cv (CV.one (LV.pure t2 v3))), (6, SV.cv (CV.one (LV.pure t2 v4)))],
  []⟩
theorem pleachref7_Mid_step1 (n m : Nat) (v1 : List (List Int)) (v2 : List Int) (v3 : Int) (v4 : Int) : pleachref7_Mid_X1 n (m + 1) v1 v2 v3 v4 = pleachref7_Mid_B1 (pleachref7_Mid_X1 n m) v1 v2 v3 v4 := by kernel_rfl
theorem pleachref7_Mid_start (n : Nat) (d_0 : List (List Int)) (l_1 : List Int) : evFn pleachref7_Mid_Γ tab pleachref7_Mid_fi n [.val t27, .val t37] [⟨t2, [false], none⟩] Tryz.f108 (d_0, l_1, ()) = pleachref7_Mid_T (pleachref7_Mid_X1 n n) d_0 l_1 := by kernel_rfl
theorem pleachref7_Mid_XL1 (n : Nat) : ∀ m, pleachref7_Mid_X1 n m = pleachref7_Mid_L1 n m
 | 0 => rfl
 | m + 1 => by
  have ih := pleachref7_Mid_XL1 n m
  funext v1 v2 v3 v4
  rw [pleachref7_Mid_step1, ih]
  rfl
noncomputable def pleachref7_Mid_n (n : Nat) (d_0 : List (List Int)) (l_1 : List Int) : Option ((Int × Unit) × Unit) := pleachref7_Mid_T (pleachref7_Mid_L1 n n) d_0 l_1
noncomputable def pleachref7_Mid (d_0 : List (List Int)) (l_1 : List Int) : Option ((Int × Unit) × Unit) := pleachref7_Mid_n 1099511627776 d_0 l_1
theorem pleachref7_Mid_eq (n : Nat) (d_0 : List (List Int)) (l_1 : List Int) : evFn pleachref7_Mid_Γ tab pleachref7_Mid_fi n [.val t27, .val t37] [⟨t2, [false], none⟩] Tryz.f108 (d_0, l_1, ()) = pleachref7_Mid_n n d_0 l_1 := by
  rw [pleachref7_Mid_start, pleachref7_Mid_XL1 n n]
  rfl
noncomputable def pleachref7_Mid_e : Ent := ⟨[.val t27, .val t37], [⟨t2, [false], none⟩], fun x => pleachref7_Mid x.1 x.2.1⟩
theorem pleachref7_Mid_good : Good tab.ty Tryz.prog 108 pleachref7_Mid_e := by
  refine fn_good (Γ := pleachref7_Mid_Γ) (fi := pleachref7_Mid_fi) (n := 1099511627776) follows (gcons pleachref1_Has_good (gcons pleachref7_Far_good gnil)) tabok Tryz.func108 (by kernel_rfl) (by kernel_rfl) (fun x r h => ?_)
  obtain ⟨d_0, l_1, _u⟩ := x
  exact (pleachref7_Mid_eq 1099511627776 d_0 l_1).trans h
noncomputable def pleachref7_Of_Γ : Ctx := [(108, pleachref7_Mid_e)]
def pleachref7_Of_fi : Fi := { keep := [], vty := [], vals := [], live := [(0, [0, 1, 4]), (1, [4])] }
noncomputable def pleachref7_Of (d_0 : List (List Int)) (l_1 : List Int) : Option ((((List Int) × Int) × Unit) × Unit) :=
 bif Nat.ble (0 + l_1.length) 1073741824 then
  Option.bind (pleachref7_Mid d_0 l_1) fun (r1 : (Int × Unit) × Unit) =>
  some ((([] ++ l_1, r1.1.1), ()), ())
 else none
theorem pleachref7_Of_eq (d_0 : List (List Int)) (l_1 : List Int) : evFn pleachref7_Of_Γ tab pleachref7_Of_fi 1 [.val t27, .val t37] [⟨t116, [true, false], none⟩] Tryz.f83 (d_0, l_1, ()) = pleachref7_Of d_0 l_1 := by kernel_rfl
noncomputable def pleachref7_Of_e : Ent := ⟨[.val t27, .val t37], [⟨t116, [true, false], none⟩], fun x => pleachref7_Of x.1 x.2.1⟩
theorem pleachref7_Of_good : Good tab.ty Tryz.prog 83 pleachref7_Of_e := by
  refine fn_good (Γ := pleachref7_Of_Γ) (fi := pleachref7_Of_fi) (n := 1) follows (gcons pleachref7_Mid_good gnil) tabok Tryz.func83 (by kernel_rfl) (by kernel_rfl) (fun x r h => ?_)
  obtain ⟨d_0, l_1, _u⟩ := x
  exact (pleachref7_Of_eq d_0 l_1).trans h
noncomputable def pleachref7_Rising_Γ : Ctx := [(80, pleachref1_Has_e)]
def pleachref7_Rising_fi : Fi := { keep := [], vty := [(3, 37)], vals := [], live := [(0, [0]), (1, [0, 3]), (2, [0, 3, 4]), (3, [0, 3, 4, 6]), (4, [0, 3, 4]), (5, [0, 3, 4, 11]), (6, [0, 3, 4]), (7, [2])] }
noncomputable def pleachref7_Rising_B1 (L1 : List Int → Int → List Int → Option (((List Int) × Unit) × Unit)) (v1 : List Int) (v2 : Int) (v3 : List Int) : Option (((List Int) × Unit) × Unit) :=
 bif decide (v2 ≤ 8) then
  Option.bind (pleachref1_Has v1 v2) fun (r4 : (Bool × Unit) × Unit) =>
  bif r4.1.1 then
   bif Nat.ble (v3.length + 1) 1073741824 then
    L1 v1 (IntKind.wrap .i64 (v2 + 1)) (v3 ++ [v2])
   else none
  else
   L1 v1 (IntKind.wrap .i64 (v2 + 1)) v3
 else
  some ((v3, ()), ())
noncomputable def pleachref7_Rising_T (L1 : List Int → Int → List Int → Option (((List Int) × Unit) × Unit)) (l_0 : List Int) : Option (((List Int) × Unit) × Unit) :=
 L1 l_0 1 []
noncomputable def pleachref7_Rising_L1 (n : Nat) : Nat → List Int → Int → List Int → Option (((List Int) × Unit) × Unit) := iter (fun _ _ _ => none) fun L => pleachref7_Rising_B1 L
noncomputable def pleachref7_Rising_X1 (n m : Nat) (v1 : List Int) (v2 : Int) (v3 : List Int) : Option (((List Int) × Unit) × Unit) :=
 atLoop pleachref7_Rising_Γ tab (fiB [.val t37] pleachref7_Rising_fi) n [.val t37] [⟨t37, [true], none⟩] Tryz.f84 [1, 1, 0, 1, 0] [] [0, 3, 4] m
 ⟨[(0, SV.cv (CV.one (LV.pure t37 v1))), (3, SV.cv (CV.one (LV.ref (888888, 3)))), (4, SV.cv (CV.one (LV.pure t2 v2)))],
  [((888888, 3), Ob.row 3 t2 v3)]⟩
theorem pleachref7_Rising_step1 (n m : Nat) (v1 : List Int) (v2 : Int) (v3 : List Int) : pleachref7_Rising_X1 n (m + 1) v1 v2 v3 = pleachref7_Rising_B1 (pleachref7_Rising_X1 n m) v1 v2 v3 := by kernel_rfl
theorem pleachref7_Rising_start (n : Nat) (l_0 : List Int) : evFn pleachref7_Rising_Γ tab pleachref7_Rising_fi n [.val t37] [⟨t37, [true], none⟩] Tryz.f84 (l_0, ()) = pleachref7_Rising_T (pleachref7_Rising_X1 n n) l_0 := by kernel_rfl
theorem pleachref7_Rising_XL1 (n : Nat) : ∀ m, pleachref7_Rising_X1 n m = pleachref7_Rising_L1 n m
 | 0 => rfl
 | m + 1 => by
  have ih := pleachref7_Rising_XL1 n m
  funext v1 v2 v3
  rw [pleachref7_Rising_step1, ih]
  rfl
noncomputable def pleachref7_Rising_n (n : Nat) (l_0 : List Int) : Option (((List Int) × Unit) × Unit) := pleachref7_Rising_T (pleachref7_Rising_L1 n n) l_0
noncomputable def pleachref7_Rising (l_0 : List Int) : Option (((List Int) × Unit) × Unit) := pleachref7_Rising_n 1099511627776 l_0
theorem pleachref7_Rising_eq (n : Nat) (l_0 : List Int) : evFn pleachref7_Rising_Γ tab pleachref7_Rising_fi n [.val t37] [⟨t37, [true], none⟩] Tryz.f84 (l_0, ()) = pleachref7_Rising_n n l_0 := by
  rw [pleachref7_Rising_start, pleachref7_Rising_XL1 n n]
  rfl
noncomputable def pleachref7_Rising_e : Ent := ⟨[.val t37], [⟨t37, [true], none⟩], fun x => pleachref7_Rising x.1⟩
theorem pleachref7_Rising_good : Good tab.ty Tryz.prog 84 pleachref7_Rising_e := by
  refine fn_good (Γ := pleachref7_Rising_Γ) (fi := pleachref7_Rising_fi) (n := 1099511627776) follows (gcons pleachref1_Has_good gnil) tabok Tryz.func84 (by kernel_rfl) (by kernel_rfl) (fun x r h => ?_)
  obtain ⟨l_0, _u⟩ := x
  exact (pleachref7_Rising_eq 1099511627776 l_0).trans h
noncomputable def pleachref7_without_Γ : Ctx := []
def pleachref7_without_fi : Fi := { keep := [], vty := [(5, 37)], vals := [], live := [(0, [0, 1]), (1, [0, 1, 5]), (2, [0, 1, 5, 6]), (3, [0, 1, 5, 6, 10]), (4, [0, 1, 5, 6]), (5, [0, 1, 5, 6, 18]), (6, [0, 1, 5, 6]), (7, [4])] }
noncomputable def pleachref7_without_B1 (L1 : List Int → Int → Int → List Int → Option (((List Int) × Unit) × Unit)) (v1 : List Int) (v2 : Int) (v3 : Int) (v4 : List Int) : Option (((List Int) × Unit) × Unit) :=
 bif decide (v3 < (v1.length : Int)) then
  bif decide (0 ≤ v3) && decide (v3 < (v1.length : Int)) then
   bif (List.getD v1 v3.toNat 0) != v2 then
    bif decide (0 ≤ v3) && decide (v3 < (v1.length : Int)) then
     bif Nat.ble (v4.length + 1) 1073741824 then
      L1 v1 v2 (IntKind.wrap .i64 (v3 + 1)) (v4 ++ [List.getD v1 v3.toNat 0])
     else none
    else none
   else
    L1 v1 v2 (IntKind.wrap .i64 (v3 + 1)) v4
  else none
 else
  some ((v4, ()), ())
noncomputable def pleachref7_without_T (L1 : List Int → Int → Int → List Int → Option (((List Int) × Unit) × Unit)) (l_0 : List Int) (id_1 : Int) : Option (((List Int) × Unit) × Unit) :=
 L1 l_0 id_1 0 []
noncomputable def pleachref7_without_L1 (n : Nat) : Nat → List Int → Int → Int → List Int → Option (((List Int) × Unit) × Unit) := iter (fun _ _ _ _ => none) fun L => pleachref7_without_B1 L
noncomputable def pleachref7_without_X1 (n m : Nat) (v1 : List Int) (v2 : Int) (v3 : Int) (v4 : List Int) : Option (((List Int) × Unit) × Unit) :=
 atLoop pleachref7_without_Γ tab (fiB [.val t37, .val t2] pleachref7_without_fi) n [.val t37, .val t2] [⟨t37, [true], none⟩] Tryz.f120 [1, 1, 0, 1, 0] [] [0, 1, 5, 6] m
 ⟨[(0, SV.cv (CV.one (LV.pure t37 v1))), (1, SV.cv (CV.one (LV.pure t2 v2))), (5, SV.cv (CV.one (LV.ref (888888, 5)))), (6, SV.cv (CV.one (LV.pure t2 v3)))],
  [((888888, 5), Ob.row 3 t2 v4)]⟩
theorem pleachref7_without_step1 (n m : Nat) (v1 : List Int) (v2 : Int) (v3 : Int) (v4 : List Int) : pleachref7_without_X1 n (m + 1) v1 v2 v3 v4 = pleachref7_without_B1 (pleachref7_without_X1 n m) v1 v2 v3 v4 := by kernel_rfl
theorem pleachref7_without_start (n : Nat) (l_0 : List Int) (id_1 : Int) : evFn pleachref7_without_Γ tab pleachref7_without_fi n [.val t37, .val t2] [⟨t37, [true], none⟩] Tryz.f120 (l_0, id_1, ()) = pleachref7_without_T (pleachref7_without_X1 n n) l_0 id_1 := by kernel_rfl
theorem pleachref7_without_XL1 (n : Nat) : ∀ m, pleachref7_without_X1 n m = pleachref7_without_L1 n m
 | 0 => rfl
 | m + 1 => by
  have ih := pleachref7_without_XL1 n m
  funext v1 v2 v3 v4
  rw [pleachref7_without_step1, ih]
  rfl
noncomputable def pleachref7_without_n (n : Nat) (l_0 : List Int) (id_1 : Int) : Option (((List Int) × Unit) × Unit) := pleachref7_without_T (pleachref7_without_L1 n n) l_0 id_1
noncomputable def pleachref7_without (l_0 : List Int) (id_1 : Int) : Option (((List Int) × Unit) × Unit) := pleachref7_without_n 1099511627776 l_0 id_1
theorem pleachref7_without_eq (n : Nat) (l_0 : List Int) (id_1 : Int) : evFn pleachref7_without_Γ tab pleachref7_without_fi n [.val t37, .val t2] [⟨t37, [true], none⟩] Tryz.f120 (l_0, id_1, ()) = pleachref7_without_n n l_0 id_1 := by
  rw [pleachref7_without_start, pleachref7_without_XL1 n n]
  rfl
noncomputable def pleachref7_without_e : Ent := ⟨[.val t37, .val t2], [⟨t37, [true], none⟩], fun x => pleachref7_without x.1 x.2.1⟩
theorem pleachref7_without_good : Good tab.ty Tryz.prog 120 pleachref7_without_e := by
  refine fn_good (Γ := pleachref7_without_Γ) (fi := pleachref7_without_fi) (n := 1099511627776) follows gnil tabok Tryz.func120 (by kernel_rfl) (by kernel_rfl) (fun x r h => ?_)
  obtain ⟨l_0, id_1, _u⟩ := x
  exact (pleachref7_without_eq 1099511627776 l_0 id_1).trans h
noncomputable def pleachref7_Split_Γ : Ctx := [(60, pleachref7_Near_e), (84, pleachref7_Rising_e), (120, pleachref7_without_e)]
def pleachref7_Split_fi : Fi := { keep := [], vty := [(12, 37), (13, 37)], vals := [], live := [(0, [0, 1, 2, 41, 42, 43, 44, 45, 46, 47, 48, 49, 50, 51, 52, 53, 54, 55, 56, 57, 58, 59, 60, 61, 62, 63, 64, 65, 89, 90, 91, 92, 93, 94, 95, 96, 97, 98, 99, 100, 101, 102, 103, 104, 105, 106, 107, 108, 109, 110, 111, 112, 127, 128, 129, 130, 151, 152, 153, 154]), (1, [0, 1, 2, 20, 41, 42, 43, 44, 45, 46, 47, 48, 49, 50, 51, 52, 53, 54, 55, 56, 57, 58, 59, 60, 61, 62, 63, 64, 65, 89, 90, 91, 92, 93, 94, 95, 96, 97, 98, 99, 100, 101, 102, 103, 104, 105, 106, 107, 108, 109, 110, 111, 112, 127, 128, 129, 130, 151, 152, 153, 154]), (2, [6, 7]), (3, [0, 1, 2, 8, 9, 41, 42, 43, 44, 45, 46, 47, 48, 49, 50, 51, 52, 53, 54, 55, 56, 57, 58, 59, 60, 61, 62, 63, 64, 65, 89, 90, 91, 92, 93, 94, 95, 96, 97, 98, 99, 100, 101, 102, 103, 104, 105, 106, 107, 108, 109, 110, 111, 112, 127, 128, 129, 130, 151, 152, 153, 154]), (4, [0, 1, 2, 8, 9, 10, 41, 42, 43, 44, 45, 46, 47, 48, 49, 50, 51, 52, 53, 54, 55, 56, 57, 58, 59, 60, 61, 62, 63, 64, 65, 89, 90, 91, 92, 93, 94, 95, 96, 97, 98, 99, 100, 101, 102, 103, 104, 105, 106, 107, 108, 109, 110, 111, 112, 127, 128, 129, 130, 151, 152, 153, 154]), (5, [0, 1, 2, 8, 9, 10, 27, 41, 42, 43, 44, 45, 46, 47, 48, 49, 50, 51, 52, 53, 54, 55, 56, 57, 58, 59, 60, 61, 62, 63, 64, 65, 89, 90, 91, 92, 93, 94, 95, 96, 97, 98, 99, 100, 101, 102, 103, 104, 105, 106, 107, 108, 109, 110, 111, 112, 127, 128, 129, 130, 151, 152, 153, 154]), (6, [0, 1, 2, 8, 9, 10, 41, 42, 43, 44, 45, 46, 47, 48, 49, 50, 51, 52, 53, 54, 55, 56, 57, 58, 59, 60, 61, 62, 63, 64, 65, 89, 90, 91, 92, 93, 94, 95, 96, 97, 98, 99, 100, 101, 102, 103, 104, 105, 106, 107, 108, 109, 110, 111, 112, 127, 128, 129, 130, 151, 152, 153, 154]), (7, [0, 1, 2, 8, 9, 10, 11, 41, 42, 43, 44, 45, 46, 47, 48, 49, 50, 51, 52, 53, 54, 55, 56, 57, 58, 59, 60, 61, 62, 63, 64, 65, 89, 90, 91, 92, 93, 94, 95, 96, 97, 98, 99, 100, 101, 102, 103, 104, 105, 106, 107, 108, 109, 110, 111, 112, 127, 128, 129, 130, 151, 152, 153, 154]), (8, [0, 1, 2, 8, 9, 10, 11, 35, 41, 42, 43, 44, 45, 46, 47, 48, 49, 50, 51, 52, 53, 54, 55, 56, 57, 58, 59, 60, 61, 62, 63, 64, 65, 89, 90, 91, 92, 93, 94, 95, 96, 97, 98, 99, 100, 101, 102, 103, 104, 105, 106, 107, 108, 109, 110, 111, 112, 127, 128, 129, 130, 151, 152, 153, 154]), (9, [0, 1, 2, 8, 9, 10, 11, 41, 42, 43, 44, 45, 46, 47, 48, 49, 50, 51, 52, 53, 54, 55, 56, 57, 58, 59, 60, 61, 62, 63, 64, 65, 89, 90, 91, 92, 93, 94, 95, 96, 97, 98, 99, 100, 101, 102, 103, 104, 105, 106, 107, 108, 109, 110, 111, 112, 127, 128, 129, 130, 151, 152, 153, 154]), (10, [0, 1, 2, 8, 9, 10, 11, 41, 42, 43, 44, 45, 46, 47, 48, 49, 50, 51, 52, 53, 54, 55, 56, 57, 58, 59, 60, 61, 62, 63, 64, 65, 66, 89, 90, 91, 92, 93, 94, 95, 96, 97, 98, 99, 100, 101, 102, 103, 104, 105, 106, 107, 108, 109, 110, 111, 112, 127, 128, 129, 130, 151, 152, 153, 154]), (11, [0, 1, 2, 8, 9, 10, 11, 41, 42, 43, 44, 45, 46, 47, 48, 49, 50, 51, 52, 53, 54, 55, 56, 57, 58, 59, 60, 61, 62, 63, 64, 65, 89, 90, 91, 92, 93, 94, 95, 96, 97, 98, 99, 100, 101, 102, 103, 104, 105, 106, 107, 108, 109, 110, 111, 112, 127, 128, 129, 130, 151, 152, 153, 154]), (12, [0, 1, 2, 8, 9, 12, 13, 89, 90, 91, 92, 93, 94, 95, 96, 97, 98, 99, 100, 101, 102, 103, 104, 105, 106, 107, 108, 109, 110, 111, 112, 127, 128, 129, 130, 151, 152, 153, 154]), (13, [0, 1, 2, 8, 9, 12, 13, 14, 89, 90, 91, 92, 93, 94, 95, 96, 97, 98, 99, 100, 101, 102, 103, 104, 105, 106, 107, 108, 109, 110, 111, 112, 127, 128, 129, 130, 151, 152, 153, 154]), (14, [0, 1, 2, 8, 9, 12, 13, 14, 78, 89, 90, 91, 92, 93, 94, 95, 96, 97, 98, 99, 100, 101, 102, 103, 104, 105, 106, 107, 108, 109, 110, 111, 112, 127, 128, 129, 130, 151, 152, 153, 154]), (15, [0, 1, 2, 8, 9, 12, 13, 14, 89, 90, 91, 92, 93, 94, 95, 96, 97, 98, 99, 100, 101, 102, 103, 104, 105, 106, 107, 108, 109, 110, 111, 112, 127, 128, 129, 130, 151, 152, 153, 154]), (16, [0, 1, 2, 8, 9, 12, 13, 14, 15, 89, 90, 91, 92, 93, 94, 95, 96, 97, 98, 99, 100, 101, 102, 103, 104, 105, 106, 107, 108, 109, 110, 111, 112, 127, 128, 129, 130, 151, 152, 153, 154]), (17, [0, 1, 2, 8, 9, 12, 13, 14, 15, 89, 90, 91, 92, 93, 94, 95, 96, 97, 98, 99, 100, 101, 102, 103, 104, 105, 106, 107, 108, 109, 110, 111, 112, 113, 127, 128, 129, 130, 151, 152, 153, 154]), (18, [0, 1, 2, 8, 9, 12, 13, 14, 89, 90, 91, 92, 93, 94, 95, 96, 97, 98, 99, 100, 101, 102, 103, 104, 105, 106, 107, 108, 109, 110, 111, 112, 127, 128, 129, 130, 151, 152, 153, 154]), (19, [0, 1, 2, 8, 9, 12, 13, 14, 89, 90, 91, 92, 93, 94, 95, 96, 97, 98, 99, 100, 101, 102, 103, 104, 105, 106, 107, 108, 109, 110, 111, 112, 127, 128, 129, 130, 151, 152, 153, 154]), (20, [0, 2, 8, 9, 12, 13, 127, 128, 129, 130, 131, 151, 152, 153, 154]), (21, [0, 2, 8, 9, 12, 13, 16, 127, 128, 129, 130, 151, 152, 153, 154]), (22, [0, 2, 8, 9, 12, 13, 127, 128, 129, 130, 151, 152, 153, 154]), (23, [0, 2, 8, 9, 12, 13, 151, 152, 153, 154, 155]), (24, [0, 2, 8, 9, 12, 13, 17, 151, 152, 153, 154]), (25, [0, 2, 8, 9, 12, 13, 151, 152, 153, 154]), (26, [6, 7])] }
noncomputable def pleachref7_Split_B1 (L2 : List (List Int) → List Int → Int → Int → Int → Int → Int → Option (((List Int) × (List Int) × Unit) × Unit)) (L3 : List (List Int) → List Int → Int → Int → Int → Int → List Int → List Int → Option (((List Int) × (List Int) × Unit) × Unit)) (v1 : List (List Int)) (v2 : List Int) (v3 : Int) (v4 : Int) (v5 : Int) (v6 : Int) : Option (((List Int) × (List Int) × Unit) × Unit) :=
 bif decide (v6 < (v2.length : Int)) then
  L2 v1 v2 v3 v4 v5 v6 (IntKind.wrap .i64 (v6 + 1))
 else
  L3 v1 v2 v3 v4 v5 0 [] []
noncomputable def pleachref7_Split_B2 (L2 : List (List Int) → List Int → Int → Int → Int → Int → Int → Option (((List Int) × (List Int) × Unit) × Unit)) (L1 : List (List Int) → List Int → Int → Int → Int → Int → Option (((List Int) × (List Int) × Unit) × Unit)) (v7 : List (List Int)) (v8 : List Int) (v9 : Int) (v10 : Int) (v11 : Int) (v12 : Int) (v13 : Int) : Option (((List Int) × (List Int) × Unit) × Unit) :=
 bif decide (v13 < (v8.length : Int)) then
  bif v10 == 0 then
   bif decide (0 ≤ v12) && decide (v12 < (v8.length : Int)) then
    bif decide (0 ≤ v13) && decide (v13 < (v8.length : Int)) then
     L2 v7 v8 v9 (List.getD v8 v12.toNat 0) (List.getD v8 v13.toNat 0) v12 (IntKind.wrap .i64 (v13 + 1))
    else none
   else none
  else
  bif decide (0 ≤ v12) && decide (v12 < (v8.length : Int)) then
   bif decide (0 ≤ IntKind.wrap .i64 ((List.getD v8 v12.toNat 0) - 1)) && decide (IntKind.wrap .i64 ((List.getD v8 v12.toNat 0) - 1) < (v7.length : Int)) then
    bif decide (0 ≤ v13) && decide (v13 < (v8.length : Int)) then
     bif decide (0 ≤ IntKind.wrap .i64 ((List.getD v8 v13.toNat 0) - 1)) && decide (IntKind.wrap .i64 ((List.getD v8 v13.toNat 0) - 1) < ((List.getD v7 ((IntKind.wrap .i64 ((List.getD v8 v12.toNat 0) - 1)).toNat) []).length : Int)) then
      bif decide (0 ≤ IntKind.wrap .i64 (v10 - 1)) && decide (IntKind.wrap .i64 (v10 - 1) < (v7.length : Int)) then
       bif decide (0 ≤ IntKind.wrap .i64 (v11 - 1)) && decide (IntKind.wrap .i64 (v11 - 1) < ((List.getD v7 ((IntKind.wrap .i64 (v10 - 1)).toNat) []).length : Int)) then
        bif decide (List.getD (List.getD v7 ((IntKind.wrap .i64 ((List.getD v8 v12.toNat 0) - 1)).toNat) []) ((IntKind.wrap .i64 ((List.getD v8 v13.toNat 0) - 1)).toNat) 0 > List.getD (List.getD v7 ((IntKind.wrap .i64 (v10 - 1)).toNat) []) ((IntKind.wrap .i64 (v11 - 1)).toNat) 0) then
         bif decide (0 ≤ v12) && decide (v12 < (v8.length : Int)) then
          bif decide (0 ≤ v13) && decide (v13 < (v8.length : Int)) then
           L2 v7 v8 v9 (List.getD v8 v12.toNat 0) (List.getD v8 v13.toNat 0) v12 (IntKind.wrap .i64 (v13 + 1))
          else none
         else none
        else
         L2 v7 v8 v9 v10 v11 v12 (IntKind.wrap .i64 (v13 + 1))
       else none
      else none
     else none
    else none
   else none
  else none
 else
  L1 v7 v8 v9 v10 v11 (IntKind.wrap .i64 (v12 + 1))
noncomputable def pleachref7_Split_B3 (L3 : List (List Int) → List Int → Int → Int → Int → Int → List Int → List Int → Option (((List Int) × (List Int) × Unit) × Unit)) (L4 : List (List Int) → List Int → Int → Int → Int → Int → Bool → List Int → List Int → Option (((List Int) × (List Int) × Unit) × Unit)) (v14 : List (List Int)) (v15 : List Int) (v16 : Int) (v17 : Int) (v18 : Int) (v19 : Int) (v20 : List Int) (v21 : List Int) : Option (((List Int) × (List Int) × Unit) × Unit) :=
 bif decide (v19 < (v15.length : Int)) then
  bif decide (0 ≤ v19) && decide (v19 < (v15.length : Int)) then
   bif (List.getD v15 v19.toNat 0) != v18 then
    bif (List.getD v15 v19.toNat 0) == v17 then
     bif Nat.ble (v20.length + 1) 1073741824 then
      L3 v14 v15 v16 v17 v18 (IntKind.wrap .i64 (v19 + 1)) (v20 ++ [List.getD v15 v19.toNat 0]) v21
     else none
    else
    bif decide (0 ≤ IntKind.wrap .i64 ((List.getD v15 v19.toNat 0) - 1)) && decide (IntKind.wrap .i64 ((List.getD v15 v19.toNat 0) - 1) < (v14.length : Int)) then
     bif decide (0 ≤ IntKind.wrap .i64 (v17 - 1)) && decide (IntKind.wrap .i64 (v17 - 1) < ((List.getD v14 ((IntKind.wrap .i64 ((List.getD v15 v19.toNat 0) - 1)).toNat) []).length : Int)) then
      bif decide (0 ≤ IntKind.wrap .i64 ((List.getD v15 v19.toNat 0) - 1)) && decide (IntKind.wrap .i64 ((List.getD v15 v19.toNat 0) - 1) < (v14.length : Int)) then
       bif decide (0 ≤ IntKind.wrap .i64 (v18 - 1)) && decide (IntKind.wrap .i64 (v18 - 1) < ((List.getD v14 ((IntKind.wrap .i64 ((List.getD v15 v19.toNat 0) - 1)).toNat) []).length : Int)) then
        bif decide (List.getD (List.getD v14 ((IntKind.wrap .i64 ((List.getD v15 v19.toNat 0) - 1)).toNat) []) ((IntKind.wrap .i64 (v17 - 1)).toNat) 0 ≤ List.getD (List.getD v14 ((IntKind.wrap .i64 ((List.getD v15 v19.toNat 0) - 1)).toNat) []) ((IntKind.wrap .i64 (v18 - 1)).toNat) 0) then
         bif Nat.ble (v20.length + 1) 1073741824 then
          L3 v14 v15 v16 v17 v18 (IntKind.wrap .i64 (v19 + 1)) (v20 ++ [List.getD v15 v19.toNat 0]) v21
         else none
        else
        bif Nat.ble (v21.length + 1) 1073741824 then
         L3 v14 v15 v16 v17 v18 (IntKind.wrap .i64 (v19 + 1)) v20 (v21 ++ [List.getD v15 v19.toNat 0])
        else none
       else none
      else none
     else none
    else none
   else
   bif Nat.ble (v21.length + 1) 1073741824 then
    L3 v14 v15 v16 v17 v18 (IntKind.wrap .i64 (v19 + 1)) v20 (v21 ++ [List.getD v15 v19.toNat 0])
   else none
  else none
 else
  L4 v14 v15 v16 v17 v18 v19 (decide (v19 < (v15.length : Int))) v20 v21
noncomputable def pleachref7_Split_B4 (L5 : List (List Int) → Int → Int → Int → List Int → List Int → Option (((List Int) × (List Int) × Unit) × Unit)) (L6 : List (List Int) → Int → Int → Int → Int → Int → Bool → Bool → List Int → List Int → Option (((List Int) × (List Int) × Unit) × Unit)) (L8 : List (List Int) → Int → Int → Int → Bool → List Int → List Int → Option (((List Int) × (List Int) × Unit) × Unit)) (v22 : List (List Int)) (v23 : List Int) (v24 : Int) (v25 : Int) (v26 : Int) (v27 : Int) (v28 : Bool) (v29 : List Int) (v30 : List Int) : Option (((List Int) × (List Int) × Unit) × Unit) :=
 bif decide ((v29.length : Int) < v24) then
  bif decide ((v30.length : Int) > v24) then
   Option.bind (pleachref7_without v30 v26) fun (r31 : ((List Int) × Unit) × Unit) =>
   Option.bind (pleachref7_Near v22 v25 r31.1.1) fun (r32 : (Int × Unit) × Unit) =>
   bif Nat.ble (v29.length + 1) 1073741824 then
    Option.bind (pleachref7_Rising (v29 ++ [r32.1.1])) fun (r33 : ((List Int) × Unit) × Unit) =>
    Option.bind (pleachref7_without v30 r32.1.1) fun (r34 : ((List Int) × Unit) × Unit) =>
    L5 v22 v24 v25 v26 r33.1.1 r34.1.1
   else none
  else
   L6 v22 v24 v25 v26 (v30.length : Int) v24 (decide ((v30.length : Int) > v24)) (decide ((v30.length : Int) > v24)) v29 v30
 else
  L8 v22 v24 v25 v26 false v29 v30
noncomputable def pleachref7_Split_B5 (L5 : List (List Int) → Int → Int → Int → List Int → List Int → Option (((List Int) × (List Int) × Unit) × Unit)) (L6 : List (List Int) → Int → Int → Int → Int → Int → Bool → Bool → List Int → List Int → Option (((List Int) × (List Int) × Unit) × Unit)) (L8 : List (List Int) → Int → Int → Int → Bool → List Int → List Int → Option (((List Int) × (List Int) × Unit) × Unit)) (v35 : List (List Int)) (v36 : Int) (v37 : Int) (v38 : Int) (v39 : List Int) (v40 : List Int) : Option (((List Int) × (List Int) × Unit) × Unit) :=
 bif decide ((v39.length : Int) < v36) then
  bif decide ((v40.length : Int) > v36) then
   Option.bind (pleachref7_without v40 v38) fun (r41 : ((List Int) × Unit) × Unit) =>
   Option.bind (pleachref7_Near v35 v37 r41.1.1) fun (r42 : (Int × Unit) × Unit) =>
   bif Nat.ble (v39.length + 1) 1073741824 then
    Option.bind (pleachref7_Rising (v39 ++ [r42.1.1])) fun (r43 : ((List Int) × Unit) × Unit) =>
    Option.bind (pleachref7_without v40 r42.1.1) fun (r44 : ((List Int) × Unit) × Unit) =>
    L5 v35 v36 v37 v38 r43.1.1 r44.1.1
   else none
  else
   L6 v35 v36 v37 v38 (v40.length : Int) v36 (decide ((v40.length : Int) > v36)) (decide ((v40.length : Int) > v36)) v39 v40
 else
  L8 v35 v36 v37 v38 false v39 v40
noncomputable def pleachref7_Split_B6 (L7 : List (List Int) → Int → Int → Int → List Int → List Int → Option (((List Int) × (List Int) × Unit) × Unit)) (v45 : List (List Int)) (v46 : Int) (v47 : Int) (v48 : Int) (v49 : Int) (v50 : Int) (v51 : Bool) (v52 : Bool) (v53 : List Int) (v54 : List Int) : Option (((List Int) × (List Int) × Unit) × Unit) :=
 bif decide ((v54.length : Int) < v46) then
  bif decide ((v53.length : Int) > v46) then
   Option.bind (pleachref7_without v53 v47) fun (r55 : ((List Int) × Unit) × Unit) =>
   Option.bind (pleachref7_Near v45 v48 r55.1.1) fun (r56 : (Int × Unit) × Unit) =>
   bif Nat.ble (v54.length + 1) 1073741824 then
    Option.bind (pleachref7_Rising (v54 ++ [r56.1.1])) fun (r57 : ((List Int) × Unit) × Unit) =>
    Option.bind (pleachref7_without v53 r56.1.1) fun (r58 : ((List Int) × Unit) × Unit) =>
    L7 v45 v46 v47 v48 r58.1.1 r57.1.1
   else none
  else
   some ((v53, v54, ()), ())
 else
  some ((v53, v54, ()), ())
noncomputable def pleachref7_Split_B7 (L7 : List (List Int) → Int → Int → Int → List Int → List Int → Option (((List Int) × (List Int) × Unit) × Unit)) (v59 : List (List Int)) (v60 : Int) (v61 : Int) (v62 : Int) (v63 : List Int) (v64 : List Int) : Option (((List Int) × (List Int) × Unit) × Unit) :=
 bif decide ((v64.length : Int) < v60) then
  bif decide ((v63.length : Int) > v60) then
   Option.bind (pleachref7_without v63 v61) fun (r65 : ((List Int) × Unit) × Unit) =>
   Option.bind (pleachref7_Near v59 v62 r65.1.1) fun (r66 : (Int × Unit) × Unit) =>
   bif Nat.ble (v64.length + 1) 1073741824 then
    Option.bind (pleachref7_Rising (v64 ++ [r66.1.1])) fun (r67 : ((List Int) × Unit) × Unit) =>
    Option.bind (pleachref7_without v63 r66.1.1) fun (r68 : ((List Int) × Unit) × Unit) =>
    L7 v59 v60 v61 v62 r68.1.1 r67.1.1
   else none
  else
   some ((v63, v64, ()), ())
 else
  some ((v63, v64, ()), ())
noncomputable def pleachref7_Split_B8 (L9 : List (List Int) → Int → Int → Int → List Int → List Int → Option (((List Int) × (List Int) × Unit) × Unit)) (v69 : List (List Int)) (v70 : Int) (v71 : Int) (v72 : Int) (v73 : Bool) (v74 : List Int) (v75 : List Int) : Option (((List Int) × (List Int) × Unit) × Unit) :=
 bif decide ((v75.length : Int) < v70) then
  bif decide ((v74.length : Int) > v70) then
   Option.bind (pleachref7_without v74 v71) fun (r76 : ((List Int) × Unit) × Unit) =>
   Option.bind (pleachref7_Near v69 v72 r76.1.1) fun (r77 : (Int × Unit) × Unit) =>
   bif Nat.ble (v75.length + 1) 1073741824 then
    Option.bind (pleachref7_Rising (v75 ++ [r77.1.1])) fun (r78 : ((List Int) × Unit) × Unit) =>
    Option.bind (pleachref7_without v74 r77.1.1) fun (r79 : ((List Int) × Unit) × Unit) =>
    L9 v69 v70 v71 v72 r79.1.1 r78.1.1
   else none
  else
   some ((v74, v75, ()), ())
 else
  some ((v74, v75, ()), ())
noncomputable def pleachref7_Split_B9 (L9 : List (List Int) → Int → Int → Int → List Int → List Int → Option (((List Int) × (List Int) × Unit) × Unit)) (v80 : List (List Int)) (v81 : Int) (v82 : Int) (v83 : Int) (v84 : List Int) (v85 : List Int) : Option (((List Int) × (List Int) × Unit) × Unit) :=
 bif decide ((v85.length : Int) < v81) then
  bif decide ((v84.length : Int) > v81) then
   Option.bind (pleachref7_without v84 v82) fun (r86 : ((List Int) × Unit) × Unit) =>
   Option.bind (pleachref7_Near v80 v83 r86.1.1) fun (r87 : (Int × Unit) × Unit) =>
   bif Nat.ble (v85.length + 1) 1073741824 then
    Option.bind (pleachref7_Rising (v85 ++ [r87.1.1])) fun (r88 : ((List Int) × Unit) × Unit) =>
    Option.bind (pleachref7_without v84 r87.1.1) fun (r89 : ((List Int) × Unit) × Unit) =>
    L9 v80 v81 v82 v83 r89.1.1 r88.1.1
   else none
  else
   some ((v84, v85, ()), ())
 else
  some ((v84, v85, ()), ())
noncomputable def pleachref7_Split_T (L1 : List (List Int) → List Int → Int → Int → Int → Int → Option (((List Int) × (List Int) × Unit) × Unit)) (arr_0 : List (List Int)) (x_1 : List Int) (x_2 : Int) : Option (((List Int) × (List Int) × Unit) × Unit) :=
 bif decide ((x_1.length : Int) < 2) then
  bif Nat.ble (0 + x_1.length) 1073741824 then
   some (([] ++ x_1, [], ()), ())
  else none
 else
  L1 arr_0 x_1 x_2 0 0 0
noncomputable def pleachref7_Split_L2 (n : Nat) (m1 : Nat) (r1 : List (List Int) → List Int → Int → Int → Int → Int → Option (((List Int) × (List Int) × Unit) × Unit)) : Nat → List (List Int) → List Int → Int → Int → Int → Int → Int → Option (((List Int) × (List Int) × Unit) × Unit) := iter (fun _ _ _ _ _ _ _ => none) fun L => pleachref7_Split_B2 L r1
noncomputable def pleachref7_Split_L7 (n : Nat) : Nat → List (List Int) → Int → Int → Int → List Int → List Int → Option (((List Int) × (List Int) × Unit) × Unit) := iter (fun _ _ _ _ _ _ => none) fun L => pleachref7_Split_B7 L
noncomputable def pleachref7_Split_L6 (n : Nat) : Nat → List (List Int) → Int → Int → Int → Int → Int → Bool → Bool → List Int → List Int → Option (((List Int) × (List Int) × Unit) × Unit) := iterN (fun _ _ _ _ _ _ _ _ _ _ => none) fun m L => pleachref7_Split_B6 (pleachref7_Split_L7 n m)
noncomputable def pleachref7_Split_L9 (n : Nat) : Nat → List (List Int) → Int → Int → Int → List Int → List Int → Option (((List Int) × (List Int) × Unit) × Unit) := iter (fun _ _ _ _ _ _ => none) fun L => pleachref7_Split_B9 L
noncomputable def pleachref7_Split_L8 (n : Nat) : Nat → List (List Int) → Int → Int → Int → Bool → List Int → List Int → Option (((List Int) × (List Int) × Unit) × Unit) := iterN (fun _ _ _ _ _ _ _ => none) fun m L => pleachref7_Split_B8 (pleachref7_Split_L9 n m)
noncomputable def pleachref7_Split_L5 (n : Nat) : Nat → List (List Int) → Int → Int → Int → List Int → List Int → Option (((List Int) × (List Int) × Unit) × Unit) := iter (fun _ _ _ _ _ _ => none) fun L => pleachref7_Split_B5 L (pleachref7_Split_L6 n n) (pleachref7_Split_L8 n n)
noncomputable def pleachref7_Split_L4 (n : Nat) : Nat → List (List Int) → List Int → Int → Int → Int → Int → Bool → List Int → List Int → Option (((List Int) × (List Int) × Unit) × Unit) := iterN (fun _ _ _ _ _ _ _ _ _ => none) fun m L => pleachref7_Split_B4 (pleachref7_Split_L5 n m) (pleachref7_Split_L6 n n) (pleachref7_Split_L8 n n)
noncomputable def pleachref7_Split_L3 (n : Nat) : Nat → List (List Int) → List Int → Int → Int → Int → Int → List Int → List Int → Option (((List Int) × (List Int) × Unit) × Unit) := iter (fun _ _ _ _ _ _ _ _ => none) fun L => pleachref7_Split_B3 L (pleachref7_Split_L4 n n)
noncomputable def pleachref7_Split_L1 (n : Nat) : Nat → List (List Int) → List Int → Int → Int → Int → Int → Option (((List Int) × (List Int) × Unit) × Unit) := iterN (fun _ _ _ _ _ _ => none) fun m L => pleachref7_Split_B1 (pleachref7_Split_L2 n m L n) (pleachref7_Split_L3 n n)
noncomputable def pleachref7_Split_X1 (n m : Nat) (v1 : List (List Int)) (v2 : List Int) (v3 : Int) (v4 : Int) (v5 : Int) (v6 : Int) : Option (((List Int) × (List Int) × Unit) × Unit) :=
 atLoop pleachref7_Split_Γ tab (fiB [.val t27, .val t37, .val t2] pleachref7_Split_fi) n [.val t27, .val t37, .val t2] [⟨t37, [true], none⟩, ⟨t37, [true], none⟩] Tryz.f109 [1, 1, 1, 0, 1, 0] [] [0, 1, 2, 8, 9, 10] m
 ⟨[(0, SV.cv (CV.one (LV.pure t27 v1))), (1, SV.cv (CV.one (LV.pure t37 v2))), (2, SV.cv (CV.one (LV.pure t2 v3))), (8, SV.cv (CV.one (LV.pure t2 v4))), (9, SV.cv (CV.one (LV.pure t2 v5))), (10, SV.cv (CV.one (LV.pure t2 v6)))],
  []⟩
noncomputable def pleachref7_Split_X2 (n m1 m : Nat) (v7 : List (List Int)) (v8 : List Int) (v9 : Int) (v10 : Int) (v11 : Int) (v12 : Int) (v13 : Int) : Option (((List Int) × (List Int) × Unit) × Unit) :=
 atLoop pleachref7_Split_Γ tab (fiB [.val t27, .val t37, .val t2] pleachref7_Split_fi) n [.val t27, .val t37, .val t2] [⟨t37, [true], none⟩, ⟨t37, [true], none⟩] Tryz.f109 [1, 1, 1, 0, 1, 0, 0, 1, 0, 0, 1, 0] [(m1, [0, 1, 2, 8, 9, 10])] [0, 1, 2, 8, 9, 10, 11] m
 ⟨[(0, SV.cv (CV.one (LV.pure t27 v7))), (1, SV.cv (CV.one (LV.pure t37 v8))), (2, SV.cv (CV.one (LV.pure t2 v9))), (8, SV.cv (CV.one (LV.pure t2 v10))), (9, SV.cv (CV.one (LV.pure t2 v11))), (10, SV.cv (CV.one (LV.pure t2 v12))), (11, SV.cv (CV.one (LV.pure t2 v13)))],
  []⟩
noncomputable def pleachref7_Split_X3 (n m : Nat) (v14 : List (List Int)) (v15 : List Int) (v16 : Int) (v17 : Int) (v18 : Int) (v19 : Int) (v20 : List Int) (v21 : List Int) : Option (((List Int) × (List Int) × Unit) × Unit) :=
 atLoop pleachref7_Split_Γ tab (fiB [.val t27, .val t37, .val t2] pleachref7_Split_fi) n [.val t27, .val t37, .val t2] [⟨t37, [true], none⟩, ⟨t37, [true], none⟩] Tryz.f109 [1, 1, 1, 1, 1, 0, 1, 0] [] [0, 1, 2, 8, 9, 12, 13, 14] m
 ⟨[(0, SV.cv (CV.one (LV.pure t27 v14))), (1, SV.cv (CV.one (LV.pure t37 v15))), (2, SV.cv (CV.one (LV.pure t2 v16))), (8, SV.cv (CV.one (LV.pure t2 v17))), (9, SV.cv (CV.one (LV.pure t2 v18))), (12, SV.cv (CV.one (LV.ref (888888, 12)))), (13, SV.cv (CV.one (LV.ref (888888, 13)))), (14, SV.cv (CV.one (LV.pure t2 v19)))],
  [((888888, 12), Ob.row 3 t2 v20), ((888888, 13), Ob.row 3 t2 v21)]⟩
noncomputable def pleachref7_Split_X4 (n m : Nat) (v22 : List (List Int)) (v23 : List Int) (v24 : Int) (v25 : Int) (v26 : Int) (v27 : Int) (v28 : Bool) (v29 : List Int) (v30 : List Int) : Option (((List Int) × (List Int) × Unit) × Unit) :=
 atLoop pleachref7_Split_Γ tab (fiB [.val t27, .val t37, .val t2] pleachref7_Split_fi) n [.val t27, .val t37, .val t2] [⟨t37, [true], none⟩, ⟨t37, [true], none⟩] Tryz.f109 [1, 1, 1, 1, 1, 1, 0, 0] [] [0, 1, 2, 8, 9, 12, 13, 14, 78] m
 ⟨[(0, SV.cv (CV.one (LV.pure t27 v22))), (1, SV.cv (CV.one (LV.pure t37 v23))), (2, SV.cv (CV.one (LV.pure t2 v24))), (8, SV.cv (CV.one (LV.pure t2 v25))), (9, SV.cv (CV.one (LV.pure t2 v26))), (12, SV.cv (CV.one (LV.ref (888888, 12)))), (13, SV.cv (CV.one (LV.ref (888888, 13)))), (14, SV.cv (CV.one (LV.pure t2 v27))), (78, SV.cv (CV.one (LV.pure t4 v28)))],
  [((888888, 12), Ob.row 3 t2 v29), ((888888, 13), Ob.row 3 t2 v30)]⟩
noncomputable def pleachref7_Split_X5 (n m : Nat) (v35 : List (List Int)) (v36 : Int) (v37 : Int) (v38 : Int) (v39 : List Int) (v40 : List Int) : Option (((List Int) × (List Int) × Unit) × Unit) :=
 atLoop pleachref7_Split_Γ tab (fiB [.val t27, .val t37, .val t2] pleachref7_Split_fi) n [.val t27, .val t37, .val t2] [⟨t37, [true], none⟩, ⟨t37, [true], none⟩] Tryz.f109 [1, 1, 1, 1, 1, 1, 0, 0] [] [0, 1, 2, 8, 9, 12, 13, 14, 78] m
 ⟨[(0, SV.cv (CV.one (LV.pure t27 v35))), (2, SV.cv (CV.one (LV.pure t2 v36))), (8, SV.cv (CV.one (LV.pure t2 v37))), (9, SV.cv (CV.one (LV.pure t2 v38))), (12, SV.cv (CV.one (LV.ref (888888, 12)))), (13, SV.cv (CV.one (LV.ref (888888, 13))))],
  [((888888, 12), Ob.row 3 t2 v39), ((888888, 13), Ob.row 3 t2 v40)]⟩
noncomputable def pleachref7_Split_X6 (n m : Nat) (v45 : List (List Int)) (v46 : Int) (v47 : Int) (v48 : Int) (v49 : Int) (v50 : Int) (v51 : Bool) (v52 : Bool) (v53 : List Int) (v54 : List Int) : Option (((List Int) × (List Int) × Unit) × Unit) :=
 atLoop pleachref7_Split_Γ tab (fiB [.val t27, .val t37, .val t2] pleachref7_Split_fi) n [.val t27, .val t37, .val t2] [⟨t37, [true], none⟩, ⟨t37, [true], none⟩] Tryz.f109 [1, 1, 1, 1, 1, 1, 1, 0, 0] [] [0, 2, 8, 9, 12, 13, 127, 128, 129, 130, 131] m
 ⟨[(0, SV.cv (CV.one (LV.pure t27 v45))), (2, SV.cv (CV.one (LV.pure t2 v46))), (8, SV.cv (CV.one (LV.pure t2 v47))), (9, SV.cv (CV.one (LV.pure t2 v48))), (12, SV.cv (CV.one (LV.ref (888888, 12)))), (13, SV.cv (CV.one (LV.ref (888888, 127)))), (127, SV.cv (CV.one (LV.ref (888888, 127)))), (128, SV.cv (CV.one (LV.pure t2 v49))), (129, SV.cv (CV.one (LV.pure t2 v50))), (130, SV.cv (CV.one (LV.pure t4 v51))), (131, SV.cv (CV.one (LV.pure t4 v52)))],
  [((888888, 12), Ob.row 3 t2 v53), ((888888, 127), Ob.row 3 t2 v54)]⟩
noncomputable def pleachref7_Split_X7 (n m : Nat) (v59 : List (List Int)) (v60 : Int) (v61 : Int) (v62 : Int) (v63 : List Int) (v64 : List Int) : Option (((List Int) × (List Int) × Unit) × Unit) :=
 atLoop pleachref7_Split_Γ tab (fiB [.val t27, .val t37, .val t2] pleachref7_Split_fi) n [.val t27, .val t37, .val t2] [⟨t37, [true], none⟩, ⟨t37, [true], none⟩] Tryz.f109 [1, 1, 1, 1, 1, 1, 1, 0, 0] [] [0, 2, 8, 9, 12, 13, 127, 128, 129, 130, 131] m
 ⟨[(0, SV.cv (CV.one (LV.pure t27 v59))), (2, SV.cv (CV.one (LV.pure t2 v60))), (8, SV.cv (CV.one (LV.pure t2 v61))), (9, SV.cv (CV.one (LV.pure t2 v62))), (12, SV.cv (CV.one (LV.ref (888888, 12)))), (13, SV.cv (CV.one (LV.ref (888888, 13))))],
  [((888888, 12), Ob.row 3 t2 v63), ((888888, 13), Ob.row 3 t2 v64)]⟩
noncomputable def pleachref7_Split_X8 (n m : Nat) (v69 : List (List Int)) (v70 : Int) (v71 : Int) (v72 : Int) (v73 : Bool) (v74 : List Int) (v75 : List Int) : Option (((List Int) × (List Int) × Unit) × Unit) :=
 atLoop pleachref7_Split_Γ tab (fiB [.val t27, .val t37, .val t2] pleachref7_Split_fi) n [.val t27, .val t37, .val t2] [⟨t37, [true], none⟩, ⟨t37, [true], none⟩] Tryz.f109 [1, 1, 1, 1, 1, 1, 1, 0, 0] [] [0, 2, 8, 9, 12, 13, 131] m
 ⟨[(0, SV.cv (CV.one (LV.pure t27 v69))), (2, SV.cv (CV.one (LV.pure t2 v70))), (8, SV.cv (CV.one (LV.pure t2 v71))), (9, SV.cv (CV.one (LV.pure t2 v72))), (12, SV.cv (CV.one (LV.ref (888888, 12)))), (13, SV.cv (CV.one (LV.ref (888888, 13)))), (131, SV.cv (CV.one (LV.pure t4 v73)))],
  [((888888, 12), Ob.row 3 t2 v74), ((888888, 13), Ob.row 3 t2 v75)]⟩
noncomputable def pleachref7_Split_X9 (n m : Nat) (v80 : List (List Int)) (v81 : Int) (v82 : Int) (v83 : Int) (v84 : List Int) (v85 : List Int) : Option (((List Int) × (List Int) × Unit) × Unit) :=
 atLoop pleachref7_Split_Γ tab (fiB [.val t27, .val t37, .val t2] pleachref7_Split_fi) n [.val t27, .val t37, .val t2] [⟨t37, [true], none⟩, ⟨t37, [true], none⟩] Tryz.f109 [1, 1, 1, 1, 1, 1, 1, 0, 0] [] [0, 2, 8, 9, 12, 13, 131] m
 ⟨[(0, SV.cv (CV.one (LV.pure t27 v80))), (2, SV.cv (CV.one (LV.pure t2 v81))), (8, SV.cv (CV.one (LV.pure t2 v82))), (9, SV.cv (CV.one (LV.pure t2 v83))), (12, SV.cv (CV.one (LV.ref (888888, 12)))), (13, SV.cv (CV.one (LV.ref (888888, 13))))],
  [((888888, 12), Ob.row 3 t2 v84), ((888888, 13), Ob.row 3 t2 v85)]⟩
theorem pleachref7_Split_step1 (n m : Nat) (v1 : List (List Int)) (v2 : List Int) (v3 : Int) (v4 : Int) (v5 : Int) (v6 : Int) : pleachref7_Split_X1 n (m + 1) v1 v2 v3 v4 v5 v6 = pleachref7_Split_B1 (pleachref7_Split_X2 n m n) (pleachref7_Split_X3 n n) v1 v2 v3 v4 v5 v6 := by kernel_rfl
theorem pleachref7_Split_step2 (n m1 m : Nat) (v7 : List (List Int)) (v8 : List Int) (v9 : Int) (v10 : Int) (v11 : Int) (v12 : Int) (v13 : Int) : pleachref7_Split_X2 n m1 (m + 1) v7 v8 v9 v10 v11 v12 v13 = pleachref7_Split_B2 (pleachref7_Split_X2 n m1 m) (pleachref7_Split_X1 n m1) v7 v8 v9 v10 v11 v12 v13 := by kernel_rfl
theorem pleachref7_Split_step3 (n m : Nat) (v14 : List (List Int)) (v15 : List Int) (v16 : Int) (v17 : Int) (v18 : Int) (v19 : Int) (v20 : List Int) (v21 : List Int) : pleachref7_Split_X3 n (m + 1) v14 v15 v16 v17 v18 v19 v20 v21 = pleachref7_Split_B3 (pleachref7_Split_X3 n m) (pleachref7_Split_X4 n n) v14 v15 v16 v17 v18 v19 v20 v21 := by kernel_rfl
theorem pleachref7_Split_step4 (n m : Nat) (v22 : List (List Int)) (v23 : List Int) (v24 : Int) (v25 : Int) (v26 : Int) (v27 : Int) (v28 : Bool) (v29 : List Int) (v30 : List Int) : pleachref7_Split_X4 n (m + 1) v22 v23 v24 v25 v26 v27 v28 v29 v30 = pleachref7_Split_B4 (pleachref7_Split_X5 n m) (pleachref7_Split_X6 n n) (pleachref7_Split_X8 n n) v22 v23 v24 v25 v26 v27 v28 v29 v30 := by kernel_rfl
theorem pleachref7_Split_step5 (n m : Nat) (v35 : List (List Int)) (v36 : Int) (v37 : Int) (v38 : Int) (v39 : List Int) (v40 : List Int) : pleachref7_Split_X5 n (m + 1) v35 v36 v37 v38 v39 v40 = pleachref7_Split_B5 (pleachref7_Split_X5 n m) (pleachref7_Split_X6 n n) (pleachref7_Split_X8 n n) v35 v36 v37 v38 v39 v40 := by kernel_rfl
theorem pleachref7_Split_step6 (n m : Nat) (v45 : List (List Int)) (v46 : Int) (v47 : Int) (v48 : Int) (v49 : Int) (v50 : Int) (v51 : Bool) (v52 : Bool) (v53 : List Int) (v54 : List Int) : pleachref7_Split_X6 n (m + 1) v45 v46 v47 v48 v49 v50 v51 v52 v53 v54 = pleachref7_Split_B6 (pleachref7_Split_X7 n m) v45 v46 v47 v48 v49 v50 v51 v52 v53 v54 := by kernel_rfl
theorem pleachref7_Split_step7 (n m : Nat) (v59 : List (List Int)) (v60 : Int) (v61 : Int) (v62 : Int) (v63 : List Int) (v64 : List Int) : pleachref7_Split_X7 n (m + 1) v59 v60 v61 v62 v63 v64 = pleachref7_Split_B7 (pleachref7_Split_X7 n m) v59 v60 v61 v62 v63 v64 := by kernel_rfl
theorem pleachref7_Split_step8 (n m : Nat) (v69 : List (List Int)) (v70 : Int) (v71 : Int) (v72 : Int) (v73 : Bool) (v74 : List Int) (v75 : List Int) : pleachref7_Split_X8 n (m + 1) v69 v70 v71 v72 v73 v74 v75 = pleachref7_Split_B8 (pleachref7_Split_X9 n m) v69 v70 v71 v72 v73 v74 v75 := by kernel_rfl
theorem pleachref7_Split_step9 (n m : Nat) (v80 : List (List Int)) (v81 : Int) (v82 : Int) (v83 : Int) (v84 : List Int) (v85 : List Int) : pleachref7_Split_X9 n (m + 1) v80 v81 v82 v83 v84 v85 = pleachref7_Split_B9 (pleachref7_Split_X9 n m) v80 v81 v82 v83 v84 v85 := by kernel_rfl
theorem pleachref7_Split_start (n : Nat) (arr_0 : List (List Int)) (x_1 : List Int) (x_2 : Int) : evFn pleachref7_Split_Γ tab pleachref7_Split_fi n [.val t27, .val t37, .val t2] [⟨t37, [true], none⟩, ⟨t37, [true], none⟩] Tryz.f109 (arr_0, x_1, x_2, ()) = pleachref7_Split_T (pleachref7_Split_X1 n n) arr_0 x_1 x_2 := by kernel_rfl
theorem pleachref7_Split_XL2 (n : Nat) (m1 : Nat) (r1 : List (List Int) → List Int → Int → Int → Int → Int → Option (((List Int) × (List Int) × Unit) × Unit)) (h1 : pleachref7_Split_X1 n m1 = r1) : ∀ m, pleachref7_Split_X2 n m1 m = pleachref7_Split_L2 n m1 r1 m
 | 0 => rfl
 | m + 1 => by
  have ih := pleachref7_Split_XL2 n m1 r1 h1 m
  funext v7 v8 v9 v10 v11 v12 v13
  rw [pleachref7_Split_step2, ih, h1]
  rfl
theorem pleachref7_Split_XL7 (n : Nat) : ∀ m, pleachref7_Split_X7 n m = pleachref7_Split_L7 n m
 | 0 => rfl
 | m + 1 => by
  have ih := pleachref7_Split_XL7 n m
  funext v59 v60 v61 v62 v63 v64
  rw [pleachref7_Split_step7, ih]
  rfl
theorem pleachref7_Split_XL6 (n : Nat) : ∀ m, pleachref7_Split_X6 n m = pleachref7_Split_L6 n m
 | 0 => rfl
 | m + 1 => by
  have ih := pleachref7_Split_XL6 n m
  funext v45 v46 v47 v48 v49 v50 v51 v52 v53 v54
  rw [pleachref7_Split_step6, pleachref7_Split_XL7 n m]
  rfl
theorem pleachref7_Split_XL9 (n : Nat) : ∀ m, pleachref7_Split_X9 n m = pleachref7_Split_L9 n m
 | 0 => rfl
 | m + 1 => by
  have ih := pleachref7_Split_XL9 n m
  funext v80 v81 v82 v83 v84 v85
  rw [pleachref7_Split_step9, ih]
  rfl
theorem pleachref7_Split_XL8 (n : Nat) : ∀ m, pleachref7_Split_X8 n m = pleachref7_Split_L8 n m
 | 0 => rfl
 | m + 1 => by
  have ih := pleachref7_Split_XL8 n m
  funext v69 v70 v71 v72 v73 v74 v75
  rw [pleachref7_Split_step8, pleachref7_Split_XL9 n m]
  rfl
theorem pleachref7_Split_XL5 (n : Nat) : ∀ m, pleachref7_Split_X5 n m = pleachref7_Split_L5 n m
 | 0 => rfl
 | m + 1 => by
  have ih := pleachref7_Split_XL5 n m
  funext v35 v36 v37 v38 v39 v40
  rw [pleachref7_Split_step5, pleachref7_Split_XL6 n n, pleachref7_Split_XL8 n n, ih]
  rfl
theorem pleachref7_Split_XL4 (n : Nat) : ∀ m, pleachref7_Split_X4 n m = pleachref7_Split_L4 n m
 | 0 => rfl
 | m + 1 => by
  have ih := pleachref7_Split_XL4 n m
  funext v22 v23 v24 v25 v26 v27 v28 v29 v30
  rw [pleachref7_Split_step4, pleachref7_Split_XL5 n m, pleachref7_Split_XL6 n n, pleachref7_Split_XL8 n n]
  rfl
theorem pleachref7_Split_XL3 (n : Nat) : ∀ m, pleachref7_Split_X3 n m = pleachref7_Split_L3 n m
 | 0 => rfl
 | m + 1 => by
  have ih := pleachref7_Split_XL3 n m
  funext v14 v15 v16 v17 v18 v19 v20 v21
  rw [pleachref7_Split_step3, pleachref7_Split_XL4 n n, ih]
  rfl
theorem pleachref7_Split_XL1 (n : Nat) : ∀ m, pleachref7_Split_X1 n m = pleachref7_Split_L1 n m
 | 0 => rfl
 | m + 1 => by
  have ih := pleachref7_Split_XL1 n m
  funext v1 v2 v3 v4 v5 v6
  rw [pleachref7_Split_step1, pleachref7_Split_XL2 n m _ ih n, pleachref7_Split_XL3 n n]
  rfl
noncomputable def pleachref7_Split_n (n : Nat) (arr_0 : List (List Int)) (x_1 : List Int) (x_2 : Int) : Option (((List Int) × (List Int) × Unit) × Unit) := pleachref7_Split_T (pleachref7_Split_L1 n n) arr_0 x_1 x_2
noncomputable def pleachref7_Split (arr_0 : List (List Int)) (x_1 : List Int) (x_2 : Int) : Option (((List Int) × (List Int) × Unit) × Unit) := pleachref7_Split_n 1099511627776 arr_0 x_1 x_2
theorem pleachref7_Split_eq (n : Nat) (arr_0 : List (List Int)) (x_1 : List Int) (x_2 : Int) : evFn pleachref7_Split_Γ tab pleachref7_Split_fi n [.val t27, .val t37, .val t2] [⟨t37, [true], none⟩, ⟨t37, [true], none⟩] Tryz.f109 (arr_0, x_1, x_2, ()) = pleachref7_Split_n n arr_0 x_1 x_2 := by
  rw [pleachref7_Split_start, pleachref7_Split_XL1 n n]
  rfl
noncomputable def pleachref7_Split_e : Ent := ⟨[.val t27, .val t37, .val t2], [⟨t37, [true], none⟩, ⟨t37, [true], none⟩], fun x => pleachref7_Split x.1 x.2.1 x.2.2.1⟩
theorem pleachref7_Split_good : Good tab.ty Tryz.prog 109 pleachref7_Split_e := by
  refine fn_good (Γ := pleachref7_Split_Γ) (fi := pleachref7_Split_fi) (n := 1099511627776) follows (gcons pleachref7_Near_good (gcons pleachref7_Rising_good (gcons pleachref7_without_good gnil))) tabok Tryz.func109 (by kernel_rfl) (by kernel_rfl) (fun x r h => ?_)
  obtain ⟨arr_0, x_1, x_2, _u⟩ := x
  exact (pleachref7_Split_eq 1099511627776 arr_0 x_1 x_2).trans h
noncomputable def pleachref7_parted_Γ : Ctx := [(83, pleachref7_Of_e), (109, pleachref7_Split_e)]
def pleachref7_parted_fi : Fi := { keep := [], vty := [], vals := [], live := [(0, [0, 1, 2, 3]), (1, [0, 1, 2, 9, 10]), (2, [0, 1, 2, 9, 10, 11]), (3, [8])] }
noncomputable def pleachref7_parted (d_0 : List (List Int)) (cs_1 : List ((List Int) × Int)) (i_2 : Int) (k_3 : Int) : Option (((List ((List Int) × Int)) × Unit) × Unit) :=
 bif decide (0 ≤ i_2) && decide (i_2 < (cs_1.length : Int)) then
  Option.bind (pleachref7_Split d_0 ((List.getD cs_1 i_2.toNat ([], 0)).1) k_3) fun (r1 : ((List Int) × (List Int) × Unit) × Unit) =>
  bif decide (0 ≤ i_2) && decide (i_2 ≤ (cs_1.length : Int)) then
   bif Nat.ble (0 + (List.drop 0 (List.take i_2.toNat cs_1)).length) 1073741824 then
    Option.bind (pleachref7_Of d_0 r1.1.1) fun (r2 : (((List Int) × Int) × Unit) × Unit) =>
    Option.bind (pleachref7_Of d_0 r1.1.2.1) fun (r3 : (((List Int) × Int) × Unit) × Unit) =>
    bif Nat.ble (([] ++ (List.drop 0 (List.take i_2.toNat cs_1))).length + 2) 1073741824 then
     bif (decide (0 ≤ IntKind.wrap .i64 (i_2 + 1)) && decide (IntKind.wrap .i64 (i_2 + 1) ≤ (cs_1.length : Int))) && decide ((cs_1.length : Int) ≤ (cs_1.length : Int)) then
      bif Nat.ble ((([] ++ (List.drop 0 (List.take i_2.toNat cs_1))) ++ [r2.1.1, r3.1.1]).length + (List.drop ((IntKind.wrap .i64 (i_2 + 1)).toNat) (List.take ((cs_1.length : Int).toNat) cs_1)).length) 1073741824 then
       some (((([] ++ (List.drop 0 (List.take i_2.toNat cs_1))) ++ [r2.1.1, r3.1.1]) ++ (List.drop ((IntKind.wrap .i64 (i_2 + 1)).toNat) (List.take ((cs_1.length : Int).toNat) cs_1)), ()), ())
      else none
     else none
    else none
   else none
  else none
 else none
theorem pleachref7_parted_eq (d_0 : List (List Int)) (cs_1 : List ((List Int) × Int)) (i_2 : Int) (k_3 : Int) : evFn pleachref7_parted_Γ tab pleachref7_parted_fi 1 [.val t27, .val t114, .val t2, .val t2] [⟨t114, [true], none⟩] Tryz.f85 (d_0, cs_1, i_2, k_3, ()) = pleachref7_parted d_0 cs_1 i_2 k_3 := by kernel_rfl
noncomputable def pleachref7_parted_e : Ent := ⟨[.val t27, .val t114, .val t2, .val t2], [⟨t114, [true], none⟩], fun x => pleachref7_parted x.1 x.2.1 x.2.2.1 x.2.2.2.1⟩
theorem pleachref7_parted_good : Good tab.ty Tryz.prog 85 pleachref7_parted_e := by
  refine fn_good (Γ := pleachref7_parted_Γ) (fi := pleachref7_parted_fi) (n := 1) follows (gcons pleachref7_Of_good (gcons pleachref7_Split_good gnil)) tabok Tryz.func85 (by kernel_rfl) (by kernel_rfl) (fun x r h => ?_)
  obtain ⟨d_0, cs_1, i_2, k_3, _u⟩ := x
  exact (pleachref7_parted_eq d_0 cs_1 i_2 k_3).trans h
noncomputable def pleachref7_JoinClus_Γ : Ctx := [(59, pleachref7_Home_e), (83, pleachref7_Of_e), (84, pleachref7_Rising_e), (85, pleachref7_parted_e)]
def pleachref7_JoinClus_fi : Fi := { keep := [], vty := [], vals := [], live := [(0, [0, 1, 2, 3, 4, 26, 27, 28, 29, 32, 33, 34, 35]), (1, [0, 1, 2, 3, 4, 11, 26, 27, 28, 29, 32, 33, 34, 35]), (2, [0, 1, 2, 3, 4, 11, 17, 26, 27, 28, 29, 32, 33, 34, 35]), (3, [10]), (4, [0, 1, 2, 3, 4, 11, 36]), (5, [10]), (6, [0, 2, 4, 11]), (7, [0, 2, 4, 11, 63]), (8, [10]), (9, [10])] }
noncomputable def pleachref7_JoinClus (d_0 : List (List Int)) (cs_1 : List ((List Int) × Int)) (at_2 : Int) (id_3 : Int) (k_4 : Int) : Option (((List ((List Int) × Int)) × Unit) × Unit) :=
 bif Nat.ble (0 + cs_1.length) 1073741824 then
  bif (cs_1.length : Int) == 0 then
   Option.bind (pleachref7_Of d_0 [id_3]) fun (r1 : (((List Int) × Int) × Unit) × Unit) =>
   some (([r1.1.1], ()), ())
  else
  bif decide (at_2 < 0) then
   some (([] ++ cs_1, ()), ())
  else
  bif decide (at_2 ≥ (cs_1.length : Int)) then
   some (([] ++ cs_1, ()), ())
  else
   Option.bind (pleachref7_Home cs_1 id_3) fun (r2 : (Int × Unit) × Unit) =>
   bif decide (r2.1.1 ≥ 0) then
    some (([] ++ cs_1, ()), ())
   else
   bif decide (0 ≤ at_2) && decide (at_2 < (cs_1.length : Int)) then
    bif Nat.ble (0 + ((List.getD cs_1 at_2.toNat ([], 0)).1).length) 1073741824 then
     bif Nat.ble (([] ++ ((List.getD cs_1 at_2.toNat ([], 0)).1)).length + 1) 1073741824 then
      Option.bind (pleachref7_Rising (([] ++ ((List.getD cs_1 at_2.toNat ([], 0)).1)) ++ [id_3])) fun (r3 : ((List Int) × Unit) × Unit) =>
      Option.bind (pleachref7_Of d_0 r3.1.1) fun (r4 : (((List Int) × Int) × Unit) × Unit) =>
      bif decide (0 ≤ at_2) && decide (at_2 < (([] ++ cs_1).length : Int)) then
       bif decide (0 ≤ at_2) && decide (at_2 < (([] ++ cs_1).length : Int)) then
        bif decide (0 ≤ at_2) && decide (at_2 < ((List.set ([] ++ cs_1) at_2.toNat r4.1.1).length : Int)) then
         bif decide (0 ≤ at_2) && decide (at_2 < ((List.set ([] ++ cs_1) at_2.toNat r4.1.1).length : Int)) then
          bif decide ((((List.getD (List.set ([] ++ cs_1) at_2.toNat r4.1.1) at_2.toNat ([], 0)).1).length : Int) > IntKind.wrap .i64 ((IntKind.wrap .i64 (3 * k_4)) - 1)) then
           Option.bind (pleachref7_parted d_0 (List.set ([] ++ cs_1) at_2.toNat r4.1.1) at_2 k_4) fun (r5 : ((List ((List Int) × Int)) × Unit) × Unit) =>
           some ((r5.1.1, ()), ())
          else
           some ((List.set ([] ++ cs_1) at_2.toNat r4.1.1, ()), ())
         else none
        else none
       else none
      else none
     else none
    else none
   else none
 else none
theorem pleachref7_JoinClus_eq (d_0 : List (List Int)) (cs_1 : List ((List Int) × Int)) (at_2 : Int) (id_3 : Int) (k_4 : Int) : evFn pleachref7_JoinClus_Γ tab pleachref7_JoinClus_fi 1 [.val t27, .val t114, .val t2, .val t2, .val t2] [⟨t114, [true], none⟩] Tryz.f62 (d_0, cs_1, at_2, id_3, k_4, ()) = pleachref7_JoinClus d_0 cs_1 at_2 id_3 k_4 := by kernel_rfl
noncomputable def pleachref7_JoinClus_e : Ent := ⟨[.val t27, .val t114, .val t2, .val t2, .val t2], [⟨t114, [true], none⟩], fun x => pleachref7_JoinClus x.1 x.2.1 x.2.2.1 x.2.2.2.1 x.2.2.2.2.1⟩
theorem pleachref7_JoinClus_good : Good tab.ty Tryz.prog 62 pleachref7_JoinClus_e := by
  refine fn_good (Γ := pleachref7_JoinClus_Γ) (fi := pleachref7_JoinClus_fi) (n := 1) follows (gcons pleachref7_Home_good (gcons pleachref7_Of_good (gcons pleachref7_Rising_good (gcons pleachref7_parted_good gnil)))) tabok Tryz.func62 (by kernel_rfl) (by kernel_rfl) (fun x r h => ?_)
  obtain ⟨d_0, cs_1, at_2, id_3, k_4, _u⟩ := x
  exact (pleachref7_JoinClus_eq d_0 cs_1 at_2 id_3 k_4).trans h
noncomputable def pleachref7_leaders_Γ : Ctx := [(84, pleachref7_Rising_e)]
def pleachref7_leaders_fi : Fi := { keep := [], vty := [(3, 37)], vals := [], live := [(0, [0]), (1, [0, 3]), (2, [0, 3, 4]), (3, [0, 3, 4, 8]), (4, [0, 3, 4]), (5, [0, 3, 4]), (6, [2])] }
noncomputable def pleachref7_leaders_B1 (L1 : (List ((List Int) × Int)) → Int → List Int → Option (((List Int) × Unit) × Unit)) (v1 : List ((List Int) × Int)) (v2 : Int) (v3 : List Int) : Option (((List Int) × Unit) × Unit) :=
 bif decide (v2 < (v1.length : Int)) then
  bif decide (0 ≤ v2) && decide (v2 < (v1.length : Int)) then
   bif Nat.ble (v3.length + 1) 1073741824 then
    L1 v1 (IntKind.wrap .i64 (v2 + 1)) (v3 ++ [(List.getD v1 v2.toNat ([], 0)).2])
   else none
  else none
 else
  Option.bind (pleachref7_Rising v3) fun (r4 : ((List Int) × Unit) × Unit) =>
  some ((r4.1.1, ()), ())
noncomputable def pleachref7_leaders_T (L1 : (List ((List Int) × Int)) → Int → List Int → Option (((List Int) × Unit) × Unit)) (cs_0 : List ((List Int) × Int)) : Option (((List Int) × Unit) × Unit) :=
 L1 cs_0 0 []
noncomputable def pleachref7_leaders_L1 (n : Nat) : Nat → (List ((List Int) × Int)) → Int → List Int → Option (((List Int) × Unit) × Unit) := iter (fun _ _ _ => none) fun L => pleachref7_leaders_B1 L
noncomputable def pleachref7_leaders_X1 (n m : Nat) (v1 : List ((List Int) × Int)) (v2 : Int) (v3 : List Int) : Option (((List Int) × Unit) × Unit) :=
 atLoop pleachref7_leaders_Γ tab (fiB [.val t114] pleachref7_leaders_fi) n [.val t114] [⟨t37, [true], none⟩] Tryz.f82 [1, 1, 0, 1, 0] [] [0, 3, 4] m
 ⟨[(0, SV.cv (CV.one (LV.pure t114 v1))), (3, SV.cv (CV.one (LV.ref (888888, 3)))), (4, SV.cv (CV.one (LV.pure t2 v2)))],
  [((888888, 3), Ob.row 3 t2 v3)]⟩
theorem pleachref7_leaders_step1 (n m : Nat) (v1 : List ((List Int) × Int)) (v2 : Int) (v3 : List Int) : pleachref7_leaders_X1 n (m + 1) v1 v2 v3 = pleachref7_leaders_B1 (pleachref7_leaders_X1 n m) v1 v2 v3 := by kernel_rfl
theorem pleachref7_leaders_start (n : Nat) (cs_0 : List ((List Int) × Int)) : evFn pleachref7_leaders_Γ tab pleachref7_leaders_fi n [.val t114] [⟨t37, [true], none⟩] Tryz.f82 (cs_0, ()) = pleachref7_leaders_T (pleachref7_leaders_X1 n n) cs_0 := by kernel_rfl
theorem pleachref7_leaders_XL1 (n : Nat) : ∀ m, pleachref7_leaders_X1 n m = pleachref7_leaders_L1 n m
 | 0 => rfl
 | m + 1 => by
  have ih := pleachref7_leaders_XL1 n m
  funext v1 v2 v3
  rw [pleachref7_leaders_step1, ih]
  rfl
noncomputable def pleachref7_leaders_n (n : Nat) (cs_0 : List ((List Int) × Int)) : Option (((List Int) × Unit) × Unit) := pleachref7_leaders_T (pleachref7_leaders_L1 n n) cs_0
noncomputable def pleachref7_leaders (cs_0 : List ((List Int) × Int)) : Option (((List Int) × Unit) × Unit) := pleachref7_leaders_n 1099511627776 cs_0
theorem pleachref7_leaders_eq (n : Nat) (cs_0 : List ((List Int) × Int)) : evFn pleachref7_leaders_Γ tab pleachref7_leaders_fi n [.val t114] [⟨t37, [true], none⟩] Tryz.f82 (cs_0, ()) = pleachref7_leaders_n n cs_0 := by
  rw [pleachref7_leaders_start, pleachref7_leaders_XL1 n n]
  rfl
noncomputable def pleachref7_leaders_e : Ent := ⟨[.val t114], [⟨t37, [true], none⟩], fun x => pleachref7_leaders x.1⟩
theorem pleachref7_leaders_good : Good tab.ty Tryz.prog 82 pleachref7_leaders_e := by
  refine fn_good (Γ := pleachref7_leaders_Γ) (fi := pleachref7_leaders_fi) (n := 1099511627776) follows (gcons pleachref7_Rising_good gnil) tabok Tryz.func82 (by kernel_rfl) (by kernel_rfl) (fun x r h => ?_)
  obtain ⟨cs_0, _u⟩ := x
  exact (pleachref7_leaders_eq 1099511627776 cs_0).trans h
noncomputable def pleachref7_Group_Γ : Ctx := [(83, pleachref7_Of_e), (85, pleachref7_parted_e)]
def pleachref7_Group_fi : Fi := { keep := [], vty := [], vals := [], live := [(0, [0, 1, 2]), (1, [0, 1, 2, 11]), (2, [6]), (3, [0, 2, 7]), (4, [0, 2, 7, 8]), (5, [0, 2, 7, 8, 19]), (6, [0, 2, 7, 8]), (7, [0, 2, 7, 8, 31]), (8, [0, 2, 7, 8]), (9, [6])] }
noncomputable def pleachref7_Group_B1 (L2 : List (List Int) → Int → Int → Bool → (List ((List Int) × Int)) → Option (((List ((List Int) × Int)) × Unit) × Unit)) (v2 : List (List Int)) (v3 : Int) (v4 : Int) (v5 : List ((List Int) × Int)) : Option (((List ((List Int) × Int)) × Unit) × Unit) :=
 bif decide (v4 < (v5.length : Int)) then
  L2 v2 v3 v4 (decide (v4 < (v5.length : Int))) v5
 else
  some ((v5, ()), ())
noncomputable def pleachref7_Group_B2 (L3 : List (List Int) → Int → Int → (List ((List Int) × Int)) → Option (((List ((List Int) × Int)) × Unit) × Unit)) (L1 : List (List Int) → Int → Int → (List ((List Int) × Int)) → Option (((List ((List Int) × Int)) × Unit) × Unit)) (v6 : List (List Int)) (v7 : Int) (v8 : Int) (v9 : Bool) (v10 : List ((List Int) × Int)) : Option (((List ((List Int) × Int)) × Unit) × Unit) :=
 bif decide (0 ≤ v8) && decide (v8 < (v10.length : Int)) then
  bif decide (0 ≤ v8) && decide (v8 < (v10.length : Int)) then
   bif decide ((((List.getD v10 v8.toNat ([], 0)).1).length : Int) > IntKind.wrap .i64 ((IntKind.wrap .i64 (3 * v7)) - 1)) then
    Option.bind (pleachref7_parted v6 v10 v8 v7) fun (r11 : ((List ((List Int) × Int)) × Unit) × Unit) =>
    L3 v6 v7 v8 r11.1.1
   else
    L1 v6 v7 (IntKind.wrap .i64 (v8 + 1)) v10
  else none
 else none
noncomputable def pleachref7_Group_B3 (L3 : List (List Int) → Int → Int → (List ((List Int) × Int)) → Option (((List ((List Int) × Int)) × Unit) × Unit)) (L1 : List (List Int) → Int → Int → (List ((List Int) × Int)) → Option (((List ((List Int) × Int)) × Unit) × Unit)) (v12 : List (List Int)) (v13 : Int) (v14 : Int) (v15 : List ((List Int) × Int)) : Option (((List ((List Int) × Int)) × Unit) × Unit) :=
 bif decide (0 ≤ v14) && decide (v14 < (v15.length : Int)) then
  bif decide (0 ≤ v14) && decide (v14 < (v15.length : Int)) then
   bif decide ((((List.getD v15 v14.toNat ([], 0)).1).length : Int) > IntKind.wrap .i64 ((IntKind.wrap .i64 (3 * v13)) - 1)) then
    Option.bind (pleachref7_parted v12 v15 v14 v13) fun (r16 : ((List ((List Int) × Int)) × Unit) × Unit) =>
    L3 v12 v13 v14 r16.1.1
   else
    L1 v12 v13 (IntKind.wrap .i64 (v14 + 1)) v15
  else none
 else none
noncomputable def pleachref7_Group_T (L1 : List (List Int) → Int → Int → (List ((List Int) × Int)) → Option (((List ((List Int) × Int)) × Unit) × Unit)) (d_0 : List (List Int)) (l_1 : List Int) (k_2 : Int) : Option (((List ((List Int) × Int)) × Unit) × Unit) :=
 bif (l_1.length : Int) == 0 then
  some (([], ()), ())
 else
  Option.bind (pleachref7_Of d_0 l_1) fun (r1 : (((List Int) × Int) × Unit) × Unit) =>
  L1 d_0 k_2 0 [r1.1.1]
noncomputable def pleachref7_Group_L3 (n : Nat) (m1 : Nat) (r1 : List (List Int) → Int → Int → (List ((List Int) × Int)) → Option (((List ((List Int) × Int)) × Unit) × Unit)) : Nat → List (List Int) → Int → Int → (List ((List Int) × Int)) → Option (((List ((List Int) × Int)) × Unit) × Unit) := iter (fun _ _ _ _ => none) fun L => pleachref7_Group_B3 L r1
noncomputable def pleachref7_Group_L2 (n : Nat) (m1 : Nat) (r1 : List (List Int) → Int → Int → (List ((List Int) × Int)) → Option (((List ((List Int) × Int)) × Unit) × Unit)) : Nat → List (List Int) → Int → Int → Bool → (List ((List Int) × Int)) → Option (((List ((List Int) × Int)) × Unit) × Unit) := iterN (fun _ _ _ _ _ => none) fun m L => pleachref7_Group_B2 (pleachref7_Group_L3 n m1 r1 m) r1
noncomputable def pleachref7_Group_L1 (n : Nat) : Nat → List (List Int) → Int → Int → (List ((List Int) × Int)) → Option (((List ((List Int) × Int)) × Unit) × Unit) := iterN (fun _ _ _ _ => none) fun m L => pleachref7_Group_B1 (pleachref7_Group_L2 n m L n)
noncomputable def pleachref7_Group_X1 (n m : Nat) (v2 : List (List Int)) (v3 : Int) (v4 : Int) (v5 : List ((List Int) × Int)) : Option (((List ((List Int) × Int)) × Unit) × Unit) :=
 atLoop pleachref7_Group_Γ tab (fiB [.val t27, .val t37, .val t2] pleachref7_Group_fi) n [.val t27, .val t37, .val t2] [⟨t114, [true], none⟩] Tryz.f81 [1, 1, 1, 0, 1, 0] [] [0, 2, 7, 8] m
 ⟨[(0, SV.cv (CV.one (LV.pure t27 v2))), (2, SV.cv (CV.one (LV.pure t2 v3))), (7, SV.cv (CV.one (LV.ref (888888, 7)))), (8, SV.cv (CV.one (LV.pure t2 v4)))],
  [((888888, 7), Ob.row 117 t116 v5)]⟩
noncomputable def pleachref7_Group_X2 (n m1 m : Nat) (v6 : List (List Int)) (v7 : Int) (v8 : Int) (v9 : Bool) (v10 : List ((List Int) × Int)) : Option (((List ((List Int) × Int)) × Unit) × Unit) :=
 atLoop pleachref7_Group_Γ tab (fiB [.val t27, .val t37, .val t2] pleachref7_Group_fi) n [.val t27, .val t37, .val t2] [⟨t114, [true], none⟩] Tryz.f81 [1, 1, 1, 0, 1, 0, 0, 1, 0, 0, 0] [(m1, [0, 2, 7, 8])] [0, 2, 7, 8, 19] m
 ⟨[(0, SV.cv (CV.one (LV.pure t27 v6))), (2, SV.cv (CV.one (LV.pure t2 v7))), (7, SV.cv (CV.one (LV.ref (888888, 7)))), (8, SV.cv (CV.one (LV.pure t2 v8))), (19, SV.cv (CV.one (LV.pure t4 v9)))],
  [((888888, 7), Ob.row 117 t116 v10)]⟩
noncomputable def pleachref7_Group_X3 (n m1 m : Nat) (v12 : List (List Int)) (v13 : Int) (v14 : Int) (v15 : List ((List Int) × Int)) : Option (((List ((List Int) × Int)) × Unit) × Unit) :=
 atLoop pleachref7_Group_Γ tab (fiB [.val t27, .val t37, .val t2] pleachref7_Group_fi) n [.val t27, .val t37, .val t2] [⟨t114, [true], none⟩] Tryz.f81 [1, 1, 1, 0, 1, 0, 0, 1, 0, 0, 0] [(m1, [0, 2, 7, 8])] [0, 2, 7, 8, 19] m
 ⟨[(0, SV.cv (CV.one (LV.pure t27 v12))), (2, SV.cv (CV.one (LV.pure t2 v13))), (7, SV.cv (CV.one (LV.ref (888888, 7)))), (8, SV.cv (CV.one (LV.pure t2 v14)))],
  [((888888, 7), Ob.row 117 t116 v15)]⟩
theorem pleachref7_Group_step1 (n m : Nat) (v2 : List (List Int)) (v3 : Int) (v4 : Int) (v5 : List ((List Int) × Int)) : pleachref7_Group_X1 n (m + 1) v2 v3 v4 v5 = pleachref7_Group_B1 (pleachref7_Group_X2 n m n) v2 v3 v4 v5 := by kernel_rfl
theorem pleachref7_Group_step2 (n m1 m : Nat) (v6 : List (List Int)) (v7 : Int) (v8 : Int) (v9 : Bool) (v10 : List ((List Int) × Int)) : pleachref7_Group_X2 n m1 (m + 1) v6 v7 v8 v9 v10 = pleachref7_Group_B2 (pleachref7_Group_X3 n m1 m) (pleachref7_Group_X1 n m1) v6 v7 v8 v9 v10 := by kernel_rfl
theorem pleachref7_Group_step3 (n m1 m : Nat) (v12 : List (List Int)) (v13 : Int) (v14 : Int) (v15 : List ((List Int) × Int)) : pleachref7_Group_X3 n m1 (m + 1) v12 v13 v14 v15 = pleachref7_Group_B3 (pleachref7_Group_X3 n m1 m) (pleachref7_Group_X1 n m1) v12 v13 v14 v15 := by kernel_rfl
theorem pleachref7_Group_start (n : Nat) (d_0 : List (List Int)) (l_1 : List Int) (k_2 : Int) : evFn pleachref7_Group_Γ tab pleachref7_Group_fi n [.val t27, .val t37, .val t2] [⟨t114, [true], none⟩] Tryz.f81 (d_0, l_1, k_2, ()) = pleachref7_Group_T (pleachref7_Group_X1 n n) d_0 l_1 k_2 := by kernel_rfl
theorem pleachref7_Group_XL3 (n : Nat) (m1 : Nat) (r1 : List (List Int) → Int → Int → (List ((List Int) × Int)) → Option (((List ((List Int) × Int)) × Unit) × Unit)) (h1 : pleachref7_Group_X1 n m1 = r1) : ∀ m, pleachref7_Group_X3 n m1 m = pleachref7_Group_L3 n m1 r1 m
 | 0 => rfl
 | m + 1 => by
  have ih := pleachref7_Group_XL3 n m1 r1 h1 m
  funext v12 v13 v14 v15
  rw [pleachref7_Group_step3, ih, h1]
  rfl
theorem pleachref7_Group_XL2 (n : Nat) (m1 : Nat) (r1 : List (List Int) → Int → Int → (List ((List Int) × Int)) → Option (((List ((List Int) × Int)) × Unit) × Unit)) (h1 : pleachref7_Group_X1 n m1 = r1) : ∀ m, pleachref7_Group_X2 n m1 m = pleachref7_Group_L2 n m1 r1 m
 | 0 => rfl
 | m + 1 => by
  have ih := pleachref7_Group_XL2 n m1 r1 h1 m
  funext v6 v7 v8 v9 v10
  rw [pleachref7_Group_step2, pleachref7_Group_XL3 n m1 r1 h1 m, h1]
  rfl
theorem pleachref7_Group_XL1 (n : Nat) : ∀ m, pleachref7_Group_X1 n m = pleachref7_Group_L1 n m
 | 0 => rfl
 | m + 1 => by
  have ih := pleachref7_Group_XL1 n m
  funext v2 v3 v4 v5
  rw [pleachref7_Group_step1, pleachref7_Group_XL2 n m _ ih n]
  rfl
noncomputable def pleachref7_Group_n (n : Nat) (d_0 : List (List Int)) (l_1 : List Int) (k_2 : Int) : Option (((List ((List Int) × Int)) × Unit) × Unit) := pleachref7_Group_T (pleachref7_Group_L1 n n) d_0 l_1 k_2
noncomputable def pleachref7_Group (d_0 : List (List Int)) (l_1 : List Int) (k_2 : Int) : Option (((List ((List Int) × Int)) × Unit) × Unit) := pleachref7_Group_n 1099511627776 d_0 l_1 k_2
theorem pleachref7_Group_eq (n : Nat) (d_0 : List (List Int)) (l_1 : List Int) (k_2 : Int) : evFn pleachref7_Group_Γ tab pleachref7_Group_fi n [.val t27, .val t37, .val t2] [⟨t114, [true], none⟩] Tryz.f81 (d_0, l_1, k_2, ()) = pleachref7_Group_n n d_0 l_1 k_2 := by
  rw [pleachref7_Group_start, pleachref7_Group_XL1 n n]
  rfl
noncomputable def pleachref7_Group_e : Ent := ⟨[.val t27, .val t37, .val t2], [⟨t114, [true], none⟩], fun x => pleachref7_Group x.1 x.2.1 x.2.2.1⟩
theorem pleachref7_Group_good : Good tab.ty Tryz.prog 81 pleachref7_Group_e := by
  refine fn_good (Γ := pleachref7_Group_Γ) (fi := pleachref7_Group_fi) (n := 1099511627776) follows (gcons pleachref7_Of_good (gcons pleachref7_parted_good gnil)) tabok Tryz.func81 (by kernel_rfl) (by kernel_rfl) (fun x r h => ?_)
  obtain ⟨d_0, l_1, k_2, _u⟩ := x
  exact (pleachref7_Group_eq 1099511627776 d_0 l_1 k_2).trans h
noncomputable def pleachref7_above_Γ : Ctx := [(81, pleachref7_Group_e), (82, pleachref7_leaders_e)]
def pleachref7_above_fi : Fi := { keep := [], vty := [], vals := [], live := [(0, [1, 2, 4]), (1, [1, 2, 4, 5]), (2, [1, 2, 4, 5, 13]), (3, [1, 2, 4, 5]), (4, [1, 2, 4, 5, 22]), (5, [1, 2, 4, 5]), (6, [4])] }
noncomputable def pleachref7_above_B1 (L2 : (List ((List Int) × Int)) → Int → List (List Int) → (List (List ((List Int) × Int))) → Int → List (List Int) → (List (List ((List Int) × Int))) → Int → List (List Int) → (List (List ((List Int) × Int))) → Option (((Int × (List (List Int)) × List (List ((List Int) × Int))) × Unit) × Unit)) (v1 : List ((List Int) × Int)) (v2 : Int) (v3 : List (List Int)) (v4 : List (List ((List Int) × Int))) (v5 : Int) (v6 : List (List Int)) (v7 : List (List ((List Int) × Int))) (v8 : Int) (v9 : List (List Int)) (v10 : List (List ((List Int) × Int))) : Option (((Int × (List (List Int)) × List (List ((List Int) × Int))) × Unit) × Unit) :=
 bif decide ((v1.length : Int) > 0) then
  bif Nat.ble (v10.length + 1) 1073741824 then
   bif (v1.length : Int) == 1 then
    some (((v8, v9, v10 ++ [v1]), ()), ())
   else
    Option.bind (pleachref7_leaders v1) fun (r11 : ((List Int) × Unit) × Unit) =>
    Option.bind (pleachref7_Group v3 r11.1.1 v2) fun (r12 : ((List ((List Int) × Int)) × Unit) × Unit) =>
    L2 r12.1.1 v2 v3 v4 v5 v6 v7 v8 v9 (v10 ++ [v1])
  else none
 else
  some (((v8, v9, v10), ()), ())
noncomputable def pleachref7_above_B2 (L2 : (List ((List Int) × Int)) → Int → List (List Int) → (List (List ((List Int) × Int))) → Int → List (List Int) → (List (List ((List Int) × Int))) → Int → List (List Int) → (List (List ((List Int) × Int))) → Option (((Int × (List (List Int)) × List (List ((List Int) × Int))) × Unit) × Unit)) (v13 : List ((List Int) × Int)) (v14 : Int) (v15 : List (List Int)) (v16 : List (List ((List Int) × Int))) (v17 : Int) (v18 : List (List Int)) (v19 : List (List ((List Int) × Int))) (v20 : Int) (v21 : List (List Int)) (v22 : List (List ((List Int) × Int))) : Option (((Int × (List (List Int)) × List (List ((List Int) × Int))) × Unit) × Unit) :=
 bif decide ((v13.length : Int) > 0) then
  bif Nat.ble (v22.length + 1) 1073741824 then
   bif (v13.length : Int) == 1 then
    some (((v20, v21, v22 ++ [v13]), ()), ())
   else
    Option.bind (pleachref7_leaders v13) fun (r23 : ((List Int) × Unit) × Unit) =>
    Option.bind (pleachref7_Group v15 r23.1.1 v14) fun (r24 : ((List ((List Int) × Int)) × Unit) × Unit) =>
    L2 r24.1.1 v14 v15 v16 v17 v18 v19 v20 v21 (v22 ++ [v13])
  else none
 else
  some (((v20, v21, v22), ()), ())
noncomputable def pleachref7_above_T (L1 : (List ((List Int) × Int)) → Int → List (List Int) → (List (List ((List Int) × Int))) → Int → List (List Int) → (List (List ((List Int) × Int))) → Int → List (List Int) → (List (List ((List Int) × Int))) → Option (((Int × (List (List Int)) × List (List ((List Int) × Int))) × Unit) × Unit)) (h_0 : Int × (List (List Int)) × List (List ((List Int) × Int))) (low_1 : List ((List Int) × Int)) : Option (((Int × (List (List Int)) × List (List ((List Int) × Int))) × Unit) × Unit) :=
 L1 low_1 h_0.1 h_0.2.1 h_0.2.2 0 [] [] h_0.1 h_0.2.1 []
noncomputable def pleachref7_above_L2 (n : Nat) : Nat → (List ((List Int) × Int)) → Int → List (List Int) → (List (List ((List Int) × Int))) → Int → List (List Int) → (List (List ((List Int) × Int))) → Int → List (List Int) → (List (List ((List Int) × Int))) → Option (((Int × (List (List Int)) × List (List ((List Int) × Int))) × Unit) × Unit) := iter (fun _ _ _ _ _ _ _ _ _ _ => none) fun L => pleachref7_above_B2 L
noncomputable def pleachref7_above_L1 (n : Nat) : Nat → (List ((List Int) × Int)) → Int → List (List Int) → (List (List ((List Int) × Int))) → Int → List (List Int) → (List (List ((List Int) × Int))) → Int → List (List Int) → (List (List ((List Int) × Int))) → Option (((Int × (List (List Int)) × List (List ((List Int) × Int))) × Unit) × Unit) := iterN (fun _ _ _ _ _ _ _ _ _ _ => none) fun m L => pleachref7_above_B1 (pleachref7_above_L2 n m)
noncomputable def pleachref7_above_X1 (n m : Nat) (v1 : List ((List Int) × Int)) (v2 : Int) (v3 : List (List Int)) (v4 : List (List ((List Int) × Int))) (v5 : Int) (v6 : List (List Int)) (v7 : List (List ((List Int) × Int))) (v8 : Int) (v9 : List (List Int)) (v10 : List (List ((List Int) × Int))) : Option (((Int × (List (List Int)) × List (List ((List Int) × Int))) × Unit) × Unit) :=
 atLoop pleachref7_above_Γ tab (fiB [.val t29, .val t114] pleachref7_above_fi) n [.val t29, .val t114] [⟨t29, [false, false, true], none⟩] Tryz.f61 [1, 1, 0, 0] [] [1, 2, 4, 5] m
 ⟨[(1, SV.cv (CV.one (LV.pure t114 v1))), (2, SV.cv (CV.one (LV.ptr (2, 0) 0))), (4, SV.cv (CV.one (LV.ptr (4, 0) 0))), (5, SV.cv (CV.one (LV.ptr (5, 0) 0)))],
  [((2, 0), Ob.box 30 [LV.pure t2 v2, LV.pure t27 v3, LV.pure t28 v4]), ((4, 0), Ob.box 30 [LV.pure t2 v5, LV.ref (4, 2), LV.ref (4, 3)]), ((4, 2), Ob.row 37 t37 v6), ((4, 3), Ob.row 114 t114 v7), ((5, 0), Ob.box 30 [LV.pure t2 v8, LV.pure t27 v9, LV.ref (5, 3)]), ((5, 3), Ob.row 114 t114 v10)]⟩
noncomputable def pleachref7_above_X2 (n m : Nat) (v13 : List ((List Int) × Int)) (v14 : Int) (v15 : List (List Int)) (v16 : List (List ((List Int) × Int))) (v17 : Int) (v18 : List (List Int)) (v19 : List (List ((List Int) × Int))) (v20 : Int) (v21 : List (List Int)) (v22 : List (List ((List Int) × Int))) : Option (((Int × (List (List Int)) × List (List ((List Int) × Int))) × Unit) × Unit) :=
 atLoop pleachref7_above_Γ tab (fiB [.val t29, .val t114] pleachref7_above_fi) n [.val t29, .val t114] [⟨t29, [false, false, true], none⟩] Tryz.f61 [1, 1, 0, 0] [] [1, 2, 4, 5] m
 ⟨[(1, SV.cv (CV.one (LV.ref (888888, 1)))), (2, SV.cv (CV.one (LV.ptr (2, 0) 0))), (4, SV.cv (CV.one (LV.ptr (4, 0) 0))), (5, SV.cv (CV.one (LV.ptr (5, 0) 0)))],
  [((888888, 1), Ob.row 117 t116 v13), ((2, 0), Ob.box 30 [LV.pure t2 v14, LV.pure t27 v15, LV.pure t28 v16]), ((4, 0), Ob.box 30 [LV.pure t2 v17, LV.ref (4, 2), LV.ref (4, 3)]), ((4, 2), Ob.row 37 t37 v18), ((4, 3), Ob.row 114 t114 v19), ((5, 0), Ob.box 30 [LV.pure t2 v20, LV.pure t27 v21, LV.ref (5, 3)]), ((5, 3), Ob.row 114 t114 v22)]⟩
theorem pleachref7_above_step1 (n m : Nat) (v1 : List ((List Int) × Int)) (v2 : Int) (v3 : List (List Int)) (v4 : List (List ((List Int) × Int))) (v5 : Int) (v6 : List (List Int)) (v7 : List (List ((List Int) × Int))) (v8 : Int) (v9 : List (List Int)) (v10 : List (List ((List Int) × Int))) : pleachref7_above_X1 n (m + 1) v1 v2 v3 v4 v5 v6 v7 v8 v9 v10 = pleachref7_above_B1 (pleachref7_above_X2 n m) v1 v2 v3 v4 v5 v6 v7 v8 v9 v10 := by kernel_rfl
theorem pleachref7_above_step2 (n m : Nat) (v13 : List ((List Int) × Int)) (v14 : Int) (v15 : List (List Int)) (v16 : List (List ((List Int) × Int))) (v17 : Int) (v18 : List (List Int)) (v19 : List (List ((List Int) × Int))) (v20 : Int) (v21 : List (List Int)) (v22 : List (List ((List Int) × Int))) : pleachref7_above_X2 n (m + 1) v13 v14 v15 v16 v17 v18 v19 v20 v21 v22 = pleachref7_above_B2 (pleachref7_above_X2 n m) v13 v14 v15 v16 v17 v18 v19 v20 v21 v22 := by kernel_rfl
theorem pleachref7_above_start (n : Nat) (h_0 : Int × (List (List Int)) × List (List ((List Int) × Int))) (low_1 : List ((List Int) × Int)) : evFn pleachref7_above_Γ tab pleachref7_above_fi n [.val t29, .val t114] [⟨t29, [false, false, true], none⟩] Tryz.f61 (h_0, low_1, ()) = pleachref7_above_T (pleachref7_above_X1 n n) h_0 low_1 := by kernel_rfl
theorem pleachref7_above_XL2 (n : Nat) : ∀ m, pleachref7_above_X2 n m = pleachref7_above_L2 n m
 | 0 => rfl
 | m + 1 => by
  have ih := pleachref7_above_XL2 n m
  funext v13 v14 v15 v16 v17 v18 v19 v20 v21 v22
  rw [pleachref7_above_step2, ih]
  rfl
theorem pleachref7_above_XL1 (n : Nat) : ∀ m, pleachref7_above_X1 n m = pleachref7_above_L1 n m
 | 0 => rfl
 | m + 1 => by
  have ih := pleachref7_above_XL1 n m
  funext v1 v2 v3 v4 v5 v6 v7 v8 v9 v10
  rw [pleachref7_above_step1, pleachref7_above_XL2 n m]
  rfl
noncomputable def pleachref7_above_n (n : Nat) (h_0 : Int × (List (List Int)) × List (List ((List Int) × Int))) (low_1 : List ((List Int) × Int)) : Option (((Int × (List (List Int)) × List (List ((List Int) × Int))) × Unit) × Unit) := pleachref7_above_T (pleachref7_above_L1 n n) h_0 low_1
noncomputable def pleachref7_above (h_0 : Int × (List (List Int)) × List (List ((List Int) × Int))) (low_1 : List ((List Int) × Int)) : Option (((Int × (List (List Int)) × List (List ((List Int) × Int))) × Unit) × Unit) := pleachref7_above_n 1099511627776 h_0 low_1
theorem pleachref7_above_eq (n : Nat) (h_0 : Int × (List (List Int)) × List (List ((List Int) × Int))) (low_1 : List ((List Int) × Int)) : evFn pleachref7_above_Γ tab pleachref7_above_fi n [.val t29, .val t114] [⟨t29, [false, false, true], none⟩] Tryz.f61 (h_0, low_1, ()) = pleachref7_above_n n h_0 low_1 := by
  rw [pleachref7_above_start, pleachref7_above_XL1 n n]
  rfl
noncomputable def pleachref7_above_e : Ent := ⟨[.val t29, .val t114], [⟨t29, [false, false, true], none⟩], fun x => pleachref7_above x.1 x.2.1⟩
theorem pleachref7_above_good : Good tab.ty Tryz.prog 61 pleachref7_above_e := by
  refine fn_good (Γ := pleachref7_above_Γ) (fi := pleachref7_above_fi) (n := 1099511627776) follows (gcons pleachref7_Group_good (gcons pleachref7_leaders_good gnil)) tabok Tryz.func61 (by kernel_rfl) (by kernel_rfl) (fun x r h => ?_)
  obtain ⟨h_0, low_1, _u⟩ := x
  exact (pleachref7_above_eq 1099511627776 h_0 low_1).trans h
noncomputable def pleachref7_Join_Γ : Ctx := [(58, pleachref1_MayDist_e), (59, pleachref7_Home_e), (60, pleachref7_Near_e), (61, pleachref7_above_e), (62, pleachref7_JoinClus_e)]
def pleachref7_Join_fi : Fi := { keep := [], vty := [], vals := [], live := [(0, [1, 2, 4, 14, 15, 18, 19, 22, 23, 24, 25, 26, 27, 28, 29, 30, 31, 32, 33, 34]), (1, [1, 2, 4, 35]), (2, [4]), (3, [1, 2, 4, 5]), (4, [1, 2, 4, 5, 6]), (5, [1, 2, 4, 5, 6, 42]), (6, [1, 2, 4, 5, 6]), (7, [1, 2, 4, 6, 7]), (8, [1, 2, 4, 5, 6]), (9, [1, 2, 4, 5, 8]), (10, [1, 2, 4, 5, 8, 69]), (11, [1, 2, 4, 5, 8]), (12, [4])] }
noncomputable def pleachref7_Join_B1 (L1 : Int → Int → Int → Int → List (List Int) → (List (List ((List Int) × Int))) → Int → List (List Int) → (List (List ((List Int) × Int))) → Option (((Int × (List (List Int)) × List (List ((List Int) × Int))) × Unit) × Unit)) (v3 : Int) (v4 : Int) (v5 : Int) (v6 : Int) (v7 : List (List Int)) (v8 : List (List ((List Int) × Int))) (v9 : Int) (v10 : List (List Int)) (v11 : List (List ((List Int) × Int))) : Option (((Int × (List (List Int)) × List (List ((List Int) × Int))) × Unit) × Unit) :=
 bif decide (v5 > 0) then
  bif decide (0 ≤ v5) && decide (v5 < (v8.length : Int)) then
   bif decide (0 ≤ v4) && decide (v4 < ((List.getD v8 v5.toNat []).length : Int)) then
    Option.bind (pleachref7_Near v7 v3 ((List.getD (List.getD v8 v5.toNat []) v4.toNat ([], 0)).1)) fun (r12 : (Int × Unit) × Unit) =>
    bif decide (0 ≤ IntKind.wrap .i64 (v5 - 1)) && decide (IntKind.wrap .i64 (v5 - 1) < (v8.length : Int)) then
     Option.bind (pleachref7_Home (List.getD v8 ((IntKind.wrap .i64 (v5 - 1)).toNat) []) r12.1.1) fun (r13 : (Int × Unit) × Unit) =>
     L1 v3 r13.1.1 (IntKind.wrap .i64 (v5 - 1)) v6 v7 v8 v9 v10 v11
    else none
   else none
  else none
 else
 bif decide ((v8.length : Int) > 0) then
  bif decide (0 < (v8.length : Int)) then
   Option.bind (pleachref7_JoinClus v7 (List.getD v8 0 []) v4 v3 v6) fun (r14 : ((List ((List Int) × Int)) × Unit) × Unit) =>
   Option.bind (pleachref7_above (v6, v7, v8) r14.1.1) fun (r15 : ((Int × (List (List Int)) × List (List ((List Int) × Int))) × Unit) × Unit) =>
   some ((r15.1.1, ()), ())
  else none
 else
  Option.bind (pleachref7_JoinClus v7 [] v4 v3 v6) fun (r16 : ((List ((List Int) × Int)) × Unit) × Unit) =>
  Option.bind (pleachref7_above (v6, v7, v8) r16.1.1) fun (r17 : ((Int × (List (List Int)) × List (List ((List Int) × Int))) × Unit) × Unit) =>
  some ((r17.1.1, ()), ())
noncomputable def pleachref7_Join_T (L1 : Int → Int → Int → Int → List (List Int) → (List (List ((List Int) × Int))) → Int → List (List Int) → (List (List ((List Int) × Int))) → Option (((Int × (List (List Int)) × List (List ((List Int) × Int))) × Unit) × Unit)) (h_0 : Int × (List (List Int)) × List (List ((List Int) × Int))) (id_1 : Int) : Option (((Int × (List (List Int)) × List (List ((List Int) × Int))) × Unit) × Unit) :=
 Option.bind (pleachref1_MayDist h_0.2.1) fun (r1 : (Bool × Unit) × Unit) =>
 bif !r1.1.1 then
  some ((h_0, ()), ())
 else
 bif decide (id_1 < 1) then
  some ((h_0, ()), ())
 else
 bif decide (id_1 > 8) then
  some ((h_0, ()), ())
 else
 bif decide ((h_0.2.2.length : Int) > 0) then
  bif decide (0 < (h_0.2.2.length : Int)) then
   Option.bind (pleachref7_Home (List.getD h_0.2.2 0 []) id_1) fun (r2 : (Int × Unit) × Unit) =>
   bif decide (r2.1.1 ≥ 0) then
    some ((h_0, ()), ())
   else
    L1 id_1 0 (IntKind.wrap .i64 ((h_0.2.2.length : Int) - 1)) h_0.1 h_0.2.1 h_0.2.2 0 [] []
  else none
 else
  L1 id_1 0 (IntKind.wrap .i64 ((h_0.2.2.length : Int) - 1)) h_0.1 h_0.2.1 h_0.2.2 0 [] []
noncomputable def pleachref7_Join_L1 (n : Nat) : Nat → Int → Int → Int → Int → List (List Int) → (List (List ((List Int) × Int))) → Int → List (List Int) → (List (List ((List Int) × Int))) → Option (((Int × (List (List Int)) × List (List ((List Int) × Int))) × Unit) × Unit) := iter (fun _ _ _ _ _ _ _ _ _ => none) fun L => pleachref7_Join_B1 L
noncomputable def pleachref7_Join_X1 (n m : Nat) (v3 : Int) (v4 : Int) (v5 : Int) (v6 : Int) (v7 : List (List Int)) (v8 : List (List ((List Int) × Int))) (v9 : Int) (v10 : List (List Int)) (v11 : List (List ((List Int) × Int))) : Option (((Int × (List (List Int)) × List (List ((List Int) × Int))) × Unit) × Unit) :=
 atLoop pleachref7_Join_Γ tab (fiB [.val t29, .val t2] pleachref7_Join_fi) n [.val t29, .val t2] [⟨t29, [false, false, false], none⟩] Tryz.f39 [1, 1, 1, 0, 1, 0] [] [1, 2, 4, 5, 6] m
 ⟨[(1, SV.cv (CV.one (LV.pure t2 v3))), (2, SV.cv (CV.one (LV.ptr (2, 0) 0))), (4, SV.cv (CV.one (LV.ptr (4, 0) 0))), (5, SV.cv (CV.one (LV.pure t2 v4))), (6, SV.cv (CV.one (LV.pure t2 v5)))],
  [((2, 0), Ob.box 30 [LV.pure t2 v6, LV.pure t27 v7, LV.pure t28 v8]), ((4, 0), Ob.box 30 [LV.pure t2 v9, LV.ref (4, 2), LV.ref (4, 3)]), ((4, 2), Ob.row 37 t37 v10), ((4, 3), Ob.row 114 t114 v11)]⟩
theorem pleachref7_Join_step1 (n m : Nat) (v3 : Int) (v4 : Int) (v5 : Int) (v6 : Int) (v7 : List (List Int)) (v8 : List (List ((List Int) × Int))) (v9 : Int) (v10 : List (List Int)) (v11 : List (List ((List Int) × Int))) : pleachref7_Join_X1 n (m + 1) v3 v4 v5 v6 v7 v8 v9 v10 v11 = pleachref7_Join_B1 (pleachref7_Join_X1 n m) v3 v4 v5 v6 v7 v8 v9 v10 v11 := by kernel_rfl
theorem pleachref7_Join_start (n : Nat) (h_0 : Int × (List (List Int)) × List (List ((List Int) × Int))) (id_1 : Int) : evFn pleachref7_Join_Γ tab pleachref7_Join_fi n [.val t29, .val t2] [⟨t29, [false, false, false], none⟩] Tryz.f39 (h_0, id_1, ()) = pleachref7_Join_T (pleachref7_Join_X1 n n) h_0 id_1 := by kernel_rfl
theorem pleachref7_Join_XL1 (n : Nat) : ∀ m, pleachref7_Join_X1 n m = pleachref7_Join_L1 n m
 | 0 => rfl
 | m + 1 => by
  have ih := pleachref7_Join_XL1 n m
  funext v3 v4 v5 v6 v7 v8 v9 v10 v11
  rw [pleachref7_Join_step1, ih]
  rfl
noncomputable def pleachref7_Join_n (n : Nat) (h_0 : Int × (List (List Int)) × List (List ((List Int) × Int))) (id_1 : Int) : Option (((Int × (List (List Int)) × List (List ((List Int) × Int))) × Unit) × Unit) := pleachref7_Join_T (pleachref7_Join_L1 n n) h_0 id_1
noncomputable def pleachref7_Join (h_0 : Int × (List (List Int)) × List (List ((List Int) × Int))) (id_1 : Int) : Option (((Int × (List (List Int)) × List (List ((List Int) × Int))) × Unit) × Unit) := pleachref7_Join_n 1099511627776 h_0 id_1
theorem pleachref7_Join_eq (n : Nat) (h_0 : Int × (List (List Int)) × List (List ((List Int) × Int))) (id_1 : Int) : evFn pleachref7_Join_Γ tab pleachref7_Join_fi n [.val t29, .val t2] [⟨t29, [false, false, false], none⟩] Tryz.f39 (h_0, id_1, ()) = pleachref7_Join_n n h_0 id_1 := by
  rw [pleachref7_Join_start, pleachref7_Join_XL1 n n]
  rfl
noncomputable def pleachref7_Join_e : Ent := ⟨[.val t29, .val t2], [⟨t29, [false, false, false], none⟩], fun x => pleachref7_Join x.1 x.2.1⟩
theorem pleachref7_Join_good : Good tab.ty Tryz.prog 39 pleachref7_Join_e := by
  refine fn_good (Γ := pleachref7_Join_Γ) (fi := pleachref7_Join_fi) (n := 1099511627776) follows (gcons pleachref1_MayDist_good (gcons pleachref7_Home_good (gcons pleachref7_Near_good (gcons pleachref7_above_good (gcons pleachref7_JoinClus_good gnil))))) tabok Tryz.func39 (by kernel_rfl) (by kernel_rfl) (fun x r h => ?_)
  obtain ⟨h_0, id_1, _u⟩ := x
  exact (pleachref7_Join_eq 1099511627776 h_0 id_1).trans h
noncomputable def pleachref1_Letter_Γ : Ctx := []
def pleachref1_Letter_fi : Fi := { keep := [], vty := [], vals := [], live := [(0, [0, 19, 20, 28, 29, 37, 38, 56, 57, 58, 59, 73, 74, 77, 78, 79, 80, 81, 82]), (1, [0, 4, 19, 20, 28, 29, 37, 38, 56, 57, 58, 59, 73, 74, 77, 78, 79, 80, 81, 82]), (2, [0, 4, 19, 20, 28, 29, 37, 38, 56, 57, 58, 59, 73, 74, 77, 78, 79, 80, 81, 82]), (3, [2, 3]), (4, [0, 4, 11, 19, 20, 28, 29, 37, 38, 56, 57, 58, 59, 73, 74, 77, 78, 79, 80, 81, 82]), (5, [2, 3]), (6, [0, 4, 15, 28, 29, 37, 38, 56, 57, 58, 59, 73, 74, 77, 78, 79, 80, 81, 82]), (7, [0, 4, 5, 6, 56, 57, 58, 59, 73, 74, 77, 78, 79, 80, 81, 82]), (8, [0, 4, 24, 37, 38, 56, 57, 58, 59, 73, 74, 77, 78, 79, 80, 81, 82]), (9, [0, 4, 5, 6, 56, 57, 58, 59, 73, 74, 77, 78, 79, 80, 81, 82]), (10, [0, 4, 33, 56, 57, 58, 59, 73, 74, 77, 78, 79, 80, 81, 82]), (11, [0, 4, 5, 6, 56, 57, 58, 59, 73, 74, 77, 78, 79, 80, 81, 82]), (12, [0, 4, 5, 6, 45, 56, 57, 58, 59, 73, 74, 77, 78, 79, 80, 81, 82]), (13, [2, 3]), (14, [0, 4, 5, 6, 7, 56, 57, 58, 59, 73, 74, 77, 78, 79, 80, 81, 82]), (15, [0, 4, 5, 6, 7, 48, 56, 57, 58, 59, 73, 74, 77, 78, 79, 80, 81, 82]), (16, [0, 4, 5, 6, 7, 56, 57, 58, 59, 73, 74, 77, 78, 79, 80, 81, 82]), (17, [0, 4, 5, 6, 7, 56, 57, 58, 59, 60, 73, 74, 77, 78, 79, 80, 81, 82]), (18, [2, 3]), (19, [0, 4, 5, 6, 7, 56, 57, 58, 59, 73, 74, 77, 78, 79, 80, 81, 82]), (20, [4, 5, 83]), (21, [2, 3]), (22, [2, 3])] }
noncomputable def pleachref1_Letter_B1 (L1 : ByteArray → Int → Int → Int → Int → Option ((Int × Int × Unit) × Unit)) (v1 : ByteArray) (v2 : Int) (v3 : Int) (v4 : Int) (v5 : Int) : Option ((Int × Int × Unit) × Unit) :=
 bif decide (v5 < v3) then
  bif decide (0 ≤ v5) && decide (v5 < (v1.size : Int)) then
   bif decide (((v1.data.getD v5.toNat 0).toNat : Int) < 128) then
    some (((-1), 1, ()), ())
   else
   bif decide (0 ≤ v5) && decide (v5 < (v1.size : Int)) then
    bif decide (((v1.data.getD v5.toNat 0).toNat : Int) > 191) then
     some (((-1), 1, ()), ())
    else
    bif decide (0 ≤ v5) && decide (v5 < (v1.size : Int)) then
     L1 v1 (IntKind.wrap .i64 ((IntKind.wrap .i64 ((IntKind.wrap .i64 (v2 * 64)) + (IntKind.wrap .i64 ((v1.data.getD v5.toNat 0).toNat : Int)))) - 128)) v3 v4 (IntKind.wrap .i64 (v5 + 1))
    else none
   else none
  else none
 else
 bif decide (v2 < v4) then
  some (((-1), 1, ()), ())
 else
 bif decide (v2 > 1114111) then
  some (((-1), 1, ()), ())
 else
 bif decide (v2 ≥ 55296) then
  bif decide (v2 ≤ 57343) then
   some (((-1), 1, ()), ())
  else
   some ((v2, v3, ()), ())
 else
  some ((v2, v3, ()), ())
noncomputable def pleachref1_Letter_T (L1 : ByteArray → Int → Int → Int → Int → Option ((Int × Int × Unit) × Unit)) (s_0 : ByteArray) : Option ((Int × Int × Unit) × Unit) :=
 bif decide (0 < (s_0.size : Int)) then
  bif decide (IntKind.wrap .i64 ((s_0.data.getD 0 0).toNat : Int) < 128) then
   some ((IntKind.wrap .i64 ((s_0.data.getD 0 0).toNat : Int), 1, ()), ())
  else
  bif decide (IntKind.wrap .i64 ((s_0.data.getD 0 0).toNat : Int) ≥ 194) then
   bif decide (IntKind.wrap .i64 ((s_0.data.getD 0 0).toNat : Int) ≤ 223) then
    bif decide ((s_0.size : Int) < 2) then
     some (((-1), 1, ()), ())
    else
     L1 s_0 (IntKind.wrap .i64 ((IntKind.wrap .i64 ((s_0.data.getD 0 0).toNat : Int)) - 192)) 2 128 1
   else
   bif decide (IntKind.wrap .i64 ((s_0.data.getD 0 0).toNat : Int) ≥ 224) then
    bif decide (IntKind.wrap .i64 ((s_0.data.getD 0 0).toNat : Int) ≤ 239) then
     bif decide ((s_0.size : Int) < 3) then
      some (((-1), 1, ()), ())
     else
      L1 s_0 (IntKind.wrap .i64 ((IntKind.wrap .i64 ((s_0.data.getD 0 0).toNat : Int)) - 224)) 3 2048 1
    else
    bif decide (IntKind.wrap .i64 ((s_0.data.getD 0 0).toNat : Int) ≥ 240) then
     bif decide (IntKind.wrap .i64 ((s_0.data.getD 0 0).toNat : Int) ≤ 244) then
      bif decide ((s_0.size : Int) < 4) then
       some (((-1), 1, ()), ())
      else
       L1 s_0 (IntKind.wrap .i64 ((IntKind.wrap .i64 ((s_0.data.getD 0 0).toNat : Int)) - 240)) 4 65536 1
     else
      some (((-1), 1, ()), ())
    else
     some (((-1), 1, ()), ())
   else
   bif decide (IntKind.wrap .i64 ((s_0.data.getD 0 0).toNat : Int) ≥ 240) then
    bif decide (IntKind.wrap .i64 ((s_0.data.getD 0 0).toNat : Int) ≤ 244) then
     bif decide ((s_0.size : Int) < 4) then
      some (((-1), 1, ()), ())
     else
      L1 s_0 (IntKind.wrap .i64 ((IntKind.wrap .i64 ((s_0.data.getD 0 0).toNat : Int)) - 240)) 4 65536 1
    else
     some (((-1), 1, ()), ())
   else
    some (((-1), 1, ()), ())
  else
  bif decide (IntKind.wrap .i64 ((s_0.data.getD 0 0).toNat : Int) ≥ 224) then
   bif decide (IntKind.wrap .i64 ((s_0.data.getD 0 0).toNat : Int) ≤ 239) then
    bif decide ((s_0.size : Int) < 3) then
     some (((-1), 1, ()), ())
    else
     L1 s_0 (IntKind.wrap .i64 ((IntKind.wrap .i64 ((s_0.data.getD 0 0).toNat : Int)) - 224)) 3 2048 1
   else
   bif decide (IntKind.wrap .i64 ((s_0.data.getD 0 0).toNat : Int) ≥ 240) then
    bif decide (IntKind.wrap .i64 ((s_0.data.getD 0 0).toNat : Int) ≤ 244) then
     bif decide ((s_0.size : Int) < 4) then
      some (((-1), 1, ()), ())
     else
      L1 s_0 (IntKind.wrap .i64 ((IntKind.wrap .i64 ((s_0.data.getD 0 0).toNat : Int)) - 240)) 4 65536 1
    else
     some (((-1), 1, ()), ())
   else
    some (((-1), 1, ()), ())
  else
  bif decide (IntKind.wrap .i64 ((s_0.data.getD 0 0).toNat : Int) ≥ 240) then
   bif decide (IntKind.wrap .i64 ((s_0.data.getD 0 0).toNat : Int) ≤ 244) then
    bif decide ((s_0.size : Int) < 4) then
     some (((-1), 1, ()), ())
    else
     L1 s_0 (IntKind.wrap .i64 ((IntKind.wrap .i64 ((s_0.data.getD 0 0).toNat : Int)) - 240)) 4 65536 1
   else
    some (((-1), 1, ()), ())
  else
   some (((-1), 1, ()), ())
 else none
noncomputable def pleachref1_Letter_L1 (n : Nat) : Nat → ByteArray → Int → Int → Int → Int → Option ((Int × Int × Unit) × Unit) := iter (fun _ _ _ _ _ => none) fun L => pleachref1_Letter_B1 L
noncomputable def pleachref1_Letter_X1 (n m : Nat) (v1 : ByteArray) (v2 : Int) (v3 : Int) (v4 : Int) (v5 : Int) : Option ((Int × Int × Unit) × Unit) :=
 atLoop pleachref1_Letter_Γ tab (fiB [.val t9] pleachref1_Letter_fi) n [.val t9] [⟨t2, [false], none⟩, ⟨t2, [false], none⟩] Tryz.f110 [1, 1, 1, 1, 1, 0, 1, 0] [] [0, 4, 5, 6, 7] m
 ⟨[(0, SV.cv (CV.one (LV.pure t9 v1))), (4, SV.cv (CV.one (LV.pure t2 v2))), (5, SV.cv (CV.one (LV.pure t2 v3))), (6, SV.cv (CV.one (LV.pure t2 v4))), (7, SV.cv (CV.one (LV.pure t2 v5)))],
  []⟩
theorem pleachref1_Letter_step1 (n m : Nat) (v1 : ByteArray) (v2 : Int) (v3 : Int) (v4 : Int) (v5 : Int) : pleachref1_Letter_X1 n (m + 1) v1 v2 v3 v4 v5 = pleachref1_Letter_B1 (pleachref1_Letter_X1 n m) v1 v2 v3 v4 v5 := by kernel_rfl
theorem pleachref1_Letter_start (n : Nat) (s_0 : ByteArray) : evFn pleachref1_Letter_Γ tab pleachref1_Letter_fi n [.val t9] [⟨t2, [false], none⟩, ⟨t2, [false], none⟩] Tryz.f110 (s_0, ()) = pleachref1_Letter_T (pleachref1_Letter_X1 n n) s_0 := by kernel_rfl
theorem pleachref1_Letter_XL1 (n : Nat) : ∀ m, pleachref1_Letter_X1 n m = pleachref1_Letter_L1 n m
 | 0 => rfl
 | m + 1 => by
  have ih := pleachref1_Letter_XL1 n m
  funext v1 v2 v3 v4 v5
  rw [pleachref1_Letter_step1, ih]
  rfl
noncomputable def pleachref1_Letter_n (n : Nat) (s_0 : ByteArray) : Option ((Int × Int × Unit) × Unit) := pleachref1_Letter_T (pleachref1_Letter_L1 n n) s_0
noncomputable def pleachref1_Letter (s_0 : ByteArray) : Option ((Int × Int × Unit) × Unit) := pleachref1_Letter_n 1099511627776 s_0
theorem pleachref1_Letter_eq (n : Nat) (s_0 : ByteArray) : evFn pleachref1_Letter_Γ tab pleachref1_Letter_fi n [.val t9] [⟨t2, [false], none⟩, ⟨t2, [false], none⟩] Tryz.f110 (s_0, ()) = pleachref1_Letter_n n s_0 := by
  rw [pleachref1_Letter_start, pleachref1_Letter_XL1 n n]
  rfl
noncomputable def pleachref1_Letter_e : Ent := ⟨[.val t9], [⟨t2, [false], none⟩, ⟨t2, [false], none⟩], fun x => pleachref1_Letter x.1⟩
theorem pleachref1_Letter_good : Good tab.ty Tryz.prog 110 pleachref1_Letter_e := by
  refine fn_good (Γ := pleachref1_Letter_Γ) (fi := pleachref1_Letter_fi) (n := 1099511627776) follows gnil tabok Tryz.func110 (by kernel_rfl) (by kernel_rfl) (fun x r h => ?_)
  obtain ⟨s_0, _u⟩ := x
  exact (pleachref1_Letter_eq 1099511627776 s_0).trans h
noncomputable def pleachref1_Letters_Γ : Ctx := [(110, pleachref1_Letter_e)]
def pleachref1_Letters_fi : Fi := { keep := [], vty := [(3, 37)], vals := [], live := [(0, [0]), (1, [0, 3]), (2, [0, 3, 8]), (3, [0, 3, 4, 5]), (4, [0, 3]), (5, [2])] }
noncomputable def pleachref1_Letters_B1 (L1 : ByteArray → List Int → Option (((List Int) × Unit) × Unit)) (v1 : ByteArray) (v2 : List Int) : Option (((List Int) × Unit) × Unit) :=
 bif decide ((v1.size : Int) > 0) then
  Option.bind (pleachref1_Letter v1) fun (r3 : (Int × Int × Unit) × Unit) =>
  bif Nat.ble (v2.length + 1) 1073741824 then
   bif (decide (0 ≤ r3.1.2.1) && decide (r3.1.2.1 ≤ (v1.size : Int))) && decide ((v1.size : Int) ≤ (v1.size : Int)) then
    L1 (v1.extract r3.1.2.1.toNat ((v1.size : Int).toNat)) (v2 ++ [r3.1.1])
   else none
  else none
 else
  some ((v2, ()), ())
noncomputable def pleachref1_Letters_T (L1 : ByteArray → List Int → Option (((List Int) × Unit) × Unit)) (s_0 : ByteArray) : Option (((List Int) × Unit) × Unit) :=
 L1 s_0 []
noncomputable def pleachref1_Letters_L1 (n : Nat) : Nat → ByteArray → List Int → Option (((List Int) × Unit) × Unit) := iter (fun _ _ => none) fun L => pleachref1_Letters_B1 L
noncomputable def pleachref1_Letters_X1 (n m : Nat) (v1 : ByteArray) (v2 : List Int) : Option (((List Int) × Unit) × Unit) :=
 atLoop pleachref1_Letters_Γ tab (fiB [.val t9] pleachref1_Letters_fi) n [.val t9] [⟨t37, [true], none⟩] Tryz.f86 [1, 1, 0, 0] [] [0, 3] m
 ⟨[(0, SV.cv (CV.one (LV.pure t9 v1))), (3, SV.cv (CV.one (LV.ref (888888, 3))))],
  [((888888, 3), Ob.row 3 t2 v2)]⟩
theorem pleachref1_Letters_step1 (n m : Nat) (v1 : ByteArray) (v2 : List Int) : pleachref1_Letters_X1 n (m + 1) v1 v2 = pleachref1_Letters_B1 (pleachref1_Letters_X1 n m) v1 v2 := by kernel_rfl
theorem pleachref1_Letters_start (n : Nat) (s_0 : ByteArray) : evFn pleachref1_Letters_Γ tab pleachref1_Letters_fi n [.val t9] [⟨t37, [true], none⟩] Tryz.f86 (s_0, ()) = pleachref1_Letters_T (pleachref1_Letters_X1 n n) s_0 := by kernel_rfl
theorem pleachref1_Letters_XL1 (n : Nat) : ∀ m, pleachref1_Letters_X1 n m = pleachref1_Letters_L1 n m
 | 0 => rfl
 | m + 1 => by
  have ih := pleachref1_Letters_XL1 n m
  funext v1 v2
  rw [pleachref1_Letters_step1, ih]
  rfl
noncomputable def pleachref1_Letters_n (n : Nat) (s_0 : ByteArray) : Option (((List Int) × Unit) × Unit) := pleachref1_Letters_T (pleachref1_Letters_L1 n n) s_0
noncomputable def pleachref1_Letters (s_0 : ByteArray) : Option (((List Int) × Unit) × Unit) := pleachref1_Letters_n 1099511627776 s_0
theorem pleachref1_Letters_eq (n : Nat) (s_0 : ByteArray) : evFn pleachref1_Letters_Γ tab pleachref1_Letters_fi n [.val t9] [⟨t37, [true], none⟩] Tryz.f86 (s_0, ()) = pleachref1_Letters_n n s_0 := by
  rw [pleachref1_Letters_start, pleachref1_Letters_XL1 n n]
  rfl
noncomputable def pleachref1_Letters_e : Ent := ⟨[.val t9], [⟨t37, [true], none⟩], fun x => pleachref1_Letters x.1⟩
theorem pleachref1_Letters_good : Good tab.ty Tryz.prog 86 pleachref1_Letters_e := by
  refine fn_good (Γ := pleachref1_Letters_Γ) (fi := pleachref1_Letters_fi) (n := 1099511627776) follows (gcons pleachref1_Letter_good gnil) tabok Tryz.func86 (by kernel_rfl) (by kernel_rfl) (fun x r h => ?_)
  obtain ⟨s_0, _u⟩ := x
  exact (pleachref1_Letters_eq 1099511627776 s_0).trans h
noncomputable def pleachref1_Name_Γ : Ctx := [(86, pleachref1_Letters_e)]
def pleachref1_Name_fi : Fi := { keep := [], vty := [], vals := [], live := [(0, [0, 19, 20, 21, 22, 23, 24, 25, 26, 27, 28, 29, 30, 36, 37, 38]), (1, [3, 19, 20, 21, 22, 23, 24, 25, 26, 27, 28, 29, 30, 36, 37, 38]), (2, [3, 4, 19, 20, 21, 22, 23, 24, 25, 26, 27, 28, 29, 30, 36, 37, 38]), (3, [3, 4, 10, 19, 20, 21, 22, 23, 24, 25, 26, 27, 28, 29, 30, 36, 37, 38]), (4, [3, 4, 19, 20, 21, 22, 23, 24, 25, 26, 27, 28, 29, 30, 36, 37, 38]), (5, [3, 4, 19, 20, 21, 22, 23, 24, 25, 26, 27, 28, 29, 30, 31, 36, 37, 38]), (6, [2]), (7, [2])] }
noncomputable def pleachref1_Name_B1 (L1 : Int → List Int → Option ((Bool × Unit) × Unit)) (v2 : Int) (v3 : List Int) : Option ((Bool × Unit) × Unit) :=
 bif decide (v2 < (v3.length : Int)) then
  bif decide (0 ≤ v2) && decide (v2 < (v3.length : Int)) then
   bif decide (0 ≤ v2) && decide (v2 < (v3.length : Int)) then
    bif decide (List.getD v3 v2.toNat 0 < 33) then
     some ((false, ()), ())
    else
    bif decide (0 ≤ v2) && decide (v2 < (v3.length : Int)) then
     bif decide (0 ≤ v2) && decide (v2 < (v3.length : Int)) then
      bif decide (List.getD v3 v2.toNat 0 ≥ 127) then
       bif decide (0 ≤ v2) && decide (v2 < (v3.length : Int)) then
        bif decide (0 ≤ v2) && decide (v2 < (v3.length : Int)) then
         bif decide (List.getD v3 v2.toNat 0 ≤ 159) then
          some ((false, ()), ())
         else
          L1 (IntKind.wrap .i64 (v2 + 1)) v3
        else none
       else none
      else
       L1 (IntKind.wrap .i64 (v2 + 1)) v3
     else none
    else none
   else none
  else none
 else
 bif decide ((v3.length : Int) ≥ 1) then
  some ((decide ((v3.length : Int) ≤ 8), ()), ())
 else
  some ((false, ()), ())
noncomputable def pleachref1_Name_T (L1 : Int → List Int → Option ((Bool × Unit) × Unit)) (s_0 : ByteArray) : Option ((Bool × Unit) × Unit) :=
 Option.bind (pleachref1_Letters s_0) fun (r1 : ((List Int) × Unit) × Unit) =>
 L1 0 r1.1.1
noncomputable def pleachref1_Name_L1 (n : Nat) : Nat → Int → List Int → Option ((Bool × Unit) × Unit) := iter (fun _ _ => none) fun L => pleachref1_Name_B1 L
noncomputable def pleachref1_Name_X1 (n m : Nat) (v2 : Int) (v3 : List Int) : Option ((Bool × Unit) × Unit) :=
 atLoop pleachref1_Name_Γ tab (fiB [.val t9] pleachref1_Name_fi) n [.val t9] [⟨t4, [false], none⟩] Tryz.f63 [1, 1, 0, 1, 0] [] [3, 4] m
 ⟨[(3, SV.cv (CV.one (LV.ref (888888, 3)))), (4, SV.cv (CV.one (LV.pure t2 v2)))],
  [((888888, 3), Ob.row 3 t2 v3)]⟩
theorem pleachref1_Name_step1 (n m : Nat) (v2 : Int) (v3 : List Int) : pleachref1_Name_X1 n (m + 1) v2 v3 = pleachref1_Name_B1 (pleachref1_Name_X1 n m) v2 v3 := by kernel_rfl
theorem pleachref1_Name_start (n : Nat) (s_0 : ByteArray) : evFn pleachref1_Name_Γ tab pleachref1_Name_fi n [.val t9] [⟨t4, [false], none⟩] Tryz.f63 (s_0, ()) = pleachref1_Name_T (pleachref1_Name_X1 n n) s_0 := by kernel_rfl
theorem pleachref1_Name_XL1 (n : Nat) : ∀ m, pleachref1_Name_X1 n m = pleachref1_Name_L1 n m
 | 0 => rfl
 | m + 1 => by
  have ih := pleachref1_Name_XL1 n m
  funext v2 v3
  rw [pleachref1_Name_step1, ih]
  rfl
noncomputable def pleachref1_Name_n (n : Nat) (s_0 : ByteArray) : Option ((Bool × Unit) × Unit) := pleachref1_Name_T (pleachref1_Name_L1 n n) s_0
noncomputable def pleachref1_Name (s_0 : ByteArray) : Option ((Bool × Unit) × Unit) := pleachref1_Name_n 1099511627776 s_0
theorem pleachref1_Name_eq (n : Nat) (s_0 : ByteArray) : evFn pleachref1_Name_Γ tab pleachref1_Name_fi n [.val t9] [⟨t4, [false], none⟩] Tryz.f63 (s_0, ()) = pleachref1_Name_n n s_0 := by
  rw [pleachref1_Name_start, pleachref1_Name_XL1 n n]
  rfl
noncomputable def pleachref1_Name_e : Ent := ⟨[.val t9], [⟨t4, [false], none⟩], fun x => pleachref1_Name x.1⟩
theorem pleachref1_Name_good : Good tab.ty Tryz.prog 63 pleachref1_Name_e := by
  refine fn_good (Γ := pleachref1_Name_Γ) (fi := pleachref1_Name_fi) (n := 1099511627776) follows (gcons pleachref1_Letters_good gnil) tabok Tryz.func63 (by kernel_rfl) (by kernel_rfl) (fun x r h => ?_)
  obtain ⟨s_0, _u⟩ := x
  exact (pleachref1_Name_eq 1099511627776 s_0).trans h
noncomputable def pleachref19_New_Γ : Ctx := []
def pleachref19_New_fi : Fi := { keep := [], vty := [], vals := [], live := [(0, [0, 1, 2, 3, 8]), (1, [0, 2, 8, 9]), (2, [2, 8, 9, 16]), (3, [8, 9]), (4, [8])] }
noncomputable def pleachref19_New (id_0 : Int) (inc_1 : Int) (now_2 : Int) (grand_3 : Int) : Option (((Int × Int × Int × Int × Int × Int × (List Int) × Int × Int × Int × Int × Int × List (Int × Int × Int)) × Unit) × Unit) :=
 bif id_0 == 1 then
  some (((id_0, inc_1, now_2, 0, 0, grand_3, [1], 0, now_2, 0, 0, 0, []), ()), ())
 else
  some (((id_0, inc_1, now_2, 0, 0, grand_3, [], 0, 0, 0, 0, 0, []), ()), ())
theorem pleachref19_New_eq (id_0 : Int) (inc_1 : Int) (now_2 : Int) (grand_3 : Int) : evFn pleachref19_New_Γ tab pleachref19_New_fi 1 [.val t2, .val t2, .val t2, .val t2] [⟨t39, [false, false, false, false, false, false, true, false, false, false, false, false, true], none⟩] Tryz.f64 (id_0, inc_1, now_2, grand_3, ()) = pleachref19_New id_0 inc_1 now_2 grand_3 := by kernel_rfl
noncomputable def pleachref19_New_e : Ent := ⟨[.val t2, .val t2, .val t2, .val t2], [⟨t39, [false, false, false, false, false, false, true, false, false, false, false, false, true], none⟩], fun x => pleachref19_New x.1 x.2.1 x.2.2.1 x.2.2.2.1⟩
theorem pleachref19_New_good : Good tab.ty Tryz.prog 64 pleachref19_New_e := by
  refine fn_good (Γ := pleachref19_New_Γ) (fi := pleachref19_New_fi) (n := 1) follows gnil tabok Tryz.func64 (by kernel_rfl) (by kernel_rfl) (fun x r h => ?_)
  obtain ⟨id_0, inc_1, now_2, grand_3, _u⟩ := x
  exact (pleachref19_New_eq id_0 inc_1 now_2 grand_3).trans h
noncomputable def pleachref19_Join_Γ : Ctx := [(63, pleachref1_Name_e), (64, pleachref19_New_e)]
def pleachref19_Join_fi : Fi := { keep := [], vty := [], vals := [], live := [(0, [1, 2, 3, 4, 8, 13, 14, 15, 18, 19, 22, 23, 26, 27, 28]), (1, [1, 2, 3, 4, 8, 29]), (2, [8, 9]), (3, [8, 9])] }
noncomputable def pleachref19_Join (n_0 : Bool × Int × ByteArray × (Int × Int × Int × Int × Int × Int × (List Int) × Int × Int × Int × Int × Int × List (Int × Int × Int)) × (Int × Int × (List (Int × ByteArray)) × (List (Int × ByteArray)) × (List (Int × Int × Int × ByteArray × Int)) × Int × Int) × Int) (id_1 : Int) (name_2 : ByteArray) (grand_3 : Int) : Option (((Bool × Int × ByteArray × (Int × Int × Int × Int × Int × Int × (List Int) × Int × Int × Int × Int × Int × List (Int × Int × Int)) × (Int × Int × (List (Int × ByteArray)) × (List (Int × ByteArray)) × (List (Int × Int × Int × ByteArray × Int)) × Int × Int) × Int) × Bool × Unit) × Unit) :=
 bif n_0.1 then
  some ((n_0, false, ()), ())
 else
  Option.bind (pleachref1_Name name_2) fun (r1 : (Bool × Unit) × Unit) =>
  bif !r1.1.1 then
   some ((n_0, false, ()), ())
  else
  bif decide (id_1 < 1) then
   some ((n_0, false, ()), ())
  else
  bif decide (id_1 > 8) then
   some ((n_0, false, ()), ())
  else
  bif decide (n_0.2.1 ≥ 1073741824) then
   some ((n_0, false, ()), ())
  else
   Option.bind (pleachref19_New id_1 (IntKind.wrap .i64 (n_0.2.1 + 1)) 0 grand_3) fun (r2 : ((Int × Int × Int × Int × Int × Int × (List Int) × Int × Int × Int × Int × Int × List (Int × Int × Int)) × Unit) × Unit) =>
   some (((true, IntKind.wrap .i64 (n_0.2.1 + 1), name_2, r2.1.1, (0, 0, [], [], [], 0, 0), 0), true, ()), ())
theorem pleachref19_Join_eq (n_0 : Bool × Int × ByteArray × (Int × Int × Int × Int × Int × Int × (List Int) × Int × Int × Int × Int × Int × List (Int × Int × Int)) × (Int × Int × (List (Int × ByteArray)) × (List (Int × ByteArray)) × (List (Int × Int × Int × ByteArray × Int)) × Int × Int) × Int) (id_1 : Int) (name_2 : ByteArray) (grand_3 : Int) : evFn pleachref19_Join_Γ tab pleachref19_Join_fi 1 [.val t47, .val t2, .val t9, .val t2] [⟨t47, [false, false, false, false, false, false, false, false, false, false, false, false, false, false, false, false, false, false, false, false, false, false, false, false], none⟩, ⟨t4, [false], none⟩] Tryz.f40 (n_0, id_1, name_2, grand_3, ()) = pleachref19_Join n_0 id_1 name_2 grand_3 := by kernel_rfl
noncomputable def pleachref19_Join_e : Ent := ⟨[.val t47, .val t2, .val t9, .val t2], [⟨t47, [false, false, false, false, false, false, false, false, false, false, false, false, false, false, false, false, false, false, false, false, false, false, false, false], none⟩, ⟨t4, [false], none⟩], fun x => pleachref19_Join x.1 x.2.1 x.2.2.1 x.2.2.2.1⟩
theorem pleachref19_Join_good : Good tab.ty Tryz.prog 40 pleachref19_Join_e := by
  refine fn_good (Γ := pleachref19_Join_Γ) (fi := pleachref19_Join_fi) (n := 1) follows (gcons pleachref1_Name_good (gcons pleachref19_New_good gnil)) tabok Tryz.func40 (by kernel_rfl) (by kernel_rfl) (fun x r h => ?_)
  obtain ⟨n_0, id_1, name_2, grand_3, _u⟩ := x
  exact (pleachref19_Join_eq n_0 id_1 name_2 grand_3).trans h
noncomputable def pleachref21_New_Γ : Ctx := [(38, pleachref7_New_e), (39, pleachref7_Join_e), (40, pleachref19_Join_e)]
def pleachref21_New_fi : Fi := { keep := [], vty := [], vals := [], live := [(0, [0, 1, 4]), (1, [4, 6, 7]), (2, [4, 6, 16]), (3, [4, 5]), (4, [4, 8]), (5, [4, 8]), (6, [4, 5])] }
noncomputable def pleachref21_New (d_0 : List (List Int)) (k_1 : Int) : Option ((((List (Bool × Int × ByteArray × (Int × Int × Int × Int × Int × Int × (List Int) × Int × Int × Int × Int × Int × List (Int × Int × Int)) × (Int × Int × (List (Int × ByteArray)) × (List (Int × ByteArray)) × (List (Int × Int × Int × ByteArray × Int)) × Int × Int) × Int)) × (List (Int × ByteArray × Bool)) × (List ByteArray) × Int × (List (List Int)) × List (List ((List Int) × Int))) × Bool × Unit) × Unit) :=
 Option.bind (pleachref7_New d_0 k_1) fun (r1 : ((Int × (List (List Int)) × List (List ((List Int) × Int))) × Bool × Unit) × Unit) =>
 bif !r1.1.2.1 then
  some ((([], [], [], 0, [], []), false, ()), ())
 else
  Option.bind (pleachref7_Join r1.1.1 1) fun (r2 : ((Int × (List (List Int)) × List (List ((List Int) × Int))) × Unit) × Unit) =>
  Option.bind (pleachref19_Join (false, 0, (⟨#[]⟩ : ByteArray), (0, 0, 0, 0, 0, 0, [], 0, 0, 0, 0, 0, []), (0, 0, [], [], [], 0, 0), 0) 1 (⟨#[114, 111, 111, 116]⟩ : ByteArray) 0) fun (r3 : ((Bool × Int × ByteArray × (Int × Int × Int × Int × Int × Int × (List Int) × Int × Int × Int × Int × Int × List (Int × Int × Int)) × (Int × Int × (List (Int × ByteArray)) × (List (Int × ByteArray)) × (List (Int × Int × Int × ByteArray × Int)) × Int × Int) × Int) × Bool × Unit) × Unit) =>
  some ((([r3.1.1, (false, 0, (⟨#[]⟩ : ByteArray), (0, 0, 0, 0, 0, 0, [], 0, 0, 0, 0, 0, []), (0, 0, [], [], [], 0, 0), 0), (false, 0, (⟨#[]⟩ : ByteArray), (0, 0, 0, 0, 0, 0, [], 0, 0, 0, 0, 0, []), (0, 0, [], [], [], 0, 0), 0), (false, 0, (⟨#[]⟩ : ByteArray), (0, 0, 0, 0, 0, 0, [], 0, 0, 0, 0, 0, []), (0, 0, [], [], [], 0, 0), 0), (false, 0, (⟨#[]⟩ : ByteArray), (0, 0, 0, 0, 0, 0, [], 0, 0, 0, 0, 0, []), (0, 0, [], [], [], 0, 0), 0), (false, 0, (⟨#[]⟩ : ByteArray), (0, 0, 0, 0, 0, 0, [], 0, 0, 0, 0, 0, []), (0, 0, [], [], [], 0, 0), 0), (false, 0, (⟨#[]⟩ : ByteArray), (0, 0, 0, 0, 0, 0, [], 0, 0, 0, 0, 0, []), (0, 0, [], [], [], 0, 0), 0), (false, 0, (⟨#[]⟩ : ByteArray), (0, 0, 0, 0, 0, 0, [], 0, 0, 0, 0, 0, []), (0, 0, [], [], [], 0, 0), 0)], [], [], r2.1.1), true, ()), ())
theorem pleachref21_New_eq (d_0 : List (List Int)) (k_1 : Int) : evFn pleachref21_New_Γ tab pleachref21_New_fi 1 [.val t27, .val t2] [⟨t31, [true, true, true, false, false, false], none⟩, ⟨t4, [false], none⟩] Tryz.f20 (d_0, k_1, ()) = pleachref21_New d_0 k_1 := by kernel_rfl
noncomputable def pleachref21_New_e : Ent := ⟨[.val t27, .val t2], [⟨t31, [true, true, true, false, false, false], none⟩, ⟨t4, [false], none⟩], fun x => pleachref21_New x.1 x.2.1⟩
theorem pleachref21_New_good : Good tab.ty Tryz.prog 20 pleachref21_New_e := by
  refine fn_good (Γ := pleachref21_New_Γ) (fi := pleachref21_New_fi) (n := 1) follows (gcons pleachref7_New_good (gcons pleachref7_Join_good (gcons pleachref19_Join_good gnil))) tabok Tryz.func20 (by kernel_rfl) (by kernel_rfl) (fun x r h => ?_)
  obtain ⟨d_0, k_1, _u⟩ := x
  exact (pleachref21_New_eq d_0 k_1).trans h
noncomputable def pleachref7_Ask_Γ : Ctx := [(59, pleachref7_Home_e)]
def pleachref7_Ask_fi : Fi := { keep := [], vty := [], vals := [], live := [(0, [1, 2]), (1, [1, 2, 5]), (2, [1, 2, 5, 11]), (3, [1, 2, 5]), (4, [1, 2, 5, 6]), (5, [1, 2, 5, 6, 22]), (6, [4]), (7, [1, 2, 5, 6, 33]), (8, [4]), (9, [4])] }
noncomputable def pleachref7_Ask_B1 (L1 : Int → Int → Int → List (List Int) → (List (List ((List Int) × Int))) → Option ((Int × Unit) × Unit)) (v1 : Int) (v2 : Int) (v3 : Int) (v4 : List (List Int)) (v5 : List (List ((List Int) × Int))) : Option ((Int × Unit) × Unit) :=
 bif decide (v2 < (v5.length : Int)) then
  bif decide (0 ≤ v2) && decide (v2 < (v5.length : Int)) then
   Option.bind (pleachref7_Home (List.getD v5 v2.toNat []) v1) fun (r6 : (Int × Unit) × Unit) =>
   bif decide (r6.1.1 < 0) then
    some ((0, ()), ())
   else
   bif decide (0 ≤ v2) && decide (v2 < (v5.length : Int)) then
    bif decide (0 ≤ r6.1.1) && decide (r6.1.1 < ((List.getD v5 v2.toNat []).length : Int)) then
     bif ((List.getD (List.getD v5 v2.toNat []) r6.1.1.toNat ([], 0)).2) != v1 then
      bif decide (0 ≤ v2) && decide (v2 < (v5.length : Int)) then
       bif decide (0 ≤ r6.1.1) && decide (r6.1.1 < ((List.getD v5 v2.toNat []).length : Int)) then
        some (((List.getD (List.getD v5 v2.toNat []) r6.1.1.toNat ([], 0)).2, ()), ())
       else none
      else none
     else
      L1 v1 (IntKind.wrap .i64 (v2 + 1)) v3 v4 v5
    else none
   else none
  else none
 else
  some ((0, ()), ())
noncomputable def pleachref7_Ask_T (L1 : Int → Int → Int → List (List Int) → (List (List ((List Int) × Int))) → Option ((Int × Unit) × Unit)) (h_0 : Int × (List (List Int)) × List (List ((List Int) × Int))) (id_1 : Int) : Option ((Int × Unit) × Unit) :=
 L1 id_1 0 h_0.1 h_0.2.1 h_0.2.2
noncomputable def pleachref7_Ask_L1 (n : Nat) : Nat → Int → Int → Int → List (List Int) → (List (List ((List Int) × Int))) → Option ((Int × Unit) × Unit) := iter (fun _ _ _ _ _ => none) fun L => pleachref7_Ask_B1 L
noncomputable def pleachref7_Ask_X1 (n m : Nat) (v1 : Int) (v2 : Int) (v3 : Int) (v4 : List (List Int)) (v5 : List (List ((List Int) × Int))) : Option ((Int × Unit) × Unit) :=
 atLoop pleachref7_Ask_Γ tab (fiB [.val t29, .val t2] pleachref7_Ask_fi) n [.val t29, .val t2] [⟨t2, [false], none⟩] Tryz.f65 [1, 0, 1, 0] [] [1, 2, 5] m
 ⟨[(1, SV.cv (CV.one (LV.pure t2 v1))), (2, SV.cv (CV.one (LV.ptr (2, 0) 0))), (5, SV.cv (CV.one (LV.pure t2 v2)))],
  [((2, 0), Ob.box 30 [LV.pure t2 v3, LV.pure t27 v4, LV.pure t28 v5])]⟩
theorem pleachref7_Ask_step1 (n m : Nat) (v1 : Int) (v2 : Int) (v3 : Int) (v4 : List (List Int)) (v5 : List (List ((List Int) × Int))) : pleachref7_Ask_X1 n (m + 1) v1 v2 v3 v4 v5 = pleachref7_Ask_B1 (pleachref7_Ask_X1 n m) v1 v2 v3 v4 v5 := by kernel_rfl
theorem pleachref7_Ask_start (n : Nat) (h_0 : Int × (List (List Int)) × List (List ((List Int) × Int))) (id_1 : Int) : evFn pleachref7_Ask_Γ tab pleachref7_Ask_fi n [.val t29, .val t2] [⟨t2, [false], none⟩] Tryz.f65 (h_0, id_1, ()) = pleachref7_Ask_T (pleachref7_Ask_X1 n n) h_0 id_1 := by kernel_rfl
theorem pleachref7_Ask_XL1 (n : Nat) : ∀ m, pleachref7_Ask_X1 n m = pleachref7_Ask_L1 n m
 | 0 => rfl
 | m + 1 => by
  have ih := pleachref7_Ask_XL1 n m
  funext v1 v2 v3 v4 v5
  rw [pleachref7_Ask_step1, ih]
  rfl
noncomputable def pleachref7_Ask_n (n : Nat) (h_0 : Int × (List (List Int)) × List (List ((List Int) × Int))) (id_1 : Int) : Option ((Int × Unit) × Unit) := pleachref7_Ask_T (pleachref7_Ask_L1 n n) h_0 id_1
noncomputable def pleachref7_Ask (h_0 : Int × (List (List Int)) × List (List ((List Int) × Int))) (id_1 : Int) : Option ((Int × Unit) × Unit) := pleachref7_Ask_n 1099511627776 h_0 id_1
theorem pleachref7_Ask_eq (n : Nat) (h_0 : Int × (List (List Int)) × List (List ((List Int) × Int))) (id_1 : Int) : evFn pleachref7_Ask_Γ tab pleachref7_Ask_fi n [.val t29, .val t2] [⟨t2, [false], none⟩] Tryz.f65 (h_0, id_1, ()) = pleachref7_Ask_n n h_0 id_1 := by
  rw [pleachref7_Ask_start, pleachref7_Ask_XL1 n n]
  rfl
noncomputable def pleachref7_Ask_e : Ent := ⟨[.val t29, .val t2], [⟨t2, [false], none⟩], fun x => pleachref7_Ask x.1 x.2.1⟩
theorem pleachref7_Ask_good : Good tab.ty Tryz.prog 65 pleachref7_Ask_e := by
  refine fn_good (Γ := pleachref7_Ask_Γ) (fi := pleachref7_Ask_fi) (n := 1099511627776) follows (gcons pleachref7_Home_good gnil) tabok Tryz.func65 (by kernel_rfl) (by kernel_rfl) (fun x r h => ?_)
  obtain ⟨h_0, id_1, _u⟩ := x
  exact (pleachref7_Ask_eq 1099511627776 h_0 id_1).trans h
noncomputable def pleachref1_MayPath_Γ : Ctx := [(80, pleachref1_Has_e)]
def pleachref1_MayPath_fi : Fi := { keep := [], vty := [], vals := [], live := [(0, [0, 8, 9, 10, 13, 14, 15, 16, 30, 31, 32, 33, 34, 37, 38, 39, 40, 41, 42, 43, 44]), (1, [0, 17, 30, 31, 32, 33, 34, 37, 38, 39, 40, 41, 42, 43, 44]), (2, [2]), (3, [0, 3, 30, 31, 32, 33, 34, 37, 38, 39, 40, 41, 42, 43, 44]), (4, [0, 3, 21, 30, 31, 32, 33, 34, 37, 38, 39, 40, 41, 42, 43, 44]), (5, [0, 3, 30, 31, 32, 33, 34, 37, 38, 39, 40, 41, 42, 43, 44]), (6, [0, 3, 30, 31, 32, 33, 34, 37, 38, 39, 40, 41, 42, 43, 44, 45]), (7, [2]), (8, [2])] }
noncomputable def pleachref1_MayPath_B1 (L1 : List Int → Int → Option ((Bool × Unit) × Unit)) (v1 : List Int) (v2 : Int) : Option ((Bool × Unit) × Unit) :=
 bif decide (v2 < (v1.length : Int)) then
  bif decide (0 ≤ v2) && decide (v2 < (v1.length : Int)) then
   bif decide (List.getD v1 v2.toNat 0 < 1) then
    some ((false, ()), ())
   else
   bif decide (0 ≤ v2) && decide (v2 < (v1.length : Int)) then
    bif decide (List.getD v1 v2.toNat 0 > 8) then
     some ((false, ()), ())
    else
    bif decide (0 ≤ v2) && decide (v2 ≤ (v1.length : Int)) then
     bif decide (0 ≤ v2) && decide (v2 < (v1.length : Int)) then
      Option.bind (pleachref1_Has (List.drop 0 (List.take v2.toNat v1)) (List.getD v1 v2.toNat 0)) fun (r3 : (Bool × Unit) × Unit) =>
      bif r3.1.1 then
       some ((false, ()), ())
      else
       L1 v1 (IntKind.wrap .i64 (v2 + 1))
     else none
    else none
   else none
  else none
 else
  some ((true, ()), ())
noncomputable def pleachref1_MayPath_T (L1 : List Int → Int → Option ((Bool × Unit) × Unit)) (p_0 : List Int) : Option ((Bool × Unit) × Unit) :=
 bif decide ((p_0.length : Int) < 1) then
  some ((false, ()), ())
 else
 bif decide ((p_0.length : Int) > 10) then
  some ((false, ()), ())
 else
 bif decide (0 < (p_0.length : Int)) then
  bif (List.getD p_0 0 0) != 1 then
   some ((false, ()), ())
  else
   L1 p_0 0
 else none
noncomputable def pleachref1_MayPath_L1 (n : Nat) : Nat → List Int → Int → Option ((Bool × Unit) × Unit) := iter (fun _ _ => none) fun L => pleachref1_MayPath_B1 L
noncomputable def pleachref1_MayPath_X1 (n m : Nat) (v1 : List Int) (v2 : Int) : Option ((Bool × Unit) × Unit) :=
 atLoop pleachref1_MayPath_Γ tab (fiB [.val t37] pleachref1_MayPath_fi) n [.val t37] [⟨t4, [false], none⟩] Tryz.f121 [1, 1, 0, 1, 0] [] [0, 3] m
 ⟨[(0, SV.cv (CV.one (LV.pure t37 v1))), (3, SV.cv (CV.one (LV.pure t2 v2)))],
  []⟩
theorem pleachref1_MayPath_step1 (n m : Nat) (v1 : List Int) (v2 : Int) : pleachref1_MayPath_X1 n (m + 1) v1 v2 = pleachref1_MayPath_B1 (pleachref1_MayPath_X1 n m) v1 v2 := by kernel_rfl
theorem pleachref1_MayPath_start (n : Nat) (p_0 : List Int) : evFn pleachref1_MayPath_Γ tab pleachref1_MayPath_fi n [.val t37] [⟨t4, [false], none⟩] Tryz.f121 (p_0, ()) = pleachref1_MayPath_T (pleachref1_MayPath_X1 n n) p_0 := by kernel_rfl
theorem pleachref1_MayPath_XL1 (n : Nat) : ∀ m, pleachref1_MayPath_X1 n m = pleachref1_MayPath_L1 n m
 | 0 => rfl
 | m + 1 => by
  have ih := pleachref1_MayPath_XL1 n m
  funext v1 v2
  rw [pleachref1_MayPath_step1, ih]
  rfl
noncomputable def pleachref1_MayPath_n (n : Nat) (p_0 : List Int) : Option ((Bool × Unit) × Unit) := pleachref1_MayPath_T (pleachref1_MayPath_L1 n n) p_0
noncomputable def pleachref1_MayPath (p_0 : List Int) : Option ((Bool × Unit) × Unit) := pleachref1_MayPath_n 1099511627776 p_0
theorem pleachref1_MayPath_eq (n : Nat) (p_0 : List Int) : evFn pleachref1_MayPath_Γ tab pleachref1_MayPath_fi n [.val t37] [⟨t4, [false], none⟩] Tryz.f121 (p_0, ()) = pleachref1_MayPath_n n p_0 := by
  rw [pleachref1_MayPath_start, pleachref1_MayPath_XL1 n n]
  rfl
noncomputable def pleachref1_MayPath_e : Ent := ⟨[.val t37], [⟨t4, [false], none⟩], fun x => pleachref1_MayPath x.1⟩
theorem pleachref1_MayPath_good : Good tab.ty Tryz.prog 121 pleachref1_MayPath_e := by
  refine fn_good (Γ := pleachref1_MayPath_Γ) (fi := pleachref1_MayPath_fi) (n := 1099511627776) follows (gcons pleachref1_Has_good gnil) tabok Tryz.func121 (by kernel_rfl) (by kernel_rfl) (fun x r h => ?_)
  obtain ⟨p_0, _u⟩ := x
  exact (pleachref1_MayPath_eq 1099511627776 p_0).trans h
noncomputable def pleachref10_seq_Γ : Ctx := []
def pleachref10_seq_fi : Fi := { keep := [], vty := [], vals := [], live := [(0, [0, 6, 7]), (1, [2])] }
noncomputable def pleachref10_seq (n_0 : Int) : Option ((Bool × Unit) × Unit) :=
 bif decide (n_0 ≥ 0) then
  some ((decide (n_0 ≤ 1000000), ()), ())
 else
  some ((false, ()), ())
theorem pleachref10_seq_eq (n_0 : Int) : evFn pleachref10_seq_Γ tab pleachref10_seq_fi 1 [.val t2] [⟨t4, [false], none⟩] Tryz.f122 (n_0, ()) = pleachref10_seq n_0 := by kernel_rfl
noncomputable def pleachref10_seq_e : Ent := ⟨[.val t2], [⟨t4, [false], none⟩], fun x => pleachref10_seq x.1⟩
theorem pleachref10_seq_good : Good tab.ty Tryz.prog 122 pleachref10_seq_e := by
  refine fn_good (Γ := pleachref10_seq_Γ) (fi := pleachref10_seq_fi) (n := 1) follows gnil tabok Tryz.func122 (by kernel_rfl) (by kernel_rfl) (fun x r h => ?_)
  obtain ⟨n_0, _u⟩ := x
  exact (pleachref10_seq_eq n_0).trans h
noncomputable def pleachref1_MaySpan_Γ : Ctx := []
def pleachref1_MaySpan_fi : Fi := { keep := [], vty := [], vals := [], live := [(0, [1, 7, 8, 9, 10, 11, 14, 15, 16]), (1, [2])] }
noncomputable def pleachref1_MaySpan (s_0 : Int × Int) : Option ((Bool × Unit) × Unit) :=
 bif decide (s_0.1 ≥ 1) then
  bif decide (s_0.1 ≤ s_0.2) then
   some ((decide (s_0.2 ≤ 1000000), ()), ())
  else
   some ((false, ()), ())
 else
  some ((false, ()), ())
theorem pleachref1_MaySpan_eq (s_0 : Int × Int) : evFn pleachref1_MaySpan_Γ tab pleachref1_MaySpan_fi 1 [.val t43] [⟨t4, [false], none⟩] Tryz.f79 (s_0, ()) = pleachref1_MaySpan s_0 := by kernel_rfl
noncomputable def pleachref1_MaySpan_e : Ent := ⟨[.val t43], [⟨t4, [false], none⟩], fun x => pleachref1_MaySpan x.1⟩
theorem pleachref1_MaySpan_good : Good tab.ty Tryz.prog 79 pleachref1_MaySpan_e := by
  refine fn_good (Γ := pleachref1_MaySpan_Γ) (fi := pleachref1_MaySpan_fi) (n := 1) follows gnil tabok Tryz.func79 (by kernel_rfl) (by kernel_rfl) (fun x r h => ?_)
  obtain ⟨s_0, _u⟩ := x
  exact (pleachref1_MaySpan_eq s_0).trans h
noncomputable def pleachref1_SameInts_Γ : Ctx := []
def pleachref1_SameInts_fi : Fi := { keep := [], vty := [], vals := [], live := [(0, [0, 1]), (1, [0, 1, 10]), (2, [4]), (3, [0, 1, 5]), (4, [0, 1, 5, 14]), (5, [0, 1, 5]), (6, [0, 1, 5, 25]), (7, [4]), (8, [4])] }
noncomputable def pleachref1_SameInts_B1 (L1 : List Int → List Int → Int → Option ((Bool × Unit) × Unit)) (v1 : List Int) (v2 : List Int) (v3 : Int) : Option ((Bool × Unit) × Unit) :=
 bif decide (v3 < (v1.length : Int)) then
  bif decide (0 ≤ v3) && decide (v3 < (v1.length : Int)) then
   bif decide (0 ≤ v3) && decide (v3 < (v2.length : Int)) then
    bif (List.getD v1 v3.toNat 0) != (List.getD v2 v3.toNat 0) then
     some ((false, ()), ())
    else
     L1 v1 v2 (IntKind.wrap .i64 (v3 + 1))
   else none
  else none
 else
  some ((true, ()), ())
noncomputable def pleachref1_SameInts_T (L1 : List Int → List Int → Int → Option ((Bool × Unit) × Unit)) (a_0 : List Int) (b_1 : List Int) : Option ((Bool × Unit) × Unit) :=
 bif (a_0.length : Int) != (b_1.length : Int) then
  some ((false, ()), ())
 else
  L1 a_0 b_1 0
noncomputable def pleachref1_SameInts_L1 (n : Nat) : Nat → List Int → List Int → Int → Option ((Bool × Unit) × Unit) := iter (fun _ _ _ => none) fun L => pleachref1_SameInts_B1 L
noncomputable def pleachref1_SameInts_X1 (n m : Nat) (v1 : List Int) (v2 : List Int) (v3 : Int) : Option ((Bool × Unit) × Unit) :=
 atLoop pleachref1_SameInts_Γ tab (fiB [.val t37, .val t37] pleachref1_SameInts_fi) n [.val t37, .val t37] [⟨t4, [false], none⟩] Tryz.f14 [1, 1, 0, 1, 0] [] [0, 1, 5] m
 ⟨[(0, SV.cv (CV.one (LV.pure t37 v1))), (1, SV.cv (CV.one (LV.pure t37 v2))), (5, SV.cv (CV.one (LV.pure t2 v3)))],
  []⟩
theorem pleachref1_SameInts_step1 (n m : Nat) (v1 : List Int) (v2 : List Int) (v3 : Int) : pleachref1_SameInts_X1 n (m + 1) v1 v2 v3 = pleachref1_SameInts_B1 (pleachref1_SameInts_X1 n m) v1 v2 v3 := by kernel_rfl
theorem pleachref1_SameInts_start (n : Nat) (a_0 : List Int) (b_1 : List Int) : evFn pleachref1_SameInts_Γ tab pleachref1_SameInts_fi n [.val t37, .val t37] [⟨t4, [false], none⟩] Tryz.f14 (a_0, b_1, ()) = pleachref1_SameInts_T (pleachref1_SameInts_X1 n n) a_0 b_1 := by kernel_rfl
theorem pleachref1_SameInts_XL1 (n : Nat) : ∀ m, pleachref1_SameInts_X1 n m = pleachref1_SameInts_L1 n m
 | 0 => rfl
 | m + 1 => by
  have ih := pleachref1_SameInts_XL1 n m
  funext v1 v2 v3
  rw [pleachref1_SameInts_step1, ih]
  rfl
noncomputable def pleachref1_SameInts_n (n : Nat) (a_0 : List Int) (b_1 : List Int) : Option ((Bool × Unit) × Unit) := pleachref1_SameInts_T (pleachref1_SameInts_L1 n n) a_0 b_1
noncomputable def pleachref1_SameInts (a_0 : List Int) (b_1 : List Int) : Option ((Bool × Unit) × Unit) := pleachref1_SameInts_n 1099511627776 a_0 b_1
theorem pleachref1_SameInts_eq (n : Nat) (a_0 : List Int) (b_1 : List Int) : evFn pleachref1_SameInts_Γ tab pleachref1_SameInts_fi n [.val t37, .val t37] [⟨t4, [false], none⟩] Tryz.f14 (a_0, b_1, ()) = pleachref1_SameInts_n n a_0 b_1 := by
  rw [pleachref1_SameInts_start, pleachref1_SameInts_XL1 n n]
  rfl
noncomputable def pleachref1_SameInts_e : Ent := ⟨[.val t37, .val t37], [⟨t4, [false], none⟩], fun x => pleachref1_SameInts x.1 x.2.1⟩
theorem pleachref1_SameInts_good : Good tab.ty Tryz.prog 14 pleachref1_SameInts_e := by
  refine fn_good (Γ := pleachref1_SameInts_Γ) (fi := pleachref1_SameInts_fi) (n := 1099511627776) follows gnil tabok Tryz.func14 (by kernel_rfl) (by kernel_rfl) (fun x r h => ?_)
  obtain ⟨a_0, b_1, _u⟩ := x
  exact (pleachref1_SameInts_eq 1099511627776 a_0 b_1).trans h
noncomputable def pleachref10_SameMsg_Γ : Ctx := [(14, pleachref1_SameInts_e)]
def pleachref10_SameMsg_fi : Fi := { keep := [], vty := [], vals := [], live := [(0, [2, 3, 11, 12, 13, 14, 15, 18, 19, 20, 21, 22, 25, 26, 27, 28, 29, 32, 33, 34, 35, 36, 39, 40, 41, 42, 43, 46, 47, 48, 49, 50, 53, 54, 55, 56, 57, 60, 61, 62, 63, 64, 67, 68, 69, 70, 71]), (1, [4])] }
noncomputable def pleachref10_SameMsg (a_0 : Int × Int × Int × Int × Int × Int × (List Int) × Int × Int × ByteArray) (b_1 : Int × Int × Int × Int × Int × Int × (List Int) × Int × Int × ByteArray) : Option ((Bool × Unit) × Unit) :=
 bif a_0.1 == b_1.1 then
  bif a_0.2.1 == b_1.2.1 then
   bif a_0.2.2.1 == b_1.2.2.1 then
    bif a_0.2.2.2.1 == b_1.2.2.2.1 then
     bif a_0.2.2.2.2.1 == b_1.2.2.2.2.1 then
      bif a_0.2.2.2.2.2.1 == b_1.2.2.2.2.2.1 then
       bif a_0.2.2.2.2.2.2.2.1 == b_1.2.2.2.2.2.2.2.1 then
        bif a_0.2.2.2.2.2.2.2.2.1 == b_1.2.2.2.2.2.2.2.2.1 then
         bif strEq a_0.2.2.2.2.2.2.2.2.2 b_1.2.2.2.2.2.2.2.2.2 then
          Option.bind (pleachref1_SameInts a_0.2.2.2.2.2.2.1 b_1.2.2.2.2.2.2.1) fun (r1 : (Bool × Unit) × Unit) =>
          some ((r1.1.1, ()), ())
         else
          some ((false, ()), ())
        else
         some ((false, ()), ())
       else
        some ((false, ()), ())
      else
       some ((false, ()), ())
     else
      some ((false, ()), ())
    else
     some ((false, ()), ())
   else
    some ((false, ()), ())
  else
   some ((false, ()), ())
 else
  some ((false, ()), ())
theorem pleachref10_SameMsg_eq (a_0 : Int × Int × Int × Int × Int × Int × (List Int) × Int × Int × ByteArray) (b_1 : Int × Int × Int × Int × Int × Int × (List Int) × Int × Int × ByteArray) : evFn pleachref10_SameMsg_Γ tab pleachref10_SameMsg_fi 1 [.val t130, .val t130] [⟨t4, [false], none⟩] Tryz.f123 (a_0, b_1, ()) = pleachref10_SameMsg a_0 b_1 := by kernel_rfl
noncomputable def pleachref10_SameMsg_e : Ent := ⟨[.val t130, .val t130], [⟨t4, [false], none⟩], fun x => pleachref10_SameMsg x.1 x.2.1⟩
theorem pleachref10_SameMsg_good : Good tab.ty Tryz.prog 123 pleachref10_SameMsg_e := by
  refine fn_good (Γ := pleachref10_SameMsg_Γ) (fi := pleachref10_SameMsg_fi) (n := 1) follows (gcons pleachref1_SameInts_good gnil) tabok Tryz.func123 (by kernel_rfl) (by kernel_rfl) (fun x r h => ?_)
  obtain ⟨a_0, b_1, _u⟩ := x
  exact (pleachref10_SameMsg_eq a_0 b_1).trans h
noncomputable def pleachref10_MayMsg_Γ : Ctx := [(79, pleachref1_MaySpan_e), (121, pleachref1_MayPath_e), (122, pleachref10_seq_e), (123, pleachref10_SameMsg_e)]
def pleachref10_MayMsg_fi : Fi := { keep := [], vty := [], vals := [], live := [(0, [1, 9, 10, 11, 14, 15, 16, 19, 20, 21, 24, 25, 26, 29, 30, 31, 34, 35, 36, 37, 38, 41, 42, 43, 46, 47, 48, 77, 78, 79, 82, 83, 84, 87, 88, 89, 92, 93, 94, 104, 105, 106, 113, 114, 115, 129, 130, 131, 134, 135, 136, 137, 156, 157, 158]), (1, [1, 49, 77, 78, 79, 82, 83, 84, 87, 88, 89, 92, 93, 94, 104, 105, 106, 113, 114, 115, 129, 130, 131, 134, 135, 136, 137, 156, 157, 158]), (2, [2]), (3, [1, 3, 77, 78, 79, 82, 83, 84, 87, 88, 89, 92, 93, 94, 104, 105, 106, 113, 114, 115, 129, 130, 131, 134, 135, 136, 137, 156, 157, 158]), (4, [1, 3, 4, 77, 78, 79, 82, 83, 84, 87, 88, 89, 92, 93, 94, 104, 105, 106, 113, 114, 115, 129, 130, 131, 134, 135, 136, 137, 156, 157, 158]), (5, [1, 3, 4, 60, 77, 78, 79, 82, 83, 84, 87, 88, 89, 92, 93, 94, 104, 105, 106, 113, 114, 115, 129, 130, 131, 134, 135, 136, 137, 156, 157, 158]), (6, [1, 3, 4, 60, 61, 77, 78, 79, 82, 83, 84, 87, 88, 89, 92, 93, 94, 104, 105, 106, 113, 114, 115, 129, 130, 131, 134, 135, 136, 137, 156, 157, 158]), (7, [1, 3, 4, 60, 61, 77, 78, 79, 82, 83, 84, 87, 88, 89, 92, 93, 94, 104, 105, 106, 113, 114, 115, 129, 130, 131, 134, 135, 136, 137, 156, 157, 158]), (8, [1, 3, 77, 78, 79, 82, 83, 84, 87, 88, 89, 92, 93, 94, 104, 105, 106, 113, 114, 115, 156, 157, 158]), (9, [1, 3, 4, 104, 105, 106, 113, 114, 115, 156, 157, 158]), (10, [1, 3, 4, 98, 104, 105, 106, 113, 114, 115, 156, 157, 158]), (11, [1, 3, 4, 104, 105, 106, 156, 157, 158]), (12, [1, 3, 4, 156, 157, 158]), (13, [1, 3, 4, 113, 114, 115, 156, 157, 158]), (14, [1, 3, 4, 156, 157, 158]), (15, [1, 3, 4, 60, 117, 129, 130, 131, 134, 135, 136, 137, 156, 157, 158]), (16, [1, 3, 129, 130, 131, 134, 135, 136, 137, 156, 157, 158]), (17, [1, 3, 4, 156, 157, 158]), (18, [1, 3, 4, 60, 139, 156, 157, 158]), (19, [1, 3, 4, 139, 156, 157, 158]), (20, [1, 3, 156, 157, 158]), (21, [1, 3, 4, 156, 157, 158]), (22, [2])] }
noncomputable def pleachref10_MayMsg (arr_0 : Int × Int × Int × Int × Int × Int × (List Int) × Int × Int × ByteArray) : Option ((Bool × Unit) × Unit) :=
 bif decide (arr_0.1 < 1) then
  some ((false, ()), ())
 else
 bif decide (arr_0.1 > 9) then
  some ((false, ()), ())
 else
 bif decide (arr_0.2.1 < 1) then
  some ((false, ()), ())
 else
 bif decide (arr_0.2.1 > 8) then
  some ((false, ()), ())
 else
 bif decide (arr_0.2.2.1 < 1) then
  some ((false, ()), ())
 else
 bif decide (arr_0.2.2.1 > 8) then
  some ((false, ()), ())
 else
 bif arr_0.2.1 == arr_0.2.2.1 then
  some ((false, ()), ())
 else
 bif decide (arr_0.2.2.2.1 < 1) then
  some ((false, ()), ())
 else
 bif decide (arr_0.2.2.2.1 > 1073741824) then
  some ((false, ()), ())
 else
 bif arr_0.1 == 2 then
  bif arr_0.1 == 2 then
   bif decide (arr_0.2.2.2.2.1 ≥ 0) then
    bif decide (arr_0.2.2.2.2.1 ≤ 1073741824) then
     bif decide (arr_0.2.2.2.2.2.1 ≥ 0) then
      bif decide (arr_0.2.2.2.2.2.1 ≤ 1073741824) then
       Option.bind (pleachref1_MayPath arr_0.2.2.2.2.2.2.1) fun (r1 : (Bool × Unit) × Unit) =>
       bif arr_0.1 == 2 then
        bif r1.1.1 then
         Option.bind (pleachref10_seq arr_0.2.2.2.2.2.2.2.1) fun (r2 : (Bool × Unit) × Unit) =>
         bif r2.1.1 then
          Option.bind (pleachref10_SameMsg (arr_0.1, arr_0.2.1, arr_0.2.2.1, arr_0.2.2.2.1, arr_0.2.2.2.2.1, arr_0.2.2.2.2.2.1, arr_0.2.2.2.2.2.2.1, arr_0.2.2.2.2.2.2.2.1, 0, (⟨#[]⟩ : ByteArray)) arr_0) fun (r3 : (Bool × Unit) × Unit) =>
          some ((r3.1.1, ()), ())
         else
          some ((false, ()), ())
        else
         some ((false, ()), ())
       else
       bif r1.1.1 then
        Option.bind (pleachref10_seq arr_0.2.2.2.2.2.2.2.2.1) fun (r4 : (Bool × Unit) × Unit) =>
        bif r4.1.1 then
         Option.bind (pleachref10_SameMsg (arr_0.1, arr_0.2.1, arr_0.2.2.1, arr_0.2.2.2.1, arr_0.2.2.2.2.1, arr_0.2.2.2.2.2.1, arr_0.2.2.2.2.2.2.1, 0, arr_0.2.2.2.2.2.2.2.2.1, (⟨#[]⟩ : ByteArray)) arr_0) fun (r5 : (Bool × Unit) × Unit) =>
         some ((r5.1.1, ()), ())
        else
         some ((false, ()), ())
       else
        some ((false, ()), ())
      else
      bif arr_0.1 == 2 then
       some ((false, ()), ())
      else
       some ((false, ()), ())
     else
     bif arr_0.1 == 2 then
      some ((false, ()), ())
     else
      some ((false, ()), ())
    else
    bif arr_0.1 == 2 then
     some ((false, ()), ())
    else
     some ((false, ()), ())
   else
   bif arr_0.1 == 2 then
    some ((false, ()), ())
   else
    some ((false, ()), ())
  else
  bif arr_0.1 == 7 then
   bif decide (arr_0.2.2.2.2.2.2.2.1 ≥ 1) then
    Option.bind (pleachref10_seq arr_0.2.2.2.2.2.2.2.1) fun (r6 : (Bool × Unit) × Unit) =>
    bif r6.1.1 then
     bif decide ((arr_0.2.2.2.2.2.2.2.2.2.size : Int) ≤ 12) then
      Option.bind (pleachref10_SameMsg (arr_0.1, arr_0.2.1, arr_0.2.2.1, arr_0.2.2.2.1, 0, 0, [], arr_0.2.2.2.2.2.2.2.1, 0, arr_0.2.2.2.2.2.2.2.2.2) arr_0) fun (r7 : (Bool × Unit) × Unit) =>
      some ((r7.1.1, ()), ())
     else
      some ((false, ()), ())
    else
     some ((false, ()), ())
   else
    some ((false, ()), ())
  else
  bif arr_0.1 == 8 then
   bif arr_0.1 == 8 then
    Option.bind (pleachref1_MaySpan (arr_0.2.2.2.2.2.2.2.1, arr_0.2.2.2.2.2.2.2.2.1)) fun (r8 : (Bool × Unit) × Unit) =>
    bif r8.1.1 then
     Option.bind (pleachref10_SameMsg (arr_0.1, arr_0.2.1, arr_0.2.2.1, arr_0.2.2.2.1, 0, 0, [], arr_0.2.2.2.2.2.2.2.1, arr_0.2.2.2.2.2.2.2.2.1, (⟨#[]⟩ : ByteArray)) arr_0) fun (r9 : (Bool × Unit) × Unit) =>
     some ((r9.1.1, ()), ())
    else
     some ((false, ()), ())
   else
    Option.bind (pleachref10_SameMsg (arr_0.1, arr_0.2.1, arr_0.2.2.1, arr_0.2.2.2.1, 0, 0, [], 0, 0, (⟨#[]⟩ : ByteArray)) arr_0) fun (r10 : (Bool × Unit) × Unit) =>
    some ((r10.1.1, ()), ())
  else
  bif arr_0.1 == 9 then
   Option.bind (pleachref1_MaySpan (arr_0.2.2.2.2.2.2.2.1, arr_0.2.2.2.2.2.2.2.2.1)) fun (r11 : (Bool × Unit) × Unit) =>
   bif r11.1.1 then
    Option.bind (pleachref10_SameMsg (arr_0.1, arr_0.2.1, arr_0.2.2.1, arr_0.2.2.2.1, 0, 0, [], arr_0.2.2.2.2.2.2.2.1, arr_0.2.2.2.2.2.2.2.2.1, (⟨#[]⟩ : ByteArray)) arr_0) fun (r12 : (Bool × Unit) × Unit) =>
    some ((r12.1.1, ()), ())
   else
    some ((false, ()), ())
  else
   Option.bind (pleachref10_SameMsg (arr_0.1, arr_0.2.1, arr_0.2.2.1, arr_0.2.2.2.1, 0, 0, [], 0, 0, (⟨#[]⟩ : ByteArray)) arr_0) fun (r13 : (Bool × Unit) × Unit) =>
   some ((r13.1.1, ()), ())
 else
 bif arr_0.1 == 5 then
  bif decide (arr_0.2.2.2.2.1 ≥ 0) then
   bif decide (arr_0.2.2.2.2.1 ≤ 1073741824) then
    bif decide (arr_0.2.2.2.2.2.1 ≥ 0) then
     bif decide (arr_0.2.2.2.2.2.1 ≤ 1073741824) then
      Option.bind (pleachref1_MayPath arr_0.2.2.2.2.2.2.1) fun (r14 : (Bool × Unit) × Unit) =>
      bif arr_0.1 == 2 then
       bif r14.1.1 then
        Option.bind (pleachref10_seq arr_0.2.2.2.2.2.2.2.1) fun (r15 : (Bool × Unit) × Unit) =>
        bif r15.1.1 then
         Option.bind (pleachref10_SameMsg (arr_0.1, arr_0.2.1, arr_0.2.2.1, arr_0.2.2.2.1, arr_0.2.2.2.2.1, arr_0.2.2.2.2.2.1, arr_0.2.2.2.2.2.2.1, arr_0.2.2.2.2.2.2.2.1, 0, (⟨#[]⟩ : ByteArray)) arr_0) fun (r16 : (Bool × Unit) × Unit) =>
         some ((r16.1.1, ()), ())
        else
         some ((false, ()), ())
       else
        some ((false, ()), ())
      else
      bif r14.1.1 then
       Option.bind (pleachref10_seq arr_0.2.2.2.2.2.2.2.2.1) fun (r17 : (Bool × Unit) × Unit) =>
       bif r17.1.1 then
        Option.bind (pleachref10_SameMsg (arr_0.1, arr_0.2.1, arr_0.2.2.1, arr_0.2.2.2.1, arr_0.2.2.2.2.1, arr_0.2.2.2.2.2.1, arr_0.2.2.2.2.2.2.1, 0, arr_0.2.2.2.2.2.2.2.2.1, (⟨#[]⟩ : ByteArray)) arr_0) fun (r18 : (Bool × Unit) × Unit) =>
        some ((r18.1.1, ()), ())
       else
        some ((false, ()), ())
      else
       some ((false, ()), ())
     else
     bif arr_0.1 == 2 then
      some ((false, ()), ())
     else
      some ((false, ()), ())
    else
    bif arr_0.1 == 2 then
     some ((false, ()), ())
    else
     some ((false, ()), ())
   else
   bif arr_0.1 == 2 then
    some ((false, ()), ())
   else
    some ((false, ()), ())
  else
  bif arr_0.1 == 2 then
   some ((false, ()), ())
  else
   some ((false, ()), ())
 else
 bif arr_0.1 == 7 then
  bif decide (arr_0.2.2.2.2.2.2.2.1 ≥ 1) then
   Option.bind (pleachref10_seq arr_0.2.2.2.2.2.2.2.1) fun (r19 : (Bool × Unit) × Unit) =>
   bif r19.1.1 then
    bif decide ((arr_0.2.2.2.2.2.2.2.2.2.size : Int) ≤ 12) then
     Option.bind (pleachref10_SameMsg (arr_0.1, arr_0.2.1, arr_0.2.2.1, arr_0.2.2.2.1, 0, 0, [], arr_0.2.2.2.2.2.2.2.1, 0, arr_0.2.2.2.2.2.2.2.2.2) arr_0) fun (r20 : (Bool × Unit) × Unit) =>
     some ((r20.1.1, ()), ())
    else
     some ((false, ()), ())
   else
    some ((false, ()), ())
  else
   some ((false, ()), ())
 else
 bif arr_0.1 == 8 then
  bif arr_0.1 == 8 then
   Option.bind (pleachref1_MaySpan (arr_0.2.2.2.2.2.2.2.1, arr_0.2.2.2.2.2.2.2.2.1)) fun (r21 : (Bool × Unit) × Unit) =>
   bif r21.1.1 then
    Option.bind (pleachref10_SameMsg (arr_0.1, arr_0.2.1, arr_0.2.2.1, arr_0.2.2.2.1, 0, 0, [], arr_0.2.2.2.2.2.2.2.1, arr_0.2.2.2.2.2.2.2.2.1, (⟨#[]⟩ : ByteArray)) arr_0) fun (r22 : (Bool × Unit) × Unit) =>
    some ((r22.1.1, ()), ())
   else
    some ((false, ()), ())
  else
   Option.bind (pleachref10_SameMsg (arr_0.1, arr_0.2.1, arr_0.2.2.1, arr_0.2.2.2.1, 0, 0, [], 0, 0, (⟨#[]⟩ : ByteArray)) arr_0) fun (r23 : (Bool × Unit) × Unit) =>
   some ((r23.1.1, ()), ())
 else
 bif arr_0.1 == 9 then
  Option.bind (pleachref1_MaySpan (arr_0.2.2.2.2.2.2.2.1, arr_0.2.2.2.2.2.2.2.2.1)) fun (r24 : (Bool × Unit) × Unit) =>
  bif r24.1.1 then
   Option.bind (pleachref10_SameMsg (arr_0.1, arr_0.2.1, arr_0.2.2.1, arr_0.2.2.2.1, 0, 0, [], arr_0.2.2.2.2.2.2.2.1, arr_0.2.2.2.2.2.2.2.2.1, (⟨#[]⟩ : ByteArray)) arr_0) fun (r25 : (Bool × Unit) × Unit) =>
   some ((r25.1.1, ()), ())
  else
   some ((false, ()), ())
 else
  Option.bind (pleachref10_SameMsg (arr_0.1, arr_0.2.1, arr_0.2.2.1, arr_0.2.2.2.1, 0, 0, [], 0, 0, (⟨#[]⟩ : ByteArray)) arr_0) fun (r26 : (Bool × Unit) × Unit) =>
  some ((r26.1.1, ()), ())
theorem pleachref10_MayMsg_eq (arr_0 : Int × Int × Int × Int × Int × Int × (List Int) × Int × Int × ByteArray) : evFn pleachref10_MayMsg_Γ tab pleachref10_MayMsg_fi 1 [.val t130] [⟨t4, [false], none⟩] Tryz.f94 (arr_0, ()) = pleachref10_MayMsg arr_0 := by kernel_rfl
noncomputable def pleachref10_MayMsg_e : Ent := ⟨[.val t130], [⟨t4, [false], none⟩], fun x => pleachref10_MayMsg x.1⟩
theorem pleachref10_MayMsg_good : Good tab.ty Tryz.prog 94 pleachref10_MayMsg_e := by
  refine fn_good (Γ := pleachref10_MayMsg_Γ) (fi := pleachref10_MayMsg_fi) (n := 1) follows (gcons pleachref1_MaySpan_good (gcons pleachref1_MayPath_good (gcons pleachref10_seq_good (gcons pleachref10_SameMsg_good gnil)))) tabok Tryz.func94 (by kernel_rfl) (by kernel_rfl) (fun x r h => ?_)
  obtain ⟨arr_0, _u⟩ := x
  exact (pleachref10_MayMsg_eq arr_0).trans h
noncomputable def pleachref10_PutNum_Γ : Ctx := []
def pleachref10_PutNum_fi : Fi := { keep := [], vty := [], vals := [], live := [(0, [0, 1]), (1, [1, 5]), (2, [1, 5, 10]), (3, [1, 5]), (4, [4])] }
noncomputable def pleachref10_PutNum_B1 (L1 : Int → List Int → Option (((List Int) × Unit) × Unit)) (v1 : Int) (v2 : List Int) : Option (((List Int) × Unit) × Unit) :=
 bif decide (v1 ≥ 128) then
  bif Nat.ble (v2.length + 1) 1073741824 then
   L1 (IntKind.wrap .i64 (Int.tdiv v1 128)) (v2 ++ [IntKind.wrap .u8 (IntKind.wrap .i64 ((Int.tmod v1 128) + 128))])
  else none
 else
 bif Nat.ble (v2.length + 1) 1073741824 then
  some ((v2 ++ [IntKind.wrap .u8 v1], ()), ())
 else none
noncomputable def pleachref10_PutNum_T (L1 : Int → List Int → Option (((List Int) × Unit) × Unit)) (b_0 : List Int) (v_1 : Int) : Option (((List Int) × Unit) × Unit) :=
 bif Nat.ble (0 + b_0.length) 1073741824 then
  L1 v_1 ([] ++ b_0)
 else none
noncomputable def pleachref10_PutNum_L1 (n : Nat) : Nat → Int → List Int → Option (((List Int) × Unit) × Unit) := iter (fun _ _ => none) fun L => pleachref10_PutNum_B1 L
noncomputable def pleachref10_PutNum_X1 (n m : Nat) (v1 : Int) (v2 : List Int) : Option (((List Int) × Unit) × Unit) :=
 atLoop pleachref10_PutNum_Γ tab (fiB [.val t22, .val t2] pleachref10_PutNum_fi) n [.val t22, .val t2] [⟨t22, [true], none⟩] Tryz.f95 [1, 1, 0, 0] [] [1, 5] m
 ⟨[(1, SV.cv (CV.one (LV.pure t2 v1))), (5, SV.cv (CV.one (LV.ref (888888, 5))))],
  [((888888, 5), Ob.row 5 t5 v2)]⟩
theorem pleachref10_PutNum_step1 (n m : Nat) (v1 : Int) (v2 : List Int) : pleachref10_PutNum_X1 n (m + 1) v1 v2 = pleachref10_PutNum_B1 (pleachref10_PutNum_X1 n m) v1 v2 := by kernel_rfl
theorem pleachref10_PutNum_start (n : Nat) (b_0 : List Int) (v_1 : Int) : evFn pleachref10_PutNum_Γ tab pleachref10_PutNum_fi n [.val t22, .val t2] [⟨t22, [true], none⟩] Tryz.f95 (b_0, v_1, ()) = pleachref10_PutNum_T (pleachref10_PutNum_X1 n n) b_0 v_1 := by kernel_rfl
theorem pleachref10_PutNum_XL1 (n : Nat) : ∀ m, pleachref10_PutNum_X1 n m = pleachref10_PutNum_L1 n m
 | 0 => rfl
 | m + 1 => by
  have ih := pleachref10_PutNum_XL1 n m
  funext v1 v2
  rw [pleachref10_PutNum_step1, ih]
  rfl
noncomputable def pleachref10_PutNum_n (n : Nat) (b_0 : List Int) (v_1 : Int) : Option (((List Int) × Unit) × Unit) := pleachref10_PutNum_T (pleachref10_PutNum_L1 n n) b_0 v_1
noncomputable def pleachref10_PutNum (b_0 : List Int) (v_1 : Int) : Option (((List Int) × Unit) × Unit) := pleachref10_PutNum_n 1099511627776 b_0 v_1
theorem pleachref10_PutNum_eq (n : Nat) (b_0 : List Int) (v_1 : Int) : evFn pleachref10_PutNum_Γ tab pleachref10_PutNum_fi n [.val t22, .val t2] [⟨t22, [true], none⟩] Tryz.f95 (b_0, v_1, ()) = pleachref10_PutNum_n n b_0 v_1 := by
  rw [pleachref10_PutNum_start, pleachref10_PutNum_XL1 n n]
  rfl
noncomputable def pleachref10_PutNum_e : Ent := ⟨[.val t22, .val t2], [⟨t22, [true], none⟩], fun x => pleachref10_PutNum x.1 x.2.1⟩
theorem pleachref10_PutNum_good : Good tab.ty Tryz.prog 95 pleachref10_PutNum_e := by
  refine fn_good (Γ := pleachref10_PutNum_Γ) (fi := pleachref10_PutNum_fi) (n := 1099511627776) follows gnil tabok Tryz.func95 (by kernel_rfl) (by kernel_rfl) (fun x r h => ?_)
  obtain ⟨b_0, v_1, _u⟩ := x
  exact (pleachref10_PutNum_eq 1099511627776 b_0 v_1).trans h
noncomputable def pleachref10_PutText_Γ : Ctx := [(95, pleachref10_PutNum_e)]
def pleachref10_PutText_fi : Fi := { keep := [], vty := [], vals := [], live := [(0, [0, 1]), (1, [4])] }
noncomputable def pleachref10_PutText (b_0 : List Int) (s_1 : ByteArray) : Option (((List Int) × Unit) × Unit) :=
 Option.bind (pleachref10_PutNum b_0 (s_1.size : Int)) fun (r1 : ((List Int) × Unit) × Unit) =>
 bif Nat.ble (r1.1.1.length + (s_1.data.toList.map fun b => (b.toNat : Int)).length) 1073741824 then
  some ((r1.1.1 ++ (s_1.data.toList.map fun b => (b.toNat : Int)), ()), ())
 else none
theorem pleachref10_PutText_eq (b_0 : List Int) (s_1 : ByteArray) : evFn pleachref10_PutText_Γ tab pleachref10_PutText_fi 1 [.val t22, .val t9] [⟨t22, [true], none⟩] Tryz.f96 (b_0, s_1, ()) = pleachref10_PutText b_0 s_1 := by kernel_rfl
noncomputable def pleachref10_PutText_e : Ent := ⟨[.val t22, .val t9], [⟨t22, [true], none⟩], fun x => pleachref10_PutText x.1 x.2.1⟩
theorem pleachref10_PutText_good : Good tab.ty Tryz.prog 96 pleachref10_PutText_e := by
  refine fn_good (Γ := pleachref10_PutText_Γ) (fi := pleachref10_PutText_fi) (n := 1) follows (gcons pleachref10_PutNum_good gnil) tabok Tryz.func96 (by kernel_rfl) (by kernel_rfl) (fun x r h => ?_)
  obtain ⟨b_0, s_1, _u⟩ := x
  exact (pleachref10_PutText_eq b_0 s_1).trans h
noncomputable def pleachref10_Sum_Γ : Ctx := []
def pleachref10_Sum_fi : Fi := { keep := [], vty := [], vals := [], live := [(0, [0]), (1, [0, 3]), (2, [0, 3, 4]), (3, [0, 3, 4, 9]), (4, [0, 3, 4]), (5, [0, 3, 4]), (6, [0, 3, 4, 5]), (7, [0, 3, 4, 5, 20]), (8, [0, 3, 4, 5]), (9, [0, 3, 4, 5, 25]), (10, [0, 3, 4, 5]), (11, [0, 3, 4, 5]), (12, [2])] }
noncomputable def pleachref10_Sum_B1 (L2 : List Int → Int → Int → Int → Option ((Int × Unit) × Unit)) (v1 : List Int) (v2 : Int) (v3 : Int) : Option ((Int × Unit) × Unit) :=
 bif decide (v3 < (v1.length : Int)) then
  bif decide (0 ≤ v3) && decide (v3 < (v1.length : Int)) then
   L2 v1 (IntKind.wrap .u32 ((BitVec.ofInt 32 v2 ^^^ BitVec.ofInt 32 (IntKind.wrap .u32 (List.getD v1 v3.toNat 0))).toNat)) v3 0
  else none
 else
  some ((IntKind.wrap .u32 ((BitVec.ofInt 32 4294967295 ^^^ BitVec.ofInt 32 v2).toNat), ()), ())
noncomputable def pleachref10_Sum_B2 (L2 : List Int → Int → Int → Int → Option ((Int × Unit) × Unit)) (L1 : List Int → Int → Int → Option ((Int × Unit) × Unit)) (v4 : List Int) (v5 : Int) (v6 : Int) (v7 : Int) : Option ((Int × Unit) × Unit) :=
 bif decide (v7 < 8) then
  bif (Int.tmod v5 2) == 1 then
   L2 v4 (IntKind.wrap .u32 ((BitVec.ofInt 32 (IntKind.wrap .u32 (Int.tdiv v5 2)) ^^^ BitVec.ofInt 32 3988292384).toNat)) v6 (IntKind.wrap .i64 (v7 + 1))
  else
   L2 v4 (IntKind.wrap .u32 (Int.tdiv v5 2)) v6 (IntKind.wrap .i64 (v7 + 1))
 else
  L1 v4 v5 (IntKind.wrap .i64 (v6 + 1))
noncomputable def pleachref10_Sum_T (L1 : List Int → Int → Int → Option ((Int × Unit) × Unit)) (b_0 : List Int) : Option ((Int × Unit) × Unit) :=
 L1 b_0 4294967295 0
noncomputable def pleachref10_Sum_L2 (n : Nat) (m1 : Nat) (r1 : List Int → Int → Int → Option ((Int × Unit) × Unit)) : Nat → List Int → Int → Int → Int → Option ((Int × Unit) × Unit) := iter (fun _ _ _ _ => none) fun L => pleachref10_Sum_B2 L r1
noncomputable def pleachref10_Sum_L1 (n : Nat) : Nat → List Int → Int → Int → Option ((Int × Unit) × Unit) := iterN (fun _ _ _ => none) fun m L => pleachref10_Sum_B1 (pleachref10_Sum_L2 n m L n)
noncomputable def pleachref10_Sum_X1 (n m : Nat) (v1 : List Int) (v2 : Int) (v3 : Int) : Option ((Int × Unit) × Unit) :=
 atLoop pleachref10_Sum_Γ tab (fiB [.val t22] pleachref10_Sum_fi) n [.val t22] [⟨t159, [false], none⟩] Tryz.f97 [1, 1, 0, 1, 0] [] [0, 3, 4] m
 ⟨[(0, SV.cv (CV.one (LV.pure t22 v1))), (3, SV.cv (CV.one (LV.pure t159 v2))), (4, SV.cv (CV.one (LV.pure t2 v3)))],
  []⟩
noncomputable def pleachref10_Sum_X2 (n m1 m : Nat) (v4 : List Int) (v5 : Int) (v6 : Int) (v7 : Int) : Option ((Int × Unit) × Unit) :=
 atLoop pleachref10_Sum_Γ tab (fiB [.val t22] pleachref10_Sum_fi) n [.val t22] [⟨t159, [false], none⟩] Tryz.f97 [1, 1, 0, 1, 0, 0, 1, 0, 0, 1, 1, 0] [(m1, [0, 3, 4])] [0, 3, 4, 5] m
 ⟨[(0, SV.cv (CV.one (LV.pure t22 v4))), (3, SV.cv (CV.one (LV.pure t159 v5))), (4, SV.cv (CV.one (LV.pure t2 v6))), (5, SV.cv (CV.one (LV.pure t2 v7)))],
  []⟩
theorem pleachref10_Sum_step1 (n m : Nat) (v1 : List Int) (v2 : Int) (v3 : Int) : pleachref10_Sum_X1 n (m + 1) v1 v2 v3 = pleachref10_Sum_B1 (pleachref10_Sum_X2 n m n) v1 v2 v3 := by kernel_rfl
theorem pleachref10_Sum_step2 (n m1 m : Nat) (v4 : List Int) (v5 : Int) (v6 : Int) (v7 : Int) : pleachref10_Sum_X2 n m1 (m + 1) v4 v5 v6 v7 = pleachref10_Sum_B2 (pleachref10_Sum_X2 n m1 m) (pleachref10_Sum_X1 n m1) v4 v5 v6 v7 := by kernel_rfl
theorem pleachref10_Sum_start (n : Nat) (b_0 : List Int) : evFn pleachref10_Sum_Γ tab pleachref10_Sum_fi n [.val t22] [⟨t159, [false], none⟩] Tryz.f97 (b_0, ()) = pleachref10_Sum_T (pleachref10_Sum_X1 n n) b_0 := by kernel_rfl
theorem pleachref10_Sum_XL2 (n : Nat) (m1 : Nat) (r1 : List Int → Int → Int → Option ((Int × Unit) × Unit)) (h1 : pleachref10_Sum_X1 n m1 = r1) : ∀ m, pleachref10_Sum_X2 n m1 m = pleachref10_Sum_L2 n m1 r1 m
 | 0 => rfl
 | m + 1 => by
  have ih := pleachref10_Sum_XL2 n m1 r1 h1 m
  funext v4 v5 v6 v7
  rw [pleachref10_Sum_step2, ih, h1]
  rfl
theorem pleachref10_Sum_XL1 (n : Nat) : ∀ m, pleachref10_Sum_X1 n m = pleachref10_Sum_L1 n m
 | 0 => rfl
 | m + 1 => by
  have ih := pleachref10_Sum_XL1 n m
  funext v1 v2 v3
  rw [pleachref10_Sum_step1, pleachref10_Sum_XL2 n m _ ih n]
  rfl
noncomputable def pleachref10_Sum_n (n : Nat) (b_0 : List Int) : Option ((Int × Unit) × Unit) := pleachref10_Sum_T (pleachref10_Sum_L1 n n) b_0
noncomputable def pleachref10_Sum (b_0 : List Int) : Option ((Int × Unit) × Unit) := pleachref10_Sum_n 1099511627776 b_0
theorem pleachref10_Sum_eq (n : Nat) (b_0 : List Int) : evFn pleachref10_Sum_Γ tab pleachref10_Sum_fi n [.val t22] [⟨t159, [false], none⟩] Tryz.f97 (b_0, ()) = pleachref10_Sum_n n b_0 := by
  rw [pleachref10_Sum_start, pleachref10_Sum_XL1 n n]
  rfl
noncomputable def pleachref10_Sum_e : Ent := ⟨[.val t22], [⟨t159, [false], none⟩], fun x => pleachref10_Sum x.1⟩
theorem pleachref10_Sum_good : Good tab.ty Tryz.prog 97 pleachref10_Sum_e := by
  refine fn_good (Γ := pleachref10_Sum_Γ) (fi := pleachref10_Sum_fi) (n := 1099511627776) follows gnil tabok Tryz.func97 (by kernel_rfl) (by kernel_rfl) (fun x r h => ?_)
  obtain ⟨b_0, _u⟩ := x
  exact (pleachref10_Sum_eq 1099511627776 b_0).trans h
noncomputable def pleachref10_PutMsg_Γ : Ctx := [(94, pleachref10_MayMsg_e), (95, pleachref10_PutNum_e), (96, pleachref10_PutText_e), (97, pleachref10_Sum_e)]
def pleachref10_PutMsg_fi : Fi := { keep := [], vty := [(4, 22)], vals := [], live := [(0, [1]), (1, [1, 9]), (2, [2]), (3, [1, 3]), (4, [1, 3]), (5, [1, 3, 4]), (6, [1, 3, 4, 5]), (7, [1, 3, 4, 5, 39]), (8, [1, 3, 4, 5]), (9, [1, 3, 4, 5]), (10, [4]), (11, [4, 6]), (12, [2])] }
noncomputable def pleachref10_PutMsg_B1 (L1 : Int → Int → Int → Int → Int → Int → Int → List Int → Int → Int → ByteArray → List Int → List Int → Option (((List Int) × Unit) × Unit)) (v2 : Int) (v3 : Int) (v4 : Int) (v5 : Int) (v6 : Int) (v7 : Int) (v8 : Int) (v9 : List Int) (v10 : Int) (v11 : Int) (v12 : ByteArray) (v13 : List Int) (v14 : List Int) : Option (((List Int) × Unit) × Unit) :=
 bif decide (v2 < (v13.length : Int)) then
  bif decide (0 ≤ v2) && decide (v2 < (v13.length : Int)) then
   bif decide (0 ≤ v2) && decide (v2 < (v13.length : Int)) then
    Option.bind (pleachref10_PutNum v14 (List.getD v13 v2.toNat 0)) fun (r15 : ((List Int) × Unit) × Unit) =>
    L1 (IntKind.wrap .i64 (v2 + 1)) v3 v4 v5 v6 v7 v8 v9 v10 v11 v12 v13 r15.1.1
   else none
  else none
 else
  Option.bind (pleachref10_PutText v14 v12) fun (r16 : ((List Int) × Unit) × Unit) =>
  Option.bind (pleachref10_Sum r16.1.1) fun (r17 : (Int × Unit) × Unit) =>
  bif Nat.ble (r16.1.1.length + 4) 1073741824 then
   some ((r16.1.1 ++ [IntKind.wrap .u8 (Int.fdiv r17.1.1 (2 ^ 24)), IntKind.wrap .u8 (Int.fdiv r17.1.1 (2 ^ 16)), IntKind.wrap .u8 (Int.fdiv r17.1.1 (2 ^ 8)), IntKind.wrap .u8 r17.1.1], ()), ())
  else none
noncomputable def pleachref10_PutMsg_T (L1 : Int → Int → Int → Int → Int → Int → Int → List Int → Int → Int → ByteArray → List Int → List Int → Option (((List Int) × Unit) × Unit)) (m_0 : Int × Int × Int × Int × Int × Int × (List Int) × Int × Int × ByteArray) : Option (((List Int) × Unit) × Unit) :=
 Option.bind (pleachref10_MayMsg m_0) fun (r1 : (Bool × Unit) × Unit) =>
 bif !r1.1.1 then
  some (([], ()), ())
 else
 bif Nat.ble (7 + m_0.2.2.2.2.2.2.1.length) 1073741824 then
  bif Nat.ble (([m_0.1, m_0.2.1, m_0.2.2.1, m_0.2.2.2.1, m_0.2.2.2.2.1, m_0.2.2.2.2.2.1, (m_0.2.2.2.2.2.2.1.length : Int)] ++ m_0.2.2.2.2.2.2.1).length + 2) 1073741824 then
   L1 0 m_0.1 m_0.2.1 m_0.2.2.1 m_0.2.2.2.1 m_0.2.2.2.2.1 m_0.2.2.2.2.2.1 m_0.2.2.2.2.2.2.1 m_0.2.2.2.2.2.2.2.1 m_0.2.2.2.2.2.2.2.2.1 m_0.2.2.2.2.2.2.2.2.2 (([m_0.1, m_0.2.1, m_0.2.2.1, m_0.2.2.2.1, m_0.2.2.2.2.1, m_0.2.2.2.2.2.1, (m_0.2.2.2.2.2.2.1.length : Int)] ++ m_0.2.2.2.2.2.2.1) ++ [m_0.2.2.2.2.2.2.2.1, m_0.2.2.2.2.2.2.2.2.1]) []
  else none
 else none
noncomputable def pleachref10_PutMsg_L1 (n : Nat) : Nat → Int → Int → Int → Int → Int → Int → Int → List Int → Int → Int → ByteArray → List Int → List Int → Option (((List Int) × Unit) × Unit) := iter (fun _ _ _ _ _ _ _ _ _ _ _ _ _ => none) fun L => pleachref10_PutMsg_B1 L
noncomputable def pleachref10_PutMsg_X1 (n m : Nat) (v2 : Int) (v3 : Int) (v4 : Int) (v5 : Int) (v6 : Int) (v7 : Int) (v8 : Int) (v9 : List Int) (v10 : Int) (v11 : Int) (v12 : ByteArray) (v13 : List Int) (v14 : List Int) : Option (((List Int) × Unit) × Unit) :=
 atLoop pleachref10_PutMsg_Γ tab (fiB [.val t130] pleachref10_PutMsg_fi) n [.val t130] [⟨t22, [true], none⟩] Tryz.f72 [1, 1, 1, 1, 1, 0, 1, 0] [] [1, 3, 4, 5] m
 ⟨[(1, SV.cv (CV.one (LV.ptr (1, 0) 0))), (3, SV.cv (CV.one (LV.ref (888888, 3)))), (4, SV.cv (CV.one (LV.ref (888888, 4)))), (5, SV.cv (CV.one (LV.pure t2 v2)))],
  [((1, 0), Ob.box 131 [LV.pure t2 v3, LV.pure t2 v4, LV.pure t2 v5, LV.pure t2 v6, LV.pure t2 v7, LV.pure t2 v8, LV.pure t37 v9, LV.pure t2 v10, LV.pure t2 v11, LV.pure t9 v12]), ((888888, 3), Ob.row 3 t2 v13), ((888888, 4), Ob.row 5 t5 v14)]⟩
theorem pleachref10_PutMsg_step1 (n m : Nat) (v2 : Int) (v3 : Int) (v4 : Int) (v5 : Int) (v6 : Int) (v7 : Int) (v8 : Int) (v9 : List Int) (v10 : Int) (v11 : Int) (v12 : ByteArray) (v13 : List Int) (v14 : List Int) : pleachref10_PutMsg_X1 n (m + 1) v2 v3 v4 v5 v6 v7 v8 v9 v10 v11 v12 v13 v14 = pleachref10_PutMsg_B1 (pleachref10_PutMsg_X1 n m) v2 v3 v4 v5 v6 v7 v8 v9 v10 v11 v12 v13 v14 := by kernel_rfl
theorem pleachref10_PutMsg_start (n : Nat) (m_0 : Int × Int × Int × Int × Int × Int × (List Int) × Int × Int × ByteArray) : evFn pleachref10_PutMsg_Γ tab pleachref10_PutMsg_fi n [.val t130] [⟨t22, [true], none⟩] Tryz.f72 (m_0, ()) = pleachref10_PutMsg_T (pleachref10_PutMsg_X1 n n) m_0 := by kernel_rfl
theorem pleachref10_PutMsg_XL1 (n : Nat) : ∀ m, pleachref10_PutMsg_X1 n m = pleachref10_PutMsg_L1 n m
 | 0 => rfl
 | m + 1 => by
  have ih := pleachref10_PutMsg_XL1 n m
  funext v2 v3 v4 v5 v6 v7 v8 v9 v10 v11 v12 v13 v14
  rw [pleachref10_PutMsg_step1, ih]
  rfl
noncomputable def pleachref10_PutMsg_n (n : Nat) (m_0 : Int × Int × Int × Int × Int × Int × (List Int) × Int × Int × ByteArray) : Option (((List Int) × Unit) × Unit) := pleachref10_PutMsg_T (pleachref10_PutMsg_L1 n n) m_0
noncomputable def pleachref10_PutMsg (m_0 : Int × Int × Int × Int × Int × Int × (List Int) × Int × Int × ByteArray) : Option (((List Int) × Unit) × Unit) := pleachref10_PutMsg_n 1099511627776 m_0
theorem pleachref10_PutMsg_eq (n : Nat) (m_0 : Int × Int × Int × Int × Int × Int × (List Int) × Int × Int × ByteArray) : evFn pleachref10_PutMsg_Γ tab pleachref10_PutMsg_fi n [.val t130] [⟨t22, [true], none⟩] Tryz.f72 (m_0, ()) = pleachref10_PutMsg_n n m_0 := by
  rw [pleachref10_PutMsg_start, pleachref10_PutMsg_XL1 n n]
  rfl
noncomputable def pleachref10_PutMsg_e : Ent := ⟨[.val t130], [⟨t22, [true], none⟩], fun x => pleachref10_PutMsg x.1⟩
theorem pleachref10_PutMsg_good : Good tab.ty Tryz.prog 72 pleachref10_PutMsg_e := by
  refine fn_good (Γ := pleachref10_PutMsg_Γ) (fi := pleachref10_PutMsg_fi) (n := 1099511627776) follows (gcons pleachref10_MayMsg_good (gcons pleachref10_PutNum_good (gcons pleachref10_PutText_good (gcons pleachref10_Sum_good gnil)))) tabok Tryz.func72 (by kernel_rfl) (by kernel_rfl) (fun x r h => ?_)
  obtain ⟨m_0, _u⟩ := x
  exact (pleachref10_PutMsg_eq 1099511627776 m_0).trans h
noncomputable def pleachref13_Send_Γ : Ctx := []
def pleachref13_Send_fi : Fi := { keep := [], vty := [], vals := [], live := [(0, [0, 3]), (1, [0, 3, 5]), (2, [3, 5, 11]), (3, [5]), (4, [4])] }
noncomputable def pleachref13_Send (l_0 : List (Int × ByteArray × Bool)) (g_1 : Int × ByteArray × Bool) : Option (((List (Int × ByteArray × Bool)) × Unit) × Unit) :=
 bif Nat.ble (0 + l_0.length) 1073741824 then
  bif decide ((l_0.length : Int) < 60) then
   bif Nat.ble (([] ++ l_0).length + 1) 1073741824 then
    some ((([] ++ l_0) ++ [g_1], ()), ())
   else none
  else
   some (([] ++ l_0, ()), ())
 else none
theorem pleachref13_Send_eq (l_0 : List (Int × ByteArray × Bool)) (g_1 : Int × ByteArray × Bool) : evFn pleachref13_Send_Γ tab pleachref13_Send_fi 1 [.val t25, .val t93] [⟨t25, [true], none⟩] Tryz.f73 (l_0, g_1, ()) = pleachref13_Send l_0 g_1 := by kernel_rfl
noncomputable def pleachref13_Send_e : Ent := ⟨[.val t25, .val t93], [⟨t25, [true], none⟩], fun x => pleachref13_Send x.1 x.2.1⟩
theorem pleachref13_Send_good : Good tab.ty Tryz.prog 73 pleachref13_Send_e := by
  refine fn_good (Γ := pleachref13_Send_Γ) (fi := pleachref13_Send_fi) (n := 1) follows gnil tabok Tryz.func73 (by kernel_rfl) (by kernel_rfl) (fun x r h => ?_)
  obtain ⟨l_0, g_1, _u⟩ := x
  exact (pleachref13_Send_eq l_0 g_1).trans h
noncomputable def pleachref21_with_Γ : Ctx := [(72, pleachref10_PutMsg_e), (73, pleachref13_Send_e)]
def pleachref21_with_fi : Fi := { keep := [], vty := [], vals := [], live := [(0, [1, 3, 4, 6, 8]), (1, [1, 3, 4, 6, 8]), (2, [3, 4, 8]), (3, [3, 4, 8, 9]), (4, [3, 4, 8, 9, 24]), (5, [3, 4, 8, 9]), (6, [3, 4, 8, 9, 10]), (7, [3, 4, 8, 9, 10, 34]), (8, [3, 4, 8, 9]), (9, [8])] }
noncomputable def pleachref21_with_B1 (L2 : (List (Int × Int × Int × Int × Int × Int × (List Int) × Int × Int × ByteArray)) → Int → List ByteArray → Int → List (List Int) → (List (List ((List Int) × Int))) → (List (Bool × Int × ByteArray × (Int × Int × Int × Int × Int × Int × (List Int) × Int × Int × Int × Int × Int × List (Int × Int × Int)) × (Int × Int × (List (Int × ByteArray)) × (List (Int × ByteArray)) × (List (Int × Int × Int × ByteArray × Int)) × Int × Int) × Int)) → (List (Int × ByteArray × Bool)) → Int → (List (Bool × Int × ByteArray × (Int × Int × Int × Int × Int × Int × (List Int) × Int × Int × Int × Int × Int × List (Int × Int × Int)) × (Int × Int × (List (Int × ByteArray)) × (List (Int × ByteArray)) × (List (Int × Int × Int × ByteArray × Int)) × Int × Int) × Int)) → (List (Int × ByteArray × Bool)) → List ByteArray → List (List Int) → (List (List ((List Int) × Int))) → Option ((((List (Bool × Int × ByteArray × (Int × Int × Int × Int × Int × Int × (List Int) × Int × Int × Int × Int × Int × List (Int × Int × Int)) × (Int × Int × (List (Int × ByteArray)) × (List (Int × ByteArray)) × (List (Int × Int × Int × ByteArray × Int)) × Int × Int) × Int)) × (List (Int × ByteArray × Bool)) × (List ByteArray) × Int × (List (List Int)) × List (List ((List Int) × Int))) × Unit) × Unit)) (L1 : (List (Int × Int × Int × Int × Int × Int × (List Int) × Int × Int × ByteArray)) → Int → (List (Int × ByteArray × Bool)) → List ByteArray → Int → List (List Int) → (List (List ((List Int) × Int))) → (List (Bool × Int × ByteArray × (Int × Int × Int × Int × Int × Int × (List Int) × Int × Int × Int × Int × Int × List (Int × Int × Int)) × (Int × Int × (List (Int × ByteArray)) × (List (Int × ByteArray)) × (List (Int × Int × Int × ByteArray × Int)) × Int × Int) × Int)) → Int → (List (Bool × Int × ByteArray × (Int × Int × Int × Int × Int × Int × (List Int) × Int × Int × Int × Int × Int × List (Int × Int × Int)) × (Int × Int × (List (Int × ByteArray)) × (List (Int × ByteArray)) × (List (Int × Int × Int × ByteArray × Int)) × Int × Int) × Int)) → (List (Int × ByteArray × Bool)) → List ByteArray → List (List Int) → (List (List ((List Int) × Int))) → Option ((((List (Bool × Int × ByteArray × (Int × Int × Int × Int × Int × Int × (List Int) × Int × Int × Int × Int × Int × List (Int × Int × Int)) × (Int × Int × (List (Int × ByteArray)) × (List (Int × ByteArray)) × (List (Int × Int × Int × ByteArray × Int)) × Int × Int) × Int)) × (List (Int × ByteArray × Bool)) × (List ByteArray) × Int × (List (List Int)) × List (List ((List Int) × Int))) × Unit) × Unit)) (v1 : List (Int × Int × Int × Int × Int × Int × (List Int) × Int × Int × ByteArray)) (v2 : Int) (v3 : List (Int × ByteArray × Bool)) (v4 : List ByteArray) (v5 : Int) (v6 : List (List Int)) (v7 : List (List ((List Int) × Int))) (v8 : List (Bool × Int × ByteArray × (Int × Int × Int × Int × Int × Int × (List Int) × Int × Int × Int × Int × Int × List (Int × Int × Int)) × (Int × Int × (List (Int × ByteArray)) × (List (Int × ByteArray)) × (List (Int × Int × Int × ByteArray × Int)) × Int × Int) × Int)) (v9 : Int) (v10 : List (Bool × Int × ByteArray × (Int × Int × Int × Int × Int × Int × (List Int) × Int × Int × Int × Int × Int × List (Int × Int × Int)) × (Int × Int × (List (Int × ByteArray)) × (List (Int × ByteArray)) × (List (Int × Int × Int × ByteArray × Int)) × Int × Int) × Int)) (v11 : List (Int × ByteArray × Bool)) (v12 : List ByteArray) (v13 : List (List Int)) (v14 : List (List ((List Int) × Int))) : Option ((((List (Bool × Int × ByteArray × (Int × Int × Int × Int × Int × Int × (List Int) × Int × Int × Int × Int × Int × List (Int × Int × Int)) × (Int × Int × (List (Int × ByteArray)) × (List (Int × ByteArray)) × (List (Int × Int × Int × ByteArray × Int)) × Int × Int) × Int)) × (List (Int × ByteArray × Bool)) × (List ByteArray) × Int × (List (List Int)) × List (List ((List Int) × Int))) × Unit) × Unit) :=
 bif decide (v2 < (v1.length : Int)) then
  bif decide (0 ≤ v2) && decide (v2 < (v1.length : Int)) then
   Option.bind (pleachref10_PutMsg ((List.getD v1 v2.toNat (0, 0, 0, 0, 0, 0, [], 0, 0, (⟨#[]⟩ : ByteArray))).1, ((List.getD v1 v2.toNat (0, 0, 0, 0, 0, 0, [], 0, 0, (⟨#[]⟩ : ByteArray))).2).1, (((List.getD v1 v2.toNat (0, 0, 0, 0, 0, 0, [], 0, 0, (⟨#[]⟩ : ByteArray))).2).2).1, ((((List.getD v1 v2.toNat (0, 0, 0, 0, 0, 0, [], 0, 0, (⟨#[]⟩ : ByteArray))).2).2).2).1, (((((List.getD v1 v2.toNat (0, 0, 0, 0, 0, 0, [], 0, 0, (⟨#[]⟩ : ByteArray))).2).2).2).2).1, ((((((List.getD v1 v2.toNat (0, 0, 0, 0, 0, 0, [], 0, 0, (⟨#[]⟩ : ByteArray))).2).2).2).2).2).1, (((((((List.getD v1 v2.toNat (0, 0, 0, 0, 0, 0, [], 0, 0, (⟨#[]⟩ : ByteArray))).2).2).2).2).2).2).1, ((((((((List.getD v1 v2.toNat (0, 0, 0, 0, 0, 0, [], 0, 0, (⟨#[]⟩ : ByteArray))).2).2).2).2).2).2).2).1, (((((((((List.getD v1 v2.toNat (0, 0, 0, 0, 0, 0, [], 0, 0, (⟨#[]⟩ : ByteArray))).2).2).2).2).2).2).2).2))) fun (r15 : ((List Int) × Unit) × Unit) =>
   bif decide ((r15.1.1.length : Int) > 0) then
    bif decide (0 ≤ v2) && decide (v2 < (v1.length : Int)) then
     Option.bind (pleachref13_Send v3 ((((List.getD v1 v2.toNat (0, 0, 0, 0, 0, 0, [], 0, 0, (⟨#[]⟩ : ByteArray))).2).2).1, bytesOf r15.1.1, false)) fun (r16 : ((List (Int × ByteArray × Bool)) × Unit) × Unit) =>
     L2 v1 (IntKind.wrap .i64 (v2 + 1)) v4 v5 v6 v7 v8 r16.1.1 v9 v10 v11 v12 v13 v14
    else none
   else
    L1 v1 (IntKind.wrap .i64 (v2 + 1)) v3 v4 v5 v6 v7 v8 v9 v10 v11 v12 v13 v14
  else none
 else
  some (((v8, v3, v4, v5, v6, v7), ()), ())
noncomputable def pleachref21_with_B2 (L2 : (List (Int × Int × Int × Int × Int × Int × (List Int) × Int × Int × ByteArray)) → Int → List ByteArray → Int → List (List Int) → (List (List ((List Int) × Int))) → (List (Bool × Int × ByteArray × (Int × Int × Int × Int × Int × Int × (List Int) × Int × Int × Int × Int × Int × List (Int × Int × Int)) × (Int × Int × (List (Int × ByteArray)) × (List (Int × ByteArray)) × (List (Int × Int × Int × ByteArray × Int)) × Int × Int) × Int)) → (List (Int × ByteArray × Bool)) → Int → (List (Bool × Int × ByteArray × (Int × Int × Int × Int × Int × Int × (List Int) × Int × Int × Int × Int × Int × List (Int × Int × Int)) × (Int × Int × (List (Int × ByteArray)) × (List (Int × ByteArray)) × (List (Int × Int × Int × ByteArray × Int)) × Int × Int) × Int)) → (List (Int × ByteArray × Bool)) → List ByteArray → List (List Int) → (List (List ((List Int) × Int))) → Option ((((List (Bool × Int × ByteArray × (Int × Int × Int × Int × Int × Int × (List Int) × Int × Int × Int × Int × Int × List (Int × Int × Int)) × (Int × Int × (List (Int × ByteArray)) × (List (Int × ByteArray)) × (List (Int × Int × Int × ByteArray × Int)) × Int × Int) × Int)) × (List (Int × ByteArray × Bool)) × (List ByteArray) × Int × (List (List Int)) × List (List ((List Int) × Int))) × Unit) × Unit)) (v17 : List (Int × Int × Int × Int × Int × Int × (List Int) × Int × Int × ByteArray)) (v18 : Int) (v19 : List ByteArray) (v20 : Int) (v21 : List (List Int)) (v22 : List (List ((List Int) × Int))) (v23 : List (Bool × Int × ByteArray × (Int × Int × Int × Int × Int × Int × (List Int) × Int × Int × Int × Int × Int × List (Int × Int × Int)) × (Int × Int × (List (Int × ByteArray)) × (List (Int × ByteArray)) × (List (Int × Int × Int × ByteArray × Int)) × Int × Int) × Int)) (v24 : List (Int × ByteArray × Bool)) (v25 : Int) (v26 : List (Bool × Int × ByteArray × (Int × Int × Int × Int × Int × Int × (List Int) × Int × Int × Int × Int × Int × List (Int × Int × Int)) × (Int × Int × (List (Int × ByteArray)) × (List (Int × ByteArray)) × (List (Int × Int × Int × ByteArray × Int)) × Int × Int) × Int)) (v27 : List (Int × ByteArray × Bool)) (v28 : List ByteArray) (v29 : List (List Int)) (v30 : List (List ((List Int) × Int))) : Option ((((List (Bool × Int × ByteArray × (Int × Int × Int × Int × Int × Int × (List Int) × Int × Int × Int × Int × Int × List (Int × Int × Int)) × (Int × Int × (List (Int × ByteArray)) × (List (Int × ByteArray)) × (List (Int × Int × Int × ByteArray × Int)) × Int × Int) × Int)) × (List (Int × ByteArray × Bool)) × (List ByteArray) × Int × (List (List Int)) × List (List ((List Int) × Int))) × Unit) × Unit) :=
 bif decide (v18 < (v17.length : Int)) then
  bif decide (0 ≤ v18) && decide (v18 < (v17.length : Int)) then
   Option.bind (pleachref10_PutMsg ((List.getD v17 v18.toNat (0, 0, 0, 0, 0, 0, [], 0, 0, (⟨#[]⟩ : ByteArray))).1, ((List.getD v17 v18.toNat (0, 0, 0, 0, 0, 0, [], 0, 0, (⟨#[]⟩ : ByteArray))).2).1, (((List.getD v17 v18.toNat (0, 0, 0, 0, 0, 0, [], 0, 0, (⟨#[]⟩ : ByteArray))).2).2).1, ((((List.getD v17 v18.toNat (0, 0, 0, 0, 0, 0, [], 0, 0, (⟨#[]⟩ : ByteArray))).2).2).2).1, (((((List.getD v17 v18.toNat (0, 0, 0, 0, 0, 0, [], 0, 0, (⟨#[]⟩ : ByteArray))).2).2).2).2).1, ((((((List.getD v17 v18.toNat (0, 0, 0, 0, 0, 0, [], 0, 0, (⟨#[]⟩ : ByteArray))).2).2).2).2).2).1, (((((((List.getD v17 v18.toNat (0, 0, 0, 0, 0, 0, [], 0, 0, (⟨#[]⟩ : ByteArray))).2).2).2).2).2).2).1, ((((((((List.getD v17 v18.toNat (0, 0, 0, 0, 0, 0, [], 0, 0, (⟨#[]⟩ : ByteArray))).2).2).2).2).2).2).2).1, (((((((((List.getD v17 v18.toNat (0, 0, 0, 0, 0, 0, [], 0, 0, (⟨#[]⟩ : ByteArray))).2).2).2).2).2).2).2).2))) fun (r31 : ((List Int) × Unit) × Unit) =>
   bif decide ((r31.1.1.length : Int) > 0) then
    bif decide (0 ≤ v18) && decide (v18 < (v17.length : Int)) then
     Option.bind (pleachref13_Send v24 ((((List.getD v17 v18.toNat (0, 0, 0, 0, 0, 0, [], 0, 0, (⟨#[]⟩ : ByteArray))).2).2).1, bytesOf r31.1.1, false)) fun (r32 : ((List (Int × ByteArray × Bool)) × Unit) × Unit) =>
     L2 v17 (IntKind.wrap .i64 (v18 + 1)) v19 v20 v21 v22 v23 r32.1.1 v25 v26 v27 v28 v29 v30
    else none
   else
    L2 v17 (IntKind.wrap .i64 (v18 + 1)) v19 v20 v21 v22 v23 v24 v25 v26 v27 v28 v29 v30
  else none
 else
  some (((v23, v24, v19, v20, v21, v22), ()), ())
noncomputable def pleachref21_with_T (L1 : (List (Int × Int × Int × Int × Int × Int × (List Int) × Int × Int × ByteArray)) → Int → (List (Int × ByteArray × Bool)) → List ByteArray → Int → List (List Int) → (List (List ((List Int) × Int))) → (List (Bool × Int × ByteArray × (Int × Int × Int × Int × Int × Int × (List Int) × Int × Int × Int × Int × Int × List (Int × Int × Int)) × (Int × Int × (List (Int × ByteArray)) × (List (Int × ByteArray)) × (List (Int × Int × Int × ByteArray × Int)) × Int × Int) × Int)) → Int → (List (Bool × Int × ByteArray × (Int × Int × Int × Int × Int × Int × (List Int) × Int × Int × Int × Int × Int × List (Int × Int × Int)) × (Int × Int × (List (Int × ByteArray)) × (List (Int × ByteArray)) × (List (Int × Int × Int × ByteArray × Int)) × Int × Int) × Int)) → (List (Int × ByteArray × Bool)) → List ByteArray → List (List Int) → (List (List ((List Int) × Int))) → Option ((((List (Bool × Int × ByteArray × (Int × Int × Int × Int × Int × Int × (List Int) × Int × Int × Int × Int × Int × List (Int × Int × Int)) × (Int × Int × (List (Int × ByteArray)) × (List (Int × ByteArray)) × (List (Int × Int × Int × ByteArray × Int)) × Int × Int) × Int)) × (List (Int × ByteArray × Bool)) × (List ByteArray) × Int × (List (List Int)) × List (List ((List Int) × Int))) × Unit) × Unit)) (w_0 : (List (Bool × Int × ByteArray × (Int × Int × Int × Int × Int × Int × (List Int) × Int × Int × Int × Int × Int × List (Int × Int × Int)) × (Int × Int × (List (Int × ByteArray)) × (List (Int × ByteArray)) × (List (Int × Int × Int × ByteArray × Int)) × Int × Int) × Int)) × (List (Int × ByteArray × Bool)) × (List ByteArray) × Int × (List (List Int)) × List (List ((List Int) × Int))) (i_1 : Int) (n_2 : Bool × Int × ByteArray × (Int × Int × Int × Int × Int × Int × (List Int) × Int × Int × Int × Int × Int × List (Int × Int × Int)) × (Int × Int × (List (Int × ByteArray)) × (List (Int × ByteArray)) × (List (Int × Int × Int × ByteArray × Int)) × Int × Int) × Int) (l_3 : List (Int × Int × Int × Int × Int × Int × (List Int) × Int × Int × ByteArray)) : Option ((((List (Bool × Int × ByteArray × (Int × Int × Int × Int × Int × Int × (List Int) × Int × Int × Int × Int × Int × List (Int × Int × Int)) × (Int × Int × (List (Int × ByteArray)) × (List (Int × ByteArray)) × (List (Int × Int × Int × ByteArray × Int)) × Int × Int) × Int)) × (List (Int × ByteArray × Bool)) × (List ByteArray) × Int × (List (List Int)) × List (List ((List Int) × Int))) × Unit) × Unit) :=
 bif Nat.ble (0 + w_0.1.length) 1073741824 then
  bif decide (0 ≤ i_1) && decide (i_1 < (([] ++ w_0.1).length : Int)) then
   bif decide (0 ≤ i_1) && decide (i_1 < (([] ++ w_0.1).length : Int)) then
    L1 l_3 0 w_0.2.1 w_0.2.2.1 w_0.2.2.2.1 w_0.2.2.2.2.1 w_0.2.2.2.2.2 (List.set ([] ++ w_0.1) i_1.toNat n_2) 0 [] [] [] [] []
   else none
  else none
 else none
noncomputable def pleachref21_with_L2 (n : Nat) : Nat → (List (Int × Int × Int × Int × Int × Int × (List Int) × Int × Int × ByteArray)) → Int → List ByteArray → Int → List (List Int) → (List (List ((List Int) × Int))) → (List (Bool × Int × ByteArray × (Int × Int × Int × Int × Int × Int × (List Int) × Int × Int × Int × Int × Int × List (Int × Int × Int)) × (Int × Int × (List (Int × ByteArray)) × (List (Int × ByteArray)) × (List (Int × Int × Int × ByteArray × Int)) × Int × Int) × Int)) → (List (Int × ByteArray × Bool)) → Int → (List (Bool × Int × ByteArray × (Int × Int × Int × Int × Int × Int × (List Int) × Int × Int × Int × Int × Int × List (Int × Int × Int)) × (Int × Int × (List (Int × ByteArray)) × (List (Int × ByteArray)) × (List (Int × Int × Int × ByteArray × Int)) × Int × Int) × Int)) → (List (Int × ByteArray × Bool)) → List ByteArray → List (List Int) → (List (List ((List Int) × Int))) → Option ((((List (Bool × Int × ByteArray × (Int × Int × Int × Int × Int × Int × (List Int) × Int × Int × Int × Int × Int × List (Int × Int × Int)) × (Int × Int × (List (Int × ByteArray)) × (List (Int × ByteArray)) × (List (Int × Int × Int × ByteArray × Int)) × Int × Int) × Int)) × (List (Int × ByteArray × Bool)) × (List ByteArray) × Int × (List (List Int)) × List (List ((List Int) × Int))) × Unit) × Unit) := iter (fun _ _ _ _ _ _ _ _ _ _ _ _ _ _ => none) fun L => pleachref21_with_B2 L
noncomputable def pleachref21_with_L1 (n : Nat) : Nat → (List (Int × Int × Int × Int × Int × Int × (List Int) × Int × Int × ByteArray)) → Int → (List (Int × ByteArray × Bool)) → List ByteArray → Int → List (List Int) → (List (List ((List Int) × Int))) → (List (Bool × Int × ByteArray × (Int × Int × Int × Int × Int × Int × (List Int) × Int × Int × Int × Int × Int × List (Int × Int × Int)) × (Int × Int × (List (Int × ByteArray)) × (List (Int × ByteArray)) × (List (Int × Int × Int × ByteArray × Int)) × Int × Int) × Int)) → Int → (List (Bool × Int × ByteArray × (Int × Int × Int × Int × Int × Int × (List Int) × Int × Int × Int × Int × Int × List (Int × Int × Int)) × (Int × Int × (List (Int × ByteArray)) × (List (Int × ByteArray)) × (List (Int × Int × Int × ByteArray × Int)) × Int × Int) × Int)) → (List (Int × ByteArray × Bool)) → List ByteArray → List (List Int) → (List (List ((List Int) × Int))) → Option ((((List (Bool × Int × ByteArray × (Int × Int × Int × Int × Int × Int × (List Int) × Int × Int × Int × Int × Int × List (Int × Int × Int)) × (Int × Int × (List (Int × ByteArray)) × (List (Int × ByteArray)) × (List (Int × Int × Int × ByteArray × Int)) × Int × Int) × Int)) × (List (Int × ByteArray × Bool)) × (List ByteArray) × Int × (List (List Int)) × List (List ((List Int) × Int))) × Unit) × Unit) := iterN (fun _ _ _ _ _ _ _ _ _ _ _ _ _ _ => none) fun m L => pleachref21_with_B1 (pleachref21_with_L2 n m) L
noncomputable def pleachref21_with_X1 (n m : Nat) (v1 : List (Int × Int × Int × Int × Int × Int × (List Int) × Int × Int × ByteArray)) (v2 : Int) (v3 : List (Int × ByteArray × Bool)) (v4 : List ByteArray) (v5 : Int) (v6 : List (List Int)) (v7 : List (List ((List Int) × Int))) (v8 : List (Bool × Int × ByteArray × (Int × Int × Int × Int × Int × Int × (List Int) × Int × Int × Int × Int × Int × List (Int × Int × Int)) × (Int × Int × (List (Int × ByteArray)) × (List (Int × ByteArray)) × (List (Int × Int × Int × ByteArray × Int)) × Int × Int) × Int)) (v9 : Int) (v10 : List (Bool × Int × ByteArray × (Int × Int × Int × Int × Int × Int × (List Int) × Int × Int × Int × Int × Int × List (Int × Int × Int)) × (Int × Int × (List (Int × ByteArray)) × (List (Int × ByteArray)) × (List (Int × Int × Int × ByteArray × Int)) × Int × Int) × Int)) (v11 : List (Int × ByteArray × Bool)) (v12 : List ByteArray) (v13 : List (List Int)) (v14 : List (List ((List Int) × Int))) : Option ((((List (Bool × Int × ByteArray × (Int × Int × Int × Int × Int × Int × (List Int) × Int × Int × Int × Int × Int × List (Int × Int × Int)) × (Int × Int × (List (Int × ByteArray)) × (List (Int × ByteArray)) × (List (Int × Int × Int × ByteArray × Int)) × Int × Int) × Int)) × (List (Int × ByteArray × Bool)) × (List ByteArray) × Int × (List (List Int)) × List (List ((List Int) × Int))) × Unit) × Unit) :=
 atLoop pleachref21_with_Γ tab (fiB [.val t31, .val t2, .val t47, .val t89] pleachref21_with_fi) n [.val t31, .val t2, .val t47, .val t89] [⟨t31, [true, false, false, false, false, false], none⟩] Tryz.f43 [1, 1, 1, 0, 1, 0] [] [3, 4, 8, 9] m
 ⟨[(3, SV.cv (CV.one (LV.pure t89 v1))), (4, SV.cv (CV.one (LV.ptr (4, 0) 0))), (8, SV.cv (CV.one (LV.ptr (8, 0) 0))), (9, SV.cv (CV.one (LV.pure t2 v2)))],
  [((4, 0), Ob.box 32 [LV.ref (4, 1), LV.pure t25 v3, LV.pure t26 v4, LV.pure t2 v5, LV.pure t27 v6, LV.pure t28 v7]), ((4, 1), Ob.row 48 t47 v8), ((8, 0), Ob.box 32 [LV.ref (8, 1), LV.ref (8, 2), LV.ref (8, 3), LV.pure t2 v9, LV.ref (8, 5), LV.ref (8, 6)]), ((8, 1), Ob.row 48 t47 v10), ((8, 2), Ob.row 94 t93 v11), ((8, 3), Ob.row 9 t9 v12), ((8, 5), Ob.row 37 t37 v13), ((8, 6), Ob.row 114 t114 v14)]⟩
noncomputable def pleachref21_with_X2 (n m : Nat) (v17 : List (Int × Int × Int × Int × Int × Int × (List Int) × Int × Int × ByteArray)) (v18 : Int) (v19 : List ByteArray) (v20 : Int) (v21 : List (List Int)) (v22 : List (List ((List Int) × Int))) (v23 : List (Bool × Int × ByteArray × (Int × Int × Int × Int × Int × Int × (List Int) × Int × Int × Int × Int × Int × List (Int × Int × Int)) × (Int × Int × (List (Int × ByteArray)) × (List (Int × ByteArray)) × (List (Int × Int × Int × ByteArray × Int)) × Int × Int) × Int)) (v24 : List (Int × ByteArray × Bool)) (v25 : Int) (v26 : List (Bool × Int × ByteArray × (Int × Int × Int × Int × Int × Int × (List Int) × Int × Int × Int × Int × Int × List (Int × Int × Int)) × (Int × Int × (List (Int × ByteArray)) × (List (Int × ByteArray)) × (List (Int × Int × Int × ByteArray × Int)) × Int × Int) × Int)) (v27 : List (Int × ByteArray × Bool)) (v28 : List ByteArray) (v29 : List (List Int)) (v30 : List (List ((List Int) × Int))) : Option ((((List (Bool × Int × ByteArray × (Int × Int × Int × Int × Int × Int × (List Int) × Int × Int × Int × Int × Int × List (Int × Int × Int)) × (Int × Int × (List (Int × ByteArray)) × (List (Int × ByteArray)) × (List (Int × Int × Int × ByteArray × Int)) × Int × Int) × Int)) × (List (Int × ByteArray × Bool)) × (List ByteArray) × Int × (List (List Int)) × List (List ((List Int) × Int))) × Unit) × Unit) :=
 atLoop pleachref21_with_Γ tab (fiB [.val t31, .val t2, .val t47, .val t89] pleachref21_with_fi) n [.val t31, .val t2, .val t47, .val t89] [⟨t31, [true, false, false, false, false, false], none⟩] Tryz.f43 [1, 1, 1, 0, 1, 0] [] [3, 4, 8, 9] m
 ⟨[(3, SV.cv (CV.one (LV.pure t89 v17))), (4, SV.cv (CV.one (LV.ptr (4, 0) 0))), (8, SV.cv (CV.one (LV.ptr (8, 0) 0))), (9, SV.cv (CV.one (LV.pure t2 v18)))],
  [((4, 0), Ob.box 32 [LV.ref (4, 1), LV.ref (4, 2), LV.pure t26 v19, LV.pure t2 v20, LV.pure t27 v21, LV.pure t28 v22]), ((4, 1), Ob.row 48 t47 v23), ((4, 2), Ob.row 94 t93 v24), ((8, 0), Ob.box 32 [LV.ref (8, 1), LV.ref (8, 2), LV.ref (8, 3), LV.pure t2 v25, LV.ref (8, 5), LV.ref (8, 6)]), ((8, 1), Ob.row 48 t47 v26), ((8, 2), Ob.row 94 t93 v27), ((8, 3), Ob.row 9 t9 v28), ((8, 5), Ob.row 37 t37 v29), ((8, 6), Ob.row 114 t114 v30)]⟩
theorem pleachref21_with_step1 (n m : Nat) (v1 : List (Int × Int × Int × Int × Int × Int × (List Int) × Int × Int × ByteArray)) (v2 : Int) (v3 : List (Int × ByteArray × Bool)) (v4 : List ByteArray) (v5 : Int) (v6 : List (List Int)) (v7 : List (List ((List Int) × Int))) (v8 : List (Bool × Int × ByteArray × (Int × Int × Int × Int × Int × Int × (List Int) × Int × Int × Int × Int × Int × List (Int × Int × Int)) × (Int × Int × (List (Int × ByteArray)) × (List (Int × ByteArray)) × (List (Int × Int × Int × ByteArray × Int)) × Int × Int) × Int)) (v9 : Int) (v10 : List (Bool × Int × ByteArray × (Int × Int × Int × Int × Int × Int × (List Int) × Int × Int × Int × Int × Int × List (Int × Int × Int)) × (Int × Int × (List (Int × ByteArray)) × (List (Int × ByteArray)) × (List (Int × Int × Int × ByteArray × Int)) × Int × Int) × Int)) (v11 : List (Int × ByteArray × Bool)) (v12 : List ByteArray) (v13 : List (List Int)) (v14 : List (List ((List Int) × Int))) : pleachref21_with_X1 n (m + 1) v1 v2 v3 v4 v5 v6 v7 v8 v9 v10 v11 v12 v13 v14 = pleachref21_with_B1 (pleachref21_with_X2 n m) (pleachref21_with_X1 n m) v1 v2 v3 v4 v5 v6 v7 v8 v9 v10 v11 v12 v13 v14 := by kernel_rfl
theorem pleachref21_with_step2 (n m : Nat) (v17 : List (Int × Int × Int × Int × Int × Int × (List Int) × Int × Int × ByteArray)) (v18 : Int) (v19 : List ByteArray) (v20 : Int) (v21 : List (List Int)) (v22 : List (List ((List Int) × Int))) (v23 : List (Bool × Int × ByteArray × (Int × Int × Int × Int × Int × Int × (List Int) × Int × Int × Int × Int × Int × List (Int × Int × Int)) × (Int × Int × (List (Int × ByteArray)) × (List (Int × ByteArray)) × (List (Int × Int × Int × ByteArray × Int)) × Int × Int) × Int)) (v24 : List (Int × ByteArray × Bool)) (v25 : Int) (v26 : List (Bool × Int × ByteArray × (Int × Int × Int × Int × Int × Int × (List Int) × Int × Int × Int × Int × Int × List (Int × Int × Int)) × (Int × Int × (List (Int × ByteArray)) × (List (Int × ByteArray)) × (List (Int × Int × Int × ByteArray × Int)) × Int × Int) × Int)) (v27 : List (Int × ByteArray × Bool)) (v28 : List ByteArray) (v29 : List (List Int)) (v30 : List (List ((List Int) × Int))) : pleachref21_with_X2 n (m + 1) v17 v18 v19 v20 v21 v22 v23 v24 v25 v26 v27 v28 v29 v30 = pleachref21_with_B2 (pleachref21_with_X2 n m) v17 v18 v19 v20 v21 v22 v23 v24 v25 v26 v27 v28 v29 v30 := by kernel_rfl
theorem pleachref21_with_start (n : Nat) (w_0 : (List (Bool × Int × ByteArray × (Int × Int × Int × Int × Int × Int × (List Int) × Int × Int × Int × Int × Int × List (Int × Int × Int)) × (Int × Int × (List (Int × ByteArray)) × (List (Int × ByteArray)) × (List (Int × Int × Int × ByteArray × Int)) × Int × Int) × Int)) × (List (Int × ByteArray × Bool)) × (List ByteArray) × Int × (List (List Int)) × List (List ((List Int) × Int))) (i_1 : Int) (n_2 : Bool × Int × ByteArray × (Int × Int × Int × Int × Int × Int × (List Int) × Int × Int × Int × Int × Int × List (Int × Int × Int)) × (Int × Int × (List (Int × ByteArray)) × (List (Int × ByteArray)) × (List (Int × Int × Int × ByteArray × Int)) × Int × Int) × Int) (l_3 : List (Int × Int × Int × Int × Int × Int × (List Int) × Int × Int × ByteArray)) : evFn pleachref21_with_Γ tab pleachref21_with_fi n [.val t31, .val t2, .val t47, .val t89] [⟨t31, [true, false, false, false, false, false], none⟩] Tryz.f43 (w_0, i_1, n_2, l_3, ()) = pleachref21_with_T (pleachref21_with_X1 n n) w_0 i_1 n_2 l_3 := by kernel_rfl
theorem pleachref21_with_XL2 (n : Nat) : ∀ m, pleachref21_with_X2 n m = pleachref21_with_L2 n m
 | 0 => rfl
 | m + 1 => by
  have ih := pleachref21_with_XL2 n m
  funext v17 v18 v19 v20 v21 v22 v23 v24 v25 v26 v27 v28 v29 v30
  rw [pleachref21_with_step2, ih]
  rfl
theorem pleachref21_with_XL1 (n : Nat) : ∀ m, pleachref21_with_X1 n m = pleachref21_with_L1 n m
 | 0 => rfl
 | m + 1 => by
  have ih := pleachref21_with_XL1 n m
  funext v1 v2 v3 v4 v5 v6 v7 v8 v9 v10 v11 v12 v13 v14
  rw [pleachref21_with_step1, pleachref21_with_XL2 n m, ih]
  rfl
noncomputable def pleachref21_with_n (n : Nat) (w_0 : (List (Bool × Int × ByteArray × (Int × Int × Int × Int × Int × Int × (List Int) × Int × Int × Int × Int × Int × List (Int × Int × Int)) × (Int × Int × (List (Int × ByteArray)) × (List (Int × ByteArray)) × (List (Int × Int × Int × ByteArray × Int)) × Int × Int) × Int)) × (List (Int × ByteArray × Bool)) × (List ByteArray) × Int × (List (List Int)) × List (List ((List Int) × Int))) (i_1 : Int) (n_2 : Bool × Int × ByteArray × (Int × Int × Int × Int × Int × Int × (List Int) × Int × Int × Int × Int × Int × List (Int × Int × Int)) × (Int × Int × (List (Int × ByteArray)) × (List (Int × ByteArray)) × (List (Int × Int × Int × ByteArray × Int)) × Int × Int) × Int) (l_3 : List (Int × Int × Int × Int × Int × Int × (List Int) × Int × Int × ByteArray)) : Option ((((List (Bool × Int × ByteArray × (Int × Int × Int × Int × Int × Int × (List Int) × Int × Int × Int × Int × Int × List (Int × Int × Int)) × (Int × Int × (List (Int × ByteArray)) × (List (Int × ByteArray)) × (List (Int × Int × Int × ByteArray × Int)) × Int × Int) × Int)) × (List (Int × ByteArray × Bool)) × (List ByteArray) × Int × (List (List Int)) × List (List ((List Int) × Int))) × Unit) × Unit) := pleachref21_with_T (pleachref21_with_L1 n n) w_0 i_1 n_2 l_3
noncomputable def pleachref21_with (w_0 : (List (Bool × Int × ByteArray × (Int × Int × Int × Int × Int × Int × (List Int) × Int × Int × Int × Int × Int × List (Int × Int × Int)) × (Int × Int × (List (Int × ByteArray)) × (List (Int × ByteArray)) × (List (Int × Int × Int × ByteArray × Int)) × Int × Int) × Int)) × (List (Int × ByteArray × Bool)) × (List ByteArray) × Int × (List (List Int)) × List (List ((List Int) × Int))) (i_1 : Int) (n_2 : Bool × Int × ByteArray × (Int × Int × Int × Int × Int × Int × (List Int) × Int × Int × Int × Int × Int × List (Int × Int × Int)) × (Int × Int × (List (Int × ByteArray)) × (List (Int × ByteArray)) × (List (Int × Int × Int × ByteArray × Int)) × Int × Int) × Int) (l_3 : List (Int × Int × Int × Int × Int × Int × (List Int) × Int × Int × ByteArray)) : Option ((((List (Bool × Int × ByteArray × (Int × Int × Int × Int × Int × Int × (List Int) × Int × Int × Int × Int × Int × List (Int × Int × Int)) × (Int × Int × (List (Int × ByteArray)) × (List (Int × ByteArray)) × (List (Int × Int × Int × ByteArray × Int)) × Int × Int) × Int)) × (List (Int × ByteArray × Bool)) × (List ByteArray) × Int × (List (List Int)) × List (List ((List Int) × Int))) × Unit) × Unit) := pleachref21_with_n 1099511627776 w_0 i_1 n_2 l_3
theorem pleachref21_with_eq (n : Nat) (w_0 : (List (Bool × Int × ByteArray × (Int × Int × Int × Int × Int × Int × (List Int) × Int × Int × Int × Int × Int × List (Int × Int × Int)) × (Int × Int × (List (Int × ByteArray)) × (List (Int × ByteArray)) × (List (Int × Int × Int × ByteArray × Int)) × Int × Int) × Int)) × (List (Int × ByteArray × Bool)) × (List ByteArray) × Int × (List (List Int)) × List (List ((List Int) × Int))) (i_1 : Int) (n_2 : Bool × Int × ByteArray × (Int × Int × Int × Int × Int × Int × (List Int) × Int × Int × Int × Int × Int × List (Int × Int × Int)) × (Int × Int × (List (Int × ByteArray)) × (List (Int × ByteArray)) × (List (Int × Int × Int × ByteArray × Int)) × Int × Int) × Int) (l_3 : List (Int × Int × Int × Int × Int × Int × (List Int) × Int × Int × ByteArray)) : evFn pleachref21_with_Γ tab pleachref21_with_fi n [.val t31, .val t2, .val t47, .val t89] [⟨t31, [true, false, false, false, false, false], none⟩] Tryz.f43 (w_0, i_1, n_2, l_3, ()) = pleachref21_with_n n w_0 i_1 n_2 l_3 := by
  rw [pleachref21_with_start, pleachref21_with_XL1 n n]
  rfl
noncomputable def pleachref21_with_e : Ent := ⟨[.val t31, .val t2, .val t47, .val t89], [⟨t31, [true, false, false, false, false, false], none⟩], fun x => pleachref21_with x.1 x.2.1 x.2.2.1 x.2.2.2.1⟩
theorem pleachref21_with_good : Good tab.ty Tryz.prog 43 pleachref21_with_e := by
  refine fn_good (Γ := pleachref21_with_Γ) (fi := pleachref21_with_fi) (n := 1099511627776) follows (gcons pleachref10_PutMsg_good (gcons pleachref13_Send_good gnil)) tabok Tryz.func43 (by kernel_rfl) (by kernel_rfl) (fun x r h => ?_)
  obtain ⟨w_0, i_1, n_2, l_3, _u⟩ := x
  exact (pleachref21_with_eq 1099511627776 w_0 i_1 n_2 l_3).trans h
noncomputable def pleachref1_Prune_Γ : Ctx := []
def pleachref1_Prune_fi : Fi := { keep := [], vty := [(5, 38)], vals := [], live := [(0, [0, 1]), (1, [0, 1, 5]), (2, [0, 1, 5, 6]), (3, [0, 1, 5, 6, 10]), (4, [0, 1, 5, 6]), (5, [0, 1, 5, 6, 20]), (6, [0, 1, 5, 6]), (7, [4])] }
noncomputable def pleachref1_Prune_B1 (L1 : (List (Int × Int × Int)) → Int → Int → (List (Int × Int × Int)) → Option (((List (Int × Int × Int)) × Unit) × Unit)) (v1 : List (Int × Int × Int)) (v2 : Int) (v3 : Int) (v4 : List (Int × Int × Int)) : Option (((List (Int × Int × Int)) × Unit) × Unit) :=
 bif decide (v3 < (v1.length : Int)) then
  bif decide (0 ≤ v3) && decide (v3 < (v1.length : Int)) then
   bif decide (IntKind.wrap .i64 (v2 - (((List.getD v1 v3.toNat (0, 0, 0)).2).2)) ≤ 20) then
    bif decide (0 ≤ v3) && decide (v3 < (v1.length : Int)) then
     bif Nat.ble (v4.length + 1) 1073741824 then
      L1 v1 v2 (IntKind.wrap .i64 (v3 + 1)) (v4 ++ [((List.getD v1 v3.toNat (0, 0, 0)).1, ((List.getD v1 v3.toNat (0, 0, 0)).2))])
     else none
    else none
   else
    L1 v1 v2 (IntKind.wrap .i64 (v3 + 1)) v4
  else none
 else
  some ((v4, ()), ())
noncomputable def pleachref1_Prune_T (L1 : (List (Int × Int × Int)) → Int → Int → (List (Int × Int × Int)) → Option (((List (Int × Int × Int)) × Unit) × Unit)) (l_0 : List (Int × Int × Int)) (now_1 : Int) : Option (((List (Int × Int × Int)) × Unit) × Unit) :=
 L1 l_0 now_1 0 []
noncomputable def pleachref1_Prune_L1 (n : Nat) : Nat → (List (Int × Int × Int)) → Int → Int → (List (Int × Int × Int)) → Option (((List (Int × Int × Int)) × Unit) × Unit) := iter (fun _ _ _ _ => none) fun L => pleachref1_Prune_B1 L
noncomputable def pleachref1_Prune_X1 (n m : Nat) (v1 : List (Int × Int × Int)) (v2 : Int) (v3 : Int) (v4 : List (Int × Int × Int)) : Option (((List (Int × Int × Int)) × Unit) × Unit) :=
 atLoop pleachref1_Prune_Γ tab (fiB [.val t38, .val t2] pleachref1_Prune_fi) n [.val t38, .val t2] [⟨t38, [true], none⟩] Tryz.f111 [1, 1, 0, 1, 0] [] [0, 1, 5, 6] m
 ⟨[(0, SV.cv (CV.one (LV.pure t38 v1))), (1, SV.cv (CV.one (LV.pure t2 v2))), (5, SV.cv (CV.one (LV.ref (888888, 5)))), (6, SV.cv (CV.one (LV.pure t2 v3)))],
  [((888888, 5), Ob.row 155 t154 v4)]⟩
theorem pleachref1_Prune_step1 (n m : Nat) (v1 : List (Int × Int × Int)) (v2 : Int) (v3 : Int) (v4 : List (Int × Int × Int)) : pleachref1_Prune_X1 n (m + 1) v1 v2 v3 v4 = pleachref1_Prune_B1 (pleachref1_Prune_X1 n m) v1 v2 v3 v4 := by kernel_rfl
theorem pleachref1_Prune_start (n : Nat) (l_0 : List (Int × Int × Int)) (now_1 : Int) : evFn pleachref1_Prune_Γ tab pleachref1_Prune_fi n [.val t38, .val t2] [⟨t38, [true], none⟩] Tryz.f111 (l_0, now_1, ()) = pleachref1_Prune_T (pleachref1_Prune_X1 n n) l_0 now_1 := by kernel_rfl
theorem pleachref1_Prune_XL1 (n : Nat) : ∀ m, pleachref1_Prune_X1 n m = pleachref1_Prune_L1 n m
 | 0 => rfl
 | m + 1 => by
  have ih := pleachref1_Prune_XL1 n m
  funext v1 v2 v3 v4
  rw [pleachref1_Prune_step1, ih]
  rfl
noncomputable def pleachref1_Prune_n (n : Nat) (l_0 : List (Int × Int × Int)) (now_1 : Int) : Option (((List (Int × Int × Int)) × Unit) × Unit) := pleachref1_Prune_T (pleachref1_Prune_L1 n n) l_0 now_1
noncomputable def pleachref1_Prune (l_0 : List (Int × Int × Int)) (now_1 : Int) : Option (((List (Int × Int × Int)) × Unit) × Unit) := pleachref1_Prune_n 1099511627776 l_0 now_1
theorem pleachref1_Prune_eq (n : Nat) (l_0 : List (Int × Int × Int)) (now_1 : Int) : evFn pleachref1_Prune_Γ tab pleachref1_Prune_fi n [.val t38, .val t2] [⟨t38, [true], none⟩] Tryz.f111 (l_0, now_1, ()) = pleachref1_Prune_n n l_0 now_1 := by
  rw [pleachref1_Prune_start, pleachref1_Prune_XL1 n n]
  rfl
noncomputable def pleachref1_Prune_e : Ent := ⟨[.val t38, .val t2], [⟨t38, [true], none⟩], fun x => pleachref1_Prune x.1 x.2.1⟩
theorem pleachref1_Prune_good : Good tab.ty Tryz.prog 111 pleachref1_Prune_e := by
  refine fn_good (Γ := pleachref1_Prune_Γ) (fi := pleachref1_Prune_fi) (n := 1099511627776) follows gnil tabok Tryz.func111 (by kernel_rfl) (by kernel_rfl) (fun x r h => ?_)
  obtain ⟨l_0, now_1, _u⟩ := x
  exact (pleachref1_Prune_eq 1099511627776 l_0 now_1).trans h
noncomputable def pleachref19_Fresh_Γ : Ctx := []
def pleachref19_Fresh_fi : Fi := { keep := [], vty := [], vals := [], live := [(0, [1, 7, 8, 9, 10, 11, 12, 13, 14, 15, 16, 17]), (1, [2])] }
noncomputable def pleachref19_Fresh (t_0 : Int × Int × Int × Int × Int × Int × (List Int) × Int × Int × Int × Int × Int × List (Int × Int × Int)) : Option ((Bool × Unit) × Unit) :=
 bif t_0.1 == 1 then
  some ((true, ()), ())
 else
 bif t_0.2.2.2.1 != 0 then
  some ((decide (IntKind.wrap .i64 (t_0.2.2.1 - t_0.2.2.2.2.2.2.2.2.1) ≤ 20), ()), ())
 else
  some ((false, ()), ())
theorem pleachref19_Fresh_eq (t_0 : Int × Int × Int × Int × Int × Int × (List Int) × Int × Int × Int × Int × Int × List (Int × Int × Int)) : evFn pleachref19_Fresh_Γ tab pleachref19_Fresh_fi 1 [.val t39] [⟨t4, [false], none⟩] Tryz.f112 (t_0, ()) = pleachref19_Fresh t_0 := by kernel_rfl
noncomputable def pleachref19_Fresh_e : Ent := ⟨[.val t39], [⟨t4, [false], none⟩], fun x => pleachref19_Fresh x.1⟩
theorem pleachref19_Fresh_good : Good tab.ty Tryz.prog 112 pleachref19_Fresh_e := by
  refine fn_good (Γ := pleachref19_Fresh_Γ) (fi := pleachref19_Fresh_fi) (n := 1) follows gnil tabok Tryz.func112 (by kernel_rfl) (by kernel_rfl) (fun x r h => ?_)
  obtain ⟨t_0, _u⟩ := x
  exact (pleachref19_Fresh_eq t_0).trans h
noncomputable def pleachref19_off_Γ : Ctx := []
def pleachref19_off_fi : Fi := { keep := [], vty := [], vals := [], live := [(0, [1, 2, 4]), (1, [2, 4]), (2, [4])] }
noncomputable def pleachref19_off (t_0 : Int × Int × Int × Int × Int × Int × (List Int) × Int × Int × Int × Int × Int × List (Int × Int × Int)) (step_1 : Int) : Option (((Int × Int × Int × Int × Int × Int × (List Int) × Int × Int × Int × Int × Int × List (Int × Int × Int)) × Unit) × Unit) :=
 some (((t_0.1, t_0.2.1, t_0.2.2.1, 0, 0, t_0.2.2.2.2.2.1, [], t_0.2.2.2.2.2.2.2.1, t_0.2.2.2.2.2.2.2.2.1, 0, t_0.2.2.2.2.2.2.2.2.2.2.1, step_1, t_0.2.2.2.2.2.2.2.2.2.2.2.2), ()), ())
theorem pleachref19_off_eq (t_0 : Int × Int × Int × Int × Int × Int × (List Int) × Int × Int × Int × Int × Int × List (Int × Int × Int)) (step_1 : Int) : evFn pleachref19_off_Γ tab pleachref19_off_fi 1 [.val t39, .val t2] [⟨t39, [false, false, false, false, false, false, false, false, false, false, false, false, false], none⟩] Tryz.f113 (t_0, step_1, ()) = pleachref19_off t_0 step_1 := by kernel_rfl
noncomputable def pleachref19_off_e : Ent := ⟨[.val t39, .val t2], [⟨t39, [false, false, false, false, false, false, false, false, false, false, false, false, false], none⟩], fun x => pleachref19_off x.1 x.2.1⟩
theorem pleachref19_off_good : Good tab.ty Tryz.prog 113 pleachref19_off_e := by
  refine fn_good (Γ := pleachref19_off_Γ) (fi := pleachref19_off_fi) (n := 1) follows gnil tabok Tryz.func113 (by kernel_rfl) (by kernel_rfl) (fun x r h => ?_)
  obtain ⟨t_0, step_1, _u⟩ := x
  exact (pleachref19_off_eq t_0 step_1).trans h
noncomputable def pleachref19_says_Γ : Ctx := []
def pleachref19_says_fi : Fi := { keep := [], vty := [], vals := [], live := [(0, [1, 2, 3, 6]), (1, [6])] }
noncomputable def pleachref19_says (t_0 : Int × Int × Int × Int × Int × Int × (List Int) × Int × Int × Int × Int × Int × List (Int × Int × Int)) (kind_1 : Int) (to_2 : Int) : Option (((Int × Int × Int × Int × Int × Int × (List Int) × Int × Int × ByteArray) × Unit) × Unit) :=
 some (((kind_1, t_0.1, to_2, t_0.2.1, 0, 0, [], 0, 0, (⟨#[]⟩ : ByteArray)), ()), ())
theorem pleachref19_says_eq (t_0 : Int × Int × Int × Int × Int × Int × (List Int) × Int × Int × Int × Int × Int × List (Int × Int × Int)) (kind_1 : Int) (to_2 : Int) : evFn pleachref19_says_Γ tab pleachref19_says_fi 1 [.val t39, .val t2, .val t2] [⟨t130, [false, false, false, false, false, false, true, false, false, false], none⟩] Tryz.f89 (t_0, kind_1, to_2, ()) = pleachref19_says t_0 kind_1 to_2 := by kernel_rfl
noncomputable def pleachref19_says_e : Ent := ⟨[.val t39, .val t2, .val t2], [⟨t130, [false, false, false, false, false, false, true, false, false, false], none⟩], fun x => pleachref19_says x.1 x.2.1 x.2.2.1⟩
theorem pleachref19_says_good : Good tab.ty Tryz.prog 89 pleachref19_says_e := by
  refine fn_good (Γ := pleachref19_says_Γ) (fi := pleachref19_says_fi) (n := 1) follows gnil tabok Tryz.func89 (by kernel_rfl) (by kernel_rfl) (fun x r h => ?_)
  obtain ⟨t_0, kind_1, to_2, _u⟩ := x
  exact (pleachref19_says_eq t_0 kind_1 to_2).trans h
noncomputable def pleachref19_full_Γ : Ctx := [(89, pleachref19_says_e)]
def pleachref19_full_fi : Fi := { keep := [], vty := [], vals := [], live := [(0, [1, 2, 3, 6]), (1, [3, 6, 7]), (2, [6, 7]), (3, [6])] }
noncomputable def pleachref19_full (t_0 : Int × Int × Int × Int × Int × Int × (List Int) × Int × Int × Int × Int × Int × List (Int × Int × Int)) (kind_1 : Int) (to_2 : Int) : Option (((Int × Int × Int × Int × Int × Int × (List Int) × Int × Int × ByteArray) × Unit) × Unit) :=
 Option.bind (pleachref19_says t_0 kind_1 to_2) fun (r1 : ((Int × Int × Int × Int × Int × Int × (List Int) × Int × Int × ByteArray) × Unit) × Unit) =>
 bif Nat.ble (0 + t_0.2.2.2.2.2.2.1.length) 1073741824 then
  some (((r1.1.1.1, r1.1.1.2.1, r1.1.1.2.2.1, r1.1.1.2.2.2.1, t_0.2.2.2.2.2.2.2.1, IntKind.wrap .i64 (t_0.2.2.1 - t_0.2.2.2.2.2.2.2.2.1), [] ++ t_0.2.2.2.2.2.2.1, r1.1.1.2.2.2.2.2.2.2), ()), ())
 else none
theorem pleachref19_full_eq (t_0 : Int × Int × Int × Int × Int × Int × (List Int) × Int × Int × Int × Int × Int × List (Int × Int × Int)) (kind_1 : Int) (to_2 : Int) : evFn pleachref19_full_Γ tab pleachref19_full_fi 1 [.val t39, .val t2, .val t2] [⟨t130, [false, false, false, false, false, false, true, false, false, false], none⟩] Tryz.f114 (t_0, kind_1, to_2, ()) = pleachref19_full t_0 kind_1 to_2 := by kernel_rfl
noncomputable def pleachref19_full_e : Ent := ⟨[.val t39, .val t2, .val t2], [⟨t130, [false, false, false, false, false, false, true, false, false, false], none⟩], fun x => pleachref19_full x.1 x.2.1 x.2.2.1⟩
theorem pleachref19_full_good : Good tab.ty Tryz.prog 114 pleachref19_full_e := by
  refine fn_good (Γ := pleachref19_full_Γ) (fi := pleachref19_full_fi) (n := 1) follows (gcons pleachref19_says_good gnil) tabok Tryz.func114 (by kernel_rfl) (by kernel_rfl) (fun x r h => ?_)
  obtain ⟨t_0, kind_1, to_2, _u⟩ := x
  exact (pleachref19_full_eq t_0 kind_1 to_2).trans h
noncomputable def pleachref19_Tick_Γ : Ctx := [(89, pleachref19_says_e), (111, pleachref1_Prune_e), (112, pleachref19_Fresh_e), (113, pleachref19_off_e), (114, pleachref19_full_e)]
def pleachref19_Tick_fi : Fi := { keep := [], vty := [(3, 89), (5, 89), (86, 89), (96, 89), (100, 89), (118, 89), (130, 89)], vals := [], live := [(0, [1, 2, 36, 37, 38, 49, 50, 51, 52, 53, 72, 73, 74, 77, 78, 79, 80, 81, 113, 114]), (1, [1, 2, 36, 37, 38, 49, 50, 51, 52, 53, 72, 73, 74, 77, 78, 79, 80, 81, 113, 114]), (2, [1, 2, 36, 37, 38, 49, 50, 51, 52, 53, 72, 73, 74, 77, 78, 79, 80, 81, 113, 114]), (3, [1, 2, 4, 36, 37, 38, 49, 50, 51, 52, 53, 72, 73, 74, 77, 78, 79, 80, 81, 113, 114]), (4, [1, 2, 4, 5, 36, 37, 38, 49, 50, 51, 52, 53, 72, 73, 74, 77, 78, 79, 80, 81, 113, 114]), (5, [1, 2, 4, 5, 23, 36, 37, 38, 49, 50, 51, 52, 53, 72, 73, 74, 77, 78, 79, 80, 81, 113, 114]), (6, [1, 2, 4, 5, 24, 113, 114]), (7, [1, 2, 4, 5, 113, 114]), (8, [1, 2, 4, 5, 39, 49, 50, 51, 52, 53, 72, 73, 74, 77, 78, 79, 80, 81, 113, 114]), (9, [1, 2, 4, 5, 49, 50, 51, 52, 53, 72, 73, 74, 77, 78, 79, 80, 81, 113, 114]), (10, [1, 2, 4, 5, 44, 49, 50, 51, 52, 53, 72, 73, 74, 77, 78, 79, 80, 81, 113, 114]), (11, [1, 2, 4, 5, 54, 72, 73, 74, 77, 78, 79, 80, 81, 113, 114]), (12, [1, 2, 4, 5, 72, 73, 74, 77, 78, 79, 80, 81, 113, 114]), (13, [1, 2, 4, 5, 62, 72, 73, 74, 77, 78, 79, 80, 81, 113, 114]), (14, [1, 2, 4, 5, 72, 73, 74, 77, 78, 79, 80, 81, 113, 114]), (15, [1, 2, 4, 5, 82, 113, 114]), (16, [1, 2, 4, 5, 113, 114]), (17, [1, 2, 4, 5, 113, 114]), (18, [1, 2, 5, 94, 113, 114]), (19, [2, 3]), (20, [1, 2, 5, 99, 113, 114]), (21, [1, 2, 5, 113, 114]), (22, [1, 2, 5, 6, 113, 114]), (23, [1, 2, 5, 6, 113, 114, 115]), (24, [1, 2, 5, 6, 113, 114]), (25, [1, 2, 5, 6, 113, 114]), (26, [2, 3])] }
noncomputable def pleachref19_Tick_x (x : PDs [.val t39]) : Option (RDs [⟨t39, [false, false, false, false, false, false, false, false, false, false, false, false, false], none⟩, ⟨t89, [true], none⟩] × ODs [.val t39]) := evFn pleachref19_Tick_Γ tab pleachref19_Tick_fi 1099511627776 [.val t39] [⟨t39, [false, false, false, false, false, false, false, false, false, false, false, false, false], none⟩, ⟨t89, [true], none⟩] Tryz.f87 x
noncomputable def pleachref19_Tick (x0 : Int × Int × Int × Int × Int × Int × (List Int) × Int × Int × Int × Int × Int × List (Int × Int × Int)) : Option (((Int × Int × Int × Int × Int × Int × (List Int) × Int × Int × Int × Int × Int × List (Int × Int × Int)) × (List (Int × Int × Int × Int × Int × Int × (List Int) × Int × Int × ByteArray)) × Unit) × Unit) := pleachref19_Tick_x (x0, ())
noncomputable def pleachref19_Tick_e : Ent := ⟨[.val t39], [⟨t39, [false, false, false, false, false, false, false, false, false, false, false, false, false], none⟩, ⟨t89, [true], none⟩], fun x => pleachref19_Tick x.1⟩
theorem pleachref19_Tick_good : Good tab.ty Tryz.prog 87 pleachref19_Tick_e := by
  refine fn_good (Γ := pleachref19_Tick_Γ) (fi := pleachref19_Tick_fi) (n := 1099511627776) follows (gcons pleachref19_says_good (gcons pleachref1_Prune_good (gcons pleachref19_Fresh_good (gcons pleachref19_off_good (gcons pleachref19_full_good gnil))))) tabok Tryz.func87 (by kernel_rfl) (by kernel_rfl) (fun x r h => ?_)
  obtain ⟨x0, _u⟩ := x
  exact h
noncomputable def pleachref13_First_Γ : Ctx := []
def pleachref13_First_fi : Fi := { keep := [], vty := [], vals := [], live := [(0, [0]), (1, [0, 5]), (2, [2]), (3, [2])] }
noncomputable def pleachref13_First (l_0 : List (Int × ByteArray)) : Option ((Int × Unit) × Unit) :=
 bif (l_0.length : Int) == 0 then
  some ((0, ()), ())
 else
 bif decide (0 < (l_0.length : Int)) then
  some (((List.getD l_0 0 (0, (⟨#[]⟩ : ByteArray))).1, ()), ())
 else none
theorem pleachref13_First_eq (l_0 : List (Int × ByteArray)) : evFn pleachref13_First_Γ tab pleachref13_First_fi 1 [.val t41] [⟨t2, [false], none⟩] Tryz.f136 (l_0, ()) = pleachref13_First l_0 := by kernel_rfl
noncomputable def pleachref13_First_e : Ent := ⟨[.val t41], [⟨t2, [false], none⟩], fun x => pleachref13_First x.1⟩
theorem pleachref13_First_good : Good tab.ty Tryz.prog 136 pleachref13_First_e := by
  refine fn_good (Γ := pleachref13_First_Γ) (fi := pleachref13_First_fi) (n := 1) follows gnil tabok Tryz.func136 (by kernel_rfl) (by kernel_rfl) (fun x r h => ?_)
  obtain ⟨l_0, _u⟩ := x
  exact (pleachref13_First_eq l_0).trans h
end Go.PE
