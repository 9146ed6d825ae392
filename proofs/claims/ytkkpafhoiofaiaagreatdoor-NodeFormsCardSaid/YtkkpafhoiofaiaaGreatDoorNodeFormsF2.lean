/-
  Functions of the program, each as the evaluator answers it, and its contract.
  Conditions: none.
-/
import Derived.Test.YtkkpafhoiofaiaaGreatDoorNodeFormsF1
set_option linter.unusedVariables false
set_option maxRecDepth 100000
namespace Go.PE
open Go.Proofs

noncomputable def kids_Drop_fn1_Γ : Ctx := []
def kids_Drop_fn1_fi : Fi := { keep := [], vty := [], vals := [], live := [(0, [1, 2]), (1, [3])] }
noncomputable def kids_Drop_fn1 (k_0 : Int × Int × Int) (x_1 : Int) : Option ((Bool × Unit) × Unit) :=
 some ((k_0.1 == x_1, ()), ())
theorem kids_Drop_fn1_eq (k_0 : Int × Int × Int) (x_1 : Int) : evFn kids_Drop_fn1_Γ tab kids_Drop_fn1_fi 1 [.val t126, .rbox t2] [⟨t4, [false], none⟩] Tryz.f179 (k_0, x_1, ()) = kids_Drop_fn1 k_0 x_1 := by kernel_rfl
noncomputable def kids_Drop_fn1_e : Ent := ⟨[.val t126, .rbox t2], [⟨t4, [false], none⟩], fun x => kids_Drop_fn1 x.1 x.2.1⟩
theorem kids_Drop_fn1_good : Good tab.ty Tryz.prog 179 kids_Drop_fn1_e := by
  refine fn_good (Γ := kids_Drop_fn1_Γ) (fi := kids_Drop_fn1_fi) (n := 1) follows gnil tabok Tryz.func179 (by kernel_rfl) (by kernel_rfl) (fun x r h => ?_)
  obtain ⟨k_0, x_1, _u⟩ := x
  exact (kids_Drop_fn1_eq k_0 x_1).trans h
noncomputable def kids_Drop_Γ : Ctx := [(68, slices_Clone_Kid_e), (161, slices_DeleteFunc_Kid_e), (179, kids_Drop_fn1_e)]
def kids_Drop_fi : Fi := { keep := [], vty := [], vals := [], live := [(0, [0, 3]), (1, [4])] }
noncomputable def kids_Drop (l_0 : List (Int × Int × Int)) (id_1 : Int) : Option (((List (Int × Int × Int)) × Unit) × Unit) :=
 Option.bind (slices_Clone_Kid l_0) fun (r1 : ((List (Int × Int × Int)) × Unit) × Unit) =>
 Option.bind (slices_DeleteFunc_Kid r1.1.1 (fun x => (kids_Drop_fn1 x.1 id_1).bind fun r => some (r.1.1, ()))) fun (r2 : ((List (Int × Int × Int)) × Unit) × Unit) =>
 some ((r2.1.1, ()), ())
theorem kids_Drop_eq (l_0 : List (Int × Int × Int)) (id_1 : Int) : evFn kids_Drop_Γ tab kids_Drop_fi 1 [.val t24, .val t2] [⟨t24, [true], none⟩] Tryz.f94 (l_0, id_1, ()) = kids_Drop l_0 id_1 := by kernel_rfl
noncomputable def kids_Drop_e : Ent := ⟨[.val t24, .val t2], [⟨t24, [true], none⟩], fun x => kids_Drop x.1 x.2.1⟩
theorem kids_Drop_good : Good tab.ty Tryz.prog 94 kids_Drop_e := by
  refine fn_good (Γ := kids_Drop_Γ) (fi := kids_Drop_fi) (n := 1) follows (gcons slices_Clone_Kid_good (gcons slices_DeleteFunc_Kid_good (gcons kids_Drop_fn1_good gnil))) tabok Tryz.func94 (by kernel_rfl) (by kernel_rfl) (fun x r h => ?_)
  obtain ⟨l_0, id_1, _u⟩ := x
  exact (kids_Drop_eq l_0 id_1).trans h
noncomputable def tie_Comes_Γ : Ctx := [(71, tie_of_e), (74, tie_node_lets_e), (88, kids_Old_e), (89, tie_node_attach_e), (90, tie_node_accept_e), (91, tie_node_refuse_e), (92, tie_node_beatUp_e), (93, tie_node_beatDn_e), (94, kids_Drop_e)]
def tie_Comes_fi : Fi := { keep := [], vty := [], vals := [], live := [(0, [2, 3, 4, 6, 22, 23, 24, 25, 26, 27, 28, 29, 30, 31, 32, 33, 34, 35, 36, 37, 38, 39, 52, 53, 54, 55, 56, 57, 58, 59, 62, 63, 64, 65, 66, 67, 68, 69]), (1, [2, 4, 6, 8, 22, 23, 24, 25, 26, 27, 28, 29, 30, 31, 32, 33, 34, 35, 36, 37, 38, 39, 52, 53, 54, 55, 56, 57, 58, 59, 62, 63, 64, 65, 66, 67, 68, 69]), (2, [2, 4, 6, 8, 40, 52, 53, 54, 55, 56, 57, 58, 59, 62, 63, 64, 65, 66, 67, 68, 69]), (3, [6, 7]), (4, [2, 4, 6, 8, 70]), (5, [2, 4, 6, 8]), (6, [2, 4, 6, 8, 74]), (7, [2, 4, 6, 8, 74, 75]), (8, [6, 8]), (9, [4, 6, 8, 74, 81]), (10, [6, 8]), (11, [4, 6, 8, 74, 86]), (12, [6, 8]), (13, [4, 6, 8, 74, 91]), (14, [6, 8]), (15, [4, 6, 8, 74, 96]), (16, [6, 8]), (17, [4, 6, 8, 101]), (18, [6, 8]), (19, [6, 7])] }
noncomputable def tie_Comes (t_0 : Int × Int × Int × Int × Int × Int × (List Int) × Int × Int × Int × Int × Int × List (Int × Int × Int)) (m_1 : Int × Int × Int × Int × Int × Int × (List Int) × Int × Int × ByteArray) (lo_2 : Int) : Option (((Int × Int × Int × Int × Int × Int × (List Int) × Int × Int × Int × Int × Int × List (Int × Int × Int)) × (List (Int × Int × Int × Int × Int × Int × (List Int) × Int × Int × ByteArray)) × Unit) × Unit) :=
 Option.bind (tie_of t_0) fun (r1 : (((Int × Int × Int × Int × Int × Int × (List Int) × Int × Int × Int × Int × Int × List (Int × Int × Int)) × List (Int × Int × Int × Int × Int × Int × (List Int) × Int × Int × ByteArray)) × Unit) × Unit) =>
 Option.bind (kids_Old r1.1.1.1.2.2.2.2.2.2.2.2.2.2.2.2 m_1.2.1 m_1.2.2.2.1) fun (r2 : (Bool × Unit) × Unit) =>
 bif r2.1.1 then
  some ((r1.1.1.1, [], ()), ())
 else
 bif m_1.2.1 == r1.1.1.1.2.2.2.1 then
  bif decide (m_1.2.2.2.1 < r1.1.1.1.2.2.2.2.1) then
   some ((r1.1.1.1, [], ()), ())
  else
  bif r1.1.1.1.2.2.2.1 != 0 then
   bif m_1.2.1 == r1.1.1.1.2.2.2.1 then
    bif decide (m_1.2.2.2.1 > r1.1.1.1.2.2.2.2.1) then
     Option.bind (tie_node_lets r1.1.1 0) fun (r3 : Unit × (((Int × Int × Int × Int × Int × Int × (List Int) × Int × Int × Int × Int × Int × List (Int × Int × Int)) × List (Int × Int × Int × Int × Int × Int × (List Int) × Int × Int × ByteArray)) × Unit)) =>
     bif m_1.1 == 1 then
      Option.bind (tie_node_attach r3.2.1 m_1 lo_2) fun (r4 : Unit × (((Int × Int × Int × Int × Int × Int × (List Int) × Int × Int × Int × Int × Int × List (Int × Int × Int)) × List (Int × Int × Int × Int × Int × Int × (List Int) × Int × Int × ByteArray)) × Unit)) =>
      some ((r4.2.1.1, r4.2.1.2, ()), ())
     else
     bif m_1.1 == 2 then
      Option.bind (tie_node_accept r3.2.1 m_1) fun (r5 : Unit × (((Int × Int × Int × Int × Int × Int × (List Int) × Int × Int × Int × Int × Int × List (Int × Int × Int)) × List (Int × Int × Int × Int × Int × Int × (List Int) × Int × Int × ByteArray)) × Unit)) =>
      some ((r5.2.1.1, r5.2.1.2, ()), ())
     else
     bif m_1.1 == 3 then
      Option.bind (tie_node_refuse r3.2.1 m_1) fun (r6 : Unit × (((Int × Int × Int × Int × Int × Int × (List Int) × Int × Int × Int × Int × Int × List (Int × Int × Int)) × List (Int × Int × Int × Int × Int × Int × (List Int) × Int × Int × ByteArray)) × Unit)) =>
      some ((r6.2.1.1, r6.2.1.2, ()), ())
     else
     bif m_1.1 == 4 then
      Option.bind (tie_node_beatUp r3.2.1 m_1) fun (r7 : Unit × (((Int × Int × Int × Int × Int × Int × (List Int) × Int × Int × Int × Int × Int × List (Int × Int × Int)) × List (Int × Int × Int × Int × Int × Int × (List Int) × Int × Int × ByteArray)) × Unit)) =>
      some ((r7.2.1.1, r7.2.1.2, ()), ())
     else
     bif m_1.1 == 5 then
      Option.bind (tie_node_beatDn r3.2.1 m_1) fun (r8 : Unit × (((Int × Int × Int × Int × Int × Int × (List Int) × Int × Int × Int × Int × Int × List (Int × Int × Int)) × List (Int × Int × Int × Int × Int × Int × (List Int) × Int × Int × ByteArray)) × Unit)) =>
      some ((r8.2.1.1, r8.2.1.2, ()), ())
     else
     bif m_1.1 == 6 then
      Option.bind (kids_Drop r3.2.1.1.2.2.2.2.2.2.2.2.2.2.2.2 m_1.2.1) fun (r9 : ((List (Int × Int × Int)) × Unit) × Unit) =>
      some (((r3.2.1.1.1, r3.2.1.1.2.1, r3.2.1.1.2.2.1, r3.2.1.1.2.2.2.1, r3.2.1.1.2.2.2.2.1, r3.2.1.1.2.2.2.2.2.1, r3.2.1.1.2.2.2.2.2.2.1, r3.2.1.1.2.2.2.2.2.2.2.1, r3.2.1.1.2.2.2.2.2.2.2.2.1, r3.2.1.1.2.2.2.2.2.2.2.2.2.1, r3.2.1.1.2.2.2.2.2.2.2.2.2.2.1, r3.2.1.1.2.2.2.2.2.2.2.2.2.2.2.1, r9.1.1), r3.2.1.2, ()), ())
     else
      some ((r3.2.1.1, r3.2.1.2, ()), ())
    else
    bif m_1.1 == 1 then
     Option.bind (tie_node_attach r1.1.1 m_1 lo_2) fun (r10 : Unit × (((Int × Int × Int × Int × Int × Int × (List Int) × Int × Int × Int × Int × Int × List (Int × Int × Int)) × List (Int × Int × Int × Int × Int × Int × (List Int) × Int × Int × ByteArray)) × Unit)) =>
     some ((r10.2.1.1, r10.2.1.2, ()), ())
    else
    bif m_1.1 == 2 then
     Option.bind (tie_node_accept r1.1.1 m_1) fun (r11 : Unit × (((Int × Int × Int × Int × Int × Int × (List Int) × Int × Int × Int × Int × Int × List (Int × Int × Int)) × List (Int × Int × Int × Int × Int × Int × (List Int) × Int × Int × ByteArray)) × Unit)) =>
     some ((r11.2.1.1, r11.2.1.2, ()), ())
    else
    bif m_1.1 == 3 then
     Option.bind (tie_node_refuse r1.1.1 m_1) fun (r12 : Unit × (((Int × Int × Int × Int × Int × Int × (List Int) × Int × Int × Int × Int × Int × List (Int × Int × Int)) × List (Int × Int × Int × Int × Int × Int × (List Int) × Int × Int × ByteArray)) × Unit)) =>
     some ((r12.2.1.1, r12.2.1.2, ()), ())
    else
    bif m_1.1 == 4 then
     Option.bind (tie_node_beatUp r1.1.1 m_1) fun (r13 : Unit × (((Int × Int × Int × Int × Int × Int × (List Int) × Int × Int × Int × Int × Int × List (Int × Int × Int)) × List (Int × Int × Int × Int × Int × Int × (List Int) × Int × Int × ByteArray)) × Unit)) =>
     some ((r13.2.1.1, r13.2.1.2, ()), ())
    else
    bif m_1.1 == 5 then
     Option.bind (tie_node_beatDn r1.1.1 m_1) fun (r14 : Unit × (((Int × Int × Int × Int × Int × Int × (List Int) × Int × Int × Int × Int × Int × List (Int × Int × Int)) × List (Int × Int × Int × Int × Int × Int × (List Int) × Int × Int × ByteArray)) × Unit)) =>
     some ((r14.2.1.1, r14.2.1.2, ()), ())
    else
    bif m_1.1 == 6 then
     Option.bind (kids_Drop r1.1.1.1.2.2.2.2.2.2.2.2.2.2.2.2 m_1.2.1) fun (r15 : ((List (Int × Int × Int)) × Unit) × Unit) =>
     some (((r1.1.1.1.1, r1.1.1.1.2.1, r1.1.1.1.2.2.1, r1.1.1.1.2.2.2.1, r1.1.1.1.2.2.2.2.1, r1.1.1.1.2.2.2.2.2.1, r1.1.1.1.2.2.2.2.2.2.1, r1.1.1.1.2.2.2.2.2.2.2.1, r1.1.1.1.2.2.2.2.2.2.2.2.1, r1.1.1.1.2.2.2.2.2.2.2.2.2.1, r1.1.1.1.2.2.2.2.2.2.2.2.2.2.1, r1.1.1.1.2.2.2.2.2.2.2.2.2.2.2.1, r15.1.1), r1.1.1.2, ()), ())
    else
     some ((r1.1.1.1, r1.1.1.2, ()), ())
   else
   bif m_1.1 == 1 then
    Option.bind (tie_node_attach r1.1.1 m_1 lo_2) fun (r16 : Unit × (((Int × Int × Int × Int × Int × Int × (List Int) × Int × Int × Int × Int × Int × List (Int × Int × Int)) × List (Int × Int × Int × Int × Int × Int × (List Int) × Int × Int × ByteArray)) × Unit)) =>
    some ((r16.2.1.1, r16.2.1.2, ()), ())
   else
   bif m_1.1 == 2 then
    Option.bind (tie_node_accept r1.1.1 m_1) fun (r17 : Unit × (((Int × Int × Int × Int × Int × Int × (List Int) × Int × Int × Int × Int × Int × List (Int × Int × Int)) × List (Int × Int × Int × Int × Int × Int × (List Int) × Int × Int × ByteArray)) × Unit)) =>
    some ((r17.2.1.1, r17.2.1.2, ()), ())
   else
   bif m_1.1 == 3 then
    Option.bind (tie_node_refuse r1.1.1 m_1) fun (r18 : Unit × (((Int × Int × Int × Int × Int × Int × (List Int) × Int × Int × Int × Int × Int × List (Int × Int × Int)) × List (Int × Int × Int × Int × Int × Int × (List Int) × Int × Int × ByteArray)) × Unit)) =>
    some ((r18.2.1.1, r18.2.1.2, ()), ())
   else
   bif m_1.1 == 4 then
    Option.bind (tie_node_beatUp r1.1.1 m_1) fun (r19 : Unit × (((Int × Int × Int × Int × Int × Int × (List Int) × Int × Int × Int × Int × Int × List (Int × Int × Int)) × List (Int × Int × Int × Int × Int × Int × (List Int) × Int × Int × ByteArray)) × Unit)) =>
    some ((r19.2.1.1, r19.2.1.2, ()), ())
   else
   bif m_1.1 == 5 then
    Option.bind (tie_node_beatDn r1.1.1 m_1) fun (r20 : Unit × (((Int × Int × Int × Int × Int × Int × (List Int) × Int × Int × Int × Int × Int × List (Int × Int × Int)) × List (Int × Int × Int × Int × Int × Int × (List Int) × Int × Int × ByteArray)) × Unit)) =>
    some ((r20.2.1.1, r20.2.1.2, ()), ())
   else
   bif m_1.1 == 6 then
    Option.bind (kids_Drop r1.1.1.1.2.2.2.2.2.2.2.2.2.2.2.2 m_1.2.1) fun (r21 : ((List (Int × Int × Int)) × Unit) × Unit) =>
    some (((r1.1.1.1.1, r1.1.1.1.2.1, r1.1.1.1.2.2.1, r1.1.1.1.2.2.2.1, r1.1.1.1.2.2.2.2.1, r1.1.1.1.2.2.2.2.2.1, r1.1.1.1.2.2.2.2.2.2.1, r1.1.1.1.2.2.2.2.2.2.2.1, r1.1.1.1.2.2.2.2.2.2.2.2.1, r1.1.1.1.2.2.2.2.2.2.2.2.2.1, r1.1.1.1.2.2.2.2.2.2.2.2.2.2.1, r1.1.1.1.2.2.2.2.2.2.2.2.2.2.2.1, r21.1.1), r1.1.1.2, ()), ())
   else
    some ((r1.1.1.1, r1.1.1.2, ()), ())
  else
  bif m_1.1 == 1 then
   Option.bind (tie_node_attach r1.1.1 m_1 lo_2) fun (r22 : Unit × (((Int × Int × Int × Int × Int × Int × (List Int) × Int × Int × Int × Int × Int × List (Int × Int × Int)) × List (Int × Int × Int × Int × Int × Int × (List Int) × Int × Int × ByteArray)) × Unit)) =>
   some ((r22.2.1.1, r22.2.1.2, ()), ())
  else
  bif m_1.1 == 2 then
   Option.bind (tie_node_accept r1.1.1 m_1) fun (r23 : Unit × (((Int × Int × Int × Int × Int × Int × (List Int) × Int × Int × Int × Int × Int × List (Int × Int × Int)) × List (Int × Int × Int × Int × Int × Int × (List Int) × Int × Int × ByteArray)) × Unit)) =>
   some ((r23.2.1.1, r23.2.1.2, ()), ())
  else
  bif m_1.1 == 3 then
   Option.bind (tie_node_refuse r1.1.1 m_1) fun (r24 : Unit × (((Int × Int × Int × Int × Int × Int × (List Int) × Int × Int × Int × Int × Int × List (Int × Int × Int)) × List (Int × Int × Int × Int × Int × Int × (List Int) × Int × Int × ByteArray)) × Unit)) =>
   some ((r24.2.1.1, r24.2.1.2, ()), ())
  else
  bif m_1.1 == 4 then
   Option.bind (tie_node_beatUp r1.1.1 m_1) fun (r25 : Unit × (((Int × Int × Int × Int × Int × Int × (List Int) × Int × Int × Int × Int × Int × List (Int × Int × Int)) × List (Int × Int × Int × Int × Int × Int × (List Int) × Int × Int × ByteArray)) × Unit)) =>
   some ((r25.2.1.1, r25.2.1.2, ()), ())
  else
  bif m_1.1 == 5 then
   Option.bind (tie_node_beatDn r1.1.1 m_1) fun (r26 : Unit × (((Int × Int × Int × Int × Int × Int × (List Int) × Int × Int × Int × Int × Int × List (Int × Int × Int)) × List (Int × Int × Int × Int × Int × Int × (List Int) × Int × Int × ByteArray)) × Unit)) =>
   some ((r26.2.1.1, r26.2.1.2, ()), ())
  else
  bif m_1.1 == 6 then
   Option.bind (kids_Drop r1.1.1.1.2.2.2.2.2.2.2.2.2.2.2.2 m_1.2.1) fun (r27 : ((List (Int × Int × Int)) × Unit) × Unit) =>
   some (((r1.1.1.1.1, r1.1.1.1.2.1, r1.1.1.1.2.2.1, r1.1.1.1.2.2.2.1, r1.1.1.1.2.2.2.2.1, r1.1.1.1.2.2.2.2.2.1, r1.1.1.1.2.2.2.2.2.2.1, r1.1.1.1.2.2.2.2.2.2.2.1, r1.1.1.1.2.2.2.2.2.2.2.2.1, r1.1.1.1.2.2.2.2.2.2.2.2.2.1, r1.1.1.1.2.2.2.2.2.2.2.2.2.2.1, r1.1.1.1.2.2.2.2.2.2.2.2.2.2.2.1, r27.1.1), r1.1.1.2, ()), ())
  else
   some ((r1.1.1.1, r1.1.1.2, ()), ())
 else
 bif r1.1.1.1.2.2.2.1 != 0 then
  bif m_1.2.1 == r1.1.1.1.2.2.2.1 then
   bif decide (m_1.2.2.2.1 > r1.1.1.1.2.2.2.2.1) then
    Option.bind (tie_node_lets r1.1.1 0) fun (r28 : Unit × (((Int × Int × Int × Int × Int × Int × (List Int) × Int × Int × Int × Int × Int × List (Int × Int × Int)) × List (Int × Int × Int × Int × Int × Int × (List Int) × Int × Int × ByteArray)) × Unit)) =>
    bif m_1.1 == 1 then
     Option.bind (tie_node_attach r28.2.1 m_1 lo_2) fun (r29 : Unit × (((Int × Int × Int × Int × Int × Int × (List Int) × Int × Int × Int × Int × Int × List (Int × Int × Int)) × List (Int × Int × Int × Int × Int × Int × (List Int) × Int × Int × ByteArray)) × Unit)) =>
     some ((r29.2.1.1, r29.2.1.2, ()), ())
    else
    bif m_1.1 == 2 then
     Option.bind (tie_node_accept r28.2.1 m_1) fun (r30 : Unit × (((Int × Int × Int × Int × Int × Int × (List Int) × Int × Int × Int × Int × Int × List (Int × Int × Int)) × List (Int × Int × Int × Int × Int × Int × (List Int) × Int × Int × ByteArray)) × Unit)) =>
     some ((r30.2.1.1, r30.2.1.2, ()), ())
    else
    bif m_1.1 == 3 then
     Option.bind (tie_node_refuse r28.2.1 m_1) fun (r31 : Unit × (((Int × Int × Int × Int × Int × Int × (List Int) × Int × Int × Int × Int × Int × List (Int × Int × Int)) × List (Int × Int × Int × Int × Int × Int × (List Int) × Int × Int × ByteArray)) × Unit)) =>
     some ((r31.2.1.1, r31.2.1.2, ()), ())
    else
    bif m_1.1 == 4 then
     Option.bind (tie_node_beatUp r28.2.1 m_1) fun (r32 : Unit × (((Int × Int × Int × Int × Int × Int × (List Int) × Int × Int × Int × Int × Int × List (Int × Int × Int)) × List (Int × Int × Int × Int × Int × Int × (List Int) × Int × Int × ByteArray)) × Unit)) =>
     some ((r32.2.1.1, r32.2.1.2, ()), ())
    else
    bif m_1.1 == 5 then
     Option.bind (tie_node_beatDn r28.2.1 m_1) fun (r33 : Unit × (((Int × Int × Int × Int × Int × Int × (List Int) × Int × Int × Int × Int × Int × List (Int × Int × Int)) × List (Int × Int × Int × Int × Int × Int × (List Int) × Int × Int × ByteArray)) × Unit)) =>
     some ((r33.2.1.1, r33.2.1.2, ()), ())
    else
    bif m_1.1 == 6 then
     Option.bind (kids_Drop r28.2.1.1.2.2.2.2.2.2.2.2.2.2.2.2 m_1.2.1) fun (r34 : ((List (Int × Int × Int)) × Unit) × Unit) =>
     some (((r28.2.1.1.1, r28.2.1.1.2.1, r28.2.1.1.2.2.1, r28.2.1.1.2.2.2.1, r28.2.1.1.2.2.2.2.1, r28.2.1.1.2.2.2.2.2.1, r28.2.1.1.2.2.2.2.2.2.1, r28.2.1.1.2.2.2.2.2.2.2.1, r28.2.1.1.2.2.2.2.2.2.2.2.1, r28.2.1.1.2.2.2.2.2.2.2.2.2.1, r28.2.1.1.2.2.2.2.2.2.2.2.2.2.1, r28.2.1.1.2.2.2.2.2.2.2.2.2.2.2.1, r34.1.1), r28.2.1.2, ()), ())
    else
     some ((r28.2.1.1, r28.2.1.2, ()), ())
   else
   bif m_1.1 == 1 then
    Option.bind (tie_node_attach r1.1.1 m_1 lo_2) fun (r35 : Unit × (((Int × Int × Int × Int × Int × Int × (List Int) × Int × Int × Int × Int × Int × List (Int × Int × Int)) × List (Int × Int × Int × Int × Int × Int × (List Int) × Int × Int × ByteArray)) × Unit)) =>
    some ((r35.2.1.1, r35.2.1.2, ()), ())
   else
   bif m_1.1 == 2 then
    Option.bind (tie_node_accept r1.1.1 m_1) fun (r36 : Unit × (((Int × Int × Int × Int × Int × Int × (List Int) × Int × Int × Int × Int × Int × List (Int × Int × Int)) × List (Int × Int × Int × Int × Int × Int × (List Int) × Int × Int × ByteArray)) × Unit)) =>
    some ((r36.2.1.1, r36.2.1.2, ()), ())
   else
   bif m_1.1 == 3 then
    Option.bind (tie_node_refuse r1.1.1 m_1) fun (r37 : Unit × (((Int × Int × Int × Int × Int × Int × (List Int) × Int × Int × Int × Int × Int × List (Int × Int × Int)) × List (Int × Int × Int × Int × Int × Int × (List Int) × Int × Int × ByteArray)) × Unit)) =>
    some ((r37.2.1.1, r37.2.1.2, ()), ())
   else
   bif m_1.1 == 4 then
    Option.bind (tie_node_beatUp r1.1.1 m_1) fun (r38 : Unit × (((Int × Int × Int × Int × Int × Int × (List Int) × Int × Int × Int × Int × Int × List (Int × Int × Int)) × List (Int × Int × Int × Int × Int × Int × (List Int) × Int × Int × ByteArray)) × Unit)) =>
    some ((r38.2.1.1, r38.2.1.2, ()), ())
   else
   bif m_1.1 == 5 then
    Option.bind (tie_node_beatDn r1.1.1 m_1) fun (r39 : Unit × (((Int × Int × Int × Int × Int × Int × (List Int) × Int × Int × Int × Int × Int × List (Int × Int × Int)) × List (Int × Int × Int × Int × Int × Int × (List Int) × Int × Int × ByteArray)) × Unit)) =>
    some ((r39.2.1.1, r39.2.1.2, ()), ())
   else
   bif m_1.1 == 6 then
    Option.bind (kids_Drop r1.1.1.1.2.2.2.2.2.2.2.2.2.2.2.2 m_1.2.1) fun (r40 : ((List (Int × Int × Int)) × Unit) × Unit) =>
    some (((r1.1.1.1.1, r1.1.1.1.2.1, r1.1.1.1.2.2.1, r1.1.1.1.2.2.2.1, r1.1.1.1.2.2.2.2.1, r1.1.1.1.2.2.2.2.2.1, r1.1.1.1.2.2.2.2.2.2.1, r1.1.1.1.2.2.2.2.2.2.2.1, r1.1.1.1.2.2.2.2.2.2.2.2.1, r1.1.1.1.2.2.2.2.2.2.2.2.2.1, r1.1.1.1.2.2.2.2.2.2.2.2.2.2.1, r1.1.1.1.2.2.2.2.2.2.2.2.2.2.2.1, r40.1.1), r1.1.1.2, ()), ())
   else
    some ((r1.1.1.1, r1.1.1.2, ()), ())
  else
  bif m_1.1 == 1 then
   Option.bind (tie_node_attach r1.1.1 m_1 lo_2) fun (r41 : Unit × (((Int × Int × Int × Int × Int × Int × (List Int) × Int × Int × Int × Int × Int × List (Int × Int × Int)) × List (Int × Int × Int × Int × Int × Int × (List Int) × Int × Int × ByteArray)) × Unit)) =>
   some ((r41.2.1.1, r41.2.1.2, ()), ())
  else
  bif m_1.1 == 2 then
   Option.bind (tie_node_accept r1.1.1 m_1) fun (r42 : Unit × (((Int × Int × Int × Int × Int × Int × (List Int) × Int × Int × Int × Int × Int × List (Int × Int × Int)) × List (Int × Int × Int × Int × Int × Int × (List Int) × Int × Int × ByteArray)) × Unit)) =>
   some ((r42.2.1.1, r42.2.1.2, ()), ())
  else
  bif m_1.1 == 3 then
   Option.bind (tie_node_refuse r1.1.1 m_1) fun (r43 : Unit × (((Int × Int × Int × Int × Int × Int × (List Int) × Int × Int × Int × Int × Int × List (Int × Int × Int)) × List (Int × Int × Int × Int × Int × Int × (List Int) × Int × Int × ByteArray)) × Unit)) =>
   some ((r43.2.1.1, r43.2.1.2, ()), ())
  else
  bif m_1.1 == 4 then
   Option.bind (tie_node_beatUp r1.1.1 m_1) fun (r44 : Unit × (((Int × Int × Int × Int × Int × Int × (List Int) × Int × Int × Int × Int × Int × List (Int × Int × Int)) × List (Int × Int × Int × Int × Int × Int × (List Int) × Int × Int × ByteArray)) × Unit)) =>
   some ((r44.2.1.1, r44.2.1.2, ()), ())
  else
  bif m_1.1 == 5 then
   Option.bind (tie_node_beatDn r1.1.1 m_1) fun (r45 : Unit × (((Int × Int × Int × Int × Int × Int × (List Int) × Int × Int × Int × Int × Int × List (Int × Int × Int)) × List (Int × Int × Int × Int × Int × Int × (List Int) × Int × Int × ByteArray)) × Unit)) =>
   some ((r45.2.1.1, r45.2.1.2, ()), ())
  else
  bif m_1.1 == 6 then
   Option.bind (kids_Drop r1.1.1.1.2.2.2.2.2.2.2.2.2.2.2.2 m_1.2.1) fun (r46 : ((List (Int × Int × Int)) × Unit) × Unit) =>
   some (((r1.1.1.1.1, r1.1.1.1.2.1, r1.1.1.1.2.2.1, r1.1.1.1.2.2.2.1, r1.1.1.1.2.2.2.2.1, r1.1.1.1.2.2.2.2.2.1, r1.1.1.1.2.2.2.2.2.2.1, r1.1.1.1.2.2.2.2.2.2.2.1, r1.1.1.1.2.2.2.2.2.2.2.2.1, r1.1.1.1.2.2.2.2.2.2.2.2.2.1, r1.1.1.1.2.2.2.2.2.2.2.2.2.2.1, r1.1.1.1.2.2.2.2.2.2.2.2.2.2.2.1, r46.1.1), r1.1.1.2, ()), ())
  else
   some ((r1.1.1.1, r1.1.1.2, ()), ())
 else
 bif m_1.1 == 1 then
  Option.bind (tie_node_attach r1.1.1 m_1 lo_2) fun (r47 : Unit × (((Int × Int × Int × Int × Int × Int × (List Int) × Int × Int × Int × Int × Int × List (Int × Int × Int)) × List (Int × Int × Int × Int × Int × Int × (List Int) × Int × Int × ByteArray)) × Unit)) =>
  some ((r47.2.1.1, r47.2.1.2, ()), ())
 else
 bif m_1.1 == 2 then
  Option.bind (tie_node_accept r1.1.1 m_1) fun (r48 : Unit × (((Int × Int × Int × Int × Int × Int × (List Int) × Int × Int × Int × Int × Int × List (Int × Int × Int)) × List (Int × Int × Int × Int × Int × Int × (List Int) × Int × Int × ByteArray)) × Unit)) =>
  some ((r48.2.1.1, r48.2.1.2, ()), ())
 else
 bif m_1.1 == 3 then
  Option.bind (tie_node_refuse r1.1.1 m_1) fun (r49 : Unit × (((Int × Int × Int × Int × Int × Int × (List Int) × Int × Int × Int × Int × Int × List (Int × Int × Int)) × List (Int × Int × Int × Int × Int × Int × (List Int) × Int × Int × ByteArray)) × Unit)) =>
  some ((r49.2.1.1, r49.2.1.2, ()), ())
 else
 bif m_1.1 == 4 then
  Option.bind (tie_node_beatUp r1.1.1 m_1) fun (r50 : Unit × (((Int × Int × Int × Int × Int × Int × (List Int) × Int × Int × Int × Int × Int × List (Int × Int × Int)) × List (Int × Int × Int × Int × Int × Int × (List Int) × Int × Int × ByteArray)) × Unit)) =>
  some ((r50.2.1.1, r50.2.1.2, ()), ())
 else
 bif m_1.1 == 5 then
  Option.bind (tie_node_beatDn r1.1.1 m_1) fun (r51 : Unit × (((Int × Int × Int × Int × Int × Int × (List Int) × Int × Int × Int × Int × Int × List (Int × Int × Int)) × List (Int × Int × Int × Int × Int × Int × (List Int) × Int × Int × ByteArray)) × Unit)) =>
  some ((r51.2.1.1, r51.2.1.2, ()), ())
 else
 bif m_1.1 == 6 then
  Option.bind (kids_Drop r1.1.1.1.2.2.2.2.2.2.2.2.2.2.2.2 m_1.2.1) fun (r52 : ((List (Int × Int × Int)) × Unit) × Unit) =>
  some (((r1.1.1.1.1, r1.1.1.1.2.1, r1.1.1.1.2.2.1, r1.1.1.1.2.2.2.1, r1.1.1.1.2.2.2.2.1, r1.1.1.1.2.2.2.2.2.1, r1.1.1.1.2.2.2.2.2.2.1, r1.1.1.1.2.2.2.2.2.2.2.1, r1.1.1.1.2.2.2.2.2.2.2.2.1, r1.1.1.1.2.2.2.2.2.2.2.2.2.1, r1.1.1.1.2.2.2.2.2.2.2.2.2.2.1, r1.1.1.1.2.2.2.2.2.2.2.2.2.2.2.1, r52.1.1), r1.1.1.2, ()), ())
 else
  some ((r1.1.1.1, r1.1.1.2, ()), ())
theorem tie_Comes_eq (t_0 : Int × Int × Int × Int × Int × Int × (List Int) × Int × Int × Int × Int × Int × List (Int × Int × Int)) (m_1 : Int × Int × Int × Int × Int × Int × (List Int) × Int × Int × ByteArray) (lo_2 : Int) : evFn tie_Comes_Γ tab tie_Comes_fi 1 [.val t25, .val t40, .val t2] [⟨t25, [false, false, false, false, false, false, false, false, false, false, false, false, false], none⟩, ⟨t37, [true], none⟩] Tryz.f35 (t_0, m_1, lo_2, ()) = tie_Comes t_0 m_1 lo_2 := by kernel_rfl
noncomputable def tie_Comes_e : Ent := ⟨[.val t25, .val t40, .val t2], [⟨t25, [false, false, false, false, false, false, false, false, false, false, false, false, false], none⟩, ⟨t37, [true], none⟩], fun x => tie_Comes x.1 x.2.1 x.2.2.1⟩
theorem tie_Comes_good : Good tab.ty Tryz.prog 35 tie_Comes_e := by
  refine fn_good (Γ := tie_Comes_Γ) (fi := tie_Comes_fi) (n := 1) follows (gcons tie_of_good (gcons tie_node_lets_good (gcons kids_Old_good (gcons tie_node_attach_good (gcons tie_node_accept_good (gcons tie_node_refuse_good (gcons tie_node_beatUp_good (gcons tie_node_beatDn_good (gcons kids_Drop_good gnil))))))))) tabok Tryz.func35 (by kernel_rfl) (by kernel_rfl) (fun x r h => ?_)
  obtain ⟨t_0, m_1, lo_2, _u⟩ := x
  exact (tie_Comes_eq t_0 m_1 lo_2).trans h
noncomputable def slices_BinarySearchFunc_Item_Item_int_Γ : Ctx := []
def slices_BinarySearchFunc_Item_Item_int_fi : Fi := { keep := [], vty := [], vals := [], live := [(0, [0, 1, 2, 40, 41, 42, 43, 44, 45, 46, 47]), (1, [0, 1, 2, 8, 40, 41, 42, 43, 44, 45, 46, 47]), (2, [0, 1, 2, 8, 9, 10, 40, 41, 42, 43, 44, 45, 46, 47]), (3, [0, 1, 2, 8, 9, 10, 17, 40, 41, 42, 43, 44, 45, 46, 47]), (4, [0, 1, 2, 8, 9, 10, 11, 40, 41, 42, 43, 44, 45, 46, 47]), (5, [0, 1, 2, 8, 9, 10, 11, 31, 40, 41, 42, 43, 44, 45, 46, 47]), (6, [0, 1, 2, 8, 9, 10, 40, 41, 42, 43, 44, 45, 46, 47]), (7, [0, 1, 2, 8, 9, 10, 40, 41, 42, 43, 44, 45, 46, 47]), (8, [6, 7])] }
noncomputable def slices_BinarySearchFunc_Item_Item_int_B1 (L1 : (List (Int × ByteArray)) → Int → ((Int × ByteArray) × Int × Unit → Option (Int × Unit)) → Int → Int → Int → Option ((Int × Bool × Unit) × Unit)) (v1 : List (Int × ByteArray)) (v2 : Int) (v3 : ((Int × ByteArray) × Int × Unit → Option (Int × Unit))) (v4 : Int) (v5 : Int) (v6 : Int) : Option ((Int × Bool × Unit) × Unit) :=
 bif decide (v5 < v6) then
  bif decide (0 ≤ IntKind.wrap .i64 (Int.fdiv (IntKind.wrap .u64 (IntKind.wrap .i64 (v5 + v6))) (2 ^ 1))) && decide (IntKind.wrap .i64 (Int.fdiv (IntKind.wrap .u64 (IntKind.wrap .i64 (v5 + v6))) (2 ^ 1)) < (v1.length : Int)) then
   Option.bind (v3 ((List.getD v1 ((IntKind.wrap .i64 (Int.fdiv (IntKind.wrap .u64 (IntKind.wrap .i64 (v5 + v6))) (2 ^ 1))).toNat) (0, (⟨#[]⟩ : ByteArray))), v2, ())) fun (r7 : Int × Unit) =>
   bif decide (r7.1 < 0) then
    L1 v1 v2 v3 v4 (IntKind.wrap .i64 ((IntKind.wrap .i64 (Int.fdiv (IntKind.wrap .u64 (IntKind.wrap .i64 (v5 + v6))) (2 ^ 1))) + 1)) v6
   else
    L1 v1 v2 v3 v4 v5 (IntKind.wrap .i64 (Int.fdiv (IntKind.wrap .u64 (IntKind.wrap .i64 (v5 + v6))) (2 ^ 1)))
  else none
 else
 bif decide (v5 < v4) then
  bif decide (0 ≤ v5) && decide (v5 < (v1.length : Int)) then
   Option.bind (v3 ((List.getD v1 v5.toNat (0, (⟨#[]⟩ : ByteArray))), v2, ())) fun (r8 : Int × Unit) =>
   some ((v5, r8.1 == 0, ()), ())
  else none
 else
  some ((v5, false, ()), ())
noncomputable def slices_BinarySearchFunc_Item_Item_int_T (L1 : (List (Int × ByteArray)) → Int → ((Int × ByteArray) × Int × Unit → Option (Int × Unit)) → Int → Int → Int → Option ((Int × Bool × Unit) × Unit)) (x_0 : List (Int × ByteArray)) (target_1 : Int) (cmp_2 : ((Int × ByteArray) × Int × Unit → Option (Int × Unit))) : Option ((Int × Bool × Unit) × Unit) :=
 L1 x_0 target_1 cmp_2 (x_0.length : Int) 0 (x_0.length : Int)
noncomputable def slices_BinarySearchFunc_Item_Item_int_L1 (n : Nat) : Nat → (List (Int × ByteArray)) → Int → ((Int × ByteArray) × Int × Unit → Option (Int × Unit)) → Int → Int → Int → Option ((Int × Bool × Unit) × Unit) := iter (fun _ _ _ _ _ _ => none) fun L => slices_BinarySearchFunc_Item_Item_int_B1 L
noncomputable def slices_BinarySearchFunc_Item_Item_int_X1 (n m : Nat) (v1 : List (Int × ByteArray)) (v2 : Int) (v3 : ((Int × ByteArray) × Int × Unit → Option (Int × Unit))) (v4 : Int) (v5 : Int) (v6 : Int) : Option ((Int × Bool × Unit) × Unit) :=
 atLoop slices_BinarySearchFunc_Item_Item_int_Γ tab (fiB [.val t27, .val t2, .fn [t135, t2] [t2]] slices_BinarySearchFunc_Item_Item_int_fi) n [.val t27, .val t2, .fn [t135, t2] [t2]] [⟨t2, [false], none⟩, ⟨t4, [false], none⟩] Tryz.f252 [1, 1, 1, 0, 0] [] [0, 1, 2, 8, 9, 10] m
 ⟨[(0, SV.cv (CV.one (LV.pure t27 v1))), (1, SV.cv (CV.one (LV.pure t2 v2))), (2, SV.cv (CV.one (LV.clo [t135, t2] [t2] v3))), (8, SV.cv (CV.one (LV.pure t2 v4))), (9, SV.cv (CV.one (LV.pure t2 v5))), (10, SV.cv (CV.one (LV.pure t2 v6)))],
  []⟩
theorem slices_BinarySearchFunc_Item_Item_int_step1 (n m : Nat) (v1 : List (Int × ByteArray)) (v2 : Int) (v3 : ((Int × ByteArray) × Int × Unit → Option (Int × Unit))) (v4 : Int) (v5 : Int) (v6 : Int) : slices_BinarySearchFunc_Item_Item_int_X1 n (m + 1) v1 v2 v3 v4 v5 v6 = slices_BinarySearchFunc_Item_Item_int_B1 (slices_BinarySearchFunc_Item_Item_int_X1 n m) v1 v2 v3 v4 v5 v6 := by kernel_rfl
theorem slices_BinarySearchFunc_Item_Item_int_start (n : Nat) (x_0 : List (Int × ByteArray)) (target_1 : Int) (cmp_2 : ((Int × ByteArray) × Int × Unit → Option (Int × Unit))) : evFn slices_BinarySearchFunc_Item_Item_int_Γ tab slices_BinarySearchFunc_Item_Item_int_fi n [.val t27, .val t2, .fn [t135, t2] [t2]] [⟨t2, [false], none⟩, ⟨t4, [false], none⟩] Tryz.f252 (x_0, target_1, cmp_2, ()) = slices_BinarySearchFunc_Item_Item_int_T (slices_BinarySearchFunc_Item_Item_int_X1 n n) x_0 target_1 cmp_2 := by kernel_rfl
theorem slices_BinarySearchFunc_Item_Item_int_XL1 (n : Nat) : ∀ m, slices_BinarySearchFunc_Item_Item_int_X1 n m = slices_BinarySearchFunc_Item_Item_int_L1 n m
 | 0 => rfl
 | m + 1 => by
  have ih := slices_BinarySearchFunc_Item_Item_int_XL1 n m
  funext v1 v2 v3 v4 v5 v6
  rw [slices_BinarySearchFunc_Item_Item_int_step1, ih]
  rfl
noncomputable def slices_BinarySearchFunc_Item_Item_int_n (n : Nat) (x_0 : List (Int × ByteArray)) (target_1 : Int) (cmp_2 : ((Int × ByteArray) × Int × Unit → Option (Int × Unit))) : Option ((Int × Bool × Unit) × Unit) := slices_BinarySearchFunc_Item_Item_int_T (slices_BinarySearchFunc_Item_Item_int_L1 n n) x_0 target_1 cmp_2
noncomputable def slices_BinarySearchFunc_Item_Item_int (x_0 : List (Int × ByteArray)) (target_1 : Int) (cmp_2 : ((Int × ByteArray) × Int × Unit → Option (Int × Unit))) : Option ((Int × Bool × Unit) × Unit) := slices_BinarySearchFunc_Item_Item_int_n 1099511627776 x_0 target_1 cmp_2
theorem slices_BinarySearchFunc_Item_Item_int_eq (n : Nat) (x_0 : List (Int × ByteArray)) (target_1 : Int) (cmp_2 : ((Int × ByteArray) × Int × Unit → Option (Int × Unit))) : evFn slices_BinarySearchFunc_Item_Item_int_Γ tab slices_BinarySearchFunc_Item_Item_int_fi n [.val t27, .val t2, .fn [t135, t2] [t2]] [⟨t2, [false], none⟩, ⟨t4, [false], none⟩] Tryz.f252 (x_0, target_1, cmp_2, ()) = slices_BinarySearchFunc_Item_Item_int_n n x_0 target_1 cmp_2 := by
  rw [slices_BinarySearchFunc_Item_Item_int_start, slices_BinarySearchFunc_Item_Item_int_XL1 n n]
  rfl
noncomputable def slices_BinarySearchFunc_Item_Item_int_e : Ent := ⟨[.val t27, .val t2, .fn [t135, t2] [t2]], [⟨t2, [false], none⟩, ⟨t4, [false], none⟩], fun x => slices_BinarySearchFunc_Item_Item_int x.1 x.2.1 x.2.2.1⟩
theorem slices_BinarySearchFunc_Item_Item_int_good : Good tab.ty Tryz.prog 252 slices_BinarySearchFunc_Item_Item_int_e := by
  refine fn_good (Γ := slices_BinarySearchFunc_Item_Item_int_Γ) (fi := slices_BinarySearchFunc_Item_Item_int_fi) (n := 1099511627776) follows gnil tabok Tryz.func252 (by kernel_rfl) (by kernel_rfl) (fun x r h => ?_)
  obtain ⟨x_0, target_1, cmp_2, _u⟩ := x
  exact (slices_BinarySearchFunc_Item_Item_int_eq 1099511627776 x_0 target_1 cmp_2).trans h
noncomputable def ring_Get_fn1_Γ : Ctx := [(251, cmp_Compare_int_e)]
def ring_Get_fn1_fi : Fi := { keep := [], vty := [], vals := [], live := [(0, [1, 2]), (1, [4])] }
noncomputable def ring_Get_fn1 (i_0 : Int × ByteArray) (seq_1 : Int) : Option ((Int × Unit) × Unit) :=
 Option.bind (cmp_Compare_int i_0.1 seq_1) fun (r1 : (Int × Unit) × Unit) =>
 some ((r1.1.1, ()), ())
theorem ring_Get_fn1_eq (i_0 : Int × ByteArray) (seq_1 : Int) : evFn ring_Get_fn1_Γ tab ring_Get_fn1_fi 1 [.val t135, .val t2] [⟨t2, [false], none⟩] Tryz.f253 (i_0, seq_1, ()) = ring_Get_fn1 i_0 seq_1 := by kernel_rfl
noncomputable def ring_Get_fn1_e : Ent := ⟨[.val t135, .val t2], [⟨t2, [false], none⟩], fun x => ring_Get_fn1 x.1 x.2.1⟩
theorem ring_Get_fn1_good : Good tab.ty Tryz.prog 253 ring_Get_fn1_e := by
  refine fn_good (Γ := ring_Get_fn1_Γ) (fi := ring_Get_fn1_fi) (n := 1) follows (gcons cmp_Compare_int_good gnil) tabok Tryz.func253 (by kernel_rfl) (by kernel_rfl) (fun x r h => ?_)
  obtain ⟨i_0, seq_1, _u⟩ := x
  exact (ring_Get_fn1_eq i_0 seq_1).trans h
noncomputable def ring_Get_Γ : Ctx := [(252, slices_BinarySearchFunc_Item_Item_int_e), (253, ring_Get_fn1_e)]
def ring_Get_fi : Fi := { keep := [], vty := [], vals := [], live := [(0, [0, 1]), (1, [0, 6, 7]), (2, [0, 6, 15]), (3, [4, 5]), (4, [4, 5])] }
noncomputable def ring_Get (l_0 : List (Int × ByteArray)) (seq_1 : Int) : Option ((ByteArray × Bool × Unit) × Unit) :=
 Option.bind (slices_BinarySearchFunc_Item_Item_int l_0 seq_1 (fun x => (ring_Get_fn1 x.1 x.2.1).bind fun r => some (r.1.1, ()))) fun (r1 : (Int × Bool × Unit) × Unit) =>
 bif !r1.1.2.1 then
  some (((⟨#[]⟩ : ByteArray), false, ()), ())
 else
 bif decide (0 ≤ r1.1.1) && decide (r1.1.1 < (l_0.length : Int)) then
  some (((List.getD l_0 r1.1.1.toNat (0, (⟨#[]⟩ : ByteArray))).2, true, ()), ())
 else none
theorem ring_Get_eq (l_0 : List (Int × ByteArray)) (seq_1 : Int) : evFn ring_Get_Γ tab ring_Get_fi 1 [.val t27, .val t2] [⟨t9, [false], none⟩, ⟨t4, [false], none⟩] Tryz.f181 (l_0, seq_1, ()) = ring_Get l_0 seq_1 := by kernel_rfl
noncomputable def ring_Get_e : Ent := ⟨[.val t27, .val t2], [⟨t9, [false], none⟩, ⟨t4, [false], none⟩], fun x => ring_Get x.1 x.2.1⟩
theorem ring_Get_good : Good tab.ty Tryz.prog 181 ring_Get_e := by
  refine fn_good (Γ := ring_Get_Γ) (fi := ring_Get_fi) (n := 1) follows (gcons slices_BinarySearchFunc_Item_Item_int_good (gcons ring_Get_fn1_good gnil)) tabok Tryz.func181 (by kernel_rfl) (by kernel_rfl) (fun x r h => ?_)
  obtain ⟨l_0, seq_1, _u⟩ := x
  exact (ring_Get_eq l_0 seq_1).trans h
noncomputable def nak_Serves_Γ : Ctx := [(181, ring_Get_e)]
def nak_Serves_fi : Fi := { keep := [], vty := [(6, 27), (7, 152)], vals := [], live := [(0, [1, 2, 3, 6, 7, 25, 26, 27, 28, 48, 49, 52, 53, 60, 61, 62, 63, 64, 65, 66, 67, 68]), (1, [1, 2, 3, 6, 7, 14, 25, 26, 27, 28, 48, 49, 52, 53, 60, 61, 62, 63, 64, 65, 66, 67, 68]), (2, [6, 7]), (3, [1, 2, 3, 6, 7, 25, 26, 27, 28, 48, 49, 52, 53, 60, 61, 62, 63, 64, 65, 66, 67, 68]), (4, [1, 2, 3, 6, 7, 8, 25, 26, 27, 28, 48, 49, 52, 53, 60, 61, 62, 63, 64, 65, 66, 67, 68]), (5, [1, 2, 3, 6, 7, 8, 25, 26, 27, 28, 29, 48, 49, 52, 53, 60, 61, 62, 63, 64, 65, 66, 67, 68]), (6, [1, 2, 3, 6, 7, 8, 25, 26, 27, 28, 48, 49, 52, 53, 60, 61, 62, 63, 64, 65, 66, 67, 68]), (7, [1, 2, 3, 6, 7, 8, 9, 10, 25, 26, 27, 28, 48, 49, 52, 53, 60, 61, 62, 63, 64, 65, 66, 67, 68]), (8, [1, 2, 3, 6, 7, 8, 9, 10, 25, 26, 27, 28, 39, 48, 49, 52, 53, 60, 61, 62, 63, 64, 65, 66, 67, 68]), (9, [1, 2, 3, 6, 7, 8, 10, 25, 26, 27, 28, 48, 49, 52, 53, 60, 61, 62, 63, 64, 65, 66, 67, 68]), (10, [1, 2, 3, 6, 7, 8, 25, 26, 27, 28, 48, 49, 52, 53, 54, 60, 61, 62, 63, 64, 65, 66, 67, 68]), (11, [1, 2, 3, 6, 7, 8, 11, 25, 26, 27, 28, 48, 49, 52, 53, 60, 61, 62, 63, 64, 65, 66, 67, 68]), (12, [1, 2, 3, 6, 7, 8, 11, 25, 26, 27, 28, 48, 49, 52, 53, 60, 61, 62, 63, 64, 65, 66, 67, 68, 69]), (13, [1, 2, 3, 6, 7, 8, 25, 26, 27, 28, 48, 49, 52, 53, 60, 61, 62, 63, 64, 65, 66, 67, 68]), (14, [1, 2, 3, 6, 7, 8, 25, 26, 27, 28, 48, 49, 52, 53, 60, 61, 62, 63, 64, 65, 66, 67, 68]), (15, [6, 7])] }
noncomputable def nak_Serves_B1 (L1 : Int → Int → Int → Int → Int → (List (Int × ByteArray)) → (List (Int × ByteArray)) → (List (Int × Int × Int × ByteArray × Int)) → Int → Int → (List (Int × ByteArray)) → (List (Int × Int)) → Option (((List (Int × ByteArray)) × (List (Int × Int)) × Unit) × Unit)) (v1 : Int) (v2 : Int) (v3 : Int) (v4 : Int) (v5 : Int) (v6 : List (Int × ByteArray)) (v7 : List (Int × ByteArray)) (v8 : List (Int × Int × Int × ByteArray × Int)) (v9 : Int) (v10 : Int) (v11 : List (Int × ByteArray)) (v12 : List (Int × Int)) : Option (((List (Int × ByteArray)) × (List (Int × Int)) × Unit) × Unit) :=
 bif decide (v3 ≤ v2) then
  bif decide (IntKind.wrap .i64 (v3 - v1) < 8) then
   Option.bind (ring_Get v6 v3) fun (r13 : (ByteArray × Bool × Unit) × Unit) =>
   bif r13.1.2.1 then
    bif Nat.ble (v11.length + 1) 1073741824 then
     bif r13.1.2.1 then
      L1 v1 v2 (IntKind.wrap .i64 (v3 + 1)) v4 v5 v6 v7 v8 v9 v10 (v11 ++ [(v3, r13.1.1)]) v12
     else
     bif decide (v3 < 1) then
      L1 v1 v2 (IntKind.wrap .i64 (v3 + 1)) v4 v5 v6 v7 v8 v9 v10 (v11 ++ [(v3, r13.1.1)]) v12
     else
     bif decide (v3 > 1000000) then
      L1 v1 v2 (IntKind.wrap .i64 (v3 + 1)) v4 v5 v6 v7 v8 v9 v10 (v11 ++ [(v3, r13.1.1)]) v12
     else
     bif decide ((v12.length : Int) > 0) then
      bif decide (0 ≤ IntKind.wrap .i64 ((v12.length : Int) - 1)) && decide (IntKind.wrap .i64 ((v12.length : Int) - 1) < (v12.length : Int)) then
       bif decide (0 ≤ IntKind.wrap .i64 ((v12.length : Int) - 1)) && decide (IntKind.wrap .i64 ((v12.length : Int) - 1) < (v12.length : Int)) then
        bif ((List.getD v12 ((IntKind.wrap .i64 ((v12.length : Int) - 1)).toNat) (0, 0)).2) == (IntKind.wrap .i64 (v3 - 1)) then
         bif decide (0 ≤ IntKind.wrap .i64 ((v12.length : Int) - 1)) && decide (IntKind.wrap .i64 ((v12.length : Int) - 1) < (v12.length : Int)) then
          bif decide (0 ≤ IntKind.wrap .i64 ((v12.length : Int) - 1)) && decide (IntKind.wrap .i64 ((v12.length : Int) - 1) < (v12.length : Int)) then
           L1 v1 v2 (IntKind.wrap .i64 (v3 + 1)) v4 v5 v6 v7 v8 v9 v10 (v11 ++ [(v3, r13.1.1)]) (List.set v12 ((IntKind.wrap .i64 ((v12.length : Int) - 1)).toNat) ((List.getD v12 ((IntKind.wrap .i64 ((v12.length : Int) - 1)).toNat) (0, 0)).1, v3))
          else none
         else none
        else
        bif Nat.ble (v12.length + 1) 1073741824 then
         L1 v1 v2 (IntKind.wrap .i64 (v3 + 1)) v4 v5 v6 v7 v8 v9 v10 (v11 ++ [(v3, r13.1.1)]) (v12 ++ [(v3, v3)])
        else none
       else none
      else none
     else
     bif Nat.ble (v12.length + 1) 1073741824 then
      L1 v1 v2 (IntKind.wrap .i64 (v3 + 1)) v4 v5 v6 v7 v8 v9 v10 (v11 ++ [(v3, r13.1.1)]) (v12 ++ [(v3, v3)])
     else none
    else none
   else
   bif r13.1.2.1 then
    L1 v1 v2 (IntKind.wrap .i64 (v3 + 1)) v4 v5 v6 v7 v8 v9 v10 v11 v12
   else
   bif decide (v3 < 1) then
    L1 v1 v2 (IntKind.wrap .i64 (v3 + 1)) v4 v5 v6 v7 v8 v9 v10 v11 v12
   else
   bif decide (v3 > 1000000) then
    L1 v1 v2 (IntKind.wrap .i64 (v3 + 1)) v4 v5 v6 v7 v8 v9 v10 v11 v12
   else
   bif decide ((v12.length : Int) > 0) then
    bif decide (0 ≤ IntKind.wrap .i64 ((v12.length : Int) - 1)) && decide (IntKind.wrap .i64 ((v12.length : Int) - 1) < (v12.length : Int)) then
     bif decide (0 ≤ IntKind.wrap .i64 ((v12.length : Int) - 1)) && decide (IntKind.wrap .i64 ((v12.length : Int) - 1) < (v12.length : Int)) then
      bif ((List.getD v12 ((IntKind.wrap .i64 ((v12.length : Int) - 1)).toNat) (0, 0)).2) == (IntKind.wrap .i64 (v3 - 1)) then
       bif decide (0 ≤ IntKind.wrap .i64 ((v12.length : Int) - 1)) && decide (IntKind.wrap .i64 ((v12.length : Int) - 1) < (v12.length : Int)) then
        bif decide (0 ≤ IntKind.wrap .i64 ((v12.length : Int) - 1)) && decide (IntKind.wrap .i64 ((v12.length : Int) - 1) < (v12.length : Int)) then
         L1 v1 v2 (IntKind.wrap .i64 (v3 + 1)) v4 v5 v6 v7 v8 v9 v10 v11 (List.set v12 ((IntKind.wrap .i64 ((v12.length : Int) - 1)).toNat) ((List.getD v12 ((IntKind.wrap .i64 ((v12.length : Int) - 1)).toNat) (0, 0)).1, v3))
        else none
       else none
      else
      bif Nat.ble (v12.length + 1) 1073741824 then
       L1 v1 v2 (IntKind.wrap .i64 (v3 + 1)) v4 v5 v6 v7 v8 v9 v10 v11 (v12 ++ [(v3, v3)])
      else none
     else none
    else none
   else
   bif Nat.ble (v12.length + 1) 1073741824 then
    L1 v1 v2 (IntKind.wrap .i64 (v3 + 1)) v4 v5 v6 v7 v8 v9 v10 v11 (v12 ++ [(v3, v3)])
   else none
  else
   some ((v11, v12, ()), ())
 else
  some ((v11, v12, ()), ())
noncomputable def nak_Serves_T (L1 : Int → Int → Int → Int → Int → (List (Int × ByteArray)) → (List (Int × ByteArray)) → (List (Int × Int × Int × ByteArray × Int)) → Int → Int → (List (Int × ByteArray)) → (List (Int × Int)) → Option (((List (Int × ByteArray)) × (List (Int × Int)) × Unit) × Unit)) (f_0 : Int × Int × (List (Int × ByteArray)) × (List (Int × ByteArray)) × (List (Int × Int × Int × ByteArray × Int)) × Int × Int) (lo_1 : Int) (hi_2 : Int) : Option (((List (Int × ByteArray)) × (List (Int × Int)) × Unit) × Unit) :=
 bif decide (f_0.1 < 1) then
  some (([], [], ()), ())
 else
  L1 lo_1 (if IntKind.wrap .i64 (f_0.1 - 1) < hi_2 then IntKind.wrap .i64 (f_0.1 - 1) else hi_2) lo_1 f_0.1 f_0.2.1 f_0.2.2.1 f_0.2.2.2.1 f_0.2.2.2.2.1 f_0.2.2.2.2.2.1 f_0.2.2.2.2.2.2 [] []
noncomputable def nak_Serves_L1 (n : Nat) : Nat → Int → Int → Int → Int → Int → (List (Int × ByteArray)) → (List (Int × ByteArray)) → (List (Int × Int × Int × ByteArray × Int)) → Int → Int → (List (Int × ByteArray)) → (List (Int × Int)) → Option (((List (Int × ByteArray)) × (List (Int × Int)) × Unit) × Unit) := iter (fun _ _ _ _ _ _ _ _ _ _ _ _ => none) fun L => nak_Serves_B1 L
noncomputable def nak_Serves_X1 (n m : Nat) (v1 : Int) (v2 : Int) (v3 : Int) (v4 : Int) (v5 : Int) (v6 : List (Int × ByteArray)) (v7 : List (Int × ByteArray)) (v8 : List (Int × Int × Int × ByteArray × Int)) (v9 : Int) (v10 : Int) (v11 : List (Int × ByteArray)) (v12 : List (Int × Int)) : Option (((List (Int × ByteArray)) × (List (Int × Int)) × Unit) × Unit) :=
 atLoop nak_Serves_Γ tab (fiB [.val t31, .val t2, .val t2] nak_Serves_fi) n [.val t31, .val t2, .val t2] [⟨t27, [true], none⟩, ⟨t152, [true], none⟩] Tryz.f96 [1, 1, 1, 0, 1, 0] [] [1, 2, 3, 6, 7, 8] m
 ⟨[(1, SV.cv (CV.one (LV.pure t2 v1))), (2, SV.cv (CV.one (LV.pure t2 v2))), (3, SV.cv (CV.one (LV.ptr (3, 0) 0))), (6, SV.cv (CV.one (LV.ref (888888, 6)))), (7, SV.cv (CV.one (LV.ref (888888, 7)))), (8, SV.cv (CV.one (LV.pure t2 v3)))],
  [((3, 0), Ob.box 32 [LV.pure t2 v4, LV.pure t2 v5, LV.pure t27 v6, LV.pure t27 v7, LV.pure t28 v8, LV.pure t2 v9, LV.pure t2 v10]), ((888888, 6), Ob.row 136 t135 v11), ((888888, 7), Ob.row 81 t29 v12)]⟩
theorem nak_Serves_step1 (n m : Nat) (v1 : Int) (v2 : Int) (v3 : Int) (v4 : Int) (v5 : Int) (v6 : List (Int × ByteArray)) (v7 : List (Int × ByteArray)) (v8 : List (Int × Int × Int × ByteArray × Int)) (v9 : Int) (v10 : Int) (v11 : List (Int × ByteArray)) (v12 : List (Int × Int)) : nak_Serves_X1 n (m + 1) v1 v2 v3 v4 v5 v6 v7 v8 v9 v10 v11 v12 = nak_Serves_B1 (nak_Serves_X1 n m) v1 v2 v3 v4 v5 v6 v7 v8 v9 v10 v11 v12 := by kernel_rfl
theorem nak_Serves_start (n : Nat) (f_0 : Int × Int × (List (Int × ByteArray)) × (List (Int × ByteArray)) × (List (Int × Int × Int × ByteArray × Int)) × Int × Int) (lo_1 : Int) (hi_2 : Int) : evFn nak_Serves_Γ tab nak_Serves_fi n [.val t31, .val t2, .val t2] [⟨t27, [true], none⟩, ⟨t152, [true], none⟩] Tryz.f96 (f_0, lo_1, hi_2, ()) = nak_Serves_T (nak_Serves_X1 n n) f_0 lo_1 hi_2 := by kernel_rfl
theorem nak_Serves_XL1 (n : Nat) : ∀ m, nak_Serves_X1 n m = nak_Serves_L1 n m
 | 0 => rfl
 | m + 1 => by
  have ih := nak_Serves_XL1 n m
  funext v1 v2 v3 v4 v5 v6 v7 v8 v9 v10 v11 v12
  rw [nak_Serves_step1, ih]
  rfl
noncomputable def nak_Serves_n (n : Nat) (f_0 : Int × Int × (List (Int × ByteArray)) × (List (Int × ByteArray)) × (List (Int × Int × Int × ByteArray × Int)) × Int × Int) (lo_1 : Int) (hi_2 : Int) : Option (((List (Int × ByteArray)) × (List (Int × Int)) × Unit) × Unit) := nak_Serves_T (nak_Serves_L1 n n) f_0 lo_1 hi_2
noncomputable def nak_Serves (f_0 : Int × Int × (List (Int × ByteArray)) × (List (Int × ByteArray)) × (List (Int × Int × Int × ByteArray × Int)) × Int × Int) (lo_1 : Int) (hi_2 : Int) : Option (((List (Int × ByteArray)) × (List (Int × Int)) × Unit) × Unit) := nak_Serves_n 1099511627776 f_0 lo_1 hi_2
theorem nak_Serves_eq (n : Nat) (f_0 : Int × Int × (List (Int × ByteArray)) × (List (Int × ByteArray)) × (List (Int × Int × Int × ByteArray × Int)) × Int × Int) (lo_1 : Int) (hi_2 : Int) : evFn nak_Serves_Γ tab nak_Serves_fi n [.val t31, .val t2, .val t2] [⟨t27, [true], none⟩, ⟨t152, [true], none⟩] Tryz.f96 (f_0, lo_1, hi_2, ()) = nak_Serves_n n f_0 lo_1 hi_2 := by
  rw [nak_Serves_start, nak_Serves_XL1 n n]
  rfl
noncomputable def nak_Serves_e : Ent := ⟨[.val t31, .val t2, .val t2], [⟨t27, [true], none⟩, ⟨t152, [true], none⟩], fun x => nak_Serves x.1 x.2.1 x.2.2.1⟩
theorem nak_Serves_good : Good tab.ty Tryz.prog 96 nak_Serves_e := by
  refine fn_good (Γ := nak_Serves_Γ) (fi := nak_Serves_fi) (n := 1099511627776) follows (gcons ring_Get_good gnil) tabok Tryz.func96 (by kernel_rfl) (by kernel_rfl) (fun x r h => ?_)
  obtain ⟨f_0, lo_1, hi_2, _u⟩ := x
  exact (nak_Serves_eq 1099511627776 f_0 lo_1 hi_2).trans h
noncomputable def node_serves_Γ : Ctx := [(32, node_tells_e), (95, kids_Find_e), (96, nak_Serves_e)]
def node_serves_fi : Fi := { keep := [], vty := [(4, 37)], vals := [], live := [(0, [2, 3, 4, 25, 26, 27, 28, 29]), (1, [2, 3, 4, 5, 6, 25, 26, 27, 28, 29]), (2, [2, 3, 4, 30]), (3, [4]), (4, [2, 3, 4, 7, 8]), (5, [2, 3, 4, 8, 41, 42, 43]), (6, [2, 3, 4, 8, 41, 42, 43, 44]), (7, [2, 3, 4, 8, 10, 41, 42, 43]), (8, [2, 3, 4, 8, 41, 42, 43]), (9, [2, 3, 4, 8, 41, 42, 43]), (10, [2, 3, 4, 59, 60, 61]), (11, [2, 3, 4, 59, 60, 61, 62]), (12, [2, 3, 4, 12, 59, 60, 61]), (13, [2, 3, 4, 59, 60, 61]), (14, [2, 3, 4, 59, 60, 61]), (15, [4])] }
noncomputable def node_serves_B1 (L1 : Int → Int → Bool → Int → ByteArray → Int → Int → Int → Int → Int → Int → List Int → Int → Int → Int → Int → Int → (List (Int × Int × Int)) → Int → Int → (List (Int × ByteArray)) → (List (Int × ByteArray)) → (List (Int × Int × Int × ByteArray × Int)) → Int → Int → Int → Int → Int → Int → Int → Int → Int → List Int → Int → Int → ByteArray → (List (Int × Int × Int × Int × Int × Int × (List Int) × Int × Int × ByteArray)) → (List (Int × Int)) → (List (Int × ByteArray)) → Option (((List (Int × Int × Int × Int × Int × Int × (List Int) × Int × Int × ByteArray)) × Unit) × Unit)) (L2 : Int → Int → Bool → Int → ByteArray → Int → Int → Int → Int → Int → Int → List Int → Int → Int → Int → Int → Int → (List (Int × Int × Int)) → Int → Int → (List (Int × ByteArray)) → (List (Int × ByteArray)) → (List (Int × Int × Int × ByteArray × Int)) → Int → Int → Int → Int → Int → Int → Int → Int → Int → List Int → Int → Int → ByteArray → (List (Int × Int × Int × Int × Int × Int × (List Int) × Int × Int × ByteArray)) → (List (Int × Int)) → Option (((List (Int × Int × Int × Int × Int × Int × (List Int) × Int × Int × ByteArray)) × Unit) × Unit)) (v3 : Int) (v4 : Int) (v5 : Bool) (v6 : Int) (v7 : ByteArray) (v8 : Int) (v9 : Int) (v10 : Int) (v11 : Int) (v12 : Int) (v13 : Int) (v14 : List Int) (v15 : Int) (v16 : Int) (v17 : Int) (v18 : Int) (v19 : Int) (v20 : List (Int × Int × Int)) (v21 : Int) (v22 : Int) (v23 : List (Int × ByteArray)) (v24 : List (Int × ByteArray)) (v25 : List (Int × Int × Int × ByteArray × Int)) (v26 : Int) (v27 : Int) (v28 : Int) (v29 : Int) (v30 : Int) (v31 : Int) (v32 : Int) (v33 : Int) (v34 : Int) (v35 : List Int) (v36 : Int) (v37 : Int) (v38 : ByteArray) (v39 : List (Int × Int × Int × Int × Int × Int × (List Int) × Int × Int × ByteArray)) (v40 : List (Int × Int)) (v41 : List (Int × ByteArray)) : Option (((List (Int × Int × Int × Int × Int × Int × (List Int) × Int × Int × ByteArray)) × Unit) × Unit) :=
 bif decide (v4 < v3) then
  bif decide (0 ≤ v4) && decide (v4 < (v41.length : Int)) then
   bif decide (0 ≤ v4) && decide (v4 < (v41.length : Int)) then
    Option.bind (node_tells (v5, v6, v7, (v8, v9, v10, v11, v12, v13, v14, v15, v16, v17, v18, v19, v20), (v21, v22, v23, v24, v25, v26, v27), v28) 7 v30 ((List.getD v41 v4.toNat (0, (⟨#[]⟩ : ByteArray))).1) 0 ((List.getD v41 v4.toNat (0, (⟨#[]⟩ : ByteArray))).2)) fun (r42 : ((Int × Int × Int × Int × Int × Int × (List Int) × Int × Int × ByteArray) × Unit) × Unit) =>
    bif Nat.ble (v39.length + 1) 1073741824 then
     L1 v3 (IntKind.wrap .i64 (v4 + 1)) v5 v6 v7 v8 v9 v10 v11 v12 v13 v14 v15 v16 v17 v18 v19 v20 v21 v22 v23 v24 v25 v26 v27 v28 v29 v30 v31 v32 v33 v34 v35 v36 v37 v38 (v39 ++ [r42.1.1]) v40 v41
    else none
   else none
  else none
 else
  L2 (v40.length : Int) 0 v5 v6 v7 v8 v9 v10 v11 v12 v13 v14 v15 v16 v17 v18 v19 v20 v21 v22 v23 v24 v25 v26 v27 v28 v29 v30 v31 v32 v33 v34 v35 v36 v37 v38 v39 v40
noncomputable def node_serves_B2 (L2 : Int → Int → Bool → Int → ByteArray → Int → Int → Int → Int → Int → Int → List Int → Int → Int → Int → Int → Int → (List (Int × Int × Int)) → Int → Int → (List (Int × ByteArray)) → (List (Int × ByteArray)) → (List (Int × Int × Int × ByteArray × Int)) → Int → Int → Int → Int → Int → Int → Int → Int → Int → List Int → Int → Int → ByteArray → (List (Int × Int × Int × Int × Int × Int × (List Int) × Int × Int × ByteArray)) → (List (Int × Int)) → Option (((List (Int × Int × Int × Int × Int × Int × (List Int) × Int × Int × ByteArray)) × Unit) × Unit)) (v43 : Int) (v44 : Int) (v45 : Bool) (v46 : Int) (v47 : ByteArray) (v48 : Int) (v49 : Int) (v50 : Int) (v51 : Int) (v52 : Int) (v53 : Int) (v54 : List Int) (v55 : Int) (v56 : Int) (v57 : Int) (v58 : Int) (v59 : Int) (v60 : List (Int × Int × Int)) (v61 : Int) (v62 : Int) (v63 : List (Int × ByteArray)) (v64 : List (Int × ByteArray)) (v65 : List (Int × Int × Int × ByteArray × Int)) (v66 : Int) (v67 : Int) (v68 : Int) (v69 : Int) (v70 : Int) (v71 : Int) (v72 : Int) (v73 : Int) (v74 : Int) (v75 : List Int) (v76 : Int) (v77 : Int) (v78 : ByteArray) (v79 : List (Int × Int × Int × Int × Int × Int × (List Int) × Int × Int × ByteArray)) (v80 : List (Int × Int)) : Option (((List (Int × Int × Int × Int × Int × Int × (List Int) × Int × Int × ByteArray)) × Unit) × Unit) :=
 bif decide (v44 < v43) then
  bif decide (0 ≤ v44) && decide (v44 < (v80.length : Int)) then
   bif decide (0 ≤ v44) && decide (v44 < (v80.length : Int)) then
    Option.bind (node_tells (v45, v46, v47, (v48, v49, v50, v51, v52, v53, v54, v55, v56, v57, v58, v59, v60), (v61, v62, v63, v64, v65, v66, v67), v68) 9 v70 ((List.getD v80 v44.toNat (0, 0)).1) ((List.getD v80 v44.toNat (0, 0)).2) (⟨#[]⟩ : ByteArray)) fun (r81 : ((Int × Int × Int × Int × Int × Int × (List Int) × Int × Int × ByteArray) × Unit) × Unit) =>
    bif Nat.ble (v79.length + 1) 1073741824 then
     L2 v43 (IntKind.wrap .i64 (v44 + 1)) v45 v46 v47 v48 v49 v50 v51 v52 v53 v54 v55 v56 v57 v58 v59 v60 v61 v62 v63 v64 v65 v66 v67 v68 v69 v70 v71 v72 v73 v74 v75 v76 v77 v78 (v79 ++ [r81.1.1]) v80
    else none
   else none
  else none
 else
  some ((v79, ()), ())
noncomputable def node_serves_T (L1 : Int → Int → Bool → Int → ByteArray → Int → Int → Int → Int → Int → Int → List Int → Int → Int → Int → Int → Int → (List (Int × Int × Int)) → Int → Int → (List (Int × ByteArray)) → (List (Int × ByteArray)) → (List (Int × Int × Int × ByteArray × Int)) → Int → Int → Int → Int → Int → Int → Int → Int → Int → List Int → Int → Int → ByteArray → (List (Int × Int × Int × Int × Int × Int × (List Int) × Int × Int × ByteArray)) → (List (Int × Int)) → (List (Int × ByteArray)) → Option (((List (Int × Int × Int × Int × Int × Int × (List Int) × Int × Int × ByteArray)) × Unit) × Unit)) (n_0 : Bool × Int × ByteArray × (Int × Int × Int × Int × Int × Int × (List Int) × Int × Int × Int × Int × Int × List (Int × Int × Int)) × (Int × Int × (List (Int × ByteArray)) × (List (Int × ByteArray)) × (List (Int × Int × Int × ByteArray × Int)) × Int × Int) × Int) (m_1 : Int × Int × Int × Int × Int × Int × (List Int) × Int × Int × ByteArray) : Option (((List (Int × Int × Int × Int × Int × Int × (List Int) × Int × Int × ByteArray)) × Unit) × Unit) :=
 Option.bind (kids_Find n_0.2.2.2.1.2.2.2.2.2.2.2.2.2.2.2.2 m_1.2.1) fun (r1 : ((Int × Int × Int) × Bool × Unit) × Unit) =>
 bif !r1.1.2.1 then
  some (([], ()), ())
 else
 bif r1.1.1.2.1 != m_1.2.2.2.1 then
  some (([], ()), ())
 else
  Option.bind (nak_Serves n_0.2.2.2.2.1 m_1.2.2.2.2.2.2.2.1 m_1.2.2.2.2.2.2.2.2.1) fun (r2 : ((List (Int × ByteArray)) × (List (Int × Int)) × Unit) × Unit) =>
  L1 (r2.1.1.length : Int) 0 n_0.1 n_0.2.1 n_0.2.2.1 n_0.2.2.2.1.1 n_0.2.2.2.1.2.1 n_0.2.2.2.1.2.2.1 n_0.2.2.2.1.2.2.2.1 n_0.2.2.2.1.2.2.2.2.1 n_0.2.2.2.1.2.2.2.2.2.1 n_0.2.2.2.1.2.2.2.2.2.2.1 n_0.2.2.2.1.2.2.2.2.2.2.2.1 n_0.2.2.2.1.2.2.2.2.2.2.2.2.1 n_0.2.2.2.1.2.2.2.2.2.2.2.2.2.1 n_0.2.2.2.1.2.2.2.2.2.2.2.2.2.2.1 n_0.2.2.2.1.2.2.2.2.2.2.2.2.2.2.2.1 n_0.2.2.2.1.2.2.2.2.2.2.2.2.2.2.2.2 n_0.2.2.2.2.1.1 n_0.2.2.2.2.1.2.1 n_0.2.2.2.2.1.2.2.1 n_0.2.2.2.2.1.2.2.2.1 n_0.2.2.2.2.1.2.2.2.2.1 n_0.2.2.2.2.1.2.2.2.2.2.1 n_0.2.2.2.2.1.2.2.2.2.2.2 n_0.2.2.2.2.2 m_1.1 m_1.2.1 m_1.2.2.1 m_1.2.2.2.1 m_1.2.2.2.2.1 m_1.2.2.2.2.2.1 m_1.2.2.2.2.2.2.1 m_1.2.2.2.2.2.2.2.1 m_1.2.2.2.2.2.2.2.2.1 m_1.2.2.2.2.2.2.2.2.2 [] r2.1.2.1 r2.1.1
noncomputable def node_serves_L2 (n : Nat) : Nat → Int → Int → Bool → Int → ByteArray → Int → Int → Int → Int → Int → Int → List Int → Int → Int → Int → Int → Int → (List (Int × Int × Int)) → Int → Int → (List (Int × ByteArray)) → (List (Int × ByteArray)) → (List (Int × Int × Int × ByteArray × Int)) → Int → Int → Int → Int → Int → Int → Int → Int → Int → List Int → Int → Int → ByteArray → (List (Int × Int × Int × Int × Int × Int × (List Int) × Int × Int × ByteArray)) → (List (Int × Int)) → Option (((List (Int × Int × Int × Int × Int × Int × (List Int) × Int × Int × ByteArray)) × Unit) × Unit) := iter (fun _ _ _ _ _ _ _ _ _ _ _ _ _ _ _ _ _ _ _ _ _ _ _ _ _ _ _ _ _ _ _ _ _ _ _ _ _ _ => none) fun L => node_serves_B2 L
noncomputable def node_serves_L1 (n : Nat) : Nat → Int → Int → Bool → Int → ByteArray → Int → Int → Int → Int → Int → Int → List Int → Int → Int → Int → Int → Int → (List (Int × Int × Int)) → Int → Int → (List (Int × ByteArray)) → (List (Int × ByteArray)) → (List (Int × Int × Int × ByteArray × Int)) → Int → Int → Int → Int → Int → Int → Int → Int → Int → List Int → Int → Int → ByteArray → (List (Int × Int × Int × Int × Int × Int × (List Int) × Int × Int × ByteArray)) → (List (Int × Int)) → (List (Int × ByteArray)) → Option (((List (Int × Int × Int × Int × Int × Int × (List Int) × Int × Int × ByteArray)) × Unit) × Unit) := iter (fun _ _ _ _ _ _ _ _ _ _ _ _ _ _ _ _ _ _ _ _ _ _ _ _ _ _ _ _ _ _ _ _ _ _ _ _ _ _ _ => none) fun L => node_serves_B1 L (node_serves_L2 n n)
noncomputable def node_serves_X1 (n m : Nat) (v3 : Int) (v4 : Int) (v5 : Bool) (v6 : Int) (v7 : ByteArray) (v8 : Int) (v9 : Int) (v10 : Int) (v11 : Int) (v12 : Int) (v13 : Int) (v14 : List Int) (v15 : Int) (v16 : Int) (v17 : Int) (v18 : Int) (v19 : Int) (v20 : List (Int × Int × Int)) (v21 : Int) (v22 : Int) (v23 : List (Int × ByteArray)) (v24 : List (Int × ByteArray)) (v25 : List (Int × Int × Int × ByteArray × Int)) (v26 : Int) (v27 : Int) (v28 : Int) (v29 : Int) (v30 : Int) (v31 : Int) (v32 : Int) (v33 : Int) (v34 : Int) (v35 : List Int) (v36 : Int) (v37 : Int) (v38 : ByteArray) (v39 : List (Int × Int × Int × Int × Int × Int × (List Int) × Int × Int × ByteArray)) (v40 : List (Int × Int)) (v41 : List (Int × ByteArray)) : Option (((List (Int × Int × Int × Int × Int × Int × (List Int) × Int × Int × ByteArray)) × Unit) × Unit) :=
 atLoop node_serves_Γ tab (fiB [.val t33, .val t40] node_serves_fi) n [.val t33, .val t40] [⟨t37, [true], none⟩] Tryz.f36 [1, 1, 1, 1, 0, 1, 0] [] [2, 3, 4, 8, 41, 42, 43] m
 ⟨[(2, SV.cv (CV.one (LV.ptr (2, 0) 0))), (3, SV.cv (CV.one (LV.ptr (3, 0) 0))), (4, SV.cv (CV.one (LV.ref (888888, 4)))), (8, SV.cv (CV.one (LV.ref (888888, 8)))), (41, SV.cv (CV.one (LV.ref (888888, 41)))), (42, SV.cv (CV.one (LV.pure t2 v3))), (43, SV.cv (CV.one (LV.pure t2 v4)))],
  [((2, 0), Ob.box 34 [LV.pure t4 v5, LV.pure t2 v6, LV.pure t9 v7, LV.pure t2 v8, LV.pure t2 v9, LV.pure t2 v10, LV.pure t2 v11, LV.pure t2 v12, LV.pure t2 v13, LV.pure t23 v14, LV.pure t2 v15, LV.pure t2 v16, LV.pure t2 v17, LV.pure t2 v18, LV.pure t2 v19, LV.pure t24 v20, LV.pure t2 v21, LV.pure t2 v22, LV.pure t27 v23, LV.pure t27 v24, LV.pure t28 v25, LV.pure t2 v26, LV.pure t2 v27, LV.pure t2 v28]), ((3, 0), Ob.box 41 [LV.pure t2 v29, LV.pure t2 v30, LV.pure t2 v31, LV.pure t2 v32, LV.pure t2 v33, LV.pure t2 v34, LV.pure t23 v35, LV.pure t2 v36, LV.pure t2 v37, LV.pure t9 v38]), ((888888, 4), Ob.row 41 t40 v39), ((888888, 8), Ob.row 81 t29 v40), ((888888, 41), Ob.row 136 t135 v41)]⟩
noncomputable def node_serves_X2 (n m : Nat) (v43 : Int) (v44 : Int) (v45 : Bool) (v46 : Int) (v47 : ByteArray) (v48 : Int) (v49 : Int) (v50 : Int) (v51 : Int) (v52 : Int) (v53 : Int) (v54 : List Int) (v55 : Int) (v56 : Int) (v57 : Int) (v58 : Int) (v59 : Int) (v60 : List (Int × Int × Int)) (v61 : Int) (v62 : Int) (v63 : List (Int × ByteArray)) (v64 : List (Int × ByteArray)) (v65 : List (Int × Int × Int × ByteArray × Int)) (v66 : Int) (v67 : Int) (v68 : Int) (v69 : Int) (v70 : Int) (v71 : Int) (v72 : Int) (v73 : Int) (v74 : Int) (v75 : List Int) (v76 : Int) (v77 : Int) (v78 : ByteArray) (v79 : List (Int × Int × Int × Int × Int × Int × (List Int) × Int × Int × ByteArray)) (v80 : List (Int × Int)) : Option (((List (Int × Int × Int × Int × Int × Int × (List Int) × Int × Int × ByteArray)) × Unit) × Unit) :=
 atLoop node_serves_Γ tab (fiB [.val t33, .val t40] node_serves_fi) n [.val t33, .val t40] [⟨t37, [true], none⟩] Tryz.f36 [1, 1, 1, 1, 1, 0, 1, 0] [] [2, 3, 4, 59, 60, 61] m
 ⟨[(2, SV.cv (CV.one (LV.ptr (2, 0) 0))), (3, SV.cv (CV.one (LV.ptr (3, 0) 0))), (4, SV.cv (CV.one (LV.ref (888888, 4)))), (59, SV.cv (CV.one (LV.ref (888888, 59)))), (60, SV.cv (CV.one (LV.pure t2 v43))), (61, SV.cv (CV.one (LV.pure t2 v44)))],
  [((2, 0), Ob.box 34 [LV.pure t4 v45, LV.pure t2 v46, LV.pure t9 v47, LV.pure t2 v48, LV.pure t2 v49, LV.pure t2 v50, LV.pure t2 v51, LV.pure t2 v52, LV.pure t2 v53, LV.pure t23 v54, LV.pure t2 v55, LV.pure t2 v56, LV.pure t2 v57, LV.pure t2 v58, LV.pure t2 v59, LV.pure t24 v60, LV.pure t2 v61, LV.pure t2 v62, LV.pure t27 v63, LV.pure t27 v64, LV.pure t28 v65, LV.pure t2 v66, LV.pure t2 v67, LV.pure t2 v68]), ((3, 0), Ob.box 41 [LV.pure t2 v69, LV.pure t2 v70, LV.pure t2 v71, LV.pure t2 v72, LV.pure t2 v73, LV.pure t2 v74, LV.pure t23 v75, LV.pure t2 v76, LV.pure t2 v77, LV.pure t9 v78]), ((888888, 4), Ob.row 41 t40 v79), ((888888, 59), Ob.row 81 t29 v80)]⟩
theorem node_serves_step1 (n m : Nat) (v3 : Int) (v4 : Int) (v5 : Bool) (v6 : Int) (v7 : ByteArray) (v8 : Int) (v9 : Int) (v10 : Int) (v11 : Int) (v12 : Int) (v13 : Int) (v14 : List Int) (v15 : Int) (v16 : Int) (v17 : Int) (v18 : Int) (v19 : Int) (v20 : List (Int × Int × Int)) (v21 : Int) (v22 : Int) (v23 : List (Int × ByteArray)) (v24 : List (Int × ByteArray)) (v25 : List (Int × Int × Int × ByteArray × Int)) (v26 : Int) (v27 : Int) (v28 : Int) (v29 : Int) (v30 : Int) (v31 : Int) (v32 : Int) (v33 : Int) (v34 : Int) (v35 : List Int) (v36 : Int) (v37 : Int) (v38 : ByteArray) (v39 : List (Int × Int × Int × Int × Int × Int × (List Int) × Int × Int × ByteArray)) (v40 : List (Int × Int)) (v41 : List (Int × ByteArray)) : node_serves_X1 n (m + 1) v3 v4 v5 v6 v7 v8 v9 v10 v11 v12 v13 v14 v15 v16 v17 v18 v19 v20 v21 v22 v23 v24 v25 v26 v27 v28 v29 v30 v31 v32 v33 v34 v35 v36 v37 v38 v39 v40 v41 = node_serves_B1 (node_serves_X1 n m) (node_serves_X2 n n) v3 v4 v5 v6 v7 v8 v9 v10 v11 v12 v13 v14 v15 v16 v17 v18 v19 v20 v21 v22 v23 v24 v25 v26 v27 v28 v29 v30 v31 v32 v33 v34 v35 v36 v37 v38 v39 v40 v41 := by kernel_rfl
theorem node_serves_step2 (n m : Nat) (v43 : Int) (v44 : Int) (v45 : Bool) (v46 : Int) (v47 : ByteArray) (v48 : Int) (v49 : Int) (v50 : Int) (v51 : Int) (v52 : Int) (v53 : Int) (v54 : List Int) (v55 : Int) (v56 : Int) (v57 : Int) (v58 : Int) (v59 : Int) (v60 : List (Int × Int × Int)) (v61 : Int) (v62 : Int) (v63 : List (Int × ByteArray)) (v64 : List (Int × ByteArray)) (v65 : List (Int × Int × Int × ByteArray × Int)) (v66 : Int) (v67 : Int) (v68 : Int) (v69 : Int) (v70 : Int) (v71 : Int) (v72 : Int) (v73 : Int) (v74 : Int) (v75 : List Int) (v76 : Int) (v77 : Int) (v78 : ByteArray) (v79 : List (Int × Int × Int × Int × Int × Int × (List Int) × Int × Int × ByteArray)) (v80 : List (Int × Int)) : node_serves_X2 n (m + 1) v43 v44 v45 v46 v47 v48 v49 v50 v51 v52 v53 v54 v55 v56 v57 v58 v59 v60 v61 v62 v63 v64 v65 v66 v67 v68 v69 v70 v71 v72 v73 v74 v75 v76 v77 v78 v79 v80 = node_serves_B2 (node_serves_X2 n m) v43 v44 v45 v46 v47 v48 v49 v50 v51 v52 v53 v54 v55 v56 v57 v58 v59 v60 v61 v62 v63 v64 v65 v66 v67 v68 v69 v70 v71 v72 v73 v74 v75 v76 v77 v78 v79 v80 := by kernel_rfl
theorem node_serves_start (n : Nat) (n_0 : Bool × Int × ByteArray × (Int × Int × Int × Int × Int × Int × (List Int) × Int × Int × Int × Int × Int × List (Int × Int × Int)) × (Int × Int × (List (Int × ByteArray)) × (List (Int × ByteArray)) × (List (Int × Int × Int × ByteArray × Int)) × Int × Int) × Int) (m_1 : Int × Int × Int × Int × Int × Int × (List Int) × Int × Int × ByteArray) : evFn node_serves_Γ tab node_serves_fi n [.val t33, .val t40] [⟨t37, [true], none⟩] Tryz.f36 (n_0, m_1, ()) = node_serves_T (node_serves_X1 n n) n_0 m_1 := by kernel_rfl
theorem node_serves_XL2 (n : Nat) : ∀ m, node_serves_X2 n m = node_serves_L2 n m
 | 0 => rfl
 | m + 1 => by
  have ih := node_serves_XL2 n m
  funext v43 v44 v45 v46 v47 v48 v49 v50 v51 v52 v53 v54 v55 v56 v57 v58 v59 v60 v61 v62 v63 v64 v65 v66 v67 v68 v69 v70 v71 v72 v73 v74 v75 v76 v77 v78 v79 v80
  rw [node_serves_step2, ih]
  rfl
theorem node_serves_XL1 (n : Nat) : ∀ m, node_serves_X1 n m = node_serves_L1 n m
 | 0 => rfl
 | m + 1 => by
  have ih := node_serves_XL1 n m
  funext v3 v4 v5 v6 v7 v8 v9 v10 v11 v12 v13 v14 v15 v16 v17 v18 v19 v20 v21 v22 v23 v24 v25 v26 v27 v28 v29 v30 v31 v32 v33 v34 v35 v36 v37 v38 v39 v40 v41
  rw [node_serves_step1, node_serves_XL2 n n, ih]
  rfl
noncomputable def node_serves_n (n : Nat) (n_0 : Bool × Int × ByteArray × (Int × Int × Int × Int × Int × Int × (List Int) × Int × Int × Int × Int × Int × List (Int × Int × Int)) × (Int × Int × (List (Int × ByteArray)) × (List (Int × ByteArray)) × (List (Int × Int × Int × ByteArray × Int)) × Int × Int) × Int) (m_1 : Int × Int × Int × Int × Int × Int × (List Int) × Int × Int × ByteArray) : Option (((List (Int × Int × Int × Int × Int × Int × (List Int) × Int × Int × ByteArray)) × Unit) × Unit) := node_serves_T (node_serves_L1 n n) n_0 m_1
noncomputable def node_serves (n_0 : Bool × Int × ByteArray × (Int × Int × Int × Int × Int × Int × (List Int) × Int × Int × Int × Int × Int × List (Int × Int × Int)) × (Int × Int × (List (Int × ByteArray)) × (List (Int × ByteArray)) × (List (Int × Int × Int × ByteArray × Int)) × Int × Int) × Int) (m_1 : Int × Int × Int × Int × Int × Int × (List Int) × Int × Int × ByteArray) : Option (((List (Int × Int × Int × Int × Int × Int × (List Int) × Int × Int × ByteArray)) × Unit) × Unit) := node_serves_n 1099511627776 n_0 m_1
theorem node_serves_eq (n : Nat) (n_0 : Bool × Int × ByteArray × (Int × Int × Int × Int × Int × Int × (List Int) × Int × Int × Int × Int × Int × List (Int × Int × Int)) × (Int × Int × (List (Int × ByteArray)) × (List (Int × ByteArray)) × (List (Int × Int × Int × ByteArray × Int)) × Int × Int) × Int) (m_1 : Int × Int × Int × Int × Int × Int × (List Int) × Int × Int × ByteArray) : evFn node_serves_Γ tab node_serves_fi n [.val t33, .val t40] [⟨t37, [true], none⟩] Tryz.f36 (n_0, m_1, ()) = node_serves_n n n_0 m_1 := by
  rw [node_serves_start, node_serves_XL1 n n]
  rfl
noncomputable def node_serves_e : Ent := ⟨[.val t33, .val t40], [⟨t37, [true], none⟩], fun x => node_serves x.1 x.2.1⟩
theorem node_serves_good : Good tab.ty Tryz.prog 36 node_serves_e := by
  refine fn_good (Γ := node_serves_Γ) (fi := node_serves_fi) (n := 1099511627776) follows (gcons node_tells_good (gcons kids_Find_good (gcons nak_Serves_good gnil))) tabok Tryz.func36 (by kernel_rfl) (by kernel_rfl) (fun x r h => ?_)
  obtain ⟨n_0, m_1, _u⟩ := x
  exact (node_serves_eq 1099511627776 n_0 m_1).trans h
noncomputable def feed_Knows_Γ : Ctx := [(79, feed_twin_e)]
def feed_Knows_fi : Fi := { keep := [], vty := [], vals := [], live := [(0, [1, 2, 4, 11, 12]), (1, [1, 2, 4, 11, 12]), (2, [1, 2, 4, 13]), (3, [2, 4]), (4, [4])] }
noncomputable def feed_Knows (f_0 : Int × Int × (List (Int × ByteArray)) × (List (Int × ByteArray)) × (List (Int × Int × Int × ByteArray × Int)) × Int × Int) (top_1 : Int) : Option (((Int × Int × (List (Int × ByteArray)) × (List (Int × ByteArray)) × (List (Int × Int × Int × ByteArray × Int)) × Int × Int) × Unit) × Unit) :=
 Option.bind (feed_twin f_0) fun (r1 : ((Int × Int × (List (Int × ByteArray)) × (List (Int × ByteArray)) × (List (Int × Int × Int × ByteArray × Int)) × Int × Int) × Unit) × Unit) =>
 bif decide (r1.1.1.1 > 0) then
  bif decide (top_1 ≤ 1000000) then
   some (((r1.1.1.1, if top_1 > r1.1.1.2.1 then top_1 else r1.1.1.2.1, r1.1.1.2.2), ()), ())
  else
   some ((r1.1.1, ()), ())
 else
  some ((r1.1.1, ()), ())
theorem feed_Knows_eq (f_0 : Int × Int × (List (Int × ByteArray)) × (List (Int × ByteArray)) × (List (Int × Int × Int × ByteArray × Int)) × Int × Int) (top_1 : Int) : evFn feed_Knows_Γ tab feed_Knows_fi 1 [.val t31, .val t2] [⟨t31, [false, false, true, true, true, false, false], none⟩] Tryz.f97 (f_0, top_1, ()) = feed_Knows f_0 top_1 := by kernel_rfl
noncomputable def feed_Knows_e : Ent := ⟨[.val t31, .val t2], [⟨t31, [false, false, true, true, true, false, false], none⟩], fun x => feed_Knows x.1 x.2.1⟩
theorem feed_Knows_good : Good tab.ty Tryz.prog 97 feed_Knows_e := by
  refine fn_good (Γ := feed_Knows_Γ) (fi := feed_Knows_fi) (n := 1) follows (gcons feed_twin_good gnil) tabok Tryz.func97 (by kernel_rfl) (by kernel_rfl) (fun x r h => ?_)
  obtain ⟨f_0, top_1, _u⟩ := x
  exact (feed_Knows_eq f_0 top_1).trans h
noncomputable def feed_Begin_Γ : Ctx := [(79, feed_twin_e), (97, feed_Knows_e)]
def feed_Begin_fi : Fi := { keep := [], vty := [], vals := [], live := [(0, [1, 2, 4, 17, 18]), (1, [1, 2, 4, 7, 17, 18]), (2, [4]), (3, [1, 2, 4, 17, 18]), (4, [1, 2, 4, 19]), (5, [2, 4]), (6, [4])] }
noncomputable def feed_Begin (f_0 : Int × Int × (List (Int × ByteArray)) × (List (Int × ByteArray)) × (List (Int × Int × Int × ByteArray × Int)) × Int × Int) (next_1 : Int) : Option (((Int × Int × (List (Int × ByteArray)) × (List (Int × ByteArray)) × (List (Int × Int × Int × ByteArray × Int)) × Int × Int) × Unit) × Unit) :=
 bif decide (f_0.1 > 0) then
  Option.bind (feed_Knows f_0 (IntKind.wrap .i64 (next_1 - 1))) fun (r1 : ((Int × Int × (List (Int × ByteArray)) × (List (Int × ByteArray)) × (List (Int × Int × Int × ByteArray × Int)) × Int × Int) × Unit) × Unit) =>
  some ((r1.1.1, ()), ())
 else
  Option.bind (feed_twin f_0) fun (r2 : ((Int × Int × (List (Int × ByteArray)) × (List (Int × ByteArray)) × (List (Int × Int × Int × ByteArray × Int)) × Int × Int) × Unit) × Unit) =>
  bif decide (next_1 ≥ 1) then
   bif decide (next_1 ≤ 1000000) then
    some (((next_1, r2.1.1.2), ()), ())
   else
    some ((r2.1.1, ()), ())
  else
   some ((r2.1.1, ()), ())
theorem feed_Begin_eq (f_0 : Int × Int × (List (Int × ByteArray)) × (List (Int × ByteArray)) × (List (Int × Int × Int × ByteArray × Int)) × Int × Int) (next_1 : Int) : evFn feed_Begin_Γ tab feed_Begin_fi 1 [.val t31, .val t2] [⟨t31, [false, false, true, true, true, false, false], none⟩] Tryz.f98 (f_0, next_1, ()) = feed_Begin f_0 next_1 := by kernel_rfl
noncomputable def feed_Begin_e : Ent := ⟨[.val t31, .val t2], [⟨t31, [false, false, true, true, true, false, false], none⟩], fun x => feed_Begin x.1 x.2.1⟩
theorem feed_Begin_good : Good tab.ty Tryz.prog 98 feed_Begin_e := by
  refine fn_good (Γ := feed_Begin_Γ) (fi := feed_Begin_fi) (n := 1) follows (gcons feed_twin_good (gcons feed_Knows_good gnil)) tabok Tryz.func98 (by kernel_rfl) (by kernel_rfl) (fun x r h => ?_)
  obtain ⟨f_0, next_1, _u⟩ := x
  exact (feed_Begin_eq f_0 next_1).trans h
noncomputable def win_Put_fn1_Γ : Ctx := [(251, cmp_Compare_int_e)]
def win_Put_fn1_fi : Fi := { keep := [], vty := [], vals := [], live := [(0, [1, 2]), (1, [4])] }
noncomputable def win_Put_fn1 (x_0 : Int × ByteArray) (seq_1 : Int) : Option ((Int × Unit) × Unit) :=
 Option.bind (cmp_Compare_int x_0.1 seq_1) fun (r1 : (Int × Unit) × Unit) =>
 some ((r1.1.1, ()), ())
theorem win_Put_fn1_eq (x_0 : Int × ByteArray) (seq_1 : Int) : evFn win_Put_fn1_Γ tab win_Put_fn1_fi 1 [.val t135, .val t2] [⟨t2, [false], none⟩] Tryz.f254 (x_0, seq_1, ()) = win_Put_fn1 x_0 seq_1 := by kernel_rfl
noncomputable def win_Put_fn1_e : Ent := ⟨[.val t135, .val t2], [⟨t2, [false], none⟩], fun x => win_Put_fn1 x.1 x.2.1⟩
theorem win_Put_fn1_good : Good tab.ty Tryz.prog 254 win_Put_fn1_e := by
  refine fn_good (Γ := win_Put_fn1_Γ) (fi := win_Put_fn1_fi) (n := 1) follows (gcons cmp_Compare_int_good gnil) tabok Tryz.func254 (by kernel_rfl) (by kernel_rfl) (fun x r h => ?_)
  obtain ⟨x_0, seq_1, _u⟩ := x
  exact (win_Put_fn1_eq x_0 seq_1).trans h
noncomputable def slices_Insert_Item_Γ : Ctx := [(255, markE)]
def slices_Insert_Item_fi : Fi := { keep := [], vty := [], vals := [], live := [(0, [0, 1, 2]), (1, [0, 1, 2]), (2, [0, 1, 2, 7]), (3, [0, 1, 2, 7, 16]), (4, [6]), (5, [0, 1, 2, 7, 8]), (6, [0, 1, 2, 7, 8, 22]), (7, [6]), (8, [0, 1, 2, 7, 8, 31]), (9, [0, 1, 2, 7, 9]), (10, [0, 1, 7, 9]), (11, [9]), (12, [6]), (13, [0, 1, 2, 7, 8]), (14, [0, 1, 2, 7, 8, 68]), (15, [0, 1, 2]), (16, [0]), (17, [6]), (18, [0, 1, 7]), (19, [0]), (20, [6])] }
noncomputable def slices_Insert_Item_c (c : Nat) (s_0 : List (Int × ByteArray)) (i_1 : Int) (v_2 : List (Int × ByteArray)) : Option (((List (Int × ByteArray)) × Unit) × Unit) :=
 bif (decide (0 ≤ i_1) && decide (i_1 ≤ ((s_0.length : Nat) : Int))) && decide (((s_0.length : Nat) : Int) ≤ ((((List.map some s_0 ++ List.replicate c none).length) - 0 : Nat) : Int)) then
  bif (v_2.length : Int) == 0 then
   bif Nat.ble s_0.length ((List.map some s_0 ++ List.replicate c none).length) then
    Option.bind (allSome (List.take s_0.length (List.map some s_0 ++ List.replicate c none))) fun (z1 : List (Int × ByteArray)) =>
    some ((z1, ()), ())
   else none
  else
  bif i_1 == ((s_0.length : Nat) : Int) then
   bif Nat.ble (0 + s_0.length) ((List.map some s_0 ++ List.replicate c none).length) then
    bif Nat.ble (s_0.length + v_2.length) ((List.map some s_0 ++ List.replicate c none).length) then
     bif Nat.ble (s_0.length + v_2.length) ((writeAt (List.map some s_0 ++ List.replicate c none) s_0.length v_2).length) then
      Option.bind (allSome (List.take (s_0.length + v_2.length) (writeAt (List.map some s_0 ++ List.replicate c none) s_0.length v_2))) fun (z2 : List (Int × ByteArray)) =>
      some ((z2, ()), ())
     else none
    else
    bif Nat.ble (s_0.length + v_2.length) 1073741824 then
     Option.bind (allSome (List.take s_0.length (List.map some s_0 ++ List.replicate c none))) fun (z3 : List (Int × ByteArray)) =>
     some ((z3 ++ v_2, ()), ())
    else none
   else none
  else
  bif Nat.ble (0 + s_0.length) ((List.map some s_0 ++ List.replicate c none).length) then
   bif decide (IntKind.wrap .i64 (((s_0.length : Nat) : Int) + (v_2.length : Int)) > ((((List.map some s_0 ++ List.replicate c none).length) - 0 : Nat) : Int)) then
    bif decide (0 ≤ i_1) && decide (i_1 ≤ ((((List.map some s_0 ++ List.replicate c none).length) - 0 : Nat) : Int)) then
     bif Nat.ble (0 + ((i_1 - 0).toNat)) ((List.map some s_0 ++ List.replicate c none).length) then
      bif decide (0 < IntKind.wrap .i64 ((IntKind.wrap .i64 (((s_0.length : Nat) : Int) + (v_2.length : Int))) - i_1)) && true && Nat.blt ((List.map some s_0 ++ List.replicate c none).length) (((i_1 - 0).toNat) + ((List.replicate ((IntKind.wrap .i64 ((IntKind.wrap .i64 (((s_0.length : Nat) : Int) + (v_2.length : Int))) - i_1)).toNat) ((0, (⟨#[]⟩ : ByteArray)) : Int × ByteArray)).length)) && Nat.ble (((List.map some s_0 ++ List.replicate c none).length) + ((List.replicate ((IntKind.wrap .i64 ((IntKind.wrap .i64 (((s_0.length : Nat) : Int) + (v_2.length : Int))) - i_1)).toNat) ((0, (⟨#[]⟩ : ByteArray)) : Int × ByteArray)).length)) 536870912 then
       bif (decide (0 ≤ i_1) && decide (i_1 ≤ ((((i_1 - 0).toNat) + ((List.replicate ((IntKind.wrap .i64 ((IntKind.wrap .i64 (((s_0.length : Nat) : Int) + (v_2.length : Int))) - i_1)).toNat) ((0, (⟨#[]⟩ : ByteArray)) : Int × ByteArray)).length) : Nat) : Int))) && decide (((((i_1 - 0).toNat) + ((List.replicate ((IntKind.wrap .i64 ((IntKind.wrap .i64 (((s_0.length : Nat) : Int) + (v_2.length : Int))) - i_1)).toNat) ((0, (⟨#[]⟩ : ByteArray)) : Int × ByteArray)).length) : Nat) : Int) ≤ ((((List.take ((i_1 - 0).toNat) (List.map some s_0 ++ List.replicate c none) ++ List.map some (List.replicate ((IntKind.wrap .i64 ((IntKind.wrap .i64 (((s_0.length : Nat) : Int) + (v_2.length : Int))) - i_1)).toNat) ((0, (⟨#[]⟩ : ByteArray)) : Int × ByteArray))).length) - 0 : Nat) : Int)) then
        bif Nat.ble ((0 + i_1.toNat) + ((((((i_1 - 0).toNat) + ((List.replicate ((IntKind.wrap .i64 ((IntKind.wrap .i64 (((s_0.length : Nat) : Int) + (v_2.length : Int))) - i_1)).toNat) ((0, (⟨#[]⟩ : ByteArray)) : Int × ByteArray)).length) : Nat) : Int) - i_1).toNat)) ((List.take ((i_1 - 0).toNat) (List.map some s_0 ++ List.replicate c none) ++ List.map some (List.replicate ((IntKind.wrap .i64 ((IntKind.wrap .i64 (((s_0.length : Nat) : Int) + (v_2.length : Int))) - i_1)).toNat) ((0, (⟨#[]⟩ : ByteArray)) : Int × ByteArray))).length) then
         bif (decide (0 ≤ IntKind.wrap .i64 (i_1 + (v_2.length : Int))) && decide (IntKind.wrap .i64 (i_1 + (v_2.length : Int)) ≤ ((((i_1 - 0).toNat) + ((List.replicate ((IntKind.wrap .i64 ((IntKind.wrap .i64 (((s_0.length : Nat) : Int) + (v_2.length : Int))) - i_1)).toNat) ((0, (⟨#[]⟩ : ByteArray)) : Int × ByteArray)).length) : Nat) : Int))) && decide (((((i_1 - 0).toNat) + ((List.replicate ((IntKind.wrap .i64 ((IntKind.wrap .i64 (((s_0.length : Nat) : Int) + (v_2.length : Int))) - i_1)).toNat) ((0, (⟨#[]⟩ : ByteArray)) : Int × ByteArray)).length) : Nat) : Int) ≤ ((((writeAt (List.take ((i_1 - 0).toNat) (List.map some s_0 ++ List.replicate c none) ++ List.map some (List.replicate ((IntKind.wrap .i64 ((IntKind.wrap .i64 (((s_0.length : Nat) : Int) + (v_2.length : Int))) - i_1)).toNat) ((0, (⟨#[]⟩ : ByteArray)) : Int × ByteArray))) (0 + i_1.toNat) (List.take ((((((i_1 - 0).toNat) + ((List.replicate ((IntKind.wrap .i64 ((IntKind.wrap .i64 (((s_0.length : Nat) : Int) + (v_2.length : Int))) - i_1)).toNat) ((0, (⟨#[]⟩ : ByteArray)) : Int × ByteArray)).length) : Nat) : Int) - i_1).toNat) v_2)).length) - 0 : Nat) : Int)) then
          bif (decide (0 ≤ i_1) && decide (i_1 ≤ ((s_0.length : Nat) : Int))) && decide (((s_0.length : Nat) : Int) ≤ ((((List.map some s_0 ++ List.replicate c none).length) - 0 : Nat) : Int)) then
           bif Nat.ble ((0 + ((IntKind.wrap .i64 (i_1 + (v_2.length : Int))).toNat)) + ((((((i_1 - 0).toNat) + ((List.replicate ((IntKind.wrap .i64 ((IntKind.wrap .i64 (((s_0.length : Nat) : Int) + (v_2.length : Int))) - i_1)).toNat) ((0, (⟨#[]⟩ : ByteArray)) : Int × ByteArray)).length) : Nat) : Int) - (IntKind.wrap .i64 (i_1 + (v_2.length : Int)))).toNat)) ((writeAt (List.take ((i_1 - 0).toNat) (List.map some s_0 ++ List.replicate c none) ++ List.map some (List.replicate ((IntKind.wrap .i64 ((IntKind.wrap .i64 (((s_0.length : Nat) : Int) + (v_2.length : Int))) - i_1)).toNat) ((0, (⟨#[]⟩ : ByteArray)) : Int × ByteArray))) (0 + i_1.toNat) (List.take ((((((i_1 - 0).toNat) + ((List.replicate ((IntKind.wrap .i64 ((IntKind.wrap .i64 (((s_0.length : Nat) : Int) + (v_2.length : Int))) - i_1)).toNat) ((0, (⟨#[]⟩ : ByteArray)) : Int × ByteArray)).length) : Nat) : Int) - i_1).toNat) v_2)).length) then
            bif Nat.ble ((0 + i_1.toNat) + ((((s_0.length : Nat) : Int) - i_1).toNat)) ((List.map some s_0 ++ List.replicate c none).length) then
            Option.bind (allSome (List.take (min ((((((i_1 - 0).toNat) + ((List.replicate ((IntKind.wrap .i64 ((IntKind.wrap .i64 (((s_0.length : Nat) : Int) + (v_2.length : Int))) - i_1)).toNat) ((0, (⟨#[]⟩ : ByteArray)) : Int × ByteArray)).length) : Nat) : Int) - (IntKind.wrap .i64 (i_1 + (v_2.length : Int)))).toNat) ((((s_0.length : Nat) : Int) - i_1).toNat)) (List.drop (0 + i_1.toNat) (List.map some s_0 ++ List.replicate c none)))) fun (z4 : List (Int × ByteArray)) =>
            bif Nat.ble (((i_1 - 0).toNat) + ((List.replicate ((IntKind.wrap .i64 ((IntKind.wrap .i64 (((s_0.length : Nat) : Int) + (v_2.length : Int))) - i_1)).toNat) ((0, (⟨#[]⟩ : ByteArray)) : Int × ByteArray)).length)) ((writeAt (writeAt (List.take ((i_1 - 0).toNat) (List.map some s_0 ++ List.replicate c none) ++ List.map some (List.replicate ((IntKind.wrap .i64 ((IntKind.wrap .i64 (((s_0.length : Nat) : Int) + (v_2.length : Int))) - i_1)).toNat) ((0, (⟨#[]⟩ : ByteArray)) : Int × ByteArray))) (0 + i_1.toNat) (List.take ((((((i_1 - 0).toNat) + ((List.replicate ((IntKind.wrap .i64 ((IntKind.wrap .i64 (((s_0.length : Nat) : Int) + (v_2.length : Int))) - i_1)).toNat) ((0, (⟨#[]⟩ : ByteArray)) : Int × ByteArray)).length) : Nat) : Int) - i_1).toNat) v_2)) (0 + ((IntKind.wrap .i64 (i_1 + (v_2.length : Int))).toNat)) z4).length) then
            Option.bind (allSome (List.take (((i_1 - 0).toNat) + ((List.replicate ((IntKind.wrap .i64 ((IntKind.wrap .i64 (((s_0.length : Nat) : Int) + (v_2.length : Int))) - i_1)).toNat) ((0, (⟨#[]⟩ : ByteArray)) : Int × ByteArray)).length)) (writeAt (writeAt (List.take ((i_1 - 0).toNat) (List.map some s_0 ++ List.replicate c none) ++ List.map some (List.replicate ((IntKind.wrap .i64 ((IntKind.wrap .i64 (((s_0.length : Nat) : Int) + (v_2.length : Int))) - i_1)).toNat) ((0, (⟨#[]⟩ : ByteArray)) : Int × ByteArray))) (0 + i_1.toNat) (List.take ((((((i_1 - 0).toNat) + ((List.replicate ((IntKind.wrap .i64 ((IntKind.wrap .i64 (((s_0.length : Nat) : Int) + (v_2.length : Int))) - i_1)).toNat) ((0, (⟨#[]⟩ : ByteArray)) : Int × ByteArray)).length) : Nat) : Int) - i_1).toNat) v_2)) (0 + ((IntKind.wrap .i64 (i_1 + (v_2.length : Int))).toNat)) z4))) fun (z5 : List (Int × ByteArray)) =>
            some ((z5, ()), ())
            else none
            else none
           else none
          else none
         else none
        else none
       else none
      else none
     else none
    else none
   else
   bif decide (0 ≤ IntKind.wrap .i64 (((s_0.length : Nat) : Int) + (v_2.length : Int))) && decide (IntKind.wrap .i64 (((s_0.length : Nat) : Int) + (v_2.length : Int)) ≤ ((((List.map some s_0 ++ List.replicate c none).length) - 0 : Nat) : Int)) then
    bif (decide (0 ≤ IntKind.wrap .i64 (i_1 + (v_2.length : Int))) && decide (IntKind.wrap .i64 (i_1 + (v_2.length : Int)) ≤ ((((IntKind.wrap .i64 (((s_0.length : Nat) : Int) + (v_2.length : Int))) - 0).toNat : Nat) : Int))) && decide (((((IntKind.wrap .i64 (((s_0.length : Nat) : Int) + (v_2.length : Int))) - 0).toNat : Nat) : Int) ≤ ((((List.map some s_0 ++ List.replicate c none).length) - 0 : Nat) : Int)) then
     bif (decide (0 ≤ IntKind.wrap .i64 (i_1 + (v_2.length : Int))) && decide (IntKind.wrap .i64 (i_1 + (v_2.length : Int)) ≤ ((((IntKind.wrap .i64 (((s_0.length : Nat) : Int) + (v_2.length : Int))) - 0).toNat : Nat) : Int))) && decide (((((IntKind.wrap .i64 (((s_0.length : Nat) : Int) + (v_2.length : Int))) - 0).toNat : Nat) : Int) ≤ ((((List.map some s_0 ++ List.replicate c none).length) - 0 : Nat) : Int)) then
      bif (decide (0 ≤ i_1) && decide (i_1 ≤ ((((IntKind.wrap .i64 (((s_0.length : Nat) : Int) + (v_2.length : Int))) - 0).toNat : Nat) : Int))) && decide (((((IntKind.wrap .i64 (((s_0.length : Nat) : Int) + (v_2.length : Int))) - 0).toNat : Nat) : Int) ≤ ((((List.map some s_0 ++ List.replicate c none).length) - 0 : Nat) : Int)) then
       bif Nat.ble ((0 + ((IntKind.wrap .i64 (i_1 + (v_2.length : Int))).toNat)) + ((((((IntKind.wrap .i64 (((s_0.length : Nat) : Int) + (v_2.length : Int))) - 0).toNat : Nat) : Int) - (IntKind.wrap .i64 (i_1 + (v_2.length : Int)))).toNat)) ((List.map some s_0 ++ List.replicate c none).length) then
        bif Nat.ble ((0 + i_1.toNat) + ((((((IntKind.wrap .i64 (((s_0.length : Nat) : Int) + (v_2.length : Int))) - 0).toNat : Nat) : Int) - i_1).toNat)) ((List.map some s_0 ++ List.replicate c none).length) then
         Option.bind (allSome (List.take (min ((((((IntKind.wrap .i64 (((s_0.length : Nat) : Int) + (v_2.length : Int))) - 0).toNat : Nat) : Int) - (IntKind.wrap .i64 (i_1 + (v_2.length : Int)))).toNat) ((((((IntKind.wrap .i64 (((s_0.length : Nat) : Int) + (v_2.length : Int))) - 0).toNat : Nat) : Int) - i_1).toNat)) (List.drop (0 + i_1.toNat) (List.map some s_0 ++ List.replicate c none)))) fun (z6 : List (Int × ByteArray)) =>
         bif (decide (0 ≤ i_1) && decide (i_1 ≤ ((((IntKind.wrap .i64 (((s_0.length : Nat) : Int) + (v_2.length : Int))) - 0).toNat : Nat) : Int))) && decide (((((IntKind.wrap .i64 (((s_0.length : Nat) : Int) + (v_2.length : Int))) - 0).toNat : Nat) : Int) ≤ ((((writeAt (List.map some s_0 ++ List.replicate c none) (0 + ((IntKind.wrap .i64 (i_1 + (v_2.length : Int))).toNat)) z6).length) - 0 : Nat) : Int)) then
          bif Nat.ble ((0 + i_1.toNat) + ((((((IntKind.wrap .i64 (((s_0.length : Nat) : Int) + (v_2.length : Int))) - 0).toNat : Nat) : Int) - i_1).toNat)) ((writeAt (List.map some s_0 ++ List.replicate c none) (0 + ((IntKind.wrap .i64 (i_1 + (v_2.length : Int))).toNat)) z6).length) then
           bif Nat.ble (((IntKind.wrap .i64 (((s_0.length : Nat) : Int) + (v_2.length : Int))) - 0).toNat) ((writeAt (writeAt (List.map some s_0 ++ List.replicate c none) (0 + ((IntKind.wrap .i64 (i_1 + (v_2.length : Int))).toNat)) z6) (0 + i_1.toNat) (List.take ((((((IntKind.wrap .i64 (((s_0.length : Nat) : Int) + (v_2.length : Int))) - 0).toNat : Nat) : Int) - i_1).toNat) v_2)).length) then
            Option.bind (allSome (List.take (((IntKind.wrap .i64 (((s_0.length : Nat) : Int) + (v_2.length : Int))) - 0).toNat) (writeAt (writeAt (List.map some s_0 ++ List.replicate c none) (0 + ((IntKind.wrap .i64 (i_1 + (v_2.length : Int))).toNat)) z6) (0 + i_1.toNat) (List.take ((((((IntKind.wrap .i64 (((s_0.length : Nat) : Int) + (v_2.length : Int))) - 0).toNat : Nat) : Int) - i_1).toNat) v_2)))) fun (z7 : List (Int × ByteArray)) =>
            some ((z7, ()), ())
           else none
          else none
         else none
        else none
       else none
      else none
     else none
    else none
   else none
  else none
 else none
theorem slices_Insert_Item_c_eq (c : Nat) (s_0 : List (Int × ByteArray)) (i_1 : Int) (v_2 : List (Int × ByteArray)) : evFn slices_Insert_Item_Γ tab { slices_Insert_Item_fi with cap := c } 1 [.ownc 136 t135, .val t2, .own 136 t135] [⟨t27, [true], none⟩] Tryz.f255 (s_0, i_1, v_2, ()) = slices_Insert_Item_c c s_0 i_1 v_2 := by kernel_rfl
theorem slices_Insert_Item_c_is (c : Nat) (s_0 : List (Int × ByteArray)) (i_1 : Int) (v_2 : List (Int × ByteArray)) : slices_Insert_Item_c c s_0 i_1 v_2 = insertC ((0, (⟨#[]⟩ : ByteArray)) : Int × ByteArray) c s_0 i_1 v_2 := by kernel_rfl
noncomputable def slices_Insert_Item (s_0 : List (Int × ByteArray)) (i_1 : Int) (v_2 : List (Int × ByteArray)) : Option (((List (Int × ByteArray)) × Unit) × Unit) := insertR s_0 i_1 v_2
noncomputable def slices_Insert_Item_e : Ent := ⟨[.ownc 136 t135, .val t2, .own 136 t135], [⟨t27, [true], none⟩], fun x => slices_Insert_Item x.1 x.2.1 x.2.2.1⟩
theorem slices_Insert_Item_good : Good tab.ty Tryz.prog 255 slices_Insert_Item_e := by
  refine fn_goodC (Γ := slices_Insert_Item_Γ) (fi := slices_Insert_Item_fi) (n := 1) follows (gcons (gmark Tryz.func255 (by kernel_rfl) (by kernel_rfl)) gnil) tabok Tryz.func255 (by kernel_rfl) (by kernel_rfl) (fun c x r hc h => ?_)
  obtain ⟨s_0, i_1, v_2, _u⟩ := x
  exact (slices_Insert_Item_c_eq c s_0 i_1 v_2).trans ((slices_Insert_Item_c_is c s_0 i_1 v_2).trans (insert_law ((0, (⟨#[]⟩ : ByteArray)) : Int × ByteArray) c s_0 i_1 v_2 r hc h))
noncomputable def win_Put_Γ : Ctx := [(69, slices_Clone_Item_e), (252, slices_BinarySearchFunc_Item_Item_int_e), (254, win_Put_fn1_e), (255, slices_Insert_Item_e)]
def win_Put_fi : Fi := { keep := [], vty := [], vals := [], live := [(0, [0, 1, 5, 22, 23, 24, 25, 28, 29, 30, 31, 32]), (1, [0, 1, 5, 8, 22, 23, 24, 25, 28, 29, 30, 31, 32]), (2, [1, 5, 8, 9, 10, 22, 23, 24, 25, 28, 29, 30, 31, 32]), (3, [5, 8, 9, 33]), (4, [6, 7]), (5, [6, 7])] }
noncomputable def win_Put (l_0 : List (Int × ByteArray)) (next_1 : Int) (i_2 : Int × ByteArray) : Option (((List (Int × ByteArray)) × Bool × Unit) × Unit) :=
 Option.bind (slices_Clone_Item l_0) fun (r1 : ((List (Int × ByteArray)) × Unit) × Unit) =>
 Option.bind (slices_BinarySearchFunc_Item_Item_int l_0 i_2.1 (fun x => (win_Put_fn1 x.1 x.2.1).bind fun r => some (r.1.1, ()))) fun (r2 : (Int × Bool × Unit) × Unit) =>
 bif r2.1.2.1 then
  some ((r1.1.1, false, ()), ())
 else
 bif decide (i_2.1 < next_1) then
  some ((r1.1.1, false, ()), ())
 else
 bif decide (IntKind.wrap .i64 (i_2.1 - next_1) ≥ 8) then
  some ((r1.1.1, false, ()), ())
 else
  Option.bind (slices_Insert_Item r1.1.1 r2.1.1 [i_2]) fun (r3 : ((List (Int × ByteArray)) × Unit) × Unit) =>
  some ((r3.1.1, true, ()), ())
theorem win_Put_eq (l_0 : List (Int × ByteArray)) (next_1 : Int) (i_2 : Int × ByteArray) : evFn win_Put_Γ tab win_Put_fi 1 [.val t27, .val t2, .val t135] [⟨t27, [true], none⟩, ⟨t4, [false], none⟩] Tryz.f182 (l_0, next_1, i_2, ()) = win_Put l_0 next_1 i_2 := by kernel_rfl
noncomputable def win_Put_e : Ent := ⟨[.val t27, .val t2, .val t135], [⟨t27, [true], none⟩, ⟨t4, [false], none⟩], fun x => win_Put x.1 x.2.1 x.2.2.1⟩
theorem win_Put_good : Good tab.ty Tryz.prog 182 win_Put_e := by
  refine fn_good (Γ := win_Put_Γ) (fi := win_Put_fi) (n := 1) follows (gcons slices_Clone_Item_good (gcons slices_BinarySearchFunc_Item_Item_int_good (gcons win_Put_fn1_good (gcons slices_Insert_Item_good gnil)))) tabok Tryz.func182 (by kernel_rfl) (by kernel_rfl) (fun x r h => ?_)
  obtain ⟨l_0, next_1, i_2, _u⟩ := x
  exact (win_Put_eq l_0 next_1 i_2).trans h
noncomputable def nak_twin_Γ : Ctx := [(69, slices_Clone_Item_e), (70, slices_Clone_Event_e)]
def nak_twin_fi : Fi := { keep := [], vty := [], vals := [], live := [(0, [1, 2]), (1, [1, 2]), (2, [2])] }
noncomputable def nak_twin (f_0 : Int × Int × (List (Int × ByteArray)) × (List (Int × ByteArray)) × (List (Int × Int × Int × ByteArray × Int)) × Int × Int) : Option (((Int × Int × (List (Int × ByteArray)) × (List (Int × ByteArray)) × (List (Int × Int × Int × ByteArray × Int)) × Int × Int) × Unit) × Unit) :=
 Option.bind (slices_Clone_Item f_0.2.2.1) fun (r1 : ((List (Int × ByteArray)) × Unit) × Unit) =>
 Option.bind (slices_Clone_Item f_0.2.2.2.1) fun (r2 : ((List (Int × ByteArray)) × Unit) × Unit) =>
 Option.bind (slices_Clone_Event f_0.2.2.2.2.1) fun (r3 : ((List (Int × Int × Int × ByteArray × Int)) × Unit) × Unit) =>
 some (((f_0.1, f_0.2.1, r1.1.1, r2.1.1, r3.1.1, f_0.2.2.2.2.2), ()), ())
theorem nak_twin_eq (f_0 : Int × Int × (List (Int × ByteArray)) × (List (Int × ByteArray)) × (List (Int × Int × Int × ByteArray × Int)) × Int × Int) : evFn nak_twin_Γ tab nak_twin_fi 1 [.val t31] [⟨t31, [false, false, true, true, true, false, false], none⟩] Tryz.f165 (f_0, ()) = nak_twin f_0 := by kernel_rfl
noncomputable def nak_twin_e : Ent := ⟨[.val t31], [⟨t31, [false, false, true, true, true, false, false], none⟩], fun x => nak_twin x.1⟩
theorem nak_twin_good : Good tab.ty Tryz.prog 165 nak_twin_e := by
  refine fn_good (Γ := nak_twin_Γ) (fi := nak_twin_fi) (n := 1) follows (gcons slices_Clone_Item_good (gcons slices_Clone_Event_good gnil)) tabok Tryz.func165 (by kernel_rfl) (by kernel_rfl) (fun x r h => ?_)
  obtain ⟨f_0, _u⟩ := x
  exact (nak_twin_eq f_0).trans h
noncomputable def win_First_Γ : Ctx := []
def win_First_fi : Fi := { keep := [], vty := [], vals := [], live := [(0, [0]), (1, [0, 5]), (2, [2]), (3, [2])] }
noncomputable def win_First (l_0 : List (Int × ByteArray)) : Option ((Int × Unit) × Unit) :=
 bif (l_0.length : Int) == 0 then
  some ((0, ()), ())
 else
 bif decide (0 < (l_0.length : Int)) then
  some (((List.getD l_0 0 (0, (⟨#[]⟩ : ByteArray))).1, ()), ())
 else none
theorem win_First_eq (l_0 : List (Int × ByteArray)) : evFn win_First_Γ tab win_First_fi 1 [.val t27] [⟨t2, [false], none⟩] Tryz.f164 (l_0, ()) = win_First l_0 := by kernel_rfl
noncomputable def win_First_e : Ent := ⟨[.val t27], [⟨t2, [false], none⟩], fun x => win_First x.1⟩
theorem win_First_good : Good tab.ty Tryz.prog 164 win_First_e := by
  refine fn_good (Γ := win_First_Γ) (fi := win_First_fi) (n := 1) follows gnil tabok Tryz.func164 (by kernel_rfl) (by kernel_rfl) (fun x r h => ?_)
  obtain ⟨l_0, _u⟩ := x
  exact (win_First_eq l_0).trans h
noncomputable def win_Take_Γ : Ctx := [(69, slices_Clone_Item_e), (164, win_First_e)]
def win_Take_fi : Fi := { keep := [], vty := [], vals := [], live := [(0, [0, 1, 5, 14, 15, 16]), (1, [0, 1, 4, 5, 14, 15, 16]), (2, [0, 4, 5, 17]), (3, [4, 5, 6]), (4, [4, 5, 6])] }
noncomputable def win_Take (l_0 : List (Int × ByteArray)) (next_1 : Int) : Option (((List (Int × ByteArray)) × (Int × ByteArray) × Bool × Unit) × Unit) :=
 Option.bind (slices_Clone_Item l_0) fun (r1 : ((List (Int × ByteArray)) × Unit) × Unit) =>
 Option.bind (win_First l_0) fun (r2 : (Int × Unit) × Unit) =>
 bif r2.1.1 != next_1 then
  some ((r1.1.1, (0, (⟨#[]⟩ : ByteArray)), false, ()), ())
 else
 bif (l_0.length : Int) == 0 then
  some ((r1.1.1, (0, (⟨#[]⟩ : ByteArray)), false, ()), ())
 else
 bif decide (1 ≤ (r1.1.1.length : Int)) && decide ((r1.1.1.length : Int) ≤ (r1.1.1.length : Int)) then
  bif decide (0 < (l_0.length : Int)) then
   some ((List.drop 1 (List.take ((r1.1.1.length : Int).toNat) r1.1.1), (List.getD l_0 0 (0, (⟨#[]⟩ : ByteArray))), true, ()), ())
  else none
 else none
theorem win_Take_eq (l_0 : List (Int × ByteArray)) (next_1 : Int) : evFn win_Take_Γ tab win_Take_fi 1 [.val t27, .val t2] [⟨t27, [false], none⟩, ⟨t135, [false, false], none⟩, ⟨t4, [false], none⟩] Tryz.f240 (l_0, next_1, ()) = win_Take l_0 next_1 := by kernel_rfl
noncomputable def win_Take_e : Ent := ⟨[.val t27, .val t2], [⟨t27, [false], none⟩, ⟨t135, [false, false], none⟩, ⟨t4, [false], none⟩], fun x => win_Take x.1 x.2.1⟩
theorem win_Take_good : Good tab.ty Tryz.prog 240 win_Take_e := by
  refine fn_good (Γ := win_Take_Γ) (fi := win_Take_fi) (n := 1) follows (gcons slices_Clone_Item_good (gcons win_First_good gnil)) tabok Tryz.func240 (by kernel_rfl) (by kernel_rfl) (fun x r h => ?_)
  obtain ⟨l_0, next_1, _u⟩ := x
  exact (win_Take_eq l_0 next_1).trans h
noncomputable def wait_Start_Γ : Ctx := []
def wait_Start_fi : Fi := { keep := [], vty := [], vals := [], live := [(0, [0]), (1, [0])] }
noncomputable def wait_Start_x (x : PDs []) : Option (RDs [⟨t29, [false, false], none⟩] × ODs []) := evFn wait_Start_Γ tab wait_Start_fi 1099511627776 [] [⟨t29, [false, false], none⟩] Tryz.f169 x
noncomputable def wait_Start  : Option (((Int × Int) × Unit) × Unit) := wait_Start_x (())
noncomputable def wait_Start_e : Ent := ⟨[], [⟨t29, [false, false], none⟩], fun x => wait_Start⟩
theorem wait_Start_good : Good tab.ty Tryz.prog 169 wait_Start_e := by
  refine fn_good (Γ := wait_Start_Γ) (fi := wait_Start_fi) (n := 1099511627776) follows gnil tabok Tryz.func169 (by kernel_rfl) (by kernel_rfl) (fun x r h => ?_)
  exact h
noncomputable def nak_tells_Γ : Ctx := [(157, log_Tell_e), (158, ring_Add_e), (169, wait_Start_e), (240, win_Take_e)]
def nak_tells_fi : Fi := { keep := [], vty := [(4, 27)], vals := [], live := [(0, [1, 2]), (1, [1, 2, 4]), (2, [1, 2, 4, 5, 6, 7]), (3, [1, 2, 4, 5, 6, 18]), (4, [1, 2, 4, 6]), (5, [1, 2, 4, 6]), (6, [1, 2, 4]), (7, [1, 2, 4, 44]), (8, [1, 2, 4]), (9, [2, 3])] }
noncomputable def nak_tells_B1 (L2 : Int → Int → (List (Int × ByteArray)) → Int → Int → (List (Int × ByteArray)) → (List (Int × Int × Int × ByteArray × Int)) → Int → Int → Int → Int → (List (Int × ByteArray)) → (List (Int × ByteArray)) → (List (Int × Int × Int × ByteArray × Int)) → (List (Int × ByteArray)) → Option (((Int × Int × (List (Int × ByteArray)) × (List (Int × ByteArray)) × (List (Int × Int × Int × ByteArray × Int)) × Int × Int) × (List (Int × ByteArray)) × Unit) × Unit)) (v1 : Int) (v2 : Int) (v3 : List (Int × ByteArray)) (v4 : List (Int × ByteArray)) (v5 : List (Int × Int × Int × ByteArray × Int)) (v6 : Int) (v7 : Int) (v8 : Int) (v9 : Int) (v10 : Int) (v11 : Int) (v12 : List (Int × ByteArray)) (v13 : List (Int × ByteArray)) (v14 : List (Int × Int × Int × ByteArray × Int)) (v15 : List (Int × ByteArray)) : Option (((Int × Int × (List (Int × ByteArray)) × (List (Int × ByteArray)) × (List (Int × Int × Int × ByteArray × Int)) × Int × Int) × (List (Int × ByteArray)) × Unit) × Unit) :=
 Option.bind (win_Take v4 v1) fun (r16 : ((List (Int × ByteArray)) × (Int × ByteArray) × Bool × Unit) × Unit) =>
 bif !r16.1.2.2.1 then
  bif decide ((v15.length : Int) > 0) then
   Option.bind (wait_Start) fun (r17 : ((Int × Int) × Unit) × Unit) =>
   some (((v1, v2, v3, v4, v5, r17.1.1), v15, ()), ())
  else
   some (((v1, v2, v3, v4, v5, v6, v7), v15, ()), ())
 else
  Option.bind (log_Tell v5 r16.1.2.1.1 r16.1.2.1.2) fun (r18 : ((List (Int × Int × Int × ByteArray × Int)) × Unit) × Unit) =>
  Option.bind (ring_Add v3 r16.1.2.1) fun (r19 : ((List (Int × ByteArray)) × Unit) × Unit) =>
  bif Nat.ble (v15.length + 1) 1073741824 then
   L2 (IntKind.wrap .i64 (v1 + 1)) v2 r16.1.1 v6 v7 r19.1.1 r18.1.1 v8 v9 v10 v11 v12 v13 v14 (v15 ++ [r16.1.2.1])
  else none
noncomputable def nak_tells_B2 (L2 : Int → Int → (List (Int × ByteArray)) → Int → Int → (List (Int × ByteArray)) → (List (Int × Int × Int × ByteArray × Int)) → Int → Int → Int → Int → (List (Int × ByteArray)) → (List (Int × ByteArray)) → (List (Int × Int × Int × ByteArray × Int)) → (List (Int × ByteArray)) → Option (((Int × Int × (List (Int × ByteArray)) × (List (Int × ByteArray)) × (List (Int × Int × Int × ByteArray × Int)) × Int × Int) × (List (Int × ByteArray)) × Unit) × Unit)) (v20 : Int) (v21 : Int) (v22 : List (Int × ByteArray)) (v23 : Int) (v24 : Int) (v25 : List (Int × ByteArray)) (v26 : List (Int × Int × Int × ByteArray × Int)) (v27 : Int) (v28 : Int) (v29 : Int) (v30 : Int) (v31 : List (Int × ByteArray)) (v32 : List (Int × ByteArray)) (v33 : List (Int × Int × Int × ByteArray × Int)) (v34 : List (Int × ByteArray)) : Option (((Int × Int × (List (Int × ByteArray)) × (List (Int × ByteArray)) × (List (Int × Int × Int × ByteArray × Int)) × Int × Int) × (List (Int × ByteArray)) × Unit) × Unit) :=
 Option.bind (win_Take v22 v20) fun (r35 : ((List (Int × ByteArray)) × (Int × ByteArray) × Bool × Unit) × Unit) =>
 bif !r35.1.2.2.1 then
  bif decide ((v34.length : Int) > 0) then
   Option.bind (wait_Start) fun (r36 : ((Int × Int) × Unit) × Unit) =>
   some (((v20, v21, v25, v22, v26, r36.1.1), v34, ()), ())
  else
   some (((v20, v21, v25, v22, v26, v23, v24), v34, ()), ())
 else
  Option.bind (log_Tell v26 r35.1.2.1.1 r35.1.2.1.2) fun (r37 : ((List (Int × Int × Int × ByteArray × Int)) × Unit) × Unit) =>
  Option.bind (ring_Add v25 r35.1.2.1) fun (r38 : ((List (Int × ByteArray)) × Unit) × Unit) =>
  bif Nat.ble (v34.length + 1) 1073741824 then
   L2 (IntKind.wrap .i64 (v20 + 1)) v21 r35.1.1 v23 v24 r38.1.1 r37.1.1 v27 v28 v29 v30 v31 v32 v33 (v34 ++ [r35.1.2.1])
  else none
noncomputable def nak_tells_T (L1 : Int → Int → (List (Int × ByteArray)) → (List (Int × ByteArray)) → (List (Int × Int × Int × ByteArray × Int)) → Int → Int → Int → Int → Int → Int → (List (Int × ByteArray)) → (List (Int × ByteArray)) → (List (Int × Int × Int × ByteArray × Int)) → (List (Int × ByteArray)) → Option (((Int × Int × (List (Int × ByteArray)) × (List (Int × ByteArray)) × (List (Int × Int × Int × ByteArray × Int)) × Int × Int) × (List (Int × ByteArray)) × Unit) × Unit)) (f_0 : Int × Int × (List (Int × ByteArray)) × (List (Int × ByteArray)) × (List (Int × Int × Int × ByteArray × Int)) × Int × Int) : Option (((Int × Int × (List (Int × ByteArray)) × (List (Int × ByteArray)) × (List (Int × Int × Int × ByteArray × Int)) × Int × Int) × (List (Int × ByteArray)) × Unit) × Unit) :=
 L1 f_0.1 f_0.2.1 f_0.2.2.1 f_0.2.2.2.1 f_0.2.2.2.2.1 f_0.2.2.2.2.2.1 f_0.2.2.2.2.2.2 0 0 0 0 [] [] [] []
noncomputable def nak_tells_L2 (n : Nat) : Nat → Int → Int → (List (Int × ByteArray)) → Int → Int → (List (Int × ByteArray)) → (List (Int × Int × Int × ByteArray × Int)) → Int → Int → Int → Int → (List (Int × ByteArray)) → (List (Int × ByteArray)) → (List (Int × Int × Int × ByteArray × Int)) → (List (Int × ByteArray)) → Option (((Int × Int × (List (Int × ByteArray)) × (List (Int × ByteArray)) × (List (Int × Int × Int × ByteArray × Int)) × Int × Int) × (List (Int × ByteArray)) × Unit) × Unit) := iter (fun _ _ _ _ _ _ _ _ _ _ _ _ _ _ _ => none) fun L => nak_tells_B2 L
noncomputable def nak_tells_L1 (n : Nat) : Nat → Int → Int → (List (Int × ByteArray)) → (List (Int × ByteArray)) → (List (Int × Int × Int × ByteArray × Int)) → Int → Int → Int → Int → Int → Int → (List (Int × ByteArray)) → (List (Int × ByteArray)) → (List (Int × Int × Int × ByteArray × Int)) → (List (Int × ByteArray)) → Option (((Int × Int × (List (Int × ByteArray)) × (List (Int × ByteArray)) × (List (Int × Int × Int × ByteArray × Int)) × Int × Int) × (List (Int × ByteArray)) × Unit) × Unit) := iterN (fun _ _ _ _ _ _ _ _ _ _ _ _ _ _ _ => none) fun m L => nak_tells_B1 (nak_tells_L2 n m)
noncomputable def nak_tells_X1 (n m : Nat) (v1 : Int) (v2 : Int) (v3 : List (Int × ByteArray)) (v4 : List (Int × ByteArray)) (v5 : List (Int × Int × Int × ByteArray × Int)) (v6 : Int) (v7 : Int) (v8 : Int) (v9 : Int) (v10 : Int) (v11 : Int) (v12 : List (Int × ByteArray)) (v13 : List (Int × ByteArray)) (v14 : List (Int × Int × Int × ByteArray × Int)) (v15 : List (Int × ByteArray)) : Option (((Int × Int × (List (Int × ByteArray)) × (List (Int × ByteArray)) × (List (Int × Int × Int × ByteArray × Int)) × Int × Int) × (List (Int × ByteArray)) × Unit) × Unit) :=
 atLoop nak_tells_Γ tab (fiB [.val t31] nak_tells_fi) n [.val t31] [⟨t31, [false, false, false, false, false, false, false], none⟩, ⟨t27, [true], none⟩] Tryz.f168 [1, 1, 0, 0] [] [1, 2, 4] m
 ⟨[(1, SV.cv (CV.one (LV.ptr (1, 0) 0))), (2, SV.cv (CV.one (LV.ptr (2, 0) 0))), (4, SV.cv (CV.one (LV.ref (888888, 4))))],
  [((1, 0), Ob.box 32 [LV.pure t2 v1, LV.pure t2 v2, LV.pure t27 v3, LV.pure t27 v4, LV.pure t28 v5, LV.pure t2 v6, LV.pure t2 v7]), ((2, 0), Ob.box 32 [LV.pure t2 v8, LV.pure t2 v9, LV.ref (2, 3), LV.ref (2, 4), LV.ref (2, 5), LV.pure t2 v10, LV.pure t2 v11]), ((2, 3), Ob.row 136 t135 v12), ((2, 4), Ob.row 136 t135 v13), ((2, 5), Ob.row 139 t138 v14), ((888888, 4), Ob.row 136 t135 v15)]⟩
noncomputable def nak_tells_X2 (n m : Nat) (v20 : Int) (v21 : Int) (v22 : List (Int × ByteArray)) (v23 : Int) (v24 : Int) (v25 : List (Int × ByteArray)) (v26 : List (Int × Int × Int × ByteArray × Int)) (v27 : Int) (v28 : Int) (v29 : Int) (v30 : Int) (v31 : List (Int × ByteArray)) (v32 : List (Int × ByteArray)) (v33 : List (Int × Int × Int × ByteArray × Int)) (v34 : List (Int × ByteArray)) : Option (((Int × Int × (List (Int × ByteArray)) × (List (Int × ByteArray)) × (List (Int × Int × Int × ByteArray × Int)) × Int × Int) × (List (Int × ByteArray)) × Unit) × Unit) :=
 atLoop nak_tells_Γ tab (fiB [.val t31] nak_tells_fi) n [.val t31] [⟨t31, [false, false, false, false, false, false, false], none⟩, ⟨t27, [true], none⟩] Tryz.f168 [1, 1, 0, 0] [] [1, 2, 4] m
 ⟨[(1, SV.cv (CV.one (LV.ptr (1, 0) 0))), (2, SV.cv (CV.one (LV.ptr (2, 0) 0))), (4, SV.cv (CV.one (LV.ref (888888, 4))))],
  [((1, 0), Ob.box 32 [LV.pure t2 v20, LV.pure t2 v21, LV.ref (1, 3), LV.pure t27 v22, LV.ref (1, 5), LV.pure t2 v23, LV.pure t2 v24]), ((1, 3), Ob.row 136 t135 v25), ((1, 5), Ob.row 139 t138 v26), ((2, 0), Ob.box 32 [LV.pure t2 v27, LV.pure t2 v28, LV.ref (2, 3), LV.ref (2, 4), LV.ref (2, 5), LV.pure t2 v29, LV.pure t2 v30]), ((2, 3), Ob.row 136 t135 v31), ((2, 4), Ob.row 136 t135 v32), ((2, 5), Ob.row 139 t138 v33), ((888888, 4), Ob.row 136 t135 v34)]⟩
theorem nak_tells_step1 (n m : Nat) (v1 : Int) (v2 : Int) (v3 : List (Int × ByteArray)) (v4 : List (Int × ByteArray)) (v5 : List (Int × Int × Int × ByteArray × Int)) (v6 : Int) (v7 : Int) (v8 : Int) (v9 : Int) (v10 : Int) (v11 : Int) (v12 : List (Int × ByteArray)) (v13 : List (Int × ByteArray)) (v14 : List (Int × Int × Int × ByteArray × Int)) (v15 : List (Int × ByteArray)) : nak_tells_X1 n (m + 1) v1 v2 v3 v4 v5 v6 v7 v8 v9 v10 v11 v12 v13 v14 v15 = nak_tells_B1 (nak_tells_X2 n m) v1 v2 v3 v4 v5 v6 v7 v8 v9 v10 v11 v12 v13 v14 v15 := by kernel_rfl
theorem nak_tells_step2 (n m : Nat) (v20 : Int) (v21 : Int) (v22 : List (Int × ByteArray)) (v23 : Int) (v24 : Int) (v25 : List (Int × ByteArray)) (v26 : List (Int × Int × Int × ByteArray × Int)) (v27 : Int) (v28 : Int) (v29 : Int) (v30 : Int) (v31 : List (Int × ByteArray)) (v32 : List (Int × ByteArray)) (v33 : List (Int × Int × Int × ByteArray × Int)) (v34 : List (Int × ByteArray)) : nak_tells_X2 n (m + 1) v20 v21 v22 v23 v24 v25 v26 v27 v28 v29 v30 v31 v32 v33 v34 = nak_tells_B2 (nak_tells_X2 n m) v20 v21 v22 v23 v24 v25 v26 v27 v28 v29 v30 v31 v32 v33 v34 := by kernel_rfl
theorem nak_tells_start (n : Nat) (f_0 : Int × Int × (List (Int × ByteArray)) × (List (Int × ByteArray)) × (List (Int × Int × Int × ByteArray × Int)) × Int × Int) : evFn nak_tells_Γ tab nak_tells_fi n [.val t31] [⟨t31, [false, false, false, false, false, false, false], none⟩, ⟨t27, [true], none⟩] Tryz.f168 (f_0, ()) = nak_tells_T (nak_tells_X1 n n) f_0 := by kernel_rfl
theorem nak_tells_XL2 (n : Nat) : ∀ m, nak_tells_X2 n m = nak_tells_L2 n m
 | 0 => rfl
 | m + 1 => by
  have ih := nak_tells_XL2 n m
  funext v20 v21 v22 v23 v24 v25 v26 v27 v28 v29 v30 v31 v32 v33 v34
  rw [nak_tells_step2, ih]
  rfl
theorem nak_tells_XL1 (n : Nat) : ∀ m, nak_tells_X1 n m = nak_tells_L1 n m
 | 0 => rfl
 | m + 1 => by
  have ih := nak_tells_XL1 n m
  funext v1 v2 v3 v4 v5 v6 v7 v8 v9 v10 v11 v12 v13 v14 v15
  rw [nak_tells_step1, nak_tells_XL2 n m]
  rfl
noncomputable def nak_tells_n (n : Nat) (f_0 : Int × Int × (List (Int × ByteArray)) × (List (Int × ByteArray)) × (List (Int × Int × Int × ByteArray × Int)) × Int × Int) : Option (((Int × Int × (List (Int × ByteArray)) × (List (Int × ByteArray)) × (List (Int × Int × Int × ByteArray × Int)) × Int × Int) × (List (Int × ByteArray)) × Unit) × Unit) := nak_tells_T (nak_tells_L1 n n) f_0
noncomputable def nak_tells (f_0 : Int × Int × (List (Int × ByteArray)) × (List (Int × ByteArray)) × (List (Int × Int × Int × ByteArray × Int)) × Int × Int) : Option (((Int × Int × (List (Int × ByteArray)) × (List (Int × ByteArray)) × (List (Int × Int × Int × ByteArray × Int)) × Int × Int) × (List (Int × ByteArray)) × Unit) × Unit) := nak_tells_n 1099511627776 f_0
theorem nak_tells_eq (n : Nat) (f_0 : Int × Int × (List (Int × ByteArray)) × (List (Int × ByteArray)) × (List (Int × Int × Int × ByteArray × Int)) × Int × Int) : evFn nak_tells_Γ tab nak_tells_fi n [.val t31] [⟨t31, [false, false, false, false, false, false, false], none⟩, ⟨t27, [true], none⟩] Tryz.f168 (f_0, ()) = nak_tells_n n f_0 := by
  rw [nak_tells_start, nak_tells_XL1 n n]
  rfl
noncomputable def nak_tells_e : Ent := ⟨[.val t31], [⟨t31, [false, false, false, false, false, false, false], none⟩, ⟨t27, [true], none⟩], fun x => nak_tells x.1⟩
theorem nak_tells_good : Good tab.ty Tryz.prog 168 nak_tells_e := by
  refine fn_good (Γ := nak_tells_Γ) (fi := nak_tells_fi) (n := 1099511627776) follows (gcons log_Tell_good (gcons ring_Add_good (gcons wait_Start_good (gcons win_Take_good gnil)))) tabok Tryz.func168 (by kernel_rfl) (by kernel_rfl) (fun x r h => ?_)
  obtain ⟨f_0, _u⟩ := x
  exact (nak_tells_eq 1099511627776 f_0).trans h
noncomputable def nak_Goes_Γ : Ctx := [(165, nak_twin_e), (168, nak_tells_e)]
def nak_Goes_fi : Fi := { keep := [], vty := [], vals := [], live := [(0, [1, 2]), (1, [2, 3])] }
noncomputable def nak_Goes (f_0 : Int × Int × (List (Int × ByteArray)) × (List (Int × ByteArray)) × (List (Int × Int × Int × ByteArray × Int)) × Int × Int) : Option (((Int × Int × (List (Int × ByteArray)) × (List (Int × ByteArray)) × (List (Int × Int × Int × ByteArray × Int)) × Int × Int) × (List (Int × ByteArray)) × Unit) × Unit) :=
 Option.bind (nak_twin f_0) fun (r1 : ((Int × Int × (List (Int × ByteArray)) × (List (Int × ByteArray)) × (List (Int × Int × Int × ByteArray × Int)) × Int × Int) × Unit) × Unit) =>
 Option.bind (nak_tells r1.1.1) fun (r2 : ((Int × Int × (List (Int × ByteArray)) × (List (Int × ByteArray)) × (List (Int × Int × Int × ByteArray × Int)) × Int × Int) × (List (Int × ByteArray)) × Unit) × Unit) =>
 some ((r2.1.1, r2.1.2.1, ()), ())
theorem nak_Goes_eq (f_0 : Int × Int × (List (Int × ByteArray)) × (List (Int × ByteArray)) × (List (Int × Int × Int × ByteArray × Int)) × Int × Int) : evFn nak_Goes_Γ tab nak_Goes_fi 1 [.val t31] [⟨t31, [false, false, false, false, false, false, false], none⟩, ⟨t27, [true], none⟩] Tryz.f82 (f_0, ()) = nak_Goes f_0 := by kernel_rfl
noncomputable def nak_Goes_e : Ent := ⟨[.val t31], [⟨t31, [false, false, false, false, false, false, false], none⟩, ⟨t27, [true], none⟩], fun x => nak_Goes x.1⟩
theorem nak_Goes_good : Good tab.ty Tryz.prog 82 nak_Goes_e := by
  refine fn_good (Γ := nak_Goes_Γ) (fi := nak_Goes_fi) (n := 1) follows (gcons nak_twin_good (gcons nak_tells_good gnil)) tabok Tryz.func82 (by kernel_rfl) (by kernel_rfl) (fun x r h => ?_)
  obtain ⟨f_0, _u⟩ := x
  exact (nak_Goes_eq f_0).trans h
noncomputable def feed_Comes_Γ : Ctx := [(79, feed_twin_e), (82, nak_Goes_e), (97, feed_Knows_e), (182, win_Put_e)]
def feed_Comes_fi : Fi := { keep := [], vty := [], vals := [], live := [(0, [2, 3, 4, 9, 10, 11, 14, 15, 16, 19, 20, 21, 22]), (1, [2, 3, 4, 23]), (2, [4]), (3, [2, 3, 4]), (4, [2, 4]), (5, [2, 4]), (6, [4])] }
noncomputable def feed_Comes (f_0 : Int × Int × (List (Int × ByteArray)) × (List (Int × ByteArray)) × (List (Int × Int × Int × ByteArray × Int)) × Int × Int) (i_1 : Int × ByteArray) : Option (((Int × Int × (List (Int × ByteArray)) × (List (Int × ByteArray)) × (List (Int × Int × Int × ByteArray × Int)) × Int × Int) × Unit) × Unit) :=
 bif f_0.1 == 0 then
  Option.bind (feed_twin f_0) fun (r1 : ((Int × Int × (List (Int × ByteArray)) × (List (Int × ByteArray)) × (List (Int × Int × Int × ByteArray × Int)) × Int × Int) × Unit) × Unit) =>
  some ((r1.1.1, ()), ())
 else
 bif decide (i_1.1 < 1) then
  Option.bind (feed_twin f_0) fun (r2 : ((Int × Int × (List (Int × ByteArray)) × (List (Int × ByteArray)) × (List (Int × Int × Int × ByteArray × Int)) × Int × Int) × Unit) × Unit) =>
  some ((r2.1.1, ()), ())
 else
 bif decide (i_1.1 > 1000000) then
  Option.bind (feed_twin f_0) fun (r3 : ((Int × Int × (List (Int × ByteArray)) × (List (Int × ByteArray)) × (List (Int × Int × Int × ByteArray × Int)) × Int × Int) × Unit) × Unit) =>
  some ((r3.1.1, ()), ())
 else
 bif decide ((i_1.2.size : Int) > 12) then
  Option.bind (feed_twin f_0) fun (r4 : ((Int × Int × (List (Int × ByteArray)) × (List (Int × ByteArray)) × (List (Int × Int × Int × ByteArray × Int)) × Int × Int) × Unit) × Unit) =>
  some ((r4.1.1, ()), ())
 else
  Option.bind (feed_Knows f_0 i_1.1) fun (r5 : ((Int × Int × (List (Int × ByteArray)) × (List (Int × ByteArray)) × (List (Int × Int × Int × ByteArray × Int)) × Int × Int) × Unit) × Unit) =>
  Option.bind (win_Put r5.1.1.2.2.2.1 r5.1.1.1 i_1) fun (r6 : ((List (Int × ByteArray)) × Bool × Unit) × Unit) =>
  Option.bind (nak_Goes (r5.1.1.1, r5.1.1.2.1, r5.1.1.2.2.1, r6.1.1, r5.1.1.2.2.2.2)) fun (r7 : ((Int × Int × (List (Int × ByteArray)) × (List (Int × ByteArray)) × (List (Int × Int × Int × ByteArray × Int)) × Int × Int) × (List (Int × ByteArray)) × Unit) × Unit) =>
  some ((r7.1.1, ()), ())
theorem feed_Comes_eq (f_0 : Int × Int × (List (Int × ByteArray)) × (List (Int × ByteArray)) × (List (Int × Int × Int × ByteArray × Int)) × Int × Int) (i_1 : Int × ByteArray) : evFn feed_Comes_Γ tab feed_Comes_fi 1 [.val t31, .val t135] [⟨t31, [false, false, false, false, false, false, false], none⟩] Tryz.f99 (f_0, i_1, ()) = feed_Comes f_0 i_1 := by kernel_rfl
noncomputable def feed_Comes_e : Ent := ⟨[.val t31, .val t135], [⟨t31, [false, false, false, false, false, false, false], none⟩], fun x => feed_Comes x.1 x.2.1⟩
theorem feed_Comes_good : Good tab.ty Tryz.prog 99 feed_Comes_e := by
  refine fn_good (Γ := feed_Comes_Γ) (fi := feed_Comes_fi) (n := 1) follows (gcons feed_twin_good (gcons nak_Goes_good (gcons feed_Knows_good (gcons win_Put_good gnil)))) tabok Tryz.func99 (by kernel_rfl) (by kernel_rfl) (fun x r h => ?_)
  obtain ⟨f_0, i_1, _u⟩ := x
  exact (feed_Comes_eq f_0 i_1).trans h
noncomputable def slices_IndexFunc_Item_Γ : Ctx := []
def slices_IndexFunc_Item_fi : Fi := { keep := [], vty := [], vals := [], live := [(0, [0, 1]), (1, [0, 1, 7, 8]), (2, [0, 1, 7, 8, 9]), (3, [0, 1, 5, 7, 8]), (4, [0, 1, 5, 7, 8, 16]), (5, [4]), (6, [0, 1, 7, 8]), (7, [4])] }
noncomputable def slices_IndexFunc_Item_B1 (L1 : (List (Int × ByteArray)) → ((Int × ByteArray) × Unit → Option (Bool × Unit)) → Int → Int → Option ((Int × Unit) × Unit)) (v1 : List (Int × ByteArray)) (v2 : ((Int × ByteArray) × Unit → Option (Bool × Unit))) (v3 : Int) (v4 : Int) : Option ((Int × Unit) × Unit) :=
 bif decide (v4 < v3) then
  bif decide (0 ≤ v4) && decide (v4 < (v1.length : Int)) then
   Option.bind (v2 ((List.getD v1 v4.toNat (0, (⟨#[]⟩ : ByteArray))), ())) fun (r5 : Bool × Unit) =>
   bif r5.1 then
    some ((v4, ()), ())
   else
    L1 v1 v2 v3 (IntKind.wrap .i64 (v4 + 1))
  else none
 else
  some (((-1), ()), ())
noncomputable def slices_IndexFunc_Item_T (L1 : (List (Int × ByteArray)) → ((Int × ByteArray) × Unit → Option (Bool × Unit)) → Int → Int → Option ((Int × Unit) × Unit)) (s_0 : List (Int × ByteArray)) (f_1 : ((Int × ByteArray) × Unit → Option (Bool × Unit))) : Option ((Int × Unit) × Unit) :=
 L1 s_0 f_1 (s_0.length : Int) 0
noncomputable def slices_IndexFunc_Item_L1 (n : Nat) : Nat → (List (Int × ByteArray)) → ((Int × ByteArray) × Unit → Option (Bool × Unit)) → Int → Int → Option ((Int × Unit) × Unit) := iter (fun _ _ _ _ => none) fun L => slices_IndexFunc_Item_B1 L
noncomputable def slices_IndexFunc_Item_X1 (n m : Nat) (v1 : List (Int × ByteArray)) (v2 : ((Int × ByteArray) × Unit → Option (Bool × Unit))) (v3 : Int) (v4 : Int) : Option ((Int × Unit) × Unit) :=
 atLoop slices_IndexFunc_Item_Γ tab (fiB [.val t27, .fn [t135] [t4]] slices_IndexFunc_Item_fi) n [.val t27, .fn [t135] [t4]] [⟨t2, [false], none⟩] Tryz.f238 [1, 0, 1, 0] [] [0, 1, 7, 8] m
 ⟨[(0, SV.cv (CV.one (LV.pure t27 v1))), (1, SV.cv (CV.one (LV.clo [t135] [t4] v2))), (7, SV.cv (CV.one (LV.pure t2 v3))), (8, SV.cv (CV.one (LV.pure t2 v4)))],
  []⟩
theorem slices_IndexFunc_Item_step1 (n m : Nat) (v1 : List (Int × ByteArray)) (v2 : ((Int × ByteArray) × Unit → Option (Bool × Unit))) (v3 : Int) (v4 : Int) : slices_IndexFunc_Item_X1 n (m + 1) v1 v2 v3 v4 = slices_IndexFunc_Item_B1 (slices_IndexFunc_Item_X1 n m) v1 v2 v3 v4 := by kernel_rfl
theorem slices_IndexFunc_Item_start (n : Nat) (s_0 : List (Int × ByteArray)) (f_1 : ((Int × ByteArray) × Unit → Option (Bool × Unit))) : evFn slices_IndexFunc_Item_Γ tab slices_IndexFunc_Item_fi n [.val t27, .fn [t135] [t4]] [⟨t2, [false], none⟩] Tryz.f238 (s_0, f_1, ()) = slices_IndexFunc_Item_T (slices_IndexFunc_Item_X1 n n) s_0 f_1 := by kernel_rfl
theorem slices_IndexFunc_Item_XL1 (n : Nat) : ∀ m, slices_IndexFunc_Item_X1 n m = slices_IndexFunc_Item_L1 n m
 | 0 => rfl
 | m + 1 => by
  have ih := slices_IndexFunc_Item_XL1 n m
  funext v1 v2 v3 v4
  rw [slices_IndexFunc_Item_step1, ih]
  rfl
noncomputable def slices_IndexFunc_Item_n (n : Nat) (s_0 : List (Int × ByteArray)) (f_1 : ((Int × ByteArray) × Unit → Option (Bool × Unit))) : Option ((Int × Unit) × Unit) := slices_IndexFunc_Item_T (slices_IndexFunc_Item_L1 n n) s_0 f_1
noncomputable def slices_IndexFunc_Item (s_0 : List (Int × ByteArray)) (f_1 : ((Int × ByteArray) × Unit → Option (Bool × Unit))) : Option ((Int × Unit) × Unit) := slices_IndexFunc_Item_n 1099511627776 s_0 f_1
theorem slices_IndexFunc_Item_eq (n : Nat) (s_0 : List (Int × ByteArray)) (f_1 : ((Int × ByteArray) × Unit → Option (Bool × Unit))) : evFn slices_IndexFunc_Item_Γ tab slices_IndexFunc_Item_fi n [.val t27, .fn [t135] [t4]] [⟨t2, [false], none⟩] Tryz.f238 (s_0, f_1, ()) = slices_IndexFunc_Item_n n s_0 f_1 := by
  rw [slices_IndexFunc_Item_start, slices_IndexFunc_Item_XL1 n n]
  rfl
noncomputable def slices_IndexFunc_Item_e : Ent := ⟨[.val t27, .fn [t135] [t4]], [⟨t2, [false], none⟩], fun x => slices_IndexFunc_Item x.1 x.2.1⟩
theorem slices_IndexFunc_Item_good : Good tab.ty Tryz.prog 238 slices_IndexFunc_Item_e := by
  refine fn_good (Γ := slices_IndexFunc_Item_Γ) (fi := slices_IndexFunc_Item_fi) (n := 1099511627776) follows gnil tabok Tryz.func238 (by kernel_rfl) (by kernel_rfl) (fun x r h => ?_)
  obtain ⟨s_0, f_1, _u⟩ := x
  exact (slices_IndexFunc_Item_eq 1099511627776 s_0 f_1).trans h
noncomputable def nak_ahead_fn1_Γ : Ctx := []
def nak_ahead_fn1_fi : Fi := { keep := [], vty := [], vals := [], live := [(0, [1, 2]), (1, [3])] }
noncomputable def nak_ahead_fn1 (i_0 : Int × ByteArray) (x_1 : Int × Int × (List (Int × ByteArray)) × (List (Int × ByteArray)) × (List (Int × Int × Int × ByteArray × Int)) × Int × Int) : Option ((Bool × Unit) × Unit) :=
 some ((decide (i_0.1 ≥ x_1.1), ()), ())
theorem nak_ahead_fn1_eq (i_0 : Int × ByteArray) (x_1 : Int × Int × (List (Int × ByteArray)) × (List (Int × ByteArray)) × (List (Int × Int × Int × ByteArray × Int)) × Int × Int) : evFn nak_ahead_fn1_Γ tab nak_ahead_fn1_fi 1 [.val t135, .rbox t31] [⟨t4, [false], none⟩] Tryz.f239 (i_0, x_1, ()) = nak_ahead_fn1 i_0 x_1 := by kernel_rfl
noncomputable def nak_ahead_fn1_e : Ent := ⟨[.val t135, .rbox t31], [⟨t4, [false], none⟩], fun x => nak_ahead_fn1 x.1 x.2.1⟩
theorem nak_ahead_fn1_good : Good tab.ty Tryz.prog 239 nak_ahead_fn1_e := by
  refine fn_good (Γ := nak_ahead_fn1_Γ) (fi := nak_ahead_fn1_fi) (n := 1) follows gnil tabok Tryz.func239 (by kernel_rfl) (by kernel_rfl) (fun x r h => ?_)
  obtain ⟨i_0, x_1, _u⟩ := x
  exact (nak_ahead_fn1_eq i_0 x_1).trans h
noncomputable def nak_ahead_Γ : Ctx := [(238, slices_IndexFunc_Item_e), (239, nak_ahead_fn1_e)]
def nak_ahead_fi : Fi := { keep := [], vty := [], vals := [], live := [(0, [1, 2, 14, 15, 16, 17, 18, 19, 20, 21]), (1, [1, 2, 6, 14, 15, 16, 17, 18, 19, 20, 21]), (2, [1, 2, 6, 22]), (3, [4, 5]), (4, [4, 5])] }
noncomputable def nak_ahead (f_0 : Int × Int × (List (Int × ByteArray)) × (List (Int × ByteArray)) × (List (Int × Int × Int × ByteArray × Int)) × Int × Int) (hi_1 : Int) : Option ((Int × Bool × Unit) × Unit) :=
 Option.bind (slices_IndexFunc_Item f_0.2.2.2.1 (fun x => (nak_ahead_fn1 x.1 f_0).bind fun r => some (r.1.1, ()))) fun (r1 : (Int × Unit) × Unit) =>
 bif decide (r1.1.1 < 0) then
  some ((hi_1, false, ()), ())
 else
 bif decide (0 ≤ r1.1.1) && decide (r1.1.1 < (f_0.2.2.2.1.length : Int)) then
  bif decide ((List.getD f_0.2.2.2.1 r1.1.1.toNat (0, (⟨#[]⟩ : ByteArray))).1 > hi_1) then
   some ((hi_1, false, ()), ())
  else
  bif decide (0 ≤ r1.1.1) && decide (r1.1.1 < (f_0.2.2.2.1.length : Int)) then
   some ((IntKind.wrap .i64 (((List.getD f_0.2.2.2.1 r1.1.1.toNat (0, (⟨#[]⟩ : ByteArray))).1) - 1), true, ()), ())
  else none
 else none
theorem nak_ahead_eq (f_0 : Int × Int × (List (Int × ByteArray)) × (List (Int × ByteArray)) × (List (Int × Int × Int × ByteArray × Int)) × Int × Int) (hi_1 : Int) : evFn nak_ahead_Γ tab nak_ahead_fi 1 [.val t31, .val t2] [⟨t2, [false], none⟩, ⟨t4, [false], none⟩] Tryz.f166 (f_0, hi_1, ()) = nak_ahead f_0 hi_1 := by kernel_rfl
noncomputable def nak_ahead_e : Ent := ⟨[.val t31, .val t2], [⟨t2, [false], none⟩, ⟨t4, [false], none⟩], fun x => nak_ahead x.1 x.2.1⟩
theorem nak_ahead_good : Good tab.ty Tryz.prog 166 nak_ahead_e := by
  refine fn_good (Γ := nak_ahead_Γ) (fi := nak_ahead_fi) (n := 1) follows (gcons slices_IndexFunc_Item_good (gcons nak_ahead_fn1_good gnil)) tabok Tryz.func166 (by kernel_rfl) (by kernel_rfl) (fun x r h => ?_)
  obtain ⟨f_0, hi_1, _u⟩ := x
  exact (nak_ahead_eq f_0 hi_1).trans h
noncomputable def log_Skip_Γ : Ctx := [(70, slices_Clone_Event_e)]
def log_Skip_fi : Fi := { keep := [], vty := [], vals := [], live := [(0, [0, 1, 2, 3]), (1, [8])] }
noncomputable def log_Skip (l_0 : List (Int × Int × Int × ByteArray × Int)) (lo_1 : Int) (hi_2 : Int) (why_3 : Int) : Option (((List (Int × Int × Int × ByteArray × Int)) × Unit) × Unit) :=
 Option.bind (slices_Clone_Event l_0) fun (r1 : ((List (Int × Int × Int × ByteArray × Int)) × Unit) × Unit) =>
 bif Nat.ble (r1.1.1.length + 1) 1073741824 then
  some ((r1.1.1 ++ [(2, lo_1, hi_2, (⟨#[]⟩ : ByteArray), why_3)], ()), ())
 else none
theorem log_Skip_eq (l_0 : List (Int × Int × Int × ByteArray × Int)) (lo_1 : Int) (hi_2 : Int) (why_3 : Int) : evFn log_Skip_Γ tab log_Skip_fi 1 [.val t28, .val t2, .val t2, .val t2] [⟨t28, [true], none⟩] Tryz.f167 (l_0, lo_1, hi_2, why_3, ()) = log_Skip l_0 lo_1 hi_2 why_3 := by kernel_rfl
noncomputable def log_Skip_e : Ent := ⟨[.val t28, .val t2, .val t2, .val t2], [⟨t28, [true], none⟩], fun x => log_Skip x.1 x.2.1 x.2.2.1 x.2.2.2.1⟩
theorem log_Skip_good : Good tab.ty Tryz.prog 167 log_Skip_e := by
  refine fn_good (Γ := log_Skip_Γ) (fi := log_Skip_fi) (n := 1) follows (gcons slices_Clone_Event_good gnil) tabok Tryz.func167 (by kernel_rfl) (by kernel_rfl) (fun x r h => ?_)
  obtain ⟨l_0, lo_1, hi_2, why_3, _u⟩ := x
  exact (log_Skip_eq l_0 lo_1 hi_2 why_3).trans h
noncomputable def nak_Skips_Γ : Ctx := [(165, nak_twin_e), (166, nak_ahead_e), (167, log_Skip_e), (168, nak_tells_e), (169, wait_Start_e)]
def nak_Skips_fi : Fi := { keep := [], vty := [(8, 152)], vals := [], live := [(0, [1, 2, 3, 6, 20, 21]), (1, [1, 2, 3, 6, 20, 21]), (2, [1, 2, 3, 6, 22]), (3, [6, 7]), (4, [1, 2, 3, 6, 8]), (5, [1, 2, 3, 6, 8, 9]), (6, [1, 2, 3, 6, 8, 9, 29]), (7, [1, 2, 3, 6, 8, 9, 10, 11]), (8, [1, 2, 3, 6, 8, 9, 10, 11, 39]), (9, [1, 2, 3, 6, 8, 9, 10, 11]), (10, [1, 2, 3, 6, 8, 9, 10, 11]), (11, [1, 2, 3, 6, 8, 9, 11]), (12, [1, 2, 3, 6, 8, 9, 59]), (13, [1, 2, 3, 6, 8, 9, 12, 13]), (14, [1, 2, 3, 6, 8, 9, 13]), (15, [1, 2, 3, 6, 8, 9, 68]), (16, [3, 6, 8, 72]), (17, [3, 6, 8]), (18, [6, 7])] }
noncomputable def nak_Skips_B1 (L2 : Int → Int → Int → Int → Int → (List (Int × ByteArray)) → (List (Int × ByteArray)) → (List (Int × Int × Int × ByteArray × Int)) → Int → Int → Int → Int → Int → Int → (List (Int × ByteArray)) → (List (Int × ByteArray)) → (List (Int × Int × Int × ByteArray × Int)) → (List (Int × Int)) → Option (((Int × Int × (List (Int × ByteArray)) × (List (Int × ByteArray)) × (List (Int × Int × Int × ByteArray × Int)) × Int × Int) × (List (Int × Int)) × Unit) × Unit)) (v2 : Int) (v3 : Int) (v4 : Int) (v5 : Int) (v6 : Int) (v7 : Int) (v8 : Int) (v9 : List (Int × ByteArray)) (v10 : List (Int × ByteArray)) (v11 : List (Int × Int × Int × ByteArray × Int)) (v12 : Int) (v13 : Int) (v14 : Int) (v15 : Int) (v16 : List (Int × ByteArray)) (v17 : List (Int × ByteArray)) (v18 : List (Int × Int × Int × ByteArray × Int)) (v19 : List (Int × Int)) : Option (((Int × Int × (List (Int × ByteArray)) × (List (Int × ByteArray)) × (List (Int × Int × Int × ByteArray × Int)) × Int × Int) × (List (Int × Int)) × Unit) × Unit) :=
 bif decide (v5 ≤ v2) then
  Option.bind (nak_ahead (v5, v6, v9, v10, v11, v7, v8) v2) fun (r20 : (Int × Bool × Unit) × Unit) =>
  bif decide (r20.1.1 ≥ v5) then
   Option.bind (log_Skip v11 v5 r20.1.1 v3) fun (r21 : ((List (Int × Int × Int × ByteArray × Int)) × Unit) × Unit) =>
   bif Nat.ble (v19.length + 1) 1073741824 then
    bif !r20.1.2.1 then
     bif (IntKind.wrap .i64 (r20.1.1 + 1)) != v4 then
      Option.bind (wait_Start) fun (r22 : ((Int × Int) × Unit) × Unit) =>
      some (((IntKind.wrap .i64 (r20.1.1 + 1), v6, v9, v10, r21.1.1, r22.1.1), v19 ++ [(v5, r20.1.1)], ()), ())
     else
      some (((IntKind.wrap .i64 (r20.1.1 + 1), v6, v9, v10, r21.1.1, v7, v8), v19 ++ [(v5, r20.1.1)], ()), ())
    else
     Option.bind (nak_tells (IntKind.wrap .i64 (r20.1.1 + 1), v6, v9, v10, r21.1.1, v7, v8)) fun (r23 : ((Int × Int × (List (Int × ByteArray)) × (List (Int × ByteArray)) × (List (Int × Int × Int × ByteArray × Int)) × Int × Int) × (List (Int × ByteArray)) × Unit) × Unit) =>
     bif (r23.1.2.1.length : Int) == 0 then
      bif r23.1.1.1 != v4 then
       Option.bind (wait_Start) fun (r24 : ((Int × Int) × Unit) × Unit) =>
       some (((r23.1.1.1, r23.1.1.2.1, r23.1.1.2.2.1, r23.1.1.2.2.2.1, r23.1.1.2.2.2.2.1, r24.1.1), v19 ++ [(v5, r20.1.1)], ()), ())
      else
       some ((r23.1.1, v19 ++ [(v5, r20.1.1)], ()), ())
     else
      L2 v2 v3 v4 r23.1.1.1 r23.1.1.2.1 r23.1.1.2.2.1 r23.1.1.2.2.2.1 r23.1.1.2.2.2.2.1 r23.1.1.2.2.2.2.2.1 r23.1.1.2.2.2.2.2.2 v12 v13 v14 v15 v16 v17 v18 (v19 ++ [(v5, r20.1.1)])
   else none
  else
  bif !r20.1.2.1 then
   bif v5 != v4 then
    Option.bind (wait_Start) fun (r52 : ((Int × Int) × Unit) × Unit) =>
    some (((v5, v6, v9, v10, v11, r52.1.1), v19, ()), ())
   else
    some (((v5, v6, v9, v10, v11, v7, v8), v19, ()), ())
  else
   Option.bind (nak_tells (v5, v6, v9, v10, v11, v7, v8)) fun (r53 : ((Int × Int × (List (Int × ByteArray)) × (List (Int × ByteArray)) × (List (Int × Int × Int × ByteArray × Int)) × Int × Int) × (List (Int × ByteArray)) × Unit) × Unit) =>
   bif (r53.1.2.1.length : Int) == 0 then
    bif r53.1.1.1 != v4 then
     Option.bind (wait_Start) fun (r54 : ((Int × Int) × Unit) × Unit) =>
     some (((r53.1.1.1, r53.1.1.2.1, r53.1.1.2.2.1, r53.1.1.2.2.2.1, r53.1.1.2.2.2.2.1, r54.1.1), v19, ()), ())
    else
     some ((r53.1.1, v19, ()), ())
   else
    L2 v2 v3 v4 r53.1.1.1 r53.1.1.2.1 r53.1.1.2.2.1 r53.1.1.2.2.2.1 r53.1.1.2.2.2.2.1 r53.1.1.2.2.2.2.2.1 r53.1.1.2.2.2.2.2.2 v12 v13 v14 v15 v16 v17 v18 v19
 else
 bif v5 != v4 then
  Option.bind (wait_Start) fun (r55 : ((Int × Int) × Unit) × Unit) =>
  some (((v5, v6, v9, v10, v11, r55.1.1), v19, ()), ())
 else
  some (((v5, v6, v9, v10, v11, v7, v8), v19, ()), ())
noncomputable def nak_Skips_B2 (L2 : Int → Int → Int → Int → Int → (List (Int × ByteArray)) → (List (Int × ByteArray)) → (List (Int × Int × Int × ByteArray × Int)) → Int → Int → Int → Int → Int → Int → (List (Int × ByteArray)) → (List (Int × ByteArray)) → (List (Int × Int × Int × ByteArray × Int)) → (List (Int × Int)) → Option (((Int × Int × (List (Int × ByteArray)) × (List (Int × ByteArray)) × (List (Int × Int × Int × ByteArray × Int)) × Int × Int) × (List (Int × Int)) × Unit) × Unit)) (v25 : Int) (v26 : Int) (v27 : Int) (v28 : Int) (v29 : Int) (v30 : List (Int × ByteArray)) (v31 : List (Int × ByteArray)) (v32 : List (Int × Int × Int × ByteArray × Int)) (v33 : Int) (v34 : Int) (v35 : Int) (v36 : Int) (v37 : Int) (v38 : Int) (v39 : List (Int × ByteArray)) (v40 : List (Int × ByteArray)) (v41 : List (Int × Int × Int × ByteArray × Int)) (v42 : List (Int × Int)) : Option (((Int × Int × (List (Int × ByteArray)) × (List (Int × ByteArray)) × (List (Int × Int × Int × ByteArray × Int)) × Int × Int) × (List (Int × Int)) × Unit) × Unit) :=
 bif decide (v28 ≤ v25) then
  Option.bind (nak_ahead (v28, v29, v30, v31, v32, v33, v34) v25) fun (r43 : (Int × Bool × Unit) × Unit) =>
  bif decide (r43.1.1 ≥ v28) then
   Option.bind (log_Skip v32 v28 r43.1.1 v26) fun (r44 : ((List (Int × Int × Int × ByteArray × Int)) × Unit) × Unit) =>
   bif Nat.ble (v42.length + 1) 1073741824 then
    bif !r43.1.2.1 then
     bif (IntKind.wrap .i64 (r43.1.1 + 1)) != v27 then
      Option.bind (wait_Start) fun (r45 : ((Int × Int) × Unit) × Unit) =>
      some (((IntKind.wrap .i64 (r43.1.1 + 1), v29, v30, v31, r44.1.1, r45.1.1), v42 ++ [(v28, r43.1.1)], ()), ())
     else
      some (((IntKind.wrap .i64 (r43.1.1 + 1), v29, v30, v31, r44.1.1, v33, v34), v42 ++ [(v28, r43.1.1)], ()), ())
    else
     Option.bind (nak_tells (IntKind.wrap .i64 (r43.1.1 + 1), v29, v30, v31, r44.1.1, v33, v34)) fun (r46 : ((Int × Int × (List (Int × ByteArray)) × (List (Int × ByteArray)) × (List (Int × Int × Int × ByteArray × Int)) × Int × Int) × (List (Int × ByteArray)) × Unit) × Unit) =>
     bif (r46.1.2.1.length : Int) == 0 then
      bif r46.1.1.1 != v27 then
       Option.bind (wait_Start) fun (r47 : ((Int × Int) × Unit) × Unit) =>
       some (((r46.1.1.1, r46.1.1.2.1, r46.1.1.2.2.1, r46.1.1.2.2.2.1, r46.1.1.2.2.2.2.1, r47.1.1), v42 ++ [(v28, r43.1.1)], ()), ())
      else
       some ((r46.1.1, v42 ++ [(v28, r43.1.1)], ()), ())
     else
      L2 v25 v26 v27 r46.1.1.1 r46.1.1.2.1 r46.1.1.2.2.1 r46.1.1.2.2.2.1 r46.1.1.2.2.2.2.1 r46.1.1.2.2.2.2.2.1 r46.1.1.2.2.2.2.2.2 v35 v36 v37 v38 v39 v40 v41 (v42 ++ [(v28, r43.1.1)])
   else none
  else
  bif !r43.1.2.1 then
   bif v28 != v27 then
    Option.bind (wait_Start) fun (r48 : ((Int × Int) × Unit) × Unit) =>
    some (((v28, v29, v30, v31, v32, r48.1.1), v42, ()), ())
   else
    some (((v28, v29, v30, v31, v32, v33, v34), v42, ()), ())
  else
   Option.bind (nak_tells (v28, v29, v30, v31, v32, v33, v34)) fun (r49 : ((Int × Int × (List (Int × ByteArray)) × (List (Int × ByteArray)) × (List (Int × Int × Int × ByteArray × Int)) × Int × Int) × (List (Int × ByteArray)) × Unit) × Unit) =>
   bif (r49.1.2.1.length : Int) == 0 then
    bif r49.1.1.1 != v27 then
     Option.bind (wait_Start) fun (r50 : ((Int × Int) × Unit) × Unit) =>
     some (((r49.1.1.1, r49.1.1.2.1, r49.1.1.2.2.1, r49.1.1.2.2.2.1, r49.1.1.2.2.2.2.1, r50.1.1), v42, ()), ())
    else
     some ((r49.1.1, v42, ()), ())
   else
    L2 v25 v26 v27 r49.1.1.1 r49.1.1.2.1 r49.1.1.2.2.1 r49.1.1.2.2.2.1 r49.1.1.2.2.2.2.1 r49.1.1.2.2.2.2.2.1 r49.1.1.2.2.2.2.2.2 v35 v36 v37 v38 v39 v40 v41 v42
 else
 bif v28 != v27 then
  Option.bind (wait_Start) fun (r51 : ((Int × Int) × Unit) × Unit) =>
  some (((v28, v29, v30, v31, v32, r51.1.1), v42, ()), ())
 else
  some (((v28, v29, v30, v31, v32, v33, v34), v42, ()), ())
noncomputable def nak_Skips_T (L1 : Int → Int → Int → Int → Int → Int → Int → (List (Int × ByteArray)) → (List (Int × ByteArray)) → (List (Int × Int × Int × ByteArray × Int)) → Int → Int → Int → Int → (List (Int × ByteArray)) → (List (Int × ByteArray)) → (List (Int × Int × Int × ByteArray × Int)) → (List (Int × Int)) → Option (((Int × Int × (List (Int × ByteArray)) × (List (Int × ByteArray)) × (List (Int × Int × Int × ByteArray × Int)) × Int × Int) × (List (Int × Int)) × Unit) × Unit)) (f_0 : Int × Int × (List (Int × ByteArray)) × (List (Int × ByteArray)) × (List (Int × Int × Int × ByteArray × Int)) × Int × Int) (hi_1 : Int) (why_2 : Int) : Option (((Int × Int × (List (Int × ByteArray)) × (List (Int × ByteArray)) × (List (Int × Int × Int × ByteArray × Int)) × Int × Int) × (List (Int × Int)) × Unit) × Unit) :=
 Option.bind (nak_twin f_0) fun (r1 : ((Int × Int × (List (Int × ByteArray)) × (List (Int × ByteArray)) × (List (Int × Int × Int × ByteArray × Int)) × Int × Int) × Unit) × Unit) =>
 bif decide (r1.1.1.1 < 1) then
  some ((r1.1.1, [], ()), ())
 else
 bif decide (hi_1 > 1000000) then
  some ((r1.1.1, [], ()), ())
 else
  L1 hi_1 why_2 r1.1.1.1 r1.1.1.1 r1.1.1.2.1 r1.1.1.2.2.2.2.2.1 r1.1.1.2.2.2.2.2.2 r1.1.1.2.2.1 r1.1.1.2.2.2.1 r1.1.1.2.2.2.2.1 0 0 0 0 [] [] [] []
noncomputable def nak_Skips_L2 (n : Nat) : Nat → Int → Int → Int → Int → Int → (List (Int × ByteArray)) → (List (Int × ByteArray)) → (List (Int × Int × Int × ByteArray × Int)) → Int → Int → Int → Int → Int → Int → (List (Int × ByteArray)) → (List (Int × ByteArray)) → (List (Int × Int × Int × ByteArray × Int)) → (List (Int × Int)) → Option (((Int × Int × (List (Int × ByteArray)) × (List (Int × ByteArray)) × (List (Int × Int × Int × ByteArray × Int)) × Int × Int) × (List (Int × Int)) × Unit) × Unit) := iter (fun _ _ _ _ _ _ _ _ _ _ _ _ _ _ _ _ _ _ => none) fun L => nak_Skips_B2 L
noncomputable def nak_Skips_L1 (n : Nat) : Nat → Int → Int → Int → Int → Int → Int → Int → (List (Int × ByteArray)) → (List (Int × ByteArray)) → (List (Int × Int × Int × ByteArray × Int)) → Int → Int → Int → Int → (List (Int × ByteArray)) → (List (Int × ByteArray)) → (List (Int × Int × Int × ByteArray × Int)) → (List (Int × Int)) → Option (((Int × Int × (List (Int × ByteArray)) × (List (Int × ByteArray)) × (List (Int × Int × Int × ByteArray × Int)) × Int × Int) × (List (Int × Int)) × Unit) × Unit) := iterN (fun _ _ _ _ _ _ _ _ _ _ _ _ _ _ _ _ _ _ => none) fun m L => nak_Skips_B1 (nak_Skips_L2 n m)
noncomputable def nak_Skips_X1 (n m : Nat) (v2 : Int) (v3 : Int) (v4 : Int) (v5 : Int) (v6 : Int) (v7 : Int) (v8 : Int) (v9 : List (Int × ByteArray)) (v10 : List (Int × ByteArray)) (v11 : List (Int × Int × Int × ByteArray × Int)) (v12 : Int) (v13 : Int) (v14 : Int) (v15 : Int) (v16 : List (Int × ByteArray)) (v17 : List (Int × ByteArray)) (v18 : List (Int × Int × Int × ByteArray × Int)) (v19 : List (Int × Int)) : Option (((Int × Int × (List (Int × ByteArray)) × (List (Int × ByteArray)) × (List (Int × Int × Int × ByteArray × Int)) × Int × Int) × (List (Int × Int)) × Unit) × Unit) :=
 atLoop nak_Skips_Γ tab (fiB [.val t31, .val t2, .val t2] nak_Skips_fi) n [.val t31, .val t2, .val t2] [⟨t31, [false, false, false, false, false, false, false], none⟩, ⟨t152, [true], none⟩] Tryz.f81 [1, 1, 1, 1, 1, 0, 0] [] [1, 2, 3, 6, 8, 9] m
 ⟨[(1, SV.cv (CV.one (LV.pure t2 v2))), (2, SV.cv (CV.one (LV.pure t2 v3))), (3, SV.cv (CV.one (LV.ptr (3, 0) 0))), (6, SV.cv (CV.one (LV.ptr (6, 0) 0))), (8, SV.cv (CV.one (LV.ref (888888, 8)))), (9, SV.cv (CV.one (LV.pure t2 v4)))],
  [((3, 0), Ob.box 32 [LV.pure t2 v5, LV.pure t2 v6, LV.ref (3, 3), LV.ref (3, 4), LV.ref (3, 5), LV.pure t2 v7, LV.pure t2 v8]), ((3, 3), Ob.row 136 t135 v9), ((3, 4), Ob.row 136 t135 v10), ((3, 5), Ob.row 139 t138 v11), ((6, 0), Ob.box 32 [LV.pure t2 v12, LV.pure t2 v13, LV.ref (6, 3), LV.ref (6, 4), LV.ref (6, 5), LV.pure t2 v14, LV.pure t2 v15]), ((6, 3), Ob.row 136 t135 v16), ((6, 4), Ob.row 136 t135 v17), ((6, 5), Ob.row 139 t138 v18), ((888888, 8), Ob.row 81 t29 v19)]⟩
noncomputable def nak_Skips_X2 (n m : Nat) (v25 : Int) (v26 : Int) (v27 : Int) (v28 : Int) (v29 : Int) (v30 : List (Int × ByteArray)) (v31 : List (Int × ByteArray)) (v32 : List (Int × Int × Int × ByteArray × Int)) (v33 : Int) (v34 : Int) (v35 : Int) (v36 : Int) (v37 : Int) (v38 : Int) (v39 : List (Int × ByteArray)) (v40 : List (Int × ByteArray)) (v41 : List (Int × Int × Int × ByteArray × Int)) (v42 : List (Int × Int)) : Option (((Int × Int × (List (Int × ByteArray)) × (List (Int × ByteArray)) × (List (Int × Int × Int × ByteArray × Int)) × Int × Int) × (List (Int × Int)) × Unit) × Unit) :=
 atLoop nak_Skips_Γ tab (fiB [.val t31, .val t2, .val t2] nak_Skips_fi) n [.val t31, .val t2, .val t2] [⟨t31, [false, false, false, false, false, false, false], none⟩, ⟨t152, [true], none⟩] Tryz.f81 [1, 1, 1, 1, 1, 0, 0] [] [1, 2, 3, 6, 8, 9] m
 ⟨[(1, SV.cv (CV.one (LV.pure t2 v25))), (2, SV.cv (CV.one (LV.pure t2 v26))), (3, SV.cv (CV.one (LV.ptr (3, 0) 0))), (6, SV.cv (CV.one (LV.ptr (6, 0) 0))), (8, SV.cv (CV.one (LV.ref (888888, 8)))), (9, SV.cv (CV.one (LV.pure t2 v27)))],
  [((3, 0), Ob.box 32 [LV.pure t2 v28, LV.pure t2 v29, LV.pure t27 v30, LV.pure t27 v31, LV.pure t28 v32, LV.pure t2 v33, LV.pure t2 v34]), ((6, 0), Ob.box 32 [LV.pure t2 v35, LV.pure t2 v36, LV.ref (6, 3), LV.ref (6, 4), LV.ref (6, 5), LV.pure t2 v37, LV.pure t2 v38]), ((6, 3), Ob.row 136 t135 v39), ((6, 4), Ob.row 136 t135 v40), ((6, 5), Ob.row 139 t138 v41), ((888888, 8), Ob.row 81 t29 v42)]⟩
theorem nak_Skips_step1 (n m : Nat) (v2 : Int) (v3 : Int) (v4 : Int) (v5 : Int) (v6 : Int) (v7 : Int) (v8 : Int) (v9 : List (Int × ByteArray)) (v10 : List (Int × ByteArray)) (v11 : List (Int × Int × Int × ByteArray × Int)) (v12 : Int) (v13 : Int) (v14 : Int) (v15 : Int) (v16 : List (Int × ByteArray)) (v17 : List (Int × ByteArray)) (v18 : List (Int × Int × Int × ByteArray × Int)) (v19 : List (Int × Int)) : nak_Skips_X1 n (m + 1) v2 v3 v4 v5 v6 v7 v8 v9 v10 v11 v12 v13 v14 v15 v16 v17 v18 v19 = nak_Skips_B1 (nak_Skips_X2 n m) v2 v3 v4 v5 v6 v7 v8 v9 v10 v11 v12 v13 v14 v15 v16 v17 v18 v19 := by kernel_rfl
theorem nak_Skips_step2 (n m : Nat) (v25 : Int) (v26 : Int) (v27 : Int) (v28 : Int) (v29 : Int) (v30 : List (Int × ByteArray)) (v31 : List (Int × ByteArray)) (v32 : List (Int × Int × Int × ByteArray × Int)) (v33 : Int) (v34 : Int) (v35 : Int) (v36 : Int) (v37 : Int) (v38 : Int) (v39 : List (Int × ByteArray)) (v40 : List (Int × ByteArray)) (v41 : List (Int × Int × Int × ByteArray × Int)) (v42 : List (Int × Int)) : nak_Skips_X2 n (m + 1) v25 v26 v27 v28 v29 v30 v31 v32 v33 v34 v35 v36 v37 v38 v39 v40 v41 v42 = nak_Skips_B2 (nak_Skips_X2 n m) v25 v26 v27 v28 v29 v30 v31 v32 v33 v34 v35 v36 v37 v38 v39 v40 v41 v42 := by kernel_rfl
theorem nak_Skips_start (n : Nat) (f_0 : Int × Int × (List (Int × ByteArray)) × (List (Int × ByteArray)) × (List (Int × Int × Int × ByteArray × Int)) × Int × Int) (hi_1 : Int) (why_2 : Int) : evFn nak_Skips_Γ tab nak_Skips_fi n [.val t31, .val t2, .val t2] [⟨t31, [false, false, false, false, false, false, false], none⟩, ⟨t152, [true], none⟩] Tryz.f81 (f_0, hi_1, why_2, ()) = nak_Skips_T (nak_Skips_X1 n n) f_0 hi_1 why_2 := by kernel_rfl
theorem nak_Skips_XL2 (n : Nat) : ∀ m, nak_Skips_X2 n m = nak_Skips_L2 n m
 | 0 => rfl
 | m + 1 => by
  have ih := nak_Skips_XL2 n m
  funext v25 v26 v27 v28 v29 v30 v31 v32 v33 v34 v35 v36 v37 v38 v39 v40 v41 v42
  rw [nak_Skips_step2, ih]
  rfl
theorem nak_Skips_XL1 (n : Nat) : ∀ m, nak_Skips_X1 n m = nak_Skips_L1 n m
 | 0 => rfl
 | m + 1 => by
  have ih := nak_Skips_XL1 n m
  funext v2 v3 v4 v5 v6 v7 v8 v9 v10 v11 v12 v13 v14 v15 v16 v17 v18 v19
  rw [nak_Skips_step1, nak_Skips_XL2 n m]
  rfl
noncomputable def nak_Skips_n (n : Nat) (f_0 : Int × Int × (List (Int × ByteArray)) × (List (Int × ByteArray)) × (List (Int × Int × Int × ByteArray × Int)) × Int × Int) (hi_1 : Int) (why_2 : Int) : Option (((Int × Int × (List (Int × ByteArray)) × (List (Int × ByteArray)) × (List (Int × Int × Int × ByteArray × Int)) × Int × Int) × (List (Int × Int)) × Unit) × Unit) := nak_Skips_T (nak_Skips_L1 n n) f_0 hi_1 why_2
noncomputable def nak_Skips (f_0 : Int × Int × (List (Int × ByteArray)) × (List (Int × ByteArray)) × (List (Int × Int × Int × ByteArray × Int)) × Int × Int) (hi_1 : Int) (why_2 : Int) : Option (((Int × Int × (List (Int × ByteArray)) × (List (Int × ByteArray)) × (List (Int × Int × Int × ByteArray × Int)) × Int × Int) × (List (Int × Int)) × Unit) × Unit) := nak_Skips_n 1099511627776 f_0 hi_1 why_2
theorem nak_Skips_eq (n : Nat) (f_0 : Int × Int × (List (Int × ByteArray)) × (List (Int × ByteArray)) × (List (Int × Int × Int × ByteArray × Int)) × Int × Int) (hi_1 : Int) (why_2 : Int) : evFn nak_Skips_Γ tab nak_Skips_fi n [.val t31, .val t2, .val t2] [⟨t31, [false, false, false, false, false, false, false], none⟩, ⟨t152, [true], none⟩] Tryz.f81 (f_0, hi_1, why_2, ()) = nak_Skips_n n f_0 hi_1 why_2 := by
  rw [nak_Skips_start, nak_Skips_XL1 n n]
  rfl
noncomputable def nak_Skips_e : Ent := ⟨[.val t31, .val t2, .val t2], [⟨t31, [false, false, false, false, false, false, false], none⟩, ⟨t152, [true], none⟩], fun x => nak_Skips x.1 x.2.1 x.2.2.1⟩
theorem nak_Skips_good : Good tab.ty Tryz.prog 81 nak_Skips_e := by
  refine fn_good (Γ := nak_Skips_Γ) (fi := nak_Skips_fi) (n := 1099511627776) follows (gcons nak_twin_good (gcons nak_ahead_good (gcons log_Skip_good (gcons nak_tells_good (gcons wait_Start_good gnil))))) tabok Tryz.func81 (by kernel_rfl) (by kernel_rfl) (fun x r h => ?_)
  obtain ⟨f_0, hi_1, why_2, _u⟩ := x
  exact (nak_Skips_eq 1099511627776 f_0 hi_1 why_2).trans h
noncomputable def feed_Notes_Γ : Ctx := [(79, feed_twin_e), (81, nak_Skips_e), (82, nak_Goes_e), (97, feed_Knows_e)]
def feed_Notes_fi : Fi := { keep := [], vty := [], vals := [], live := [(0, [1, 2, 3, 6, 11, 12, 15, 16, 17, 20, 21, 30, 31, 32, 33]), (1, [1, 2, 3, 6, 22, 30, 31, 32, 33]), (2, [6]), (3, [2, 3, 6, 34]), (4, [6]), (5, [2, 3, 6]), (6, [3, 6]), (7, [3, 6]), (8, [6])] }
noncomputable def feed_Notes (f_0 : Int × Int × (List (Int × ByteArray)) × (List (Int × ByteArray)) × (List (Int × Int × Int × ByteArray × Int)) × Int × Int) (lo_1 : Int) (hi_2 : Int) : Option (((Int × Int × (List (Int × ByteArray)) × (List (Int × ByteArray)) × (List (Int × Int × Int × ByteArray × Int)) × Int × Int) × Unit) × Unit) :=
 bif f_0.1 == 0 then
  Option.bind (feed_twin f_0) fun (r1 : ((Int × Int × (List (Int × ByteArray)) × (List (Int × ByteArray)) × (List (Int × Int × Int × ByteArray × Int)) × Int × Int) × Unit) × Unit) =>
  some ((r1.1.1, ()), ())
 else
 bif decide (lo_1 < 1) then
  Option.bind (feed_twin f_0) fun (r2 : ((Int × Int × (List (Int × ByteArray)) × (List (Int × ByteArray)) × (List (Int × Int × Int × ByteArray × Int)) × Int × Int) × Unit) × Unit) =>
  some ((r2.1.1, ()), ())
 else
 bif decide (lo_1 > hi_2) then
  Option.bind (feed_twin f_0) fun (r3 : ((Int × Int × (List (Int × ByteArray)) × (List (Int × ByteArray)) × (List (Int × Int × Int × ByteArray × Int)) × Int × Int) × Unit) × Unit) =>
  some ((r3.1.1, ()), ())
 else
 bif decide (hi_2 > 1000000) then
  Option.bind (feed_twin f_0) fun (r4 : ((Int × Int × (List (Int × ByteArray)) × (List (Int × ByteArray)) × (List (Int × Int × Int × ByteArray × Int)) × Int × Int) × Unit) × Unit) =>
  some ((r4.1.1, ()), ())
 else
 bif decide (f_0.1 < lo_1) then
  Option.bind (feed_Knows f_0 hi_2) fun (r5 : ((Int × Int × (List (Int × ByteArray)) × (List (Int × ByteArray)) × (List (Int × Int × Int × ByteArray × Int)) × Int × Int) × Unit) × Unit) =>
  some ((r5.1.1, ()), ())
 else
 bif decide (f_0.1 > hi_2) then
  Option.bind (feed_Knows f_0 hi_2) fun (r6 : ((Int × Int × (List (Int × ByteArray)) × (List (Int × ByteArray)) × (List (Int × Int × Int × ByteArray × Int)) × Int × Int) × Unit) × Unit) =>
  some ((r6.1.1, ()), ())
 else
  Option.bind (nak_Skips f_0 hi_2 1) fun (r7 : ((Int × Int × (List (Int × ByteArray)) × (List (Int × ByteArray)) × (List (Int × Int × Int × ByteArray × Int)) × Int × Int) × (List (Int × Int)) × Unit) × Unit) =>
  Option.bind (nak_Goes (r7.1.1.1, if hi_2 > r7.1.1.2.1 then hi_2 else r7.1.1.2.1, r7.1.1.2.2)) fun (r8 : ((Int × Int × (List (Int × ByteArray)) × (List (Int × ByteArray)) × (List (Int × Int × Int × ByteArray × Int)) × Int × Int) × (List (Int × ByteArray)) × Unit) × Unit) =>
  some ((r8.1.1, ()), ())
theorem feed_Notes_eq (f_0 : Int × Int × (List (Int × ByteArray)) × (List (Int × ByteArray)) × (List (Int × Int × Int × ByteArray × Int)) × Int × Int) (lo_1 : Int) (hi_2 : Int) : evFn feed_Notes_Γ tab feed_Notes_fi 1 [.val t31, .val t2, .val t2] [⟨t31, [false, false, false, false, false, false, false], none⟩] Tryz.f100 (f_0, lo_1, hi_2, ()) = feed_Notes f_0 lo_1 hi_2 := by kernel_rfl
noncomputable def feed_Notes_e : Ent := ⟨[.val t31, .val t2, .val t2], [⟨t31, [false, false, false, false, false, false, false], none⟩], fun x => feed_Notes x.1 x.2.1 x.2.2.1⟩
theorem feed_Notes_good : Good tab.ty Tryz.prog 100 feed_Notes_e := by
  refine fn_good (Γ := feed_Notes_Γ) (fi := feed_Notes_fi) (n := 1) follows (gcons feed_twin_good (gcons nak_Skips_good (gcons nak_Goes_good (gcons feed_Knows_good gnil)))) tabok Tryz.func100 (by kernel_rfl) (by kernel_rfl) (fun x r h => ?_)
  obtain ⟨f_0, lo_1, hi_2, _u⟩ := x
  exact (feed_Notes_eq f_0 lo_1 hi_2).trans h
noncomputable def node_feeds_Γ : Ctx := [(97, feed_Knows_e), (98, feed_Begin_e), (99, feed_Comes_e), (100, feed_Notes_e)]
def node_feeds_fi : Fi := { keep := [], vty := [], vals := [], live := [(0, [2, 3, 4, 6, 15, 16, 17, 18, 19, 20, 32, 33, 34, 35, 51, 52, 53, 54]), (1, [2, 3, 4, 6, 7, 32, 33, 34, 35, 51, 52, 53, 54]), (2, [2, 3, 4, 6, 22, 32, 33, 34, 35, 51, 52, 53, 54]), (3, [6]), (4, [2, 3, 4, 6, 27, 51, 52, 53, 54]), (5, [6]), (6, [3, 4, 6, 46]), (7, [6]), (8, [3, 4, 6, 61]), (9, [6]), (10, [3, 4, 6, 73]), (11, [6]), (12, [6])] }
noncomputable def node_feeds (n_0 : Bool × Int × ByteArray × (Int × Int × Int × Int × Int × Int × (List Int) × Int × Int × Int × Int × Int × List (Int × Int × Int)) × (Int × Int × (List (Int × ByteArray)) × (List (Int × ByteArray)) × (List (Int × Int × Int × ByteArray × Int)) × Int × Int) × Int) (m_1 : Int × Int × Int × Int × Int × Int × (List Int) × Int × Int × ByteArray) (was_2 : Int) : Option (((Int × Int × (List (Int × ByteArray)) × (List (Int × ByteArray)) × (List (Int × Int × Int × ByteArray × Int)) × Int × Int) × Unit) × Unit) :=
 bif m_1.2.1 == n_0.2.2.2.1.2.2.2.1 then
  bif !(m_1.2.2.2.1 == n_0.2.2.2.1.2.2.2.2.1) then
   some ((n_0.2.2.2.2.1, ()), ())
  else
  bif m_1.1 == 2 then
   bif was_2 != m_1.2.1 then
    Option.bind (feed_Begin n_0.2.2.2.2.1 m_1.2.2.2.2.2.2.2.1) fun (r1 : ((Int × Int × (List (Int × ByteArray)) × (List (Int × ByteArray)) × (List (Int × Int × Int × ByteArray × Int)) × Int × Int) × Unit) × Unit) =>
    Option.bind (feed_Knows r1.1.1 (IntKind.wrap .i64 (m_1.2.2.2.2.2.2.2.1 - 1))) fun (r2 : ((Int × Int × (List (Int × ByteArray)) × (List (Int × ByteArray)) × (List (Int × Int × Int × ByteArray × Int)) × Int × Int) × Unit) × Unit) =>
    some ((r2.1.1, ()), ())
   else
   bif m_1.1 == 5 then
    bif was_2 == m_1.2.1 then
     Option.bind (feed_Knows n_0.2.2.2.2.1 m_1.2.2.2.2.2.2.2.2.1) fun (r3 : ((Int × Int × (List (Int × ByteArray)) × (List (Int × ByteArray)) × (List (Int × Int × Int × ByteArray × Int)) × Int × Int) × Unit) × Unit) =>
     some ((r3.1.1, ()), ())
    else
    bif m_1.1 == 7 then
     Option.bind (feed_Comes n_0.2.2.2.2.1 (m_1.2.2.2.2.2.2.2.1, m_1.2.2.2.2.2.2.2.2.2)) fun (r4 : ((Int × Int × (List (Int × ByteArray)) × (List (Int × ByteArray)) × (List (Int × Int × Int × ByteArray × Int)) × Int × Int) × Unit) × Unit) =>
     some ((r4.1.1, ()), ())
    else
    bif m_1.1 == 9 then
     Option.bind (feed_Notes n_0.2.2.2.2.1 m_1.2.2.2.2.2.2.2.1 m_1.2.2.2.2.2.2.2.2.1) fun (r5 : ((Int × Int × (List (Int × ByteArray)) × (List (Int × ByteArray)) × (List (Int × Int × Int × ByteArray × Int)) × Int × Int) × Unit) × Unit) =>
     some ((r5.1.1, ()), ())
    else
     some ((n_0.2.2.2.2.1, ()), ())
   else
   bif m_1.1 == 7 then
    Option.bind (feed_Comes n_0.2.2.2.2.1 (m_1.2.2.2.2.2.2.2.1, m_1.2.2.2.2.2.2.2.2.2)) fun (r6 : ((Int × Int × (List (Int × ByteArray)) × (List (Int × ByteArray)) × (List (Int × Int × Int × ByteArray × Int)) × Int × Int) × Unit) × Unit) =>
    some ((r6.1.1, ()), ())
   else
   bif m_1.1 == 9 then
    Option.bind (feed_Notes n_0.2.2.2.2.1 m_1.2.2.2.2.2.2.2.1 m_1.2.2.2.2.2.2.2.2.1) fun (r7 : ((Int × Int × (List (Int × ByteArray)) × (List (Int × ByteArray)) × (List (Int × Int × Int × ByteArray × Int)) × Int × Int) × Unit) × Unit) =>
    some ((r7.1.1, ()), ())
   else
    some ((n_0.2.2.2.2.1, ()), ())
  else
  bif m_1.1 == 5 then
   bif was_2 == m_1.2.1 then
    Option.bind (feed_Knows n_0.2.2.2.2.1 m_1.2.2.2.2.2.2.2.2.1) fun (r8 : ((Int × Int × (List (Int × ByteArray)) × (List (Int × ByteArray)) × (List (Int × Int × Int × ByteArray × Int)) × Int × Int) × Unit) × Unit) =>
    some ((r8.1.1, ()), ())
   else
   bif m_1.1 == 7 then
    Option.bind (feed_Comes n_0.2.2.2.2.1 (m_1.2.2.2.2.2.2.2.1, m_1.2.2.2.2.2.2.2.2.2)) fun (r9 : ((Int × Int × (List (Int × ByteArray)) × (List (Int × ByteArray)) × (List (Int × Int × Int × ByteArray × Int)) × Int × Int) × Unit) × Unit) =>
    some ((r9.1.1, ()), ())
   else
   bif m_1.1 == 9 then
    Option.bind (feed_Notes n_0.2.2.2.2.1 m_1.2.2.2.2.2.2.2.1 m_1.2.2.2.2.2.2.2.2.1) fun (r10 : ((Int × Int × (List (Int × ByteArray)) × (List (Int × ByteArray)) × (List (Int × Int × Int × ByteArray × Int)) × Int × Int) × Unit) × Unit) =>
    some ((r10.1.1, ()), ())
   else
    some ((n_0.2.2.2.2.1, ()), ())
  else
  bif m_1.1 == 7 then
   Option.bind (feed_Comes n_0.2.2.2.2.1 (m_1.2.2.2.2.2.2.2.1, m_1.2.2.2.2.2.2.2.2.2)) fun (r11 : ((Int × Int × (List (Int × ByteArray)) × (List (Int × ByteArray)) × (List (Int × Int × Int × ByteArray × Int)) × Int × Int) × Unit) × Unit) =>
   some ((r11.1.1, ()), ())
  else
  bif m_1.1 == 9 then
   Option.bind (feed_Notes n_0.2.2.2.2.1 m_1.2.2.2.2.2.2.2.1 m_1.2.2.2.2.2.2.2.2.1) fun (r12 : ((Int × Int × (List (Int × ByteArray)) × (List (Int × ByteArray)) × (List (Int × Int × Int × ByteArray × Int)) × Int × Int) × Unit) × Unit) =>
   some ((r12.1.1, ()), ())
  else
   some ((n_0.2.2.2.2.1, ()), ())
 else
  some ((n_0.2.2.2.2.1, ()), ())
theorem node_feeds_eq (n_0 : Bool × Int × ByteArray × (Int × Int × Int × Int × Int × Int × (List Int) × Int × Int × Int × Int × Int × List (Int × Int × Int)) × (Int × Int × (List (Int × ByteArray)) × (List (Int × ByteArray)) × (List (Int × Int × Int × ByteArray × Int)) × Int × Int) × Int) (m_1 : Int × Int × Int × Int × Int × Int × (List Int) × Int × Int × ByteArray) (was_2 : Int) : evFn node_feeds_Γ tab node_feeds_fi 1 [.val t33, .val t40, .val t2] [⟨t31, [false, false, false, false, false, false, false], none⟩] Tryz.f37 (n_0, m_1, was_2, ()) = node_feeds n_0 m_1 was_2 := by kernel_rfl
noncomputable def node_feeds_e : Ent := ⟨[.val t33, .val t40, .val t2], [⟨t31, [false, false, false, false, false, false, false], none⟩], fun x => node_feeds x.1 x.2.1 x.2.2.1⟩
theorem node_feeds_good : Good tab.ty Tryz.prog 37 node_feeds_e := by
  refine fn_good (Γ := node_feeds_Γ) (fi := node_feeds_fi) (n := 1) follows (gcons feed_Knows_good (gcons feed_Begin_good (gcons feed_Comes_good (gcons feed_Notes_good gnil)))) tabok Tryz.func37 (by kernel_rfl) (by kernel_rfl) (fun x r h => ?_)
  obtain ⟨n_0, m_1, was_2, _u⟩ := x
  exact (node_feeds_eq n_0 m_1 was_2).trans h
noncomputable def node_Comes_Γ : Ctx := [(28, node_twin_e), (33, node_down_e), (34, msg_Take_e), (35, tie_Comes_e), (36, node_serves_e), (37, node_feeds_e)]
def node_Comes_fi : Fi := { keep := [], vty := [], vals := [], live := [(0, [1, 2, 4, 25, 26, 27, 28, 29, 30]), (1, [1, 2, 4, 6, 25, 26, 27, 28, 29, 30]), (2, [1, 2, 4, 6, 15, 25, 26, 27, 28, 29, 30]), (3, [4, 5]), (4, [2, 4, 6, 7, 8, 25, 26, 27, 28, 29, 30]), (5, [2, 4, 6, 7, 31]), (6, [4, 6]), (7, [4, 5]), (8, [2, 4, 6, 7, 9, 10]), (9, [2, 4, 6, 7, 10]), (10, [2, 4, 6, 7, 10, 53]), (11, [2, 4, 6, 7, 10]), (12, [2, 4, 6, 10]), (13, [4, 5])] }
noncomputable def node_Comes (n_0 : Bool × Int × ByteArray × (Int × Int × Int × Int × Int × Int × (List Int) × Int × Int × Int × Int × Int × List (Int × Int × Int)) × (Int × Int × (List (Int × ByteArray)) × (List (Int × ByteArray)) × (List (Int × Int × Int × ByteArray × Int)) × Int × Int) × Int) (b_1 : List Int) : Option (((Bool × Int × ByteArray × (Int × Int × Int × Int × Int × Int × (List Int) × Int × Int × Int × Int × Int × List (Int × Int × Int)) × (Int × Int × (List (Int × ByteArray)) × (List (Int × ByteArray)) × (List (Int × Int × Int × ByteArray × Int)) × Int × Int) × Int) × (List (Int × Int × Int × Int × Int × Int × (List Int) × Int × Int × ByteArray)) × Unit) × Unit) :=
 Option.bind (node_twin n_0) fun (r1 : ((Bool × Int × ByteArray × (Int × Int × Int × Int × Int × Int × (List Int) × Int × Int × Int × Int × Int × List (Int × Int × Int)) × (Int × Int × (List (Int × ByteArray)) × (List (Int × ByteArray)) × (List (Int × Int × Int × ByteArray × Int)) × Int × Int) × Int) × Unit) × Unit) =>
 bif !n_0.1 then
  some ((r1.1.1, [], ()), ())
 else
  Option.bind (msg_Take b_1) fun (r2 : ((Int × Int × Int × Int × Int × Int × (List Int) × Int × Int × ByteArray) × Bool × Unit) × Unit) =>
  bif !r2.1.2.1 then
   some (((r1.1.1.1, r1.1.1.2.1, r1.1.1.2.2.1, r1.1.1.2.2.2.1, r1.1.1.2.2.2.2.1, if 1073741824 < IntKind.wrap .i64 (r1.1.1.2.2.2.2.2 + 1) then 1073741824 else IntKind.wrap .i64 (r1.1.1.2.2.2.2.2 + 1)), [], ()), ())
  else
  bif r2.1.1.2.2.1 != n_0.2.2.2.1.1 then
   some (((r1.1.1.1, r1.1.1.2.1, r1.1.1.2.2.1, r1.1.1.2.2.2.1, r1.1.1.2.2.2.2.1, if 1073741824 < IntKind.wrap .i64 (r1.1.1.2.2.2.2.2 + 1) then 1073741824 else IntKind.wrap .i64 (r1.1.1.2.2.2.2.2 + 1)), [], ()), ())
  else
   Option.bind (tie_Comes n_0.2.2.2.1 r2.1.1 (if 1 > n_0.2.2.2.2.1.1 then 1 else n_0.2.2.2.2.1.1)) fun (r3 : ((Int × Int × Int × Int × Int × Int × (List Int) × Int × Int × Int × Int × Int × List (Int × Int × Int)) × (List (Int × Int × Int × Int × Int × Int × (List Int) × Int × Int × ByteArray)) × Unit) × Unit) =>
   bif r2.1.1.1 == 8 then
    Option.bind (node_serves (r1.1.1.1, r1.1.1.2.1, r1.1.1.2.2.1, r3.1.1, r1.1.1.2.2.2.2) r2.1.1) fun (r4 : ((List (Int × Int × Int × Int × Int × Int × (List Int) × Int × Int × ByteArray)) × Unit) × Unit) =>
    bif Nat.ble (r3.1.2.1.length + r4.1.1.length) 1073741824 then
     Option.bind (node_feeds (r1.1.1.1, r1.1.1.2.1, r1.1.1.2.2.1, r3.1.1, r1.1.1.2.2.2.2) r2.1.1 n_0.2.2.2.1.2.2.2.1) fun (r5 : ((Int × Int × (List (Int × ByteArray)) × (List (Int × ByteArray)) × (List (Int × Int × Int × ByteArray × Int)) × Int × Int) × Unit) × Unit) =>
     Option.bind (node_twin (r1.1.1.1, r1.1.1.2.1, r1.1.1.2.2.1, r3.1.1, r5.1.1, r1.1.1.2.2.2.2.2)) fun (r6 : ((Bool × Int × ByteArray × (Int × Int × Int × Int × Int × Int × (List Int) × Int × Int × Int × Int × Int × List (Int × Int × Int)) × (Int × Int × (List (Int × ByteArray)) × (List (Int × ByteArray)) × (List (Int × Int × Int × ByteArray × Int)) × Int × Int) × Int) × Unit) × Unit) =>
     Option.bind (node_down (r1.1.1.1, r1.1.1.2.1, r1.1.1.2.2.1, r3.1.1, r5.1.1, r1.1.1.2.2.2.2.2) n_0.2.2.2.2.1) fun (r7 : ((List (Int × Int × Int × Int × Int × Int × (List Int) × Int × Int × ByteArray)) × Unit) × Unit) =>
     bif Nat.ble ((r3.1.2.1 ++ r4.1.1).length + r7.1.1.length) 1073741824 then
      some ((r6.1.1, (r3.1.2.1 ++ r4.1.1) ++ r7.1.1, ()), ())
     else none
    else none
   else
    Option.bind (node_feeds (r1.1.1.1, r1.1.1.2.1, r1.1.1.2.2.1, r3.1.1, r1.1.1.2.2.2.2) r2.1.1 n_0.2.2.2.1.2.2.2.1) fun (r8 : ((Int × Int × (List (Int × ByteArray)) × (List (Int × ByteArray)) × (List (Int × Int × Int × ByteArray × Int)) × Int × Int) × Unit) × Unit) =>
    Option.bind (node_twin (r1.1.1.1, r1.1.1.2.1, r1.1.1.2.2.1, r3.1.1, r8.1.1, r1.1.1.2.2.2.2.2)) fun (r9 : ((Bool × Int × ByteArray × (Int × Int × Int × Int × Int × Int × (List Int) × Int × Int × Int × Int × Int × List (Int × Int × Int)) × (Int × Int × (List (Int × ByteArray)) × (List (Int × ByteArray)) × (List (Int × Int × Int × ByteArray × Int)) × Int × Int) × Int) × Unit) × Unit) =>
    Option.bind (node_down (r1.1.1.1, r1.1.1.2.1, r1.1.1.2.2.1, r3.1.1, r8.1.1, r1.1.1.2.2.2.2.2) n_0.2.2.2.2.1) fun (r10 : ((List (Int × Int × Int × Int × Int × Int × (List Int) × Int × Int × ByteArray)) × Unit) × Unit) =>
    bif Nat.ble (r3.1.2.1.length + r10.1.1.length) 1073741824 then
     some ((r9.1.1, r3.1.2.1 ++ r10.1.1, ()), ())
    else none
theorem node_Comes_eq (n_0 : Bool × Int × ByteArray × (Int × Int × Int × Int × Int × Int × (List Int) × Int × Int × Int × Int × Int × List (Int × Int × Int)) × (Int × Int × (List (Int × ByteArray)) × (List (Int × ByteArray)) × (List (Int × Int × Int × ByteArray × Int)) × Int × Int) × Int) (b_1 : List Int) : evFn node_Comes_Γ tab node_Comes_fi 1 [.val t33, .val t43] [⟨t33, [false, false, false, false, false, false, false, false, false, false, false, false, false, false, false, false, false, false, false, false, false, false, false, false], none⟩, ⟨t37, [true], none⟩] Tryz.f9 (n_0, b_1, ()) = node_Comes n_0 b_1 := by kernel_rfl
noncomputable def node_Comes_e : Ent := ⟨[.val t33, .val t43], [⟨t33, [false, false, false, false, false, false, false, false, false, false, false, false, false, false, false, false, false, false, false, false, false, false, false, false], none⟩, ⟨t37, [true], none⟩], fun x => node_Comes x.1 x.2.1⟩
theorem node_Comes_good : Good tab.ty Tryz.prog 9 node_Comes_e := by
  refine fn_good (Γ := node_Comes_Γ) (fi := node_Comes_fi) (n := 1) follows (gcons node_twin_good (gcons node_down_good (gcons msg_Take_good (gcons tie_Comes_good (gcons node_serves_good (gcons node_feeds_good gnil)))))) tabok Tryz.func9 (by kernel_rfl) (by kernel_rfl) (fun x r h => ?_)
  obtain ⟨n_0, b_1, _u⟩ := x
  exact (node_Comes_eq n_0 b_1).trans h
noncomputable def node_Crash_Γ : Ctx := [(28, node_twin_e)]
def node_Crash_fi : Fi := { keep := [], vty := [], vals := [], live := [(0, [1, 2]), (1, [1, 2, 5]), (2, [2]), (3, [2])] }
noncomputable def node_Crash (n_0 : Bool × Int × ByteArray × (Int × Int × Int × Int × Int × Int × (List Int) × Int × Int × Int × Int × Int × List (Int × Int × Int)) × (Int × Int × (List (Int × ByteArray)) × (List (Int × ByteArray)) × (List (Int × Int × Int × ByteArray × Int)) × Int × Int) × Int) : Option (((Bool × Int × ByteArray × (Int × Int × Int × Int × Int × Int × (List Int) × Int × Int × Int × Int × Int × List (Int × Int × Int)) × (Int × Int × (List (Int × ByteArray)) × (List (Int × ByteArray)) × (List (Int × Int × Int × ByteArray × Int)) × Int × Int) × Int) × Unit) × Unit) :=
 bif !n_0.1 then
  Option.bind (node_twin n_0) fun (r1 : ((Bool × Int × ByteArray × (Int × Int × Int × Int × Int × Int × (List Int) × Int × Int × Int × Int × Int × List (Int × Int × Int)) × (Int × Int × (List (Int × ByteArray)) × (List (Int × ByteArray)) × (List (Int × Int × Int × ByteArray × Int)) × Int × Int) × Int) × Unit) × Unit) =>
  some ((r1.1.1, ()), ())
 else
  some (((false, n_0.2.1, (⟨#[]⟩ : ByteArray), (0, 0, 0, 0, 0, 0, [], 0, 0, 0, 0, 0, []), (0, 0, [], [], [], 0, 0), n_0.2.2.2.2.2), ()), ())
theorem node_Crash_eq (n_0 : Bool × Int × ByteArray × (Int × Int × Int × Int × Int × Int × (List Int) × Int × Int × Int × Int × Int × List (Int × Int × Int)) × (Int × Int × (List (Int × ByteArray)) × (List (Int × ByteArray)) × (List (Int × Int × Int × ByteArray × Int)) × Int × Int) × Int) : evFn node_Crash_Γ tab node_Crash_fi 1 [.val t33] [⟨t33, [false, false, false, false, false, false, false, false, false, false, false, false, false, false, false, false, false, false, false, false, false, false, false, false], none⟩] Tryz.f26 (n_0, ()) = node_Crash n_0 := by kernel_rfl
noncomputable def node_Crash_e : Ent := ⟨[.val t33], [⟨t33, [false, false, false, false, false, false, false, false, false, false, false, false, false, false, false, false, false, false, false, false, false, false, false, false], none⟩], fun x => node_Crash x.1⟩
theorem node_Crash_good : Good tab.ty Tryz.prog 26 node_Crash_e := by
  refine fn_good (Γ := node_Crash_Γ) (fi := node_Crash_fi) (n := 1) follows (gcons node_twin_good gnil) tabok Tryz.func26 (by kernel_rfl) (by kernel_rfl) (fun x r h => ?_)
  obtain ⟨n_0, _u⟩ := x
  exact (node_Crash_eq n_0).trans h
noncomputable def pleachlaw20_begun_Γ : Ctx := [(7, node_Join_e), (9, node_Comes_e), (25, node_Say_e), (26, node_Crash_e)]
def pleachlaw20_begun_fi : Fi := { keep := [], vty := [(6, 37), (9, 37), (54, 37), (71, 37)], vals := [], live := [(0, [38, 39, 42, 43, 44, 47, 48, 51, 54, 55, 56, 59, 60, 61, 62, 63, 66, 67, 68, 71, 72, 73, 76, 77, 78, 81, 82, 83]), (1, [1, 2, 38, 39, 42, 43, 44, 47, 48, 51, 54, 55, 56, 59, 60, 61, 62, 63, 66, 67, 68, 71, 72, 73, 76, 77, 78, 81, 82, 83]), (2, [1, 2, 4, 38, 39, 42, 43, 44, 47, 48, 51, 54, 55, 56, 59, 60, 61, 62, 63, 66, 67, 68, 71, 72, 73, 76, 77, 78, 81, 82, 83]), (3, [1, 2, 4, 5, 6, 7, 38, 39, 42, 43, 44, 47, 48, 51, 54, 55, 56, 59, 60, 61, 62, 63, 66, 67, 68, 71, 72, 73, 76, 77, 78, 81, 82, 83]), (4, [1, 2, 4, 5, 6, 7, 8, 9, 38, 39, 42, 43, 44, 47, 48, 51, 54, 55, 56, 59, 60, 61, 62, 63, 66, 67, 68, 71, 72, 73, 76, 77, 78, 81, 82, 83]), (5, [1, 2, 4, 5, 6, 7, 8, 9, 10, 38, 39, 42, 43, 44, 47, 48, 51, 54, 55, 56, 59, 60, 61, 62, 63, 66, 67, 68, 71, 72, 73, 76, 77, 78, 81, 82, 83]), (6, [0])] }
noncomputable def pleachlaw20_begun_x (x : PDs []) : Option (RDs [⟨t4, [false], none⟩] × ODs []) := evFn pleachlaw20_begun_Γ tab pleachlaw20_begun_fi 1099511627776 [] [⟨t4, [false], none⟩] Tryz.f6 x
noncomputable def pleachlaw20_begun  : Option ((Bool × Unit) × Unit) := pleachlaw20_begun_x (())
noncomputable def pleachlaw20_begun_e : Ent := ⟨[], [⟨t4, [false], none⟩], fun x => pleachlaw20_begun⟩
theorem pleachlaw20_begun_good : Good tab.ty Tryz.prog 6 pleachlaw20_begun_e := by
  refine fn_good (Γ := pleachlaw20_begun_Γ) (fi := pleachlaw20_begun_fi) (n := 1099511627776) follows (gcons node_Join_good (gcons node_Comes_good (gcons node_Say_good (gcons node_Crash_good gnil)))) tabok Tryz.func6 (by kernel_rfl) (by kernel_rfl) (fun x r h => ?_)
  exact h
noncomputable def kids_Prune_fn1_Γ : Ctx := []
def kids_Prune_fn1_fi : Fi := { keep := [], vty := [], vals := [], live := [(0, [1, 2]), (1, [3])] }
noncomputable def kids_Prune_fn1 (k_0 : Int × Int × Int) (x_1 : Int) : Option ((Bool × Unit) × Unit) :=
 some ((decide (IntKind.wrap .i64 (x_1 - k_0.2.2) > 20), ()), ())
theorem kids_Prune_fn1_eq (k_0 : Int × Int × Int) (x_1 : Int) : evFn kids_Prune_fn1_Γ tab kids_Prune_fn1_fi 1 [.val t126, .rbox t2] [⟨t4, [false], none⟩] Tryz.f162 (k_0, x_1, ()) = kids_Prune_fn1 k_0 x_1 := by kernel_rfl
noncomputable def kids_Prune_fn1_e : Ent := ⟨[.val t126, .rbox t2], [⟨t4, [false], none⟩], fun x => kids_Prune_fn1 x.1 x.2.1⟩
theorem kids_Prune_fn1_good : Good tab.ty Tryz.prog 162 kids_Prune_fn1_e := by
  refine fn_good (Γ := kids_Prune_fn1_Γ) (fi := kids_Prune_fn1_fi) (n := 1) follows gnil tabok Tryz.func162 (by kernel_rfl) (by kernel_rfl) (fun x r h => ?_)
  obtain ⟨k_0, x_1, _u⟩ := x
  exact (kids_Prune_fn1_eq k_0 x_1).trans h
noncomputable def kids_Prune_Γ : Ctx := [(68, slices_Clone_Kid_e), (161, slices_DeleteFunc_Kid_e), (162, kids_Prune_fn1_e)]
def kids_Prune_fi : Fi := { keep := [], vty := [], vals := [], live := [(0, [0, 3]), (1, [4])] }
noncomputable def kids_Prune (l_0 : List (Int × Int × Int)) (now_1 : Int) : Option (((List (Int × Int × Int)) × Unit) × Unit) :=
 Option.bind (slices_Clone_Kid l_0) fun (r1 : ((List (Int × Int × Int)) × Unit) × Unit) =>
 Option.bind (slices_DeleteFunc_Kid r1.1.1 (fun x => (kids_Prune_fn1 x.1 now_1).bind fun r => some (r.1.1, ()))) fun (r2 : ((List (Int × Int × Int)) × Unit) × Unit) =>
 some ((r2.1.1, ()), ())
theorem kids_Prune_eq (l_0 : List (Int × Int × Int)) (now_1 : Int) : evFn kids_Prune_Γ tab kids_Prune_fi 1 [.val t24, .val t2] [⟨t24, [true], none⟩] Tryz.f72 (l_0, now_1, ()) = kids_Prune l_0 now_1 := by kernel_rfl
noncomputable def kids_Prune_e : Ent := ⟨[.val t24, .val t2], [⟨t24, [true], none⟩], fun x => kids_Prune x.1 x.2.1⟩
theorem kids_Prune_good : Good tab.ty Tryz.prog 72 kids_Prune_e := by
  refine fn_good (Γ := kids_Prune_Γ) (fi := kids_Prune_fi) (n := 1) follows (gcons slices_Clone_Kid_good (gcons slices_DeleteFunc_Kid_good (gcons kids_Prune_fn1_good gnil))) tabok Tryz.func72 (by kernel_rfl) (by kernel_rfl) (fun x r h => ?_)
  obtain ⟨l_0, now_1, _u⟩ := x
  exact (kids_Prune_eq l_0 now_1).trans h
noncomputable def tie_node_asks_Γ : Ctx := [(163, tie_node_tells_e)]
def tie_node_asks_fi : Fi := { keep := [], vty := [], vals := [], live := [(0, [0, 15, 23, 24, 25, 26, 27, 28, 29, 30, 31, 32, 33, 65, 66, 67, 68, 69, 70, 73, 74, 75, 76, 77, 78, 79, 80, 81, 82, 83]), (1, [0, 34, 65, 66, 67, 68, 69, 70, 73, 74, 75, 76, 77, 78, 79, 80, 81, 82, 83]), (2, [0, 65, 66, 67, 68, 69, 70, 73, 74, 75, 76, 77, 78, 79, 80, 81, 82, 83]), (3, [0, 65, 66, 67, 68, 69, 70, 73, 74, 75, 76, 77, 78, 79, 80, 81, 82, 83]), (4, [0, 53, 65, 66, 67, 68, 69, 70, 73, 74, 75, 76, 77, 78, 79, 80, 81, 82, 83]), (5, [0, 65, 66, 67, 68, 69, 70, 73, 74, 75, 76, 77, 78, 79, 80, 81, 82, 83]), (6, [0, 84]), (7, [0]), (8, [0]), (9, [0])] }
noncomputable def tie_node_asks (n_0 : (Int × Int × Int × Int × Int × Int × (List Int) × Int × Int × Int × Int × Int × List (Int × Int × Int)) × List (Int × Int × Int × Int × Int × Int × (List Int) × Int × Int × ByteArray)) : Option (Unit × (((Int × Int × Int × Int × Int × Int × (List Int) × Int × Int × Int × Int × Int × List (Int × Int × Int)) × List (Int × Int × Int × Int × Int × Int × (List Int) × Int × Int × ByteArray)) × Unit)) :=
 bif n_0.1.1 == 1 then
  some ((), (n_0, ()))
 else
 bif n_0.1.2.2.2.1 != 0 then
  some ((), (n_0, ()))
 else
 bif n_0.1.2.2.2.2.2.2.2.2.2.1 != 0 then
  bif decide (n_0.1.2.2.1 ≥ n_0.1.2.2.2.2.2.2.2.2.2.2.1) then
   bif (IntKind.wrap .i64 (n_0.1.2.2.2.2.2.2.2.2.2.2.2.1 + 1)) == 0 then
    bif n_0.1.2.2.2.2.2.1 != 0 then
     bif n_0.1.2.2.2.2.2.1 != n_0.1.1 then
      Option.bind (tie_node_tells ((n_0.1.1, n_0.1.2.1, n_0.1.2.2.1, n_0.1.2.2.2.1, n_0.1.2.2.2.2.1, n_0.1.2.2.2.2.2.1, n_0.1.2.2.2.2.2.2.1, n_0.1.2.2.2.2.2.2.2.1, n_0.1.2.2.2.2.2.2.2.2.1, n_0.1.2.2.2.2.2.1, IntKind.wrap .i64 (n_0.1.2.2.1 + 3), IntKind.wrap .i64 (n_0.1.2.2.2.2.2.2.2.2.2.2.2.1 + 1), n_0.1.2.2.2.2.2.2.2.2.2.2.2.2), n_0.2) 1 n_0.1.2.2.2.2.2.1 0) fun (r1 : Unit × (((Int × Int × Int × Int × Int × Int × (List Int) × Int × Int × Int × Int × Int × List (Int × Int × Int)) × List (Int × Int × Int × Int × Int × Int × (List Int) × Int × Int × ByteArray)) × Unit)) =>
      some ((), (r1.2.1, ()))
     else
      Option.bind (tie_node_tells ((n_0.1.1, n_0.1.2.1, n_0.1.2.2.1, n_0.1.2.2.2.1, n_0.1.2.2.2.2.1, n_0.1.2.2.2.2.2.1, n_0.1.2.2.2.2.2.2.1, n_0.1.2.2.2.2.2.2.2.1, n_0.1.2.2.2.2.2.2.2.2.1, 1, IntKind.wrap .i64 (n_0.1.2.2.1 + 3), IntKind.wrap .i64 (n_0.1.2.2.2.2.2.2.2.2.2.2.2.1 + 1), n_0.1.2.2.2.2.2.2.2.2.2.2.2.2), n_0.2) 1 1 0) fun (r2 : Unit × (((Int × Int × Int × Int × Int × Int × (List Int) × Int × Int × Int × Int × Int × List (Int × Int × Int)) × List (Int × Int × Int × Int × Int × Int × (List Int) × Int × Int × ByteArray)) × Unit)) =>
      some ((), (r2.2.1, ()))
    else
     Option.bind (tie_node_tells ((n_0.1.1, n_0.1.2.1, n_0.1.2.2.1, n_0.1.2.2.2.1, n_0.1.2.2.2.2.1, n_0.1.2.2.2.2.2.1, n_0.1.2.2.2.2.2.2.1, n_0.1.2.2.2.2.2.2.2.1, n_0.1.2.2.2.2.2.2.2.2.1, 1, IntKind.wrap .i64 (n_0.1.2.2.1 + 3), IntKind.wrap .i64 (n_0.1.2.2.2.2.2.2.2.2.2.2.2.1 + 1), n_0.1.2.2.2.2.2.2.2.2.2.2.2.2), n_0.2) 1 1 0) fun (r3 : Unit × (((Int × Int × Int × Int × Int × Int × (List Int) × Int × Int × Int × Int × Int × List (Int × Int × Int)) × List (Int × Int × Int × Int × Int × Int × (List Int) × Int × Int × ByteArray)) × Unit)) =>
     some ((), (r3.2.1, ()))
   else
    Option.bind (tie_node_tells ((n_0.1.1, n_0.1.2.1, n_0.1.2.2.1, n_0.1.2.2.2.1, n_0.1.2.2.2.2.1, n_0.1.2.2.2.2.2.1, n_0.1.2.2.2.2.2.2.1, n_0.1.2.2.2.2.2.2.2.1, n_0.1.2.2.2.2.2.2.2.2.1, 1, IntKind.wrap .i64 (n_0.1.2.2.1 + 3), IntKind.wrap .i64 (n_0.1.2.2.2.2.2.2.2.2.2.2.2.1 + 1), n_0.1.2.2.2.2.2.2.2.2.2.2.2.2), n_0.2) 1 1 0) fun (r4 : Unit × (((Int × Int × Int × Int × Int × Int × (List Int) × Int × Int × Int × Int × Int × List (Int × Int × Int)) × List (Int × Int × Int × Int × Int × Int × (List Int) × Int × Int × ByteArray)) × Unit)) =>
    some ((), (r4.2.1, ()))
  else
  bif n_0.1.2.2.2.2.2.2.2.2.2.1 != 0 then
   some ((), (n_0, ()))
  else
  bif n_0.1.2.2.2.2.2.2.2.2.2.2.2.1 == 0 then
   bif n_0.1.2.2.2.2.2.1 != 0 then
    bif n_0.1.2.2.2.2.2.1 != n_0.1.1 then
     Option.bind (tie_node_tells ((n_0.1.1, n_0.1.2.1, n_0.1.2.2.1, n_0.1.2.2.2.1, n_0.1.2.2.2.2.1, n_0.1.2.2.2.2.2.1, n_0.1.2.2.2.2.2.2.1, n_0.1.2.2.2.2.2.2.2.1, n_0.1.2.2.2.2.2.2.2.2.1, n_0.1.2.2.2.2.2.1, IntKind.wrap .i64 (n_0.1.2.2.1 + 3), n_0.1.2.2.2.2.2.2.2.2.2.2.2), n_0.2) 1 n_0.1.2.2.2.2.2.1 0) fun (r5 : Unit × (((Int × Int × Int × Int × Int × Int × (List Int) × Int × Int × Int × Int × Int × List (Int × Int × Int)) × List (Int × Int × Int × Int × Int × Int × (List Int) × Int × Int × ByteArray)) × Unit)) =>
     some ((), (r5.2.1, ()))
    else
     Option.bind (tie_node_tells ((n_0.1.1, n_0.1.2.1, n_0.1.2.2.1, n_0.1.2.2.2.1, n_0.1.2.2.2.2.1, n_0.1.2.2.2.2.2.1, n_0.1.2.2.2.2.2.2.1, n_0.1.2.2.2.2.2.2.2.1, n_0.1.2.2.2.2.2.2.2.2.1, 1, IntKind.wrap .i64 (n_0.1.2.2.1 + 3), n_0.1.2.2.2.2.2.2.2.2.2.2.2), n_0.2) 1 1 0) fun (r6 : Unit × (((Int × Int × Int × Int × Int × Int × (List Int) × Int × Int × Int × Int × Int × List (Int × Int × Int)) × List (Int × Int × Int × Int × Int × Int × (List Int) × Int × Int × ByteArray)) × Unit)) =>
     some ((), (r6.2.1, ()))
   else
    Option.bind (tie_node_tells ((n_0.1.1, n_0.1.2.1, n_0.1.2.2.1, n_0.1.2.2.2.1, n_0.1.2.2.2.2.1, n_0.1.2.2.2.2.2.1, n_0.1.2.2.2.2.2.2.1, n_0.1.2.2.2.2.2.2.2.1, n_0.1.2.2.2.2.2.2.2.2.1, 1, IntKind.wrap .i64 (n_0.1.2.2.1 + 3), n_0.1.2.2.2.2.2.2.2.2.2.2.2), n_0.2) 1 1 0) fun (r7 : Unit × (((Int × Int × Int × Int × Int × Int × (List Int) × Int × Int × Int × Int × Int × List (Int × Int × Int)) × List (Int × Int × Int × Int × Int × Int × (List Int) × Int × Int × ByteArray)) × Unit)) =>
    some ((), (r7.2.1, ()))
  else
   Option.bind (tie_node_tells ((n_0.1.1, n_0.1.2.1, n_0.1.2.2.1, n_0.1.2.2.2.1, n_0.1.2.2.2.2.1, n_0.1.2.2.2.2.2.1, n_0.1.2.2.2.2.2.2.1, n_0.1.2.2.2.2.2.2.2.1, n_0.1.2.2.2.2.2.2.2.2.1, 1, IntKind.wrap .i64 (n_0.1.2.2.1 + 3), n_0.1.2.2.2.2.2.2.2.2.2.2.2), n_0.2) 1 1 0) fun (r8 : Unit × (((Int × Int × Int × Int × Int × Int × (List Int) × Int × Int × Int × Int × Int × List (Int × Int × Int)) × List (Int × Int × Int × Int × Int × Int × (List Int) × Int × Int × ByteArray)) × Unit)) =>
   some ((), (r8.2.1, ()))
 else
 bif n_0.1.2.2.2.2.2.2.2.2.2.1 != 0 then
  some ((), (n_0, ()))
 else
 bif n_0.1.2.2.2.2.2.2.2.2.2.2.2.1 == 0 then
  bif n_0.1.2.2.2.2.2.1 != 0 then
   bif n_0.1.2.2.2.2.2.1 != n_0.1.1 then
    Option.bind (tie_node_tells ((n_0.1.1, n_0.1.2.1, n_0.1.2.2.1, n_0.1.2.2.2.1, n_0.1.2.2.2.2.1, n_0.1.2.2.2.2.2.1, n_0.1.2.2.2.2.2.2.1, n_0.1.2.2.2.2.2.2.2.1, n_0.1.2.2.2.2.2.2.2.2.1, n_0.1.2.2.2.2.2.1, IntKind.wrap .i64 (n_0.1.2.2.1 + 3), n_0.1.2.2.2.2.2.2.2.2.2.2.2), n_0.2) 1 n_0.1.2.2.2.2.2.1 0) fun (r9 : Unit × (((Int × Int × Int × Int × Int × Int × (List Int) × Int × Int × Int × Int × Int × List (Int × Int × Int)) × List (Int × Int × Int × Int × Int × Int × (List Int) × Int × Int × ByteArray)) × Unit)) =>
    some ((), (r9.2.1, ()))
   else
    Option.bind (tie_node_tells ((n_0.1.1, n_0.1.2.1, n_0.1.2.2.1, n_0.1.2.2.2.1, n_0.1.2.2.2.2.1, n_0.1.2.2.2.2.2.1, n_0.1.2.2.2.2.2.2.1, n_0.1.2.2.2.2.2.2.2.1, n_0.1.2.2.2.2.2.2.2.2.1, 1, IntKind.wrap .i64 (n_0.1.2.2.1 + 3), n_0.1.2.2.2.2.2.2.2.2.2.2.2), n_0.2) 1 1 0) fun (r10 : Unit × (((Int × Int × Int × Int × Int × Int × (List Int) × Int × Int × Int × Int × Int × List (Int × Int × Int)) × List (Int × Int × Int × Int × Int × Int × (List Int) × Int × Int × ByteArray)) × Unit)) =>
    some ((), (r10.2.1, ()))
  else
   Option.bind (tie_node_tells ((n_0.1.1, n_0.1.2.1, n_0.1.2.2.1, n_0.1.2.2.2.1, n_0.1.2.2.2.2.1, n_0.1.2.2.2.2.2.1, n_0.1.2.2.2.2.2.2.1, n_0.1.2.2.2.2.2.2.2.1, n_0.1.2.2.2.2.2.2.2.2.1, 1, IntKind.wrap .i64 (n_0.1.2.2.1 + 3), n_0.1.2.2.2.2.2.2.2.2.2.2.2), n_0.2) 1 1 0) fun (r11 : Unit × (((Int × Int × Int × Int × Int × Int × (List Int) × Int × Int × Int × Int × Int × List (Int × Int × Int)) × List (Int × Int × Int × Int × Int × Int × (List Int) × Int × Int × ByteArray)) × Unit)) =>
   some ((), (r11.2.1, ()))
 else
  Option.bind (tie_node_tells ((n_0.1.1, n_0.1.2.1, n_0.1.2.2.1, n_0.1.2.2.2.1, n_0.1.2.2.2.2.1, n_0.1.2.2.2.2.2.1, n_0.1.2.2.2.2.2.2.1, n_0.1.2.2.2.2.2.2.2.1, n_0.1.2.2.2.2.2.2.2.2.1, 1, IntKind.wrap .i64 (n_0.1.2.2.1 + 3), n_0.1.2.2.2.2.2.2.2.2.2.2.2), n_0.2) 1 1 0) fun (r12 : Unit × (((Int × Int × Int × Int × Int × Int × (List Int) × Int × Int × Int × Int × Int × List (Int × Int × Int)) × List (Int × Int × Int × Int × Int × Int × (List Int) × Int × Int × ByteArray)) × Unit)) =>
  some ((), (r12.2.1, ()))
theorem tie_node_asks_eq (n_0 : (Int × Int × Int × Int × Int × Int × (List Int) × Int × Int × Int × Int × Int × List (Int × Int × Int)) × List (Int × Int × Int × Int × Int × Int × (List Int) × Int × Int × ByteArray)) : evFn tie_node_asks_Γ tab tie_node_asks_fi 1 [.box 143 t142 [false, false, false, false, false, false, false, false, false, false, false, false, false, true]] [] Tryz.f75 (n_0, ()) = tie_node_asks n_0 := by kernel_rfl
noncomputable def tie_node_asks_e : Ent := ⟨[.box 143 t142 [false, false, false, false, false, false, false, false, false, false, false, false, false, true]], [], fun x => tie_node_asks x.1⟩
theorem tie_node_asks_good : Good tab.ty Tryz.prog 75 tie_node_asks_e := by
  refine fn_good (Γ := tie_node_asks_Γ) (fi := tie_node_asks_fi) (n := 1) follows (gcons tie_node_tells_good gnil) tabok Tryz.func75 (by kernel_rfl) (by kernel_rfl) (fun x r h => ?_)
  obtain ⟨n_0, _u⟩ := x
  exact (tie_node_asks_eq n_0).trans h
noncomputable def tie_node_beats_Γ : Ctx := [(73, tie_Fresh_e), (163, tie_node_tells_e)]
def tie_node_beats_fi : Fi := { keep := [], vty := [], vals := [], live := [(0, [0, 10]), (1, [0, 16]), (2, [0]), (3, [0, 28, 29, 30]), (4, [0, 28, 29, 30, 31]), (5, [0, 3, 28, 29, 30]), (6, [0, 3, 28, 29, 30, 38]), (7, [0, 28, 29, 30]), (8, [0, 28, 29, 30])] }
noncomputable def tie_node_beats_B1 (L1 : (List (Int × Int × Int)) → Int → Int → Int → Int → Int → Int → Int → Int → List Int → Int → Int → Int → Int → Int → (List (Int × Int × Int)) → (List (Int × Int × Int × Int × Int × Int × (List Int) × Int × Int × ByteArray)) → Option (Unit × (((Int × Int × Int × Int × Int × Int × (List Int) × Int × Int × Int × Int × Int × List (Int × Int × Int)) × List (Int × Int × Int × Int × Int × Int × (List Int) × Int × Int × ByteArray)) × Unit))) (v2 : List (Int × Int × Int)) (v3 : Int) (v4 : Int) (v5 : Int) (v6 : Int) (v7 : Int) (v8 : Int) (v9 : Int) (v10 : Int) (v11 : List Int) (v12 : Int) (v13 : Int) (v14 : Int) (v15 : Int) (v16 : Int) (v17 : List (Int × Int × Int)) (v18 : List (Int × Int × Int × Int × Int × Int × (List Int) × Int × Int × ByteArray)) : Option (Unit × (((Int × Int × Int × Int × Int × Int × (List Int) × Int × Int × Int × Int × Int × List (Int × Int × Int)) × List (Int × Int × Int × Int × Int × Int × (List Int) × Int × Int × ByteArray)) × Unit)) :=
 bif decide (v4 < v3) then
  bif decide (0 ≤ v4) && decide (v4 < (v2.length : Int)) then
   Option.bind (tie_Fresh (v5, v6, v7, v8, v9, v10, v11, v12, v13, v14, v15, v16, v17)) fun (r19 : (Bool × Unit) × Unit) =>
   bif r19.1.1 then
    Option.bind (tie_node_tells ((v5, v6, v7, v8, v9, v10, v11, v12, v13, v14, v15, v16, v17), v18) 5 ((List.getD v2 v4.toNat (0, 0, 0)).1) 0) fun (r20 : Unit × (((Int × Int × Int × Int × Int × Int × (List Int) × Int × Int × Int × Int × Int × List (Int × Int × Int)) × List (Int × Int × Int × Int × Int × Int × (List Int) × Int × Int × ByteArray)) × Unit)) =>
    L1 v2 v3 (IntKind.wrap .i64 (v4 + 1)) r20.2.1.1.1 r20.2.1.1.2.1 r20.2.1.1.2.2.1 r20.2.1.1.2.2.2.1 r20.2.1.1.2.2.2.2.1 r20.2.1.1.2.2.2.2.2.1 r20.2.1.1.2.2.2.2.2.2.1 r20.2.1.1.2.2.2.2.2.2.2.1 r20.2.1.1.2.2.2.2.2.2.2.2.1 r20.2.1.1.2.2.2.2.2.2.2.2.2.1 r20.2.1.1.2.2.2.2.2.2.2.2.2.2.1 r20.2.1.1.2.2.2.2.2.2.2.2.2.2.2.1 r20.2.1.1.2.2.2.2.2.2.2.2.2.2.2.2 r20.2.1.2
   else
    L1 v2 v3 (IntKind.wrap .i64 (v4 + 1)) v5 v6 v7 v8 v9 v10 v11 v12 v13 v14 v15 v16 v17 v18
  else none
 else
  some ((), (((v5, v6, v7, v8, v9, v10, v11, v12, v13, v14, v15, v16, v17), v18), ()))
noncomputable def tie_node_beats_T (L1 : (List (Int × Int × Int)) → Int → Int → Int → Int → Int → Int → Int → Int → List Int → Int → Int → Int → Int → Int → (List (Int × Int × Int)) → (List (Int × Int × Int × Int × Int × Int × (List Int) × Int × Int × ByteArray)) → Option (Unit × (((Int × Int × Int × Int × Int × Int × (List Int) × Int × Int × Int × Int × Int × List (Int × Int × Int)) × List (Int × Int × Int × Int × Int × Int × (List Int) × Int × Int × ByteArray)) × Unit))) (n_0 : (Int × Int × Int × Int × Int × Int × (List Int) × Int × Int × Int × Int × Int × List (Int × Int × Int)) × List (Int × Int × Int × Int × Int × Int × (List Int) × Int × Int × ByteArray)) : Option (Unit × (((Int × Int × Int × Int × Int × Int × (List Int) × Int × Int × Int × Int × Int × List (Int × Int × Int)) × List (Int × Int × Int × Int × Int × Int × (List Int) × Int × Int × ByteArray)) × Unit)) :=
 bif (Int.tmod n_0.1.2.2.1 2) != 0 then
  some ((), (n_0, ()))
 else
 bif n_0.1.2.2.2.1 != 0 then
  Option.bind (tie_node_tells n_0 4 n_0.1.2.2.2.1 0) fun (r1 : Unit × (((Int × Int × Int × Int × Int × Int × (List Int) × Int × Int × Int × Int × Int × List (Int × Int × Int)) × List (Int × Int × Int × Int × Int × Int × (List Int) × Int × Int × ByteArray)) × Unit)) =>
  L1 r1.2.1.1.2.2.2.2.2.2.2.2.2.2.2.2 (r1.2.1.1.2.2.2.2.2.2.2.2.2.2.2.2.length : Int) 0 r1.2.1.1.1 r1.2.1.1.2.1 r1.2.1.1.2.2.1 r1.2.1.1.2.2.2.1 r1.2.1.1.2.2.2.2.1 r1.2.1.1.2.2.2.2.2.1 r1.2.1.1.2.2.2.2.2.2.1 r1.2.1.1.2.2.2.2.2.2.2.1 r1.2.1.1.2.2.2.2.2.2.2.2.1 r1.2.1.1.2.2.2.2.2.2.2.2.2.1 r1.2.1.1.2.2.2.2.2.2.2.2.2.2.1 r1.2.1.1.2.2.2.2.2.2.2.2.2.2.2.1 r1.2.1.1.2.2.2.2.2.2.2.2.2.2.2.2 r1.2.1.2
 else
  L1 n_0.1.2.2.2.2.2.2.2.2.2.2.2.2 (n_0.1.2.2.2.2.2.2.2.2.2.2.2.2.length : Int) 0 n_0.1.1 n_0.1.2.1 n_0.1.2.2.1 n_0.1.2.2.2.1 n_0.1.2.2.2.2.1 n_0.1.2.2.2.2.2.1 n_0.1.2.2.2.2.2.2.1 n_0.1.2.2.2.2.2.2.2.1 n_0.1.2.2.2.2.2.2.2.2.1 n_0.1.2.2.2.2.2.2.2.2.2.1 n_0.1.2.2.2.2.2.2.2.2.2.2.1 n_0.1.2.2.2.2.2.2.2.2.2.2.2.1 n_0.1.2.2.2.2.2.2.2.2.2.2.2.2 n_0.2
noncomputable def tie_node_beats_L1 (n : Nat) : Nat → (List (Int × Int × Int)) → Int → Int → Int → Int → Int → Int → Int → Int → List Int → Int → Int → Int → Int → Int → (List (Int × Int × Int)) → (List (Int × Int × Int × Int × Int × Int × (List Int) × Int × Int × ByteArray)) → Option (Unit × (((Int × Int × Int × Int × Int × Int × (List Int) × Int × Int × Int × Int × Int × List (Int × Int × Int)) × List (Int × Int × Int × Int × Int × Int × (List Int) × Int × Int × ByteArray)) × Unit)) := iter (fun _ _ _ _ _ _ _ _ _ _ _ _ _ _ _ _ _ => none) fun L => tie_node_beats_B1 L
noncomputable def tie_node_beats_X1 (n m : Nat) (v2 : List (Int × Int × Int)) (v3 : Int) (v4 : Int) (v5 : Int) (v6 : Int) (v7 : Int) (v8 : Int) (v9 : Int) (v10 : Int) (v11 : List Int) (v12 : Int) (v13 : Int) (v14 : Int) (v15 : Int) (v16 : Int) (v17 : List (Int × Int × Int)) (v18 : List (Int × Int × Int × Int × Int × Int × (List Int) × Int × Int × ByteArray)) : Option (Unit × (((Int × Int × Int × Int × Int × Int × (List Int) × Int × Int × Int × Int × Int × List (Int × Int × Int)) × List (Int × Int × Int × Int × Int × Int × (List Int) × Int × Int × ByteArray)) × Unit)) :=
 atLoop tie_node_beats_Γ tab (fiB [.box 143 t142 [false, false, false, false, false, false, false, false, false, false, false, false, false, true]] tie_node_beats_fi) n [.box 143 t142 [false, false, false, false, false, false, false, false, false, false, false, false, false, true]] [] Tryz.f76 [1, 1, 1, 0] [] [0, 28, 29, 30] m
 ⟨[(0, SV.cv (CV.one (LV.ptr (0, 0) 0))), (28, SV.cv (CV.one (LV.pure t24 v2))), (29, SV.cv (CV.one (LV.pure t2 v3))), (30, SV.cv (CV.one (LV.pure t2 v4)))],
  [((0, 0), Ob.box 143 [LV.pure t2 v5, LV.pure t2 v6, LV.pure t2 v7, LV.pure t2 v8, LV.pure t2 v9, LV.pure t2 v10, LV.pure t23 v11, LV.pure t2 v12, LV.pure t2 v13, LV.pure t2 v14, LV.pure t2 v15, LV.pure t2 v16, LV.pure t24 v17, LV.ref (0, 14)]), ((0, 14), Ob.row 41 t40 v18)]⟩
theorem tie_node_beats_step1 (n m : Nat) (v2 : List (Int × Int × Int)) (v3 : Int) (v4 : Int) (v5 : Int) (v6 : Int) (v7 : Int) (v8 : Int) (v9 : Int) (v10 : Int) (v11 : List Int) (v12 : Int) (v13 : Int) (v14 : Int) (v15 : Int) (v16 : Int) (v17 : List (Int × Int × Int)) (v18 : List (Int × Int × Int × Int × Int × Int × (List Int) × Int × Int × ByteArray)) : tie_node_beats_X1 n (m + 1) v2 v3 v4 v5 v6 v7 v8 v9 v10 v11 v12 v13 v14 v15 v16 v17 v18 = tie_node_beats_B1 (tie_node_beats_X1 n m) v2 v3 v4 v5 v6 v7 v8 v9 v10 v11 v12 v13 v14 v15 v16 v17 v18 := by kernel_rfl
theorem tie_node_beats_start (n : Nat) (n_0 : (Int × Int × Int × Int × Int × Int × (List Int) × Int × Int × Int × Int × Int × List (Int × Int × Int)) × List (Int × Int × Int × Int × Int × Int × (List Int) × Int × Int × ByteArray)) : evFn tie_node_beats_Γ tab tie_node_beats_fi n [.box 143 t142 [false, false, false, false, false, false, false, false, false, false, false, false, false, true]] [] Tryz.f76 (n_0, ()) = tie_node_beats_T (tie_node_beats_X1 n n) n_0 := by kernel_rfl
theorem tie_node_beats_XL1 (n : Nat) : ∀ m, tie_node_beats_X1 n m = tie_node_beats_L1 n m
 | 0 => rfl
 | m + 1 => by
  have ih := tie_node_beats_XL1 n m
  funext v2 v3 v4 v5 v6 v7 v8 v9 v10 v11 v12 v13 v14 v15 v16 v17 v18
  rw [tie_node_beats_step1, ih]
  rfl
noncomputable def tie_node_beats_n (n : Nat) (n_0 : (Int × Int × Int × Int × Int × Int × (List Int) × Int × Int × Int × Int × Int × List (Int × Int × Int)) × List (Int × Int × Int × Int × Int × Int × (List Int) × Int × Int × ByteArray)) : Option (Unit × (((Int × Int × Int × Int × Int × Int × (List Int) × Int × Int × Int × Int × Int × List (Int × Int × Int)) × List (Int × Int × Int × Int × Int × Int × (List Int) × Int × Int × ByteArray)) × Unit)) := tie_node_beats_T (tie_node_beats_L1 n n) n_0
noncomputable def tie_node_beats (n_0 : (Int × Int × Int × Int × Int × Int × (List Int) × Int × Int × Int × Int × Int × List (Int × Int × Int)) × List (Int × Int × Int × Int × Int × Int × (List Int) × Int × Int × ByteArray)) : Option (Unit × (((Int × Int × Int × Int × Int × Int × (List Int) × Int × Int × Int × Int × Int × List (Int × Int × Int)) × List (Int × Int × Int × Int × Int × Int × (List Int) × Int × Int × ByteArray)) × Unit)) := tie_node_beats_n 1099511627776 n_0
theorem tie_node_beats_eq (n : Nat) (n_0 : (Int × Int × Int × Int × Int × Int × (List Int) × Int × Int × Int × Int × Int × List (Int × Int × Int)) × List (Int × Int × Int × Int × Int × Int × (List Int) × Int × Int × ByteArray)) : evFn tie_node_beats_Γ tab tie_node_beats_fi n [.box 143 t142 [false, false, false, false, false, false, false, false, false, false, false, false, false, true]] [] Tryz.f76 (n_0, ()) = tie_node_beats_n n n_0 := by
  rw [tie_node_beats_start, tie_node_beats_XL1 n n]
  rfl
noncomputable def tie_node_beats_e : Ent := ⟨[.box 143 t142 [false, false, false, false, false, false, false, false, false, false, false, false, false, true]], [], fun x => tie_node_beats x.1⟩
theorem tie_node_beats_good : Good tab.ty Tryz.prog 76 tie_node_beats_e := by
  refine fn_good (Γ := tie_node_beats_Γ) (fi := tie_node_beats_fi) (n := 1099511627776) follows (gcons tie_Fresh_good (gcons tie_node_tells_good gnil)) tabok Tryz.func76 (by kernel_rfl) (by kernel_rfl) (fun x r h => ?_)
  obtain ⟨n_0, _u⟩ := x
  exact (tie_node_beats_eq 1099511627776 n_0).trans h
noncomputable def tie_Tick_Γ : Ctx := [(71, tie_of_e), (72, kids_Prune_e), (73, tie_Fresh_e), (74, tie_node_lets_e), (75, tie_node_asks_e), (76, tie_node_beats_e)]
def tie_Tick_fi : Fi := { keep := [], vty := [], vals := [], live := [(0, [1, 2, 39, 40, 41, 42, 43, 44, 45, 74, 75, 76, 77, 78, 79, 82, 83, 84, 85, 86, 87]), (1, [2, 4, 39, 40, 41, 42, 43, 44, 45, 74, 75, 76, 77, 78, 79, 82, 83, 84, 85, 86, 87]), (2, [2, 4, 39, 40, 41, 42, 43, 44, 45, 74, 75, 76, 77, 78, 79, 82, 83, 84, 85, 86, 87]), (3, [2, 4, 39, 40, 41, 42, 43, 44, 45, 74, 75, 76, 77, 78, 79, 82, 83, 84, 85, 86, 87]), (4, [2, 4, 31, 74, 75, 76, 77, 78, 79, 82, 83, 84, 85, 86, 87]), (5, [2, 4]), (6, [2, 4, 66]), (7, [2, 4]), (8, [2, 4]), (9, [2, 4]), (10, [2, 3])] }
noncomputable def tie_Tick (t_0 : Int × Int × Int × Int × Int × Int × (List Int) × Int × Int × Int × Int × Int × List (Int × Int × Int)) : Option (((Int × Int × Int × Int × Int × Int × (List Int) × Int × Int × Int × Int × Int × List (Int × Int × Int)) × (List (Int × Int × Int × Int × Int × Int × (List Int) × Int × Int × ByteArray)) × Unit) × Unit) :=
 Option.bind (tie_of t_0) fun (r1 : (((Int × Int × Int × Int × Int × Int × (List Int) × Int × Int × Int × Int × Int × List (Int × Int × Int)) × List (Int × Int × Int × Int × Int × Int × (List Int) × Int × Int × ByteArray)) × Unit) × Unit) =>
 Option.bind (kids_Prune r1.1.1.1.2.2.2.2.2.2.2.2.2.2.2.2 (IntKind.wrap .i64 (r1.1.1.1.2.2.1 + 1))) fun (r2 : ((List (Int × Int × Int)) × Unit) × Unit) =>
 bif r1.1.1.1.1 == 1 then
  bif (Int.tmod (IntKind.wrap .i64 (r1.1.1.1.2.2.1 + 1)) 2) == 0 then
   Option.bind (tie_node_asks ((r1.1.1.1.1, r1.1.1.1.2.1, IntKind.wrap .i64 (r1.1.1.1.2.2.1 + 1), r1.1.1.1.2.2.2.1, r1.1.1.1.2.2.2.2.1, r1.1.1.1.2.2.2.2.2.1, r1.1.1.1.2.2.2.2.2.2.1, IntKind.wrap .i64 (r1.1.1.1.2.2.2.2.2.2.2.1 + 1), IntKind.wrap .i64 (r1.1.1.1.2.2.1 + 1), r1.1.1.1.2.2.2.2.2.2.2.2.2.1, r1.1.1.1.2.2.2.2.2.2.2.2.2.2.1, r1.1.1.1.2.2.2.2.2.2.2.2.2.2.2.1, r2.1.1), r1.1.1.2)) fun (r3 : Unit × (((Int × Int × Int × Int × Int × Int × (List Int) × Int × Int × Int × Int × Int × List (Int × Int × Int)) × List (Int × Int × Int × Int × Int × Int × (List Int) × Int × Int × ByteArray)) × Unit)) =>
   Option.bind (tie_node_beats r3.2.1) fun (r4 : Unit × (((Int × Int × Int × Int × Int × Int × (List Int) × Int × Int × Int × Int × Int × List (Int × Int × Int)) × List (Int × Int × Int × Int × Int × Int × (List Int) × Int × Int × ByteArray)) × Unit)) =>
   some ((r4.2.1.1, r4.2.1.2, ()), ())
  else
  bif r1.1.1.1.1 != 1 then
   bif r1.1.1.1.2.2.2.1 != 0 then
    Option.bind (tie_Fresh (r1.1.1.1.1, r1.1.1.1.2.1, IntKind.wrap .i64 (r1.1.1.1.2.2.1 + 1), r1.1.1.1.2.2.2.1, r1.1.1.1.2.2.2.2.1, r1.1.1.1.2.2.2.2.2.1, r1.1.1.1.2.2.2.2.2.2.1, r1.1.1.1.2.2.2.2.2.2.2.1, r1.1.1.1.2.2.2.2.2.2.2.2.1, r1.1.1.1.2.2.2.2.2.2.2.2.2.1, r1.1.1.1.2.2.2.2.2.2.2.2.2.2.1, r1.1.1.1.2.2.2.2.2.2.2.2.2.2.2.1, r2.1.1)) fun (r5 : (Bool × Unit) × Unit) =>
    bif !r5.1.1 then
     Option.bind (tie_node_lets ((r1.1.1.1.1, r1.1.1.1.2.1, IntKind.wrap .i64 (r1.1.1.1.2.2.1 + 1), r1.1.1.1.2.2.2.1, r1.1.1.1.2.2.2.2.1, r1.1.1.1.2.2.2.2.2.1, r1.1.1.1.2.2.2.2.2.2.1, r1.1.1.1.2.2.2.2.2.2.2.1, r1.1.1.1.2.2.2.2.2.2.2.2.1, r1.1.1.1.2.2.2.2.2.2.2.2.2.1, r1.1.1.1.2.2.2.2.2.2.2.2.2.2.1, r1.1.1.1.2.2.2.2.2.2.2.2.2.2.2.1, r2.1.1), r1.1.1.2) 0) fun (r6 : Unit × (((Int × Int × Int × Int × Int × Int × (List Int) × Int × Int × Int × Int × Int × List (Int × Int × Int)) × List (Int × Int × Int × Int × Int × Int × (List Int) × Int × Int × ByteArray)) × Unit)) =>
     Option.bind (tie_node_asks r6.2.1) fun (r7 : Unit × (((Int × Int × Int × Int × Int × Int × (List Int) × Int × Int × Int × Int × Int × List (Int × Int × Int)) × List (Int × Int × Int × Int × Int × Int × (List Int) × Int × Int × ByteArray)) × Unit)) =>
     Option.bind (tie_node_beats r7.2.1) fun (r8 : Unit × (((Int × Int × Int × Int × Int × Int × (List Int) × Int × Int × Int × Int × Int × List (Int × Int × Int)) × List (Int × Int × Int × Int × Int × Int × (List Int) × Int × Int × ByteArray)) × Unit)) =>
     some ((r8.2.1.1, r8.2.1.2, ()), ())
    else
     Option.bind (tie_node_asks ((r1.1.1.1.1, r1.1.1.1.2.1, IntKind.wrap .i64 (r1.1.1.1.2.2.1 + 1), r1.1.1.1.2.2.2.1, r1.1.1.1.2.2.2.2.1, r1.1.1.1.2.2.2.2.2.1, r1.1.1.1.2.2.2.2.2.2.1, r1.1.1.1.2.2.2.2.2.2.2.1, r1.1.1.1.2.2.2.2.2.2.2.2.1, r1.1.1.1.2.2.2.2.2.2.2.2.2.1, r1.1.1.1.2.2.2.2.2.2.2.2.2.2.1, r1.1.1.1.2.2.2.2.2.2.2.2.2.2.2.1, r2.1.1), r1.1.1.2)) fun (r9 : Unit × (((Int × Int × Int × Int × Int × Int × (List Int) × Int × Int × Int × Int × Int × List (Int × Int × Int)) × List (Int × Int × Int × Int × Int × Int × (List Int) × Int × Int × ByteArray)) × Unit)) =>
     Option.bind (tie_node_beats r9.2.1) fun (r10 : Unit × (((Int × Int × Int × Int × Int × Int × (List Int) × Int × Int × Int × Int × Int × List (Int × Int × Int)) × List (Int × Int × Int × Int × Int × Int × (List Int) × Int × Int × ByteArray)) × Unit)) =>
     some ((r10.2.1.1, r10.2.1.2, ()), ())
   else
    Option.bind (tie_node_asks ((r1.1.1.1.1, r1.1.1.1.2.1, IntKind.wrap .i64 (r1.1.1.1.2.2.1 + 1), r1.1.1.1.2.2.2.1, r1.1.1.1.2.2.2.2.1, r1.1.1.1.2.2.2.2.2.1, r1.1.1.1.2.2.2.2.2.2.1, r1.1.1.1.2.2.2.2.2.2.2.1, r1.1.1.1.2.2.2.2.2.2.2.2.1, r1.1.1.1.2.2.2.2.2.2.2.2.2.1, r1.1.1.1.2.2.2.2.2.2.2.2.2.2.1, r1.1.1.1.2.2.2.2.2.2.2.2.2.2.2.1, r2.1.1), r1.1.1.2)) fun (r11 : Unit × (((Int × Int × Int × Int × Int × Int × (List Int) × Int × Int × Int × Int × Int × List (Int × Int × Int)) × List (Int × Int × Int × Int × Int × Int × (List Int) × Int × Int × ByteArray)) × Unit)) =>
    Option.bind (tie_node_beats r11.2.1) fun (r12 : Unit × (((Int × Int × Int × Int × Int × Int × (List Int) × Int × Int × Int × Int × Int × List (Int × Int × Int)) × List (Int × Int × Int × Int × Int × Int × (List Int) × Int × Int × ByteArray)) × Unit)) =>
    some ((r12.2.1.1, r12.2.1.2, ()), ())
  else
   Option.bind (tie_node_asks ((r1.1.1.1.1, r1.1.1.1.2.1, IntKind.wrap .i64 (r1.1.1.1.2.2.1 + 1), r1.1.1.1.2.2.2.1, r1.1.1.1.2.2.2.2.1, r1.1.1.1.2.2.2.2.2.1, r1.1.1.1.2.2.2.2.2.2.1, r1.1.1.1.2.2.2.2.2.2.2.1, r1.1.1.1.2.2.2.2.2.2.2.2.1, r1.1.1.1.2.2.2.2.2.2.2.2.2.1, r1.1.1.1.2.2.2.2.2.2.2.2.2.2.1, r1.1.1.1.2.2.2.2.2.2.2.2.2.2.2.1, r2.1.1), r1.1.1.2)) fun (r13 : Unit × (((Int × Int × Int × Int × Int × Int × (List Int) × Int × Int × Int × Int × Int × List (Int × Int × Int)) × List (Int × Int × Int × Int × Int × Int × (List Int) × Int × Int × ByteArray)) × Unit)) =>
   Option.bind (tie_node_beats r13.2.1) fun (r14 : Unit × (((Int × Int × Int × Int × Int × Int × (List Int) × Int × Int × Int × Int × Int × List (Int × Int × Int)) × List (Int × Int × Int × Int × Int × Int × (List Int) × Int × Int × ByteArray)) × Unit)) =>
   some ((r14.2.1.1, r14.2.1.2, ()), ())
 else
 bif r1.1.1.1.1 != 1 then
  bif r1.1.1.1.2.2.2.1 != 0 then
   Option.bind (tie_Fresh (r1.1.1.1.1, r1.1.1.1.2.1, IntKind.wrap .i64 (r1.1.1.1.2.2.1 + 1), r1.1.1.1.2.2.2.1, r1.1.1.1.2.2.2.2.1, r1.1.1.1.2.2.2.2.2.1, r1.1.1.1.2.2.2.2.2.2.1, r1.1.1.1.2.2.2.2.2.2.2.1, r1.1.1.1.2.2.2.2.2.2.2.2.1, r1.1.1.1.2.2.2.2.2.2.2.2.2.1, r1.1.1.1.2.2.2.2.2.2.2.2.2.2.1, r1.1.1.1.2.2.2.2.2.2.2.2.2.2.2.1, r2.1.1)) fun (r15 : (Bool × Unit) × Unit) =>
   bif !r15.1.1 then
    Option.bind (tie_node_lets ((r1.1.1.1.1, r1.1.1.1.2.1, IntKind.wrap .i64 (r1.1.1.1.2.2.1 + 1), r1.1.1.1.2.2.2.1, r1.1.1.1.2.2.2.2.1, r1.1.1.1.2.2.2.2.2.1, r1.1.1.1.2.2.2.2.2.2.1, r1.1.1.1.2.2.2.2.2.2.2.1, r1.1.1.1.2.2.2.2.2.2.2.2.1, r1.1.1.1.2.2.2.2.2.2.2.2.2.1, r1.1.1.1.2.2.2.2.2.2.2.2.2.2.1, r1.1.1.1.2.2.2.2.2.2.2.2.2.2.2.1, r2.1.1), r1.1.1.2) 0) fun (r16 : Unit × (((Int × Int × Int × Int × Int × Int × (List Int) × Int × Int × Int × Int × Int × List (Int × Int × Int)) × List (Int × Int × Int × Int × Int × Int × (List Int) × Int × Int × ByteArray)) × Unit)) =>
    Option.bind (tie_node_asks r16.2.1) fun (r17 : Unit × (((Int × Int × Int × Int × Int × Int × (List Int) × Int × Int × Int × Int × Int × List (Int × Int × Int)) × List (Int × Int × Int × Int × Int × Int × (List Int) × Int × Int × ByteArray)) × Unit)) =>
    Option.bind (tie_node_beats r17.2.1) fun (r18 : Unit × (((Int × Int × Int × Int × Int × Int × (List Int) × Int × Int × Int × Int × Int × List (Int × Int × Int)) × List (Int × Int × Int × Int × Int × Int × (List Int) × Int × Int × ByteArray)) × Unit)) =>
    some ((r18.2.1.1, r18.2.1.2, ()), ())
   else
    Option.bind (tie_node_asks ((r1.1.1.1.1, r1.1.1.1.2.1, IntKind.wrap .i64 (r1.1.1.1.2.2.1 + 1), r1.1.1.1.2.2.2.1, r1.1.1.1.2.2.2.2.1, r1.1.1.1.2.2.2.2.2.1, r1.1.1.1.2.2.2.2.2.2.1, r1.1.1.1.2.2.2.2.2.2.2.1, r1.1.1.1.2.2.2.2.2.2.2.2.1, r1.1.1.1.2.2.2.2.2.2.2.2.2.1, r1.1.1.1.2.2.2.2.2.2.2.2.2.2.1, r1.1.1.1.2.2.2.2.2.2.2.2.2.2.2.1, r2.1.1), r1.1.1.2)) fun (r19 : Unit × (((Int × Int × Int × Int × Int × Int × (List Int) × Int × Int × Int × Int × Int × List (Int × Int × Int)) × List (Int × Int × Int × Int × Int × Int × (List Int) × Int × Int × ByteArray)) × Unit)) =>
    Option.bind (tie_node_beats r19.2.1) fun (r20 : Unit × (((Int × Int × Int × Int × Int × Int × (List Int) × Int × Int × Int × Int × Int × List (Int × Int × Int)) × List (Int × Int × Int × Int × Int × Int × (List Int) × Int × Int × ByteArray)) × Unit)) =>
    some ((r20.2.1.1, r20.2.1.2, ()), ())
  else
   Option.bind (tie_node_asks ((r1.1.1.1.1, r1.1.1.1.2.1, IntKind.wrap .i64 (r1.1.1.1.2.2.1 + 1), r1.1.1.1.2.2.2.1, r1.1.1.1.2.2.2.2.1, r1.1.1.1.2.2.2.2.2.1, r1.1.1.1.2.2.2.2.2.2.1, r1.1.1.1.2.2.2.2.2.2.2.1, r1.1.1.1.2.2.2.2.2.2.2.2.1, r1.1.1.1.2.2.2.2.2.2.2.2.2.1, r1.1.1.1.2.2.2.2.2.2.2.2.2.2.1, r1.1.1.1.2.2.2.2.2.2.2.2.2.2.2.1, r2.1.1), r1.1.1.2)) fun (r21 : Unit × (((Int × Int × Int × Int × Int × Int × (List Int) × Int × Int × Int × Int × Int × List (Int × Int × Int)) × List (Int × Int × Int × Int × Int × Int × (List Int) × Int × Int × ByteArray)) × Unit)) =>
   Option.bind (tie_node_beats r21.2.1) fun (r22 : Unit × (((Int × Int × Int × Int × Int × Int × (List Int) × Int × Int × Int × Int × Int × List (Int × Int × Int)) × List (Int × Int × Int × Int × Int × Int × (List Int) × Int × Int × ByteArray)) × Unit)) =>
   some ((r22.2.1.1, r22.2.1.2, ()), ())
 else
  Option.bind (tie_node_asks ((r1.1.1.1.1, r1.1.1.1.2.1, IntKind.wrap .i64 (r1.1.1.1.2.2.1 + 1), r1.1.1.1.2.2.2.1, r1.1.1.1.2.2.2.2.1, r1.1.1.1.2.2.2.2.2.1, r1.1.1.1.2.2.2.2.2.2.1, r1.1.1.1.2.2.2.2.2.2.2.1, r1.1.1.1.2.2.2.2.2.2.2.2.1, r1.1.1.1.2.2.2.2.2.2.2.2.2.1, r1.1.1.1.2.2.2.2.2.2.2.2.2.2.1, r1.1.1.1.2.2.2.2.2.2.2.2.2.2.2.1, r2.1.1), r1.1.1.2)) fun (r23 : Unit × (((Int × Int × Int × Int × Int × Int × (List Int) × Int × Int × Int × Int × Int × List (Int × Int × Int)) × List (Int × Int × Int × Int × Int × Int × (List Int) × Int × Int × ByteArray)) × Unit)) =>
  Option.bind (tie_node_beats r23.2.1) fun (r24 : Unit × (((Int × Int × Int × Int × Int × Int × (List Int) × Int × Int × Int × Int × Int × List (Int × Int × Int)) × List (Int × Int × Int × Int × Int × Int × (List Int) × Int × Int × ByteArray)) × Unit)) =>
  some ((r24.2.1.1, r24.2.1.2, ()), ())
theorem tie_Tick_eq (t_0 : Int × Int × Int × Int × Int × Int × (List Int) × Int × Int × Int × Int × Int × List (Int × Int × Int)) : evFn tie_Tick_Γ tab tie_Tick_fi 1 [.val t25] [⟨t25, [false, false, false, false, false, false, false, false, false, false, false, false, false], none⟩, ⟨t37, [true], none⟩] Tryz.f30 (t_0, ()) = tie_Tick t_0 := by kernel_rfl
noncomputable def tie_Tick_e : Ent := ⟨[.val t25], [⟨t25, [false, false, false, false, false, false, false, false, false, false, false, false, false], none⟩, ⟨t37, [true], none⟩], fun x => tie_Tick x.1⟩
theorem tie_Tick_good : Good tab.ty Tryz.prog 30 tie_Tick_e := by
  refine fn_good (Γ := tie_Tick_Γ) (fi := tie_Tick_fi) (n := 1) follows (gcons tie_of_good (gcons kids_Prune_good (gcons tie_Fresh_good (gcons tie_node_lets_good (gcons tie_node_asks_good (gcons tie_node_beats_good gnil)))))) tabok Tryz.func30 (by kernel_rfl) (by kernel_rfl) (fun x r h => ?_)
  obtain ⟨t_0, _u⟩ := x
  exact (tie_Tick_eq t_0).trans h
noncomputable def nak_Wants_Γ : Ctx := [(164, win_First_e)]
def nak_Wants_fi : Fi := { keep := [], vty := [], vals := [], live := [(0, [1, 2, 23, 24, 25, 26, 27]), (1, [1, 2, 4, 23, 24, 25, 26, 27]), (2, [1, 2, 4, 13, 23, 24, 25, 26, 27]), (3, [1, 2, 4, 23, 24, 25, 26, 27]), (4, [2, 4, 28]), (5, [2, 3]), (6, [2, 3])] }
noncomputable def nak_Wants (f_0 : Int × Int × (List (Int × ByteArray)) × (List (Int × ByteArray)) × (List (Int × Int × Int × ByteArray × Int)) × Int × Int) : Option (((Int × Int) × Bool × Unit) × Unit) :=
 bif decide ((f_0.2.2.2.1.length : Int) > 0) then
  Option.bind (win_First f_0.2.2.2.1) fun (r1 : (Int × Unit) × Unit) =>
  bif f_0.1 == 0 then
   some (((0, 0), false, ()), ())
  else
  bif decide (IntKind.wrap .i64 (r1.1.1 - 1) < f_0.1) then
   some (((0, 0), false, ()), ())
  else
   some (((f_0.1, IntKind.wrap .i64 (r1.1.1 - 1)), true, ()), ())
 else
 bif f_0.1 == 0 then
  some (((0, 0), false, ()), ())
 else
 bif decide (f_0.2.1 < f_0.1) then
  some (((0, 0), false, ()), ())
 else
  some (((f_0.1, f_0.2.1), true, ()), ())
theorem nak_Wants_eq (f_0 : Int × Int × (List (Int × ByteArray)) × (List (Int × ByteArray)) × (List (Int × Int × Int × ByteArray × Int)) × Int × Int) : evFn nak_Wants_Γ tab nak_Wants_fi 1 [.val t31] [⟨t29, [false, false], none⟩, ⟨t4, [false], none⟩] Tryz.f77 (f_0, ()) = nak_Wants f_0 := by kernel_rfl
noncomputable def nak_Wants_e : Ent := ⟨[.val t31], [⟨t29, [false, false], none⟩, ⟨t4, [false], none⟩], fun x => nak_Wants x.1⟩
theorem nak_Wants_good : Good tab.ty Tryz.prog 77 nak_Wants_e := by
  refine fn_good (Γ := nak_Wants_Γ) (fi := nak_Wants_fi) (n := 1) follows (gcons win_First_good gnil) tabok Tryz.func77 (by kernel_rfl) (by kernel_rfl) (fun x r h => ?_)
  obtain ⟨f_0, _u⟩ := x
  exact (nak_Wants_eq f_0).trans h
noncomputable def wait_Now_Γ : Ctx := []
def wait_Now_fi : Fi := { keep := [], vty := [], vals := [], live := [(0, [1, 2, 9, 10, 11, 12]), (1, [4])] }
noncomputable def wait_Now (a_0 : Int × Int) (now_1 : Int) : Option ((Bool × Unit) × Unit) :=
 bif a_0.1 == 0 then
  some ((true, ()), ())
 else
  some ((decide (now_1 ≥ a_0.2), ()), ())
theorem wait_Now_eq (a_0 : Int × Int) (now_1 : Int) : evFn wait_Now_Γ tab wait_Now_fi 1 [.val t29, .val t2] [⟨t4, [false], none⟩] Tryz.f78 (a_0, now_1, ()) = wait_Now a_0 now_1 := by kernel_rfl
noncomputable def wait_Now_e : Ent := ⟨[.val t29, .val t2], [⟨t4, [false], none⟩], fun x => wait_Now x.1 x.2.1⟩
theorem wait_Now_good : Good tab.ty Tryz.prog 78 wait_Now_e := by
  refine fn_good (Γ := wait_Now_Γ) (fi := wait_Now_fi) (n := 1) follows gnil tabok Tryz.func78 (by kernel_rfl) (by kernel_rfl) (fun x r h => ?_)
  obtain ⟨a_0, now_1, _u⟩ := x
  exact (wait_Now_eq a_0 now_1).trans h
noncomputable def wait_Tired_Γ : Ctx := []
def wait_Tired_fi : Fi := { keep := [], vty := [], vals := [], live := [(0, [1]), (1, [2])] }
noncomputable def wait_Tired (a_0 : Int × Int) : Option ((Bool × Unit) × Unit) :=
 some ((decide (a_0.1 ≥ 3), ()), ())
theorem wait_Tired_eq (a_0 : Int × Int) : evFn wait_Tired_Γ tab wait_Tired_fi 1 [.val t29] [⟨t4, [false], none⟩] Tryz.f80 (a_0, ()) = wait_Tired a_0 := by kernel_rfl
noncomputable def wait_Tired_e : Ent := ⟨[.val t29], [⟨t4, [false], none⟩], fun x => wait_Tired x.1⟩
theorem wait_Tired_good : Good tab.ty Tryz.prog 80 wait_Tired_e := by
  refine fn_good (Γ := wait_Tired_Γ) (fi := wait_Tired_fi) (n := 1) follows gnil tabok Tryz.func80 (by kernel_rfl) (by kernel_rfl) (fun x r h => ?_)
  obtain ⟨a_0, _u⟩ := x
  exact (wait_Tired_eq a_0).trans h
noncomputable def wait_Tried_Γ : Ctx := []
def wait_Tried_fi : Fi := { keep := [], vty := [], vals := [], live := [(0, [1, 2, 4]), (1, [4])] }
noncomputable def wait_Tried (a_0 : Int × Int) (now_1 : Int) : Option (((Int × Int) × Unit) × Unit) :=
 bif decide (0 ≤ (if 0 > (if 3 < a_0.1 then 3 else a_0.1) then 0 else if 3 < a_0.1 then 3 else a_0.1)) then
  some (((IntKind.wrap .i64 (a_0.1 + 1), IntKind.wrap .i64 (now_1 + (IntKind.wrap .i64 (2 * 2 ^ (min ((if 0 > (if 3 < a_0.1 then 3 else a_0.1) then 0 else if 3 < a_0.1 then 3 else a_0.1).toNat) 64))))), ()), ())
 else none
theorem wait_Tried_eq (a_0 : Int × Int) (now_1 : Int) : evFn wait_Tried_Γ tab wait_Tried_fi 1 [.val t29, .val t2] [⟨t29, [false, false], none⟩] Tryz.f83 (a_0, now_1, ()) = wait_Tried a_0 now_1 := by kernel_rfl
noncomputable def wait_Tried_e : Ent := ⟨[.val t29, .val t2], [⟨t29, [false, false], none⟩], fun x => wait_Tried x.1 x.2.1⟩
theorem wait_Tried_good : Good tab.ty Tryz.prog 83 wait_Tried_e := by
  refine fn_good (Γ := wait_Tried_Γ) (fi := wait_Tried_fi) (n := 1) follows gnil tabok Tryz.func83 (by kernel_rfl) (by kernel_rfl) (fun x r h => ?_)
  obtain ⟨a_0, now_1, _u⟩ := x
  exact (wait_Tried_eq a_0 now_1).trans h
noncomputable def feed_Tick_Γ : Ctx := [(77, nak_Wants_e), (78, wait_Now_e), (79, feed_twin_e), (80, wait_Tired_e), (81, nak_Skips_e), (82, nak_Goes_e), (83, wait_Tried_e)]
def feed_Tick_fi : Fi := { keep := [], vty := [], vals := [], live := [(0, [1, 2, 4, 5, 18, 19, 20, 21, 22]), (1, [1, 2, 4, 5, 7, 8, 18, 19, 20, 21, 22]), (2, [1, 2, 4, 5, 7, 14]), (3, [4, 5, 6]), (4, [1, 2, 4, 5, 7, 27]), (5, [2, 4, 5]), (6, [2, 4, 5]), (7, [4, 5, 6]), (8, [1, 2, 4, 5, 7]), (9, [2, 4, 5, 7]), (10, [4, 5, 6])] }
noncomputable def feed_Tick (f_0 : Int × Int × (List (Int × ByteArray)) × (List (Int × ByteArray)) × (List (Int × Int × Int × ByteArray × Int)) × Int × Int) (now_1 : Int) : Option (((Int × Int × (List (Int × ByteArray)) × (List (Int × ByteArray)) × (List (Int × Int × Int × ByteArray × Int)) × Int × Int) × (Int × Int) × Bool × Unit) × Unit) :=
 Option.bind (nak_Wants f_0) fun (r1 : ((Int × Int) × Bool × Unit) × Unit) =>
 bif !r1.1.2.1 then
  Option.bind (feed_twin f_0) fun (r2 : ((Int × Int × (List (Int × ByteArray)) × (List (Int × ByteArray)) × (List (Int × Int × Int × ByteArray × Int)) × Int × Int) × Unit) × Unit) =>
  some ((r2.1.1, (0, 0), false, ()), ())
 else
  Option.bind (wait_Now f_0.2.2.2.2.2 now_1) fun (r3 : (Bool × Unit) × Unit) =>
  bif !r3.1.1 then
   Option.bind (feed_twin f_0) fun (r4 : ((Int × Int × (List (Int × ByteArray)) × (List (Int × ByteArray)) × (List (Int × Int × Int × ByteArray × Int)) × Int × Int) × Unit) × Unit) =>
   some ((r4.1.1, (0, 0), false, ()), ())
  else
   Option.bind (wait_Tired f_0.2.2.2.2.2) fun (r5 : (Bool × Unit) × Unit) =>
   bif r5.1.1 then
    Option.bind (nak_Skips f_0 r1.1.1.2 2) fun (r6 : ((Int × Int × (List (Int × ByteArray)) × (List (Int × ByteArray)) × (List (Int × Int × Int × ByteArray × Int)) × Int × Int) × (List (Int × Int)) × Unit) × Unit) =>
    Option.bind (nak_Goes r6.1.1) fun (r7 : ((Int × Int × (List (Int × ByteArray)) × (List (Int × ByteArray)) × (List (Int × Int × Int × ByteArray × Int)) × Int × Int) × (List (Int × ByteArray)) × Unit) × Unit) =>
    some ((r7.1.1, (0, 0), false, ()), ())
   else
    Option.bind (feed_twin f_0) fun (r8 : ((Int × Int × (List (Int × ByteArray)) × (List (Int × ByteArray)) × (List (Int × Int × Int × ByteArray × Int)) × Int × Int) × Unit) × Unit) =>
    Option.bind (wait_Tried r8.1.1.2.2.2.2.2 now_1) fun (r9 : ((Int × Int) × Unit) × Unit) =>
    some (((r8.1.1.1, r8.1.1.2.1, r8.1.1.2.2.1, r8.1.1.2.2.2.1, r8.1.1.2.2.2.2.1, r9.1.1), r1.1.1, true, ()), ())
theorem feed_Tick_eq (f_0 : Int × Int × (List (Int × ByteArray)) × (List (Int × ByteArray)) × (List (Int × Int × Int × ByteArray × Int)) × Int × Int) (now_1 : Int) : evFn feed_Tick_Γ tab feed_Tick_fi 1 [.val t31, .val t2] [⟨t31, [false, false, false, false, false, false, false], none⟩, ⟨t29, [false, false], none⟩, ⟨t4, [false], none⟩] Tryz.f31 (f_0, now_1, ()) = feed_Tick f_0 now_1 := by kernel_rfl
noncomputable def feed_Tick_e : Ent := ⟨[.val t31, .val t2], [⟨t31, [false, false, false, false, false, false, false], none⟩, ⟨t29, [false, false], none⟩, ⟨t4, [false], none⟩], fun x => feed_Tick x.1 x.2.1⟩
theorem feed_Tick_good : Good tab.ty Tryz.prog 31 feed_Tick_e := by
  refine fn_good (Γ := feed_Tick_Γ) (fi := feed_Tick_fi) (n := 1) follows (gcons nak_Wants_good (gcons wait_Now_good (gcons feed_twin_good (gcons wait_Tired_good (gcons nak_Skips_good (gcons nak_Goes_good (gcons wait_Tried_good gnil))))))) tabok Tryz.func31 (by kernel_rfl) (by kernel_rfl) (fun x r h => ?_)
  obtain ⟨f_0, now_1, _u⟩ := x
  exact (feed_Tick_eq f_0 now_1).trans h
noncomputable def node_Tick_Γ : Ctx := [(28, node_twin_e), (30, tie_Tick_e), (31, feed_Tick_e), (32, node_tells_e), (33, node_down_e)]
def node_Tick_fi : Fi := { keep := [], vty := [], vals := [], live := [(0, [1, 2]), (1, [1, 2, 4]), (2, [1, 2, 4, 16]), (3, [2, 3]), (4, [1, 2, 4, 5, 6]), (5, [1, 2, 4, 6]), (6, [1, 2, 4, 6, 26, 27, 28]), (7, [1, 2, 4, 6, 26, 27, 28, 29]), (8, [1, 2, 4, 6, 7, 8, 26, 27, 28]), (9, [1, 2, 4, 6, 7, 26, 27, 28, 35]), (10, [1, 2, 4, 6, 26, 27, 28]), (11, [1, 2, 4, 6, 26, 27, 28]), (12, [1, 2, 4, 6, 49]), (13, [2, 3]), (14, [1, 2, 4, 6, 9, 10, 11]), (15, [1, 2, 4, 6, 10, 11]), (16, [1, 2, 4, 6, 10, 64]), (17, [1, 2, 4, 6]), (18, [2, 3])] }
noncomputable def node_Tick_B1 (L1 : Int → Int → Bool → Int → ByteArray → Int → Int → Int → Int → Int → Int → List Int → Int → Int → Int → Int → Int → (List (Int × Int × Int)) → Int → Int → (List (Int × ByteArray)) → (List (Int × ByteArray)) → (List (Int × Int × Int × ByteArray × Int)) → Int → Int → Int → Int → ByteArray → Int → Int → Int → Int → Int → Int → Int → Int → Int → Int → Int → Int → Int → Int → Int → Int → List Int → (List (Int × Int × Int)) → (List (Int × ByteArray)) → (List (Int × ByteArray)) → (List (Int × Int × Int × ByteArray × Int)) → Bool → Int → ByteArray → Int → Int → Int → Int → Int → Int → List Int → Int → Int → Int → Int → Int → (List (Int × Int × Int)) → Int → Int → (List (Int × ByteArray)) → (List (Int × ByteArray)) → (List (Int × Int × Int × ByteArray × Int)) → Int → Int → Int → (List (Int × Int × Int × Int × Int × Int × (List Int) × Int × Int × ByteArray)) → Option (((Bool × Int × ByteArray × (Int × Int × Int × Int × Int × Int × (List Int) × Int × Int × Int × Int × Int × List (Int × Int × Int)) × (Int × Int × (List (Int × ByteArray)) × (List (Int × ByteArray)) × (List (Int × Int × Int × ByteArray × Int)) × Int × Int) × Int) × (List (Int × Int × Int × Int × Int × Int × (List Int) × Int × Int × ByteArray)) × Unit) × Unit)) (v3 : Int) (v4 : Int) (v5 : Bool) (v6 : Int) (v7 : ByteArray) (v8 : Int) (v9 : Int) (v10 : Int) (v11 : Int) (v12 : Int) (v13 : Int) (v14 : List Int) (v15 : Int) (v16 : Int) (v17 : Int) (v18 : Int) (v19 : Int) (v20 : List (Int × Int × Int)) (v21 : Int) (v22 : Int) (v23 : List (Int × ByteArray)) (v24 : List (Int × ByteArray)) (v25 : List (Int × Int × Int × ByteArray × Int)) (v26 : Int) (v27 : Int) (v28 : Int) (v29 : Int) (v30 : ByteArray) (v31 : Int) (v32 : Int) (v33 : Int) (v34 : Int) (v35 : Int) (v36 : Int) (v37 : Int) (v38 : Int) (v39 : Int) (v40 : Int) (v41 : Int) (v42 : Int) (v43 : Int) (v44 : Int) (v45 : Int) (v46 : Int) (v47 : List Int) (v48 : List (Int × Int × Int)) (v49 : List (Int × ByteArray)) (v50 : List (Int × ByteArray)) (v51 : List (Int × Int × Int × ByteArray × Int)) (v52 : Bool) (v53 : Int) (v54 : ByteArray) (v55 : Int) (v56 : Int) (v57 : Int) (v58 : Int) (v59 : Int) (v60 : Int) (v61 : List Int) (v62 : Int) (v63 : Int) (v64 : Int) (v65 : Int) (v66 : Int) (v67 : List (Int × Int × Int)) (v68 : Int) (v69 : Int) (v70 : List (Int × ByteArray)) (v71 : List (Int × ByteArray)) (v72 : List (Int × Int × Int × ByteArray × Int)) (v73 : Int) (v74 : Int) (v75 : Int) (v76 : List (Int × Int × Int × Int × Int × Int × (List Int) × Int × Int × ByteArray)) : Option (((Bool × Int × ByteArray × (Int × Int × Int × Int × Int × Int × (List Int) × Int × Int × Int × Int × Int × List (Int × Int × Int)) × (Int × Int × (List (Int × ByteArray)) × (List (Int × ByteArray)) × (List (Int × Int × Int × ByteArray × Int)) × Int × Int) × Int) × (List (Int × Int × Int × Int × Int × Int × (List Int) × Int × Int × ByteArray)) × Unit) × Unit) :=
 bif decide (v4 < v3) then
  bif decide (0 ≤ v4) && decide (v4 < (v76.length : Int)) then
   bif decide (0 ≤ v4) && decide (v4 < (v76.length : Int)) then
    bif ((List.getD v76 v4.toNat (0, 0, 0, 0, 0, 0, [], 0, 0, (⟨#[]⟩ : ByteArray))).1) == 5 then
     bif decide (0 ≤ v4) && decide (v4 < (v76.length : Int)) then
      bif decide (0 ≤ v4) && decide (v4 < (v76.length : Int)) then
       L1 v3 (IntKind.wrap .i64 (v4 + 1)) v5 v6 v7 v8 v9 v10 v11 v12 v13 v14 v15 v16 v17 v18 v19 v20 v21 v22 v23 v24 v25 v26 v27 v28 v29 v30 v31 v32 v33 v34 v35 v36 v37 v38 v39 v40 v41 v42 v43 v44 v45 v46 v47 v48 v49 v50 v51 v52 v53 v54 v55 v56 v57 v58 v59 v60 v61 v62 v63 v64 v65 v66 v67 v68 v69 v70 v71 v72 v73 v74 v75 (List.set v76 v4.toNat ((List.getD v76 v4.toNat (0, 0, 0, 0, 0, 0, [], 0, 0, (⟨#[]⟩ : ByteArray))).1, ((List.getD v76 v4.toNat (0, 0, 0, 0, 0, 0, [], 0, 0, (⟨#[]⟩ : ByteArray))).2).1, (((List.getD v76 v4.toNat (0, 0, 0, 0, 0, 0, [], 0, 0, (⟨#[]⟩ : ByteArray))).2).2).1, ((((List.getD v76 v4.toNat (0, 0, 0, 0, 0, 0, [], 0, 0, (⟨#[]⟩ : ByteArray))).2).2).2).1, (((((List.getD v76 v4.toNat (0, 0, 0, 0, 0, 0, [], 0, 0, (⟨#[]⟩ : ByteArray))).2).2).2).2).1, ((((((List.getD v76 v4.toNat (0, 0, 0, 0, 0, 0, [], 0, 0, (⟨#[]⟩ : ByteArray))).2).2).2).2).2).1, (((((((List.getD v76 v4.toNat (0, 0, 0, 0, 0, 0, [], 0, 0, (⟨#[]⟩ : ByteArray))).2).2).2).2).2).2).1, ((((((((List.getD v76 v4.toNat (0, 0, 0, 0, 0, 0, [], 0, 0, (⟨#[]⟩ : ByteArray))).2).2).2).2).2).2).2).1, if 0 > IntKind.wrap .i64 (v21 - 1) then 0 else IntKind.wrap .i64 (v21 - 1), (((((((((List.getD v76 v4.toNat (0, 0, 0, 0, 0, 0, [], 0, 0, (⟨#[]⟩ : ByteArray))).2).2).2).2).2).2).2).2).2))
      else none
     else none
    else
     L1 v3 (IntKind.wrap .i64 (v4 + 1)) v5 v6 v7 v8 v9 v10 v11 v12 v13 v14 v15 v16 v17 v18 v19 v20 v21 v22 v23 v24 v25 v26 v27 v28 v29 v30 v31 v32 v33 v34 v35 v36 v37 v38 v39 v40 v41 v42 v43 v44 v45 v46 v47 v48 v49 v50 v51 v52 v53 v54 v55 v56 v57 v58 v59 v60 v61 v62 v63 v64 v65 v66 v67 v68 v69 v70 v71 v72 v73 v74 v75 v76
   else none
  else none
 else
 bif v58 == 0 then
  some (((v52, v53, v54, (v55, v56, v57, v58, v59, v60, v61, v62, v63, v64, v65, v66, v67), (v68, v69, v70, v71, v72, v73, v74), v75), v76, ()), ())
 else
  Option.bind (feed_Tick (v21, v22, v23, v24, v25, v26, v27) v57) fun (r77 : ((Int × Int × (List (Int × ByteArray)) × (List (Int × ByteArray)) × (List (Int × Int × Int × ByteArray × Int)) × Int × Int) × (Int × Int) × Bool × Unit) × Unit) =>
  bif r77.1.2.2.1 then
   Option.bind (node_tells (v52, v53, v54, (v55, v56, v57, v58, v59, v60, v61, v62, v63, v64, v65, v66, v67), r77.1.1, v75) 8 v58 r77.1.2.1.1 r77.1.2.1.2 (⟨#[]⟩ : ByteArray)) fun (r78 : ((Int × Int × Int × Int × Int × Int × (List Int) × Int × Int × ByteArray) × Unit) × Unit) =>
   bif Nat.ble (v76.length + 1) 1073741824 then
    Option.bind (node_down (v52, v53, v54, (v55, v56, v57, v58, v59, v60, v61, v62, v63, v64, v65, v66, v67), r77.1.1, v75) (v21, v22, v23, v24, v25, v26, v27)) fun (r79 : ((List (Int × Int × Int × Int × Int × Int × (List Int) × Int × Int × ByteArray)) × Unit) × Unit) =>
    bif Nat.ble ((v76 ++ [r78.1.1]).length + r79.1.1.length) 1073741824 then
     some (((v52, v53, v54, (v55, v56, v57, v58, v59, v60, v61, v62, v63, v64, v65, v66, v67), r77.1.1, v75), (v76 ++ [r78.1.1]) ++ r79.1.1, ()), ())
    else none
   else none
  else
   Option.bind (node_down (v52, v53, v54, (v55, v56, v57, v58, v59, v60, v61, v62, v63, v64, v65, v66, v67), r77.1.1, v75) (v21, v22, v23, v24, v25, v26, v27)) fun (r80 : ((List (Int × Int × Int × Int × Int × Int × (List Int) × Int × Int × ByteArray)) × Unit) × Unit) =>
   bif Nat.ble (v76.length + r80.1.1.length) 1073741824 then
    some (((v52, v53, v54, (v55, v56, v57, v58, v59, v60, v61, v62, v63, v64, v65, v66, v67), r77.1.1, v75), v76 ++ r80.1.1, ()), ())
   else none
noncomputable def node_Tick_T (L1 : Int → Int → Bool → Int → ByteArray → Int → Int → Int → Int → Int → Int → List Int → Int → Int → Int → Int → Int → (List (Int × Int × Int)) → Int → Int → (List (Int × ByteArray)) → (List (Int × ByteArray)) → (List (Int × Int × Int × ByteArray × Int)) → Int → Int → Int → Int → ByteArray → Int → Int → Int → Int → Int → Int → Int → Int → Int → Int → Int → Int → Int → Int → Int → Int → List Int → (List (Int × Int × Int)) → (List (Int × ByteArray)) → (List (Int × ByteArray)) → (List (Int × Int × Int × ByteArray × Int)) → Bool → Int → ByteArray → Int → Int → Int → Int → Int → Int → List Int → Int → Int → Int → Int → Int → (List (Int × Int × Int)) → Int → Int → (List (Int × ByteArray)) → (List (Int × ByteArray)) → (List (Int × Int × Int × ByteArray × Int)) → Int → Int → Int → (List (Int × Int × Int × Int × Int × Int × (List Int) × Int × Int × ByteArray)) → Option (((Bool × Int × ByteArray × (Int × Int × Int × Int × Int × Int × (List Int) × Int × Int × Int × Int × Int × List (Int × Int × Int)) × (Int × Int × (List (Int × ByteArray)) × (List (Int × ByteArray)) × (List (Int × Int × Int × ByteArray × Int)) × Int × Int) × Int) × (List (Int × Int × Int × Int × Int × Int × (List Int) × Int × Int × ByteArray)) × Unit) × Unit)) (n_0 : Bool × Int × ByteArray × (Int × Int × Int × Int × Int × Int × (List Int) × Int × Int × Int × Int × Int × List (Int × Int × Int)) × (Int × Int × (List (Int × ByteArray)) × (List (Int × ByteArray)) × (List (Int × Int × Int × ByteArray × Int)) × Int × Int) × Int) : Option (((Bool × Int × ByteArray × (Int × Int × Int × Int × Int × Int × (List Int) × Int × Int × Int × Int × Int × List (Int × Int × Int)) × (Int × Int × (List (Int × ByteArray)) × (List (Int × ByteArray)) × (List (Int × Int × Int × ByteArray × Int)) × Int × Int) × Int) × (List (Int × Int × Int × Int × Int × Int × (List Int) × Int × Int × ByteArray)) × Unit) × Unit) :=
 Option.bind (node_twin n_0) fun (r1 : ((Bool × Int × ByteArray × (Int × Int × Int × Int × Int × Int × (List Int) × Int × Int × Int × Int × Int × List (Int × Int × Int)) × (Int × Int × (List (Int × ByteArray)) × (List (Int × ByteArray)) × (List (Int × Int × Int × ByteArray × Int)) × Int × Int) × Int) × Unit) × Unit) =>
 bif !n_0.1 then
  some ((r1.1.1, [], ()), ())
 else
  Option.bind (tie_Tick n_0.2.2.2.1) fun (r2 : ((Int × Int × Int × Int × Int × Int × (List Int) × Int × Int × Int × Int × Int × List (Int × Int × Int)) × (List (Int × Int × Int × Int × Int × Int × (List Int) × Int × Int × ByteArray)) × Unit) × Unit) =>
  L1 (r2.1.2.1.length : Int) 0 n_0.1 n_0.2.1 n_0.2.2.1 n_0.2.2.2.1.1 n_0.2.2.2.1.2.1 n_0.2.2.2.1.2.2.1 n_0.2.2.2.1.2.2.2.1 n_0.2.2.2.1.2.2.2.2.1 n_0.2.2.2.1.2.2.2.2.2.1 n_0.2.2.2.1.2.2.2.2.2.2.1 n_0.2.2.2.1.2.2.2.2.2.2.2.1 n_0.2.2.2.1.2.2.2.2.2.2.2.2.1 n_0.2.2.2.1.2.2.2.2.2.2.2.2.2.1 n_0.2.2.2.1.2.2.2.2.2.2.2.2.2.2.1 n_0.2.2.2.1.2.2.2.2.2.2.2.2.2.2.2.1 n_0.2.2.2.1.2.2.2.2.2.2.2.2.2.2.2.2 n_0.2.2.2.2.1.1 n_0.2.2.2.2.1.2.1 n_0.2.2.2.2.1.2.2.1 n_0.2.2.2.2.1.2.2.2.1 n_0.2.2.2.2.1.2.2.2.2.1 n_0.2.2.2.2.1.2.2.2.2.2.1 n_0.2.2.2.2.1.2.2.2.2.2.2 n_0.2.2.2.2.2 0 (⟨#[]⟩ : ByteArray) 0 0 0 0 0 0 0 0 0 0 0 0 0 0 0 0 [] [] [] [] [] r1.1.1.1 r1.1.1.2.1 r1.1.1.2.2.1 r2.1.1.1 r2.1.1.2.1 r2.1.1.2.2.1 r2.1.1.2.2.2.1 r2.1.1.2.2.2.2.1 r2.1.1.2.2.2.2.2.1 r2.1.1.2.2.2.2.2.2.1 r2.1.1.2.2.2.2.2.2.2.1 r2.1.1.2.2.2.2.2.2.2.2.1 r2.1.1.2.2.2.2.2.2.2.2.2.1 r2.1.1.2.2.2.2.2.2.2.2.2.2.1 r2.1.1.2.2.2.2.2.2.2.2.2.2.2.1 r2.1.1.2.2.2.2.2.2.2.2.2.2.2.2 r1.1.1.2.2.2.2.1.1 r1.1.1.2.2.2.2.1.2.1 r1.1.1.2.2.2.2.1.2.2.1 r1.1.1.2.2.2.2.1.2.2.2.1 r1.1.1.2.2.2.2.1.2.2.2.2.1 r1.1.1.2.2.2.2.1.2.2.2.2.2.1 r1.1.1.2.2.2.2.1.2.2.2.2.2.2 r1.1.1.2.2.2.2.2 r2.1.2.1
noncomputable def node_Tick_L1 (n : Nat) : Nat → Int → Int → Bool → Int → ByteArray → Int → Int → Int → Int → Int → Int → List Int → Int → Int → Int → Int → Int → (List (Int × Int × Int)) → Int → Int → (List (Int × ByteArray)) → (List (Int × ByteArray)) → (List (Int × Int × Int × ByteArray × Int)) → Int → Int → Int → Int → ByteArray → Int → Int → Int → Int → Int → Int → Int → Int → Int → Int → Int → Int → Int → Int → Int → Int → List Int → (List (Int × Int × Int)) → (List (Int × ByteArray)) → (List (Int × ByteArray)) → (List (Int × Int × Int × ByteArray × Int)) → Bool → Int → ByteArray → Int → Int → Int → Int → Int → Int → List Int → Int → Int → Int → Int → Int → (List (Int × Int × Int)) → Int → Int → (List (Int × ByteArray)) → (List (Int × ByteArray)) → (List (Int × Int × Int × ByteArray × Int)) → Int → Int → Int → (List (Int × Int × Int × Int × Int × Int × (List Int) × Int × Int × ByteArray)) → Option (((Bool × Int × ByteArray × (Int × Int × Int × Int × Int × Int × (List Int) × Int × Int × Int × Int × Int × List (Int × Int × Int)) × (Int × Int × (List (Int × ByteArray)) × (List (Int × ByteArray)) × (List (Int × Int × Int × ByteArray × Int)) × Int × Int) × Int) × (List (Int × Int × Int × Int × Int × Int × (List Int) × Int × Int × ByteArray)) × Unit) × Unit) := iter (fun _ _ _ _ _ _ _ _ _ _ _ _ _ _ _ _ _ _ _ _ _ _ _ _ _ _ _ _ _ _ _ _ _ _ _ _ _ _ _ _ _ _ _ _ _ _ _ _ _ _ _ _ _ _ _ _ _ _ _ _ _ _ _ _ _ _ _ _ _ _ _ _ _ _ => none) fun L => node_Tick_B1 L
noncomputable def node_Tick_X1 (n m : Nat) (v3 : Int) (v4 : Int) (v5 : Bool) (v6 : Int) (v7 : ByteArray) (v8 : Int) (v9 : Int) (v10 : Int) (v11 : Int) (v12 : Int) (v13 : Int) (v14 : List Int) (v15 : Int) (v16 : Int) (v17 : Int) (v18 : Int) (v19 : Int) (v20 : List (Int × Int × Int)) (v21 : Int) (v22 : Int) (v23 : List (Int × ByteArray)) (v24 : List (Int × ByteArray)) (v25 : List (Int × Int × Int × ByteArray × Int)) (v26 : Int) (v27 : Int) (v28 : Int) (v29 : Int) (v30 : ByteArray) (v31 : Int) (v32 : Int) (v33 : Int) (v34 : Int) (v35 : Int) (v36 : Int) (v37 : Int) (v38 : Int) (v39 : Int) (v40 : Int) (v41 : Int) (v42 : Int) (v43 : Int) (v44 : Int) (v45 : Int) (v46 : Int) (v47 : List Int) (v48 : List (Int × Int × Int)) (v49 : List (Int × ByteArray)) (v50 : List (Int × ByteArray)) (v51 : List (Int × Int × Int × ByteArray × Int)) (v52 : Bool) (v53 : Int) (v54 : ByteArray) (v55 : Int) (v56 : Int) (v57 : Int) (v58 : Int) (v59 : Int) (v60 : Int) (v61 : List Int) (v62 : Int) (v63 : Int) (v64 : Int) (v65 : Int) (v66 : Int) (v67 : List (Int × Int × Int)) (v68 : Int) (v69 : Int) (v70 : List (Int × ByteArray)) (v71 : List (Int × ByteArray)) (v72 : List (Int × Int × Int × ByteArray × Int)) (v73 : Int) (v74 : Int) (v75 : Int) (v76 : List (Int × Int × Int × Int × Int × Int × (List Int) × Int × Int × ByteArray)) : Option (((Bool × Int × ByteArray × (Int × Int × Int × Int × Int × Int × (List Int) × Int × Int × Int × Int × Int × List (Int × Int × Int)) × (Int × Int × (List (Int × ByteArray)) × (List (Int × ByteArray)) × (List (Int × Int × Int × ByteArray × Int)) × Int × Int) × Int) × (List (Int × Int × Int × Int × Int × Int × (List Int) × Int × Int × ByteArray)) × Unit) × Unit) :=
 atLoop node_Tick_Γ tab (fiB [.val t33] node_Tick_fi) n [.val t33] [⟨t33, [false, false, false, false, false, false, false, false, false, false, false, false, false, false, false, false, false, false, false, false, false, false, false, false], none⟩, ⟨t37, [true], none⟩] Tryz.f8 [1, 1, 1, 1, 1, 0, 1, 0] [] [1, 2, 4, 6, 26, 27, 28] m
 ⟨[(1, SV.cv (CV.one (LV.ptr (1, 0) 0))), (2, SV.cv (CV.one (LV.ptr (2, 0) 0))), (4, SV.cv (CV.one (LV.ptr (4, 0) 0))), (6, SV.cv (CV.one (LV.ref (888888, 26)))), (26, SV.cv (CV.one (LV.ref (888888, 26)))), (27, SV.cv (CV.one (LV.pure t2 v3))), (28, SV.cv (CV.one (LV.pure t2 v4)))],
  [((1, 0), Ob.box 34 [LV.pure t4 v5, LV.pure t2 v6, LV.pure t9 v7, LV.pure t2 v8, LV.pure t2 v9, LV.pure t2 v10, LV.pure t2 v11, LV.pure t2 v12, LV.pure t2 v13, LV.pure t23 v14, LV.pure t2 v15, LV.pure t2 v16, LV.pure t2 v17, LV.pure t2 v18, LV.pure t2 v19, LV.pure t24 v20, LV.pure t2 v21, LV.pure t2 v22, LV.pure t27 v23, LV.pure t27 v24, LV.pure t28 v25, LV.pure t2 v26, LV.pure t2 v27, LV.pure t2 v28]), ((2, 0), Ob.box 34 [LV.lit false, LV.pure t2 v29, LV.pure t9 v30, LV.pure t2 v31, LV.pure t2 v32, LV.pure t2 v33, LV.pure t2 v34, LV.pure t2 v35, LV.pure t2 v36, LV.ref (2, 10), LV.pure t2 v37, LV.pure t2 v38, LV.pure t2 v39, LV.pure t2 v40, LV.pure t2 v41, LV.ref (2, 16), LV.pure t2 v42, LV.pure t2 v43, LV.ref (2, 19), LV.ref (2, 20), LV.ref (2, 21), LV.pure t2 v44, LV.pure t2 v45, LV.pure t2 v46]), ((2, 10), Ob.row 3 t2 v47), ((2, 16), Ob.row 127 t126 v48), ((2, 19), Ob.row 136 t135 v49), ((2, 20), Ob.row 136 t135 v50), ((2, 21), Ob.row 139 t138 v51), ((4, 0), Ob.box 34 [LV.pure t4 v52, LV.pure t2 v53, LV.pure t9 v54, LV.pure t2 v55, LV.pure t2 v56, LV.pure t2 v57, LV.pure t2 v58, LV.pure t2 v59, LV.pure t2 v60, LV.pure t23 v61, LV.pure t2 v62, LV.pure t2 v63, LV.pure t2 v64, LV.pure t2 v65, LV.pure t2 v66, LV.pure t24 v67, LV.pure t2 v68, LV.pure t2 v69, LV.pure t27 v70, LV.pure t27 v71, LV.pure t28 v72, LV.pure t2 v73, LV.pure t2 v74, LV.pure t2 v75]), ((888888, 26), Ob.row 41 t40 v76)]⟩
theorem node_Tick_step1 (n m : Nat) (v3 : Int) (v4 : Int) (v5 : Bool) (v6 : Int) (v7 : ByteArray) (v8 : Int) (v9 : Int) (v10 : Int) (v11 : Int) (v12 : Int) (v13 : Int) (v14 : List Int) (v15 : Int) (v16 : Int) (v17 : Int) (v18 : Int) (v19 : Int) (v20 : List (Int × Int × Int)) (v21 : Int) (v22 : Int) (v23 : List (Int × ByteArray)) (v24 : List (Int × ByteArray)) (v25 : List (Int × Int × Int × ByteArray × Int)) (v26 : Int) (v27 : Int) (v28 : Int) (v29 : Int) (v30 : ByteArray) (v31 : Int) (v32 : Int) (v33 : Int) (v34 : Int) (v35 : Int) (v36 : Int) (v37 : Int) (v38 : Int) (v39 : Int) (v40 : Int) (v41 : Int) (v42 : Int) (v43 : Int) (v44 : Int) (v45 : Int) (v46 : Int) (v47 : List Int) (v48 : List (Int × Int × Int)) (v49 : List (Int × ByteArray)) (v50 : List (Int × ByteArray)) (v51 : List (Int × Int × Int × ByteArray × Int)) (v52 : Bool) (v53 : Int) (v54 : ByteArray) (v55 : Int) (v56 : Int) (v57 : Int) (v58 : Int) (v59 : Int) (v60 : Int) (v61 : List Int) (v62 : Int) (v63 : Int) (v64 : Int) (v65 : Int) (v66 : Int) (v67 : List (Int × Int × Int)) (v68 : Int) (v69 : Int) (v70 : List (Int × ByteArray)) (v71 : List (Int × ByteArray)) (v72 : List (Int × Int × Int × ByteArray × Int)) (v73 : Int) (v74 : Int) (v75 : Int) (v76 : List (Int × Int × Int × Int × Int × Int × (List Int) × Int × Int × ByteArray)) : node_Tick_X1 n (m + 1) v3 v4 v5 v6 v7 v8 v9 v10 v11 v12 v13 v14 v15 v16 v17 v18 v19 v20 v21 v22 v23 v24 v25 v26 v27 v28 v29 v30 v31 v32 v33 v34 v35 v36 v37 v38 v39 v40 v41 v42 v43 v44 v45 v46 v47 v48 v49 v50 v51 v52 v53 v54 v55 v56 v57 v58 v59 v60 v61 v62 v63 v64 v65 v66 v67 v68 v69 v70 v71 v72 v73 v74 v75 v76 = node_Tick_B1 (node_Tick_X1 n m) v3 v4 v5 v6 v7 v8 v9 v10 v11 v12 v13 v14 v15 v16 v17 v18 v19 v20 v21 v22 v23 v24 v25 v26 v27 v28 v29 v30 v31 v32 v33 v34 v35 v36 v37 v38 v39 v40 v41 v42 v43 v44 v45 v46 v47 v48 v49 v50 v51 v52 v53 v54 v55 v56 v57 v58 v59 v60 v61 v62 v63 v64 v65 v66 v67 v68 v69 v70 v71 v72 v73 v74 v75 v76 := by kernel_rfl
theorem node_Tick_start (n : Nat) (n_0 : Bool × Int × ByteArray × (Int × Int × Int × Int × Int × Int × (List Int) × Int × Int × Int × Int × Int × List (Int × Int × Int)) × (Int × Int × (List (Int × ByteArray)) × (List (Int × ByteArray)) × (List (Int × Int × Int × ByteArray × Int)) × Int × Int) × Int) : evFn node_Tick_Γ tab node_Tick_fi n [.val t33] [⟨t33, [false, false, false, false, false, false, false, false, false, false, false, false, false, false, false, false, false, false, false, false, false, false, false, false], none⟩, ⟨t37, [true], none⟩] Tryz.f8 (n_0, ()) = node_Tick_T (node_Tick_X1 n n) n_0 := by kernel_rfl
theorem node_Tick_XL1 (n : Nat) : ∀ m, node_Tick_X1 n m = node_Tick_L1 n m
 | 0 => rfl
 | m + 1 => by
  have ih := node_Tick_XL1 n m
  funext v3 v4 v5 v6 v7 v8 v9 v10 v11 v12 v13 v14 v15 v16 v17 v18 v19 v20 v21 v22 v23 v24 v25 v26 v27 v28 v29 v30 v31 v32 v33 v34 v35 v36 v37 v38 v39 v40 v41 v42 v43 v44 v45 v46 v47 v48 v49 v50 v51 v52 v53 v54 v55 v56 v57 v58 v59 v60 v61 v62 v63 v64 v65 v66 v67 v68 v69 v70 v71 v72 v73 v74 v75 v76
  rw [node_Tick_step1, ih]
  rfl
noncomputable def node_Tick_n (n : Nat) (n_0 : Bool × Int × ByteArray × (Int × Int × Int × Int × Int × Int × (List Int) × Int × Int × Int × Int × Int × List (Int × Int × Int)) × (Int × Int × (List (Int × ByteArray)) × (List (Int × ByteArray)) × (List (Int × Int × Int × ByteArray × Int)) × Int × Int) × Int) : Option (((Bool × Int × ByteArray × (Int × Int × Int × Int × Int × Int × (List Int) × Int × Int × Int × Int × Int × List (Int × Int × Int)) × (Int × Int × (List (Int × ByteArray)) × (List (Int × ByteArray)) × (List (Int × Int × Int × ByteArray × Int)) × Int × Int) × Int) × (List (Int × Int × Int × Int × Int × Int × (List Int) × Int × Int × ByteArray)) × Unit) × Unit) := node_Tick_T (node_Tick_L1 n n) n_0
noncomputable def node_Tick (n_0 : Bool × Int × ByteArray × (Int × Int × Int × Int × Int × Int × (List Int) × Int × Int × Int × Int × Int × List (Int × Int × Int)) × (Int × Int × (List (Int × ByteArray)) × (List (Int × ByteArray)) × (List (Int × Int × Int × ByteArray × Int)) × Int × Int) × Int) : Option (((Bool × Int × ByteArray × (Int × Int × Int × Int × Int × Int × (List Int) × Int × Int × Int × Int × Int × List (Int × Int × Int)) × (Int × Int × (List (Int × ByteArray)) × (List (Int × ByteArray)) × (List (Int × Int × Int × ByteArray × Int)) × Int × Int) × Int) × (List (Int × Int × Int × Int × Int × Int × (List Int) × Int × Int × ByteArray)) × Unit) × Unit) := node_Tick_n 1099511627776 n_0
theorem node_Tick_eq (n : Nat) (n_0 : Bool × Int × ByteArray × (Int × Int × Int × Int × Int × Int × (List Int) × Int × Int × Int × Int × Int × List (Int × Int × Int)) × (Int × Int × (List (Int × ByteArray)) × (List (Int × ByteArray)) × (List (Int × Int × Int × ByteArray × Int)) × Int × Int) × Int) : evFn node_Tick_Γ tab node_Tick_fi n [.val t33] [⟨t33, [false, false, false, false, false, false, false, false, false, false, false, false, false, false, false, false, false, false, false, false, false, false, false, false], none⟩, ⟨t37, [true], none⟩] Tryz.f8 (n_0, ()) = node_Tick_n n n_0 := by
  rw [node_Tick_start, node_Tick_XL1 n n]
  rfl
noncomputable def node_Tick_e : Ent := ⟨[.val t33], [⟨t33, [false, false, false, false, false, false, false, false, false, false, false, false, false, false, false, false, false, false, false, false, false, false, false, false], none⟩, ⟨t37, [true], none⟩], fun x => node_Tick x.1⟩
theorem node_Tick_good : Good tab.ty Tryz.prog 8 node_Tick_e := by
  refine fn_good (Γ := node_Tick_Γ) (fi := node_Tick_fi) (n := 1099511627776) follows (gcons node_twin_good (gcons tie_Tick_good (gcons feed_Tick_good (gcons node_tells_good (gcons node_down_good gnil))))) tabok Tryz.func8 (by kernel_rfl) (by kernel_rfl) (fun x r h => ?_)
  obtain ⟨n_0, _u⟩ := x
  exact (node_Tick_eq 1099511627776 n_0).trans h
noncomputable def pleachref1_Has_Γ : Ctx := []
def pleachref1_Has_fi : Fi := { keep := [], vty := [], vals := [], live := [(0, [0, 1]), (1, [0, 1, 5]), (2, [0, 1, 5, 9]), (3, [0, 1, 5]), (4, [0, 1, 5, 17]), (5, [4]), (6, [4])] }
noncomputable def pleachref1_Has_B1 (L1 : List Int → Int → Int → Option ((Bool × Unit) × Unit)) (v1 : List Int) (v2 : Int) (v3 : Int) : Option ((Bool × Unit) × Unit) :=
 bif decide (v3 < (v1.length : Int)) then
  bif decide (0 ≤ v3) && decide (v3 < (v1.length : Int)) then
   bif (List.getD v1 v3.toNat 0) == v2 then
    some ((true, ()), ())
   else
    L1 v1 v2 (IntKind.wrap .i64 (v3 + 1))
  else none
 else
  some ((false, ()), ())
noncomputable def pleachref1_Has_T (L1 : List Int → Int → Int → Option ((Bool × Unit) × Unit)) (p_0 : List Int) (id_1 : Int) : Option ((Bool × Unit) × Unit) :=
 L1 p_0 id_1 0
noncomputable def pleachref1_Has_L1 (n : Nat) : Nat → List Int → Int → Int → Option ((Bool × Unit) × Unit) := iter (fun _ _ _ => none) fun L => pleachref1_Has_B1 L
noncomputable def pleachref1_Has_X1 (n m : Nat) (v1 : List Int) (v2 : Int) (v3 : Int) : Option ((Bool × Unit) × Unit) :=
 atLoop pleachref1_Has_Γ tab (fiB [.val t23, .val t2] pleachref1_Has_fi) n [.val t23, .val t2] [⟨t4, [false], none⟩] Tryz.f183 [1, 0, 1, 0] [] [0, 1, 5] m
 ⟨[(0, SV.cv (CV.one (LV.pure t23 v1))), (1, SV.cv (CV.one (LV.pure t2 v2))), (5, SV.cv (CV.one (LV.pure t2 v3)))],
  []⟩
theorem pleachref1_Has_step1 (n m : Nat) (v1 : List Int) (v2 : Int) (v3 : Int) : pleachref1_Has_X1 n (m + 1) v1 v2 v3 = pleachref1_Has_B1 (pleachref1_Has_X1 n m) v1 v2 v3 := by kernel_rfl
theorem pleachref1_Has_start (n : Nat) (p_0 : List Int) (id_1 : Int) : evFn pleachref1_Has_Γ tab pleachref1_Has_fi n [.val t23, .val t2] [⟨t4, [false], none⟩] Tryz.f183 (p_0, id_1, ()) = pleachref1_Has_T (pleachref1_Has_X1 n n) p_0 id_1 := by kernel_rfl
theorem pleachref1_Has_XL1 (n : Nat) : ∀ m, pleachref1_Has_X1 n m = pleachref1_Has_L1 n m
 | 0 => rfl
 | m + 1 => by
  have ih := pleachref1_Has_XL1 n m
  funext v1 v2 v3
  rw [pleachref1_Has_step1, ih]
  rfl
noncomputable def pleachref1_Has_n (n : Nat) (p_0 : List Int) (id_1 : Int) : Option ((Bool × Unit) × Unit) := pleachref1_Has_T (pleachref1_Has_L1 n n) p_0 id_1
noncomputable def pleachref1_Has (p_0 : List Int) (id_1 : Int) : Option ((Bool × Unit) × Unit) := pleachref1_Has_n 1099511627776 p_0 id_1
theorem pleachref1_Has_eq (n : Nat) (p_0 : List Int) (id_1 : Int) : evFn pleachref1_Has_Γ tab pleachref1_Has_fi n [.val t23, .val t2] [⟨t4, [false], none⟩] Tryz.f183 (p_0, id_1, ()) = pleachref1_Has_n n p_0 id_1 := by
  rw [pleachref1_Has_start, pleachref1_Has_XL1 n n]
  rfl
noncomputable def pleachref1_Has_e : Ent := ⟨[.val t23, .val t2], [⟨t4, [false], none⟩], fun x => pleachref1_Has x.1 x.2.1⟩
theorem pleachref1_Has_good : Good tab.ty Tryz.prog 183 pleachref1_Has_e := by
  refine fn_good (Γ := pleachref1_Has_Γ) (fi := pleachref1_Has_fi) (n := 1099511627776) follows gnil tabok Tryz.func183 (by kernel_rfl) (by kernel_rfl) (fun x r h => ?_)
  obtain ⟨p_0, id_1, _u⟩ := x
  exact (pleachref1_Has_eq 1099511627776 p_0 id_1).trans h
noncomputable def pleachref1_MayPath_Γ : Ctx := [(183, pleachref1_Has_e)]
def pleachref1_MayPath_fi : Fi := { keep := [], vty := [], vals := [], live := [(0, [0, 8, 9, 10, 13, 14, 15, 16, 30, 31, 32, 33, 34, 37, 38, 39, 40, 41, 42, 43, 44]), (1, [0, 17, 30, 31, 32, 33, 34, 37, 38, 39, 40, 41, 42, 43, 44]), (2, [2]), (3, [0, 3, 30, 31, 32, 33, 34, 37, 38, 39, 40, 41, 42, 43, 44]), (4, [0, 3, 21, 30, 31, 32, 33, 34, 37, 38, 39, 40, 41, 42, 43, 44]), (5, [0, 3, 30, 31, 32, 33, 34, 37, 38, 39, 40, 41, 42, 43, 44]), (6, [0, 3, 30, 31, 32, 33, 34, 37, 38, 39, 40, 41, 42, 43, 44, 45]), (7, [2]), (8, [2])] }
noncomputable def pleachref1_MayPath_B1 (L1 : List Int → Int → Option ((Bool × Unit) × Unit)) (v1 : List Int) (v2 : Int) : Option ((Bool × Unit) × Unit) :=
 bif decide (v2 < (v1.length : Int)) then
  bif decide (0 ≤ v2) && decide (v2 < (v1.length : Int)) then
   bif decide (List.getD v1 v2.toNat 0 < 1) then
    some ((false, ()), ())
   else
   bif decide (0 ≤ v2) && decide (v2 < (v1.length : Int)) then
    bif decide (List.getD v1 v2.toNat 0 > 8) then
     some ((false, ()), ())
    else
    bif decide (0 ≤ v2) && decide (v2 ≤ (v1.length : Int)) then
     bif decide (0 ≤ v2) && decide (v2 < (v1.length : Int)) then
      Option.bind (pleachref1_Has (List.drop 0 (List.take v2.toNat v1)) (List.getD v1 v2.toNat 0)) fun (r3 : (Bool × Unit) × Unit) =>
      bif r3.1.1 then
       some ((false, ()), ())
      else
       L1 v1 (IntKind.wrap .i64 (v2 + 1))
     else none
    else none
   else none
  else none
 else
  some ((true, ()), ())
noncomputable def pleachref1_MayPath_T (L1 : List Int → Int → Option ((Bool × Unit) × Unit)) (p_0 : List Int) : Option ((Bool × Unit) × Unit) :=
 bif decide ((p_0.length : Int) < 1) then
  some ((false, ()), ())
 else
 bif decide ((p_0.length : Int) > 10) then
  some ((false, ()), ())
 else
 bif decide (0 < (p_0.length : Int)) then
  bif (List.getD p_0 0 0) != 1 then
   some ((false, ()), ())
  else
   L1 p_0 0
 else none
noncomputable def pleachref1_MayPath_L1 (n : Nat) : Nat → List Int → Int → Option ((Bool × Unit) × Unit) := iter (fun _ _ => none) fun L => pleachref1_MayPath_B1 L
noncomputable def pleachref1_MayPath_X1 (n m : Nat) (v1 : List Int) (v2 : Int) : Option ((Bool × Unit) × Unit) :=
 atLoop pleachref1_MayPath_Γ tab (fiB [.val t23] pleachref1_MayPath_fi) n [.val t23] [⟨t4, [false], none⟩] Tryz.f101 [1, 1, 0, 1, 0] [] [0, 3] m
 ⟨[(0, SV.cv (CV.one (LV.pure t23 v1))), (3, SV.cv (CV.one (LV.pure t2 v2)))],
  []⟩
theorem pleachref1_MayPath_step1 (n m : Nat) (v1 : List Int) (v2 : Int) : pleachref1_MayPath_X1 n (m + 1) v1 v2 = pleachref1_MayPath_B1 (pleachref1_MayPath_X1 n m) v1 v2 := by kernel_rfl
theorem pleachref1_MayPath_start (n : Nat) (p_0 : List Int) : evFn pleachref1_MayPath_Γ tab pleachref1_MayPath_fi n [.val t23] [⟨t4, [false], none⟩] Tryz.f101 (p_0, ()) = pleachref1_MayPath_T (pleachref1_MayPath_X1 n n) p_0 := by kernel_rfl
theorem pleachref1_MayPath_XL1 (n : Nat) : ∀ m, pleachref1_MayPath_X1 n m = pleachref1_MayPath_L1 n m
 | 0 => rfl
 | m + 1 => by
  have ih := pleachref1_MayPath_XL1 n m
  funext v1 v2
  rw [pleachref1_MayPath_step1, ih]
  rfl
noncomputable def pleachref1_MayPath_n (n : Nat) (p_0 : List Int) : Option ((Bool × Unit) × Unit) := pleachref1_MayPath_T (pleachref1_MayPath_L1 n n) p_0
noncomputable def pleachref1_MayPath (p_0 : List Int) : Option ((Bool × Unit) × Unit) := pleachref1_MayPath_n 1099511627776 p_0
theorem pleachref1_MayPath_eq (n : Nat) (p_0 : List Int) : evFn pleachref1_MayPath_Γ tab pleachref1_MayPath_fi n [.val t23] [⟨t4, [false], none⟩] Tryz.f101 (p_0, ()) = pleachref1_MayPath_n n p_0 := by
  rw [pleachref1_MayPath_start, pleachref1_MayPath_XL1 n n]
  rfl
noncomputable def pleachref1_MayPath_e : Ent := ⟨[.val t23], [⟨t4, [false], none⟩], fun x => pleachref1_MayPath x.1⟩
theorem pleachref1_MayPath_good : Good tab.ty Tryz.prog 101 pleachref1_MayPath_e := by
  refine fn_good (Γ := pleachref1_MayPath_Γ) (fi := pleachref1_MayPath_fi) (n := 1099511627776) follows (gcons pleachref1_Has_good gnil) tabok Tryz.func101 (by kernel_rfl) (by kernel_rfl) (fun x r h => ?_)
  obtain ⟨p_0, _u⟩ := x
  exact (pleachref1_MayPath_eq 1099511627776 p_0).trans h
noncomputable def pleachref10_seq_Γ : Ctx := []
def pleachref10_seq_fi : Fi := { keep := [], vty := [], vals := [], live := [(0, [0, 6, 7]), (1, [2])] }
noncomputable def pleachref10_seq (n_0 : Int) : Option ((Bool × Unit) × Unit) :=
 bif decide (n_0 ≥ 0) then
  some ((decide (n_0 ≤ 1000000), ()), ())
 else
  some ((false, ()), ())
theorem pleachref10_seq_eq (n_0 : Int) : evFn pleachref10_seq_Γ tab pleachref10_seq_fi 1 [.val t2] [⟨t4, [false], none⟩] Tryz.f102 (n_0, ()) = pleachref10_seq n_0 := by kernel_rfl
noncomputable def pleachref10_seq_e : Ent := ⟨[.val t2], [⟨t4, [false], none⟩], fun x => pleachref10_seq x.1⟩
theorem pleachref10_seq_good : Good tab.ty Tryz.prog 102 pleachref10_seq_e := by
  refine fn_good (Γ := pleachref10_seq_Γ) (fi := pleachref10_seq_fi) (n := 1) follows gnil tabok Tryz.func102 (by kernel_rfl) (by kernel_rfl) (fun x r h => ?_)
  obtain ⟨n_0, _u⟩ := x
  exact (pleachref10_seq_eq n_0).trans h
noncomputable def pleachref1_MaySpan_Γ : Ctx := []
def pleachref1_MaySpan_fi : Fi := { keep := [], vty := [], vals := [], live := [(0, [1, 7, 8, 9, 10, 11, 14, 15, 16]), (1, [2])] }
noncomputable def pleachref1_MaySpan (s_0 : Int × Int) : Option ((Bool × Unit) × Unit) :=
 bif decide (s_0.1 ≥ 1) then
  bif decide (s_0.1 ≤ s_0.2) then
   some ((decide (s_0.2 ≤ 1000000), ()), ())
  else
   some ((false, ()), ())
 else
  some ((false, ()), ())
theorem pleachref1_MaySpan_eq (s_0 : Int × Int) : evFn pleachref1_MaySpan_Γ tab pleachref1_MaySpan_fi 1 [.val t29] [⟨t4, [false], none⟩] Tryz.f103 (s_0, ()) = pleachref1_MaySpan s_0 := by kernel_rfl
noncomputable def pleachref1_MaySpan_e : Ent := ⟨[.val t29], [⟨t4, [false], none⟩], fun x => pleachref1_MaySpan x.1⟩
theorem pleachref1_MaySpan_good : Good tab.ty Tryz.prog 103 pleachref1_MaySpan_e := by
  refine fn_good (Γ := pleachref1_MaySpan_Γ) (fi := pleachref1_MaySpan_fi) (n := 1) follows gnil tabok Tryz.func103 (by kernel_rfl) (by kernel_rfl) (fun x r h => ?_)
  obtain ⟨s_0, _u⟩ := x
  exact (pleachref1_MaySpan_eq s_0).trans h
noncomputable def pleachref1_SameInts_Γ : Ctx := []
def pleachref1_SameInts_fi : Fi := { keep := [], vty := [], vals := [], live := [(0, [0, 1]), (1, [0, 1, 10]), (2, [4]), (3, [0, 1, 5]), (4, [0, 1, 5, 14]), (5, [0, 1, 5]), (6, [0, 1, 5, 25]), (7, [4]), (8, [4])] }
noncomputable def pleachref1_SameInts_B1 (L1 : List Int → List Int → Int → Option ((Bool × Unit) × Unit)) (v1 : List Int) (v2 : List Int) (v3 : Int) : Option ((Bool × Unit) × Unit) :=
 bif decide (v3 < (v1.length : Int)) then
  bif decide (0 ≤ v3) && decide (v3 < (v1.length : Int)) then
   bif decide (0 ≤ v3) && decide (v3 < (v2.length : Int)) then
    bif (List.getD v1 v3.toNat 0) != (List.getD v2 v3.toNat 0) then
     some ((false, ()), ())
    else
     L1 v1 v2 (IntKind.wrap .i64 (v3 + 1))
   else none
  else none
 else
  some ((true, ()), ())
noncomputable def pleachref1_SameInts_T (L1 : List Int → List Int → Int → Option ((Bool × Unit) × Unit)) (a_0 : List Int) (b_1 : List Int) : Option ((Bool × Unit) × Unit) :=
 bif (a_0.length : Int) != (b_1.length : Int) then
  some ((false, ()), ())
 else
  L1 a_0 b_1 0
noncomputable def pleachref1_SameInts_L1 (n : Nat) : Nat → List Int → List Int → Int → Option ((Bool × Unit) × Unit) := iter (fun _ _ _ => none) fun L => pleachref1_SameInts_B1 L
noncomputable def pleachref1_SameInts_X1 (n m : Nat) (v1 : List Int) (v2 : List Int) (v3 : Int) : Option ((Bool × Unit) × Unit) :=
 atLoop pleachref1_SameInts_Γ tab (fiB [.val t23, .val t23] pleachref1_SameInts_fi) n [.val t23, .val t23] [⟨t4, [false], none⟩] Tryz.f105 [1, 1, 0, 1, 0] [] [0, 1, 5] m
 ⟨[(0, SV.cv (CV.one (LV.pure t23 v1))), (1, SV.cv (CV.one (LV.pure t23 v2))), (5, SV.cv (CV.one (LV.pure t2 v3)))],
  []⟩
theorem pleachref1_SameInts_step1 (n m : Nat) (v1 : List Int) (v2 : List Int) (v3 : Int) : pleachref1_SameInts_X1 n (m + 1) v1 v2 v3 = pleachref1_SameInts_B1 (pleachref1_SameInts_X1 n m) v1 v2 v3 := by kernel_rfl
theorem pleachref1_SameInts_start (n : Nat) (a_0 : List Int) (b_1 : List Int) : evFn pleachref1_SameInts_Γ tab pleachref1_SameInts_fi n [.val t23, .val t23] [⟨t4, [false], none⟩] Tryz.f105 (a_0, b_1, ()) = pleachref1_SameInts_T (pleachref1_SameInts_X1 n n) a_0 b_1 := by kernel_rfl
theorem pleachref1_SameInts_XL1 (n : Nat) : ∀ m, pleachref1_SameInts_X1 n m = pleachref1_SameInts_L1 n m
 | 0 => rfl
 | m + 1 => by
  have ih := pleachref1_SameInts_XL1 n m
  funext v1 v2 v3
  rw [pleachref1_SameInts_step1, ih]
  rfl
noncomputable def pleachref1_SameInts_n (n : Nat) (a_0 : List Int) (b_1 : List Int) : Option ((Bool × Unit) × Unit) := pleachref1_SameInts_T (pleachref1_SameInts_L1 n n) a_0 b_1
noncomputable def pleachref1_SameInts (a_0 : List Int) (b_1 : List Int) : Option ((Bool × Unit) × Unit) := pleachref1_SameInts_n 1099511627776 a_0 b_1
theorem pleachref1_SameInts_eq (n : Nat) (a_0 : List Int) (b_1 : List Int) : evFn pleachref1_SameInts_Γ tab pleachref1_SameInts_fi n [.val t23, .val t23] [⟨t4, [false], none⟩] Tryz.f105 (a_0, b_1, ()) = pleachref1_SameInts_n n a_0 b_1 := by
  rw [pleachref1_SameInts_start, pleachref1_SameInts_XL1 n n]
  rfl
noncomputable def pleachref1_SameInts_e : Ent := ⟨[.val t23, .val t23], [⟨t4, [false], none⟩], fun x => pleachref1_SameInts x.1 x.2.1⟩
theorem pleachref1_SameInts_good : Good tab.ty Tryz.prog 105 pleachref1_SameInts_e := by
  refine fn_good (Γ := pleachref1_SameInts_Γ) (fi := pleachref1_SameInts_fi) (n := 1099511627776) follows gnil tabok Tryz.func105 (by kernel_rfl) (by kernel_rfl) (fun x r h => ?_)
  obtain ⟨a_0, b_1, _u⟩ := x
  exact (pleachref1_SameInts_eq 1099511627776 a_0 b_1).trans h
noncomputable def pleachref10_SameMsg_Γ : Ctx := [(105, pleachref1_SameInts_e)]
def pleachref10_SameMsg_fi : Fi := { keep := [], vty := [], vals := [], live := [(0, [2, 3, 11, 12, 13, 14, 15, 18, 19, 20, 21, 22, 25, 26, 27, 28, 29, 32, 33, 34, 35, 36, 39, 40, 41, 42, 43, 46, 47, 48, 49, 50, 53, 54, 55, 56, 57, 60, 61, 62, 63, 64, 67, 68, 69, 70, 71]), (1, [4])] }
noncomputable def pleachref10_SameMsg (a_0 : Int × Int × Int × Int × Int × Int × (List Int) × Int × Int × ByteArray) (b_1 : Int × Int × Int × Int × Int × Int × (List Int) × Int × Int × ByteArray) : Option ((Bool × Unit) × Unit) :=
 bif a_0.1 == b_1.1 then
  bif a_0.2.1 == b_1.2.1 then
   bif a_0.2.2.1 == b_1.2.2.1 then
    bif a_0.2.2.2.1 == b_1.2.2.2.1 then
     bif a_0.2.2.2.2.1 == b_1.2.2.2.2.1 then
      bif a_0.2.2.2.2.2.1 == b_1.2.2.2.2.2.1 then
       bif a_0.2.2.2.2.2.2.2.1 == b_1.2.2.2.2.2.2.2.1 then
        bif a_0.2.2.2.2.2.2.2.2.1 == b_1.2.2.2.2.2.2.2.2.1 then
         bif strEq a_0.2.2.2.2.2.2.2.2.2 b_1.2.2.2.2.2.2.2.2.2 then
          Option.bind (pleachref1_SameInts a_0.2.2.2.2.2.2.1 b_1.2.2.2.2.2.2.1) fun (r1 : (Bool × Unit) × Unit) =>
          some ((r1.1.1, ()), ())
         else
          some ((false, ()), ())
        else
         some ((false, ()), ())
       else
        some ((false, ()), ())
      else
       some ((false, ()), ())
     else
      some ((false, ()), ())
    else
     some ((false, ()), ())
   else
    some ((false, ()), ())
  else
   some ((false, ()), ())
 else
  some ((false, ()), ())
theorem pleachref10_SameMsg_eq (a_0 : Int × Int × Int × Int × Int × Int × (List Int) × Int × Int × ByteArray) (b_1 : Int × Int × Int × Int × Int × Int × (List Int) × Int × Int × ByteArray) : evFn pleachref10_SameMsg_Γ tab pleachref10_SameMsg_fi 1 [.val t40, .val t40] [⟨t4, [false], none⟩] Tryz.f104 (a_0, b_1, ()) = pleachref10_SameMsg a_0 b_1 := by kernel_rfl
noncomputable def pleachref10_SameMsg_e : Ent := ⟨[.val t40, .val t40], [⟨t4, [false], none⟩], fun x => pleachref10_SameMsg x.1 x.2.1⟩
theorem pleachref10_SameMsg_good : Good tab.ty Tryz.prog 104 pleachref10_SameMsg_e := by
  refine fn_good (Γ := pleachref10_SameMsg_Γ) (fi := pleachref10_SameMsg_fi) (n := 1) follows (gcons pleachref1_SameInts_good gnil) tabok Tryz.func104 (by kernel_rfl) (by kernel_rfl) (fun x r h => ?_)
  obtain ⟨a_0, b_1, _u⟩ := x
  exact (pleachref10_SameMsg_eq a_0 b_1).trans h
end Go.PE
