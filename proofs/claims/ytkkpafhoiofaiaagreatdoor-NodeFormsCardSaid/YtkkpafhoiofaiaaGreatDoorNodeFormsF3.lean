/-
  Functions of the program, each as the evaluator answers it, and its contract.
  Conditions: none.
-/
import Derived.Test.YtkkpafhoiofaiaaGreatDoorNodeFormsF2
set_option linter.unusedVariables false
set_option maxRecDepth 100000
namespace Go.PE
open Go.Proofs

noncomputable def pleachref10_MayMsg_Γ : Ctx := [(101, pleachref1_MayPath_e), (102, pleachref10_seq_e), (103, pleachref1_MaySpan_e), (104, pleachref10_SameMsg_e)]
def pleachref10_MayMsg_fi : Fi := { keep := [], vty := [], vals := [], live := [(0, [1, 9, 10, 11, 14, 15, 16, 19, 20, 21, 24, 25, 26, 29, 30, 31, 34, 35, 36, 37, 38, 41, 42, 43, 46, 47, 48, 77, 78, 79, 82, 83, 84, 87, 88, 89, 92, 93, 94, 104, 105, 106, 113, 114, 115, 129, 130, 131, 134, 135, 136, 137, 156, 157, 158]), (1, [1, 49, 77, 78, 79, 82, 83, 84, 87, 88, 89, 92, 93, 94, 104, 105, 106, 113, 114, 115, 129, 130, 131, 134, 135, 136, 137, 156, 157, 158]), (2, [2]), (3, [1, 3, 77, 78, 79, 82, 83, 84, 87, 88, 89, 92, 93, 94, 104, 105, 106, 113, 114, 115, 129, 130, 131, 134, 135, 136, 137, 156, 157, 158]), (4, [1, 3, 4, 77, 78, 79, 82, 83, 84, 87, 88, 89, 92, 93, 94, 104, 105, 106, 113, 114, 115, 129, 130, 131, 134, 135, 136, 137, 156, 157, 158]), (5, [1, 3, 4, 60, 77, 78, 79, 82, 83, 84, 87, 88, 89, 92, 93, 94, 104, 105, 106, 113, 114, 115, 129, 130, 131, 134, 135, 136, 137, 156, 157, 158]), (6, [1, 3, 4, 60, 61, 77, 78, 79, 82, 83, 84, 87, 88, 89, 92, 93, 94, 104, 105, 106, 113, 114, 115, 129, 130, 131, 134, 135, 136, 137, 156, 157, 158]), (7, [1, 3, 4, 60, 61, 77, 78, 79, 82, 83, 84, 87, 88, 89, 92, 93, 94, 104, 105, 106, 113, 114, 115, 129, 130, 131, 134, 135, 136, 137, 156, 157, 158]), (8, [1, 3, 77, 78, 79, 82, 83, 84, 87, 88, 89, 92, 93, 94, 104, 105, 106, 113, 114, 115, 156, 157, 158]), (9, [1, 3, 4, 104, 105, 106, 113, 114, 115, 156, 157, 158]), (10, [1, 3, 4, 98, 104, 105, 106, 113, 114, 115, 156, 157, 158]), (11, [1, 3, 4, 104, 105, 106, 156, 157, 158]), (12, [1, 3, 4, 156, 157, 158]), (13, [1, 3, 4, 113, 114, 115, 156, 157, 158]), (14, [1, 3, 4, 156, 157, 158]), (15, [1, 3, 4, 60, 117, 129, 130, 131, 134, 135, 136, 137, 156, 157, 158]), (16, [1, 3, 129, 130, 131, 134, 135, 136, 137, 156, 157, 158]), (17, [1, 3, 4, 156, 157, 158]), (18, [1, 3, 4, 60, 139, 156, 157, 158]), (19, [1, 3, 4, 139, 156, 157, 158]), (20, [1, 3, 156, 157, 158]), (21, [1, 3, 4, 156, 157, 158]), (22, [2])] }
noncomputable def pleachref10_MayMsg (arr_0 : Int × Int × Int × Int × Int × Int × (List Int) × Int × Int × ByteArray) : Option ((Bool × Unit) × Unit) :=
 bif decide (arr_0.1 < 1) then
  some ((false, ()), ())
 else
 bif decide (arr_0.1 > 9) then
  some ((false, ()), ())
 else
 bif decide (arr_0.2.1 < 1) then
  some ((false, ()), ())
 else
 bif decide (arr_0.2.1 > 8) then
  some ((false, ()), ())
 else
 bif decide (arr_0.2.2.1 < 1) then
  some ((false, ()), ())
 else
 bif decide (arr_0.2.2.1 > 8) then
  some ((false, ()), ())
 else
 bif arr_0.2.1 == arr_0.2.2.1 then
  some ((false, ()), ())
 else
 bif decide (arr_0.2.2.2.1 < 1) then
  some ((false, ()), ())
 else
 bif decide (arr_0.2.2.2.1 > 1073741824) then
  some ((false, ()), ())
 else
 bif arr_0.1 == 2 then
  bif arr_0.1 == 2 then
   bif decide (arr_0.2.2.2.2.1 ≥ 0) then
    bif decide (arr_0.2.2.2.2.1 ≤ 1073741824) then
     bif decide (arr_0.2.2.2.2.2.1 ≥ 0) then
      bif decide (arr_0.2.2.2.2.2.1 ≤ 1073741824) then
       Option.bind (pleachref1_MayPath arr_0.2.2.2.2.2.2.1) fun (r1 : (Bool × Unit) × Unit) =>
       bif arr_0.1 == 2 then
        bif r1.1.1 then
         Option.bind (pleachref10_seq arr_0.2.2.2.2.2.2.2.1) fun (r2 : (Bool × Unit) × Unit) =>
         bif r2.1.1 then
          Option.bind (pleachref10_SameMsg (arr_0.1, arr_0.2.1, arr_0.2.2.1, arr_0.2.2.2.1, arr_0.2.2.2.2.1, arr_0.2.2.2.2.2.1, arr_0.2.2.2.2.2.2.1, arr_0.2.2.2.2.2.2.2.1, 0, (⟨#[]⟩ : ByteArray)) arr_0) fun (r3 : (Bool × Unit) × Unit) =>
          some ((r3.1.1, ()), ())
         else
          some ((false, ()), ())
        else
         some ((false, ()), ())
       else
       bif r1.1.1 then
        Option.bind (pleachref10_seq arr_0.2.2.2.2.2.2.2.2.1) fun (r4 : (Bool × Unit) × Unit) =>
        bif r4.1.1 then
         Option.bind (pleachref10_SameMsg (arr_0.1, arr_0.2.1, arr_0.2.2.1, arr_0.2.2.2.1, arr_0.2.2.2.2.1, arr_0.2.2.2.2.2.1, arr_0.2.2.2.2.2.2.1, 0, arr_0.2.2.2.2.2.2.2.2.1, (⟨#[]⟩ : ByteArray)) arr_0) fun (r5 : (Bool × Unit) × Unit) =>
         some ((r5.1.1, ()), ())
        else
         some ((false, ()), ())
       else
        some ((false, ()), ())
      else
      bif arr_0.1 == 2 then
       some ((false, ()), ())
      else
       some ((false, ()), ())
     else
     bif arr_0.1 == 2 then
      some ((false, ()), ())
     else
      some ((false, ()), ())
    else
    bif arr_0.1 == 2 then
     some ((false, ()), ())
    else
     some ((false, ()), ())
   else
   bif arr_0.1 == 2 then
    some ((false, ()), ())
   else
    some ((false, ()), ())
  else
  bif arr_0.1 == 7 then
   bif decide (arr_0.2.2.2.2.2.2.2.1 ≥ 1) then
    Option.bind (pleachref10_seq arr_0.2.2.2.2.2.2.2.1) fun (r6 : (Bool × Unit) × Unit) =>
    bif r6.1.1 then
     bif decide ((arr_0.2.2.2.2.2.2.2.2.2.size : Int) ≤ 12) then
      Option.bind (pleachref10_SameMsg (arr_0.1, arr_0.2.1, arr_0.2.2.1, arr_0.2.2.2.1, 0, 0, [], arr_0.2.2.2.2.2.2.2.1, 0, arr_0.2.2.2.2.2.2.2.2.2) arr_0) fun (r7 : (Bool × Unit) × Unit) =>
      some ((r7.1.1, ()), ())
     else
      some ((false, ()), ())
    else
     some ((false, ()), ())
   else
    some ((false, ()), ())
  else
  bif arr_0.1 == 8 then
   bif arr_0.1 == 8 then
    Option.bind (pleachref1_MaySpan (arr_0.2.2.2.2.2.2.2.1, arr_0.2.2.2.2.2.2.2.2.1)) fun (r8 : (Bool × Unit) × Unit) =>
    bif r8.1.1 then
     Option.bind (pleachref10_SameMsg (arr_0.1, arr_0.2.1, arr_0.2.2.1, arr_0.2.2.2.1, 0, 0, [], arr_0.2.2.2.2.2.2.2.1, arr_0.2.2.2.2.2.2.2.2.1, (⟨#[]⟩ : ByteArray)) arr_0) fun (r9 : (Bool × Unit) × Unit) =>
     some ((r9.1.1, ()), ())
    else
     some ((false, ()), ())
   else
    Option.bind (pleachref10_SameMsg (arr_0.1, arr_0.2.1, arr_0.2.2.1, arr_0.2.2.2.1, 0, 0, [], 0, 0, (⟨#[]⟩ : ByteArray)) arr_0) fun (r10 : (Bool × Unit) × Unit) =>
    some ((r10.1.1, ()), ())
  else
  bif arr_0.1 == 9 then
   Option.bind (pleachref1_MaySpan (arr_0.2.2.2.2.2.2.2.1, arr_0.2.2.2.2.2.2.2.2.1)) fun (r11 : (Bool × Unit) × Unit) =>
   bif r11.1.1 then
    Option.bind (pleachref10_SameMsg (arr_0.1, arr_0.2.1, arr_0.2.2.1, arr_0.2.2.2.1, 0, 0, [], arr_0.2.2.2.2.2.2.2.1, arr_0.2.2.2.2.2.2.2.2.1, (⟨#[]⟩ : ByteArray)) arr_0) fun (r12 : (Bool × Unit) × Unit) =>
    some ((r12.1.1, ()), ())
   else
    some ((false, ()), ())
  else
   Option.bind (pleachref10_SameMsg (arr_0.1, arr_0.2.1, arr_0.2.2.1, arr_0.2.2.2.1, 0, 0, [], 0, 0, (⟨#[]⟩ : ByteArray)) arr_0) fun (r13 : (Bool × Unit) × Unit) =>
   some ((r13.1.1, ()), ())
 else
 bif arr_0.1 == 5 then
  bif decide (arr_0.2.2.2.2.1 ≥ 0) then
   bif decide (arr_0.2.2.2.2.1 ≤ 1073741824) then
    bif decide (arr_0.2.2.2.2.2.1 ≥ 0) then
     bif decide (arr_0.2.2.2.2.2.1 ≤ 1073741824) then
      Option.bind (pleachref1_MayPath arr_0.2.2.2.2.2.2.1) fun (r14 : (Bool × Unit) × Unit) =>
      bif arr_0.1 == 2 then
       bif r14.1.1 then
        Option.bind (pleachref10_seq arr_0.2.2.2.2.2.2.2.1) fun (r15 : (Bool × Unit) × Unit) =>
        bif r15.1.1 then
         Option.bind (pleachref10_SameMsg (arr_0.1, arr_0.2.1, arr_0.2.2.1, arr_0.2.2.2.1, arr_0.2.2.2.2.1, arr_0.2.2.2.2.2.1, arr_0.2.2.2.2.2.2.1, arr_0.2.2.2.2.2.2.2.1, 0, (⟨#[]⟩ : ByteArray)) arr_0) fun (r16 : (Bool × Unit) × Unit) =>
         some ((r16.1.1, ()), ())
        else
         some ((false, ()), ())
       else
        some ((false, ()), ())
      else
      bif r14.1.1 then
       Option.bind (pleachref10_seq arr_0.2.2.2.2.2.2.2.2.1) fun (r17 : (Bool × Unit) × Unit) =>
       bif r17.1.1 then
        Option.bind (pleachref10_SameMsg (arr_0.1, arr_0.2.1, arr_0.2.2.1, arr_0.2.2.2.1, arr_0.2.2.2.2.1, arr_0.2.2.2.2.2.1, arr_0.2.2.2.2.2.2.1, 0, arr_0.2.2.2.2.2.2.2.2.1, (⟨#[]⟩ : ByteArray)) arr_0) fun (r18 : (Bool × Unit) × Unit) =>
        some ((r18.1.1, ()), ())
       else
        some ((false, ()), ())
      else
       some ((false, ()), ())
     else
     bif arr_0.1 == 2 then
      some ((false, ()), ())
     else
      some ((false, ()), ())
    else
    bif arr_0.1 == 2 then
     some ((false, ()), ())
    else
     some ((false, ()), ())
   else
   bif arr_0.1 == 2 then
    some ((false, ()), ())
   else
    some ((false, ()), ())
  else
  bif arr_0.1 == 2 then
   some ((false, ()), ())
  else
   some ((false, ()), ())
 else
 bif arr_0.1 == 7 then
  bif decide (arr_0.2.2.2.2.2.2.2.1 ≥ 1) then
   Option.bind (pleachref10_seq arr_0.2.2.2.2.2.2.2.1) fun (r19 : (Bool × Unit) × Unit) =>
   bif r19.1.1 then
    bif decide ((arr_0.2.2.2.2.2.2.2.2.2.size : Int) ≤ 12) then
     Option.bind (pleachref10_SameMsg (arr_0.1, arr_0.2.1, arr_0.2.2.1, arr_0.2.2.2.1, 0, 0, [], arr_0.2.2.2.2.2.2.2.1, 0, arr_0.2.2.2.2.2.2.2.2.2) arr_0) fun (r20 : (Bool × Unit) × Unit) =>
     some ((r20.1.1, ()), ())
    else
     some ((false, ()), ())
   else
    some ((false, ()), ())
  else
   some ((false, ()), ())
 else
 bif arr_0.1 == 8 then
  bif arr_0.1 == 8 then
   Option.bind (pleachref1_MaySpan (arr_0.2.2.2.2.2.2.2.1, arr_0.2.2.2.2.2.2.2.2.1)) fun (r21 : (Bool × Unit) × Unit) =>
   bif r21.1.1 then
    Option.bind (pleachref10_SameMsg (arr_0.1, arr_0.2.1, arr_0.2.2.1, arr_0.2.2.2.1, 0, 0, [], arr_0.2.2.2.2.2.2.2.1, arr_0.2.2.2.2.2.2.2.2.1, (⟨#[]⟩ : ByteArray)) arr_0) fun (r22 : (Bool × Unit) × Unit) =>
    some ((r22.1.1, ()), ())
   else
    some ((false, ()), ())
  else
   Option.bind (pleachref10_SameMsg (arr_0.1, arr_0.2.1, arr_0.2.2.1, arr_0.2.2.2.1, 0, 0, [], 0, 0, (⟨#[]⟩ : ByteArray)) arr_0) fun (r23 : (Bool × Unit) × Unit) =>
   some ((r23.1.1, ()), ())
 else
 bif arr_0.1 == 9 then
  Option.bind (pleachref1_MaySpan (arr_0.2.2.2.2.2.2.2.1, arr_0.2.2.2.2.2.2.2.2.1)) fun (r24 : (Bool × Unit) × Unit) =>
  bif r24.1.1 then
   Option.bind (pleachref10_SameMsg (arr_0.1, arr_0.2.1, arr_0.2.2.1, arr_0.2.2.2.1, 0, 0, [], arr_0.2.2.2.2.2.2.2.1, arr_0.2.2.2.2.2.2.2.2.1, (⟨#[]⟩ : ByteArray)) arr_0) fun (r25 : (Bool × Unit) × Unit) =>
   some ((r25.1.1, ()), ())
  else
   some ((false, ()), ())
 else
  Option.bind (pleachref10_SameMsg (arr_0.1, arr_0.2.1, arr_0.2.2.1, arr_0.2.2.2.1, 0, 0, [], 0, 0, (⟨#[]⟩ : ByteArray)) arr_0) fun (r26 : (Bool × Unit) × Unit) =>
  some ((r26.1.1, ()), ())
theorem pleachref10_MayMsg_eq (arr_0 : Int × Int × Int × Int × Int × Int × (List Int) × Int × Int × ByteArray) : evFn pleachref10_MayMsg_Γ tab pleachref10_MayMsg_fi 1 [.val t40] [⟨t4, [false], none⟩] Tryz.f38 (arr_0, ()) = pleachref10_MayMsg arr_0 := by kernel_rfl
noncomputable def pleachref10_MayMsg_e : Ent := ⟨[.val t40], [⟨t4, [false], none⟩], fun x => pleachref10_MayMsg x.1⟩
theorem pleachref10_MayMsg_good : Good tab.ty Tryz.prog 38 pleachref10_MayMsg_e := by
  refine fn_good (Γ := pleachref10_MayMsg_Γ) (fi := pleachref10_MayMsg_fi) (n := 1) follows (gcons pleachref1_MayPath_good (gcons pleachref10_seq_good (gcons pleachref1_MaySpan_good (gcons pleachref10_SameMsg_good gnil)))) tabok Tryz.func38 (by kernel_rfl) (by kernel_rfl) (fun x r h => ?_)
  obtain ⟨arr_0, _u⟩ := x
  exact (pleachref10_MayMsg_eq arr_0).trans h
noncomputable def pleachref10_PutNum_Γ : Ctx := []
def pleachref10_PutNum_fi : Fi := { keep := [], vty := [], vals := [], live := [(0, [0, 1]), (1, [1, 5]), (2, [1, 5, 10]), (3, [1, 5]), (4, [4])] }
noncomputable def pleachref10_PutNum_B1 (L1 : Int → List Int → Option (((List Int) × Unit) × Unit)) (v1 : Int) (v2 : List Int) : Option (((List Int) × Unit) × Unit) :=
 bif decide (v1 ≥ 128) then
  bif Nat.ble (v2.length + 1) 1073741824 then
   L1 (IntKind.wrap .i64 (Int.tdiv v1 128)) (v2 ++ [IntKind.wrap .u8 (IntKind.wrap .i64 ((Int.tmod v1 128) + 128))])
  else none
 else
 bif Nat.ble (v2.length + 1) 1073741824 then
  some ((v2 ++ [IntKind.wrap .u8 v1], ()), ())
 else none
noncomputable def pleachref10_PutNum_T (L1 : Int → List Int → Option (((List Int) × Unit) × Unit)) (b_0 : List Int) (v_1 : Int) : Option (((List Int) × Unit) × Unit) :=
 bif Nat.ble (0 + b_0.length) 1073741824 then
  L1 v_1 ([] ++ b_0)
 else none
noncomputable def pleachref10_PutNum_L1 (n : Nat) : Nat → Int → List Int → Option (((List Int) × Unit) × Unit) := iter (fun _ _ => none) fun L => pleachref10_PutNum_B1 L
noncomputable def pleachref10_PutNum_X1 (n m : Nat) (v1 : Int) (v2 : List Int) : Option (((List Int) × Unit) × Unit) :=
 atLoop pleachref10_PutNum_Γ tab (fiB [.val t43, .val t2] pleachref10_PutNum_fi) n [.val t43, .val t2] [⟨t43, [true], none⟩] Tryz.f39 [1, 1, 0, 0] [] [1, 5] m
 ⟨[(1, SV.cv (CV.one (LV.pure t2 v1))), (5, SV.cv (CV.one (LV.ref (888888, 5))))],
  [((888888, 5), Ob.row 5 t5 v2)]⟩
theorem pleachref10_PutNum_step1 (n m : Nat) (v1 : Int) (v2 : List Int) : pleachref10_PutNum_X1 n (m + 1) v1 v2 = pleachref10_PutNum_B1 (pleachref10_PutNum_X1 n m) v1 v2 := by kernel_rfl
theorem pleachref10_PutNum_start (n : Nat) (b_0 : List Int) (v_1 : Int) : evFn pleachref10_PutNum_Γ tab pleachref10_PutNum_fi n [.val t43, .val t2] [⟨t43, [true], none⟩] Tryz.f39 (b_0, v_1, ()) = pleachref10_PutNum_T (pleachref10_PutNum_X1 n n) b_0 v_1 := by kernel_rfl
theorem pleachref10_PutNum_XL1 (n : Nat) : ∀ m, pleachref10_PutNum_X1 n m = pleachref10_PutNum_L1 n m
 | 0 => rfl
 | m + 1 => by
  have ih := pleachref10_PutNum_XL1 n m
  funext v1 v2
  rw [pleachref10_PutNum_step1, ih]
  rfl
noncomputable def pleachref10_PutNum_n (n : Nat) (b_0 : List Int) (v_1 : Int) : Option (((List Int) × Unit) × Unit) := pleachref10_PutNum_T (pleachref10_PutNum_L1 n n) b_0 v_1
noncomputable def pleachref10_PutNum (b_0 : List Int) (v_1 : Int) : Option (((List Int) × Unit) × Unit) := pleachref10_PutNum_n 1099511627776 b_0 v_1
theorem pleachref10_PutNum_eq (n : Nat) (b_0 : List Int) (v_1 : Int) : evFn pleachref10_PutNum_Γ tab pleachref10_PutNum_fi n [.val t43, .val t2] [⟨t43, [true], none⟩] Tryz.f39 (b_0, v_1, ()) = pleachref10_PutNum_n n b_0 v_1 := by
  rw [pleachref10_PutNum_start, pleachref10_PutNum_XL1 n n]
  rfl
noncomputable def pleachref10_PutNum_e : Ent := ⟨[.val t43, .val t2], [⟨t43, [true], none⟩], fun x => pleachref10_PutNum x.1 x.2.1⟩
theorem pleachref10_PutNum_good : Good tab.ty Tryz.prog 39 pleachref10_PutNum_e := by
  refine fn_good (Γ := pleachref10_PutNum_Γ) (fi := pleachref10_PutNum_fi) (n := 1099511627776) follows gnil tabok Tryz.func39 (by kernel_rfl) (by kernel_rfl) (fun x r h => ?_)
  obtain ⟨b_0, v_1, _u⟩ := x
  exact (pleachref10_PutNum_eq 1099511627776 b_0 v_1).trans h
noncomputable def pleachref10_PutText_Γ : Ctx := [(39, pleachref10_PutNum_e)]
def pleachref10_PutText_fi : Fi := { keep := [], vty := [], vals := [], live := [(0, [0, 1]), (1, [4])] }
noncomputable def pleachref10_PutText (b_0 : List Int) (s_1 : ByteArray) : Option (((List Int) × Unit) × Unit) :=
 Option.bind (pleachref10_PutNum b_0 (s_1.size : Int)) fun (r1 : ((List Int) × Unit) × Unit) =>
 bif Nat.ble (r1.1.1.length + (s_1.data.toList.map fun b => (b.toNat : Int)).length) 1073741824 then
  some ((r1.1.1 ++ (s_1.data.toList.map fun b => (b.toNat : Int)), ()), ())
 else none
theorem pleachref10_PutText_eq (b_0 : List Int) (s_1 : ByteArray) : evFn pleachref10_PutText_Γ tab pleachref10_PutText_fi 1 [.val t43, .val t9] [⟨t43, [true], none⟩] Tryz.f40 (b_0, s_1, ()) = pleachref10_PutText b_0 s_1 := by kernel_rfl
noncomputable def pleachref10_PutText_e : Ent := ⟨[.val t43, .val t9], [⟨t43, [true], none⟩], fun x => pleachref10_PutText x.1 x.2.1⟩
theorem pleachref10_PutText_good : Good tab.ty Tryz.prog 40 pleachref10_PutText_e := by
  refine fn_good (Γ := pleachref10_PutText_Γ) (fi := pleachref10_PutText_fi) (n := 1) follows (gcons pleachref10_PutNum_good gnil) tabok Tryz.func40 (by kernel_rfl) (by kernel_rfl) (fun x r h => ?_)
  obtain ⟨b_0, s_1, _u⟩ := x
  exact (pleachref10_PutText_eq b_0 s_1).trans h
noncomputable def pleachref10_Sum_Γ : Ctx := []
def pleachref10_Sum_fi : Fi := { keep := [], vty := [], vals := [], live := [(0, [0]), (1, [0, 3]), (2, [0, 3, 4]), (3, [0, 3, 4, 9]), (4, [0, 3, 4]), (5, [0, 3, 4]), (6, [0, 3, 4, 5]), (7, [0, 3, 4, 5, 20]), (8, [0, 3, 4, 5]), (9, [0, 3, 4, 5, 25]), (10, [0, 3, 4, 5]), (11, [0, 3, 4, 5]), (12, [2])] }
noncomputable def pleachref10_Sum_B1 (L2 : List Int → Int → Int → Int → Option ((Int × Unit) × Unit)) (v1 : List Int) (v2 : Int) (v3 : Int) : Option ((Int × Unit) × Unit) :=
 bif decide (v3 < (v1.length : Int)) then
  bif decide (0 ≤ v3) && decide (v3 < (v1.length : Int)) then
   L2 v1 (IntKind.wrap .u32 ((BitVec.ofInt 32 v2 ^^^ BitVec.ofInt 32 (IntKind.wrap .u32 (List.getD v1 v3.toNat 0))).toNat)) v3 0
  else none
 else
  some ((IntKind.wrap .u32 ((BitVec.ofInt 32 4294967295 ^^^ BitVec.ofInt 32 v2).toNat), ()), ())
noncomputable def pleachref10_Sum_B2 (L2 : List Int → Int → Int → Int → Option ((Int × Unit) × Unit)) (L1 : List Int → Int → Int → Option ((Int × Unit) × Unit)) (v4 : List Int) (v5 : Int) (v6 : Int) (v7 : Int) : Option ((Int × Unit) × Unit) :=
 bif decide (v7 < 8) then
  bif (Int.tmod v5 2) == 1 then
   L2 v4 (IntKind.wrap .u32 ((BitVec.ofInt 32 (IntKind.wrap .u32 (Int.tdiv v5 2)) ^^^ BitVec.ofInt 32 3988292384).toNat)) v6 (IntKind.wrap .i64 (v7 + 1))
  else
   L2 v4 (IntKind.wrap .u32 (Int.tdiv v5 2)) v6 (IntKind.wrap .i64 (v7 + 1))
 else
  L1 v4 v5 (IntKind.wrap .i64 (v6 + 1))
noncomputable def pleachref10_Sum_T (L1 : List Int → Int → Int → Option ((Int × Unit) × Unit)) (b_0 : List Int) : Option ((Int × Unit) × Unit) :=
 L1 b_0 4294967295 0
noncomputable def pleachref10_Sum_L2 (n : Nat) (m1 : Nat) (r1 : List Int → Int → Int → Option ((Int × Unit) × Unit)) : Nat → List Int → Int → Int → Int → Option ((Int × Unit) × Unit) := iter (fun _ _ _ _ => none) fun L => pleachref10_Sum_B2 L r1
noncomputable def pleachref10_Sum_L1 (n : Nat) : Nat → List Int → Int → Int → Option ((Int × Unit) × Unit) := iterN (fun _ _ _ => none) fun m L => pleachref10_Sum_B1 (pleachref10_Sum_L2 n m L n)
noncomputable def pleachref10_Sum_X1 (n m : Nat) (v1 : List Int) (v2 : Int) (v3 : Int) : Option ((Int × Unit) × Unit) :=
 atLoop pleachref10_Sum_Γ tab (fiB [.val t43] pleachref10_Sum_fi) n [.val t43] [⟨t94, [false], none⟩] Tryz.f41 [1, 1, 0, 1, 0] [] [0, 3, 4] m
 ⟨[(0, SV.cv (CV.one (LV.pure t43 v1))), (3, SV.cv (CV.one (LV.pure t94 v2))), (4, SV.cv (CV.one (LV.pure t2 v3)))],
  []⟩
noncomputable def pleachref10_Sum_X2 (n m1 m : Nat) (v4 : List Int) (v5 : Int) (v6 : Int) (v7 : Int) : Option ((Int × Unit) × Unit) :=
 atLoop pleachref10_Sum_Γ tab (fiB [.val t43] pleachref10_Sum_fi) n [.val t43] [⟨t94, [false], none⟩] Tryz.f41 [1, 1, 0, 1, 0, 0, 1, 0, 0, 1, 1, 0] [(m1, [0, 3, 4])] [0, 3, 4, 5] m
 ⟨[(0, SV.cv (CV.one (LV.pure t43 v4))), (3, SV.cv (CV.one (LV.pure t94 v5))), (4, SV.cv (CV.one (LV.pure t2 v6))), (5, SV.cv (CV.one (LV.pure t2 v7)))],
  []⟩
theorem pleachref10_Sum_step1 (n m : Nat) (v1 : List Int) (v2 : Int) (v3 : Int) : pleachref10_Sum_X1 n (m + 1) v1 v2 v3 = pleachref10_Sum_B1 (pleachref10_Sum_X2 n m n) v1 v2 v3 := by kernel_rfl
theorem pleachref10_Sum_step2 (n m1 m : Nat) (v4 : List Int) (v5 : Int) (v6 : Int) (v7 : Int) : pleachref10_Sum_X2 n m1 (m + 1) v4 v5 v6 v7 = pleachref10_Sum_B2 (pleachref10_Sum_X2 n m1 m) (pleachref10_Sum_X1 n m1) v4 v5 v6 v7 := by kernel_rfl
theorem pleachref10_Sum_start (n : Nat) (b_0 : List Int) : evFn pleachref10_Sum_Γ tab pleachref10_Sum_fi n [.val t43] [⟨t94, [false], none⟩] Tryz.f41 (b_0, ()) = pleachref10_Sum_T (pleachref10_Sum_X1 n n) b_0 := by kernel_rfl
theorem pleachref10_Sum_XL2 (n : Nat) (m1 : Nat) (r1 : List Int → Int → Int → Option ((Int × Unit) × Unit)) (h1 : pleachref10_Sum_X1 n m1 = r1) : ∀ m, pleachref10_Sum_X2 n m1 m = pleachref10_Sum_L2 n m1 r1 m
 | 0 => rfl
 | m + 1 => by
  have ih := pleachref10_Sum_XL2 n m1 r1 h1 m
  funext v4 v5 v6 v7
  rw [pleachref10_Sum_step2, ih, h1]
  rfl
theorem pleachref10_Sum_XL1 (n : Nat) : ∀ m, pleachref10_Sum_X1 n m = pleachref10_Sum_L1 n m
 | 0 => rfl
 | m + 1 => by
  have ih := pleachref10_Sum_XL1 n m
  funext v1 v2 v3
  rw [pleachref10_Sum_step1, pleachref10_Sum_XL2 n m _ ih n]
  rfl
noncomputable def pleachref10_Sum_n (n : Nat) (b_0 : List Int) : Option ((Int × Unit) × Unit) := pleachref10_Sum_T (pleachref10_Sum_L1 n n) b_0
noncomputable def pleachref10_Sum (b_0 : List Int) : Option ((Int × Unit) × Unit) := pleachref10_Sum_n 1099511627776 b_0
theorem pleachref10_Sum_eq (n : Nat) (b_0 : List Int) : evFn pleachref10_Sum_Γ tab pleachref10_Sum_fi n [.val t43] [⟨t94, [false], none⟩] Tryz.f41 (b_0, ()) = pleachref10_Sum_n n b_0 := by
  rw [pleachref10_Sum_start, pleachref10_Sum_XL1 n n]
  rfl
noncomputable def pleachref10_Sum_e : Ent := ⟨[.val t43], [⟨t94, [false], none⟩], fun x => pleachref10_Sum x.1⟩
theorem pleachref10_Sum_good : Good tab.ty Tryz.prog 41 pleachref10_Sum_e := by
  refine fn_good (Γ := pleachref10_Sum_Γ) (fi := pleachref10_Sum_fi) (n := 1099511627776) follows gnil tabok Tryz.func41 (by kernel_rfl) (by kernel_rfl) (fun x r h => ?_)
  obtain ⟨b_0, _u⟩ := x
  exact (pleachref10_Sum_eq 1099511627776 b_0).trans h
noncomputable def pleachref10_PutMsg_Γ : Ctx := [(38, pleachref10_MayMsg_e), (39, pleachref10_PutNum_e), (40, pleachref10_PutText_e), (41, pleachref10_Sum_e)]
def pleachref10_PutMsg_fi : Fi := { keep := [], vty := [(4, 43)], vals := [], live := [(0, [1]), (1, [1, 9]), (2, [2]), (3, [1, 3]), (4, [1, 3]), (5, [1, 3, 4]), (6, [1, 3, 4, 5]), (7, [1, 3, 4, 5, 39]), (8, [1, 3, 4, 5]), (9, [1, 3, 4, 5]), (10, [4]), (11, [4, 6]), (12, [2])] }
noncomputable def pleachref10_PutMsg_B1 (L1 : Int → Int → Int → Int → Int → Int → Int → List Int → Int → Int → ByteArray → List Int → List Int → Option (((List Int) × Unit) × Unit)) (v2 : Int) (v3 : Int) (v4 : Int) (v5 : Int) (v6 : Int) (v7 : Int) (v8 : Int) (v9 : List Int) (v10 : Int) (v11 : Int) (v12 : ByteArray) (v13 : List Int) (v14 : List Int) : Option (((List Int) × Unit) × Unit) :=
 bif decide (v2 < (v13.length : Int)) then
  bif decide (0 ≤ v2) && decide (v2 < (v13.length : Int)) then
   bif decide (0 ≤ v2) && decide (v2 < (v13.length : Int)) then
    Option.bind (pleachref10_PutNum v14 (List.getD v13 v2.toNat 0)) fun (r15 : ((List Int) × Unit) × Unit) =>
    L1 (IntKind.wrap .i64 (v2 + 1)) v3 v4 v5 v6 v7 v8 v9 v10 v11 v12 v13 r15.1.1
   else none
  else none
 else
  Option.bind (pleachref10_PutText v14 v12) fun (r16 : ((List Int) × Unit) × Unit) =>
  Option.bind (pleachref10_Sum r16.1.1) fun (r17 : (Int × Unit) × Unit) =>
  bif Nat.ble (r16.1.1.length + 4) 1073741824 then
   some ((r16.1.1 ++ [IntKind.wrap .u8 (Int.fdiv r17.1.1 (2 ^ 24)), IntKind.wrap .u8 (Int.fdiv r17.1.1 (2 ^ 16)), IntKind.wrap .u8 (Int.fdiv r17.1.1 (2 ^ 8)), IntKind.wrap .u8 r17.1.1], ()), ())
  else none
noncomputable def pleachref10_PutMsg_T (L1 : Int → Int → Int → Int → Int → Int → Int → List Int → Int → Int → ByteArray → List Int → List Int → Option (((List Int) × Unit) × Unit)) (m_0 : Int × Int × Int × Int × Int × Int × (List Int) × Int × Int × ByteArray) : Option (((List Int) × Unit) × Unit) :=
 Option.bind (pleachref10_MayMsg m_0) fun (r1 : (Bool × Unit) × Unit) =>
 bif !r1.1.1 then
  some (([], ()), ())
 else
 bif Nat.ble (7 + m_0.2.2.2.2.2.2.1.length) 1073741824 then
  bif Nat.ble (([m_0.1, m_0.2.1, m_0.2.2.1, m_0.2.2.2.1, m_0.2.2.2.2.1, m_0.2.2.2.2.2.1, (m_0.2.2.2.2.2.2.1.length : Int)] ++ m_0.2.2.2.2.2.2.1).length + 2) 1073741824 then
   L1 0 m_0.1 m_0.2.1 m_0.2.2.1 m_0.2.2.2.1 m_0.2.2.2.2.1 m_0.2.2.2.2.2.1 m_0.2.2.2.2.2.2.1 m_0.2.2.2.2.2.2.2.1 m_0.2.2.2.2.2.2.2.2.1 m_0.2.2.2.2.2.2.2.2.2 (([m_0.1, m_0.2.1, m_0.2.2.1, m_0.2.2.2.1, m_0.2.2.2.2.1, m_0.2.2.2.2.2.1, (m_0.2.2.2.2.2.2.1.length : Int)] ++ m_0.2.2.2.2.2.2.1) ++ [m_0.2.2.2.2.2.2.2.1, m_0.2.2.2.2.2.2.2.2.1]) []
  else none
 else none
noncomputable def pleachref10_PutMsg_L1 (n : Nat) : Nat → Int → Int → Int → Int → Int → Int → Int → List Int → Int → Int → ByteArray → List Int → List Int → Option (((List Int) × Unit) × Unit) := iter (fun _ _ _ _ _ _ _ _ _ _ _ _ _ => none) fun L => pleachref10_PutMsg_B1 L
noncomputable def pleachref10_PutMsg_X1 (n m : Nat) (v2 : Int) (v3 : Int) (v4 : Int) (v5 : Int) (v6 : Int) (v7 : Int) (v8 : Int) (v9 : List Int) (v10 : Int) (v11 : Int) (v12 : ByteArray) (v13 : List Int) (v14 : List Int) : Option (((List Int) × Unit) × Unit) :=
 atLoop pleachref10_PutMsg_Γ tab (fiB [.val t40] pleachref10_PutMsg_fi) n [.val t40] [⟨t43, [true], none⟩] Tryz.f10 [1, 1, 1, 1, 1, 0, 1, 0] [] [1, 3, 4, 5] m
 ⟨[(1, SV.cv (CV.one (LV.ptr (1, 0) 0))), (3, SV.cv (CV.one (LV.ref (888888, 3)))), (4, SV.cv (CV.one (LV.ref (888888, 4)))), (5, SV.cv (CV.one (LV.pure t2 v2)))],
  [((1, 0), Ob.box 41 [LV.pure t2 v3, LV.pure t2 v4, LV.pure t2 v5, LV.pure t2 v6, LV.pure t2 v7, LV.pure t2 v8, LV.pure t23 v9, LV.pure t2 v10, LV.pure t2 v11, LV.pure t9 v12]), ((888888, 3), Ob.row 3 t2 v13), ((888888, 4), Ob.row 5 t5 v14)]⟩
theorem pleachref10_PutMsg_step1 (n m : Nat) (v2 : Int) (v3 : Int) (v4 : Int) (v5 : Int) (v6 : Int) (v7 : Int) (v8 : Int) (v9 : List Int) (v10 : Int) (v11 : Int) (v12 : ByteArray) (v13 : List Int) (v14 : List Int) : pleachref10_PutMsg_X1 n (m + 1) v2 v3 v4 v5 v6 v7 v8 v9 v10 v11 v12 v13 v14 = pleachref10_PutMsg_B1 (pleachref10_PutMsg_X1 n m) v2 v3 v4 v5 v6 v7 v8 v9 v10 v11 v12 v13 v14 := by kernel_rfl
theorem pleachref10_PutMsg_start (n : Nat) (m_0 : Int × Int × Int × Int × Int × Int × (List Int) × Int × Int × ByteArray) : evFn pleachref10_PutMsg_Γ tab pleachref10_PutMsg_fi n [.val t40] [⟨t43, [true], none⟩] Tryz.f10 (m_0, ()) = pleachref10_PutMsg_T (pleachref10_PutMsg_X1 n n) m_0 := by kernel_rfl
theorem pleachref10_PutMsg_XL1 (n : Nat) : ∀ m, pleachref10_PutMsg_X1 n m = pleachref10_PutMsg_L1 n m
 | 0 => rfl
 | m + 1 => by
  have ih := pleachref10_PutMsg_XL1 n m
  funext v2 v3 v4 v5 v6 v7 v8 v9 v10 v11 v12 v13 v14
  rw [pleachref10_PutMsg_step1, ih]
  rfl
noncomputable def pleachref10_PutMsg_n (n : Nat) (m_0 : Int × Int × Int × Int × Int × Int × (List Int) × Int × Int × ByteArray) : Option (((List Int) × Unit) × Unit) := pleachref10_PutMsg_T (pleachref10_PutMsg_L1 n n) m_0
noncomputable def pleachref10_PutMsg (m_0 : Int × Int × Int × Int × Int × Int × (List Int) × Int × Int × ByteArray) : Option (((List Int) × Unit) × Unit) := pleachref10_PutMsg_n 1099511627776 m_0
theorem pleachref10_PutMsg_eq (n : Nat) (m_0 : Int × Int × Int × Int × Int × Int × (List Int) × Int × Int × ByteArray) : evFn pleachref10_PutMsg_Γ tab pleachref10_PutMsg_fi n [.val t40] [⟨t43, [true], none⟩] Tryz.f10 (m_0, ()) = pleachref10_PutMsg_n n m_0 := by
  rw [pleachref10_PutMsg_start, pleachref10_PutMsg_XL1 n n]
  rfl
noncomputable def pleachref10_PutMsg_e : Ent := ⟨[.val t40], [⟨t43, [true], none⟩], fun x => pleachref10_PutMsg x.1⟩
theorem pleachref10_PutMsg_good : Good tab.ty Tryz.prog 10 pleachref10_PutMsg_e := by
  refine fn_good (Γ := pleachref10_PutMsg_Γ) (fi := pleachref10_PutMsg_fi) (n := 1099511627776) follows (gcons pleachref10_MayMsg_good (gcons pleachref10_PutNum_good (gcons pleachref10_PutText_good (gcons pleachref10_Sum_good gnil)))) tabok Tryz.func10 (by kernel_rfl) (by kernel_rfl) (fun x r h => ?_)
  obtain ⟨m_0, _u⟩ := x
  exact (pleachref10_PutMsg_eq 1099511627776 m_0).trans h
noncomputable def pleachref1_SameKids_Γ : Ctx := []
def pleachref1_SameKids_fi : Fi := { keep := [], vty := [], vals := [], live := [(0, [0, 1]), (1, [0, 1, 10]), (2, [4]), (3, [0, 1, 5]), (4, [0, 1, 5, 14]), (5, [0, 1, 5]), (6, [0, 1, 5, 25]), (7, [4]), (8, [4])] }
noncomputable def pleachref1_SameKids_B1 (L1 : (List (Int × Int × Int)) → (List (Int × Int × Int)) → Int → Option ((Bool × Unit) × Unit)) (v1 : List (Int × Int × Int)) (v2 : List (Int × Int × Int)) (v3 : Int) : Option ((Bool × Unit) × Unit) :=
 bif decide (v3 < (v1.length : Int)) then
  bif decide (0 ≤ v3) && decide (v3 < (v1.length : Int)) then
   bif decide (0 ≤ v3) && decide (v3 < (v2.length : Int)) then
    bif !((((List.getD v1 v3.toNat (0, 0, 0)).1) == ((List.getD v2 v3.toNat (0, 0, 0)).1)) && (((((List.getD v1 v3.toNat (0, 0, 0)).2).1) == (((List.getD v2 v3.toNat (0, 0, 0)).2).1)) && (((((List.getD v1 v3.toNat (0, 0, 0)).2).2) == (((List.getD v2 v3.toNat (0, 0, 0)).2).2)) && true))) then
     some ((false, ()), ())
    else
     L1 v1 v2 (IntKind.wrap .i64 (v3 + 1))
   else none
  else none
 else
  some ((true, ()), ())
noncomputable def pleachref1_SameKids_T (L1 : (List (Int × Int × Int)) → (List (Int × Int × Int)) → Int → Option ((Bool × Unit) × Unit)) (a_0 : List (Int × Int × Int)) (b_1 : List (Int × Int × Int)) : Option ((Bool × Unit) × Unit) :=
 bif (a_0.length : Int) != (b_1.length : Int) then
  some ((false, ()), ())
 else
  L1 a_0 b_1 0
noncomputable def pleachref1_SameKids_L1 (n : Nat) : Nat → (List (Int × Int × Int)) → (List (Int × Int × Int)) → Int → Option ((Bool × Unit) × Unit) := iter (fun _ _ _ => none) fun L => pleachref1_SameKids_B1 L
noncomputable def pleachref1_SameKids_X1 (n m : Nat) (v1 : List (Int × Int × Int)) (v2 : List (Int × Int × Int)) (v3 : Int) : Option ((Bool × Unit) × Unit) :=
 atLoop pleachref1_SameKids_Γ tab (fiB [.val t24, .val t24] pleachref1_SameKids_fi) n [.val t24, .val t24] [⟨t4, [false], none⟩] Tryz.f106 [1, 1, 0, 1, 0] [] [0, 1, 5] m
 ⟨[(0, SV.cv (CV.one (LV.pure t24 v1))), (1, SV.cv (CV.one (LV.pure t24 v2))), (5, SV.cv (CV.one (LV.pure t2 v3)))],
  []⟩
theorem pleachref1_SameKids_step1 (n m : Nat) (v1 : List (Int × Int × Int)) (v2 : List (Int × Int × Int)) (v3 : Int) : pleachref1_SameKids_X1 n (m + 1) v1 v2 v3 = pleachref1_SameKids_B1 (pleachref1_SameKids_X1 n m) v1 v2 v3 := by kernel_rfl
theorem pleachref1_SameKids_start (n : Nat) (a_0 : List (Int × Int × Int)) (b_1 : List (Int × Int × Int)) : evFn pleachref1_SameKids_Γ tab pleachref1_SameKids_fi n [.val t24, .val t24] [⟨t4, [false], none⟩] Tryz.f106 (a_0, b_1, ()) = pleachref1_SameKids_T (pleachref1_SameKids_X1 n n) a_0 b_1 := by kernel_rfl
theorem pleachref1_SameKids_XL1 (n : Nat) : ∀ m, pleachref1_SameKids_X1 n m = pleachref1_SameKids_L1 n m
 | 0 => rfl
 | m + 1 => by
  have ih := pleachref1_SameKids_XL1 n m
  funext v1 v2 v3
  rw [pleachref1_SameKids_step1, ih]
  rfl
noncomputable def pleachref1_SameKids_n (n : Nat) (a_0 : List (Int × Int × Int)) (b_1 : List (Int × Int × Int)) : Option ((Bool × Unit) × Unit) := pleachref1_SameKids_T (pleachref1_SameKids_L1 n n) a_0 b_1
noncomputable def pleachref1_SameKids (a_0 : List (Int × Int × Int)) (b_1 : List (Int × Int × Int)) : Option ((Bool × Unit) × Unit) := pleachref1_SameKids_n 1099511627776 a_0 b_1
theorem pleachref1_SameKids_eq (n : Nat) (a_0 : List (Int × Int × Int)) (b_1 : List (Int × Int × Int)) : evFn pleachref1_SameKids_Γ tab pleachref1_SameKids_fi n [.val t24, .val t24] [⟨t4, [false], none⟩] Tryz.f106 (a_0, b_1, ()) = pleachref1_SameKids_n n a_0 b_1 := by
  rw [pleachref1_SameKids_start, pleachref1_SameKids_XL1 n n]
  rfl
noncomputable def pleachref1_SameKids_e : Ent := ⟨[.val t24, .val t24], [⟨t4, [false], none⟩], fun x => pleachref1_SameKids x.1 x.2.1⟩
theorem pleachref1_SameKids_good : Good tab.ty Tryz.prog 106 pleachref1_SameKids_e := by
  refine fn_good (Γ := pleachref1_SameKids_Γ) (fi := pleachref1_SameKids_fi) (n := 1099511627776) follows gnil tabok Tryz.func106 (by kernel_rfl) (by kernel_rfl) (fun x r h => ?_)
  obtain ⟨a_0, b_1, _u⟩ := x
  exact (pleachref1_SameKids_eq 1099511627776 a_0 b_1).trans h
noncomputable def pleachref19_SameTie_Γ : Ctx := [(105, pleachref1_SameInts_e), (106, pleachref1_SameKids_e)]
def pleachref19_SameTie_fi : Fi := { keep := [], vty := [], vals := [], live := [(0, [2, 3, 11, 12, 13, 14, 15, 18, 19, 20, 21, 22, 25, 26, 27, 28, 29, 32, 33, 34, 35, 36, 39, 40, 41, 42, 43, 46, 47, 48, 49, 50, 53, 54, 55, 56, 57, 60, 61, 62, 63, 64, 67, 68, 69, 70, 71, 74, 75, 76, 77, 78, 81, 82, 83, 84, 85, 88, 89, 90, 91, 92]), (1, [4])] }
noncomputable def pleachref19_SameTie (a_0 : Int × Int × Int × Int × Int × Int × (List Int) × Int × Int × Int × Int × Int × List (Int × Int × Int)) (b_1 : Int × Int × Int × Int × Int × Int × (List Int) × Int × Int × Int × Int × Int × List (Int × Int × Int)) : Option ((Bool × Unit) × Unit) :=
 bif a_0.1 == b_1.1 then
  bif a_0.2.1 == b_1.2.1 then
   bif a_0.2.2.1 == b_1.2.2.1 then
    bif a_0.2.2.2.1 == b_1.2.2.2.1 then
     bif a_0.2.2.2.2.1 == b_1.2.2.2.2.1 then
      bif a_0.2.2.2.2.2.1 == b_1.2.2.2.2.2.1 then
       Option.bind (pleachref1_SameInts a_0.2.2.2.2.2.2.1 b_1.2.2.2.2.2.2.1) fun (r1 : (Bool × Unit) × Unit) =>
       bif r1.1.1 then
        bif a_0.2.2.2.2.2.2.2.1 == b_1.2.2.2.2.2.2.2.1 then
         bif a_0.2.2.2.2.2.2.2.2.1 == b_1.2.2.2.2.2.2.2.2.1 then
          bif a_0.2.2.2.2.2.2.2.2.2.1 == b_1.2.2.2.2.2.2.2.2.2.1 then
           bif a_0.2.2.2.2.2.2.2.2.2.2.1 == b_1.2.2.2.2.2.2.2.2.2.2.1 then
            bif a_0.2.2.2.2.2.2.2.2.2.2.2.1 == b_1.2.2.2.2.2.2.2.2.2.2.2.1 then
            Option.bind (pleachref1_SameKids a_0.2.2.2.2.2.2.2.2.2.2.2.2 b_1.2.2.2.2.2.2.2.2.2.2.2.2) fun (r2 : (Bool × Unit) × Unit) =>
            some ((r2.1.1, ()), ())
            else
            some ((false, ()), ())
           else
            some ((false, ()), ())
          else
           some ((false, ()), ())
         else
          some ((false, ()), ())
        else
         some ((false, ()), ())
       else
        some ((false, ()), ())
      else
       some ((false, ()), ())
     else
      some ((false, ()), ())
    else
     some ((false, ()), ())
   else
    some ((false, ()), ())
  else
   some ((false, ()), ())
 else
  some ((false, ()), ())
theorem pleachref19_SameTie_eq (a_0 : Int × Int × Int × Int × Int × Int × (List Int) × Int × Int × Int × Int × Int × List (Int × Int × Int)) (b_1 : Int × Int × Int × Int × Int × Int × (List Int) × Int × Int × Int × Int × Int × List (Int × Int × Int)) : evFn pleachref19_SameTie_Γ tab pleachref19_SameTie_fi 1 [.val t25, .val t25] [⟨t4, [false], none⟩] Tryz.f42 (a_0, b_1, ()) = pleachref19_SameTie a_0 b_1 := by kernel_rfl
noncomputable def pleachref19_SameTie_e : Ent := ⟨[.val t25, .val t25], [⟨t4, [false], none⟩], fun x => pleachref19_SameTie x.1 x.2.1⟩
theorem pleachref19_SameTie_good : Good tab.ty Tryz.prog 42 pleachref19_SameTie_e := by
  refine fn_good (Γ := pleachref19_SameTie_Γ) (fi := pleachref19_SameTie_fi) (n := 1) follows (gcons pleachref1_SameInts_good (gcons pleachref1_SameKids_good gnil)) tabok Tryz.func42 (by kernel_rfl) (by kernel_rfl) (fun x r h => ?_)
  obtain ⟨a_0, b_1, _u⟩ := x
  exact (pleachref19_SameTie_eq a_0 b_1).trans h
noncomputable def pleachref13_SameItems_Γ : Ctx := []
def pleachref13_SameItems_fi : Fi := { keep := [], vty := [], vals := [], live := [(0, [0, 1]), (1, [0, 1, 10]), (2, [4]), (3, [0, 1, 5]), (4, [0, 1, 5, 14]), (5, [0, 1, 5]), (6, [0, 1, 5, 25]), (7, [4]), (8, [4])] }
noncomputable def pleachref13_SameItems_B1 (L1 : (List (Int × ByteArray)) → (List (Int × ByteArray)) → Int → Option ((Bool × Unit) × Unit)) (v1 : List (Int × ByteArray)) (v2 : List (Int × ByteArray)) (v3 : Int) : Option ((Bool × Unit) × Unit) :=
 bif decide (v3 < (v1.length : Int)) then
  bif decide (0 ≤ v3) && decide (v3 < (v1.length : Int)) then
   bif decide (0 ≤ v3) && decide (v3 < (v2.length : Int)) then
    bif !((((List.getD v1 v3.toNat (0, (⟨#[]⟩ : ByteArray))).1) == ((List.getD v2 v3.toNat (0, (⟨#[]⟩ : ByteArray))).1)) && ((strEq ((List.getD v1 v3.toNat (0, (⟨#[]⟩ : ByteArray))).2) ((List.getD v2 v3.toNat (0, (⟨#[]⟩ : ByteArray))).2)) && true)) then
     some ((false, ()), ())
    else
     L1 v1 v2 (IntKind.wrap .i64 (v3 + 1))
   else none
  else none
 else
  some ((true, ()), ())
noncomputable def pleachref13_SameItems_T (L1 : (List (Int × ByteArray)) → (List (Int × ByteArray)) → Int → Option ((Bool × Unit) × Unit)) (a_0 : List (Int × ByteArray)) (b_1 : List (Int × ByteArray)) : Option ((Bool × Unit) × Unit) :=
 bif (a_0.length : Int) != (b_1.length : Int) then
  some ((false, ()), ())
 else
  L1 a_0 b_1 0
noncomputable def pleachref13_SameItems_L1 (n : Nat) : Nat → (List (Int × ByteArray)) → (List (Int × ByteArray)) → Int → Option ((Bool × Unit) × Unit) := iter (fun _ _ _ => none) fun L => pleachref13_SameItems_B1 L
noncomputable def pleachref13_SameItems_X1 (n m : Nat) (v1 : List (Int × ByteArray)) (v2 : List (Int × ByteArray)) (v3 : Int) : Option ((Bool × Unit) × Unit) :=
 atLoop pleachref13_SameItems_Γ tab (fiB [.val t27, .val t27] pleachref13_SameItems_fi) n [.val t27, .val t27] [⟨t4, [false], none⟩] Tryz.f107 [1, 1, 0, 1, 0] [] [0, 1, 5] m
 ⟨[(0, SV.cv (CV.one (LV.pure t27 v1))), (1, SV.cv (CV.one (LV.pure t27 v2))), (5, SV.cv (CV.one (LV.pure t2 v3)))],
  []⟩
theorem pleachref13_SameItems_step1 (n m : Nat) (v1 : List (Int × ByteArray)) (v2 : List (Int × ByteArray)) (v3 : Int) : pleachref13_SameItems_X1 n (m + 1) v1 v2 v3 = pleachref13_SameItems_B1 (pleachref13_SameItems_X1 n m) v1 v2 v3 := by kernel_rfl
theorem pleachref13_SameItems_start (n : Nat) (a_0 : List (Int × ByteArray)) (b_1 : List (Int × ByteArray)) : evFn pleachref13_SameItems_Γ tab pleachref13_SameItems_fi n [.val t27, .val t27] [⟨t4, [false], none⟩] Tryz.f107 (a_0, b_1, ()) = pleachref13_SameItems_T (pleachref13_SameItems_X1 n n) a_0 b_1 := by kernel_rfl
theorem pleachref13_SameItems_XL1 (n : Nat) : ∀ m, pleachref13_SameItems_X1 n m = pleachref13_SameItems_L1 n m
 | 0 => rfl
 | m + 1 => by
  have ih := pleachref13_SameItems_XL1 n m
  funext v1 v2 v3
  rw [pleachref13_SameItems_step1, ih]
  rfl
noncomputable def pleachref13_SameItems_n (n : Nat) (a_0 : List (Int × ByteArray)) (b_1 : List (Int × ByteArray)) : Option ((Bool × Unit) × Unit) := pleachref13_SameItems_T (pleachref13_SameItems_L1 n n) a_0 b_1
noncomputable def pleachref13_SameItems (a_0 : List (Int × ByteArray)) (b_1 : List (Int × ByteArray)) : Option ((Bool × Unit) × Unit) := pleachref13_SameItems_n 1099511627776 a_0 b_1
theorem pleachref13_SameItems_eq (n : Nat) (a_0 : List (Int × ByteArray)) (b_1 : List (Int × ByteArray)) : evFn pleachref13_SameItems_Γ tab pleachref13_SameItems_fi n [.val t27, .val t27] [⟨t4, [false], none⟩] Tryz.f107 (a_0, b_1, ()) = pleachref13_SameItems_n n a_0 b_1 := by
  rw [pleachref13_SameItems_start, pleachref13_SameItems_XL1 n n]
  rfl
noncomputable def pleachref13_SameItems_e : Ent := ⟨[.val t27, .val t27], [⟨t4, [false], none⟩], fun x => pleachref13_SameItems x.1 x.2.1⟩
theorem pleachref13_SameItems_good : Good tab.ty Tryz.prog 107 pleachref13_SameItems_e := by
  refine fn_good (Γ := pleachref13_SameItems_Γ) (fi := pleachref13_SameItems_fi) (n := 1099511627776) follows gnil tabok Tryz.func107 (by kernel_rfl) (by kernel_rfl) (fun x r h => ?_)
  obtain ⟨a_0, b_1, _u⟩ := x
  exact (pleachref13_SameItems_eq 1099511627776 a_0 b_1).trans h
noncomputable def pleachref13_SameEvents_Γ : Ctx := []
def pleachref13_SameEvents_fi : Fi := { keep := [], vty := [], vals := [], live := [(0, [0, 1]), (1, [0, 1, 10]), (2, [4]), (3, [0, 1, 5]), (4, [0, 1, 5, 14]), (5, [0, 1, 5]), (6, [0, 1, 5, 25]), (7, [4]), (8, [4])] }
noncomputable def pleachref13_SameEvents_B1 (L1 : (List (Int × Int × Int × ByteArray × Int)) → (List (Int × Int × Int × ByteArray × Int)) → Int → Option ((Bool × Unit) × Unit)) (v1 : List (Int × Int × Int × ByteArray × Int)) (v2 : List (Int × Int × Int × ByteArray × Int)) (v3 : Int) : Option ((Bool × Unit) × Unit) :=
 bif decide (v3 < (v1.length : Int)) then
  bif decide (0 ≤ v3) && decide (v3 < (v1.length : Int)) then
   bif decide (0 ≤ v3) && decide (v3 < (v2.length : Int)) then
    bif !((((List.getD v1 v3.toNat (0, 0, 0, (⟨#[]⟩ : ByteArray), 0)).1) == ((List.getD v2 v3.toNat (0, 0, 0, (⟨#[]⟩ : ByteArray), 0)).1)) && (((((List.getD v1 v3.toNat (0, 0, 0, (⟨#[]⟩ : ByteArray), 0)).2).1) == (((List.getD v2 v3.toNat (0, 0, 0, (⟨#[]⟩ : ByteArray), 0)).2).1)) && ((((((List.getD v1 v3.toNat (0, 0, 0, (⟨#[]⟩ : ByteArray), 0)).2).2).1) == ((((List.getD v2 v3.toNat (0, 0, 0, (⟨#[]⟩ : ByteArray), 0)).2).2).1)) && ((strEq (((((List.getD v1 v3.toNat (0, 0, 0, (⟨#[]⟩ : ByteArray), 0)).2).2).2).1) (((((List.getD v2 v3.toNat (0, 0, 0, (⟨#[]⟩ : ByteArray), 0)).2).2).2).1)) && (((((((List.getD v1 v3.toNat (0, 0, 0, (⟨#[]⟩ : ByteArray), 0)).2).2).2).2) == (((((List.getD v2 v3.toNat (0, 0, 0, (⟨#[]⟩ : ByteArray), 0)).2).2).2).2)) && true))))) then
     some ((false, ()), ())
    else
     L1 v1 v2 (IntKind.wrap .i64 (v3 + 1))
   else none
  else none
 else
  some ((true, ()), ())
noncomputable def pleachref13_SameEvents_T (L1 : (List (Int × Int × Int × ByteArray × Int)) → (List (Int × Int × Int × ByteArray × Int)) → Int → Option ((Bool × Unit) × Unit)) (a_0 : List (Int × Int × Int × ByteArray × Int)) (b_1 : List (Int × Int × Int × ByteArray × Int)) : Option ((Bool × Unit) × Unit) :=
 bif (a_0.length : Int) != (b_1.length : Int) then
  some ((false, ()), ())
 else
  L1 a_0 b_1 0
noncomputable def pleachref13_SameEvents_L1 (n : Nat) : Nat → (List (Int × Int × Int × ByteArray × Int)) → (List (Int × Int × Int × ByteArray × Int)) → Int → Option ((Bool × Unit) × Unit) := iter (fun _ _ _ => none) fun L => pleachref13_SameEvents_B1 L
noncomputable def pleachref13_SameEvents_X1 (n m : Nat) (v1 : List (Int × Int × Int × ByteArray × Int)) (v2 : List (Int × Int × Int × ByteArray × Int)) (v3 : Int) : Option ((Bool × Unit) × Unit) :=
 atLoop pleachref13_SameEvents_Γ tab (fiB [.val t28, .val t28] pleachref13_SameEvents_fi) n [.val t28, .val t28] [⟨t4, [false], none⟩] Tryz.f108 [1, 1, 0, 1, 0] [] [0, 1, 5] m
 ⟨[(0, SV.cv (CV.one (LV.pure t28 v1))), (1, SV.cv (CV.one (LV.pure t28 v2))), (5, SV.cv (CV.one (LV.pure t2 v3)))],
  []⟩
theorem pleachref13_SameEvents_step1 (n m : Nat) (v1 : List (Int × Int × Int × ByteArray × Int)) (v2 : List (Int × Int × Int × ByteArray × Int)) (v3 : Int) : pleachref13_SameEvents_X1 n (m + 1) v1 v2 v3 = pleachref13_SameEvents_B1 (pleachref13_SameEvents_X1 n m) v1 v2 v3 := by kernel_rfl
theorem pleachref13_SameEvents_start (n : Nat) (a_0 : List (Int × Int × Int × ByteArray × Int)) (b_1 : List (Int × Int × Int × ByteArray × Int)) : evFn pleachref13_SameEvents_Γ tab pleachref13_SameEvents_fi n [.val t28, .val t28] [⟨t4, [false], none⟩] Tryz.f108 (a_0, b_1, ()) = pleachref13_SameEvents_T (pleachref13_SameEvents_X1 n n) a_0 b_1 := by kernel_rfl
theorem pleachref13_SameEvents_XL1 (n : Nat) : ∀ m, pleachref13_SameEvents_X1 n m = pleachref13_SameEvents_L1 n m
 | 0 => rfl
 | m + 1 => by
  have ih := pleachref13_SameEvents_XL1 n m
  funext v1 v2 v3
  rw [pleachref13_SameEvents_step1, ih]
  rfl
noncomputable def pleachref13_SameEvents_n (n : Nat) (a_0 : List (Int × Int × Int × ByteArray × Int)) (b_1 : List (Int × Int × Int × ByteArray × Int)) : Option ((Bool × Unit) × Unit) := pleachref13_SameEvents_T (pleachref13_SameEvents_L1 n n) a_0 b_1
noncomputable def pleachref13_SameEvents (a_0 : List (Int × Int × Int × ByteArray × Int)) (b_1 : List (Int × Int × Int × ByteArray × Int)) : Option ((Bool × Unit) × Unit) := pleachref13_SameEvents_n 1099511627776 a_0 b_1
theorem pleachref13_SameEvents_eq (n : Nat) (a_0 : List (Int × Int × Int × ByteArray × Int)) (b_1 : List (Int × Int × Int × ByteArray × Int)) : evFn pleachref13_SameEvents_Γ tab pleachref13_SameEvents_fi n [.val t28, .val t28] [⟨t4, [false], none⟩] Tryz.f108 (a_0, b_1, ()) = pleachref13_SameEvents_n n a_0 b_1 := by
  rw [pleachref13_SameEvents_start, pleachref13_SameEvents_XL1 n n]
  rfl
noncomputable def pleachref13_SameEvents_e : Ent := ⟨[.val t28, .val t28], [⟨t4, [false], none⟩], fun x => pleachref13_SameEvents x.1 x.2.1⟩
theorem pleachref13_SameEvents_good : Good tab.ty Tryz.prog 108 pleachref13_SameEvents_e := by
  refine fn_good (Γ := pleachref13_SameEvents_Γ) (fi := pleachref13_SameEvents_fi) (n := 1099511627776) follows gnil tabok Tryz.func108 (by kernel_rfl) (by kernel_rfl) (fun x r h => ?_)
  obtain ⟨a_0, b_1, _u⟩ := x
  exact (pleachref13_SameEvents_eq 1099511627776 a_0 b_1).trans h
noncomputable def pleachref13_SameFeed_Γ : Ctx := [(107, pleachref13_SameItems_e), (108, pleachref13_SameEvents_e)]
def pleachref13_SameFeed_fi : Fi := { keep := [], vty := [], vals := [], live := [(0, [2, 3, 11, 12, 13, 14, 15, 18, 19, 20, 21, 22, 25, 26, 27, 28, 29, 32, 33, 34, 35, 36, 39, 40, 41, 42, 43]), (1, [4])] }
noncomputable def pleachref13_SameFeed (a_0 : Int × Int × (List (Int × ByteArray)) × (List (Int × ByteArray)) × (List (Int × Int × Int × ByteArray × Int)) × Int × Int) (b_1 : Int × Int × (List (Int × ByteArray)) × (List (Int × ByteArray)) × (List (Int × Int × Int × ByteArray × Int)) × Int × Int) : Option ((Bool × Unit) × Unit) :=
 bif a_0.1 == b_1.1 then
  bif a_0.2.1 == b_1.2.1 then
   Option.bind (pleachref13_SameItems a_0.2.2.1 b_1.2.2.1) fun (r1 : (Bool × Unit) × Unit) =>
   bif r1.1.1 then
    Option.bind (pleachref13_SameItems a_0.2.2.2.1 b_1.2.2.2.1) fun (r2 : (Bool × Unit) × Unit) =>
    bif r2.1.1 then
     Option.bind (pleachref13_SameEvents a_0.2.2.2.2.1 b_1.2.2.2.2.1) fun (r3 : (Bool × Unit) × Unit) =>
     bif r3.1.1 then
      some (((a_0.2.2.2.2.2.1 == b_1.2.2.2.2.2.1) && ((a_0.2.2.2.2.2.2 == b_1.2.2.2.2.2.2) && true), ()), ())
     else
      some ((false, ()), ())
    else
     some ((false, ()), ())
   else
    some ((false, ()), ())
  else
   some ((false, ()), ())
 else
  some ((false, ()), ())
theorem pleachref13_SameFeed_eq (a_0 : Int × Int × (List (Int × ByteArray)) × (List (Int × ByteArray)) × (List (Int × Int × Int × ByteArray × Int)) × Int × Int) (b_1 : Int × Int × (List (Int × ByteArray)) × (List (Int × ByteArray)) × (List (Int × Int × Int × ByteArray × Int)) × Int × Int) : evFn pleachref13_SameFeed_Γ tab pleachref13_SameFeed_fi 1 [.val t31, .val t31] [⟨t4, [false], none⟩] Tryz.f43 (a_0, b_1, ()) = pleachref13_SameFeed a_0 b_1 := by kernel_rfl
noncomputable def pleachref13_SameFeed_e : Ent := ⟨[.val t31, .val t31], [⟨t4, [false], none⟩], fun x => pleachref13_SameFeed x.1 x.2.1⟩
theorem pleachref13_SameFeed_good : Good tab.ty Tryz.prog 43 pleachref13_SameFeed_e := by
  refine fn_good (Γ := pleachref13_SameFeed_Γ) (fi := pleachref13_SameFeed_fi) (n := 1) follows (gcons pleachref13_SameItems_good (gcons pleachref13_SameEvents_good gnil)) tabok Tryz.func43 (by kernel_rfl) (by kernel_rfl) (fun x r h => ?_)
  obtain ⟨a_0, b_1, _u⟩ := x
  exact (pleachref13_SameFeed_eq a_0 b_1).trans h
noncomputable def pleachref19_SameNode_Γ : Ctx := [(42, pleachref19_SameTie_e), (43, pleachref13_SameFeed_e)]
def pleachref19_SameNode_fi : Fi := { keep := [], vty := [], vals := [], live := [(0, [2, 3, 11, 12, 13, 14, 15, 18, 19, 20, 21, 22, 25, 26, 27, 28, 29, 32, 33, 34, 35, 36, 39, 40, 41, 42, 43]), (1, [4])] }
noncomputable def pleachref19_SameNode (a_0 : Bool × Int × ByteArray × (Int × Int × Int × Int × Int × Int × (List Int) × Int × Int × Int × Int × Int × List (Int × Int × Int)) × (Int × Int × (List (Int × ByteArray)) × (List (Int × ByteArray)) × (List (Int × Int × Int × ByteArray × Int)) × Int × Int) × Int) (b_1 : Bool × Int × ByteArray × (Int × Int × Int × Int × Int × Int × (List Int) × Int × Int × Int × Int × Int × List (Int × Int × Int)) × (Int × Int × (List (Int × ByteArray)) × (List (Int × ByteArray)) × (List (Int × Int × Int × ByteArray × Int)) × Int × Int) × Int) : Option ((Bool × Unit) × Unit) :=
 bif a_0.1 == b_1.1 then
  bif a_0.2.1 == b_1.2.1 then
   bif strEq a_0.2.2.1 b_1.2.2.1 then
    Option.bind (pleachref19_SameTie a_0.2.2.2.1 b_1.2.2.2.1) fun (r1 : (Bool × Unit) × Unit) =>
    bif r1.1.1 then
     Option.bind (pleachref13_SameFeed a_0.2.2.2.2.1 b_1.2.2.2.2.1) fun (r2 : (Bool × Unit) × Unit) =>
     bif r2.1.1 then
      some ((a_0.2.2.2.2.2 == b_1.2.2.2.2.2, ()), ())
     else
      some ((false, ()), ())
    else
     some ((false, ()), ())
   else
    some ((false, ()), ())
  else
   some ((false, ()), ())
 else
  some ((false, ()), ())
theorem pleachref19_SameNode_eq (a_0 : Bool × Int × ByteArray × (Int × Int × Int × Int × Int × Int × (List Int) × Int × Int × Int × Int × Int × List (Int × Int × Int)) × (Int × Int × (List (Int × ByteArray)) × (List (Int × ByteArray)) × (List (Int × Int × Int × ByteArray × Int)) × Int × Int) × Int) (b_1 : Bool × Int × ByteArray × (Int × Int × Int × Int × Int × Int × (List Int) × Int × Int × Int × Int × Int × List (Int × Int × Int)) × (Int × Int × (List (Int × ByteArray)) × (List (Int × ByteArray)) × (List (Int × Int × Int × ByteArray × Int)) × Int × Int) × Int) : evFn pleachref19_SameNode_Γ tab pleachref19_SameNode_fi 1 [.val t33, .val t33] [⟨t4, [false], none⟩] Tryz.f11 (a_0, b_1, ()) = pleachref19_SameNode a_0 b_1 := by kernel_rfl
noncomputable def pleachref19_SameNode_e : Ent := ⟨[.val t33, .val t33], [⟨t4, [false], none⟩], fun x => pleachref19_SameNode x.1 x.2.1⟩
theorem pleachref19_SameNode_good : Good tab.ty Tryz.prog 11 pleachref19_SameNode_e := by
  refine fn_good (Γ := pleachref19_SameNode_Γ) (fi := pleachref19_SameNode_fi) (n := 1) follows (gcons pleachref19_SameTie_good (gcons pleachref13_SameFeed_good gnil)) tabok Tryz.func11 (by kernel_rfl) (by kernel_rfl) (fun x r h => ?_)
  obtain ⟨a_0, b_1, _u⟩ := x
  exact (pleachref19_SameNode_eq a_0 b_1).trans h
noncomputable def pleachlaw20_NodeForms_Γ : Ctx := [(6, pleachlaw20_begun_e), (7, node_Join_e), (8, node_Tick_e), (9, node_Comes_e), (10, pleachref10_PutMsg_e), (11, pleachref19_SameNode_e)]
def pleachlaw20_NodeForms_fi : Fi := { keep := [], vty := [(3, 37), (18, 37), (22, 37), (29, 37), (44, 37), (72, 37), (76, 37), (83, 37), (96, 37), (112, 37), (128, 37), (132, 37), (139, 37), (146, 37), (153, 37), (160, 37), (179, 37), (183, 37), (190, 37), (197, 37), (204, 37), (211, 37), (225, 37), (239, 37), (243, 37), (250, 37), (257, 37), (264, 37), (271, 37), (278, 37)], vals := [], live := [(0, [22, 23, 24, 25, 26, 29, 30, 31, 32, 33, 48, 49, 50, 51, 54, 55, 56, 57, 60, 61, 62, 63, 76, 77, 78, 79, 80, 83, 84, 85, 86, 87, 100, 101, 102, 103, 116, 117, 118, 119, 132, 133, 134, 135, 136, 139, 140, 141, 142, 143, 146, 147, 148, 149, 150, 153, 154, 155, 156, 157, 160, 161, 162, 163, 164, 167, 168, 169, 170, 183, 184, 185, 186, 187, 190, 191, 192, 193, 194, 197, 198, 199, 200, 201, 204, 205, 206, 207, 208, 211, 212, 213, 214, 215, 229, 230, 231, 232, 243, 244, 245, 246, 247, 250, 251, 252, 253, 254, 257, 258, 259, 260, 261, 264, 265, 266, 267, 268, 271, 272, 273, 274, 275, 278, 279, 280, 281, 282, 285, 286, 287, 288]), (1, [7, 22, 23, 24, 25, 26, 29, 30, 31, 32, 33, 48, 49, 50, 51, 54, 55, 56, 57, 60, 61, 62, 63, 76, 77, 78, 79, 80, 83, 84, 85, 86, 87, 100, 101, 102, 103, 116, 117, 118, 119, 132, 133, 134, 135, 136, 139, 140, 141, 142, 143, 146, 147, 148, 149, 150, 153, 154, 155, 156, 157, 160, 161, 162, 163, 164, 167, 168, 169, 170, 183, 184, 185, 186, 187, 190, 191, 192, 193, 194, 197, 198, 199, 200, 201, 204, 205, 206, 207, 208, 211, 212, 213, 214, 215, 229, 230, 231, 232, 243, 244, 245, 246, 247, 250, 251, 252, 253, 254, 257, 258, 259, 260, 261, 264, 265, 266, 267, 268, 271, 272, 273, 274, 275, 278, 279, 280, 281, 282, 285, 286, 287, 288]), (2, [0]), (3, [1, 22, 23, 24, 25, 26, 29, 30, 31, 32, 33, 48, 49, 50, 51, 54, 55, 56, 57, 60, 61, 62, 63, 76, 77, 78, 79, 80, 83, 84, 85, 86, 87, 100, 101, 102, 103, 116, 117, 118, 119, 132, 133, 134, 135, 136, 139, 140, 141, 142, 143, 146, 147, 148, 149, 150, 153, 154, 155, 156, 157, 160, 161, 162, 163, 164, 167, 168, 169, 170, 183, 184, 185, 186, 187, 190, 191, 192, 193, 194, 197, 198, 199, 200, 201, 204, 205, 206, 207, 208, 211, 212, 213, 214, 215, 229, 230, 231, 232, 243, 244, 245, 246, 247, 250, 251, 252, 253, 254, 257, 258, 259, 260, 261, 264, 265, 266, 267, 268, 271, 272, 273, 274, 275, 278, 279, 280, 281, 282, 285, 286, 287, 288]), (4, [1, 3, 22, 23, 24, 25, 26, 29, 30, 31, 32, 33, 48, 49, 50, 51, 54, 55, 56, 57, 60, 61, 62, 63, 76, 77, 78, 79, 80, 83, 84, 85, 86, 87, 100, 101, 102, 103, 116, 117, 118, 119, 132, 133, 134, 135, 136, 139, 140, 141, 142, 143, 146, 147, 148, 149, 150, 153, 154, 155, 156, 157, 160, 161, 162, 163, 164, 167, 168, 169, 170, 183, 184, 185, 186, 187, 190, 191, 192, 193, 194, 197, 198, 199, 200, 201, 204, 205, 206, 207, 208, 211, 212, 213, 214, 215, 229, 230, 231, 232, 243, 244, 245, 246, 247, 250, 251, 252, 253, 254, 257, 258, 259, 260, 261, 264, 265, 266, 267, 268, 271, 272, 273, 274, 275, 278, 279, 280, 281, 282, 285, 286, 287, 288]), (5, [1, 34, 48, 49, 50, 51, 54, 55, 56, 57, 60, 61, 62, 63, 76, 77, 78, 79, 80, 83, 84, 85, 86, 87, 100, 101, 102, 103, 116, 117, 118, 119, 132, 133, 134, 135, 136, 139, 140, 141, 142, 143, 146, 147, 148, 149, 150, 153, 154, 155, 156, 157, 160, 161, 162, 163, 164, 167, 168, 169, 170, 183, 184, 185, 186, 187, 190, 191, 192, 193, 194, 197, 198, 199, 200, 201, 204, 205, 206, 207, 208, 211, 212, 213, 214, 215, 229, 230, 231, 232, 243, 244, 245, 246, 247, 250, 251, 252, 253, 254, 257, 258, 259, 260, 261, 264, 265, 266, 267, 268, 271, 272, 273, 274, 275, 278, 279, 280, 281, 282, 285, 286, 287, 288]), (6, [0]), (7, [1, 4, 48, 49, 50, 51, 54, 55, 56, 57, 60, 61, 62, 63, 76, 77, 78, 79, 80, 83, 84, 85, 86, 87, 100, 101, 102, 103, 116, 117, 118, 119, 132, 133, 134, 135, 136, 139, 140, 141, 142, 143, 146, 147, 148, 149, 150, 153, 154, 155, 156, 157, 160, 161, 162, 163, 164, 167, 168, 169, 170, 183, 184, 185, 186, 187, 190, 191, 192, 193, 194, 197, 198, 199, 200, 201, 204, 205, 206, 207, 208, 211, 212, 213, 214, 215, 229, 230, 231, 232, 243, 244, 245, 246, 247, 250, 251, 252, 253, 254, 257, 258, 259, 260, 261, 264, 265, 266, 267, 268, 271, 272, 273, 274, 275, 278, 279, 280, 281, 282, 285, 286, 287, 288]), (8, [1, 3, 48, 49, 50, 51, 54, 55, 56, 57, 60, 61, 62, 63, 76, 77, 78, 79, 80, 83, 84, 85, 86, 87, 100, 101, 102, 103, 116, 117, 118, 119, 132, 133, 134, 135, 136, 139, 140, 141, 142, 143, 146, 147, 148, 149, 150, 153, 154, 155, 156, 157, 160, 161, 162, 163, 164, 167, 168, 169, 170, 183, 184, 185, 186, 187, 190, 191, 192, 193, 194, 197, 198, 199, 200, 201, 204, 205, 206, 207, 208, 211, 212, 213, 214, 215, 229, 230, 231, 232, 243, 244, 245, 246, 247, 250, 251, 252, 253, 254, 257, 258, 259, 260, 261, 264, 265, 266, 267, 268, 271, 272, 273, 274, 275, 278, 279, 280, 281, 282, 285, 286, 287, 288]), (9, [1, 64, 76, 77, 78, 79, 80, 83, 84, 85, 86, 87, 100, 101, 102, 103, 116, 117, 118, 119, 132, 133, 134, 135, 136, 139, 140, 141, 142, 143, 146, 147, 148, 149, 150, 153, 154, 155, 156, 157, 160, 161, 162, 163, 164, 167, 168, 169, 170, 183, 184, 185, 186, 187, 190, 191, 192, 193, 194, 197, 198, 199, 200, 201, 204, 205, 206, 207, 208, 211, 212, 213, 214, 215, 229, 230, 231, 232, 243, 244, 245, 246, 247, 250, 251, 252, 253, 254, 257, 258, 259, 260, 261, 264, 265, 266, 267, 268, 271, 272, 273, 274, 275, 278, 279, 280, 281, 282, 285, 286, 287, 288]), (10, [0]), (11, [1, 3, 76, 77, 78, 79, 80, 83, 84, 85, 86, 87, 100, 101, 102, 103, 116, 117, 118, 119, 132, 133, 134, 135, 136, 139, 140, 141, 142, 143, 146, 147, 148, 149, 150, 153, 154, 155, 156, 157, 160, 161, 162, 163, 164, 167, 168, 169, 170, 183, 184, 185, 186, 187, 190, 191, 192, 193, 194, 197, 198, 199, 200, 201, 204, 205, 206, 207, 208, 211, 212, 213, 214, 215, 229, 230, 231, 232, 243, 244, 245, 246, 247, 250, 251, 252, 253, 254, 257, 258, 259, 260, 261, 264, 265, 266, 267, 268, 271, 272, 273, 274, 275, 278, 279, 280, 281, 282, 285, 286, 287, 288]), (12, [1, 88, 100, 101, 102, 103, 116, 117, 118, 119, 132, 133, 134, 135, 136, 139, 140, 141, 142, 143, 146, 147, 148, 149, 150, 153, 154, 155, 156, 157, 160, 161, 162, 163, 164, 167, 168, 169, 170, 183, 184, 185, 186, 187, 190, 191, 192, 193, 194, 197, 198, 199, 200, 201, 204, 205, 206, 207, 208, 211, 212, 213, 214, 215, 229, 230, 231, 232, 243, 244, 245, 246, 247, 250, 251, 252, 253, 254, 257, 258, 259, 260, 261, 264, 265, 266, 267, 268, 271, 272, 273, 274, 275, 278, 279, 280, 281, 282, 285, 286, 287, 288]), (13, [0]), (14, [1, 3, 100, 101, 102, 103, 116, 117, 118, 119, 132, 133, 134, 135, 136, 139, 140, 141, 142, 143, 146, 147, 148, 149, 150, 153, 154, 155, 156, 157, 160, 161, 162, 163, 164, 167, 168, 169, 170, 183, 184, 185, 186, 187, 190, 191, 192, 193, 194, 197, 198, 199, 200, 201, 204, 205, 206, 207, 208, 211, 212, 213, 214, 215, 229, 230, 231, 232, 243, 244, 245, 246, 247, 250, 251, 252, 253, 254, 257, 258, 259, 260, 261, 264, 265, 266, 267, 268, 271, 272, 273, 274, 275, 278, 279, 280, 281, 282, 285, 286, 287, 288]), (15, [1, 104, 116, 117, 118, 119, 132, 133, 134, 135, 136, 139, 140, 141, 142, 143, 146, 147, 148, 149, 150, 153, 154, 155, 156, 157, 160, 161, 162, 163, 164, 167, 168, 169, 170, 183, 184, 185, 186, 187, 190, 191, 192, 193, 194, 197, 198, 199, 200, 201, 204, 205, 206, 207, 208, 211, 212, 213, 214, 215, 229, 230, 231, 232, 243, 244, 245, 246, 247, 250, 251, 252, 253, 254, 257, 258, 259, 260, 261, 264, 265, 266, 267, 268, 271, 272, 273, 274, 275, 278, 279, 280, 281, 282, 285, 286, 287, 288]), (16, [0]), (17, [1, 3, 5, 116, 117, 118, 119, 132, 133, 134, 135, 136, 139, 140, 141, 142, 143, 146, 147, 148, 149, 150, 153, 154, 155, 156, 157, 160, 161, 162, 163, 164, 167, 168, 169, 170, 183, 184, 185, 186, 187, 190, 191, 192, 193, 194, 197, 198, 199, 200, 201, 204, 205, 206, 207, 208, 211, 212, 213, 214, 215, 229, 230, 231, 232, 243, 244, 245, 246, 247, 250, 251, 252, 253, 254, 257, 258, 259, 260, 261, 264, 265, 266, 267, 268, 271, 272, 273, 274, 275, 278, 279, 280, 281, 282, 285, 286, 287, 288]), (18, [1, 120, 132, 133, 134, 135, 136, 139, 140, 141, 142, 143, 146, 147, 148, 149, 150, 153, 154, 155, 156, 157, 160, 161, 162, 163, 164, 167, 168, 169, 170, 183, 184, 185, 186, 187, 190, 191, 192, 193, 194, 197, 198, 199, 200, 201, 204, 205, 206, 207, 208, 211, 212, 213, 214, 215, 229, 230, 231, 232, 243, 244, 245, 246, 247, 250, 251, 252, 253, 254, 257, 258, 259, 260, 261, 264, 265, 266, 267, 268, 271, 272, 273, 274, 275, 278, 279, 280, 281, 282, 285, 286, 287, 288]), (19, [0]), (20, [1, 3, 132, 133, 134, 135, 136, 139, 140, 141, 142, 143, 146, 147, 148, 149, 150, 153, 154, 155, 156, 157, 160, 161, 162, 163, 164, 167, 168, 169, 170, 183, 184, 185, 186, 187, 190, 191, 192, 193, 194, 197, 198, 199, 200, 201, 204, 205, 206, 207, 208, 211, 212, 213, 214, 215, 229, 230, 231, 232, 243, 244, 245, 246, 247, 250, 251, 252, 253, 254, 257, 258, 259, 260, 261, 264, 265, 266, 267, 268, 271, 272, 273, 274, 275, 278, 279, 280, 281, 282, 285, 286, 287, 288]), (21, [1, 171, 183, 184, 185, 186, 187, 190, 191, 192, 193, 194, 197, 198, 199, 200, 201, 204, 205, 206, 207, 208, 211, 212, 213, 214, 215, 229, 230, 231, 232, 243, 244, 245, 246, 247, 250, 251, 252, 253, 254, 257, 258, 259, 260, 261, 264, 265, 266, 267, 268, 271, 272, 273, 274, 275, 278, 279, 280, 281, 282, 285, 286, 287, 288]), (22, [0]), (23, [1, 3, 183, 184, 185, 186, 187, 190, 191, 192, 193, 194, 197, 198, 199, 200, 201, 204, 205, 206, 207, 208, 211, 212, 213, 214, 215, 229, 230, 231, 232, 243, 244, 245, 246, 247, 250, 251, 252, 253, 254, 257, 258, 259, 260, 261, 264, 265, 266, 267, 268, 271, 272, 273, 274, 275, 278, 279, 280, 281, 282, 285, 286, 287, 288]), (24, [1, 216, 229, 230, 231, 232, 243, 244, 245, 246, 247, 250, 251, 252, 253, 254, 257, 258, 259, 260, 261, 264, 265, 266, 267, 268, 271, 272, 273, 274, 275, 278, 279, 280, 281, 282, 285, 286, 287, 288]), (25, [0]), (26, [1, 3, 229, 230, 231, 232, 243, 244, 245, 246, 247, 250, 251, 252, 253, 254, 257, 258, 259, 260, 261, 264, 265, 266, 267, 268, 271, 272, 273, 274, 275, 278, 279, 280, 281, 282, 285, 286, 287, 288]), (27, [1, 233, 243, 244, 245, 246, 247, 250, 251, 252, 253, 254, 257, 258, 259, 260, 261, 264, 265, 266, 267, 268, 271, 272, 273, 274, 275, 278, 279, 280, 281, 282, 285, 286, 287, 288]), (28, [0]), (29, [1, 3, 243, 244, 245, 246, 247, 250, 251, 252, 253, 254, 257, 258, 259, 260, 261, 264, 265, 266, 267, 268, 271, 272, 273, 274, 275, 278, 279, 280, 281, 282, 285, 286, 287, 288]), (30, [0])] }
noncomputable def pleachlaw20_NodeForms_x (x : PDs []) : Option (RDs [⟨t4, [false], none⟩] × ODs []) := evFn pleachlaw20_NodeForms_Γ tab pleachlaw20_NodeForms_fi 1099511627776 [] [⟨t4, [false], none⟩] Tryz.f3 x
noncomputable def pleachlaw20_NodeForms  : Option ((Bool × Unit) × Unit) := pleachlaw20_NodeForms_x (())
noncomputable def pleachlaw20_NodeForms_e : Ent := ⟨[], [⟨t4, [false], none⟩], fun x => pleachlaw20_NodeForms⟩
theorem pleachlaw20_NodeForms_good : Good tab.ty Tryz.prog 3 pleachlaw20_NodeForms_e := by
  refine fn_good (Γ := pleachlaw20_NodeForms_Γ) (fi := pleachlaw20_NodeForms_fi) (n := 1099511627776) follows (gcons pleachlaw20_begun_good (gcons node_Join_good (gcons node_Tick_good (gcons node_Comes_good (gcons pleachref10_PutMsg_good (gcons pleachref19_SameNode_good gnil)))))) tabok Tryz.func3 (by kernel_rfl) (by kernel_rfl) (fun x r h => ?_)
  exact h
end Go.PE
