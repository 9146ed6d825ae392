/-
  Functions of the program, each as the evaluator answers it, and its contract.
  Conditions: none.
-/
import Derived.Test.YtoidpccakojeaaaOpsAllF1
set_option linter.unusedVariables false
set_option maxRecDepth 100000
namespace Go.PE
open Go.Proofs

noncomputable def pleachref10_PutSteps_Γ : Ctx := [(31, pleachref10_TakeSteps_e), (55, pleachref10_putStep_e)]
def pleachref10_PutSteps_fi : Fi := { keep := [], vty := [(3, 23)], vals := [], live := [(0, [0, 24, 25, 26, 27, 28, 29, 30, 31]), (1, [0, 3, 24, 25, 26, 27, 28, 29, 30, 31]), (2, [0, 3, 4, 24, 25, 26, 27, 28, 29, 30, 31]), (3, [0, 3, 4, 10, 24, 25, 26, 27, 28, 29, 30, 31]), (4, [0, 3, 4, 24, 25, 26, 27, 28, 29, 30, 31]), (5, [0, 3, 4, 5, 24, 25, 26, 27, 28, 29, 30, 31]), (6, [0, 3, 4, 5, 6, 24, 25, 26, 27, 28, 29, 30, 31]), (7, [0, 3, 4, 5, 24, 25, 26, 27, 28, 29, 30, 31, 32]), (8, [0, 3, 4, 24, 25, 26, 27, 28, 29, 30, 31]), (9, [2])] }
noncomputable def pleachref10_PutSteps_B1 (L1 : (List (Int × Int × Int × Int × ByteArray)) → Int → List Int → Option (((List Int) × Unit) × Unit)) (v1 : List (Int × Int × Int × Int × ByteArray)) (v2 : Int) (v3 : List Int) : Option (((List Int) × Unit) × Unit) :=
 bif decide (v2 < (v1.length : Int)) then
  bif decide (0 ≤ v2) && decide (v2 < (v1.length : Int)) then
   Option.bind (pleachref10_putStep ((List.getD v1 v2.toNat (0, 0, 0, 0, (⟨#[]⟩ : ByteArray))).1, ((List.getD v1 v2.toNat (0, 0, 0, 0, (⟨#[]⟩ : ByteArray))).2).1, (((List.getD v1 v2.toNat (0, 0, 0, 0, (⟨#[]⟩ : ByteArray))).2).2).1, ((((List.getD v1 v2.toNat (0, 0, 0, 0, (⟨#[]⟩ : ByteArray))).2).2).2))) fun (r4 : ((List Int) × Unit) × Unit) =>
   Option.bind (pleachref10_TakeSteps r4.1.1) fun (r5 : ((List (Int × Int × Int × Int × ByteArray)) × Unit) × Unit) =>
   bif (r5.1.1.length : Int) == 1 then
    bif decide (0 < (r5.1.1.length : Int)) then
     bif decide (0 < (r5.1.1.length : Int)) then
      bif decide (0 ≤ v2) && decide (v2 < (v1.length : Int)) then
       bif (((List.getD r5.1.1 0 (0, 0, 0, 0, (⟨#[]⟩ : ByteArray))).1) == ((List.getD v1 v2.toNat (0, 0, 0, 0, (⟨#[]⟩ : ByteArray))).1)) && (((((List.getD r5.1.1 0 (0, 0, 0, 0, (⟨#[]⟩ : ByteArray))).2).1) == (((List.getD v1 v2.toNat (0, 0, 0, 0, (⟨#[]⟩ : ByteArray))).2).1)) && ((((((List.getD r5.1.1 0 (0, 0, 0, 0, (⟨#[]⟩ : ByteArray))).2).2).1) == ((((List.getD v1 v2.toNat (0, 0, 0, 0, (⟨#[]⟩ : ByteArray))).2).2).1)) && (((((((List.getD r5.1.1 0 (0, 0, 0, 0, (⟨#[]⟩ : ByteArray))).2).2).2).1) == (((((List.getD v1 v2.toNat (0, 0, 0, 0, (⟨#[]⟩ : ByteArray))).2).2).2).1)) && ((strEq (((((List.getD r5.1.1 0 (0, 0, 0, 0, (⟨#[]⟩ : ByteArray))).2).2).2).2) (((((List.getD v1 v2.toNat (0, 0, 0, 0, (⟨#[]⟩ : ByteArray))).2).2).2).2)) && true)))) then
        bif Nat.ble (v3.length + r4.1.1.length) 1073741824 then
         L1 v1 (IntKind.wrap .i64 (v2 + 1)) (v3 ++ r4.1.1)
        else none
       else
        L1 v1 (IntKind.wrap .i64 (v2 + 1)) v3
      else none
     else none
    else none
   else
    L1 v1 (IntKind.wrap .i64 (v2 + 1)) v3
  else none
 else
  some ((v3, ()), ())
noncomputable def pleachref10_PutSteps_T (L1 : (List (Int × Int × Int × Int × ByteArray)) → Int → List Int → Option (((List Int) × Unit) × Unit)) (l_0 : List (Int × Int × Int × Int × ByteArray)) : Option (((List Int) × Unit) × Unit) :=
 L1 l_0 0 []
noncomputable def pleachref10_PutSteps_L1 (n : Nat) : Nat → (List (Int × Int × Int × Int × ByteArray)) → Int → List Int → Option (((List Int) × Unit) × Unit) := iter (fun _ _ _ => none) fun L => pleachref10_PutSteps_B1 L
noncomputable def pleachref10_PutSteps_X1 (n m : Nat) (v1 : List (Int × Int × Int × Int × ByteArray)) (v2 : Int) (v3 : List Int) : Option (((List Int) × Unit) × Unit) :=
 atLoop pleachref10_PutSteps_Γ tab (fiB [.val t35] pleachref10_PutSteps_fi) n [.val t35] [⟨t23, [true], none⟩] Try.f33 [1, 1, 0, 1, 0] [] [0, 3, 4] m
 ⟨[(0, SV.cv (CV.one (LV.pure t35 v1))), (3, SV.cv (CV.one (LV.ref (888888, 3)))), (4, SV.cv (CV.one (LV.pure t2 v2)))],
  [((888888, 3), Ob.row 5 t5 v3)]⟩
theorem pleachref10_PutSteps_step1 (n m : Nat) (v1 : List (Int × Int × Int × Int × ByteArray)) (v2 : Int) (v3 : List Int) : pleachref10_PutSteps_X1 n (m + 1) v1 v2 v3 = pleachref10_PutSteps_B1 (pleachref10_PutSteps_X1 n m) v1 v2 v3 := by kernel_rfl
theorem pleachref10_PutSteps_start (n : Nat) (l_0 : List (Int × Int × Int × Int × ByteArray)) : evFn pleachref10_PutSteps_Γ tab pleachref10_PutSteps_fi n [.val t35] [⟨t23, [true], none⟩] Try.f33 (l_0, ()) = pleachref10_PutSteps_T (pleachref10_PutSteps_X1 n n) l_0 := by kernel_rfl
theorem pleachref10_PutSteps_XL1 (n : Nat) : ∀ m, pleachref10_PutSteps_X1 n m = pleachref10_PutSteps_L1 n m
 | 0 => rfl
 | m + 1 => by
  have ih := pleachref10_PutSteps_XL1 n m
  funext v1 v2 v3
  rw [pleachref10_PutSteps_step1, ih]
  rfl
noncomputable def pleachref10_PutSteps_n (n : Nat) (l_0 : List (Int × Int × Int × Int × ByteArray)) : Option (((List Int) × Unit) × Unit) := pleachref10_PutSteps_T (pleachref10_PutSteps_L1 n n) l_0
noncomputable def pleachref10_PutSteps (l_0 : List (Int × Int × Int × Int × ByteArray)) : Option (((List Int) × Unit) × Unit) := pleachref10_PutSteps_n 1099511627776 l_0
theorem pleachref10_PutSteps_eq (n : Nat) (l_0 : List (Int × Int × Int × Int × ByteArray)) : evFn pleachref10_PutSteps_Γ tab pleachref10_PutSteps_fi n [.val t35] [⟨t23, [true], none⟩] Try.f33 (l_0, ()) = pleachref10_PutSteps_n n l_0 := by
  rw [pleachref10_PutSteps_start, pleachref10_PutSteps_XL1 n n]
  rfl
noncomputable def pleachref10_PutSteps_e : Ent := ⟨[.val t35], [⟨t23, [true], none⟩], fun x => pleachref10_PutSteps x.1⟩
theorem pleachref10_PutSteps_good : Good tab.ty Try.prog 33 pleachref10_PutSteps_e := by
  refine fn_good (Γ := pleachref10_PutSteps_Γ) (fi := pleachref10_PutSteps_fi) (n := 1099511627776) follows (gcons pleachref10_TakeSteps_good (gcons pleachref10_putStep_good gnil)) tabok Try.func33 (by kernel_rfl) (by kernel_rfl) (fun x r h => ?_)
  obtain ⟨l_0, _u⟩ := x
  exact (pleachref10_PutSteps_eq 1099511627776 l_0).trans h
noncomputable def pleachlaw25_OpsAll_Γ : Ctx := [(25, pleachlaw25_begun_e), (26, pleachmade_Made_e), (27, pleachmade_Picks_World_e), (28, pleachmade_Picks_Step_e), (29, pleachref10_SameSteps_e), (30, ops_Take_e), (31, pleachref10_TakeSteps_e), (32, ops_Put_e), (33, pleachref10_PutSteps_e)]
def pleachlaw25_OpsAll_fi : Fi := { keep := [], vty := [(10, 35)], vals := [], live := [(0, [0, 1, 2, 18, 19, 20, 23, 24, 25, 60, 61, 62, 63, 64, 65, 66, 69, 70, 71, 72, 73]), (1, [0, 1, 2, 13, 18, 19, 20, 23, 24, 25, 60, 61, 62, 63, 64, 65, 66, 69, 70, 71, 72, 73]), (2, [6]), (3, [0, 1, 2, 26, 60, 61, 62, 63, 64, 65, 66, 69, 70, 71, 72, 73]), (4, [6]), (5, [0, 1, 2, 7, 60, 61, 62, 63, 64, 65, 66, 69, 70, 71, 72, 73]), (6, [0, 1, 2, 7, 30, 60, 61, 62, 63, 64, 65, 66, 69, 70, 71, 72, 73]), (7, [0, 1, 2, 7, 60, 61, 62, 63, 64, 65, 66, 69, 70, 71, 72, 73]), (8, [0, 1, 2, 7, 39, 60, 61, 62, 63, 64, 65, 66, 69, 70, 71, 72, 73]), (9, [6]), (10, [0, 1, 8, 60, 61, 62, 63, 64, 65, 66, 69, 70, 71, 72, 73]), (11, [0, 1, 8, 9, 60, 61, 62, 63, 64, 65, 66, 69, 70, 71, 72, 73]), (12, [0, 1, 8, 9, 10, 60, 61, 62, 63, 64, 65, 66, 69, 70, 71, 72, 73]), (13, [0, 1, 8, 9, 10, 11, 60, 61, 62, 63, 64, 65, 66, 69, 70, 71, 72, 73]), (14, [0, 1, 8, 9, 10, 11, 45, 60, 61, 62, 63, 64, 65, 66, 69, 70, 71, 72, 73]), (15, [0, 1, 8, 9, 10, 11, 60, 61, 62, 63, 64, 65, 66, 69, 70, 71, 72, 73]), (16, [0, 1, 8, 9, 10, 11, 60, 61, 62, 63, 64, 65, 66, 69, 70, 71, 72, 73]), (17, [6])] }
noncomputable def pleachlaw25_OpsAll_B1 (L1 : List Int → (List (Int × Int × Int × Int × ByteArray)) → List Int → Int → Option ((Bool × Unit) × Unit)) (L2 : List Int → (List (Int × Int × Int × Int × ByteArray)) → Int → List Int → Int → Int → List (List Int) → (List (List ((List Int) × Int))) → (List (Bool × Int × ByteArray × (Int × Int × Int × Int × Int × Int × (List Int) × Int × Int × Int × Int × Int × List (Int × Int × Int)) × (Int × Int × (List (Int × ByteArray)) × (List (Int × ByteArray)) × (List (Int × Int × Int × ByteArray × Int)) × Int × Int) × Int)) → (List (Int × ByteArray × Bool)) → List ByteArray → (List (Int × Int × Int × Int × ByteArray)) → Option ((Bool × Unit) × Unit)) (v2 : List Int) (v3 : List (Int × Int × Int × Int × ByteArray)) (v4 : List Int) (v5 : Int) : Option ((Bool × Unit) × Unit) :=
 bif decide (v5 < (v3.length : Int)) then
  bif decide (0 ≤ v5) && decide (v5 < (v3.length : Int)) then
   bif decide (((((((List.getD v3 v5.toNat (0, 0, 0, 0, (⟨#[]⟩ : ByteArray))).2).2).2).2).size : Int) > 100) then
    some ((true, ()), ())
   else
    L1 v2 v3 v4 (IntKind.wrap .i64 (v5 + 1))
  else none
 else
  Option.bind (pleachmade_Made v4) fun (r6 : (((List Int) × Int) × Unit) × Unit) =>
  Option.bind (pleachmade_Picks_World r6.1.1) fun (r7 : (((List (Bool × Int × ByteArray × (Int × Int × Int × Int × Int × Int × (List Int) × Int × Int × Int × Int × Int × List (Int × Int × Int)) × (Int × Int × (List (Int × ByteArray)) × (List (Int × ByteArray)) × (List (Int × Int × Int × ByteArray × Int)) × Int × Int) × Int)) × (List (Int × ByteArray × Bool)) × (List ByteArray) × Int × (List (List Int)) × List (List ((List Int) × Int))) × Unit) × (((List Int) × Int) × Unit)) =>
  L2 v2 v3 0 r7.2.1.1 r7.2.1.2 r7.1.1.2.2.2.1 r7.1.1.2.2.2.2.1 r7.1.1.2.2.2.2.2 r7.1.1.1 r7.1.1.2.1 r7.1.1.2.2.1 []
noncomputable def pleachlaw25_OpsAll_B2 (L3 : List Int → (List (Int × Int × Int × Int × ByteArray)) → Int → List Int → Int → (List (Bool × Int × ByteArray × (Int × Int × Int × Int × Int × Int × (List Int) × Int × Int × Int × Int × Int × List (Int × Int × Int)) × (Int × Int × (List (Int × ByteArray)) × (List (Int × ByteArray)) × (List (Int × Int × Int × ByteArray × Int)) × Int × Int) × Int)) → (List (Int × ByteArray × Bool)) → List ByteArray → Int → List (List Int) → (List (List ((List Int) × Int))) → (List (Int × Int × Int × Int × ByteArray)) → Option ((Bool × Unit) × Unit)) (v8 : List Int) (v9 : List (Int × Int × Int × Int × ByteArray)) (v10 : Int) (v11 : List Int) (v12 : Int) (v13 : Int) (v14 : List (List Int)) (v15 : List (List ((List Int) × Int))) (v16 : List (Bool × Int × ByteArray × (Int × Int × Int × Int × Int × Int × (List Int) × Int × Int × Int × Int × Int × List (Int × Int × Int)) × (Int × Int × (List (Int × ByteArray)) × (List (Int × ByteArray)) × (List (Int × Int × Int × ByteArray × Int)) × Int × Int) × Int)) (v17 : List (Int × ByteArray × Bool)) (v18 : List ByteArray) (v19 : List (Int × Int × Int × Int × ByteArray)) : Option ((Bool × Unit) × Unit) :=
 bif decide (v10 < 20) then
  Option.bind (pleachmade_Picks_Step (v11, v12) (v16, v17, v18, v13, v14, v15)) fun (r20 : ((Int × Int × Int × Int × ByteArray) × Unit) × (((List Int) × Int) × Unit)) =>
  bif Nat.ble (v19.length + 1) 1073741824 then
   L3 v8 v9 (IntKind.wrap .i64 (v10 + 1)) r20.2.1.1 r20.2.1.2 v16 v17 v18 v13 v14 v15 (v19 ++ [r20.1.1])
  else none
 else
  Option.bind (ops_Take v8) fun (r42 : ((List (Int × Int × Int × Int × ByteArray)) × Unit) × Unit) =>
  Option.bind (pleachref10_TakeSteps v8) fun (r43 : ((List (Int × Int × Int × Int × ByteArray)) × Unit) × Unit) =>
  Option.bind (pleachref10_SameSteps r42.1.1 r43.1.1) fun (r44 : (Bool × Unit) × Unit) =>
  bif r44.1.1 then
   Option.bind (ops_Put v9) fun (r45 : ((List Int) × Unit) × Unit) =>
   Option.bind (pleachref10_PutSteps v9) fun (r46 : ((List Int) × Unit) × Unit) =>
   bif strEq (bytesOf r45.1.1) (bytesOf r46.1.1) then
    Option.bind (ops_Put v19) fun (r47 : ((List Int) × Unit) × Unit) =>
    Option.bind (ops_Take r47.1.1) fun (r48 : ((List (Int × Int × Int × Int × ByteArray)) × Unit) × Unit) =>
    Option.bind (pleachref10_SameSteps r48.1.1 v19) fun (r49 : (Bool × Unit) × Unit) =>
    some ((r49.1.1, ()), ())
   else
    some ((false, ()), ())
  else
   some ((false, ()), ())
noncomputable def pleachlaw25_OpsAll_B3 (L3 : List Int → (List (Int × Int × Int × Int × ByteArray)) → Int → List Int → Int → (List (Bool × Int × ByteArray × (Int × Int × Int × Int × Int × Int × (List Int) × Int × Int × Int × Int × Int × List (Int × Int × Int)) × (Int × Int × (List (Int × ByteArray)) × (List (Int × ByteArray)) × (List (Int × Int × Int × ByteArray × Int)) × Int × Int) × Int)) → (List (Int × ByteArray × Bool)) → List ByteArray → Int → List (List Int) → (List (List ((List Int) × Int))) → (List (Int × Int × Int × Int × ByteArray)) → Option ((Bool × Unit) × Unit)) (v21 : List Int) (v22 : List (Int × Int × Int × Int × ByteArray)) (v23 : Int) (v24 : List Int) (v25 : Int) (v26 : List (Bool × Int × ByteArray × (Int × Int × Int × Int × Int × Int × (List Int) × Int × Int × Int × Int × Int × List (Int × Int × Int)) × (Int × Int × (List (Int × ByteArray)) × (List (Int × ByteArray)) × (List (Int × Int × Int × ByteArray × Int)) × Int × Int) × Int)) (v27 : List (Int × ByteArray × Bool)) (v28 : List ByteArray) (v29 : Int) (v30 : List (List Int)) (v31 : List (List ((List Int) × Int))) (v32 : List (Int × Int × Int × Int × ByteArray)) : Option ((Bool × Unit) × Unit) :=
 bif decide (v23 < 20) then
  Option.bind (pleachmade_Picks_Step (v24, v25) (v26, v27, v28, v29, v30, v31)) fun (r33 : ((Int × Int × Int × Int × ByteArray) × Unit) × (((List Int) × Int) × Unit)) =>
  bif Nat.ble (v32.length + 1) 1073741824 then
   L3 v21 v22 (IntKind.wrap .i64 (v23 + 1)) r33.2.1.1 r33.2.1.2 v26 v27 v28 v29 v30 v31 (v32 ++ [r33.1.1])
  else none
 else
  Option.bind (ops_Take v21) fun (r34 : ((List (Int × Int × Int × Int × ByteArray)) × Unit) × Unit) =>
  Option.bind (pleachref10_TakeSteps v21) fun (r35 : ((List (Int × Int × Int × Int × ByteArray)) × Unit) × Unit) =>
  Option.bind (pleachref10_SameSteps r34.1.1 r35.1.1) fun (r36 : (Bool × Unit) × Unit) =>
  bif r36.1.1 then
   Option.bind (ops_Put v22) fun (r37 : ((List Int) × Unit) × Unit) =>
   Option.bind (pleachref10_PutSteps v22) fun (r38 : ((List Int) × Unit) × Unit) =>
   bif strEq (bytesOf r37.1.1) (bytesOf r38.1.1) then
    Option.bind (ops_Put v32) fun (r39 : ((List Int) × Unit) × Unit) =>
    Option.bind (ops_Take r39.1.1) fun (r40 : ((List (Int × Int × Int × Int × ByteArray)) × Unit) × Unit) =>
    Option.bind (pleachref10_SameSteps r40.1.1 v32) fun (r41 : (Bool × Unit) × Unit) =>
    some ((r41.1.1, ()), ())
   else
    some ((false, ()), ())
  else
   some ((false, ()), ())
noncomputable def pleachlaw25_OpsAll_T (L1 : List Int → (List (Int × Int × Int × Int × ByteArray)) → List Int → Int → Option ((Bool × Unit) × Unit)) (b_0 : List Int) (l_1 : List (Int × Int × Int × Int × ByteArray)) (picks_2 : List Int) : Option ((Bool × Unit) × Unit) :=
 Option.bind (pleachlaw25_begun) fun (r1 : (Bool × Unit) × Unit) =>
 bif !r1.1.1 then
  some ((false, ()), ())
 else
 bif decide ((b_0.length : Int) > 200) then
  some ((true, ()), ())
 else
 bif decide ((l_1.length : Int) > 10) then
  some ((true, ()), ())
 else
 bif decide ((picks_2.length : Int) > 100) then
  some ((true, ()), ())
 else
  L1 b_0 l_1 picks_2 0
noncomputable def pleachlaw25_OpsAll_L3 (n : Nat) : Nat → List Int → (List (Int × Int × Int × Int × ByteArray)) → Int → List Int → Int → (List (Bool × Int × ByteArray × (Int × Int × Int × Int × Int × Int × (List Int) × Int × Int × Int × Int × Int × List (Int × Int × Int)) × (Int × Int × (List (Int × ByteArray)) × (List (Int × ByteArray)) × (List (Int × Int × Int × ByteArray × Int)) × Int × Int) × Int)) → (List (Int × ByteArray × Bool)) → List ByteArray → Int → List (List Int) → (List (List ((List Int) × Int))) → (List (Int × Int × Int × Int × ByteArray)) → Option ((Bool × Unit) × Unit) := iter (fun _ _ _ _ _ _ _ _ _ _ _ _ => none) fun L => pleachlaw25_OpsAll_B3 L
noncomputable def pleachlaw25_OpsAll_L2 (n : Nat) : Nat → List Int → (List (Int × Int × Int × Int × ByteArray)) → Int → List Int → Int → Int → List (List Int) → (List (List ((List Int) × Int))) → (List (Bool × Int × ByteArray × (Int × Int × Int × Int × Int × Int × (List Int) × Int × Int × Int × Int × Int × List (Int × Int × Int)) × (Int × Int × (List (Int × ByteArray)) × (List (Int × ByteArray)) × (List (Int × Int × Int × ByteArray × Int)) × Int × Int) × Int)) → (List (Int × ByteArray × Bool)) → List ByteArray → (List (Int × Int × Int × Int × ByteArray)) → Option ((Bool × Unit) × Unit) := iterN (fun _ _ _ _ _ _ _ _ _ _ _ _ => none) fun m L => pleachlaw25_OpsAll_B2 (pleachlaw25_OpsAll_L3 n m)
noncomputable def pleachlaw25_OpsAll_L1 (n : Nat) : Nat → List Int → (List (Int × Int × Int × Int × ByteArray)) → List Int → Int → Option ((Bool × Unit) × Unit) := iter (fun _ _ _ _ => none) fun L => pleachlaw25_OpsAll_B1 L (pleachlaw25_OpsAll_L2 n n)
noncomputable def pleachlaw25_OpsAll_X1 (n m : Nat) (v2 : List Int) (v3 : List (Int × Int × Int × Int × ByteArray)) (v4 : List Int) (v5 : Int) : Option ((Bool × Unit) × Unit) :=
 atLoop pleachlaw25_OpsAll_Γ tab (fiB [.val t23, .val t35, .val t23] pleachlaw25_OpsAll_fi) n [.val t23, .val t35, .val t23] [⟨t4, [false], none⟩] Try.f6 [1, 1, 1, 0, 1, 0] [] [0, 1, 2, 7] m
 ⟨[(0, SV.cv (CV.one (LV.pure t23 v2))), (1, SV.cv (CV.one (LV.pure t35 v3))), (2, SV.cv (CV.one (LV.pure t23 v4))), (7, SV.cv (CV.one (LV.pure t2 v5)))],
  []⟩
noncomputable def pleachlaw25_OpsAll_X2 (n m : Nat) (v8 : List Int) (v9 : List (Int × Int × Int × Int × ByteArray)) (v10 : Int) (v11 : List Int) (v12 : Int) (v13 : Int) (v14 : List (List Int)) (v15 : List (List ((List Int) × Int))) (v16 : List (Bool × Int × ByteArray × (Int × Int × Int × Int × Int × Int × (List Int) × Int × Int × Int × Int × Int × List (Int × Int × Int)) × (Int × Int × (List (Int × ByteArray)) × (List (Int × ByteArray)) × (List (Int × Int × Int × ByteArray × Int)) × Int × Int) × Int)) (v17 : List (Int × ByteArray × Bool)) (v18 : List ByteArray) (v19 : List (Int × Int × Int × Int × ByteArray)) : Option ((Bool × Unit) × Unit) :=
 atLoop pleachlaw25_OpsAll_Γ tab (fiB [.val t23, .val t35, .val t23] pleachlaw25_OpsAll_fi) n [.val t23, .val t35, .val t23] [⟨t4, [false], none⟩] Try.f6 [1, 1, 1, 1, 1, 1, 1, 0, 1, 0] [] [0, 1, 8, 9, 10, 11] m
 ⟨[(0, SV.cv (CV.one (LV.pure t23 v8))), (1, SV.cv (CV.one (LV.pure t35 v9))), (8, SV.cv (CV.one (LV.ptr (41, 0) 0))), (9, SV.cv (CV.one (LV.ptr (9, 0) 0))), (10, SV.cv (CV.one (LV.ref (888888, 10)))), (11, SV.cv (CV.one (LV.pure t2 v10)))],
  [((41, 0), Ob.box 81 [LV.pure t23 v11, LV.pure t2 v12]), ((9, 0), Ob.box 47 [LV.ref (9, 1), LV.ref (9, 2), LV.ref (9, 3), LV.pure t2 v13, LV.pure t42 v14, LV.pure t43 v15]), ((9, 1), Ob.row 127 t126 v16), ((9, 2), Ob.row 180 t179 v17), ((9, 3), Ob.row 9 t9 v18), ((888888, 10), Ob.row 37 t36 v19)]⟩
noncomputable def pleachlaw25_OpsAll_X3 (n m : Nat) (v21 : List Int) (v22 : List (Int × Int × Int × Int × ByteArray)) (v23 : Int) (v24 : List Int) (v25 : Int) (v26 : List (Bool × Int × ByteArray × (Int × Int × Int × Int × Int × Int × (List Int) × Int × Int × Int × Int × Int × List (Int × Int × Int)) × (Int × Int × (List (Int × ByteArray)) × (List (Int × ByteArray)) × (List (Int × Int × Int × ByteArray × Int)) × Int × Int) × Int)) (v27 : List (Int × ByteArray × Bool)) (v28 : List ByteArray) (v29 : Int) (v30 : List (List Int)) (v31 : List (List ((List Int) × Int))) (v32 : List (Int × Int × Int × Int × ByteArray)) : Option ((Bool × Unit) × Unit) :=
 atLoop pleachlaw25_OpsAll_Γ tab (fiB [.val t23, .val t35, .val t23] pleachlaw25_OpsAll_fi) n [.val t23, .val t35, .val t23] [⟨t4, [false], none⟩] Try.f6 [1, 1, 1, 1, 1, 1, 1, 0, 1, 0] [] [0, 1, 8, 9, 10, 11] m
 ⟨[(0, SV.cv (CV.one (LV.pure t23 v21))), (1, SV.cv (CV.one (LV.pure t35 v22))), (8, SV.cv (CV.one (LV.ptr (41, 0) 0))), (9, SV.cv (CV.one (LV.ptr (9, 0) 0))), (10, SV.cv (CV.one (LV.ref (888888, 10)))), (11, SV.cv (CV.one (LV.pure t2 v23)))],
  [((41, 0), Ob.box 81 [LV.pure t23 v24, LV.pure t2 v25]), ((9, 0), Ob.box 47 [LV.pure t40 v26, LV.pure t41 v27, LV.pure t34 v28, LV.pure t2 v29, LV.pure t42 v30, LV.pure t43 v31]), ((888888, 10), Ob.row 37 t36 v32)]⟩
theorem pleachlaw25_OpsAll_step1 (n m : Nat) (v2 : List Int) (v3 : List (Int × Int × Int × Int × ByteArray)) (v4 : List Int) (v5 : Int) : pleachlaw25_OpsAll_X1 n (m + 1) v2 v3 v4 v5 = pleachlaw25_OpsAll_B1 (pleachlaw25_OpsAll_X1 n m) (pleachlaw25_OpsAll_X2 n n) v2 v3 v4 v5 := by kernel_rfl
theorem pleachlaw25_OpsAll_step2 (n m : Nat) (v8 : List Int) (v9 : List (Int × Int × Int × Int × ByteArray)) (v10 : Int) (v11 : List Int) (v12 : Int) (v13 : Int) (v14 : List (List Int)) (v15 : List (List ((List Int) × Int))) (v16 : List (Bool × Int × ByteArray × (Int × Int × Int × Int × Int × Int × (List Int) × Int × Int × Int × Int × Int × List (Int × Int × Int)) × (Int × Int × (List (Int × ByteArray)) × (List (Int × ByteArray)) × (List (Int × Int × Int × ByteArray × Int)) × Int × Int) × Int)) (v17 : List (Int × ByteArray × Bool)) (v18 : List ByteArray) (v19 : List (Int × Int × Int × Int × ByteArray)) : pleachlaw25_OpsAll_X2 n (m + 1) v8 v9 v10 v11 v12 v13 v14 v15 v16 v17 v18 v19 = pleachlaw25_OpsAll_B2 (pleachlaw25_OpsAll_X3 n m) v8 v9 v10 v11 v12 v13 v14 v15 v16 v17 v18 v19 := by kernel_rfl
theorem pleachlaw25_OpsAll_step3 (n m : Nat) (v21 : List Int) (v22 : List (Int × Int × Int × Int × ByteArray)) (v23 : Int) (v24 : List Int) (v25 : Int) (v26 : List (Bool × Int × ByteArray × (Int × Int × Int × Int × Int × Int × (List Int) × Int × Int × Int × Int × Int × List (Int × Int × Int)) × (Int × Int × (List (Int × ByteArray)) × (List (Int × ByteArray)) × (List (Int × Int × Int × ByteArray × Int)) × Int × Int) × Int)) (v27 : List (Int × ByteArray × Bool)) (v28 : List ByteArray) (v29 : Int) (v30 : List (List Int)) (v31 : List (List ((List Int) × Int))) (v32 : List (Int × Int × Int × Int × ByteArray)) : pleachlaw25_OpsAll_X3 n (m + 1) v21 v22 v23 v24 v25 v26 v27 v28 v29 v30 v31 v32 = pleachlaw25_OpsAll_B3 (pleachlaw25_OpsAll_X3 n m) v21 v22 v23 v24 v25 v26 v27 v28 v29 v30 v31 v32 := by kernel_rfl
theorem pleachlaw25_OpsAll_start (n : Nat) (b_0 : List Int) (l_1 : List (Int × Int × Int × Int × ByteArray)) (picks_2 : List Int) : evFn pleachlaw25_OpsAll_Γ tab pleachlaw25_OpsAll_fi n [.val t23, .val t35, .val t23] [⟨t4, [false], none⟩] Try.f6 (b_0, l_1, picks_2, ()) = pleachlaw25_OpsAll_T (pleachlaw25_OpsAll_X1 n n) b_0 l_1 picks_2 := by kernel_rfl
theorem pleachlaw25_OpsAll_XL3 (n : Nat) : ∀ m, pleachlaw25_OpsAll_X3 n m = pleachlaw25_OpsAll_L3 n m
 | 0 => rfl
 | m + 1 => by
  have ih := pleachlaw25_OpsAll_XL3 n m
  funext v21 v22 v23 v24 v25 v26 v27 v28 v29 v30 v31 v32
  rw [pleachlaw25_OpsAll_step3, ih]
  rfl
theorem pleachlaw25_OpsAll_XL2 (n : Nat) : ∀ m, pleachlaw25_OpsAll_X2 n m = pleachlaw25_OpsAll_L2 n m
 | 0 => rfl
 | m + 1 => by
  have ih := pleachlaw25_OpsAll_XL2 n m
  funext v8 v9 v10 v11 v12 v13 v14 v15 v16 v17 v18 v19
  rw [pleachlaw25_OpsAll_step2, pleachlaw25_OpsAll_XL3 n m]
  rfl
theorem pleachlaw25_OpsAll_XL1 (n : Nat) : ∀ m, pleachlaw25_OpsAll_X1 n m = pleachlaw25_OpsAll_L1 n m
 | 0 => rfl
 | m + 1 => by
  have ih := pleachlaw25_OpsAll_XL1 n m
  funext v2 v3 v4 v5
  rw [pleachlaw25_OpsAll_step1, pleachlaw25_OpsAll_XL2 n n, ih]
  rfl
noncomputable def pleachlaw25_OpsAll_n (n : Nat) (b_0 : List Int) (l_1 : List (Int × Int × Int × Int × ByteArray)) (picks_2 : List Int) : Option ((Bool × Unit) × Unit) := pleachlaw25_OpsAll_T (pleachlaw25_OpsAll_L1 n n) b_0 l_1 picks_2
noncomputable def pleachlaw25_OpsAll (b_0 : List Int) (l_1 : List (Int × Int × Int × Int × ByteArray)) (picks_2 : List Int) : Option ((Bool × Unit) × Unit) := pleachlaw25_OpsAll_n 1099511627776 b_0 l_1 picks_2
theorem pleachlaw25_OpsAll_eq (n : Nat) (b_0 : List Int) (l_1 : List (Int × Int × Int × Int × ByteArray)) (picks_2 : List Int) : evFn pleachlaw25_OpsAll_Γ tab pleachlaw25_OpsAll_fi n [.val t23, .val t35, .val t23] [⟨t4, [false], none⟩] Try.f6 (b_0, l_1, picks_2, ()) = pleachlaw25_OpsAll_n n b_0 l_1 picks_2 := by
  rw [pleachlaw25_OpsAll_start, pleachlaw25_OpsAll_XL1 n n]
  rfl
noncomputable def pleachlaw25_OpsAll_e : Ent := ⟨[.val t23, .val t35, .val t23], [⟨t4, [false], none⟩], fun x => pleachlaw25_OpsAll x.1 x.2.1 x.2.2.1⟩
theorem pleachlaw25_OpsAll_good : Good tab.ty Try.prog 6 pleachlaw25_OpsAll_e := by
  refine fn_good (Γ := pleachlaw25_OpsAll_Γ) (fi := pleachlaw25_OpsAll_fi) (n := 1099511627776) follows (gcons pleachlaw25_begun_good (gcons pleachmade_Made_good (gcons pleachmade_Picks_World_good (gcons pleachmade_Picks_Step_good (gcons pleachref10_SameSteps_good (gcons ops_Take_good (gcons pleachref10_TakeSteps_good (gcons ops_Put_good (gcons pleachref10_PutSteps_good gnil))))))))) tabok Try.func6 (by kernel_rfl) (by kernel_rfl) (fun x r h => ?_)
  obtain ⟨b_0, l_1, picks_2, _u⟩ := x
  exact (pleachlaw25_OpsAll_eq 1099511627776 b_0 l_1 picks_2).trans h
noncomputable def pleachlaw25_OpsBack_Γ : Ctx := [(25, pleachlaw25_begun_e), (29, pleachref10_SameSteps_e), (30, ops_Take_e), (32, ops_Put_e)]
def pleachlaw25_OpsBack_fi : Fi := { keep := [], vty := [], vals := [], live := [(0, [0, 1, 42, 43, 44, 45, 46, 47]), (1, [0, 1, 9, 42, 43, 44, 45, 46, 47]), (2, [4]), (3, [0, 1, 12, 42, 43, 44, 45, 46, 47]), (4, [4]), (5, [1, 5, 42, 43, 44, 45, 46, 47]), (6, [1, 5, 6, 42, 43, 44, 45, 46, 47]), (7, [1, 5, 6, 21, 42, 43, 44, 45, 46, 47]), (8, [4]), (9, [1, 5, 6, 24, 42, 43, 44, 45, 46, 47]), (10, [4]), (11, [5, 7, 42, 43, 44, 45, 46, 47]), (12, [4])] }
noncomputable def pleachlaw25_OpsBack (b_0 : List Int) (cut_1 : Int) : Option ((Bool × Unit) × Unit) :=
 Option.bind (pleachlaw25_begun) fun (r1 : (Bool × Unit) × Unit) =>
 bif !r1.1.1 then
  some ((false, ()), ())
 else
 bif decide ((b_0.length : Int) > 200) then
  some ((true, ()), ())
 else
  Option.bind (ops_Take b_0) fun (r2 : ((List (Int × Int × Int × Int × ByteArray)) × Unit) × Unit) =>
  Option.bind (ops_Put r2.1.1) fun (r3 : ((List Int) × Unit) × Unit) =>
  Option.bind (ops_Take r3.1.1) fun (r4 : ((List (Int × Int × Int × Int × ByteArray)) × Unit) × Unit) =>
  Option.bind (pleachref10_SameSteps r4.1.1 r2.1.1) fun (r5 : (Bool × Unit) × Unit) =>
  bif !r5.1.1 then
   some ((false, ()), ())
  else
  bif (r3.1.1.length : Int) == 0 then
   some (((r2.1.1.length : Int) == 0, ()), ())
  else
  bif !((r3.1.1.length : Int) == 0) then
   bif decide (0 ≤ Int.tmod (IntKind.wrap .i64 cut_1) (r3.1.1.length : Int)) && decide (Int.tmod (IntKind.wrap .i64 cut_1) (r3.1.1.length : Int) ≤ (r3.1.1.length : Int)) then
    Option.bind (ops_Take (List.drop 0 (List.take ((Int.tmod (IntKind.wrap .i64 cut_1) (r3.1.1.length : Int)).toNat) r3.1.1))) fun (r6 : ((List (Int × Int × Int × Int × ByteArray)) × Unit) × Unit) =>
    bif decide ((r6.1.1.length : Int) < (r2.1.1.length : Int)) then
     bif decide (0 ≤ (r6.1.1.length : Int)) && decide ((r6.1.1.length : Int) ≤ (r2.1.1.length : Int)) then
      Option.bind (pleachref10_SameSteps r6.1.1 (List.drop 0 (List.take ((r6.1.1.length : Int).toNat) r2.1.1))) fun (r7 : (Bool × Unit) × Unit) =>
      some ((r7.1.1, ()), ())
     else none
    else
     some ((false, ()), ())
   else none
  else none
theorem pleachlaw25_OpsBack_eq (b_0 : List Int) (cut_1 : Int) : evFn pleachlaw25_OpsBack_Γ tab pleachlaw25_OpsBack_fi 1 [.val t23, .val t54] [⟨t4, [false], none⟩] Try.f7 (b_0, cut_1, ()) = pleachlaw25_OpsBack b_0 cut_1 := by kernel_rfl
noncomputable def pleachlaw25_OpsBack_e : Ent := ⟨[.val t23, .val t54], [⟨t4, [false], none⟩], fun x => pleachlaw25_OpsBack x.1 x.2.1⟩
theorem pleachlaw25_OpsBack_good : Good tab.ty Try.prog 7 pleachlaw25_OpsBack_e := by
  refine fn_good (Γ := pleachlaw25_OpsBack_Γ) (fi := pleachlaw25_OpsBack_fi) (n := 1) follows (gcons pleachlaw25_begun_good (gcons pleachref10_SameSteps_good (gcons ops_Take_good (gcons ops_Put_good gnil)))) tabok Try.func7 (by kernel_rfl) (by kernel_rfl) (fun x r h => ?_)
  obtain ⟨b_0, cut_1, _u⟩ := x
  exact (pleachlaw25_OpsBack_eq b_0 cut_1).trans h
noncomputable def pleachlaw25_OpsJoins_Γ : Ctx := [(25, pleachlaw25_begun_e), (29, pleachref10_SameSteps_e), (30, ops_Take_e), (32, ops_Put_e)]
def pleachlaw25_OpsJoins_fi : Fi := { keep := [], vty := [], vals := [], live := [(0, [0, 1, 2, 20, 21, 22, 60, 61, 62, 63, 64, 65, 66, 67, 68]), (1, [0, 1, 2, 15, 20, 21, 22, 60, 61, 62, 63, 64, 65, 66, 67, 68]), (2, [6]), (3, [0, 1, 2, 23, 60, 61, 62, 63, 64, 65, 66, 67, 68]), (4, [6]), (5, [2, 7, 8, 60, 61, 62, 63, 64, 65, 66, 67, 68]), (6, [2, 7, 8, 9, 60, 61, 62, 63, 64, 65, 66, 67, 68]), (7, [2, 9, 10, 11, 60, 61, 62, 63, 64, 65, 66, 67, 68]), (8, [2, 9, 10, 11, 12, 60, 61, 62, 63, 64, 65, 66, 67, 68]), (9, [2, 9, 10, 11, 12, 13, 60, 61, 62, 63, 64, 65, 66, 67, 68]), (10, [2, 9, 10, 11, 12, 13, 44, 60, 61, 62, 63, 64, 65, 66, 67, 68]), (11, [2, 9, 10, 11, 12, 13, 60, 61, 62, 63, 64, 65, 66, 67, 68]), (12, [2, 9, 10, 11, 12, 13, 60, 61, 62, 63, 64, 65, 66, 67, 68]), (13, [6])] }
noncomputable def pleachlaw25_OpsJoins_B1 (L1 : Int → Int → (List (Int × Int × Int × Int × ByteArray)) → List Int → List Int → List Int → Option ((Bool × Unit) × Unit)) (v6 : Int) (v7 : Int) (v8 : List (Int × Int × Int × Int × ByteArray)) (v9 : List Int) (v10 : List Int) (v11 : List Int) : Option ((Bool × Unit) × Unit) :=
 bif decide (v7 < IntKind.wrap .i64 (Int.tmod v6 9)) then
  bif Nat.ble (v11.length + 1) 1073741824 then
   L1 v6 (IntKind.wrap .i64 (v7 + 1)) v8 v9 v10 (v11 ++ [IntKind.wrap .u8 (IntKind.wrap .i64 (10 * v7))])
  else none
 else
 bif Nat.ble (v11.length + v10.length) 1073741824 then
  Option.bind (ops_Take (v11 ++ v10)) fun (r12 : ((List (Int × Int × Int × Int × ByteArray)) × Unit) × Unit) =>
  Option.bind (pleachref10_SameSteps r12.1.1 v8) fun (r13 : (Bool × Unit) × Unit) =>
  bif r13.1.1 then
   Option.bind (ops_Put v8) fun (r14 : ((List Int) × Unit) × Unit) =>
   bif decide ((bytesOf v9).size + (bytesOf v10).size ≤ 9223372036854775807) then
    some ((strEq (bytesOf r14.1.1) ((bytesOf v9) ++ (bytesOf v10)), ()), ())
   else none
  else
   some ((false, ()), ())
 else none
noncomputable def pleachlaw25_OpsJoins_T (L1 : Int → Int → (List (Int × Int × Int × Int × ByteArray)) → List Int → List Int → List Int → Option ((Bool × Unit) × Unit)) (a_0 : List Int) (b_1 : List Int) (n_2 : Int) : Option ((Bool × Unit) × Unit) :=
 Option.bind (pleachlaw25_begun) fun (r1 : (Bool × Unit) × Unit) =>
 bif !r1.1.1 then
  some ((false, ()), ())
 else
 bif decide ((a_0.length : Int) > 100) then
  some ((true, ()), ())
 else
 bif decide ((b_1.length : Int) > 100) then
  some ((true, ()), ())
 else
  Option.bind (ops_Take a_0) fun (r2 : ((List (Int × Int × Int × Int × ByteArray)) × Unit) × Unit) =>
  Option.bind (ops_Take b_1) fun (r3 : ((List (Int × Int × Int × Int × ByteArray)) × Unit) × Unit) =>
  bif Nat.ble (0 + r2.1.1.length) 1073741824 then
   bif Nat.ble (([] ++ r2.1.1).length + r3.1.1.length) 1073741824 then
    Option.bind (ops_Put r2.1.1) fun (r4 : ((List Int) × Unit) × Unit) =>
    Option.bind (ops_Put r3.1.1) fun (r5 : ((List Int) × Unit) × Unit) =>
    bif Nat.ble (0 + r4.1.1.length) 1073741824 then
     L1 n_2 0 (([] ++ r2.1.1) ++ r3.1.1) r4.1.1 r5.1.1 ([] ++ r4.1.1)
    else none
   else none
  else none
noncomputable def pleachlaw25_OpsJoins_L1 (n : Nat) : Nat → Int → Int → (List (Int × Int × Int × Int × ByteArray)) → List Int → List Int → List Int → Option ((Bool × Unit) × Unit) := iter (fun _ _ _ _ _ _ => none) fun L => pleachlaw25_OpsJoins_B1 L
noncomputable def pleachlaw25_OpsJoins_X1 (n m : Nat) (v6 : Int) (v7 : Int) (v8 : List (Int × Int × Int × Int × ByteArray)) (v9 : List Int) (v10 : List Int) (v11 : List Int) : Option ((Bool × Unit) × Unit) :=
 atLoop pleachlaw25_OpsJoins_Γ tab (fiB [.val t23, .val t23, .val t5] pleachlaw25_OpsJoins_fi) n [.val t23, .val t23, .val t5] [⟨t4, [false], none⟩] Try.f8 [1, 1, 1, 1, 1, 1, 1, 0, 1, 0] [] [2, 9, 10, 11, 12, 13] m
 ⟨[(2, SV.cv (CV.one (LV.pure t5 v6))), (9, SV.cv (CV.one (LV.ref (888888, 9)))), (10, SV.cv (CV.one (LV.ref (888888, 10)))), (11, SV.cv (CV.one (LV.ref (888888, 11)))), (12, SV.cv (CV.one (LV.ref (888888, 12)))), (13, SV.cv (CV.one (LV.pure t2 v7)))],
  [((888888, 9), Ob.row 37 t36 v8), ((888888, 10), Ob.row 5 t5 v9), ((888888, 11), Ob.row 5 t5 v10), ((888888, 12), Ob.row 5 t5 v11)]⟩
theorem pleachlaw25_OpsJoins_step1 (n m : Nat) (v6 : Int) (v7 : Int) (v8 : List (Int × Int × Int × Int × ByteArray)) (v9 : List Int) (v10 : List Int) (v11 : List Int) : pleachlaw25_OpsJoins_X1 n (m + 1) v6 v7 v8 v9 v10 v11 = pleachlaw25_OpsJoins_B1 (pleachlaw25_OpsJoins_X1 n m) v6 v7 v8 v9 v10 v11 := by kernel_rfl
theorem pleachlaw25_OpsJoins_start (n : Nat) (a_0 : List Int) (b_1 : List Int) (n_2 : Int) : evFn pleachlaw25_OpsJoins_Γ tab pleachlaw25_OpsJoins_fi n [.val t23, .val t23, .val t5] [⟨t4, [false], none⟩] Try.f8 (a_0, b_1, n_2, ()) = pleachlaw25_OpsJoins_T (pleachlaw25_OpsJoins_X1 n n) a_0 b_1 n_2 := by kernel_rfl
theorem pleachlaw25_OpsJoins_XL1 (n : Nat) : ∀ m, pleachlaw25_OpsJoins_X1 n m = pleachlaw25_OpsJoins_L1 n m
 | 0 => rfl
 | m + 1 => by
  have ih := pleachlaw25_OpsJoins_XL1 n m
  funext v6 v7 v8 v9 v10 v11
  rw [pleachlaw25_OpsJoins_step1, ih]
  rfl
noncomputable def pleachlaw25_OpsJoins_n (n : Nat) (a_0 : List Int) (b_1 : List Int) (n_2 : Int) : Option ((Bool × Unit) × Unit) := pleachlaw25_OpsJoins_T (pleachlaw25_OpsJoins_L1 n n) a_0 b_1 n_2
noncomputable def pleachlaw25_OpsJoins (a_0 : List Int) (b_1 : List Int) (n_2 : Int) : Option ((Bool × Unit) × Unit) := pleachlaw25_OpsJoins_n 1099511627776 a_0 b_1 n_2
theorem pleachlaw25_OpsJoins_eq (n : Nat) (a_0 : List Int) (b_1 : List Int) (n_2 : Int) : evFn pleachlaw25_OpsJoins_Γ tab pleachlaw25_OpsJoins_fi n [.val t23, .val t23, .val t5] [⟨t4, [false], none⟩] Try.f8 (a_0, b_1, n_2, ()) = pleachlaw25_OpsJoins_n n a_0 b_1 n_2 := by
  rw [pleachlaw25_OpsJoins_start, pleachlaw25_OpsJoins_XL1 n n]
  rfl
noncomputable def pleachlaw25_OpsJoins_e : Ent := ⟨[.val t23, .val t23, .val t5], [⟨t4, [false], none⟩], fun x => pleachlaw25_OpsJoins x.1 x.2.1 x.2.2.1⟩
theorem pleachlaw25_OpsJoins_good : Good tab.ty Try.prog 8 pleachlaw25_OpsJoins_e := by
  refine fn_good (Γ := pleachlaw25_OpsJoins_Γ) (fi := pleachlaw25_OpsJoins_fi) (n := 1099511627776) follows (gcons pleachlaw25_begun_good (gcons pleachref10_SameSteps_good (gcons ops_Take_good (gcons ops_Put_good gnil)))) tabok Try.func8 (by kernel_rfl) (by kernel_rfl) (fun x r h => ?_)
  obtain ⟨a_0, b_1, n_2, _u⟩ := x
  exact (pleachlaw25_OpsJoins_eq 1099511627776 a_0 b_1 n_2).trans h
noncomputable def pleachlaw25_OpsOne_Γ : Ctx := [(25, pleachlaw25_begun_e), (30, ops_Take_e), (32, ops_Put_e)]
def pleachlaw25_OpsOne_fi : Fi := { keep := [], vty := [], vals := [], live := [(0, [0, 1, 2, 3, 4, 62, 63, 64, 65, 66]), (1, [0, 1, 2, 3, 4, 14, 62, 63, 64, 65, 66]), (2, [10]), (3, [0, 1, 2, 3, 4, 17, 62, 63, 64, 65, 66]), (4, [10]), (5, [1, 2, 3, 4, 11, 62, 63, 64, 65, 66]), (6, [1, 2, 3, 4, 11, 24, 62, 63, 64, 65, 66]), (7, [11, 62, 63, 64, 65, 66]), (8, [1, 2, 3, 4, 11, 24, 28, 62, 63, 64, 65, 66]), (9, [11, 62, 63, 64, 65, 66]), (10, [1, 2, 3, 4, 11, 24, 35, 62, 63, 64, 65, 66]), (11, [1, 2, 3, 4, 11, 24, 35, 62, 63, 64, 65, 66]), (12, [1, 2, 3, 4, 11, 24, 35, 62, 63, 64, 65, 66]), (13, [11, 62, 63, 64, 65, 66]), (14, [2, 3, 4, 11, 24, 42, 62, 63, 64, 65, 66]), (15, [11, 62, 63, 64, 65, 66]), (16, [2, 3, 11, 46, 62, 63, 64, 65, 66]), (17, [11, 62, 63, 64, 65, 66]), (18, [11, 12, 62, 63, 64, 65, 66]), (19, [10])] }
noncomputable def pleachlaw25_OpsOne (kind_0 : Int) (r_1 : Int) (i_2 : Int) (to_3 : Int) (s_4 : ByteArray) : Option ((Bool × Unit) × Unit) :=
 Option.bind (pleachlaw25_begun) fun (r1 : (Bool × Unit) × Unit) =>
 bif !r1.1.1 then
  some ((false, ()), ())
 else
 bif decide ((s_4.size : Int) > 100) then
  some ((true, ()), ())
 else
 bif (IntKind.wrap .i64 (1 + (IntKind.wrap .i64 (Int.tmod kind_0 9)))) == 1 then
  Option.bind (ops_Put [(IntKind.wrap .i64 (1 + (IntKind.wrap .i64 (Int.tmod kind_0 9))), IntKind.wrap .i64 r_1, 0, 0, s_4)]) fun (r2 : ((List Int) × Unit) × Unit) =>
  Option.bind (ops_Take r2.1.1) fun (r3 : ((List (Int × Int × Int × Int × ByteArray)) × Unit) × Unit) =>
  bif (r3.1.1.length : Int) == 1 then
   bif decide (0 < (r3.1.1.length : Int)) then
    bif decide (0 < (r3.1.1.length : Int)) then
     some (((((List.getD r3.1.1 0 (0, 0, 0, 0, (⟨#[]⟩ : ByteArray))).1) == (IntKind.wrap .i64 (1 + (IntKind.wrap .i64 (Int.tmod kind_0 9))))) && (((((List.getD r3.1.1 0 (0, 0, 0, 0, (⟨#[]⟩ : ByteArray))).2).1) == (IntKind.wrap .i64 r_1)) && ((((((List.getD r3.1.1 0 (0, 0, 0, 0, (⟨#[]⟩ : ByteArray))).2).2).1) == 0) && (((((((List.getD r3.1.1 0 (0, 0, 0, 0, (⟨#[]⟩ : ByteArray))).2).2).2).1) == 0) && ((strEq (((((List.getD r3.1.1 0 (0, 0, 0, 0, (⟨#[]⟩ : ByteArray))).2).2).2).2) s_4) && true)))), ()), ())
    else none
   else none
  else
   some ((false, ()), ())
 else
 bif (IntKind.wrap .i64 (1 + (IntKind.wrap .i64 (Int.tmod kind_0 9)))) == 2 then
  bif (IntKind.wrap .i64 (1 + (IntKind.wrap .i64 (Int.tmod kind_0 9)))) == 2 then
   Option.bind (ops_Put [(IntKind.wrap .i64 (1 + (IntKind.wrap .i64 (Int.tmod kind_0 9))), IntKind.wrap .i64 r_1, 0, 0, (⟨#[]⟩ : ByteArray))]) fun (r4 : ((List Int) × Unit) × Unit) =>
   Option.bind (ops_Take r4.1.1) fun (r5 : ((List (Int × Int × Int × Int × ByteArray)) × Unit) × Unit) =>
   bif (r5.1.1.length : Int) == 1 then
    bif decide (0 < (r5.1.1.length : Int)) then
     bif decide (0 < (r5.1.1.length : Int)) then
      some (((((List.getD r5.1.1 0 (0, 0, 0, 0, (⟨#[]⟩ : ByteArray))).1) == (IntKind.wrap .i64 (1 + (IntKind.wrap .i64 (Int.tmod kind_0 9))))) && (((((List.getD r5.1.1 0 (0, 0, 0, 0, (⟨#[]⟩ : ByteArray))).2).1) == (IntKind.wrap .i64 r_1)) && ((((((List.getD r5.1.1 0 (0, 0, 0, 0, (⟨#[]⟩ : ByteArray))).2).2).1) == 0) && (((((((List.getD r5.1.1 0 (0, 0, 0, 0, (⟨#[]⟩ : ByteArray))).2).2).2).1) == 0) && ((strEq (((((List.getD r5.1.1 0 (0, 0, 0, 0, (⟨#[]⟩ : ByteArray))).2).2).2).2) (⟨#[]⟩ : ByteArray)) && true)))), ()), ())
     else none
    else none
   else
    some ((false, ()), ())
  else
  bif (IntKind.wrap .i64 (1 + (IntKind.wrap .i64 (Int.tmod kind_0 9)))) == 4 then
   Option.bind (ops_Put [(IntKind.wrap .i64 (1 + (IntKind.wrap .i64 (Int.tmod kind_0 9))), 0, 0, 0, s_4)]) fun (r6 : ((List Int) × Unit) × Unit) =>
   Option.bind (ops_Take r6.1.1) fun (r7 : ((List (Int × Int × Int × Int × ByteArray)) × Unit) × Unit) =>
   bif (r7.1.1.length : Int) == 1 then
    bif decide (0 < (r7.1.1.length : Int)) then
     bif decide (0 < (r7.1.1.length : Int)) then
      some (((((List.getD r7.1.1 0 (0, 0, 0, 0, (⟨#[]⟩ : ByteArray))).1) == (IntKind.wrap .i64 (1 + (IntKind.wrap .i64 (Int.tmod kind_0 9))))) && (((((List.getD r7.1.1 0 (0, 0, 0, 0, (⟨#[]⟩ : ByteArray))).2).1) == 0) && ((((((List.getD r7.1.1 0 (0, 0, 0, 0, (⟨#[]⟩ : ByteArray))).2).2).1) == 0) && (((((((List.getD r7.1.1 0 (0, 0, 0, 0, (⟨#[]⟩ : ByteArray))).2).2).2).1) == 0) && ((strEq (((((List.getD r7.1.1 0 (0, 0, 0, 0, (⟨#[]⟩ : ByteArray))).2).2).2).2) s_4) && true)))), ()), ())
     else none
    else none
   else
    some ((false, ()), ())
  else
  bif (IntKind.wrap .i64 (1 + (IntKind.wrap .i64 (Int.tmod kind_0 9)))) == 9 then
   Option.bind (ops_Put [(IntKind.wrap .i64 (1 + (IntKind.wrap .i64 (Int.tmod kind_0 9))), 0, IntKind.wrap .i64 i_2, IntKind.wrap .i64 to_3, (⟨#[]⟩ : ByteArray))]) fun (r8 : ((List Int) × Unit) × Unit) =>
   Option.bind (ops_Take r8.1.1) fun (r9 : ((List (Int × Int × Int × Int × ByteArray)) × Unit) × Unit) =>
   bif (r9.1.1.length : Int) == 1 then
    bif decide (0 < (r9.1.1.length : Int)) then
     bif decide (0 < (r9.1.1.length : Int)) then
      some (((((List.getD r9.1.1 0 (0, 0, 0, 0, (⟨#[]⟩ : ByteArray))).1) == (IntKind.wrap .i64 (1 + (IntKind.wrap .i64 (Int.tmod kind_0 9))))) && (((((List.getD r9.1.1 0 (0, 0, 0, 0, (⟨#[]⟩ : ByteArray))).2).1) == 0) && ((((((List.getD r9.1.1 0 (0, 0, 0, 0, (⟨#[]⟩ : ByteArray))).2).2).1) == (IntKind.wrap .i64 i_2)) && (((((((List.getD r9.1.1 0 (0, 0, 0, 0, (⟨#[]⟩ : ByteArray))).2).2).2).1) == (IntKind.wrap .i64 to_3)) && ((strEq (((((List.getD r9.1.1 0 (0, 0, 0, 0, (⟨#[]⟩ : ByteArray))).2).2).2).2) (⟨#[]⟩ : ByteArray)) && true)))), ()), ())
     else none
    else none
   else
    some ((false, ()), ())
  else
   Option.bind (ops_Put [(IntKind.wrap .i64 (1 + (IntKind.wrap .i64 (Int.tmod kind_0 9))), 0, IntKind.wrap .i64 i_2, 0, (⟨#[]⟩ : ByteArray))]) fun (r10 : ((List Int) × Unit) × Unit) =>
   Option.bind (ops_Take r10.1.1) fun (r11 : ((List (Int × Int × Int × Int × ByteArray)) × Unit) × Unit) =>
   bif (r11.1.1.length : Int) == 1 then
    bif decide (0 < (r11.1.1.length : Int)) then
     bif decide (0 < (r11.1.1.length : Int)) then
      some (((((List.getD r11.1.1 0 (0, 0, 0, 0, (⟨#[]⟩ : ByteArray))).1) == (IntKind.wrap .i64 (1 + (IntKind.wrap .i64 (Int.tmod kind_0 9))))) && (((((List.getD r11.1.1 0 (0, 0, 0, 0, (⟨#[]⟩ : ByteArray))).2).1) == 0) && ((((((List.getD r11.1.1 0 (0, 0, 0, 0, (⟨#[]⟩ : ByteArray))).2).2).1) == (IntKind.wrap .i64 i_2)) && (((((((List.getD r11.1.1 0 (0, 0, 0, 0, (⟨#[]⟩ : ByteArray))).2).2).2).1) == 0) && ((strEq (((((List.getD r11.1.1 0 (0, 0, 0, 0, (⟨#[]⟩ : ByteArray))).2).2).2).2) (⟨#[]⟩ : ByteArray)) && true)))), ()), ())
     else none
    else none
   else
    some ((false, ()), ())
 else
 bif (IntKind.wrap .i64 (1 + (IntKind.wrap .i64 (Int.tmod kind_0 9)))) == 3 then
  bif (IntKind.wrap .i64 (1 + (IntKind.wrap .i64 (Int.tmod kind_0 9)))) == 3 then
   Option.bind (ops_Put [(IntKind.wrap .i64 (1 + (IntKind.wrap .i64 (Int.tmod kind_0 9))), IntKind.wrap .i64 r_1, 0, 0, (⟨#[]⟩ : ByteArray))]) fun (r12 : ((List Int) × Unit) × Unit) =>
   Option.bind (ops_Take r12.1.1) fun (r13 : ((List (Int × Int × Int × Int × ByteArray)) × Unit) × Unit) =>
   bif (r13.1.1.length : Int) == 1 then
    bif decide (0 < (r13.1.1.length : Int)) then
     bif decide (0 < (r13.1.1.length : Int)) then
      some (((((List.getD r13.1.1 0 (0, 0, 0, 0, (⟨#[]⟩ : ByteArray))).1) == (IntKind.wrap .i64 (1 + (IntKind.wrap .i64 (Int.tmod kind_0 9))))) && (((((List.getD r13.1.1 0 (0, 0, 0, 0, (⟨#[]⟩ : ByteArray))).2).1) == (IntKind.wrap .i64 r_1)) && ((((((List.getD r13.1.1 0 (0, 0, 0, 0, (⟨#[]⟩ : ByteArray))).2).2).1) == 0) && (((((((List.getD r13.1.1 0 (0, 0, 0, 0, (⟨#[]⟩ : ByteArray))).2).2).2).1) == 0) && ((strEq (((((List.getD r13.1.1 0 (0, 0, 0, 0, (⟨#[]⟩ : ByteArray))).2).2).2).2) (⟨#[]⟩ : ByteArray)) && true)))), ()), ())
     else none
    else none
   else
    some ((false, ()), ())
  else
  bif (IntKind.wrap .i64 (1 + (IntKind.wrap .i64 (Int.tmod kind_0 9)))) == 4 then
   Option.bind (ops_Put [(IntKind.wrap .i64 (1 + (IntKind.wrap .i64 (Int.tmod kind_0 9))), 0, 0, 0, s_4)]) fun (r14 : ((List Int) × Unit) × Unit) =>
   Option.bind (ops_Take r14.1.1) fun (r15 : ((List (Int × Int × Int × Int × ByteArray)) × Unit) × Unit) =>
   bif (r15.1.1.length : Int) == 1 then
    bif decide (0 < (r15.1.1.length : Int)) then
     bif decide (0 < (r15.1.1.length : Int)) then
      some (((((List.getD r15.1.1 0 (0, 0, 0, 0, (⟨#[]⟩ : ByteArray))).1) == (IntKind.wrap .i64 (1 + (IntKind.wrap .i64 (Int.tmod kind_0 9))))) && (((((List.getD r15.1.1 0 (0, 0, 0, 0, (⟨#[]⟩ : ByteArray))).2).1) == 0) && ((((((List.getD r15.1.1 0 (0, 0, 0, 0, (⟨#[]⟩ : ByteArray))).2).2).1) == 0) && (((((((List.getD r15.1.1 0 (0, 0, 0, 0, (⟨#[]⟩ : ByteArray))).2).2).2).1) == 0) && ((strEq (((((List.getD r15.1.1 0 (0, 0, 0, 0, (⟨#[]⟩ : ByteArray))).2).2).2).2) s_4) && true)))), ()), ())
     else none
    else none
   else
    some ((false, ()), ())
  else
  bif (IntKind.wrap .i64 (1 + (IntKind.wrap .i64 (Int.tmod kind_0 9)))) == 9 then
   Option.bind (ops_Put [(IntKind.wrap .i64 (1 + (IntKind.wrap .i64 (Int.tmod kind_0 9))), 0, IntKind.wrap .i64 i_2, IntKind.wrap .i64 to_3, (⟨#[]⟩ : ByteArray))]) fun (r16 : ((List Int) × Unit) × Unit) =>
   Option.bind (ops_Take r16.1.1) fun (r17 : ((List (Int × Int × Int × Int × ByteArray)) × Unit) × Unit) =>
   bif (r17.1.1.length : Int) == 1 then
    bif decide (0 < (r17.1.1.length : Int)) then
     bif decide (0 < (r17.1.1.length : Int)) then
      some (((((List.getD r17.1.1 0 (0, 0, 0, 0, (⟨#[]⟩ : ByteArray))).1) == (IntKind.wrap .i64 (1 + (IntKind.wrap .i64 (Int.tmod kind_0 9))))) && (((((List.getD r17.1.1 0 (0, 0, 0, 0, (⟨#[]⟩ : ByteArray))).2).1) == 0) && ((((((List.getD r17.1.1 0 (0, 0, 0, 0, (⟨#[]⟩ : ByteArray))).2).2).1) == (IntKind.wrap .i64 i_2)) && (((((((List.getD r17.1.1 0 (0, 0, 0, 0, (⟨#[]⟩ : ByteArray))).2).2).2).1) == (IntKind.wrap .i64 to_3)) && ((strEq (((((List.getD r17.1.1 0 (0, 0, 0, 0, (⟨#[]⟩ : ByteArray))).2).2).2).2) (⟨#[]⟩ : ByteArray)) && true)))), ()), ())
     else none
    else none
   else
    some ((false, ()), ())
  else
   Option.bind (ops_Put [(IntKind.wrap .i64 (1 + (IntKind.wrap .i64 (Int.tmod kind_0 9))), 0, IntKind.wrap .i64 i_2, 0, (⟨#[]⟩ : ByteArray))]) fun (r18 : ((List Int) × Unit) × Unit) =>
   Option.bind (ops_Take r18.1.1) fun (r19 : ((List (Int × Int × Int × Int × ByteArray)) × Unit) × Unit) =>
   bif (r19.1.1.length : Int) == 1 then
    bif decide (0 < (r19.1.1.length : Int)) then
     bif decide (0 < (r19.1.1.length : Int)) then
      some (((((List.getD r19.1.1 0 (0, 0, 0, 0, (⟨#[]⟩ : ByteArray))).1) == (IntKind.wrap .i64 (1 + (IntKind.wrap .i64 (Int.tmod kind_0 9))))) && (((((List.getD r19.1.1 0 (0, 0, 0, 0, (⟨#[]⟩ : ByteArray))).2).1) == 0) && ((((((List.getD r19.1.1 0 (0, 0, 0, 0, (⟨#[]⟩ : ByteArray))).2).2).1) == (IntKind.wrap .i64 i_2)) && (((((((List.getD r19.1.1 0 (0, 0, 0, 0, (⟨#[]⟩ : ByteArray))).2).2).2).1) == 0) && ((strEq (((((List.getD r19.1.1 0 (0, 0, 0, 0, (⟨#[]⟩ : ByteArray))).2).2).2).2) (⟨#[]⟩ : ByteArray)) && true)))), ()), ())
     else none
    else none
   else
    some ((false, ()), ())
 else
 bif (IntKind.wrap .i64 (1 + (IntKind.wrap .i64 (Int.tmod kind_0 9)))) == 5 then
  Option.bind (ops_Put [(IntKind.wrap .i64 (1 + (IntKind.wrap .i64 (Int.tmod kind_0 9))), IntKind.wrap .i64 r_1, 0, 0, (⟨#[]⟩ : ByteArray))]) fun (r20 : ((List Int) × Unit) × Unit) =>
  Option.bind (ops_Take r20.1.1) fun (r21 : ((List (Int × Int × Int × Int × ByteArray)) × Unit) × Unit) =>
  bif (r21.1.1.length : Int) == 1 then
   bif decide (0 < (r21.1.1.length : Int)) then
    bif decide (0 < (r21.1.1.length : Int)) then
     some (((((List.getD r21.1.1 0 (0, 0, 0, 0, (⟨#[]⟩ : ByteArray))).1) == (IntKind.wrap .i64 (1 + (IntKind.wrap .i64 (Int.tmod kind_0 9))))) && (((((List.getD r21.1.1 0 (0, 0, 0, 0, (⟨#[]⟩ : ByteArray))).2).1) == (IntKind.wrap .i64 r_1)) && ((((((List.getD r21.1.1 0 (0, 0, 0, 0, (⟨#[]⟩ : ByteArray))).2).2).1) == 0) && (((((((List.getD r21.1.1 0 (0, 0, 0, 0, (⟨#[]⟩ : ByteArray))).2).2).2).1) == 0) && ((strEq (((((List.getD r21.1.1 0 (0, 0, 0, 0, (⟨#[]⟩ : ByteArray))).2).2).2).2) (⟨#[]⟩ : ByteArray)) && true)))), ()), ())
    else none
   else none
  else
   some ((false, ()), ())
 else
 bif (IntKind.wrap .i64 (1 + (IntKind.wrap .i64 (Int.tmod kind_0 9)))) == 4 then
  Option.bind (ops_Put [(IntKind.wrap .i64 (1 + (IntKind.wrap .i64 (Int.tmod kind_0 9))), 0, 0, 0, s_4)]) fun (r22 : ((List Int) × Unit) × Unit) =>
  Option.bind (ops_Take r22.1.1) fun (r23 : ((List (Int × Int × Int × Int × ByteArray)) × Unit) × Unit) =>
  bif (r23.1.1.length : Int) == 1 then
   bif decide (0 < (r23.1.1.length : Int)) then
    bif decide (0 < (r23.1.1.length : Int)) then
     some (((((List.getD r23.1.1 0 (0, 0, 0, 0, (⟨#[]⟩ : ByteArray))).1) == (IntKind.wrap .i64 (1 + (IntKind.wrap .i64 (Int.tmod kind_0 9))))) && (((((List.getD r23.1.1 0 (0, 0, 0, 0, (⟨#[]⟩ : ByteArray))).2).1) == 0) && ((((((List.getD r23.1.1 0 (0, 0, 0, 0, (⟨#[]⟩ : ByteArray))).2).2).1) == 0) && (((((((List.getD r23.1.1 0 (0, 0, 0, 0, (⟨#[]⟩ : ByteArray))).2).2).2).1) == 0) && ((strEq (((((List.getD r23.1.1 0 (0, 0, 0, 0, (⟨#[]⟩ : ByteArray))).2).2).2).2) s_4) && true)))), ()), ())
    else none
   else none
  else
   some ((false, ()), ())
 else
 bif (IntKind.wrap .i64 (1 + (IntKind.wrap .i64 (Int.tmod kind_0 9)))) == 9 then
  Option.bind (ops_Put [(IntKind.wrap .i64 (1 + (IntKind.wrap .i64 (Int.tmod kind_0 9))), 0, IntKind.wrap .i64 i_2, IntKind.wrap .i64 to_3, (⟨#[]⟩ : ByteArray))]) fun (r24 : ((List Int) × Unit) × Unit) =>
  Option.bind (ops_Take r24.1.1) fun (r25 : ((List (Int × Int × Int × Int × ByteArray)) × Unit) × Unit) =>
  bif (r25.1.1.length : Int) == 1 then
   bif decide (0 < (r25.1.1.length : Int)) then
    bif decide (0 < (r25.1.1.length : Int)) then
     some (((((List.getD r25.1.1 0 (0, 0, 0, 0, (⟨#[]⟩ : ByteArray))).1) == (IntKind.wrap .i64 (1 + (IntKind.wrap .i64 (Int.tmod kind_0 9))))) && (((((List.getD r25.1.1 0 (0, 0, 0, 0, (⟨#[]⟩ : ByteArray))).2).1) == 0) && ((((((List.getD r25.1.1 0 (0, 0, 0, 0, (⟨#[]⟩ : ByteArray))).2).2).1) == (IntKind.wrap .i64 i_2)) && (((((((List.getD r25.1.1 0 (0, 0, 0, 0, (⟨#[]⟩ : ByteArray))).2).2).2).1) == (IntKind.wrap .i64 to_3)) && ((strEq (((((List.getD r25.1.1 0 (0, 0, 0, 0, (⟨#[]⟩ : ByteArray))).2).2).2).2) (⟨#[]⟩ : ByteArray)) && true)))), ()), ())
    else none
   else none
  else
   some ((false, ()), ())
 else
  Option.bind (ops_Put [(IntKind.wrap .i64 (1 + (IntKind.wrap .i64 (Int.tmod kind_0 9))), 0, IntKind.wrap .i64 i_2, 0, (⟨#[]⟩ : ByteArray))]) fun (r26 : ((List Int) × Unit) × Unit) =>
  Option.bind (ops_Take r26.1.1) fun (r27 : ((List (Int × Int × Int × Int × ByteArray)) × Unit) × Unit) =>
  bif (r27.1.1.length : Int) == 1 then
   bif decide (0 < (r27.1.1.length : Int)) then
    bif decide (0 < (r27.1.1.length : Int)) then
     some (((((List.getD r27.1.1 0 (0, 0, 0, 0, (⟨#[]⟩ : ByteArray))).1) == (IntKind.wrap .i64 (1 + (IntKind.wrap .i64 (Int.tmod kind_0 9))))) && (((((List.getD r27.1.1 0 (0, 0, 0, 0, (⟨#[]⟩ : ByteArray))).2).1) == 0) && ((((((List.getD r27.1.1 0 (0, 0, 0, 0, (⟨#[]⟩ : ByteArray))).2).2).1) == (IntKind.wrap .i64 i_2)) && (((((((List.getD r27.1.1 0 (0, 0, 0, 0, (⟨#[]⟩ : ByteArray))).2).2).2).1) == 0) && ((strEq (((((List.getD r27.1.1 0 (0, 0, 0, 0, (⟨#[]⟩ : ByteArray))).2).2).2).2) (⟨#[]⟩ : ByteArray)) && true)))), ()), ())
    else none
   else none
  else
   some ((false, ()), ())
theorem pleachlaw25_OpsOne_eq (kind_0 : Int) (r_1 : Int) (i_2 : Int) (to_3 : Int) (s_4 : ByteArray) : evFn pleachlaw25_OpsOne_Γ tab pleachlaw25_OpsOne_fi 1 [.val t5, .val t54, .val t54, .val t54, .val t9] [⟨t4, [false], none⟩] Try.f10 (kind_0, r_1, i_2, to_3, s_4, ()) = pleachlaw25_OpsOne kind_0 r_1 i_2 to_3 s_4 := by kernel_rfl
noncomputable def pleachlaw25_OpsOne_e : Ent := ⟨[.val t5, .val t54, .val t54, .val t54, .val t9], [⟨t4, [false], none⟩], fun x => pleachlaw25_OpsOne x.1 x.2.1 x.2.2.1 x.2.2.2.1 x.2.2.2.2.1⟩
theorem pleachlaw25_OpsOne_good : Good tab.ty Try.prog 10 pleachlaw25_OpsOne_e := by
  refine fn_good (Γ := pleachlaw25_OpsOne_Γ) (fi := pleachlaw25_OpsOne_fi) (n := 1) follows (gcons pleachlaw25_begun_good (gcons ops_Take_good (gcons ops_Put_good gnil))) tabok Try.func10 (by kernel_rfl) (by kernel_rfl) (fun x r h => ?_)
  obtain ⟨kind_0, r_1, i_2, to_3, s_4, _u⟩ := x
  exact (pleachlaw25_OpsOne_eq kind_0 r_1 i_2 to_3 s_4).trans h
noncomputable def slices_Equal_int_Γ : Ctx := []
def slices_Equal_int_fi : Fi := { keep := [], vty := [], vals := [], live := [(0, [0, 1]), (1, [0, 1, 10]), (2, [4]), (3, [0, 1, 12, 13]), (4, [0, 1, 12, 13, 14]), (5, [0, 1, 5, 12, 13]), (6, [0, 1, 12, 13, 24]), (7, [4]), (8, [0, 1, 12, 13]), (9, [4])] }
noncomputable def slices_Equal_int_B1 (L1 : List Int → List Int → Int → Int → Option ((Bool × Unit) × Unit)) (v1 : List Int) (v2 : List Int) (v3 : Int) (v4 : Int) : Option ((Bool × Unit) × Unit) :=
 bif decide (v4 < v3) then
  bif decide (0 ≤ v4) && decide (v4 < (v1.length : Int)) then
   bif decide (0 ≤ v4) && decide (v4 < (v2.length : Int)) then
    bif (List.getD v1 v4.toNat 0) != (List.getD v2 v4.toNat 0) then
     some ((false, ()), ())
    else
     L1 v1 v2 v3 (IntKind.wrap .i64 (v4 + 1))
   else none
  else none
 else
  some ((true, ()), ())
noncomputable def slices_Equal_int_T (L1 : List Int → List Int → Int → Int → Option ((Bool × Unit) × Unit)) (s1_0 : List Int) (s2_1 : List Int) : Option ((Bool × Unit) × Unit) :=
 bif (s1_0.length : Int) != (s2_1.length : Int) then
  some ((false, ()), ())
 else
  L1 s1_0 s2_1 (s1_0.length : Int) 0
noncomputable def slices_Equal_int_L1 (n : Nat) : Nat → List Int → List Int → Int → Int → Option ((Bool × Unit) × Unit) := iter (fun _ _ _ _ => none) fun L => slices_Equal_int_B1 L
noncomputable def slices_Equal_int_X1 (n m : Nat) (v1 : List Int) (v2 : List Int) (v3 : Int) (v4 : Int) : Option ((Bool × Unit) × Unit) :=
 atLoop slices_Equal_int_Γ tab (fiB [.val t33, .val t33] slices_Equal_int_fi) n [.val t33, .val t33] [⟨t4, [false], none⟩] Try.f64 [1, 1, 0, 1, 0] [] [0, 1, 12, 13] m
 ⟨[(0, SV.cv (CV.one (LV.pure t33 v1))), (1, SV.cv (CV.one (LV.pure t33 v2))), (12, SV.cv (CV.one (LV.pure t2 v3))), (13, SV.cv (CV.one (LV.pure t2 v4)))],
  []⟩
theorem slices_Equal_int_step1 (n m : Nat) (v1 : List Int) (v2 : List Int) (v3 : Int) (v4 : Int) : slices_Equal_int_X1 n (m + 1) v1 v2 v3 v4 = slices_Equal_int_B1 (slices_Equal_int_X1 n m) v1 v2 v3 v4 := by kernel_rfl
theorem slices_Equal_int_start (n : Nat) (s1_0 : List Int) (s2_1 : List Int) : evFn slices_Equal_int_Γ tab slices_Equal_int_fi n [.val t33, .val t33] [⟨t4, [false], none⟩] Try.f64 (s1_0, s2_1, ()) = slices_Equal_int_T (slices_Equal_int_X1 n n) s1_0 s2_1 := by kernel_rfl
theorem slices_Equal_int_XL1 (n : Nat) : ∀ m, slices_Equal_int_X1 n m = slices_Equal_int_L1 n m
 | 0 => rfl
 | m + 1 => by
  have ih := slices_Equal_int_XL1 n m
  funext v1 v2 v3 v4
  rw [slices_Equal_int_step1, ih]
  rfl
noncomputable def slices_Equal_int_n (n : Nat) (s1_0 : List Int) (s2_1 : List Int) : Option ((Bool × Unit) × Unit) := slices_Equal_int_T (slices_Equal_int_L1 n n) s1_0 s2_1
noncomputable def slices_Equal_int (s1_0 : List Int) (s2_1 : List Int) : Option ((Bool × Unit) × Unit) := slices_Equal_int_n 1099511627776 s1_0 s2_1
theorem slices_Equal_int_eq (n : Nat) (s1_0 : List Int) (s2_1 : List Int) : evFn slices_Equal_int_Γ tab slices_Equal_int_fi n [.val t33, .val t33] [⟨t4, [false], none⟩] Try.f64 (s1_0, s2_1, ()) = slices_Equal_int_n n s1_0 s2_1 := by
  rw [slices_Equal_int_start, slices_Equal_int_XL1 n n]
  rfl
noncomputable def slices_Equal_int_e : Ent := ⟨[.val t33, .val t33], [⟨t4, [false], none⟩], fun x => slices_Equal_int x.1 x.2.1⟩
theorem slices_Equal_int_good : Good tab.ty Try.prog 64 slices_Equal_int_e := by
  refine fn_good (Γ := slices_Equal_int_Γ) (fi := slices_Equal_int_fi) (n := 1099511627776) follows gnil tabok Try.func64 (by kernel_rfl) (by kernel_rfl) (fun x r h => ?_)
  obtain ⟨s1_0, s2_1, _u⟩ := x
  exact (slices_Equal_int_eq 1099511627776 s1_0 s2_1).trans h
noncomputable def pleachref1_SameInts_Γ : Ctx := []
def pleachref1_SameInts_fi : Fi := { keep := [], vty := [], vals := [], live := [(0, [0, 1]), (1, [0, 1, 10]), (2, [4]), (3, [0, 1, 5]), (4, [0, 1, 5, 14]), (5, [0, 1, 5]), (6, [0, 1, 5, 25]), (7, [4]), (8, [4])] }
noncomputable def pleachref1_SameInts_B1 (L1 : List Int → List Int → Int → Option ((Bool × Unit) × Unit)) (v1 : List Int) (v2 : List Int) (v3 : Int) : Option ((Bool × Unit) × Unit) :=
 bif decide (v3 < (v1.length : Int)) then
  bif decide (0 ≤ v3) && decide (v3 < (v1.length : Int)) then
   bif decide (0 ≤ v3) && decide (v3 < (v2.length : Int)) then
    bif (List.getD v1 v3.toNat 0) != (List.getD v2 v3.toNat 0) then
     some ((false, ()), ())
    else
     L1 v1 v2 (IntKind.wrap .i64 (v3 + 1))
   else none
  else none
 else
  some ((true, ()), ())
noncomputable def pleachref1_SameInts_T (L1 : List Int → List Int → Int → Option ((Bool × Unit) × Unit)) (a_0 : List Int) (b_1 : List Int) : Option ((Bool × Unit) × Unit) :=
 bif (a_0.length : Int) != (b_1.length : Int) then
  some ((false, ()), ())
 else
  L1 a_0 b_1 0
noncomputable def pleachref1_SameInts_L1 (n : Nat) : Nat → List Int → List Int → Int → Option ((Bool × Unit) × Unit) := iter (fun _ _ _ => none) fun L => pleachref1_SameInts_B1 L
noncomputable def pleachref1_SameInts_X1 (n m : Nat) (v1 : List Int) (v2 : List Int) (v3 : Int) : Option ((Bool × Unit) × Unit) :=
 atLoop pleachref1_SameInts_Γ tab (fiB [.val t33, .val t33] pleachref1_SameInts_fi) n [.val t33, .val t33] [⟨t4, [false], none⟩] Try.f65 [1, 1, 0, 1, 0] [] [0, 1, 5] m
 ⟨[(0, SV.cv (CV.one (LV.pure t33 v1))), (1, SV.cv (CV.one (LV.pure t33 v2))), (5, SV.cv (CV.one (LV.pure t2 v3)))],
  []⟩
theorem pleachref1_SameInts_step1 (n m : Nat) (v1 : List Int) (v2 : List Int) (v3 : Int) : pleachref1_SameInts_X1 n (m + 1) v1 v2 v3 = pleachref1_SameInts_B1 (pleachref1_SameInts_X1 n m) v1 v2 v3 := by kernel_rfl
theorem pleachref1_SameInts_start (n : Nat) (a_0 : List Int) (b_1 : List Int) : evFn pleachref1_SameInts_Γ tab pleachref1_SameInts_fi n [.val t33, .val t33] [⟨t4, [false], none⟩] Try.f65 (a_0, b_1, ()) = pleachref1_SameInts_T (pleachref1_SameInts_X1 n n) a_0 b_1 := by kernel_rfl
theorem pleachref1_SameInts_XL1 (n : Nat) : ∀ m, pleachref1_SameInts_X1 n m = pleachref1_SameInts_L1 n m
 | 0 => rfl
 | m + 1 => by
  have ih := pleachref1_SameInts_XL1 n m
  funext v1 v2 v3
  rw [pleachref1_SameInts_step1, ih]
  rfl
noncomputable def pleachref1_SameInts_n (n : Nat) (a_0 : List Int) (b_1 : List Int) : Option ((Bool × Unit) × Unit) := pleachref1_SameInts_T (pleachref1_SameInts_L1 n n) a_0 b_1
noncomputable def pleachref1_SameInts (a_0 : List Int) (b_1 : List Int) : Option ((Bool × Unit) × Unit) := pleachref1_SameInts_n 1099511627776 a_0 b_1
theorem pleachref1_SameInts_eq (n : Nat) (a_0 : List Int) (b_1 : List Int) : evFn pleachref1_SameInts_Γ tab pleachref1_SameInts_fi n [.val t33, .val t33] [⟨t4, [false], none⟩] Try.f65 (a_0, b_1, ()) = pleachref1_SameInts_n n a_0 b_1 := by
  rw [pleachref1_SameInts_start, pleachref1_SameInts_XL1 n n]
  rfl
noncomputable def pleachref1_SameInts_e : Ent := ⟨[.val t33, .val t33], [⟨t4, [false], none⟩], fun x => pleachref1_SameInts x.1 x.2.1⟩
theorem pleachref1_SameInts_good : Good tab.ty Try.prog 65 pleachref1_SameInts_e := by
  refine fn_good (Γ := pleachref1_SameInts_Γ) (fi := pleachref1_SameInts_fi) (n := 1099511627776) follows gnil tabok Try.func65 (by kernel_rfl) (by kernel_rfl) (fun x r h => ?_)
  obtain ⟨a_0, b_1, _u⟩ := x
  exact (pleachref1_SameInts_eq 1099511627776 a_0 b_1).trans h
noncomputable def slices_Equal_byte_Γ : Ctx := []
def slices_Equal_byte_fi : Fi := { keep := [], vty := [], vals := [], live := [(0, [0, 1]), (1, [0, 1, 10]), (2, [4]), (3, [0, 1, 12, 13]), (4, [0, 1, 12, 13, 14]), (5, [0, 1, 5, 12, 13]), (6, [0, 1, 12, 13, 24]), (7, [4]), (8, [0, 1, 12, 13]), (9, [4])] }
noncomputable def slices_Equal_byte_B1 (L1 : List Int → List Int → Int → Int → Option ((Bool × Unit) × Unit)) (v1 : List Int) (v2 : List Int) (v3 : Int) (v4 : Int) : Option ((Bool × Unit) × Unit) :=
 bif decide (v4 < v3) then
  bif decide (0 ≤ v4) && decide (v4 < (v1.length : Int)) then
   bif decide (0 ≤ v4) && decide (v4 < (v2.length : Int)) then
    bif (List.getD v1 v4.toNat 0) != (List.getD v2 v4.toNat 0) then
     some ((false, ()), ())
    else
     L1 v1 v2 v3 (IntKind.wrap .i64 (v4 + 1))
   else none
  else none
 else
  some ((true, ()), ())
noncomputable def slices_Equal_byte_T (L1 : List Int → List Int → Int → Int → Option ((Bool × Unit) × Unit)) (s1_0 : List Int) (s2_1 : List Int) : Option ((Bool × Unit) × Unit) :=
 bif (s1_0.length : Int) != (s2_1.length : Int) then
  some ((false, ()), ())
 else
  L1 s1_0 s2_1 (s1_0.length : Int) 0
noncomputable def slices_Equal_byte_L1 (n : Nat) : Nat → List Int → List Int → Int → Int → Option ((Bool × Unit) × Unit) := iter (fun _ _ _ _ => none) fun L => slices_Equal_byte_B1 L
noncomputable def slices_Equal_byte_X1 (n m : Nat) (v1 : List Int) (v2 : List Int) (v3 : Int) (v4 : Int) : Option ((Bool × Unit) × Unit) :=
 atLoop slices_Equal_byte_Γ tab (fiB [.val t23, .val t23] slices_Equal_byte_fi) n [.val t23, .val t23] [⟨t4, [false], none⟩] Try.f67 [1, 1, 0, 1, 0] [] [0, 1, 12, 13] m
 ⟨[(0, SV.cv (CV.one (LV.pure t23 v1))), (1, SV.cv (CV.one (LV.pure t23 v2))), (12, SV.cv (CV.one (LV.pure t2 v3))), (13, SV.cv (CV.one (LV.pure t2 v4)))],
  []⟩
theorem slices_Equal_byte_step1 (n m : Nat) (v1 : List Int) (v2 : List Int) (v3 : Int) (v4 : Int) : slices_Equal_byte_X1 n (m + 1) v1 v2 v3 v4 = slices_Equal_byte_B1 (slices_Equal_byte_X1 n m) v1 v2 v3 v4 := by kernel_rfl
theorem slices_Equal_byte_start (n : Nat) (s1_0 : List Int) (s2_1 : List Int) : evFn slices_Equal_byte_Γ tab slices_Equal_byte_fi n [.val t23, .val t23] [⟨t4, [false], none⟩] Try.f67 (s1_0, s2_1, ()) = slices_Equal_byte_T (slices_Equal_byte_X1 n n) s1_0 s2_1 := by kernel_rfl
theorem slices_Equal_byte_XL1 (n : Nat) : ∀ m, slices_Equal_byte_X1 n m = slices_Equal_byte_L1 n m
 | 0 => rfl
 | m + 1 => by
  have ih := slices_Equal_byte_XL1 n m
  funext v1 v2 v3 v4
  rw [slices_Equal_byte_step1, ih]
  rfl
noncomputable def slices_Equal_byte_n (n : Nat) (s1_0 : List Int) (s2_1 : List Int) : Option ((Bool × Unit) × Unit) := slices_Equal_byte_T (slices_Equal_byte_L1 n n) s1_0 s2_1
noncomputable def slices_Equal_byte (s1_0 : List Int) (s2_1 : List Int) : Option ((Bool × Unit) × Unit) := slices_Equal_byte_n 1099511627776 s1_0 s2_1
theorem slices_Equal_byte_eq (n : Nat) (s1_0 : List Int) (s2_1 : List Int) : evFn slices_Equal_byte_Γ tab slices_Equal_byte_fi n [.val t23, .val t23] [⟨t4, [false], none⟩] Try.f67 (s1_0, s2_1, ()) = slices_Equal_byte_n n s1_0 s2_1 := by
  rw [slices_Equal_byte_start, slices_Equal_byte_XL1 n n]
  rfl
noncomputable def slices_Equal_byte_e : Ent := ⟨[.val t23, .val t23], [⟨t4, [false], none⟩], fun x => slices_Equal_byte x.1 x.2.1⟩
theorem slices_Equal_byte_good : Good tab.ty Try.prog 67 slices_Equal_byte_e := by
  refine fn_good (Γ := slices_Equal_byte_Γ) (fi := slices_Equal_byte_fi) (n := 1099511627776) follows gnil tabok Try.func67 (by kernel_rfl) (by kernel_rfl) (fun x r h => ?_)
  obtain ⟨s1_0, s2_1, _u⟩ := x
  exact (slices_Equal_byte_eq 1099511627776 s1_0 s2_1).trans h
noncomputable def slices_IndexFunc_int_Γ : Ctx := []
def slices_IndexFunc_int_fi : Fi := { keep := [], vty := [], vals := [], live := [(0, [0, 1]), (1, [0, 1, 7, 8]), (2, [0, 1, 7, 8, 9]), (3, [0, 1, 5, 7, 8]), (4, [0, 1, 5, 7, 8, 16]), (5, [4]), (6, [0, 1, 7, 8]), (7, [4])] }
noncomputable def slices_IndexFunc_int_B1 (L1 : List Int → (Int × Unit → Option (Bool × Unit)) → Int → Int → Option ((Int × Unit) × Unit)) (v1 : List Int) (v2 : (Int × Unit → Option (Bool × Unit))) (v3 : Int) (v4 : Int) : Option ((Int × Unit) × Unit) :=
 bif decide (v4 < v3) then
  bif decide (0 ≤ v4) && decide (v4 < (v1.length : Int)) then
   Option.bind (v2 (List.getD v1 v4.toNat 0, ())) fun (r5 : Bool × Unit) =>
   bif r5.1 then
    some ((v4, ()), ())
   else
    L1 v1 v2 v3 (IntKind.wrap .i64 (v4 + 1))
  else none
 else
  some (((-1), ()), ())
noncomputable def slices_IndexFunc_int_T (L1 : List Int → (Int × Unit → Option (Bool × Unit)) → Int → Int → Option ((Int × Unit) × Unit)) (s_0 : List Int) (f_1 : (Int × Unit → Option (Bool × Unit))) : Option ((Int × Unit) × Unit) :=
 L1 s_0 f_1 (s_0.length : Int) 0
noncomputable def slices_IndexFunc_int_L1 (n : Nat) : Nat → List Int → (Int × Unit → Option (Bool × Unit)) → Int → Int → Option ((Int × Unit) × Unit) := iter (fun _ _ _ _ => none) fun L => slices_IndexFunc_int_B1 L
noncomputable def slices_IndexFunc_int_X1 (n m : Nat) (v1 : List Int) (v2 : (Int × Unit → Option (Bool × Unit))) (v3 : Int) (v4 : Int) : Option ((Int × Unit) × Unit) :=
 atLoop slices_IndexFunc_int_Γ tab (fiB [.val t33, .fn [t2] [t4]] slices_IndexFunc_int_fi) n [.val t33, .fn [t2] [t4]] [⟨t2, [false], none⟩] Try.f89 [1, 0, 1, 0] [] [0, 1, 7, 8] m
 ⟨[(0, SV.cv (CV.one (LV.pure t33 v1))), (1, SV.cv (CV.one (LV.clo [t2] [t4] v2))), (7, SV.cv (CV.one (LV.pure t2 v3))), (8, SV.cv (CV.one (LV.pure t2 v4)))],
  []⟩
theorem slices_IndexFunc_int_step1 (n m : Nat) (v1 : List Int) (v2 : (Int × Unit → Option (Bool × Unit))) (v3 : Int) (v4 : Int) : slices_IndexFunc_int_X1 n (m + 1) v1 v2 v3 v4 = slices_IndexFunc_int_B1 (slices_IndexFunc_int_X1 n m) v1 v2 v3 v4 := by kernel_rfl
theorem slices_IndexFunc_int_start (n : Nat) (s_0 : List Int) (f_1 : (Int × Unit → Option (Bool × Unit))) : evFn slices_IndexFunc_int_Γ tab slices_IndexFunc_int_fi n [.val t33, .fn [t2] [t4]] [⟨t2, [false], none⟩] Try.f89 (s_0, f_1, ()) = slices_IndexFunc_int_T (slices_IndexFunc_int_X1 n n) s_0 f_1 := by kernel_rfl
theorem slices_IndexFunc_int_XL1 (n : Nat) : ∀ m, slices_IndexFunc_int_X1 n m = slices_IndexFunc_int_L1 n m
 | 0 => rfl
 | m + 1 => by
  have ih := slices_IndexFunc_int_XL1 n m
  funext v1 v2 v3 v4
  rw [slices_IndexFunc_int_step1, ih]
  rfl
noncomputable def slices_IndexFunc_int_n (n : Nat) (s_0 : List Int) (f_1 : (Int × Unit → Option (Bool × Unit))) : Option ((Int × Unit) × Unit) := slices_IndexFunc_int_T (slices_IndexFunc_int_L1 n n) s_0 f_1
noncomputable def slices_IndexFunc_int (s_0 : List Int) (f_1 : (Int × Unit → Option (Bool × Unit))) : Option ((Int × Unit) × Unit) := slices_IndexFunc_int_n 1099511627776 s_0 f_1
theorem slices_IndexFunc_int_eq (n : Nat) (s_0 : List Int) (f_1 : (Int × Unit → Option (Bool × Unit))) : evFn slices_IndexFunc_int_Γ tab slices_IndexFunc_int_fi n [.val t33, .fn [t2] [t4]] [⟨t2, [false], none⟩] Try.f89 (s_0, f_1, ()) = slices_IndexFunc_int_n n s_0 f_1 := by
  rw [slices_IndexFunc_int_start, slices_IndexFunc_int_XL1 n n]
  rfl
noncomputable def slices_IndexFunc_int_e : Ent := ⟨[.val t33, .fn [t2] [t4]], [⟨t2, [false], none⟩], fun x => slices_IndexFunc_int x.1 x.2.1⟩
theorem slices_IndexFunc_int_good : Good tab.ty Try.prog 89 slices_IndexFunc_int_e := by
  refine fn_good (Γ := slices_IndexFunc_int_Γ) (fi := slices_IndexFunc_int_fi) (n := 1099511627776) follows gnil tabok Try.func89 (by kernel_rfl) (by kernel_rfl) (fun x r h => ?_)
  obtain ⟨s_0, f_1, _u⟩ := x
  exact (slices_IndexFunc_int_eq 1099511627776 s_0 f_1).trans h
noncomputable def slices_ContainsFunc_int_Γ : Ctx := [(89, slices_IndexFunc_int_e)]
def slices_ContainsFunc_int_fi : Fi := { keep := [], vty := [], vals := [], live := [(0, [0, 1]), (1, [4])] }
noncomputable def slices_ContainsFunc_int (s_0 : List Int) (f_1 : (Int × Unit → Option (Bool × Unit))) : Option ((Bool × Unit) × Unit) :=
 Option.bind (slices_IndexFunc_int s_0 f_1) fun (r1 : (Int × Unit) × Unit) =>
 some ((decide (r1.1.1 ≥ 0), ()), ())
theorem slices_ContainsFunc_int_eq (s_0 : List Int) (f_1 : (Int × Unit → Option (Bool × Unit))) : evFn slices_ContainsFunc_int_Γ tab slices_ContainsFunc_int_fi 1 [.val t33, .fn [t2] [t4]] [⟨t4, [false], none⟩] Try.f74 (s_0, f_1, ()) = slices_ContainsFunc_int s_0 f_1 := by kernel_rfl
noncomputable def slices_ContainsFunc_int_e : Ent := ⟨[.val t33, .fn [t2] [t4]], [⟨t4, [false], none⟩], fun x => slices_ContainsFunc_int x.1 x.2.1⟩
theorem slices_ContainsFunc_int_good : Good tab.ty Try.prog 74 slices_ContainsFunc_int_e := by
  refine fn_good (Γ := slices_ContainsFunc_int_Γ) (fi := slices_ContainsFunc_int_fi) (n := 1) follows (gcons slices_IndexFunc_int_good gnil) tabok Try.func74 (by kernel_rfl) (by kernel_rfl) (fun x r h => ?_)
  obtain ⟨s_0, f_1, _u⟩ := x
  exact (slices_ContainsFunc_int_eq s_0 f_1).trans h
noncomputable def slices_Index_int_Γ : Ctx := []
def slices_Index_int_fi : Fi := { keep := [], vty := [], vals := [], live := [(0, [0, 1]), (1, [0, 1, 7, 8]), (2, [0, 1, 7, 8, 9]), (3, [0, 1, 5, 7, 8]), (4, [0, 1, 5, 7, 8, 16]), (5, [4]), (6, [0, 1, 7, 8]), (7, [4])] }
noncomputable def slices_Index_int_B1 (L1 : List Int → Int → Int → Int → Option ((Int × Unit) × Unit)) (v1 : List Int) (v2 : Int) (v3 : Int) (v4 : Int) : Option ((Int × Unit) × Unit) :=
 bif decide (v4 < v3) then
  bif decide (0 ≤ v4) && decide (v4 < (v1.length : Int)) then
   bif v2 == (List.getD v1 v4.toNat 0) then
    some ((v4, ()), ())
   else
    L1 v1 v2 v3 (IntKind.wrap .i64 (v4 + 1))
  else none
 else
  some (((-1), ()), ())
noncomputable def slices_Index_int_T (L1 : List Int → Int → Int → Int → Option ((Int × Unit) × Unit)) (s_0 : List Int) (v_1 : Int) : Option ((Int × Unit) × Unit) :=
 L1 s_0 v_1 (s_0.length : Int) 0
noncomputable def slices_Index_int_L1 (n : Nat) : Nat → List Int → Int → Int → Int → Option ((Int × Unit) × Unit) := iter (fun _ _ _ _ => none) fun L => slices_Index_int_B1 L
noncomputable def slices_Index_int_X1 (n m : Nat) (v1 : List Int) (v2 : Int) (v3 : Int) (v4 : Int) : Option ((Int × Unit) × Unit) :=
 atLoop slices_Index_int_Γ tab (fiB [.val t33, .val t2] slices_Index_int_fi) n [.val t33, .val t2] [⟨t2, [false], none⟩] Try.f101 [1, 0, 1, 0] [] [0, 1, 7, 8] m
 ⟨[(0, SV.cv (CV.one (LV.pure t33 v1))), (1, SV.cv (CV.one (LV.pure t2 v2))), (7, SV.cv (CV.one (LV.pure t2 v3))), (8, SV.cv (CV.one (LV.pure t2 v4)))],
  []⟩
theorem slices_Index_int_step1 (n m : Nat) (v1 : List Int) (v2 : Int) (v3 : Int) (v4 : Int) : slices_Index_int_X1 n (m + 1) v1 v2 v3 v4 = slices_Index_int_B1 (slices_Index_int_X1 n m) v1 v2 v3 v4 := by kernel_rfl
theorem slices_Index_int_start (n : Nat) (s_0 : List Int) (v_1 : Int) : evFn slices_Index_int_Γ tab slices_Index_int_fi n [.val t33, .val t2] [⟨t2, [false], none⟩] Try.f101 (s_0, v_1, ()) = slices_Index_int_T (slices_Index_int_X1 n n) s_0 v_1 := by kernel_rfl
theorem slices_Index_int_XL1 (n : Nat) : ∀ m, slices_Index_int_X1 n m = slices_Index_int_L1 n m
 | 0 => rfl
 | m + 1 => by
  have ih := slices_Index_int_XL1 n m
  funext v1 v2 v3 v4
  rw [slices_Index_int_step1, ih]
  rfl
noncomputable def slices_Index_int_n (n : Nat) (s_0 : List Int) (v_1 : Int) : Option ((Int × Unit) × Unit) := slices_Index_int_T (slices_Index_int_L1 n n) s_0 v_1
noncomputable def slices_Index_int (s_0 : List Int) (v_1 : Int) : Option ((Int × Unit) × Unit) := slices_Index_int_n 1099511627776 s_0 v_1
theorem slices_Index_int_eq (n : Nat) (s_0 : List Int) (v_1 : Int) : evFn slices_Index_int_Γ tab slices_Index_int_fi n [.val t33, .val t2] [⟨t2, [false], none⟩] Try.f101 (s_0, v_1, ()) = slices_Index_int_n n s_0 v_1 := by
  rw [slices_Index_int_start, slices_Index_int_XL1 n n]
  rfl
noncomputable def slices_Index_int_e : Ent := ⟨[.val t33, .val t2], [⟨t2, [false], none⟩], fun x => slices_Index_int x.1 x.2.1⟩
theorem slices_Index_int_good : Good tab.ty Try.prog 101 slices_Index_int_e := by
  refine fn_good (Γ := slices_Index_int_Γ) (fi := slices_Index_int_fi) (n := 1099511627776) follows gnil tabok Try.func101 (by kernel_rfl) (by kernel_rfl) (fun x r h => ?_)
  obtain ⟨s_0, v_1, _u⟩ := x
  exact (slices_Index_int_eq 1099511627776 s_0 v_1).trans h
noncomputable def slices_Contains_int_Γ : Ctx := [(101, slices_Index_int_e)]
def slices_Contains_int_fi : Fi := { keep := [], vty := [], vals := [], live := [(0, [0, 1]), (1, [4])] }
noncomputable def slices_Contains_int (s_0 : List Int) (v_1 : Int) : Option ((Bool × Unit) × Unit) :=
 Option.bind (slices_Index_int s_0 v_1) fun (r1 : (Int × Unit) × Unit) =>
 some ((decide (r1.1.1 ≥ 0), ()), ())
theorem slices_Contains_int_eq (s_0 : List Int) (v_1 : Int) : evFn slices_Contains_int_Γ tab slices_Contains_int_fi 1 [.val t33, .val t2] [⟨t4, [false], none⟩] Try.f97 (s_0, v_1, ()) = slices_Contains_int s_0 v_1 := by kernel_rfl
noncomputable def slices_Contains_int_e : Ent := ⟨[.val t33, .val t2], [⟨t4, [false], none⟩], fun x => slices_Contains_int x.1 x.2.1⟩
theorem slices_Contains_int_good : Good tab.ty Try.prog 97 slices_Contains_int_e := by
  refine fn_good (Γ := slices_Contains_int_Γ) (fi := slices_Contains_int_fi) (n := 1) follows (gcons slices_Index_int_good gnil) tabok Try.func97 (by kernel_rfl) (by kernel_rfl) (fun x r h => ?_)
  obtain ⟨s_0, v_1, _u⟩ := x
  exact (slices_Contains_int_eq s_0 v_1).trans h
end Go.PE
