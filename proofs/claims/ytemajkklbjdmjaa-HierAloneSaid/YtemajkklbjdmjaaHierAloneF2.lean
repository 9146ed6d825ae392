/-
  Functions of the program, each as the evaluator answers it, and its contract.
  Conditions: none.
-/
import Derived.Test.YtemajkklbjdmjaaHierAloneF1
set_option linter.unusedVariables false
set_option maxRecDepth 100000
namespace Go.PE
open Go.Proofs

noncomputable def hier_Leave_Γ : Ctx := [(28, clus_Leave_e), (65, hier_copied_e), (66, hier_find_e), (67, hier_all_e), (68, hier_above_e)]
def hier_Leave_fi : Fi := { keep := [], vty := [], vals := [], live := [(0, [1, 2, 4]), (1, [1, 2, 4]), (2, [1, 2, 4, 11]), (3, [4]), (4, [4])] }
noncomputable def hier_Leave (h_0 : Int × (List (List Int)) × List (List ((List Int) × Int))) (id_1 : Int) : Option (((Int × (List (List Int)) × List (List ((List Int) × Int))) × Unit) × Unit) :=
 Option.bind (hier_copied h_0) fun (r1 : ((Int × (List (List Int)) × List (List ((List Int) × Int))) × Unit) × Unit) =>
 Option.bind (hier_all r1.1.1) fun (r2 : ((List ((List Int) × Int)) × Unit) × Unit) =>
 Option.bind (hier_find r2.1.1 id_1) fun (r3 : (Int × Unit) × Unit) =>
 bif decide (r3.1.1 < 0) then
  some ((r1.1.1, ()), ())
 else
  Option.bind (hier_all r1.1.1) fun (r4 : ((List ((List Int) × Int)) × Unit) × Unit) =>
  Option.bind (clus_Leave r1.1.1.2.1 r4.1.1 id_1 r1.1.1.1) fun (r5 : ((List ((List Int) × Int)) × Unit) × Unit) =>
  Option.bind (hier_above r1.1.1 r5.1.1) fun (r6 : ((Int × (List (List Int)) × List (List ((List Int) × Int))) × Unit) × Unit) =>
  some ((r6.1.1, ()), ())
theorem hier_Leave_eq (h_0 : Int × (List (List Int)) × List (List ((List Int) × Int))) (id_1 : Int) : evFn hier_Leave_Γ tab hier_Leave_fi 1 [.val t54, .val t2] [⟨t54, [false, false, false], none⟩] Try.f41 (h_0, id_1, ()) = hier_Leave h_0 id_1 := by kernel_rfl
noncomputable def hier_Leave_e : Ent := ⟨[.val t54, .val t2], [⟨t54, [false, false, false], none⟩], fun x => hier_Leave x.1 x.2.1⟩
theorem hier_Leave_good : Good tab.ty Try.prog 41 hier_Leave_e := by
  refine fn_good (Γ := hier_Leave_Γ) (fi := hier_Leave_fi) (n := 1) follows (gcons clus_Leave_good (gcons hier_copied_good (gcons hier_find_good (gcons hier_all_good (gcons hier_above_good gnil))))) tabok Try.func41 (by kernel_rfl) (by kernel_rfl) (fun x r h => ?_)
  obtain ⟨h_0, id_1, _u⟩ := x
  exact (hier_Leave_eq h_0 id_1).trans h
noncomputable def hier_Ask_Γ : Ctx := [(66, hier_find_e)]
def hier_Ask_fi : Fi := { keep := [], vty := [], vals := [], live := [(0, [1, 2]), (1, [1, 9, 10, 11]), (2, [1, 9, 10, 11, 12]), (3, [1, 6, 9, 10, 11]), (4, [1, 6, 7, 9, 10, 11]), (5, [1, 6, 7, 9, 10, 11, 19]), (6, [4]), (7, [1, 6, 7, 9, 10, 11, 26]), (8, [4]), (9, [1, 9, 10, 11]), (10, [4])] }
noncomputable def hier_Ask_B1 (L1 : Int → (List (List ((List Int) × Int))) → Int → Int → Option ((Int × Unit) × Unit)) (v1 : Int) (v2 : List (List ((List Int) × Int))) (v3 : Int) (v4 : Int) : Option ((Int × Unit) × Unit) :=
 bif decide (v4 < v3) then
  bif decide (0 ≤ v4) && decide (v4 < (v2.length : Int)) then
   Option.bind (hier_find (List.getD v2 v4.toNat []) v1) fun (r5 : (Int × Unit) × Unit) =>
   bif decide (r5.1.1 < 0) then
    some ((0, ()), ())
   else
   bif decide (0 ≤ r5.1.1) && decide (r5.1.1 < ((List.getD v2 v4.toNat []).length : Int)) then
    bif ((List.getD (List.getD v2 v4.toNat []) r5.1.1.toNat ([], 0)).2) != v1 then
     bif decide (0 ≤ r5.1.1) && decide (r5.1.1 < ((List.getD v2 v4.toNat []).length : Int)) then
      some (((List.getD (List.getD v2 v4.toNat []) r5.1.1.toNat ([], 0)).2, ()), ())
     else none
    else
     L1 v1 v2 v3 (IntKind.wrap .i64 (v4 + 1))
   else none
  else none
 else
  some ((0, ()), ())
noncomputable def hier_Ask_T (L1 : Int → (List (List ((List Int) × Int))) → Int → Int → Option ((Int × Unit) × Unit)) (h_0 : Int × (List (List Int)) × List (List ((List Int) × Int))) (id_1 : Int) : Option ((Int × Unit) × Unit) :=
 L1 id_1 h_0.2.2 (h_0.2.2.length : Int) 0
noncomputable def hier_Ask_L1 (n : Nat) : Nat → Int → (List (List ((List Int) × Int))) → Int → Int → Option ((Int × Unit) × Unit) := iter (fun _ _ _ _ => none) fun L => hier_Ask_B1 L
noncomputable def hier_Ask_X1 (n m : Nat) (v1 : Int) (v2 : List (List ((List Int) × Int))) (v3 : Int) (v4 : Int) : Option ((Int × Unit) × Unit) :=
 atLoop hier_Ask_Γ tab (fiB [.val t54, .val t2] hier_Ask_fi) n [.val t54, .val t2] [⟨t2, [false], none⟩] Try.f39 [1, 0, 1, 0] [] [1, 9, 10, 11] m
 ⟨[(1, SV.cv (CV.one (LV.pure t2 v1))), (9, SV.cv (CV.one (LV.pure t53 v2))), (10, SV.cv (CV.one (LV.pure t2 v3))), (11, SV.cv (CV.one (LV.pure t2 v4)))],
  []⟩
theorem hier_Ask_step1 (n m : Nat) (v1 : Int) (v2 : List (List ((List Int) × Int))) (v3 : Int) (v4 : Int) : hier_Ask_X1 n (m + 1) v1 v2 v3 v4 = hier_Ask_B1 (hier_Ask_X1 n m) v1 v2 v3 v4 := by kernel_rfl
theorem hier_Ask_start (n : Nat) (h_0 : Int × (List (List Int)) × List (List ((List Int) × Int))) (id_1 : Int) : evFn hier_Ask_Γ tab hier_Ask_fi n [.val t54, .val t2] [⟨t2, [false], none⟩] Try.f39 (h_0, id_1, ()) = hier_Ask_T (hier_Ask_X1 n n) h_0 id_1 := by kernel_rfl
theorem hier_Ask_XL1 (n : Nat) : ∀ m, hier_Ask_X1 n m = hier_Ask_L1 n m
 | 0 => rfl
 | m + 1 => by
  have ih := hier_Ask_XL1 n m
  funext v1 v2 v3 v4
  rw [hier_Ask_step1, ih]
  rfl
noncomputable def hier_Ask_n (n : Nat) (h_0 : Int × (List (List Int)) × List (List ((List Int) × Int))) (id_1 : Int) : Option ((Int × Unit) × Unit) := hier_Ask_T (hier_Ask_L1 n n) h_0 id_1
noncomputable def hier_Ask (h_0 : Int × (List (List Int)) × List (List ((List Int) × Int))) (id_1 : Int) : Option ((Int × Unit) × Unit) := hier_Ask_n 1099511627776 h_0 id_1
theorem hier_Ask_eq (n : Nat) (h_0 : Int × (List (List Int)) × List (List ((List Int) × Int))) (id_1 : Int) : evFn hier_Ask_Γ tab hier_Ask_fi n [.val t54, .val t2] [⟨t2, [false], none⟩] Try.f39 (h_0, id_1, ()) = hier_Ask_n n h_0 id_1 := by
  rw [hier_Ask_start, hier_Ask_XL1 n n]
  rfl
noncomputable def hier_Ask_e : Ent := ⟨[.val t54, .val t2], [⟨t2, [false], none⟩], fun x => hier_Ask x.1 x.2.1⟩
theorem hier_Ask_good : Good tab.ty Try.prog 39 hier_Ask_e := by
  refine fn_good (Γ := hier_Ask_Γ) (fi := hier_Ask_fi) (n := 1099511627776) follows (gcons hier_find_good gnil) tabok Try.func39 (by kernel_rfl) (by kernel_rfl) (fun x r h => ?_)
  obtain ⟨h_0, id_1, _u⟩ := x
  exact (hier_Ask_eq 1099511627776 h_0 id_1).trans h
noncomputable def hier_first_Γ : Ctx := [(49, mid_Mid_e)]
def hier_first_fi : Fi := { keep := [], vty := [], vals := [], live := [(0, [1, 2, 24, 25, 26, 27, 28, 29, 32, 33, 34, 35, 36, 37, 38, 39, 40, 43, 44, 45, 46, 47, 48, 49, 50, 63, 64, 67, 68, 69]), (1, [1, 2, 5, 24, 25, 26, 27, 28, 29, 32, 33, 34, 35, 36, 37, 38, 39, 40, 43, 44, 45, 46, 47, 48, 49, 50, 63, 64, 67, 68, 69]), (2, [1, 2, 5, 12, 13, 14, 24, 25, 26, 27, 28, 29, 32, 33, 34, 35, 36, 37, 38, 39, 40, 43, 44, 45, 46, 47, 48, 49, 50, 63, 64, 67, 68, 69]), (3, [1, 2, 5, 12, 13, 14, 15, 24, 25, 26, 27, 28, 29, 32, 33, 34, 35, 36, 37, 38, 39, 40, 43, 44, 45, 46, 47, 48, 49, 50, 63, 64, 67, 68, 69]), (4, [1, 2, 5, 7, 12, 13, 14, 24, 25, 26, 27, 28, 29, 32, 33, 34, 35, 36, 37, 38, 39, 40, 43, 44, 45, 46, 47, 48, 49, 50, 63, 64, 67, 68, 69]), (5, [1, 2, 5, 7, 8, 12, 13, 14, 24, 25, 26, 27, 28, 29, 32, 33, 34, 35, 36, 37, 38, 39, 40, 43, 44, 45, 46, 47, 48, 49, 50, 63, 64, 67, 68, 69]), (6, [1, 2, 5, 7, 12, 13, 14, 24, 25, 26, 27, 28, 29, 32, 33, 34, 35, 36, 37, 38, 39, 40, 43, 44, 45, 46, 47, 48, 49, 50, 51, 63, 64, 67, 68, 69]), (7, [4]), (8, [1, 2, 5, 7, 9, 12, 13, 14, 24, 25, 26, 27, 28, 29, 32, 33, 34, 35, 36, 37, 38, 39, 40, 43, 44, 45, 46, 47, 48, 49, 50, 63, 64, 67, 68, 69]), (9, [1, 2, 5, 9, 12, 13, 14, 24, 25, 26, 27, 28, 29, 32, 33, 34, 35, 36, 37, 38, 39, 40, 43, 44, 45, 46, 47, 48, 49, 50, 53, 54, 55, 63, 64, 67, 68, 69]), (10, [1, 2, 5, 9, 12, 13, 14, 24, 25, 26, 27, 28, 29, 32, 33, 34, 35, 36, 37, 38, 39, 40, 43, 44, 45, 46, 47, 48, 49, 50, 53, 54, 55, 56, 63, 64, 67, 68, 69]), (11, [1, 2, 5, 9, 11, 12, 13, 14, 24, 25, 26, 27, 28, 29, 32, 33, 34, 35, 36, 37, 38, 39, 40, 43, 44, 45, 46, 47, 48, 49, 50, 53, 54, 55, 63, 64, 67, 68, 69]), (12, [1, 2, 5, 11, 12, 13, 14, 24, 25, 26, 27, 28, 29, 32, 33, 34, 35, 36, 37, 38, 39, 40, 43, 44, 45, 46, 47, 48, 49, 50, 53, 54, 55, 63, 64, 67, 68, 69, 70]), (13, [4]), (14, [1, 2, 5, 9, 12, 13, 14, 24, 25, 26, 27, 28, 29, 32, 33, 34, 35, 36, 37, 38, 39, 40, 43, 44, 45, 46, 47, 48, 49, 50, 53, 54, 55, 63, 64, 67, 68, 69]), (15, [1, 2, 5, 9, 12, 13, 14, 24, 25, 26, 27, 28, 29, 32, 33, 34, 35, 36, 37, 38, 39, 40, 43, 44, 45, 46, 47, 48, 49, 50, 53, 54, 55, 63, 64, 67, 68, 69]), (16, [1, 2, 5, 12, 13, 14, 24, 25, 26, 27, 28, 29, 32, 33, 34, 35, 36, 37, 38, 39, 40, 43, 44, 45, 46, 47, 48, 49, 50, 63, 64, 67, 68, 69]), (17, [4])] }
noncomputable def hier_first_B1 (L2 : (List ((List Int) × Int)) → Int → (List ((List Int) × Int)) → Int → Int → Int → Int → Int → Int → Bool → (List ((List Int) × Int)) → Int → Bool → Bool → Int → Int → Bool → Bool → Int → List (List Int) → List Int → Int → Bool → List Int → Int → Int → List Bool → Int → List (List Int) → (List (List ((List Int) × Int))) → List Int → Int → Option ((Bool × Unit) × Unit)) (L3 : (List ((List Int) × Int)) → Int → (List ((List Int) × Int)) → Int → Int → Int → Int → Int → Int → Bool → (List ((List Int) × Int)) → Int → Bool → Bool → Bool → Int → List (List Int) → List Int → Int → Bool → List Int → Int → Int → List Bool → Int → List (List Int) → (List (List ((List Int) × Int))) → List Int → Int → Option ((Bool × Unit) × Unit)) (v1 : List ((List Int) × Int)) (v2 : List ((List Int) × Int)) (v3 : Int) (v4 : Int) (v5 : Int) (v6 : List (List Int)) (v7 : List (List ((List Int) × Int))) (v8 : List Bool) : Option ((Bool × Unit) × Unit) :=
 bif decide (v4 < v3) then
  bif decide (0 ≤ v4) && decide (v4 < (v2.length : Int)) then
   bif decide ((((List.getD v2 v4.toNat ([], 0)).1).length : Int) < 1) then
    some ((false, ()), ())
   else
   bif decide ((((List.getD v2 v4.toNat ([], 0)).1).length : Int) > IntKind.wrap .i64 ((IntKind.wrap .i64 (3 * v5)) - 1)) then
    some ((false, ()), ())
   else
   bif decide ((v1.length : Int) > 1) then
    bif decide ((((List.getD v2 v4.toNat ([], 0)).1).length : Int) < v5) then
     some ((false, ()), ())
    else
     Option.bind (mid_Mid v6 ((List.getD v2 v4.toNat ([], 0)).1)) fun (r9 : (Int × Unit) × Unit) =>
     bif ((List.getD v2 v4.toNat ([], 0)).2) != r9.1.1 then
      some ((false, ()), ())
     else
      L2 v1 0 v2 v3 v4 (((List.getD v2 v4.toNat ([], 0)).1).length : Int) v5 (IntKind.wrap .i64 (3 * v5)) (IntKind.wrap .i64 ((IntKind.wrap .i64 (3 * v5)) - 1)) (decide ((((List.getD v2 v4.toNat ([], 0)).1).length : Int) > IntKind.wrap .i64 ((IntKind.wrap .i64 (3 * v5)) - 1))) v1 (v1.length : Int) (decide ((v1.length : Int) > 1)) true (((List.getD v2 v4.toNat ([], 0)).1).length : Int) v5 (decide ((((List.getD v2 v4.toNat ([], 0)).1).length : Int) < v5)) (decide ((((List.getD v2 v4.toNat ([], 0)).1).length : Int) < v5)) ((List.getD v2 v4.toNat ([], 0)).2) v6 ((List.getD v2 v4.toNat ([], 0)).1) r9.1.1 (((List.getD v2 v4.toNat ([], 0)).2) != r9.1.1) ((List.getD v2 v4.toNat ([], 0)).1) (((List.getD v2 v4.toNat ([], 0)).1).length : Int) 0 v8 v5 v6 v7 ((List.getD v2 v4.toNat ([], 0)).1) ((List.getD v2 v4.toNat ([], 0)).2)
   else
    Option.bind (mid_Mid v6 ((List.getD v2 v4.toNat ([], 0)).1)) fun (r42 : (Int × Unit) × Unit) =>
    bif ((List.getD v2 v4.toNat ([], 0)).2) != r42.1.1 then
     some ((false, ()), ())
    else
     L3 v1 0 v2 v3 v4 (((List.getD v2 v4.toNat ([], 0)).1).length : Int) v5 (IntKind.wrap .i64 (3 * v5)) (IntKind.wrap .i64 ((IntKind.wrap .i64 (3 * v5)) - 1)) (decide ((((List.getD v2 v4.toNat ([], 0)).1).length : Int) > IntKind.wrap .i64 ((IntKind.wrap .i64 (3 * v5)) - 1))) v1 (v1.length : Int) (decide ((v1.length : Int) > 1)) false false ((List.getD v2 v4.toNat ([], 0)).2) v6 ((List.getD v2 v4.toNat ([], 0)).1) r42.1.1 (((List.getD v2 v4.toNat ([], 0)).2) != r42.1.1) ((List.getD v2 v4.toNat ([], 0)).1) (((List.getD v2 v4.toNat ([], 0)).1).length : Int) 0 v8 v5 v6 v7 ((List.getD v2 v4.toNat ([], 0)).1) ((List.getD v2 v4.toNat ([], 0)).2)
  else none
 else
  some ((true, ()), ())
noncomputable def hier_first_B2 (L2 : (List ((List Int) × Int)) → Int → (List ((List Int) × Int)) → Int → Int → Int → Int → Int → Int → Bool → (List ((List Int) × Int)) → Int → Bool → Bool → Int → Int → Bool → Bool → Int → List (List Int) → List Int → Int → Bool → List Int → Int → Int → List Bool → Int → List (List Int) → (List (List ((List Int) × Int))) → List Int → Int → Option ((Bool × Unit) × Unit)) (L1 : (List ((List Int) × Int)) → (List ((List Int) × Int)) → Int → Int → Int → List (List Int) → (List (List ((List Int) × Int))) → List Bool → Option ((Bool × Unit) × Unit)) (v10 : List ((List Int) × Int)) (v11 : Int) (v12 : List ((List Int) × Int)) (v13 : Int) (v14 : Int) (v15 : Int) (v16 : Int) (v17 : Int) (v18 : Int) (v19 : Bool) (v20 : List ((List Int) × Int)) (v21 : Int) (v22 : Bool) (v23 : Bool) (v24 : Int) (v25 : Int) (v26 : Bool) (v27 : Bool) (v28 : Int) (v29 : List (List Int)) (v30 : List Int) (v31 : Int) (v32 : Bool) (v33 : List Int) (v34 : Int) (v35 : Int) (v36 : List Bool) (v37 : Int) (v38 : List (List Int)) (v39 : List (List ((List Int) × Int))) (v40 : List Int) (v41 : Int) : Option ((Bool × Unit) × Unit) :=
 bif decide (v35 < v34) then
  bif decide (0 ≤ v35) && decide (v35 < (v33.length : Int)) then
   bif decide (List.getD v33 v35.toNat 0 ≤ v11) then
    some ((false, ()), ())
   else
   bif decide (List.getD v33 v35.toNat 0 > 8) then
    some ((false, ()), ())
   else
   bif (decide (0 ≤ List.getD v33 v35.toNat 0) && decide (List.getD v33 v35.toNat 0 < 9)) && decide (List.getD v33 v35.toNat 0 < (v36.length : Int)) then
    bif decide (0 ≤ List.getD v33 v35.toNat 0) && decide (List.getD v33 v35.toNat 0 < (v36.length : Int)) then
     bif List.getD v36 ((List.getD v33 v35.toNat 0).toNat) false then
      some ((false, ()), ())
     else
     bif (decide (0 ≤ List.getD v33 v35.toNat 0) && decide (List.getD v33 v35.toNat 0 < 9)) && decide (List.getD v33 v35.toNat 0 < (v36.length : Int)) then
      bif decide (0 ≤ List.getD v33 v35.toNat 0) && decide (List.getD v33 v35.toNat 0 < (v36.length : Int)) then
       L2 v10 (List.getD v33 v35.toNat 0) v12 v13 v14 v15 v16 v17 v18 v19 v20 v21 v22 v23 v24 v25 v26 v27 v28 v29 v30 v31 v32 v33 v34 (IntKind.wrap .i64 (v35 + 1)) (List.set v36 ((List.getD v33 v35.toNat 0).toNat) true) v37 v38 v39 v40 v41
      else none
     else none
    else none
   else none
  else none
 else
  L1 v10 v12 v13 (IntKind.wrap .i64 (v14 + 1)) v37 v38 v39 v36
noncomputable def hier_first_B3 (L3 : (List ((List Int) × Int)) → Int → (List ((List Int) × Int)) → Int → Int → Int → Int → Int → Int → Bool → (List ((List Int) × Int)) → Int → Bool → Bool → Bool → Int → List (List Int) → List Int → Int → Bool → List Int → Int → Int → List Bool → Int → List (List Int) → (List (List ((List Int) × Int))) → List Int → Int → Option ((Bool × Unit) × Unit)) (L1 : (List ((List Int) × Int)) → (List ((List Int) × Int)) → Int → Int → Int → List (List Int) → (List (List ((List Int) × Int))) → List Bool → Option ((Bool × Unit) × Unit)) (v43 : List ((List Int) × Int)) (v44 : Int) (v45 : List ((List Int) × Int)) (v46 : Int) (v47 : Int) (v48 : Int) (v49 : Int) (v50 : Int) (v51 : Int) (v52 : Bool) (v53 : List ((List Int) × Int)) (v54 : Int) (v55 : Bool) (v56 : Bool) (v57 : Bool) (v58 : Int) (v59 : List (List Int)) (v60 : List Int) (v61 : Int) (v62 : Bool) (v63 : List Int) (v64 : Int) (v65 : Int) (v66 : List Bool) (v67 : Int) (v68 : List (List Int)) (v69 : List (List ((List Int) × Int))) (v70 : List Int) (v71 : Int) : Option ((Bool × Unit) × Unit) :=
 bif decide (v65 < v64) then
  bif decide (0 ≤ v65) && decide (v65 < (v63.length : Int)) then
   bif decide (List.getD v63 v65.toNat 0 ≤ v44) then
    some ((false, ()), ())
   else
   bif decide (List.getD v63 v65.toNat 0 > 8) then
    some ((false, ()), ())
   else
   bif (decide (0 ≤ List.getD v63 v65.toNat 0) && decide (List.getD v63 v65.toNat 0 < 9)) && decide (List.getD v63 v65.toNat 0 < (v66.length : Int)) then
    bif decide (0 ≤ List.getD v63 v65.toNat 0) && decide (List.getD v63 v65.toNat 0 < (v66.length : Int)) then
     bif List.getD v66 ((List.getD v63 v65.toNat 0).toNat) false then
      some ((false, ()), ())
     else
     bif (decide (0 ≤ List.getD v63 v65.toNat 0) && decide (List.getD v63 v65.toNat 0 < 9)) && decide (List.getD v63 v65.toNat 0 < (v66.length : Int)) then
      bif decide (0 ≤ List.getD v63 v65.toNat 0) && decide (List.getD v63 v65.toNat 0 < (v66.length : Int)) then
       L3 v43 (List.getD v63 v65.toNat 0) v45 v46 v47 v48 v49 v50 v51 v52 v53 v54 v55 v56 v57 v58 v59 v60 v61 v62 v63 v64 (IntKind.wrap .i64 (v65 + 1)) (List.set v66 ((List.getD v63 v65.toNat 0).toNat) true) v67 v68 v69 v70 v71
      else none
     else none
    else none
   else none
  else none
 else
  L1 v43 v45 v46 (IntKind.wrap .i64 (v47 + 1)) v67 v68 v69 v66
noncomputable def hier_first_T (L1 : (List ((List Int) × Int)) → (List ((List Int) × Int)) → Int → Int → Int → List (List Int) → (List (List ((List Int) × Int))) → List Bool → Option ((Bool × Unit) × Unit)) (h_0 : Int × (List (List Int)) × List (List ((List Int) × Int))) (cs_1 : List ((List Int) × Int)) : Option ((Bool × Unit) × Unit) :=
 L1 cs_1 cs_1 (cs_1.length : Int) 0 h_0.1 h_0.2.1 h_0.2.2 (List.replicate 9 false)
noncomputable def hier_first_L2 (n : Nat) (m1 : Nat) (r1 : (List ((List Int) × Int)) → (List ((List Int) × Int)) → Int → Int → Int → List (List Int) → (List (List ((List Int) × Int))) → List Bool → Option ((Bool × Unit) × Unit)) : Nat → (List ((List Int) × Int)) → Int → (List ((List Int) × Int)) → Int → Int → Int → Int → Int → Int → Bool → (List ((List Int) × Int)) → Int → Bool → Bool → Int → Int → Bool → Bool → Int → List (List Int) → List Int → Int → Bool → List Int → Int → Int → List Bool → Int → List (List Int) → (List (List ((List Int) × Int))) → List Int → Int → Option ((Bool × Unit) × Unit) := iter (fun _ _ _ _ _ _ _ _ _ _ _ _ _ _ _ _ _ _ _ _ _ _ _ _ _ _ _ _ _ _ _ _ => none) fun L => hier_first_B2 L r1
noncomputable def hier_first_L3 (n : Nat) (m1 : Nat) (r1 : (List ((List Int) × Int)) → (List ((List Int) × Int)) → Int → Int → Int → List (List Int) → (List (List ((List Int) × Int))) → List Bool → Option ((Bool × Unit) × Unit)) : Nat → (List ((List Int) × Int)) → Int → (List ((List Int) × Int)) → Int → Int → Int → Int → Int → Int → Bool → (List ((List Int) × Int)) → Int → Bool → Bool → Bool → Int → List (List Int) → List Int → Int → Bool → List Int → Int → Int → List Bool → Int → List (List Int) → (List (List ((List Int) × Int))) → List Int → Int → Option ((Bool × Unit) × Unit) := iter (fun _ _ _ _ _ _ _ _ _ _ _ _ _ _ _ _ _ _ _ _ _ _ _ _ _ _ _ _ _ => none) fun L => hier_first_B3 L r1
noncomputable def hier_first_L1 (n : Nat) : Nat → (List ((List Int) × Int)) → (List ((List Int) × Int)) → Int → Int → Int → List (List Int) → (List (List ((List Int) × Int))) → List Bool → Option ((Bool × Unit) × Unit) := iterN (fun _ _ _ _ _ _ _ _ => none) fun m L => hier_first_B1 (hier_first_L2 n m L n) (hier_first_L3 n m L n)
noncomputable def hier_first_X1 (n m : Nat) (v1 : List ((List Int) × Int)) (v2 : List ((List Int) × Int)) (v3 : Int) (v4 : Int) (v5 : Int) (v6 : List (List Int)) (v7 : List (List ((List Int) × Int))) (v8 : List Bool) : Option ((Bool × Unit) × Unit) :=
 atLoop hier_first_Γ tab (fiB [.val t54, .val t37] hier_first_fi) n [.val t54, .val t37] [⟨t4, [false], none⟩] Try.f70 [1, 1, 0, 1, 0] [] [1, 2, 5, 12, 13, 14] m
 ⟨[(1, SV.cv (CV.one (LV.pure t37 v1))), (2, SV.cv (CV.one (LV.ptr (2, 0) 0))), (5, SV.cv (CV.one (LV.ptr (5, 0) 0))), (12, SV.cv (CV.one (LV.pure t37 v2))), (13, SV.cv (CV.one (LV.pure t2 v3))), (14, SV.cv (CV.one (LV.pure t2 v4)))],
  [((2, 0), Ob.box 55 [LV.pure t2 v5, LV.pure t24 v6, LV.pure t53 v7]), ((5, 0), Ob.arr 4 t4 v8)]⟩
noncomputable def hier_first_X2 (n m1 m : Nat) (v10 : List ((List Int) × Int)) (v11 : Int) (v12 : List ((List Int) × Int)) (v13 : Int) (v14 : Int) (v15 : Int) (v16 : Int) (v17 : Int) (v18 : Int) (v19 : Bool) (v20 : List ((List Int) × Int)) (v21 : Int) (v22 : Bool) (v23 : Bool) (v24 : Int) (v25 : Int) (v26 : Bool) (v27 : Bool) (v28 : Int) (v29 : List (List Int)) (v30 : List Int) (v31 : Int) (v32 : Bool) (v33 : List Int) (v34 : Int) (v35 : Int) (v36 : List Bool) (v37 : Int) (v38 : List (List Int)) (v39 : List (List ((List Int) × Int))) (v40 : List Int) (v41 : Int) : Option ((Bool × Unit) × Unit) :=
 atLoop hier_first_Γ tab (fiB [.val t54, .val t37] hier_first_fi) n [.val t54, .val t37] [⟨t4, [false], none⟩] Try.f70 [1, 1, 0, 1, 0, 0, 1, 1, 0, 0, 1, 1, 1, 1, 1, 0] [(m1, [1, 2, 5, 12, 13, 14])] [1, 2, 5, 9, 12, 13, 14, 24, 25, 26, 27, 28, 29, 32, 33, 34, 35, 36, 37, 38, 39, 40, 43, 44, 45, 46, 47, 48, 49, 50, 53, 54, 55] m
 ⟨[(1, SV.cv (CV.one (LV.pure t37 v10))), (2, SV.cv (CV.one (LV.ptr (2, 0) 0))), (5, SV.cv (CV.one (LV.ptr (5, 0) 0))), (9, SV.cv (CV.one (LV.pure t2 v11))), (12, SV.cv (CV.one (LV.pure t37 v12))), (13, SV.cv (CV.one (LV.pure t2 v13))), (14, SV.cv (CV.one (LV.pure t2 v14))), (24, SV.cv (CV.one (LV.pure t2 v15))), (25, SV.cv (CV.one (LV.ptr (2, 0) 0))), (26, SV.cv (CV.one (LV.pure t2 v16))), (27, SV.cv (CV.one (LV.pure t2 v17))), (28, SV.cv (CV.one (LV.pure t2 v18))), (29, SV.cv (CV.one (LV.pure t4 v19))), (32, SV.cv (CV.one (LV.pure t37 v20))), (33, SV.cv (CV.one (LV.pure t2 v21))), (34, SV.cv (CV.one (LV.pure t4 v22))), (35, SV.cv (CV.one (LV.pure t4 v23))), (36, SV.cv (CV.one (LV.pure t2 v24))), (37, SV.cv (CV.one (LV.ptr (2, 0) 0))), (38, SV.cv (CV.one (LV.pure t2 v25))), (39, SV.cv (CV.one (LV.pure t4 v26))), (40, SV.cv (CV.one (LV.pure t4 v27))), (43, SV.cv (CV.one (LV.ptr (7, 0) 1))), (44, SV.cv (CV.one (LV.pure t2 v28))), (45, SV.cv (CV.one (LV.ptr (2, 0) 1))), (46, SV.cv (CV.one (LV.pure t24 v29))), (47, SV.cv (CV.one (LV.ptr (7, 0) 0))), (48, SV.cv (CV.one (LV.pure t28 v30))), (49, SV.cv (CV.one (LV.pure t2 v31))), (50, SV.cv (CV.one (LV.pure t4 v32))), (53, SV.cv (CV.one (LV.pure t28 v33))), (54, SV.cv (CV.one (LV.pure t2 v34))), (55, SV.cv (CV.one (LV.pure t2 v35)))],
  [((5, 0), Ob.arr 4 t4 v36), ((2, 0), Ob.box 55 [LV.pure t2 v37, LV.pure t24 v38, LV.pure t53 v39]), ((7, 0), Ob.box 33 [LV.pure t28 v40, LV.pure t2 v41])]⟩
noncomputable def hier_first_X3 (n m1 m : Nat) (v43 : List ((List Int) × Int)) (v44 : Int) (v45 : List ((List Int) × Int)) (v46 : Int) (v47 : Int) (v48 : Int) (v49 : Int) (v50 : Int) (v51 : Int) (v52 : Bool) (v53 : List ((List Int) × Int)) (v54 : Int) (v55 : Bool) (v56 : Bool) (v57 : Bool) (v58 : Int) (v59 : List (List Int)) (v60 : List Int) (v61 : Int) (v62 : Bool) (v63 : List Int) (v64 : Int) (v65 : Int) (v66 : List Bool) (v67 : Int) (v68 : List (List Int)) (v69 : List (List ((List Int) × Int))) (v70 : List Int) (v71 : Int) : Option ((Bool × Unit) × Unit) :=
 atLoop hier_first_Γ tab (fiB [.val t54, .val t37] hier_first_fi) n [.val t54, .val t37] [⟨t4, [false], none⟩] Try.f70 [1, 1, 0, 1, 0, 0, 1, 1, 0, 0, 1, 1, 1, 1, 1, 0] [(m1, [1, 2, 5, 12, 13, 14])] [1, 2, 5, 9, 12, 13, 14, 24, 25, 26, 27, 28, 29, 32, 33, 34, 35, 40, 43, 44, 45, 46, 47, 48, 49, 50, 53, 54, 55] m
 ⟨[(1, SV.cv (CV.one (LV.pure t37 v43))), (2, SV.cv (CV.one (LV.ptr (2, 0) 0))), (5, SV.cv (CV.one (LV.ptr (5, 0) 0))), (9, SV.cv (CV.one (LV.pure t2 v44))), (12, SV.cv (CV.one (LV.pure t37 v45))), (13, SV.cv (CV.one (LV.pure t2 v46))), (14, SV.cv (CV.one (LV.pure t2 v47))), (24, SV.cv (CV.one (LV.pure t2 v48))), (25, SV.cv (CV.one (LV.ptr (2, 0) 0))), (26, SV.cv (CV.one (LV.pure t2 v49))), (27, SV.cv (CV.one (LV.pure t2 v50))), (28, SV.cv (CV.one (LV.pure t2 v51))), (29, SV.cv (CV.one (LV.pure t4 v52))), (32, SV.cv (CV.one (LV.pure t37 v53))), (33, SV.cv (CV.one (LV.pure t2 v54))), (34, SV.cv (CV.one (LV.pure t4 v55))), (35, SV.cv (CV.one (LV.pure t4 v56))), (40, SV.cv (CV.one (LV.pure t4 v57))), (43, SV.cv (CV.one (LV.ptr (7, 0) 1))), (44, SV.cv (CV.one (LV.pure t2 v58))), (45, SV.cv (CV.one (LV.ptr (2, 0) 1))), (46, SV.cv (CV.one (LV.pure t24 v59))), (47, SV.cv (CV.one (LV.ptr (7, 0) 0))), (48, SV.cv (CV.one (LV.pure t28 v60))), (49, SV.cv (CV.one (LV.pure t2 v61))), (50, SV.cv (CV.one (LV.pure t4 v62))), (53, SV.cv (CV.one (LV.pure t28 v63))), (54, SV.cv (CV.one (LV.pure t2 v64))), (55, SV.cv (CV.one (LV.pure t2 v65)))],
  [((5, 0), Ob.arr 4 t4 v66), ((2, 0), Ob.box 55 [LV.pure t2 v67, LV.pure t24 v68, LV.pure t53 v69]), ((7, 0), Ob.box 33 [LV.pure t28 v70, LV.pure t2 v71])]⟩
theorem hier_first_step1 (n m : Nat) (v1 : List ((List Int) × Int)) (v2 : List ((List Int) × Int)) (v3 : Int) (v4 : Int) (v5 : Int) (v6 : List (List Int)) (v7 : List (List ((List Int) × Int))) (v8 : List Bool) : hier_first_X1 n (m + 1) v1 v2 v3 v4 v5 v6 v7 v8 = hier_first_B1 (hier_first_X2 n m n) (hier_first_X3 n m n) v1 v2 v3 v4 v5 v6 v7 v8 := by kernel_rfl
theorem hier_first_step2 (n m1 m : Nat) (v10 : List ((List Int) × Int)) (v11 : Int) (v12 : List ((List Int) × Int)) (v13 : Int) (v14 : Int) (v15 : Int) (v16 : Int) (v17 : Int) (v18 : Int) (v19 : Bool) (v20 : List ((List Int) × Int)) (v21 : Int) (v22 : Bool) (v23 : Bool) (v24 : Int) (v25 : Int) (v26 : Bool) (v27 : Bool) (v28 : Int) (v29 : List (List Int)) (v30 : List Int) (v31 : Int) (v32 : Bool) (v33 : List Int) (v34 : Int) (v35 : Int) (v36 : List Bool) (v37 : Int) (v38 : List (List Int)) (v39 : List (List ((List Int) × Int))) (v40 : List Int) (v41 : Int) : hier_first_X2 n m1 (m + 1) v10 v11 v12 v13 v14 v15 v16 v17 v18 v19 v20 v21 v22 v23 v24 v25 v26 v27 v28 v29 v30 v31 v32 v33 v34 v35 v36 v37 v38 v39 v40 v41 = hier_first_B2 (hier_first_X2 n m1 m) (hier_first_X1 n m1) v10 v11 v12 v13 v14 v15 v16 v17 v18 v19 v20 v21 v22 v23 v24 v25 v26 v27 v28 v29 v30 v31 v32 v33 v34 v35 v36 v37 v38 v39 v40 v41 := by kernel_rfl
theorem hier_first_step3 (n m1 m : Nat) (v43 : List ((List Int) × Int)) (v44 : Int) (v45 : List ((List Int) × Int)) (v46 : Int) (v47 : Int) (v48 : Int) (v49 : Int) (v50 : Int) (v51 : Int) (v52 : Bool) (v53 : List ((List Int) × Int)) (v54 : Int) (v55 : Bool) (v56 : Bool) (v57 : Bool) (v58 : Int) (v59 : List (List Int)) (v60 : List Int) (v61 : Int) (v62 : Bool) (v63 : List Int) (v64 : Int) (v65 : Int) (v66 : List Bool) (v67 : Int) (v68 : List (List Int)) (v69 : List (List ((List Int) × Int))) (v70 : List Int) (v71 : Int) : hier_first_X3 n m1 (m + 1) v43 v44 v45 v46 v47 v48 v49 v50 v51 v52 v53 v54 v55 v56 v57 v58 v59 v60 v61 v62 v63 v64 v65 v66 v67 v68 v69 v70 v71 = hier_first_B3 (hier_first_X3 n m1 m) (hier_first_X1 n m1) v43 v44 v45 v46 v47 v48 v49 v50 v51 v52 v53 v54 v55 v56 v57 v58 v59 v60 v61 v62 v63 v64 v65 v66 v67 v68 v69 v70 v71 := by kernel_rfl
theorem hier_first_start (n : Nat) (h_0 : Int × (List (List Int)) × List (List ((List Int) × Int))) (cs_1 : List ((List Int) × Int)) : evFn hier_first_Γ tab hier_first_fi n [.val t54, .val t37] [⟨t4, [false], none⟩] Try.f70 (h_0, cs_1, ()) = hier_first_T (hier_first_X1 n n) h_0 cs_1 := by kernel_rfl
theorem hier_first_XL2 (n : Nat) (m1 : Nat) (r1 : (List ((List Int) × Int)) → (List ((List Int) × Int)) → Int → Int → Int → List (List Int) → (List (List ((List Int) × Int))) → List Bool → Option ((Bool × Unit) × Unit)) (h1 : hier_first_X1 n m1 = r1) : ∀ m, hier_first_X2 n m1 m = hier_first_L2 n m1 r1 m
 | 0 => rfl
 | m + 1 => by
  have ih := hier_first_XL2 n m1 r1 h1 m
  funext v10 v11 v12 v13 v14 v15 v16 v17 v18 v19 v20 v21 v22 v23 v24 v25 v26 v27 v28 v29 v30 v31 v32 v33 v34 v35 v36 v37 v38 v39 v40 v41
  rw [hier_first_step2, ih, h1]
  rfl
theorem hier_first_XL3 (n : Nat) (m1 : Nat) (r1 : (List ((List Int) × Int)) → (List ((List Int) × Int)) → Int → Int → Int → List (List Int) → (List (List ((List Int) × Int))) → List Bool → Option ((Bool × Unit) × Unit)) (h1 : hier_first_X1 n m1 = r1) : ∀ m, hier_first_X3 n m1 m = hier_first_L3 n m1 r1 m
 | 0 => rfl
 | m + 1 => by
  have ih := hier_first_XL3 n m1 r1 h1 m
  funext v43 v44 v45 v46 v47 v48 v49 v50 v51 v52 v53 v54 v55 v56 v57 v58 v59 v60 v61 v62 v63 v64 v65 v66 v67 v68 v69 v70 v71
  rw [hier_first_step3, ih, h1]
  rfl
theorem hier_first_XL1 (n : Nat) : ∀ m, hier_first_X1 n m = hier_first_L1 n m
 | 0 => rfl
 | m + 1 => by
  have ih := hier_first_XL1 n m
  funext v1 v2 v3 v4 v5 v6 v7 v8
  rw [hier_first_step1, hier_first_XL2 n m _ ih n, hier_first_XL3 n m _ ih n]
  rfl
noncomputable def hier_first_n (n : Nat) (h_0 : Int × (List (List Int)) × List (List ((List Int) × Int))) (cs_1 : List ((List Int) × Int)) : Option ((Bool × Unit) × Unit) := hier_first_T (hier_first_L1 n n) h_0 cs_1
noncomputable def hier_first (h_0 : Int × (List (List Int)) × List (List ((List Int) × Int))) (cs_1 : List ((List Int) × Int)) : Option ((Bool × Unit) × Unit) := hier_first_n 1099511627776 h_0 cs_1
theorem hier_first_eq (n : Nat) (h_0 : Int × (List (List Int)) × List (List ((List Int) × Int))) (cs_1 : List ((List Int) × Int)) : evFn hier_first_Γ tab hier_first_fi n [.val t54, .val t37] [⟨t4, [false], none⟩] Try.f70 (h_0, cs_1, ()) = hier_first_n n h_0 cs_1 := by
  rw [hier_first_start, hier_first_XL1 n n]
  rfl
noncomputable def hier_first_e : Ent := ⟨[.val t54, .val t37], [⟨t4, [false], none⟩], fun x => hier_first x.1 x.2.1⟩
theorem hier_first_good : Good tab.ty Try.prog 70 hier_first_e := by
  refine fn_good (Γ := hier_first_Γ) (fi := hier_first_fi) (n := 1099511627776) follows (gcons mid_Mid_good gnil) tabok Try.func70 (by kernel_rfl) (by kernel_rfl) (fun x r h => ?_)
  obtain ⟨h_0, cs_1, _u⟩ := x
  exact (hier_first_eq 1099511627776 h_0 cs_1).trans h
noncomputable def slices_EqualFunc_Cluster_Cluster_Cluster_Cluster_Γ : Ctx := []
def slices_EqualFunc_Cluster_Cluster_Cluster_Cluster_fi : Fi := { keep := [], vty := [], vals := [], live := [(0, [0, 1, 2]), (1, [0, 1, 2, 14]), (2, [6]), (3, [1, 2, 15, 16, 17]), (4, [1, 2, 15, 16, 17, 18]), (5, [1, 2, 7, 8, 15, 16, 17]), (6, [1, 2, 8, 9, 15, 16, 17]), (7, [1, 2, 15, 16, 17, 30]), (8, [6]), (9, [1, 2, 15, 16, 17]), (10, [6])] }
noncomputable def slices_EqualFunc_Cluster_Cluster_Cluster_Cluster_B1 (L1 : (List (List ((List Int) × Int))) → ((List ((List Int) × Int)) × (List ((List Int) × Int)) × Unit → Option (Bool × Unit)) → (List (List ((List Int) × Int))) → Int → Int → Option ((Bool × Unit) × Unit)) (v1 : List (List ((List Int) × Int))) (v2 : ((List ((List Int) × Int)) × (List ((List Int) × Int)) × Unit → Option (Bool × Unit))) (v3 : List (List ((List Int) × Int))) (v4 : Int) (v5 : Int) : Option ((Bool × Unit) × Unit) :=
 bif decide (v5 < v4) then
  bif decide (0 ≤ v5) && decide (v5 < (v3.length : Int)) then
   bif decide (0 ≤ v5) && decide (v5 < (v1.length : Int)) then
    Option.bind (v2 (List.getD v3 v5.toNat [], List.getD v1 v5.toNat [], ())) fun (r6 : Bool × Unit) =>
    bif !r6.1 then
     some ((false, ()), ())
    else
     L1 v1 v2 v3 v4 (IntKind.wrap .i64 (v5 + 1))
   else none
  else none
 else
  some ((true, ()), ())
noncomputable def slices_EqualFunc_Cluster_Cluster_Cluster_Cluster_T (L1 : (List (List ((List Int) × Int))) → ((List ((List Int) × Int)) × (List ((List Int) × Int)) × Unit → Option (Bool × Unit)) → (List (List ((List Int) × Int))) → Int → Int → Option ((Bool × Unit) × Unit)) (s1_0 : List (List ((List Int) × Int))) (s2_1 : List (List ((List Int) × Int))) (eq_2 : ((List ((List Int) × Int)) × (List ((List Int) × Int)) × Unit → Option (Bool × Unit))) : Option ((Bool × Unit) × Unit) :=
 bif (s1_0.length : Int) != (s2_1.length : Int) then
  some ((false, ()), ())
 else
  L1 s2_1 eq_2 s1_0 (s1_0.length : Int) 0
noncomputable def slices_EqualFunc_Cluster_Cluster_Cluster_Cluster_L1 (n : Nat) : Nat → (List (List ((List Int) × Int))) → ((List ((List Int) × Int)) × (List ((List Int) × Int)) × Unit → Option (Bool × Unit)) → (List (List ((List Int) × Int))) → Int → Int → Option ((Bool × Unit) × Unit) := iter (fun _ _ _ _ _ => none) fun L => slices_EqualFunc_Cluster_Cluster_Cluster_Cluster_B1 L
noncomputable def slices_EqualFunc_Cluster_Cluster_Cluster_Cluster_X1 (n m : Nat) (v1 : List (List ((List Int) × Int))) (v2 : ((List ((List Int) × Int)) × (List ((List Int) × Int)) × Unit → Option (Bool × Unit))) (v3 : List (List ((List Int) × Int))) (v4 : Int) (v5 : Int) : Option ((Bool × Unit) × Unit) :=
 atLoop slices_EqualFunc_Cluster_Cluster_Cluster_Cluster_Γ tab (fiB [.val t53, .val t53, .fn [t37, t37] [t4]] slices_EqualFunc_Cluster_Cluster_Cluster_Cluster_fi) n [.val t53, .val t53, .fn [t37, t37] [t4]] [⟨t4, [false], none⟩] Try.f71 [1, 1, 0, 1, 0] [] [1, 2, 15, 16, 17] m
 ⟨[(1, SV.cv (CV.one (LV.pure t53 v1))), (2, SV.cv (CV.one (LV.clo [t37, t37] [t4] v2))), (15, SV.cv (CV.one (LV.pure t53 v3))), (16, SV.cv (CV.one (LV.pure t2 v4))), (17, SV.cv (CV.one (LV.pure t2 v5)))],
  []⟩
theorem slices_EqualFunc_Cluster_Cluster_Cluster_Cluster_step1 (n m : Nat) (v1 : List (List ((List Int) × Int))) (v2 : ((List ((List Int) × Int)) × (List ((List Int) × Int)) × Unit → Option (Bool × Unit))) (v3 : List (List ((List Int) × Int))) (v4 : Int) (v5 : Int) : slices_EqualFunc_Cluster_Cluster_Cluster_Cluster_X1 n (m + 1) v1 v2 v3 v4 v5 = slices_EqualFunc_Cluster_Cluster_Cluster_Cluster_B1 (slices_EqualFunc_Cluster_Cluster_Cluster_Cluster_X1 n m) v1 v2 v3 v4 v5 := by kernel_rfl
theorem slices_EqualFunc_Cluster_Cluster_Cluster_Cluster_start (n : Nat) (s1_0 : List (List ((List Int) × Int))) (s2_1 : List (List ((List Int) × Int))) (eq_2 : ((List ((List Int) × Int)) × (List ((List Int) × Int)) × Unit → Option (Bool × Unit))) : evFn slices_EqualFunc_Cluster_Cluster_Cluster_Cluster_Γ tab slices_EqualFunc_Cluster_Cluster_Cluster_Cluster_fi n [.val t53, .val t53, .fn [t37, t37] [t4]] [⟨t4, [false], none⟩] Try.f71 (s1_0, s2_1, eq_2, ()) = slices_EqualFunc_Cluster_Cluster_Cluster_Cluster_T (slices_EqualFunc_Cluster_Cluster_Cluster_Cluster_X1 n n) s1_0 s2_1 eq_2 := by kernel_rfl
theorem slices_EqualFunc_Cluster_Cluster_Cluster_Cluster_XL1 (n : Nat) : ∀ m, slices_EqualFunc_Cluster_Cluster_Cluster_Cluster_X1 n m = slices_EqualFunc_Cluster_Cluster_Cluster_Cluster_L1 n m
 | 0 => rfl
 | m + 1 => by
  have ih := slices_EqualFunc_Cluster_Cluster_Cluster_Cluster_XL1 n m
  funext v1 v2 v3 v4 v5
  rw [slices_EqualFunc_Cluster_Cluster_Cluster_Cluster_step1, ih]
  rfl
noncomputable def slices_EqualFunc_Cluster_Cluster_Cluster_Cluster_n (n : Nat) (s1_0 : List (List ((List Int) × Int))) (s2_1 : List (List ((List Int) × Int))) (eq_2 : ((List ((List Int) × Int)) × (List ((List Int) × Int)) × Unit → Option (Bool × Unit))) : Option ((Bool × Unit) × Unit) := slices_EqualFunc_Cluster_Cluster_Cluster_Cluster_T (slices_EqualFunc_Cluster_Cluster_Cluster_Cluster_L1 n n) s1_0 s2_1 eq_2
noncomputable def slices_EqualFunc_Cluster_Cluster_Cluster_Cluster (s1_0 : List (List ((List Int) × Int))) (s2_1 : List (List ((List Int) × Int))) (eq_2 : ((List ((List Int) × Int)) × (List ((List Int) × Int)) × Unit → Option (Bool × Unit))) : Option ((Bool × Unit) × Unit) := slices_EqualFunc_Cluster_Cluster_Cluster_Cluster_n 1099511627776 s1_0 s2_1 eq_2
theorem slices_EqualFunc_Cluster_Cluster_Cluster_Cluster_eq (n : Nat) (s1_0 : List (List ((List Int) × Int))) (s2_1 : List (List ((List Int) × Int))) (eq_2 : ((List ((List Int) × Int)) × (List ((List Int) × Int)) × Unit → Option (Bool × Unit))) : evFn slices_EqualFunc_Cluster_Cluster_Cluster_Cluster_Γ tab slices_EqualFunc_Cluster_Cluster_Cluster_Cluster_fi n [.val t53, .val t53, .fn [t37, t37] [t4]] [⟨t4, [false], none⟩] Try.f71 (s1_0, s2_1, eq_2, ()) = slices_EqualFunc_Cluster_Cluster_Cluster_Cluster_n n s1_0 s2_1 eq_2 := by
  rw [slices_EqualFunc_Cluster_Cluster_Cluster_Cluster_start, slices_EqualFunc_Cluster_Cluster_Cluster_Cluster_XL1 n n]
  rfl
noncomputable def slices_EqualFunc_Cluster_Cluster_Cluster_Cluster_e : Ent := ⟨[.val t53, .val t53, .fn [t37, t37] [t4]], [⟨t4, [false], none⟩], fun x => slices_EqualFunc_Cluster_Cluster_Cluster_Cluster x.1 x.2.1 x.2.2.1⟩
theorem slices_EqualFunc_Cluster_Cluster_Cluster_Cluster_good : Good tab.ty Try.prog 71 slices_EqualFunc_Cluster_Cluster_Cluster_Cluster_e := by
  refine fn_good (Γ := slices_EqualFunc_Cluster_Cluster_Cluster_Cluster_Γ) (fi := slices_EqualFunc_Cluster_Cluster_Cluster_Cluster_fi) (n := 1099511627776) follows gnil tabok Try.func71 (by kernel_rfl) (by kernel_rfl) (fun x r h => ?_)
  obtain ⟨s1_0, s2_1, eq_2, _u⟩ := x
  exact (slices_EqualFunc_Cluster_Cluster_Cluster_Cluster_eq 1099511627776 s1_0 s2_1 eq_2).trans h
noncomputable def slices_EqualFunc_Cluster_Cluster_Cluster_Cluster_b_Γ : Ctx := []
def slices_EqualFunc_Cluster_Cluster_Cluster_Cluster_b_fi : Fi := { keep := [], vty := [], vals := [], live := [(0, [0, 1, 2]), (1, [0, 1, 2, 14]), (2, [6]), (3, [1, 2, 15, 16, 17]), (4, [1, 2, 15, 16, 17, 18]), (5, [1, 2, 7, 8, 15, 16, 17]), (6, [1, 2, 8, 9, 15, 16, 17]), (7, [1, 2, 15, 16, 17, 30]), (8, [6]), (9, [1, 2, 15, 16, 17]), (10, [6])] }
noncomputable def slices_EqualFunc_Cluster_Cluster_Cluster_Cluster_b_B1 (L1 : (List ((List Int) × Int)) → (((List Int) × Int) × ((List Int) × Int) × Unit → Option (Bool × Unit)) → (List ((List Int) × Int)) → Int → Int → Option ((Bool × Unit) × Unit)) (v1 : List ((List Int) × Int)) (v2 : (((List Int) × Int) × ((List Int) × Int) × Unit → Option (Bool × Unit))) (v3 : List ((List Int) × Int)) (v4 : Int) (v5 : Int) : Option ((Bool × Unit) × Unit) :=
 bif decide (v5 < v4) then
  bif decide (0 ≤ v5) && decide (v5 < (v3.length : Int)) then
   bif decide (0 ≤ v5) && decide (v5 < (v1.length : Int)) then
    Option.bind (v2 ((List.getD v3 v5.toNat ([], 0)), (List.getD v1 v5.toNat ([], 0)), ())) fun (r6 : Bool × Unit) =>
    bif !r6.1 then
     some ((false, ()), ())
    else
     L1 v1 v2 v3 v4 (IntKind.wrap .i64 (v5 + 1))
   else none
  else none
 else
  some ((true, ()), ())
noncomputable def slices_EqualFunc_Cluster_Cluster_Cluster_Cluster_b_T (L1 : (List ((List Int) × Int)) → (((List Int) × Int) × ((List Int) × Int) × Unit → Option (Bool × Unit)) → (List ((List Int) × Int)) → Int → Int → Option ((Bool × Unit) × Unit)) (s1_0 : List ((List Int) × Int)) (s2_1 : List ((List Int) × Int)) (eq_2 : (((List Int) × Int) × ((List Int) × Int) × Unit → Option (Bool × Unit))) : Option ((Bool × Unit) × Unit) :=
 bif (s1_0.length : Int) != (s2_1.length : Int) then
  some ((false, ()), ())
 else
  L1 s2_1 eq_2 s1_0 (s1_0.length : Int) 0
noncomputable def slices_EqualFunc_Cluster_Cluster_Cluster_Cluster_b_L1 (n : Nat) : Nat → (List ((List Int) × Int)) → (((List Int) × Int) × ((List Int) × Int) × Unit → Option (Bool × Unit)) → (List ((List Int) × Int)) → Int → Int → Option ((Bool × Unit) × Unit) := iter (fun _ _ _ _ _ => none) fun L => slices_EqualFunc_Cluster_Cluster_Cluster_Cluster_b_B1 L
noncomputable def slices_EqualFunc_Cluster_Cluster_Cluster_Cluster_b_X1 (n m : Nat) (v1 : List ((List Int) × Int)) (v2 : (((List Int) × Int) × ((List Int) × Int) × Unit → Option (Bool × Unit))) (v3 : List ((List Int) × Int)) (v4 : Int) (v5 : Int) : Option ((Bool × Unit) × Unit) :=
 atLoop slices_EqualFunc_Cluster_Cluster_Cluster_Cluster_b_Γ tab (fiB [.val t37, .val t37, .fn [t32, t32] [t4]] slices_EqualFunc_Cluster_Cluster_Cluster_Cluster_b_fi) n [.val t37, .val t37, .fn [t32, t32] [t4]] [⟨t4, [false], none⟩] Try.f95 [1, 1, 0, 1, 0] [] [1, 2, 15, 16, 17] m
 ⟨[(1, SV.cv (CV.one (LV.pure t37 v1))), (2, SV.cv (CV.one (LV.clo [t32, t32] [t4] v2))), (15, SV.cv (CV.one (LV.pure t37 v3))), (16, SV.cv (CV.one (LV.pure t2 v4))), (17, SV.cv (CV.one (LV.pure t2 v5)))],
  []⟩
theorem slices_EqualFunc_Cluster_Cluster_Cluster_Cluster_b_step1 (n m : Nat) (v1 : List ((List Int) × Int)) (v2 : (((List Int) × Int) × ((List Int) × Int) × Unit → Option (Bool × Unit))) (v3 : List ((List Int) × Int)) (v4 : Int) (v5 : Int) : slices_EqualFunc_Cluster_Cluster_Cluster_Cluster_b_X1 n (m + 1) v1 v2 v3 v4 v5 = slices_EqualFunc_Cluster_Cluster_Cluster_Cluster_b_B1 (slices_EqualFunc_Cluster_Cluster_Cluster_Cluster_b_X1 n m) v1 v2 v3 v4 v5 := by kernel_rfl
theorem slices_EqualFunc_Cluster_Cluster_Cluster_Cluster_b_start (n : Nat) (s1_0 : List ((List Int) × Int)) (s2_1 : List ((List Int) × Int)) (eq_2 : (((List Int) × Int) × ((List Int) × Int) × Unit → Option (Bool × Unit))) : evFn slices_EqualFunc_Cluster_Cluster_Cluster_Cluster_b_Γ tab slices_EqualFunc_Cluster_Cluster_Cluster_Cluster_b_fi n [.val t37, .val t37, .fn [t32, t32] [t4]] [⟨t4, [false], none⟩] Try.f95 (s1_0, s2_1, eq_2, ()) = slices_EqualFunc_Cluster_Cluster_Cluster_Cluster_b_T (slices_EqualFunc_Cluster_Cluster_Cluster_Cluster_b_X1 n n) s1_0 s2_1 eq_2 := by kernel_rfl
theorem slices_EqualFunc_Cluster_Cluster_Cluster_Cluster_b_XL1 (n : Nat) : ∀ m, slices_EqualFunc_Cluster_Cluster_Cluster_Cluster_b_X1 n m = slices_EqualFunc_Cluster_Cluster_Cluster_Cluster_b_L1 n m
 | 0 => rfl
 | m + 1 => by
  have ih := slices_EqualFunc_Cluster_Cluster_Cluster_Cluster_b_XL1 n m
  funext v1 v2 v3 v4 v5
  rw [slices_EqualFunc_Cluster_Cluster_Cluster_Cluster_b_step1, ih]
  rfl
noncomputable def slices_EqualFunc_Cluster_Cluster_Cluster_Cluster_b_n (n : Nat) (s1_0 : List ((List Int) × Int)) (s2_1 : List ((List Int) × Int)) (eq_2 : (((List Int) × Int) × ((List Int) × Int) × Unit → Option (Bool × Unit))) : Option ((Bool × Unit) × Unit) := slices_EqualFunc_Cluster_Cluster_Cluster_Cluster_b_T (slices_EqualFunc_Cluster_Cluster_Cluster_Cluster_b_L1 n n) s1_0 s2_1 eq_2
noncomputable def slices_EqualFunc_Cluster_Cluster_Cluster_Cluster_b (s1_0 : List ((List Int) × Int)) (s2_1 : List ((List Int) × Int)) (eq_2 : (((List Int) × Int) × ((List Int) × Int) × Unit → Option (Bool × Unit))) : Option ((Bool × Unit) × Unit) := slices_EqualFunc_Cluster_Cluster_Cluster_Cluster_b_n 1099511627776 s1_0 s2_1 eq_2
theorem slices_EqualFunc_Cluster_Cluster_Cluster_Cluster_b_eq (n : Nat) (s1_0 : List ((List Int) × Int)) (s2_1 : List ((List Int) × Int)) (eq_2 : (((List Int) × Int) × ((List Int) × Int) × Unit → Option (Bool × Unit))) : evFn slices_EqualFunc_Cluster_Cluster_Cluster_Cluster_b_Γ tab slices_EqualFunc_Cluster_Cluster_Cluster_Cluster_b_fi n [.val t37, .val t37, .fn [t32, t32] [t4]] [⟨t4, [false], none⟩] Try.f95 (s1_0, s2_1, eq_2, ()) = slices_EqualFunc_Cluster_Cluster_Cluster_Cluster_b_n n s1_0 s2_1 eq_2 := by
  rw [slices_EqualFunc_Cluster_Cluster_Cluster_Cluster_b_start, slices_EqualFunc_Cluster_Cluster_Cluster_Cluster_b_XL1 n n]
  rfl
noncomputable def slices_EqualFunc_Cluster_Cluster_Cluster_Cluster_b_e : Ent := ⟨[.val t37, .val t37, .fn [t32, t32] [t4]], [⟨t4, [false], none⟩], fun x => slices_EqualFunc_Cluster_Cluster_Cluster_Cluster_b x.1 x.2.1 x.2.2.1⟩
theorem slices_EqualFunc_Cluster_Cluster_Cluster_Cluster_b_good : Good tab.ty Try.prog 95 slices_EqualFunc_Cluster_Cluster_Cluster_Cluster_b_e := by
  refine fn_good (Γ := slices_EqualFunc_Cluster_Cluster_Cluster_Cluster_b_Γ) (fi := slices_EqualFunc_Cluster_Cluster_Cluster_Cluster_b_fi) (n := 1099511627776) follows gnil tabok Try.func95 (by kernel_rfl) (by kernel_rfl) (fun x r h => ?_)
  obtain ⟨s1_0, s2_1, eq_2, _u⟩ := x
  exact (slices_EqualFunc_Cluster_Cluster_Cluster_Cluster_b_eq 1099511627776 s1_0 s2_1 eq_2).trans h
noncomputable def slices_Equal_int_Γ : Ctx := []
def slices_Equal_int_fi : Fi := { keep := [], vty := [], vals := [], live := [(0, [0, 1]), (1, [0, 1, 10]), (2, [4]), (3, [0, 1, 12, 13]), (4, [0, 1, 12, 13, 14]), (5, [0, 1, 5, 12, 13]), (6, [0, 1, 12, 13, 24]), (7, [4]), (8, [0, 1, 12, 13]), (9, [4])] }
noncomputable def slices_Equal_int_B1 (L1 : List Int → List Int → Int → Int → Option ((Bool × Unit) × Unit)) (v1 : List Int) (v2 : List Int) (v3 : Int) (v4 : Int) : Option ((Bool × Unit) × Unit) :=
 bif decide (v4 < v3) then
  bif decide (0 ≤ v4) && decide (v4 < (v1.length : Int)) then
   bif decide (0 ≤ v4) && decide (v4 < (v2.length : Int)) then
    bif (List.getD v1 v4.toNat 0) != (List.getD v2 v4.toNat 0) then
     some ((false, ()), ())
    else
     L1 v1 v2 v3 (IntKind.wrap .i64 (v4 + 1))
   else none
  else none
 else
  some ((true, ()), ())
noncomputable def slices_Equal_int_T (L1 : List Int → List Int → Int → Int → Option ((Bool × Unit) × Unit)) (s1_0 : List Int) (s2_1 : List Int) : Option ((Bool × Unit) × Unit) :=
 bif (s1_0.length : Int) != (s2_1.length : Int) then
  some ((false, ()), ())
 else
  L1 s1_0 s2_1 (s1_0.length : Int) 0
noncomputable def slices_Equal_int_L1 (n : Nat) : Nat → List Int → List Int → Int → Int → Option ((Bool × Unit) × Unit) := iter (fun _ _ _ _ => none) fun L => slices_Equal_int_B1 L
noncomputable def slices_Equal_int_X1 (n m : Nat) (v1 : List Int) (v2 : List Int) (v3 : Int) (v4 : Int) : Option ((Bool × Unit) × Unit) :=
 atLoop slices_Equal_int_Γ tab (fiB [.val t28, .val t28] slices_Equal_int_fi) n [.val t28, .val t28] [⟨t4, [false], none⟩] Try.f97 [1, 1, 0, 1, 0] [] [0, 1, 12, 13] m
 ⟨[(0, SV.cv (CV.one (LV.pure t28 v1))), (1, SV.cv (CV.one (LV.pure t28 v2))), (12, SV.cv (CV.one (LV.pure t2 v3))), (13, SV.cv (CV.one (LV.pure t2 v4)))],
  []⟩
theorem slices_Equal_int_step1 (n m : Nat) (v1 : List Int) (v2 : List Int) (v3 : Int) (v4 : Int) : slices_Equal_int_X1 n (m + 1) v1 v2 v3 v4 = slices_Equal_int_B1 (slices_Equal_int_X1 n m) v1 v2 v3 v4 := by kernel_rfl
theorem slices_Equal_int_start (n : Nat) (s1_0 : List Int) (s2_1 : List Int) : evFn slices_Equal_int_Γ tab slices_Equal_int_fi n [.val t28, .val t28] [⟨t4, [false], none⟩] Try.f97 (s1_0, s2_1, ()) = slices_Equal_int_T (slices_Equal_int_X1 n n) s1_0 s2_1 := by kernel_rfl
theorem slices_Equal_int_XL1 (n : Nat) : ∀ m, slices_Equal_int_X1 n m = slices_Equal_int_L1 n m
 | 0 => rfl
 | m + 1 => by
  have ih := slices_Equal_int_XL1 n m
  funext v1 v2 v3 v4
  rw [slices_Equal_int_step1, ih]
  rfl
noncomputable def slices_Equal_int_n (n : Nat) (s1_0 : List Int) (s2_1 : List Int) : Option ((Bool × Unit) × Unit) := slices_Equal_int_T (slices_Equal_int_L1 n n) s1_0 s2_1
noncomputable def slices_Equal_int (s1_0 : List Int) (s2_1 : List Int) : Option ((Bool × Unit) × Unit) := slices_Equal_int_n 1099511627776 s1_0 s2_1
theorem slices_Equal_int_eq (n : Nat) (s1_0 : List Int) (s2_1 : List Int) : evFn slices_Equal_int_Γ tab slices_Equal_int_fi n [.val t28, .val t28] [⟨t4, [false], none⟩] Try.f97 (s1_0, s2_1, ()) = slices_Equal_int_n n s1_0 s2_1 := by
  rw [slices_Equal_int_start, slices_Equal_int_XL1 n n]
  rfl
noncomputable def slices_Equal_int_e : Ent := ⟨[.val t28, .val t28], [⟨t4, [false], none⟩], fun x => slices_Equal_int x.1 x.2.1⟩
theorem slices_Equal_int_good : Good tab.ty Try.prog 97 slices_Equal_int_e := by
  refine fn_good (Γ := slices_Equal_int_Γ) (fi := slices_Equal_int_fi) (n := 1099511627776) follows gnil tabok Try.func97 (by kernel_rfl) (by kernel_rfl) (fun x r h => ?_)
  obtain ⟨s1_0, s2_1, _u⟩ := x
  exact (slices_Equal_int_eq 1099511627776 s1_0 s2_1).trans h
noncomputable def hier_same_fn1_Γ : Ctx := [(97, slices_Equal_int_e)]
def hier_same_fn1_fi : Fi := { keep := [], vty := [], vals := [], live := [(0, [2, 3, 11, 12, 13, 14, 15]), (1, [4])] }
noncomputable def hier_same_fn1 (c_0 : (List Int) × Int) (x_1 : (List Int) × Int) : Option ((Bool × Unit) × Unit) :=
 bif c_0.2 == x_1.2 then
  Option.bind (slices_Equal_int c_0.1 x_1.1) fun (r1 : (Bool × Unit) × Unit) =>
  some ((r1.1.1, ()), ())
 else
  some ((false, ()), ())
theorem hier_same_fn1_eq (c_0 : (List Int) × Int) (x_1 : (List Int) × Int) : evFn hier_same_fn1_Γ tab hier_same_fn1_fi 1 [.val t32, .val t32] [⟨t4, [false], none⟩] Try.f96 (c_0, x_1, ()) = hier_same_fn1 c_0 x_1 := by kernel_rfl
noncomputable def hier_same_fn1_e : Ent := ⟨[.val t32, .val t32], [⟨t4, [false], none⟩], fun x => hier_same_fn1 x.1 x.2.1⟩
theorem hier_same_fn1_good : Good tab.ty Try.prog 96 hier_same_fn1_e := by
  refine fn_good (Γ := hier_same_fn1_Γ) (fi := hier_same_fn1_fi) (n := 1) follows (gcons slices_Equal_int_good gnil) tabok Try.func96 (by kernel_rfl) (by kernel_rfl) (fun x r h => ?_)
  obtain ⟨c_0, x_1, _u⟩ := x
  exact (hier_same_fn1_eq c_0 x_1).trans h
noncomputable def hier_same_Γ : Ctx := [(95, slices_EqualFunc_Cluster_Cluster_Cluster_Cluster_b_e), (96, hier_same_fn1_e)]
def hier_same_fi : Fi := { keep := [], vty := [], vals := [], live := [(0, [0, 1]), (1, [4])] }
noncomputable def hier_same (a_0 : List ((List Int) × Int)) (b_1 : List ((List Int) × Int)) : Option ((Bool × Unit) × Unit) :=
 Option.bind (slices_EqualFunc_Cluster_Cluster_Cluster_Cluster_b a_0 b_1 (fun x => (hier_same_fn1 x.1 x.2.1).bind fun r => some (r.1.1, ()))) fun (r1 : (Bool × Unit) × Unit) =>
 some ((r1.1.1, ()), ())
theorem hier_same_eq (a_0 : List ((List Int) × Int)) (b_1 : List ((List Int) × Int)) : evFn hier_same_Γ tab hier_same_fi 1 [.val t37, .val t37] [⟨t4, [false], none⟩] Try.f72 (a_0, b_1, ()) = hier_same a_0 b_1 := by kernel_rfl
noncomputable def hier_same_e : Ent := ⟨[.val t37, .val t37], [⟨t4, [false], none⟩], fun x => hier_same x.1 x.2.1⟩
theorem hier_same_good : Good tab.ty Try.prog 72 hier_same_e := by
  refine fn_good (Γ := hier_same_Γ) (fi := hier_same_fi) (n := 1) follows (gcons slices_EqualFunc_Cluster_Cluster_Cluster_Cluster_b_good (gcons hier_same_fn1_good gnil)) tabok Try.func72 (by kernel_rfl) (by kernel_rfl) (fun x r h => ?_)
  obtain ⟨a_0, b_1, _u⟩ := x
  exact (hier_same_eq a_0 b_1).trans h
noncomputable def hier_May_Γ : Ctx := [(37, hier_New_e), (68, hier_above_e), (70, hier_first_e), (71, slices_EqualFunc_Cluster_Cluster_Cluster_Cluster_e), (72, hier_same_e)]
def hier_May_fi : Fi := { keep := [], vty := [], vals := [], live := [(0, [1, 26, 27, 28, 29, 30, 31, 32]), (1, [1, 4, 26, 27, 28, 29, 30, 31, 32]), (2, [1, 14, 26, 27, 28, 29, 30, 31, 32]), (3, [2]), (4, [1, 18, 26, 27, 28, 29, 30, 31, 32]), (5, [2]), (6, [1, 33]), (7, [2]), (8, [2])] }
noncomputable def hier_May (h_0 : Int × (List (List Int)) × List (List ((List Int) × Int))) : Option ((Bool × Unit) × Unit) :=
 Option.bind (hier_New h_0.2.1 h_0.1) fun (r1 : ((Int × (List (List Int)) × List (List ((List Int) × Int))) × Bool × Unit) × Unit) =>
 bif !r1.1.2.1 then
  some ((false, ()), ())
 else
 bif (h_0.2.2.length : Int) == 0 then
  some ((true, ()), ())
 else
 bif decide (0 < (h_0.2.2.length : Int)) then
  bif ((List.getD h_0.2.2 0 []).length : Int) == 0 then
   some ((false, ()), ())
  else
  bif decide (0 < (h_0.2.2.length : Int)) then
   Option.bind (hier_first h_0 (List.getD h_0.2.2 0 [])) fun (r2 : (Bool × Unit) × Unit) =>
   bif !r2.1.1 then
    some ((false, ()), ())
   else
   bif decide (0 < (h_0.2.2.length : Int)) then
    Option.bind (hier_above h_0 (List.getD h_0.2.2 0 [])) fun (r3 : ((Int × (List (List Int)) × List (List ((List Int) × Int))) × Unit) × Unit) =>
    Option.bind (slices_EqualFunc_Cluster_Cluster_Cluster_Cluster r3.1.1.2.2 h_0.2.2 (fun x => (hier_same x.1 x.2.1).bind fun r => some (r.1.1, ()))) fun (r4 : (Bool × Unit) × Unit) =>
    some ((r4.1.1, ()), ())
   else none
  else none
 else none
theorem hier_May_eq (h_0 : Int × (List (List Int)) × List (List ((List Int) × Int))) : evFn hier_May_Γ tab hier_May_fi 1 [.val t54] [⟨t4, [false], none⟩] Try.f40 (h_0, ()) = hier_May h_0 := by kernel_rfl
noncomputable def hier_May_e : Ent := ⟨[.val t54], [⟨t4, [false], none⟩], fun x => hier_May x.1⟩
theorem hier_May_good : Good tab.ty Try.prog 40 hier_May_e := by
  refine fn_good (Γ := hier_May_Γ) (fi := hier_May_fi) (n := 1) follows (gcons hier_New_good (gcons hier_above_good (gcons hier_first_good (gcons slices_EqualFunc_Cluster_Cluster_Cluster_Cluster_good (gcons hier_same_good gnil))))) tabok Try.func40 (by kernel_rfl) (by kernel_rfl) (fun x r h => ?_)
  obtain ⟨h_0, _u⟩ := x
  exact (hier_May_eq h_0).trans h
noncomputable def pleachlaw9_begun_Γ : Ctx := [(15, pleachmade_Made_e), (16, pleachmade_Picks_Dist_e), (37, hier_New_e), (38, hier_Join_e), (39, hier_Ask_e), (40, hier_May_e), (41, hier_Leave_e)]
def pleachlaw9_begun_fi : Fi := { keep := [], vty := [], vals := [], live := [(0, [24, 25, 28, 29, 30, 31, 34, 35, 36, 37, 38, 39, 42, 43, 44, 47, 48, 49, 52, 53, 54, 55, 58, 59, 60, 63, 64, 67, 68, 69]), (1, [1, 2, 24, 25, 28, 29, 30, 31, 34, 35, 36, 37, 38, 39, 42, 43, 44, 47, 48, 49, 52, 53, 54, 55, 58, 59, 60, 63, 64, 67, 68, 69]), (2, [1, 2, 4, 24, 25, 28, 29, 30, 31, 34, 35, 36, 37, 38, 39, 42, 43, 44, 47, 48, 49, 52, 53, 54, 55, 58, 59, 60, 63, 64, 67, 68, 69]), (3, [2, 4, 5, 24, 25, 28, 29, 30, 31, 34, 35, 36, 37, 38, 39, 42, 43, 44, 47, 48, 49, 52, 53, 54, 55, 58, 59, 60, 63, 64, 67, 68, 69]), (4, [2, 4, 5, 6, 24, 25, 28, 29, 30, 31, 34, 35, 36, 37, 38, 39, 42, 43, 44, 47, 48, 49, 52, 53, 54, 55, 58, 59, 60, 63, 64, 67, 68, 69]), (5, [0])] }
noncomputable def pleachlaw9_begun  : Option ((Bool × Unit) × Unit) :=
 Option.bind (pleachmade_Made []) fun (r1 : (((List Int) × Int) × Unit) × Unit) =>
 Option.bind (pleachmade_Picks_Dist r1.1.1) fun (r2 : ((List (List Int)) × Unit) × (((List Int) × Int) × Unit)) =>
 Option.bind (hier_New r2.1.1 1) fun (r3 : ((Int × (List (List Int)) × List (List ((List Int) × Int))) × Bool × Unit) × Unit) =>
 Option.bind (hier_New [] 1) fun (r4 : ((Int × (List (List Int)) × List (List ((List Int) × Int))) × Bool × Unit) × Unit) =>
 Option.bind (hier_Join r3.1.1 1) fun (r5 : ((Int × (List (List Int)) × List (List ((List Int) × Int))) × Unit) × Unit) =>
 Option.bind (hier_Join r5.1.1 2) fun (r6 : ((Int × (List (List Int)) × List (List ((List Int) × Int))) × Unit) × Unit) =>
 Option.bind (hier_Leave r6.1.1 1) fun (r7 : ((Int × (List (List Int)) × List (List ((List Int) × Int))) × Unit) × Unit) =>
 bif r3.1.2.1 then
  bif !r4.1.2.1 then
   bif (r6.1.1.2.2.length : Int) == 1 then
    bif decide (0 < (r6.1.1.2.2.length : Int)) then
     bif ((List.getD r6.1.1.2.2 0 []).length : Int) == 1 then
      Option.bind (hier_Ask r6.1.1 2) fun (r8 : (Int × Unit) × Unit) =>
      bif r8.1.1 == 1 then
       Option.bind (hier_Ask r6.1.1 1) fun (r9 : (Int × Unit) × Unit) =>
       bif r9.1.1 == 0 then
        bif (r7.1.1.2.2.length : Int) == 1 then
         Option.bind (hier_Ask r7.1.1 2) fun (r10 : (Int × Unit) × Unit) =>
         bif r10.1.1 == 0 then
          Option.bind (hier_May r6.1.1) fun (r11 : (Bool × Unit) × Unit) =>
          bif r11.1.1 then
           Option.bind (hier_May (0, [], [])) fun (r12 : (Bool × Unit) × Unit) =>
           some ((!r12.1.1, ()), ())
          else
           some ((false, ()), ())
         else
          some ((false, ()), ())
        else
         some ((false, ()), ())
       else
        some ((false, ()), ())
      else
       some ((false, ()), ())
     else
      some ((false, ()), ())
    else none
   else
    some ((false, ()), ())
  else
   some ((false, ()), ())
 else
  some ((false, ()), ())
theorem pleachlaw9_begun_eq  : evFn pleachlaw9_begun_Γ tab pleachlaw9_begun_fi 1 [] [⟨t4, [false], none⟩] Try.f36 () = pleachlaw9_begun  := by kernel_rfl
noncomputable def pleachlaw9_begun_e : Ent := ⟨[], [⟨t4, [false], none⟩], fun x => pleachlaw9_begun⟩
theorem pleachlaw9_begun_good : Good tab.ty Try.prog 36 pleachlaw9_begun_e := by
  refine fn_good (Γ := pleachlaw9_begun_Γ) (fi := pleachlaw9_begun_fi) (n := 1) follows (gcons pleachmade_Made_good (gcons pleachmade_Picks_Dist_good (gcons hier_New_good (gcons hier_Join_good (gcons hier_Ask_good (gcons hier_May_good (gcons hier_Leave_good gnil))))))) tabok Try.func36 (by kernel_rfl) (by kernel_rfl) (fun x r h => ?_)
  obtain _u := x
  exact (pleachlaw9_begun_eq ).trans h
noncomputable def pleachref1_SameInts_Γ : Ctx := []
def pleachref1_SameInts_fi : Fi := { keep := [], vty := [], vals := [], live := [(0, [0, 1]), (1, [0, 1, 10]), (2, [4]), (3, [0, 1, 5]), (4, [0, 1, 5, 14]), (5, [0, 1, 5]), (6, [0, 1, 5, 25]), (7, [4]), (8, [4])] }
noncomputable def pleachref1_SameInts_B1 (L1 : List Int → List Int → Int → Option ((Bool × Unit) × Unit)) (v1 : List Int) (v2 : List Int) (v3 : Int) : Option ((Bool × Unit) × Unit) :=
 bif decide (v3 < (v1.length : Int)) then
  bif decide (0 ≤ v3) && decide (v3 < (v1.length : Int)) then
   bif decide (0 ≤ v3) && decide (v3 < (v2.length : Int)) then
    bif (List.getD v1 v3.toNat 0) != (List.getD v2 v3.toNat 0) then
     some ((false, ()), ())
    else
     L1 v1 v2 (IntKind.wrap .i64 (v3 + 1))
   else none
  else none
 else
  some ((true, ()), ())
noncomputable def pleachref1_SameInts_T (L1 : List Int → List Int → Int → Option ((Bool × Unit) × Unit)) (a_0 : List Int) (b_1 : List Int) : Option ((Bool × Unit) × Unit) :=
 bif (a_0.length : Int) != (b_1.length : Int) then
  some ((false, ()), ())
 else
  L1 a_0 b_1 0
noncomputable def pleachref1_SameInts_L1 (n : Nat) : Nat → List Int → List Int → Int → Option ((Bool × Unit) × Unit) := iter (fun _ _ _ => none) fun L => pleachref1_SameInts_B1 L
noncomputable def pleachref1_SameInts_X1 (n m : Nat) (v1 : List Int) (v2 : List Int) (v3 : Int) : Option ((Bool × Unit) × Unit) :=
 atLoop pleachref1_SameInts_Γ tab (fiB [.val t28, .val t28] pleachref1_SameInts_fi) n [.val t28, .val t28] [⟨t4, [false], none⟩] Try.f22 [1, 1, 0, 1, 0] [] [0, 1, 5] m
 ⟨[(0, SV.cv (CV.one (LV.pure t28 v1))), (1, SV.cv (CV.one (LV.pure t28 v2))), (5, SV.cv (CV.one (LV.pure t2 v3)))],
  []⟩
theorem pleachref1_SameInts_step1 (n m : Nat) (v1 : List Int) (v2 : List Int) (v3 : Int) : pleachref1_SameInts_X1 n (m + 1) v1 v2 v3 = pleachref1_SameInts_B1 (pleachref1_SameInts_X1 n m) v1 v2 v3 := by kernel_rfl
theorem pleachref1_SameInts_start (n : Nat) (a_0 : List Int) (b_1 : List Int) : evFn pleachref1_SameInts_Γ tab pleachref1_SameInts_fi n [.val t28, .val t28] [⟨t4, [false], none⟩] Try.f22 (a_0, b_1, ()) = pleachref1_SameInts_T (pleachref1_SameInts_X1 n n) a_0 b_1 := by kernel_rfl
theorem pleachref1_SameInts_XL1 (n : Nat) : ∀ m, pleachref1_SameInts_X1 n m = pleachref1_SameInts_L1 n m
 | 0 => rfl
 | m + 1 => by
  have ih := pleachref1_SameInts_XL1 n m
  funext v1 v2 v3
  rw [pleachref1_SameInts_step1, ih]
  rfl
noncomputable def pleachref1_SameInts_n (n : Nat) (a_0 : List Int) (b_1 : List Int) : Option ((Bool × Unit) × Unit) := pleachref1_SameInts_T (pleachref1_SameInts_L1 n n) a_0 b_1
noncomputable def pleachref1_SameInts (a_0 : List Int) (b_1 : List Int) : Option ((Bool × Unit) × Unit) := pleachref1_SameInts_n 1099511627776 a_0 b_1
theorem pleachref1_SameInts_eq (n : Nat) (a_0 : List Int) (b_1 : List Int) : evFn pleachref1_SameInts_Γ tab pleachref1_SameInts_fi n [.val t28, .val t28] [⟨t4, [false], none⟩] Try.f22 (a_0, b_1, ()) = pleachref1_SameInts_n n a_0 b_1 := by
  rw [pleachref1_SameInts_start, pleachref1_SameInts_XL1 n n]
  rfl
noncomputable def pleachref1_SameInts_e : Ent := ⟨[.val t28, .val t28], [⟨t4, [false], none⟩], fun x => pleachref1_SameInts x.1 x.2.1⟩
theorem pleachref1_SameInts_good : Good tab.ty Try.prog 22 pleachref1_SameInts_e := by
  refine fn_good (Γ := pleachref1_SameInts_Γ) (fi := pleachref1_SameInts_fi) (n := 1099511627776) follows gnil tabok Try.func22 (by kernel_rfl) (by kernel_rfl) (fun x r h => ?_)
  obtain ⟨a_0, b_1, _u⟩ := x
  exact (pleachref1_SameInts_eq 1099511627776 a_0 b_1).trans h
noncomputable def pleachref1_SameDist_Γ : Ctx := [(22, pleachref1_SameInts_e)]
def pleachref1_SameDist_fi : Fi := { keep := [], vty := [], vals := [], live := [(0, [0, 1]), (1, [0, 1, 10]), (2, [4]), (3, [0, 1, 5]), (4, [0, 1, 5, 14]), (5, [0, 1, 5]), (6, [0, 1, 5, 26]), (7, [4]), (8, [4])] }
noncomputable def pleachref1_SameDist_B1 (L1 : List (List Int) → List (List Int) → Int → Option ((Bool × Unit) × Unit)) (v1 : List (List Int)) (v2 : List (List Int)) (v3 : Int) : Option ((Bool × Unit) × Unit) :=
 bif decide (v3 < (v1.length : Int)) then
  bif decide (0 ≤ v3) && decide (v3 < (v1.length : Int)) then
   bif decide (0 ≤ v3) && decide (v3 < (v2.length : Int)) then
    Option.bind (pleachref1_SameInts (List.getD v1 v3.toNat []) (List.getD v2 v3.toNat [])) fun (r4 : (Bool × Unit) × Unit) =>
    bif !r4.1.1 then
     some ((false, ()), ())
    else
     L1 v1 v2 (IntKind.wrap .i64 (v3 + 1))
   else none
  else none
 else
  some ((true, ()), ())
noncomputable def pleachref1_SameDist_T (L1 : List (List Int) → List (List Int) → Int → Option ((Bool × Unit) × Unit)) (a_0 : List (List Int)) (b_1 : List (List Int)) : Option ((Bool × Unit) × Unit) :=
 bif (a_0.length : Int) != (b_1.length : Int) then
  some ((false, ()), ())
 else
  L1 a_0 b_1 0
noncomputable def pleachref1_SameDist_L1 (n : Nat) : Nat → List (List Int) → List (List Int) → Int → Option ((Bool × Unit) × Unit) := iter (fun _ _ _ => none) fun L => pleachref1_SameDist_B1 L
noncomputable def pleachref1_SameDist_X1 (n m : Nat) (v1 : List (List Int)) (v2 : List (List Int)) (v3 : Int) : Option ((Bool × Unit) × Unit) :=
 atLoop pleachref1_SameDist_Γ tab (fiB [.val t24, .val t24] pleachref1_SameDist_fi) n [.val t24, .val t24] [⟨t4, [false], none⟩] Try.f73 [1, 1, 0, 1, 0] [] [0, 1, 5] m
 ⟨[(0, SV.cv (CV.one (LV.pure t24 v1))), (1, SV.cv (CV.one (LV.pure t24 v2))), (5, SV.cv (CV.one (LV.pure t2 v3)))],
  []⟩
theorem pleachref1_SameDist_step1 (n m : Nat) (v1 : List (List Int)) (v2 : List (List Int)) (v3 : Int) : pleachref1_SameDist_X1 n (m + 1) v1 v2 v3 = pleachref1_SameDist_B1 (pleachref1_SameDist_X1 n m) v1 v2 v3 := by kernel_rfl
theorem pleachref1_SameDist_start (n : Nat) (a_0 : List (List Int)) (b_1 : List (List Int)) : evFn pleachref1_SameDist_Γ tab pleachref1_SameDist_fi n [.val t24, .val t24] [⟨t4, [false], none⟩] Try.f73 (a_0, b_1, ()) = pleachref1_SameDist_T (pleachref1_SameDist_X1 n n) a_0 b_1 := by kernel_rfl
theorem pleachref1_SameDist_XL1 (n : Nat) : ∀ m, pleachref1_SameDist_X1 n m = pleachref1_SameDist_L1 n m
 | 0 => rfl
 | m + 1 => by
  have ih := pleachref1_SameDist_XL1 n m
  funext v1 v2 v3
  rw [pleachref1_SameDist_step1, ih]
  rfl
noncomputable def pleachref1_SameDist_n (n : Nat) (a_0 : List (List Int)) (b_1 : List (List Int)) : Option ((Bool × Unit) × Unit) := pleachref1_SameDist_T (pleachref1_SameDist_L1 n n) a_0 b_1
noncomputable def pleachref1_SameDist (a_0 : List (List Int)) (b_1 : List (List Int)) : Option ((Bool × Unit) × Unit) := pleachref1_SameDist_n 1099511627776 a_0 b_1
theorem pleachref1_SameDist_eq (n : Nat) (a_0 : List (List Int)) (b_1 : List (List Int)) : evFn pleachref1_SameDist_Γ tab pleachref1_SameDist_fi n [.val t24, .val t24] [⟨t4, [false], none⟩] Try.f73 (a_0, b_1, ()) = pleachref1_SameDist_n n a_0 b_1 := by
  rw [pleachref1_SameDist_start, pleachref1_SameDist_XL1 n n]
  rfl
noncomputable def pleachref1_SameDist_e : Ent := ⟨[.val t24, .val t24], [⟨t4, [false], none⟩], fun x => pleachref1_SameDist x.1 x.2.1⟩
theorem pleachref1_SameDist_good : Good tab.ty Try.prog 73 pleachref1_SameDist_e := by
  refine fn_good (Γ := pleachref1_SameDist_Γ) (fi := pleachref1_SameDist_fi) (n := 1099511627776) follows (gcons pleachref1_SameInts_good gnil) tabok Try.func73 (by kernel_rfl) (by kernel_rfl) (fun x r h => ?_)
  obtain ⟨a_0, b_1, _u⟩ := x
  exact (pleachref1_SameDist_eq 1099511627776 a_0 b_1).trans h
noncomputable def pleachref7_SameClusters_Γ : Ctx := [(22, pleachref1_SameInts_e)]
def pleachref7_SameClusters_fi : Fi := { keep := [], vty := [], vals := [], live := [(0, [0, 1, 29, 30, 31, 32, 33, 34, 35, 36, 37, 38, 39, 40]), (1, [0, 1, 10, 29, 30, 31, 32, 33, 34, 35, 36, 37, 38, 39, 40]), (2, [4]), (3, [0, 1, 5, 29, 30, 31, 32, 33, 34, 35, 36, 37, 38, 39, 40]), (4, [0, 1, 5, 14, 29, 30, 31, 32, 33, 34, 35, 36, 37, 38, 39, 40]), (5, [0, 1, 5, 29, 30, 31, 32, 33, 34, 35, 36, 37, 38, 39, 40]), (6, [0, 1, 5, 29, 30, 31, 32, 33, 34, 35, 36, 37, 38, 39, 40, 41]), (7, [4]), (8, [4])] }
noncomputable def pleachref7_SameClusters_B1 (L1 : (List ((List Int) × Int)) → (List ((List Int) × Int)) → Int → Option ((Bool × Unit) × Unit)) (v1 : List ((List Int) × Int)) (v2 : List ((List Int) × Int)) (v3 : Int) : Option ((Bool × Unit) × Unit) :=
 bif decide (v3 < (v1.length : Int)) then
  bif decide (0 ≤ v3) && decide (v3 < (v1.length : Int)) then
   bif decide (0 ≤ v3) && decide (v3 < (v2.length : Int)) then
    bif ((List.getD v1 v3.toNat ([], 0)).2) != ((List.getD v2 v3.toNat ([], 0)).2) then
     some ((false, ()), ())
    else
    bif decide (0 ≤ v3) && decide (v3 < (v1.length : Int)) then
     bif decide (0 ≤ v3) && decide (v3 < (v2.length : Int)) then
      Option.bind (pleachref1_SameInts ((List.getD v1 v3.toNat ([], 0)).1) ((List.getD v2 v3.toNat ([], 0)).1)) fun (r4 : (Bool × Unit) × Unit) =>
      bif !r4.1.1 then
       some ((false, ()), ())
      else
       L1 v1 v2 (IntKind.wrap .i64 (v3 + 1))
     else none
    else none
   else none
  else none
 else
  some ((true, ()), ())
noncomputable def pleachref7_SameClusters_T (L1 : (List ((List Int) × Int)) → (List ((List Int) × Int)) → Int → Option ((Bool × Unit) × Unit)) (a_0 : List ((List Int) × Int)) (b_1 : List ((List Int) × Int)) : Option ((Bool × Unit) × Unit) :=
 bif (a_0.length : Int) != (b_1.length : Int) then
  some ((false, ()), ())
 else
  L1 a_0 b_1 0
noncomputable def pleachref7_SameClusters_L1 (n : Nat) : Nat → (List ((List Int) × Int)) → (List ((List Int) × Int)) → Int → Option ((Bool × Unit) × Unit) := iter (fun _ _ _ => none) fun L => pleachref7_SameClusters_B1 L
noncomputable def pleachref7_SameClusters_X1 (n m : Nat) (v1 : List ((List Int) × Int)) (v2 : List ((List Int) × Int)) (v3 : Int) : Option ((Bool × Unit) × Unit) :=
 atLoop pleachref7_SameClusters_Γ tab (fiB [.val t37, .val t37] pleachref7_SameClusters_fi) n [.val t37, .val t37] [⟨t4, [false], none⟩] Try.f23 [1, 1, 0, 1, 0] [] [0, 1, 5] m
 ⟨[(0, SV.cv (CV.one (LV.pure t37 v1))), (1, SV.cv (CV.one (LV.pure t37 v2))), (5, SV.cv (CV.one (LV.pure t2 v3)))],
  []⟩
theorem pleachref7_SameClusters_step1 (n m : Nat) (v1 : List ((List Int) × Int)) (v2 : List ((List Int) × Int)) (v3 : Int) : pleachref7_SameClusters_X1 n (m + 1) v1 v2 v3 = pleachref7_SameClusters_B1 (pleachref7_SameClusters_X1 n m) v1 v2 v3 := by kernel_rfl
theorem pleachref7_SameClusters_start (n : Nat) (a_0 : List ((List Int) × Int)) (b_1 : List ((List Int) × Int)) : evFn pleachref7_SameClusters_Γ tab pleachref7_SameClusters_fi n [.val t37, .val t37] [⟨t4, [false], none⟩] Try.f23 (a_0, b_1, ()) = pleachref7_SameClusters_T (pleachref7_SameClusters_X1 n n) a_0 b_1 := by kernel_rfl
theorem pleachref7_SameClusters_XL1 (n : Nat) : ∀ m, pleachref7_SameClusters_X1 n m = pleachref7_SameClusters_L1 n m
 | 0 => rfl
 | m + 1 => by
  have ih := pleachref7_SameClusters_XL1 n m
  funext v1 v2 v3
  rw [pleachref7_SameClusters_step1, ih]
  rfl
noncomputable def pleachref7_SameClusters_n (n : Nat) (a_0 : List ((List Int) × Int)) (b_1 : List ((List Int) × Int)) : Option ((Bool × Unit) × Unit) := pleachref7_SameClusters_T (pleachref7_SameClusters_L1 n n) a_0 b_1
noncomputable def pleachref7_SameClusters (a_0 : List ((List Int) × Int)) (b_1 : List ((List Int) × Int)) : Option ((Bool × Unit) × Unit) := pleachref7_SameClusters_n 1099511627776 a_0 b_1
theorem pleachref7_SameClusters_eq (n : Nat) (a_0 : List ((List Int) × Int)) (b_1 : List ((List Int) × Int)) : evFn pleachref7_SameClusters_Γ tab pleachref7_SameClusters_fi n [.val t37, .val t37] [⟨t4, [false], none⟩] Try.f23 (a_0, b_1, ()) = pleachref7_SameClusters_n n a_0 b_1 := by
  rw [pleachref7_SameClusters_start, pleachref7_SameClusters_XL1 n n]
  rfl
noncomputable def pleachref7_SameClusters_e : Ent := ⟨[.val t37, .val t37], [⟨t4, [false], none⟩], fun x => pleachref7_SameClusters x.1 x.2.1⟩
theorem pleachref7_SameClusters_good : Good tab.ty Try.prog 23 pleachref7_SameClusters_e := by
  refine fn_good (Γ := pleachref7_SameClusters_Γ) (fi := pleachref7_SameClusters_fi) (n := 1099511627776) follows (gcons pleachref1_SameInts_good gnil) tabok Try.func23 (by kernel_rfl) (by kernel_rfl) (fun x r h => ?_)
  obtain ⟨a_0, b_1, _u⟩ := x
  exact (pleachref7_SameClusters_eq 1099511627776 a_0 b_1).trans h
noncomputable def pleachref7_SameHier_Γ : Ctx := [(23, pleachref7_SameClusters_e), (73, pleachref1_SameDist_e)]
def pleachref7_SameHier_fi : Fi := { keep := [], vty := [], vals := [], live := [(0, [2, 3, 12, 13, 14, 15, 16, 17, 20, 21, 22, 23, 24, 25, 26]), (1, [2, 3, 27]), (2, [4]), (3, [2, 3, 5]), (4, [2, 3, 5, 32]), (5, [2, 3, 5]), (6, [2, 3, 5, 46]), (7, [4]), (8, [4])] }
noncomputable def pleachref7_SameHier_B1 (L1 : Int → Int → List (List Int) → (List (List ((List Int) × Int))) → Int → List (List Int) → (List (List ((List Int) × Int))) → Option ((Bool × Unit) × Unit)) (v2 : Int) (v3 : Int) (v4 : List (List Int)) (v5 : List (List ((List Int) × Int))) (v6 : Int) (v7 : List (List Int)) (v8 : List (List ((List Int) × Int))) : Option ((Bool × Unit) × Unit) :=
 bif decide (v2 < (v5.length : Int)) then
  bif decide (0 ≤ v2) && decide (v2 < (v5.length : Int)) then
   bif decide (0 ≤ v2) && decide (v2 < (v8.length : Int)) then
    Option.bind (pleachref7_SameClusters (List.getD v5 v2.toNat []) (List.getD v8 v2.toNat [])) fun (r9 : (Bool × Unit) × Unit) =>
    bif !r9.1.1 then
     some ((false, ()), ())
    else
     L1 (IntKind.wrap .i64 (v2 + 1)) v3 v4 v5 v6 v7 v8
   else none
  else none
 else
  some ((true, ()), ())
noncomputable def pleachref7_SameHier_T (L1 : Int → Int → List (List Int) → (List (List ((List Int) × Int))) → Int → List (List Int) → (List (List ((List Int) × Int))) → Option ((Bool × Unit) × Unit)) (a_0 : Int × (List (List Int)) × List (List ((List Int) × Int))) (b_1 : Int × (List (List Int)) × List (List ((List Int) × Int))) : Option ((Bool × Unit) × Unit) :=
 bif a_0.1 != b_1.1 then
  some ((false, ()), ())
 else
  Option.bind (pleachref1_SameDist a_0.2.1 b_1.2.1) fun (r1 : (Bool × Unit) × Unit) =>
  bif !r1.1.1 then
   some ((false, ()), ())
  else
  bif (a_0.2.2.length : Int) != (b_1.2.2.length : Int) then
   some ((false, ()), ())
  else
   L1 0 a_0.1 a_0.2.1 a_0.2.2 b_1.1 b_1.2.1 b_1.2.2
noncomputable def pleachref7_SameHier_L1 (n : Nat) : Nat → Int → Int → List (List Int) → (List (List ((List Int) × Int))) → Int → List (List Int) → (List (List ((List Int) × Int))) → Option ((Bool × Unit) × Unit) := iter (fun _ _ _ _ _ _ _ => none) fun L => pleachref7_SameHier_B1 L
noncomputable def pleachref7_SameHier_X1 (n m : Nat) (v2 : Int) (v3 : Int) (v4 : List (List Int)) (v5 : List (List ((List Int) × Int))) (v6 : Int) (v7 : List (List Int)) (v8 : List (List ((List Int) × Int))) : Option ((Bool × Unit) × Unit) :=
 atLoop pleachref7_SameHier_Γ tab (fiB [.val t54, .val t54] pleachref7_SameHier_fi) n [.val t54, .val t54] [⟨t4, [false], none⟩] Try.f42 [1, 1, 0, 1, 0] [] [2, 3, 5] m
 ⟨[(2, SV.cv (CV.one (LV.ptr (2, 0) 0))), (3, SV.cv (CV.one (LV.ptr (3, 0) 0))), (5, SV.cv (CV.one (LV.pure t2 v2)))],
  [((2, 0), Ob.box 55 [LV.pure t2 v3, LV.pure t24 v4, LV.pure t53 v5]), ((3, 0), Ob.box 55 [LV.pure t2 v6, LV.pure t24 v7, LV.pure t53 v8])]⟩
theorem pleachref7_SameHier_step1 (n m : Nat) (v2 : Int) (v3 : Int) (v4 : List (List Int)) (v5 : List (List ((List Int) × Int))) (v6 : Int) (v7 : List (List Int)) (v8 : List (List ((List Int) × Int))) : pleachref7_SameHier_X1 n (m + 1) v2 v3 v4 v5 v6 v7 v8 = pleachref7_SameHier_B1 (pleachref7_SameHier_X1 n m) v2 v3 v4 v5 v6 v7 v8 := by kernel_rfl
theorem pleachref7_SameHier_start (n : Nat) (a_0 : Int × (List (List Int)) × List (List ((List Int) × Int))) (b_1 : Int × (List (List Int)) × List (List ((List Int) × Int))) : evFn pleachref7_SameHier_Γ tab pleachref7_SameHier_fi n [.val t54, .val t54] [⟨t4, [false], none⟩] Try.f42 (a_0, b_1, ()) = pleachref7_SameHier_T (pleachref7_SameHier_X1 n n) a_0 b_1 := by kernel_rfl
theorem pleachref7_SameHier_XL1 (n : Nat) : ∀ m, pleachref7_SameHier_X1 n m = pleachref7_SameHier_L1 n m
 | 0 => rfl
 | m + 1 => by
  have ih := pleachref7_SameHier_XL1 n m
  funext v2 v3 v4 v5 v6 v7 v8
  rw [pleachref7_SameHier_step1, ih]
  rfl
noncomputable def pleachref7_SameHier_n (n : Nat) (a_0 : Int × (List (List Int)) × List (List ((List Int) × Int))) (b_1 : Int × (List (List Int)) × List (List ((List Int) × Int))) : Option ((Bool × Unit) × Unit) := pleachref7_SameHier_T (pleachref7_SameHier_L1 n n) a_0 b_1
noncomputable def pleachref7_SameHier (a_0 : Int × (List (List Int)) × List (List ((List Int) × Int))) (b_1 : Int × (List (List Int)) × List (List ((List Int) × Int))) : Option ((Bool × Unit) × Unit) := pleachref7_SameHier_n 1099511627776 a_0 b_1
theorem pleachref7_SameHier_eq (n : Nat) (a_0 : Int × (List (List Int)) × List (List ((List Int) × Int))) (b_1 : Int × (List (List Int)) × List (List ((List Int) × Int))) : evFn pleachref7_SameHier_Γ tab pleachref7_SameHier_fi n [.val t54, .val t54] [⟨t4, [false], none⟩] Try.f42 (a_0, b_1, ()) = pleachref7_SameHier_n n a_0 b_1 := by
  rw [pleachref7_SameHier_start, pleachref7_SameHier_XL1 n n]
  rfl
noncomputable def pleachref7_SameHier_e : Ent := ⟨[.val t54, .val t54], [⟨t4, [false], none⟩], fun x => pleachref7_SameHier x.1 x.2.1⟩
theorem pleachref7_SameHier_good : Good tab.ty Try.prog 42 pleachref7_SameHier_e := by
  refine fn_good (Γ := pleachref7_SameHier_Γ) (fi := pleachref7_SameHier_fi) (n := 1099511627776) follows (gcons pleachref7_SameClusters_good (gcons pleachref1_SameDist_good gnil)) tabok Try.func42 (by kernel_rfl) (by kernel_rfl) (fun x r h => ?_)
  obtain ⟨a_0, b_1, _u⟩ := x
  exact (pleachref7_SameHier_eq 1099511627776 a_0 b_1).trans h
noncomputable def pleachlaw9_HierAlone_Γ : Ctx := [(15, pleachmade_Made_e), (16, pleachmade_Picks_Dist_e), (36, pleachlaw9_begun_e), (37, hier_New_e), (38, hier_Join_e), (39, hier_Ask_e), (40, hier_May_e), (41, hier_Leave_e), (42, pleachref7_SameHier_e)]
def pleachlaw9_HierAlone_fi : Fi := { keep := [], vty := [], vals := [], live := [(0, [0, 1, 2, 3, 50, 51, 52, 53, 56, 57, 58, 59, 60, 61, 64, 65, 66, 67, 68, 69, 70, 71, 72, 75, 76, 77, 78, 81, 82, 83, 84, 87, 88, 89, 92, 93, 94, 112, 113, 114, 115, 116, 117, 118, 119, 120]), (1, [0, 1, 2, 3, 18, 50, 51, 52, 53, 56, 57, 58, 59, 60, 61, 64, 65, 66, 67, 68, 69, 70, 71, 72, 75, 76, 77, 78, 81, 82, 83, 84, 87, 88, 89, 92, 93, 94, 112, 113, 114, 115, 116, 117, 118, 119, 120]), (2, [8]), (3, [0, 1, 2, 3, 21, 50, 51, 52, 53, 56, 57, 58, 59, 60, 61, 64, 65, 66, 67, 68, 69, 70, 71, 72, 75, 76, 77, 78, 81, 82, 83, 84, 87, 88, 89, 92, 93, 94, 112, 113, 114, 115, 116, 117, 118, 119, 120]), (4, [8]), (5, [1, 2, 9, 10, 50, 51, 52, 53, 56, 57, 58, 59, 60, 61, 64, 65, 66, 67, 68, 69, 70, 71, 72, 75, 76, 77, 78, 81, 82, 83, 84, 87, 88, 89, 92, 93, 94, 112, 113, 114, 115, 116, 117, 118, 119, 120]), (6, [9, 10, 11, 12, 50, 51, 52, 53, 56, 57, 58, 59, 60, 61, 64, 65, 66, 67, 68, 69, 70, 71, 72, 75, 76, 77, 78, 81, 82, 83, 84, 87, 88, 89, 92, 93, 94, 112, 113, 114, 115, 116, 117, 118, 119, 120]), (7, [10, 11, 12, 13, 50, 51, 52, 53, 56, 57, 58, 59, 60, 61, 64, 65, 66, 67, 68, 69, 70, 71, 72, 75, 76, 77, 78, 81, 82, 83, 84, 87, 88, 89, 92, 93, 94, 112, 113, 114, 115, 116, 117, 118, 119, 120]), (8, [10, 11, 12, 13, 14, 50, 51, 52, 53, 56, 57, 58, 59, 60, 61, 64, 65, 66, 67, 68, 69, 70, 71, 72, 75, 76, 77, 78, 81, 82, 83, 84, 87, 88, 89, 92, 93, 94, 112, 113, 114, 115, 116, 117, 118, 119, 120]), (9, [11, 12, 13, 95, 112, 113, 114, 115, 116, 117, 118, 119, 120]), (10, [8]), (11, [11, 12, 13, 15, 112, 113, 114, 115, 116, 117, 118, 119, 120]), (12, [11, 12, 13, 15, 16, 112, 113, 114, 115, 116, 117, 118, 119, 120]), (13, [11, 12, 13, 15, 16, 104, 112, 113, 114, 115, 116, 117, 118, 119, 120]), (14, [8]), (15, [8])] }
noncomputable def pleachlaw9_HierAlone (picks_0 : List Int) (a_1 : Int) (b_2 : Int) (least_3 : Int) : Option ((Bool × Unit) × Unit) :=
 Option.bind (pleachlaw9_begun) fun (r1 : (Bool × Unit) × Unit) =>
 bif !r1.1.1 then
  some ((false, ()), ())
 else
 bif decide ((picks_0.length : Int) > 30) then
  some ((true, ()), ())
 else
  Option.bind (pleachmade_Made picks_0) fun (r2 : (((List Int) × Int) × Unit) × Unit) =>
  Option.bind (pleachmade_Picks_Dist r2.1.1) fun (r3 : ((List (List Int)) × Unit) × (((List Int) × Int) × Unit)) =>
  Option.bind (hier_New r3.1.1 (IntKind.wrap .i64 (1 + (IntKind.wrap .i64 (Int.tmod least_3 3))))) fun (r4 : ((Int × (List (List Int)) × List (List ((List Int) × Int))) × Bool × Unit) × Unit) =>
  Option.bind (hier_Join r4.1.1 (IntKind.wrap .i64 (1 + (IntKind.wrap .i64 (Int.tmod a_1 8))))) fun (r5 : ((Int × (List (List Int)) × List (List ((List Int) × Int))) × Unit) × Unit) =>
  Option.bind (hier_Leave r5.1.1 (IntKind.wrap .i64 (1 + (IntKind.wrap .i64 (Int.tmod a_1 8))))) fun (r6 : ((Int × (List (List Int)) × List (List ((List Int) × Int))) × Unit) × Unit) =>
  bif !r4.1.2.1 then
   some ((false, ()), ())
  else
  bif (r5.1.1.2.2.length : Int) != 1 then
   some ((false, ()), ())
  else
  bif decide (0 < (r5.1.1.2.2.length : Int)) then
   bif ((List.getD r5.1.1.2.2 0 []).length : Int) != 1 then
    some ((false, ()), ())
   else
   bif decide (0 < (r5.1.1.2.2.length : Int)) then
    bif decide (0 < ((List.getD r5.1.1.2.2 0 []).length : Int)) then
     bif ((List.getD (List.getD r5.1.1.2.2 0 []) 0 ([], 0)).2) != (IntKind.wrap .i64 (1 + (IntKind.wrap .i64 (Int.tmod a_1 8)))) then
      some ((false, ()), ())
     else
     bif (r6.1.1.2.2.length : Int) != 0 then
      some ((false, ()), ())
     else
      Option.bind (hier_Ask r5.1.1 (IntKind.wrap .i64 (1 + (IntKind.wrap .i64 (Int.tmod a_1 8))))) fun (r7 : (Int × Unit) × Unit) =>
      bif r7.1.1 != 0 then
       some ((false, ()), ())
      else
       Option.bind (hier_May r5.1.1) fun (r8 : (Bool × Unit) × Unit) =>
       bif !r8.1.1 then
        some ((false, ()), ())
       else
        Option.bind (hier_May r6.1.1) fun (r9 : (Bool × Unit) × Unit) =>
        bif !r9.1.1 then
         some ((false, ()), ())
        else
         Option.bind (hier_Join r5.1.1 (IntKind.wrap .i64 (1 + (IntKind.wrap .i64 (Int.tmod b_2 8))))) fun (r10 : ((Int × (List (List Int)) × List (List ((List Int) × Int))) × Unit) × Unit) =>
         Option.bind (hier_Leave r10.1.1 (IntKind.wrap .i64 (1 + (IntKind.wrap .i64 (Int.tmod b_2 8))))) fun (r11 : ((Int × (List (List Int)) × List (List ((List Int) × Int))) × Unit) × Unit) =>
         bif (IntKind.wrap .i64 (1 + (IntKind.wrap .i64 (Int.tmod a_1 8)))) == (IntKind.wrap .i64 (1 + (IntKind.wrap .i64 (Int.tmod b_2 8)))) then
          Option.bind (pleachref7_SameHier r10.1.1 r5.1.1) fun (r12 : (Bool × Unit) × Unit) =>
          some ((r12.1.1, ()), ())
         else
          Option.bind (pleachref7_SameHier r11.1.1 r5.1.1) fun (r13 : (Bool × Unit) × Unit) =>
          bif r13.1.1 then
           Option.bind (hier_Ask r10.1.1 (IntKind.wrap .i64 (1 + (IntKind.wrap .i64 (Int.tmod a_1 8))))) fun (r14 : (Int × Unit) × Unit) =>
           Option.bind (hier_Ask r10.1.1 (IntKind.wrap .i64 (1 + (IntKind.wrap .i64 (Int.tmod b_2 8))))) fun (r15 : (Int × Unit) × Unit) =>
           some ((!((r14.1.1 == 0) == (r15.1.1 == 0)), ()), ())
          else
           some ((false, ()), ())
    else none
   else none
  else none
theorem pleachlaw9_HierAlone_eq (picks_0 : List Int) (a_1 : Int) (b_2 : Int) (least_3 : Int) : evFn pleachlaw9_HierAlone_Γ tab pleachlaw9_HierAlone_fi 1 [.val t22, .val t5, .val t5, .val t5] [⟨t4, [false], none⟩] Try.f12 (picks_0, a_1, b_2, least_3, ()) = pleachlaw9_HierAlone picks_0 a_1 b_2 least_3 := by kernel_rfl
noncomputable def pleachlaw9_HierAlone_e : Ent := ⟨[.val t22, .val t5, .val t5, .val t5], [⟨t4, [false], none⟩], fun x => pleachlaw9_HierAlone x.1 x.2.1 x.2.2.1 x.2.2.2.1⟩
theorem pleachlaw9_HierAlone_good : Good tab.ty Try.prog 12 pleachlaw9_HierAlone_e := by
  refine fn_good (Γ := pleachlaw9_HierAlone_Γ) (fi := pleachlaw9_HierAlone_fi) (n := 1) follows (gcons pleachmade_Made_good (gcons pleachmade_Picks_Dist_good (gcons pleachlaw9_begun_good (gcons hier_New_good (gcons hier_Join_good (gcons hier_Ask_good (gcons hier_May_good (gcons hier_Leave_good (gcons pleachref7_SameHier_good gnil))))))))) tabok Try.func12 (by kernel_rfl) (by kernel_rfl) (fun x r h => ?_)
  obtain ⟨picks_0, a_1, b_2, least_3, _u⟩ := x
  exact (pleachlaw9_HierAlone_eq picks_0 a_1 b_2 least_3).trans h
noncomputable def pleachref1_Has_Γ : Ctx := []
def pleachref1_Has_fi : Fi := { keep := [], vty := [], vals := [], live := [(0, [0, 1]), (1, [0, 1, 5]), (2, [0, 1, 5, 9]), (3, [0, 1, 5]), (4, [0, 1, 5, 17]), (5, [4]), (6, [4])] }
noncomputable def pleachref1_Has_B1 (L1 : List Int → Int → Int → Option ((Bool × Unit) × Unit)) (v1 : List Int) (v2 : Int) (v3 : Int) : Option ((Bool × Unit) × Unit) :=
 bif decide (v3 < (v1.length : Int)) then
  bif decide (0 ≤ v3) && decide (v3 < (v1.length : Int)) then
   bif (List.getD v1 v3.toNat 0) == v2 then
    some ((true, ()), ())
   else
    L1 v1 v2 (IntKind.wrap .i64 (v3 + 1))
  else none
 else
  some ((false, ()), ())
noncomputable def pleachref1_Has_T (L1 : List Int → Int → Int → Option ((Bool × Unit) × Unit)) (p_0 : List Int) (id_1 : Int) : Option ((Bool × Unit) × Unit) :=
 L1 p_0 id_1 0
noncomputable def pleachref1_Has_L1 (n : Nat) : Nat → List Int → Int → Int → Option ((Bool × Unit) × Unit) := iter (fun _ _ _ => none) fun L => pleachref1_Has_B1 L
noncomputable def pleachref1_Has_X1 (n m : Nat) (v1 : List Int) (v2 : Int) (v3 : Int) : Option ((Bool × Unit) × Unit) :=
 atLoop pleachref1_Has_Γ tab (fiB [.val t28, .val t2] pleachref1_Has_fi) n [.val t28, .val t2] [⟨t4, [false], none⟩] Try.f35 [1, 0, 1, 0] [] [0, 1, 5] m
 ⟨[(0, SV.cv (CV.one (LV.pure t28 v1))), (1, SV.cv (CV.one (LV.pure t2 v2))), (5, SV.cv (CV.one (LV.pure t2 v3)))],
  []⟩
theorem pleachref1_Has_step1 (n m : Nat) (v1 : List Int) (v2 : Int) (v3 : Int) : pleachref1_Has_X1 n (m + 1) v1 v2 v3 = pleachref1_Has_B1 (pleachref1_Has_X1 n m) v1 v2 v3 := by kernel_rfl
theorem pleachref1_Has_start (n : Nat) (p_0 : List Int) (id_1 : Int) : evFn pleachref1_Has_Γ tab pleachref1_Has_fi n [.val t28, .val t2] [⟨t4, [false], none⟩] Try.f35 (p_0, id_1, ()) = pleachref1_Has_T (pleachref1_Has_X1 n n) p_0 id_1 := by kernel_rfl
theorem pleachref1_Has_XL1 (n : Nat) : ∀ m, pleachref1_Has_X1 n m = pleachref1_Has_L1 n m
 | 0 => rfl
 | m + 1 => by
  have ih := pleachref1_Has_XL1 n m
  funext v1 v2 v3
  rw [pleachref1_Has_step1, ih]
  rfl
noncomputable def pleachref1_Has_n (n : Nat) (p_0 : List Int) (id_1 : Int) : Option ((Bool × Unit) × Unit) := pleachref1_Has_T (pleachref1_Has_L1 n n) p_0 id_1
noncomputable def pleachref1_Has (p_0 : List Int) (id_1 : Int) : Option ((Bool × Unit) × Unit) := pleachref1_Has_n 1099511627776 p_0 id_1
theorem pleachref1_Has_eq (n : Nat) (p_0 : List Int) (id_1 : Int) : evFn pleachref1_Has_Γ tab pleachref1_Has_fi n [.val t28, .val t2] [⟨t4, [false], none⟩] Try.f35 (p_0, id_1, ()) = pleachref1_Has_n n p_0 id_1 := by
  rw [pleachref1_Has_start, pleachref1_Has_XL1 n n]
  rfl
noncomputable def pleachref1_Has_e : Ent := ⟨[.val t28, .val t2], [⟨t4, [false], none⟩], fun x => pleachref1_Has x.1 x.2.1⟩
theorem pleachref1_Has_good : Good tab.ty Try.prog 35 pleachref1_Has_e := by
  refine fn_good (Γ := pleachref1_Has_Γ) (fi := pleachref1_Has_fi) (n := 1099511627776) follows gnil tabok Try.func35 (by kernel_rfl) (by kernel_rfl) (fun x r h => ?_)
  obtain ⟨p_0, id_1, _u⟩ := x
  exact (pleachref1_Has_eq 1099511627776 p_0 id_1).trans h
end Go.PE
