/-
  Functions of the program, each as the evaluator answers it, and its contract.
  Conditions: none.
-/
import Derived.Test.YtkkpafhoiofaiaaGreatTruthFormsF2
set_option linter.unusedVariables false
set_option maxRecDepth 100000
namespace Go.PE
open Go.Proofs

noncomputable def pleachref19_served_Γ : Ctx := [(89, pleachref19_says_e), (133, pleachref13_Serves_e)]
def pleachref19_served_fi : Fi := { keep := [], vty := [(7, 89)], vals := [], live := [(0, [3, 4, 5]), (1, [3, 4, 5, 7]), (2, [3, 5, 7, 8, 9]), (3, [3, 5, 7, 8, 9, 10]), (4, [3, 5, 7, 8, 9, 10, 26]), (5, [3, 5, 7, 8, 9, 10]), (6, [3, 5, 7, 8, 9, 10, 11]), (7, [3, 5, 7, 8, 9, 10, 11]), (8, [3, 5, 7, 8, 9, 10]), (9, [3, 5, 7, 9, 12]), (10, [3, 5, 7, 9, 12, 52]), (11, [3, 5, 7, 9, 12]), (12, [3, 5, 7, 9, 12, 13]), (13, [3, 5, 7, 9, 12, 13]), (14, [3, 5, 7, 9, 12]), (15, [6])] }
noncomputable def pleachref19_served_B1 (L1 : Int → Int → Int → Int → Int → Int → Int → List Int → Int → Int → Int → Int → Int → (List (Int × Int × Int)) → Int → Int → Int → Int → Int → Int → List Int → Int → Int → ByteArray → (List (Int × Int × Int × Int × Int × Int × (List Int) × Int × Int × ByteArray)) → (List (Int × ByteArray)) → (List (Int × Int)) → Option (((List (Int × Int × Int × Int × Int × Int × (List Int) × Int × Int × ByteArray)) × Unit) × Unit)) (L2 : Int → Int → Int → Int → Int → Int → Int → List Int → Int → Int → Int → Int → Int → (List (Int × Int × Int)) → Int → Int → Int → Int → Int → Int → List Int → Int → Int → ByteArray → (List (Int × Int × Int × Int × Int × Int × (List Int) × Int × Int × ByteArray)) → (List (Int × Int)) → Option (((List (Int × Int × Int × Int × Int × Int × (List Int) × Int × Int × ByteArray)) × Unit) × Unit)) (v2 : Int) (v3 : Int) (v4 : Int) (v5 : Int) (v6 : Int) (v7 : Int) (v8 : Int) (v9 : List Int) (v10 : Int) (v11 : Int) (v12 : Int) (v13 : Int) (v14 : Int) (v15 : List (Int × Int × Int)) (v16 : Int) (v17 : Int) (v18 : Int) (v19 : Int) (v20 : Int) (v21 : Int) (v22 : List Int) (v23 : Int) (v24 : Int) (v25 : ByteArray) (v26 : List (Int × Int × Int × Int × Int × Int × (List Int) × Int × Int × ByteArray)) (v27 : List (Int × ByteArray)) (v28 : List (Int × Int)) : Option (((List (Int × Int × Int × Int × Int × Int × (List Int) × Int × Int × ByteArray)) × Unit) × Unit) :=
 bif decide (v2 < (v27.length : Int)) then
  Option.bind (pleachref19_says (v3, v4, v5, v6, v7, v8, v9, v10, v11, v12, v13, v14, v15) 7 v17) fun (r29 : ((Int × Int × Int × Int × Int × Int × (List Int) × Int × Int × ByteArray) × Unit) × Unit) =>
  bif decide (0 ≤ v2) && decide (v2 < (v27.length : Int)) then
   bif decide (0 ≤ v2) && decide (v2 < (v27.length : Int)) then
    bif decide (0 ≤ v2) && decide (v2 < (v27.length : Int)) then
     bif decide (0 ≤ v2) && decide (v2 < (v27.length : Int)) then
      bif Nat.ble (v26.length + 1) 1073741824 then
       L1 (IntKind.wrap .i64 (v2 + 1)) v3 v4 v5 v6 v7 v8 v9 v10 v11 v12 v13 v14 v15 v16 v17 v18 v19 v20 v21 v22 v23 v24 v25 (v26 ++ [(r29.1.1.1, r29.1.1.2.1, r29.1.1.2.2.1, r29.1.1.2.2.2.1, r29.1.1.2.2.2.2.1, r29.1.1.2.2.2.2.2.1, r29.1.1.2.2.2.2.2.2.1, (List.getD v27 v2.toNat (0, (⟨#[]⟩ : ByteArray))).1, r29.1.1.2.2.2.2.2.2.2.2.1, (List.getD v27 v2.toNat (0, (⟨#[]⟩ : ByteArray))).2)]) v27 v28
      else none
     else none
    else none
   else none
  else none
 else
  L2 0 v3 v4 v5 v6 v7 v8 v9 v10 v11 v12 v13 v14 v15 v16 v17 v18 v19 v20 v21 v22 v23 v24 v25 v26 v28
noncomputable def pleachref19_served_B2 (L2 : Int → Int → Int → Int → Int → Int → Int → List Int → Int → Int → Int → Int → Int → (List (Int × Int × Int)) → Int → Int → Int → Int → Int → Int → List Int → Int → Int → ByteArray → (List (Int × Int × Int × Int × Int × Int × (List Int) × Int × Int × ByteArray)) → (List (Int × Int)) → Option (((List (Int × Int × Int × Int × Int × Int × (List Int) × Int × Int × ByteArray)) × Unit) × Unit)) (v30 : Int) (v31 : Int) (v32 : Int) (v33 : Int) (v34 : Int) (v35 : Int) (v36 : Int) (v37 : List Int) (v38 : Int) (v39 : Int) (v40 : Int) (v41 : Int) (v42 : Int) (v43 : List (Int × Int × Int)) (v44 : Int) (v45 : Int) (v46 : Int) (v47 : Int) (v48 : Int) (v49 : Int) (v50 : List Int) (v51 : Int) (v52 : Int) (v53 : ByteArray) (v54 : List (Int × Int × Int × Int × Int × Int × (List Int) × Int × Int × ByteArray)) (v55 : List (Int × Int)) : Option (((List (Int × Int × Int × Int × Int × Int × (List Int) × Int × Int × ByteArray)) × Unit) × Unit) :=
 bif decide (v30 < (v55.length : Int)) then
  Option.bind (pleachref19_says (v31, v32, v33, v34, v35, v36, v37, v38, v39, v40, v41, v42, v43) 9 v45) fun (r56 : ((Int × Int × Int × Int × Int × Int × (List Int) × Int × Int × ByteArray) × Unit) × Unit) =>
  bif decide (0 ≤ v30) && decide (v30 < (v55.length : Int)) then
   bif decide (0 ≤ v30) && decide (v30 < (v55.length : Int)) then
    bif decide (0 ≤ v30) && decide (v30 < (v55.length : Int)) then
     bif decide (0 ≤ v30) && decide (v30 < (v55.length : Int)) then
      bif Nat.ble (v54.length + 1) 1073741824 then
       L2 (IntKind.wrap .i64 (v30 + 1)) v31 v32 v33 v34 v35 v36 v37 v38 v39 v40 v41 v42 v43 v44 v45 v46 v47 v48 v49 v50 v51 v52 v53 (v54 ++ [(r56.1.1.1, r56.1.1.2.1, r56.1.1.2.2.1, r56.1.1.2.2.2.1, r56.1.1.2.2.2.2.1, r56.1.1.2.2.2.2.2.1, r56.1.1.2.2.2.2.2.2.1, (List.getD v55 v30.toNat (0, 0)).1, (List.getD v55 v30.toNat (0, 0)).2, r56.1.1.2.2.2.2.2.2.2.2.2)]) v55
      else none
     else none
    else none
   else none
  else none
 else
  some ((v54, ()), ())
noncomputable def pleachref19_served_T (L1 : Int → Int → Int → Int → Int → Int → Int → List Int → Int → Int → Int → Int → Int → (List (Int × Int × Int)) → Int → Int → Int → Int → Int → Int → List Int → Int → Int → ByteArray → (List (Int × Int × Int × Int × Int × Int × (List Int) × Int × Int × ByteArray)) → (List (Int × ByteArray)) → (List (Int × Int)) → Option (((List (Int × Int × Int × Int × Int × Int × (List Int) × Int × Int × ByteArray)) × Unit) × Unit)) (t_0 : Int × Int × Int × Int × Int × Int × (List Int) × Int × Int × Int × Int × Int × List (Int × Int × Int)) (f_1 : Int × Int × (List (Int × ByteArray)) × (List (Int × ByteArray)) × (List (Int × Int × Int × ByteArray × Int)) × Int × Int) (m_2 : Int × Int × Int × Int × Int × Int × (List Int) × Int × Int × ByteArray) : Option (((List (Int × Int × Int × Int × Int × Int × (List Int) × Int × Int × ByteArray)) × Unit) × Unit) :=
 Option.bind (pleachref13_Serves f_1 m_2.2.2.2.2.2.2.2.1 m_2.2.2.2.2.2.2.2.2.1) fun (r1 : ((List (Int × ByteArray)) × (List (Int × Int)) × Unit) × Unit) =>
 L1 0 t_0.1 t_0.2.1 t_0.2.2.1 t_0.2.2.2.1 t_0.2.2.2.2.1 t_0.2.2.2.2.2.1 t_0.2.2.2.2.2.2.1 t_0.2.2.2.2.2.2.2.1 t_0.2.2.2.2.2.2.2.2.1 t_0.2.2.2.2.2.2.2.2.2.1 t_0.2.2.2.2.2.2.2.2.2.2.1 t_0.2.2.2.2.2.2.2.2.2.2.2.1 t_0.2.2.2.2.2.2.2.2.2.2.2.2 m_2.1 m_2.2.1 m_2.2.2.1 m_2.2.2.2.1 m_2.2.2.2.2.1 m_2.2.2.2.2.2.1 m_2.2.2.2.2.2.2.1 m_2.2.2.2.2.2.2.2.1 m_2.2.2.2.2.2.2.2.2.1 m_2.2.2.2.2.2.2.2.2.2 [] r1.1.1 r1.1.2.1
noncomputable def pleachref19_served_L2 (n : Nat) : Nat → Int → Int → Int → Int → Int → Int → Int → List Int → Int → Int → Int → Int → Int → (List (Int × Int × Int)) → Int → Int → Int → Int → Int → Int → List Int → Int → Int → ByteArray → (List (Int × Int × Int × Int × Int × Int × (List Int) × Int × Int × ByteArray)) → (List (Int × Int)) → Option (((List (Int × Int × Int × Int × Int × Int × (List Int) × Int × Int × ByteArray)) × Unit) × Unit) := iter (fun _ _ _ _ _ _ _ _ _ _ _ _ _ _ _ _ _ _ _ _ _ _ _ _ _ _ => none) fun L => pleachref19_served_B2 L
noncomputable def pleachref19_served_L1 (n : Nat) : Nat → Int → Int → Int → Int → Int → Int → Int → List Int → Int → Int → Int → Int → Int → (List (Int × Int × Int)) → Int → Int → Int → Int → Int → Int → List Int → Int → Int → ByteArray → (List (Int × Int × Int × Int × Int × Int × (List Int) × Int × Int × ByteArray)) → (List (Int × ByteArray)) → (List (Int × Int)) → Option (((List (Int × Int × Int × Int × Int × Int × (List Int) × Int × Int × ByteArray)) × Unit) × Unit) := iter (fun _ _ _ _ _ _ _ _ _ _ _ _ _ _ _ _ _ _ _ _ _ _ _ _ _ _ _ => none) fun L => pleachref19_served_B1 L (pleachref19_served_L2 n n)
noncomputable def pleachref19_served_X1 (n m : Nat) (v2 : Int) (v3 : Int) (v4 : Int) (v5 : Int) (v6 : Int) (v7 : Int) (v8 : Int) (v9 : List Int) (v10 : Int) (v11 : Int) (v12 : Int) (v13 : Int) (v14 : Int) (v15 : List (Int × Int × Int)) (v16 : Int) (v17 : Int) (v18 : Int) (v19 : Int) (v20 : Int) (v21 : Int) (v22 : List Int) (v23 : Int) (v24 : Int) (v25 : ByteArray) (v26 : List (Int × Int × Int × Int × Int × Int × (List Int) × Int × Int × ByteArray)) (v27 : List (Int × ByteArray)) (v28 : List (Int × Int)) : Option (((List (Int × Int × Int × Int × Int × Int × (List Int) × Int × Int × ByteArray)) × Unit) × Unit) :=
 atLoop pleachref19_served_Γ tab (fiB [.val t39, .val t45, .val t130] pleachref19_served_fi) n [.val t39, .val t45, .val t130] [⟨t89, [true], none⟩] Tryz.f105 [1, 1, 1, 0, 1, 0] [] [3, 5, 7, 8, 9, 10] m
 ⟨[(3, SV.cv (CV.one (LV.ptr (3, 0) 0))), (5, SV.cv (CV.one (LV.ptr (5, 0) 0))), (7, SV.cv (CV.one (LV.ref (888888, 7)))), (8, SV.cv (CV.one (LV.ref (888888, 8)))), (9, SV.cv (CV.one (LV.ref (888888, 9)))), (10, SV.cv (CV.one (LV.pure t2 v2)))],
  [((3, 0), Ob.box 40 [LV.pure t2 v3, LV.pure t2 v4, LV.pure t2 v5, LV.pure t2 v6, LV.pure t2 v7, LV.pure t2 v8, LV.pure t37 v9, LV.pure t2 v10, LV.pure t2 v11, LV.pure t2 v12, LV.pure t2 v13, LV.pure t2 v14, LV.pure t38 v15]), ((5, 0), Ob.box 131 [LV.pure t2 v16, LV.pure t2 v17, LV.pure t2 v18, LV.pure t2 v19, LV.pure t2 v20, LV.pure t2 v21, LV.pure t37 v22, LV.pure t2 v23, LV.pure t2 v24, LV.pure t9 v25]), ((888888, 7), Ob.row 131 t130 v26), ((888888, 8), Ob.row 153 t152 v27), ((888888, 9), Ob.row 63 t43 v28)]⟩
noncomputable def pleachref19_served_X2 (n m : Nat) (v30 : Int) (v31 : Int) (v32 : Int) (v33 : Int) (v34 : Int) (v35 : Int) (v36 : Int) (v37 : List Int) (v38 : Int) (v39 : Int) (v40 : Int) (v41 : Int) (v42 : Int) (v43 : List (Int × Int × Int)) (v44 : Int) (v45 : Int) (v46 : Int) (v47 : Int) (v48 : Int) (v49 : Int) (v50 : List Int) (v51 : Int) (v52 : Int) (v53 : ByteArray) (v54 : List (Int × Int × Int × Int × Int × Int × (List Int) × Int × Int × ByteArray)) (v55 : List (Int × Int)) : Option (((List (Int × Int × Int × Int × Int × Int × (List Int) × Int × Int × ByteArray)) × Unit) × Unit) :=
 atLoop pleachref19_served_Γ tab (fiB [.val t39, .val t45, .val t130] pleachref19_served_fi) n [.val t39, .val t45, .val t130] [⟨t89, [true], none⟩] Tryz.f105 [1, 1, 1, 1, 0, 1, 0] [] [3, 5, 7, 9, 12] m
 ⟨[(3, SV.cv (CV.one (LV.ptr (3, 0) 0))), (5, SV.cv (CV.one (LV.ptr (5, 0) 0))), (7, SV.cv (CV.one (LV.ref (888888, 7)))), (9, SV.cv (CV.one (LV.ref (888888, 9)))), (12, SV.cv (CV.one (LV.pure t2 v30)))],
  [((3, 0), Ob.box 40 [LV.pure t2 v31, LV.pure t2 v32, LV.pure t2 v33, LV.pure t2 v34, LV.pure t2 v35, LV.pure t2 v36, LV.pure t37 v37, LV.pure t2 v38, LV.pure t2 v39, LV.pure t2 v40, LV.pure t2 v41, LV.pure t2 v42, LV.pure t38 v43]), ((5, 0), Ob.box 131 [LV.pure t2 v44, LV.pure t2 v45, LV.pure t2 v46, LV.pure t2 v47, LV.pure t2 v48, LV.pure t2 v49, LV.pure t37 v50, LV.pure t2 v51, LV.pure t2 v52, LV.pure t9 v53]), ((888888, 7), Ob.row 131 t130 v54), ((888888, 9), Ob.row 63 t43 v55)]⟩
theorem pleachref19_served_step1 (n m : Nat) (v2 : Int) (v3 : Int) (v4 : Int) (v5 : Int) (v6 : Int) (v7 : Int) (v8 : Int) (v9 : List Int) (v10 : Int) (v11 : Int) (v12 : Int) (v13 : Int) (v14 : Int) (v15 : List (Int × Int × Int)) (v16 : Int) (v17 : Int) (v18 : Int) (v19 : Int) (v20 : Int) (v21 : Int) (v22 : List Int) (v23 : Int) (v24 : Int) (v25 : ByteArray) (v26 : List (Int × Int × Int × Int × Int × Int × (List Int) × Int × Int × ByteArray)) (v27 : List (Int × ByteArray)) (v28 : List (Int × Int)) : pleachref19_served_X1 n (m + 1) v2 v3 v4 v5 v6 v7 v8 v9 v10 v11 v12 v13 v14 v15 v16 v17 v18 v19 v20 v21 v22 v23 v24 v25 v26 v27 v28 = pleachref19_served_B1 (pleachref19_served_X1 n m) (pleachref19_served_X2 n n) v2 v3 v4 v5 v6 v7 v8 v9 v10 v11 v12 v13 v14 v15 v16 v17 v18 v19 v20 v21 v22 v23 v24 v25 v26 v27 v28 := by kernel_rfl
theorem pleachref19_served_step2 (n m : Nat) (v30 : Int) (v31 : Int) (v32 : Int) (v33 : Int) (v34 : Int) (v35 : Int) (v36 : Int) (v37 : List Int) (v38 : Int) (v39 : Int) (v40 : Int) (v41 : Int) (v42 : Int) (v43 : List (Int × Int × Int)) (v44 : Int) (v45 : Int) (v46 : Int) (v47 : Int) (v48 : Int) (v49 : Int) (v50 : List Int) (v51 : Int) (v52 : Int) (v53 : ByteArray) (v54 : List (Int × Int × Int × Int × Int × Int × (List Int) × Int × Int × ByteArray)) (v55 : List (Int × Int)) : pleachref19_served_X2 n (m + 1) v30 v31 v32 v33 v34 v35 v36 v37 v38 v39 v40 v41 v42 v43 v44 v45 v46 v47 v48 v49 v50 v51 v52 v53 v54 v55 = pleachref19_served_B2 (pleachref19_served_X2 n m) v30 v31 v32 v33 v34 v35 v36 v37 v38 v39 v40 v41 v42 v43 v44 v45 v46 v47 v48 v49 v50 v51 v52 v53 v54 v55 := by kernel_rfl
theorem pleachref19_served_start (n : Nat) (t_0 : Int × Int × Int × Int × Int × Int × (List Int) × Int × Int × Int × Int × Int × List (Int × Int × Int)) (f_1 : Int × Int × (List (Int × ByteArray)) × (List (Int × ByteArray)) × (List (Int × Int × Int × ByteArray × Int)) × Int × Int) (m_2 : Int × Int × Int × Int × Int × Int × (List Int) × Int × Int × ByteArray) : evFn pleachref19_served_Γ tab pleachref19_served_fi n [.val t39, .val t45, .val t130] [⟨t89, [true], none⟩] Tryz.f105 (t_0, f_1, m_2, ()) = pleachref19_served_T (pleachref19_served_X1 n n) t_0 f_1 m_2 := by kernel_rfl
theorem pleachref19_served_XL2 (n : Nat) : ∀ m, pleachref19_served_X2 n m = pleachref19_served_L2 n m
 | 0 => rfl
 | m + 1 => by
  have ih := pleachref19_served_XL2 n m
  funext v30 v31 v32 v33 v34 v35 v36 v37 v38 v39 v40 v41 v42 v43 v44 v45 v46 v47 v48 v49 v50 v51 v52 v53 v54 v55
  rw [pleachref19_served_step2, ih]
  rfl
theorem pleachref19_served_XL1 (n : Nat) : ∀ m, pleachref19_served_X1 n m = pleachref19_served_L1 n m
 | 0 => rfl
 | m + 1 => by
  have ih := pleachref19_served_XL1 n m
  funext v2 v3 v4 v5 v6 v7 v8 v9 v10 v11 v12 v13 v14 v15 v16 v17 v18 v19 v20 v21 v22 v23 v24 v25 v26 v27 v28
  rw [pleachref19_served_step1, pleachref19_served_XL2 n n, ih]
  rfl
noncomputable def pleachref19_served_n (n : Nat) (t_0 : Int × Int × Int × Int × Int × Int × (List Int) × Int × Int × Int × Int × Int × List (Int × Int × Int)) (f_1 : Int × Int × (List (Int × ByteArray)) × (List (Int × ByteArray)) × (List (Int × Int × Int × ByteArray × Int)) × Int × Int) (m_2 : Int × Int × Int × Int × Int × Int × (List Int) × Int × Int × ByteArray) : Option (((List (Int × Int × Int × Int × Int × Int × (List Int) × Int × Int × ByteArray)) × Unit) × Unit) := pleachref19_served_T (pleachref19_served_L1 n n) t_0 f_1 m_2
noncomputable def pleachref19_served (t_0 : Int × Int × Int × Int × Int × Int × (List Int) × Int × Int × Int × Int × Int × List (Int × Int × Int)) (f_1 : Int × Int × (List (Int × ByteArray)) × (List (Int × ByteArray)) × (List (Int × Int × Int × ByteArray × Int)) × Int × Int) (m_2 : Int × Int × Int × Int × Int × Int × (List Int) × Int × Int × ByteArray) : Option (((List (Int × Int × Int × Int × Int × Int × (List Int) × Int × Int × ByteArray)) × Unit) × Unit) := pleachref19_served_n 1099511627776 t_0 f_1 m_2
theorem pleachref19_served_eq (n : Nat) (t_0 : Int × Int × Int × Int × Int × Int × (List Int) × Int × Int × Int × Int × Int × List (Int × Int × Int)) (f_1 : Int × Int × (List (Int × ByteArray)) × (List (Int × ByteArray)) × (List (Int × Int × Int × ByteArray × Int)) × Int × Int) (m_2 : Int × Int × Int × Int × Int × Int × (List Int) × Int × Int × ByteArray) : evFn pleachref19_served_Γ tab pleachref19_served_fi n [.val t39, .val t45, .val t130] [⟨t89, [true], none⟩] Tryz.f105 (t_0, f_1, m_2, ()) = pleachref19_served_n n t_0 f_1 m_2 := by
  rw [pleachref19_served_start, pleachref19_served_XL1 n n]
  rfl
noncomputable def pleachref19_served_e : Ent := ⟨[.val t39, .val t45, .val t130], [⟨t89, [true], none⟩], fun x => pleachref19_served x.1 x.2.1 x.2.2.1⟩
theorem pleachref19_served_good : Good tab.ty Tryz.prog 105 pleachref19_served_e := by
  refine fn_good (Γ := pleachref19_served_Γ) (fi := pleachref19_served_fi) (n := 1099511627776) follows (gcons pleachref19_says_good (gcons pleachref13_Serves_good gnil)) tabok Tryz.func105 (by kernel_rfl) (by kernel_rfl) (fun x r h => ?_)
  obtain ⟨t_0, f_1, m_2, _u⟩ := x
  exact (pleachref19_served_eq 1099511627776 t_0 f_1 m_2).trans h
noncomputable def pleachref19_ComesNode_Γ : Ctx := [(71, pleachref19_down_e), (98, pleachref10_TakeMsg_e), (99, pleachref19_Comes_e), (100, pleachref13_Knows_e), (101, pleachref13_Begin_e), (102, pleachref13_Comes_e), (103, pleachref13_Notes_e), (104, pleachref1_Find_e), (105, pleachref19_served_e)]
def pleachref19_ComesNode_fi : Fi := { keep := [], vty := [(5, 89), (10, 89), (21, 22), (158, 89), (167, 89)], vals := [], live := [(0, [1, 2, 4, 28, 29, 30, 31, 32, 33, 66, 67, 68, 69, 70, 73, 74, 75, 76, 77, 84, 87, 88, 89, 90, 105, 116, 130, 152, 153, 154, 155, 156]), (1, [1, 2, 4, 18, 28, 29, 30, 31, 32, 33, 66, 67, 68, 69, 70, 73, 74, 75, 76, 77, 84, 87, 88, 89, 90, 105, 116, 130, 152, 153, 154, 155, 156]), (2, [4, 5]), (3, [2, 4, 6, 7, 28, 29, 30, 31, 32, 33, 66, 67, 68, 69, 70, 73, 74, 75, 76, 77, 84, 87, 88, 89, 90, 105, 116, 130, 152, 153, 154, 155, 156]), (4, [2, 4, 6, 34, 66, 67, 68, 69, 70, 73, 74, 75, 76, 77, 84, 87, 88, 89, 90, 105, 116, 130, 152, 153, 154, 155, 156]), (5, [2, 4]), (6, [4, 5]), (7, [2, 4, 6, 8, 66, 67, 68, 69, 70, 73, 74, 75, 76, 77, 84, 87, 88, 89, 90, 105, 116, 130, 152, 153, 154, 155, 156]), (8, [2, 4, 6, 8, 9, 10, 66, 67, 68, 69, 70, 73, 74, 75, 76, 77, 84, 87, 88, 89, 90, 105, 116, 130, 152, 153, 154, 155, 156]), (9, [2, 4, 6, 8, 9, 10, 66, 67, 68, 69, 70, 73, 74, 75, 76, 77, 84, 87, 88, 89, 90, 105, 116, 130, 152, 153, 154, 155, 156]), (10, [2, 4, 6, 8, 9, 10, 11, 66, 67, 68, 69, 70, 73, 74, 75, 76, 77, 84, 87, 88, 89, 90, 105, 116, 130, 152, 153, 154, 155, 156]), (11, [2, 4, 6, 8, 9, 10, 11, 12, 66, 67, 68, 69, 70, 73, 74, 75, 76, 77, 84, 87, 88, 89, 90, 105, 116, 130, 152, 153, 154, 155, 156]), (12, [2, 4, 6, 8, 9, 10, 11, 12, 13, 84, 87, 88, 89, 90, 105, 116, 130, 152, 153, 154, 155, 156]), (13, [2, 4, 6, 9, 10, 11, 12, 13, 79, 105, 116, 130, 152, 153, 154, 155, 156]), (14, [2, 4, 9, 10, 11, 12]), (15, [2, 4, 6, 9, 10, 11, 12, 13, 100, 116, 130, 152, 153, 154, 155, 156]), (16, [2, 4, 9, 10, 11, 12]), (17, [2, 4, 6, 9, 10, 11, 12, 13, 111, 130, 152, 153, 154, 155, 156]), (18, [2, 4, 9, 10, 11, 12]), (19, [2, 4, 6, 9, 10, 11, 12, 125, 152, 153, 154, 155, 156]), (20, [2, 4, 9, 10, 11, 12]), (21, [2, 4, 6, 9, 10, 11, 12, 138, 152, 153, 154, 155, 156]), (22, [2, 4, 6, 9, 10, 11, 12, 14, 15, 152, 153, 154, 155, 156]), (23, [2, 4, 6, 9, 10, 11, 12, 157]), (24, [2, 4, 9, 10, 11, 12]), (25, [2, 4, 9, 10, 11, 12]), (26, [4, 5])] }
noncomputable def pleachref19_ComesNode_x (x : PDs [.val t47, .val t22]) : Option (RDs [⟨t47, [false, false, false, false, false, false, false, false, false, false, false, false, false, false, false, false, false, false, false, false, false, false, false, false], none⟩, ⟨t89, [true], none⟩] × ODs [.val t47, .val t22]) := evFn pleachref19_ComesNode_Γ tab pleachref19_ComesNode_fi 1099511627776 [.val t47, .val t22] [⟨t47, [false, false, false, false, false, false, false, false, false, false, false, false, false, false, false, false, false, false, false, false, false, false, false, false], none⟩, ⟨t89, [true], none⟩] Tryz.f74 x
noncomputable def pleachref19_ComesNode (x0 : Bool × Int × ByteArray × (Int × Int × Int × Int × Int × Int × (List Int) × Int × Int × Int × Int × Int × List (Int × Int × Int)) × (Int × Int × (List (Int × ByteArray)) × (List (Int × ByteArray)) × (List (Int × Int × Int × ByteArray × Int)) × Int × Int) × Int) (x1 : List Int) : Option (((Bool × Int × ByteArray × (Int × Int × Int × Int × Int × Int × (List Int) × Int × Int × Int × Int × Int × List (Int × Int × Int)) × (Int × Int × (List (Int × ByteArray)) × (List (Int × ByteArray)) × (List (Int × Int × Int × ByteArray × Int)) × Int × Int) × Int) × (List (Int × Int × Int × Int × Int × Int × (List Int) × Int × Int × ByteArray)) × Unit) × Unit) := pleachref19_ComesNode_x (x0, x1, ())
noncomputable def pleachref19_ComesNode_e : Ent := ⟨[.val t47, .val t22], [⟨t47, [false, false, false, false, false, false, false, false, false, false, false, false, false, false, false, false, false, false, false, false, false, false, false, false], none⟩, ⟨t89, [true], none⟩], fun x => pleachref19_ComesNode x.1 x.2.1⟩
theorem pleachref19_ComesNode_good : Good tab.ty Tryz.prog 74 pleachref19_ComesNode_e := by
  refine fn_good (Γ := pleachref19_ComesNode_Γ) (fi := pleachref19_ComesNode_fi) (n := 1099511627776) follows (gcons pleachref19_down_good (gcons pleachref10_TakeMsg_good (gcons pleachref19_Comes_good (gcons pleachref13_Knows_good (gcons pleachref13_Begin_good (gcons pleachref13_Comes_good (gcons pleachref13_Notes_good (gcons pleachref1_Find_good (gcons pleachref19_served_good gnil))))))))) tabok Tryz.func74 (by kernel_rfl) (by kernel_rfl) (fun x r h => ?_)
  obtain ⟨x0, x1, _u⟩ := x
  exact h
noncomputable def pleachref21_come_Γ : Ctx := [(43, pleachref21_with_e), (74, pleachref19_ComesNode_e)]
def pleachref21_come_fi : Fi := { keep := [], vty := [], vals := [], live := [(0, [2, 3, 4, 11, 12, 13, 14, 15, 16]), (1, [2, 3, 4, 17]), (2, [4]), (3, [2, 3, 4, 5, 6]), (4, [4])] }
noncomputable def pleachref21_come (w_0 : (List (Bool × Int × ByteArray × (Int × Int × Int × Int × Int × Int × (List Int) × Int × Int × Int × Int × Int × List (Int × Int × Int)) × (Int × Int × (List (Int × ByteArray)) × (List (Int × ByteArray)) × (List (Int × Int × Int × ByteArray × Int)) × Int × Int) × Int)) × (List (Int × ByteArray × Bool)) × (List ByteArray) × Int × (List (List Int)) × List (List ((List Int) × Int))) (g_1 : Int × ByteArray × Bool) : Option ((((List (Bool × Int × ByteArray × (Int × Int × Int × Int × Int × Int × (List Int) × Int × Int × Int × Int × Int × List (Int × Int × Int)) × (Int × Int × (List (Int × ByteArray)) × (List (Int × ByteArray)) × (List (Int × Int × Int × ByteArray × Int)) × Int × Int) × Int)) × (List (Int × ByteArray × Bool)) × (List ByteArray) × Int × (List (List Int)) × List (List ((List Int) × Int))) × Unit) × Unit) :=
 bif decide (g_1.1 < 1) then
  some ((w_0, ()), ())
 else
 bif decide (g_1.1 > (w_0.1.length : Int)) then
  some ((w_0, ()), ())
 else
 bif decide (0 ≤ IntKind.wrap .i64 (g_1.1 - 1)) && decide (IntKind.wrap .i64 (g_1.1 - 1) < (w_0.1.length : Int)) then
  bif Nat.ble g_1.2.1.size 1073741824 then
   Option.bind (pleachref19_ComesNode ((List.getD w_0.1 ((IntKind.wrap .i64 (g_1.1 - 1)).toNat) (false, 0, (⟨#[]⟩ : ByteArray), (0, 0, 0, 0, 0, 0, [], 0, 0, 0, 0, 0, []), (0, 0, [], [], [], 0, 0), 0)).1, ((List.getD w_0.1 ((IntKind.wrap .i64 (g_1.1 - 1)).toNat) (false, 0, (⟨#[]⟩ : ByteArray), (0, 0, 0, 0, 0, 0, [], 0, 0, 0, 0, 0, []), (0, 0, [], [], [], 0, 0), 0)).2).1, (((List.getD w_0.1 ((IntKind.wrap .i64 (g_1.1 - 1)).toNat) (false, 0, (⟨#[]⟩ : ByteArray), (0, 0, 0, 0, 0, 0, [], 0, 0, 0, 0, 0, []), (0, 0, [], [], [], 0, 0), 0)).2).2).1, ((((((List.getD w_0.1 ((IntKind.wrap .i64 (g_1.1 - 1)).toNat) (false, 0, (⟨#[]⟩ : ByteArray), (0, 0, 0, 0, 0, 0, [], 0, 0, 0, 0, 0, []), (0, 0, [], [], [], 0, 0), 0)).2).2).2).1).1, ((((((List.getD w_0.1 ((IntKind.wrap .i64 (g_1.1 - 1)).toNat) (false, 0, (⟨#[]⟩ : ByteArray), (0, 0, 0, 0, 0, 0, [], 0, 0, 0, 0, 0, []), (0, 0, [], [], [], 0, 0), 0)).2).2).2).1).2).1, (((((((List.getD w_0.1 ((IntKind.wrap .i64 (g_1.1 - 1)).toNat) (false, 0, (⟨#[]⟩ : ByteArray), (0, 0, 0, 0, 0, 0, [], 0, 0, 0, 0, 0, []), (0, 0, [], [], [], 0, 0), 0)).2).2).2).1).2).2).1, ((((((((List.getD w_0.1 ((IntKind.wrap .i64 (g_1.1 - 1)).toNat) (false, 0, (⟨#[]⟩ : ByteArray), (0, 0, 0, 0, 0, 0, [], 0, 0, 0, 0, 0, []), (0, 0, [], [], [], 0, 0), 0)).2).2).2).1).2).2).2).1, (((((((((List.getD w_0.1 ((IntKind.wrap .i64 (g_1.1 - 1)).toNat) (false, 0, (⟨#[]⟩ : ByteArray), (0, 0, 0, 0, 0, 0, [], 0, 0, 0, 0, 0, []), (0, 0, [], [], [], 0, 0), 0)).2).2).2).1).2).2).2).2).1, ((((((((((List.getD w_0.1 ((IntKind.wrap .i64 (g_1.1 - 1)).toNat) (false, 0, (⟨#[]⟩ : ByteArray), (0, 0, 0, 0, 0, 0, [], 0, 0, 0, 0, 0, []), (0, 0, [], [], [], 0, 0), 0)).2).2).2).1).2).2).2).2).2).1, (((((((((((List.getD w_0.1 ((IntKind.wrap .i64 (g_1.1 - 1)).toNat) (false, 0, (⟨#[]⟩ : ByteArray), (0, 0, 0, 0, 0, 0, [], 0, 0, 0, 0, 0, []), (0, 0, [], [], [], 0, 0), 0)).2).2).2).1).2).2).2).2).2).2).1, ((((((((((((List.getD w_0.1 ((IntKind.wrap .i64 (g_1.1 - 1)).toNat) (false, 0, (⟨#[]⟩ : ByteArray), (0, 0, 0, 0, 0, 0, [], 0, 0, 0, 0, 0, []), (0, 0, [], [], [], 0, 0), 0)).2).2).2).1).2).2).2).2).2).2).2).1, (((((((((((((List.getD w_0.1 ((IntKind.wrap .i64 (g_1.1 - 1)).toNat) (false, 0, (⟨#[]⟩ : ByteArray), (0, 0, 0, 0, 0, 0, [], 0, 0, 0, 0, 0, []), (0, 0, [], [], [], 0, 0), 0)).2).2).2).1).2).2).2).2).2).2).2).2).1, ((((((((((((((List.getD w_0.1 ((IntKind.wrap .i64 (g_1.1 - 1)).toNat) (false, 0, (⟨#[]⟩ : ByteArray), (0, 0, 0, 0, 0, 0, [], 0, 0, 0, 0, 0, []), (0, 0, [], [], [], 0, 0), 0)).2).2).2).1).2).2).2).2).2).2).2).2).2).1, (((((((((((((((List.getD w_0.1 ((IntKind.wrap .i64 (g_1.1 - 1)).toNat) (false, 0, (⟨#[]⟩ : ByteArray), (0, 0, 0, 0, 0, 0, [], 0, 0, 0, 0, 0, []), (0, 0, [], [], [], 0, 0), 0)).2).2).2).1).2).2).2).2).2).2).2).2).2).2).1, ((((((((((((((((List.getD w_0.1 ((IntKind.wrap .i64 (g_1.1 - 1)).toNat) (false, 0, (⟨#[]⟩ : ByteArray), (0, 0, 0, 0, 0, 0, [], 0, 0, 0, 0, 0, []), (0, 0, [], [], [], 0, 0), 0)).2).2).2).1).2).2).2).2).2).2).2).2).2).2).2)), (((((((List.getD w_0.1 ((IntKind.wrap .i64 (g_1.1 - 1)).toNat) (false, 0, (⟨#[]⟩ : ByteArray), (0, 0, 0, 0, 0, 0, [], 0, 0, 0, 0, 0, []), (0, 0, [], [], [], 0, 0), 0)).2).2).2).2).1).1, (((((((List.getD w_0.1 ((IntKind.wrap .i64 (g_1.1 - 1)).toNat) (false, 0, (⟨#[]⟩ : ByteArray), (0, 0, 0, 0, 0, 0, [], 0, 0, 0, 0, 0, []), (0, 0, [], [], [], 0, 0), 0)).2).2).2).2).1).2).1, ((((((((List.getD w_0.1 ((IntKind.wrap .i64 (g_1.1 - 1)).toNat) (false, 0, (⟨#[]⟩ : ByteArray), (0, 0, 0, 0, 0, 0, [], 0, 0, 0, 0, 0, []), (0, 0, [], [], [], 0, 0), 0)).2).2).2).2).1).2).2).1, (((((((((List.getD w_0.1 ((IntKind.wrap .i64 (g_1.1 - 1)).toNat) (false, 0, (⟨#[]⟩ : ByteArray), (0, 0, 0, 0, 0, 0, [], 0, 0, 0, 0, 0, []), (0, 0, [], [], [], 0, 0), 0)).2).2).2).2).1).2).2).2).1, ((((((((((List.getD w_0.1 ((IntKind.wrap .i64 (g_1.1 - 1)).toNat) (false, 0, (⟨#[]⟩ : ByteArray), (0, 0, 0, 0, 0, 0, [], 0, 0, 0, 0, 0, []), (0, 0, [], [], [], 0, 0), 0)).2).2).2).2).1).2).2).2).2).1, (((((((((((List.getD w_0.1 ((IntKind.wrap .i64 (g_1.1 - 1)).toNat) (false, 0, (⟨#[]⟩ : ByteArray), (0, 0, 0, 0, 0, 0, [], 0, 0, 0, 0, 0, []), (0, 0, [], [], [], 0, 0), 0)).2).2).2).2).1).2).2).2).2).2)), (((((List.getD w_0.1 ((IntKind.wrap .i64 (g_1.1 - 1)).toNat) (false, 0, (⟨#[]⟩ : ByteArray), (0, 0, 0, 0, 0, 0, [], 0, 0, 0, 0, 0, []), (0, 0, [], [], [], 0, 0), 0)).2).2).2).2).2) (g_1.2.1.data.toList.map fun b => (b.toNat : Int))) fun (r1 : ((Bool × Int × ByteArray × (Int × Int × Int × Int × Int × Int × (List Int) × Int × Int × Int × Int × Int × List (Int × Int × Int)) × (Int × Int × (List (Int × ByteArray)) × (List (Int × ByteArray)) × (List (Int × Int × Int × ByteArray × Int)) × Int × Int) × Int) × (List (Int × Int × Int × Int × Int × Int × (List Int) × Int × Int × ByteArray)) × Unit) × Unit) =>
   Option.bind (pleachref21_with w_0 (IntKind.wrap .i64 (g_1.1 - 1)) r1.1.1 r1.1.2.1) fun (r2 : (((List (Bool × Int × ByteArray × (Int × Int × Int × Int × Int × Int × (List Int) × Int × Int × Int × Int × Int × List (Int × Int × Int)) × (Int × Int × (List (Int × ByteArray)) × (List (Int × ByteArray)) × (List (Int × Int × Int × ByteArray × Int)) × Int × Int) × Int)) × (List (Int × ByteArray × Bool)) × (List ByteArray) × Int × (List (List Int)) × List (List ((List Int) × Int))) × Unit) × Unit) =>
   some ((r2.1.1, ()), ())
  else none
 else none
theorem pleachref21_come_eq (w_0 : (List (Bool × Int × ByteArray × (Int × Int × Int × Int × Int × Int × (List Int) × Int × Int × Int × Int × Int × List (Int × Int × Int)) × (Int × Int × (List (Int × ByteArray)) × (List (Int × ByteArray)) × (List (Int × Int × Int × ByteArray × Int)) × Int × Int) × Int)) × (List (Int × ByteArray × Bool)) × (List ByteArray) × Int × (List (List Int)) × List (List ((List Int) × Int))) (g_1 : Int × ByteArray × Bool) : evFn pleachref21_come_Γ tab pleachref21_come_fi 1 [.val t31, .val t93] [⟨t31, [false, false, false, false, false, false], none⟩] Tryz.f45 (w_0, g_1, ()) = pleachref21_come w_0 g_1 := by kernel_rfl
noncomputable def pleachref21_come_e : Ent := ⟨[.val t31, .val t93], [⟨t31, [false, false, false, false, false, false], none⟩], fun x => pleachref21_come x.1 x.2.1⟩
theorem pleachref21_come_good : Good tab.ty Tryz.prog 45 pleachref21_come_e := by
  refine fn_good (Γ := pleachref21_come_Γ) (fi := pleachref21_come_fi) (n := 1) follows (gcons pleachref21_with_good (gcons pleachref19_ComesNode_good gnil)) tabok Tryz.func45 (by kernel_rfl) (by kernel_rfl) (fun x r h => ?_)
  obtain ⟨w_0, g_1, _u⟩ := x
  exact (pleachref21_come_eq w_0 g_1).trans h
noncomputable def pleachref13_Twice_Γ : Ctx := [(73, pleachref13_Send_e)]
def pleachref13_Twice_fi : Fi := { keep := [], vty := [], vals := [], live := [(0, [0, 1, 9, 10, 11, 12, 15, 16, 17]), (1, [0, 1, 18]), (2, [4, 5]), (3, [4, 5])] }
noncomputable def pleachref13_Twice (l_0 : List (Int × ByteArray × Bool)) (i_1 : Int) : Option (((List (Int × ByteArray × Bool)) × Bool × Unit) × Unit) :=
 bif decide (i_1 < 0) then
  some ((l_0, false, ()), ())
 else
 bif decide (i_1 ≥ (l_0.length : Int)) then
  some ((l_0, false, ()), ())
 else
 bif decide ((l_0.length : Int) ≥ 60) then
  some ((l_0, false, ()), ())
 else
 bif decide (0 ≤ i_1) && decide (i_1 < (l_0.length : Int)) then
  Option.bind (pleachref13_Send l_0 ((List.getD l_0 i_1.toNat (0, (⟨#[]⟩ : ByteArray), false)).1, ((List.getD l_0 i_1.toNat (0, (⟨#[]⟩ : ByteArray), false)).2))) fun (r1 : ((List (Int × ByteArray × Bool)) × Unit) × Unit) =>
  some ((r1.1.1, true, ()), ())
 else none
theorem pleachref13_Twice_eq (l_0 : List (Int × ByteArray × Bool)) (i_1 : Int) : evFn pleachref13_Twice_Γ tab pleachref13_Twice_fi 1 [.val t25, .val t2] [⟨t25, [false], none⟩, ⟨t4, [false], none⟩] Tryz.f46 (l_0, i_1, ()) = pleachref13_Twice l_0 i_1 := by kernel_rfl
noncomputable def pleachref13_Twice_e : Ent := ⟨[.val t25, .val t2], [⟨t25, [false], none⟩, ⟨t4, [false], none⟩], fun x => pleachref13_Twice x.1 x.2.1⟩
theorem pleachref13_Twice_good : Good tab.ty Tryz.prog 46 pleachref13_Twice_e := by
  refine fn_good (Γ := pleachref13_Twice_Γ) (fi := pleachref13_Twice_fi) (n := 1) follows (gcons pleachref13_Send_good gnil) tabok Tryz.func46 (by kernel_rfl) (by kernel_rfl) (fun x r h => ?_)
  obtain ⟨l_0, i_1, _u⟩ := x
  exact (pleachref13_Twice_eq l_0 i_1).trans h
noncomputable def pleachref13_Turned_Γ : Ctx := [(47, markE)]
def pleachref13_Turned_fi : Fi := { keep := [], vty := [], vals := [], live := [(0, [0, 1, 2, 14, 15, 16, 17, 20, 21, 22, 23, 24, 27, 28, 29, 30, 31, 32, 33, 36, 37, 40, 41, 42]), (1, [0, 1, 2, 43]), (2, [6, 7]), (3, [0, 1, 2, 8]), (4, [1, 2, 8, 9]), (5, [1, 2, 8, 9, 10]), (6, [1, 8, 9]), (7, [8]), (8, [6, 7])] }
noncomputable def pleachref13_Turned (l_0 : List (Int × ByteArray × Bool)) (i_1 : Int) (to_2 : Int) : Option (((List (Int × ByteArray × Bool)) × Bool × Unit) × Unit) :=
 bif decide (i_1 < 0) then
  some ((l_0, false, ()), ())
 else
 bif decide (i_1 ≥ (l_0.length : Int)) then
  some ((l_0, false, ()), ())
 else
 bif decide (0 ≤ i_1) && decide (i_1 < (l_0.length : Int)) then
  bif ((List.getD l_0 i_1.toNat (0, (⟨#[]⟩ : ByteArray), false)).2).2 then
   some ((l_0, false, ()), ())
  else
  bif decide (0 ≤ i_1) && decide (i_1 < (l_0.length : Int)) then
   bif ((((List.getD l_0 i_1.toNat (0, (⟨#[]⟩ : ByteArray), false)).2).1).size : Int) == 0 then
    some ((l_0, false, ()), ())
   else
   bif decide (to_2 < 0) then
    some ((l_0, false, ()), ())
   else
   bif (Int.tmod to_2 256) == 0 then
    some ((l_0, false, ()), ())
   else
   bif Nat.ble (0 + l_0.length) 1073741824 then
    bif decide (0 ≤ i_1) && decide (i_1 < (l_0.length : Int)) then
     bif Nat.ble (((List.getD l_0 i_1.toNat (0, (⟨#[]⟩ : ByteArray), false)).2).1).size 1073741824 then
      bif !((((((List.getD l_0 i_1.toNat (0, (⟨#[]⟩ : ByteArray), false)).2).1).data.toList.map fun b => (b.toNat : Int)).length : Int) == 0) then
       bif decide (0 ≤ Int.tmod (IntKind.wrap .i64 (Int.tdiv to_2 256)) (((((List.getD l_0 i_1.toNat (0, (⟨#[]⟩ : ByteArray), false)).2).1).data.toList.map fun b => (b.toNat : Int)).length : Int)) && decide (Int.tmod (IntKind.wrap .i64 (Int.tdiv to_2 256)) (((((List.getD l_0 i_1.toNat (0, (⟨#[]⟩ : ByteArray), false)).2).1).data.toList.map fun b => (b.toNat : Int)).length : Int) < (((((List.getD l_0 i_1.toNat (0, (⟨#[]⟩ : ByteArray), false)).2).1).data.toList.map fun b => (b.toNat : Int)).length : Int)) then
        bif decide (0 ≤ Int.tmod (IntKind.wrap .i64 (Int.tdiv to_2 256)) (((((List.getD l_0 i_1.toNat (0, (⟨#[]⟩ : ByteArray), false)).2).1).data.toList.map fun b => (b.toNat : Int)).length : Int)) && decide (Int.tmod (IntKind.wrap .i64 (Int.tdiv to_2 256)) (((((List.getD l_0 i_1.toNat (0, (⟨#[]⟩ : ByteArray), false)).2).1).data.toList.map fun b => (b.toNat : Int)).length : Int) < (((((List.getD l_0 i_1.toNat (0, (⟨#[]⟩ : ByteArray), false)).2).1).data.toList.map fun b => (b.toNat : Int)).length : Int)) then
         bif decide (0 ≤ Int.tmod (IntKind.wrap .i64 (Int.tdiv to_2 256)) (((((List.getD l_0 i_1.toNat (0, (⟨#[]⟩ : ByteArray), false)).2).1).data.toList.map fun b => (b.toNat : Int)).length : Int)) && decide (Int.tmod (IntKind.wrap .i64 (Int.tdiv to_2 256)) (((((List.getD l_0 i_1.toNat (0, (⟨#[]⟩ : ByteArray), false)).2).1).data.toList.map fun b => (b.toNat : Int)).length : Int) < (((((List.getD l_0 i_1.toNat (0, (⟨#[]⟩ : ByteArray), false)).2).1).data.toList.map fun b => (b.toNat : Int)).length : Int)) then
          bif decide (0 ≤ Int.tmod (IntKind.wrap .i64 (Int.tdiv to_2 256)) (((((List.getD l_0 i_1.toNat (0, (⟨#[]⟩ : ByteArray), false)).2).1).data.toList.map fun b => (b.toNat : Int)).length : Int)) && decide (Int.tmod (IntKind.wrap .i64 (Int.tdiv to_2 256)) (((((List.getD l_0 i_1.toNat (0, (⟨#[]⟩ : ByteArray), false)).2).1).data.toList.map fun b => (b.toNat : Int)).length : Int) < (((((List.getD l_0 i_1.toNat (0, (⟨#[]⟩ : ByteArray), false)).2).1).data.toList.map fun b => (b.toNat : Int)).length : Int)) then
           bif decide (0 ≤ i_1) && decide (i_1 < (([] ++ l_0).length : Int)) then
            bif decide (0 ≤ i_1) && decide (i_1 < (([] ++ l_0).length : Int)) then
            bif decide (0 ≤ i_1) && decide (i_1 < ((List.set ([] ++ l_0) i_1.toNat ((List.getD ([] ++ l_0) i_1.toNat (0, (⟨#[]⟩ : ByteArray), false)).1, bytesOf (List.set ((((List.getD l_0 i_1.toNat (0, (⟨#[]⟩ : ByteArray), false)).2).1).data.toList.map fun b => (b.toNat : Int)) ((Int.tmod (IntKind.wrap .i64 (Int.tdiv to_2 256)) (((((List.getD l_0 i_1.toNat (0, (⟨#[]⟩ : ByteArray), false)).2).1).data.toList.map fun b => (b.toNat : Int)).length : Int)).toNat) (IntKind.wrap .u8 ((BitVec.ofInt 8 (List.getD ((((List.getD l_0 i_1.toNat (0, (⟨#[]⟩ : ByteArray), false)).2).1).data.toList.map fun b => (b.toNat : Int)) ((Int.tmod (IntKind.wrap .i64 (Int.tdiv to_2 256)) (((((List.getD l_0 i_1.toNat (0, (⟨#[]⟩ : ByteArray), false)).2).1).data.toList.map fun b => (b.toNat : Int)).length : Int)).toNat) 0) ^^^ BitVec.ofInt 8 (IntKind.wrap .u8 (Int.tmod to_2 256))).toNat))), ((List.getD ([] ++ l_0) i_1.toNat (0, (⟨#[]⟩ : ByteArray), false)).2).2)).length : Int)) then
            bif decide (0 ≤ i_1) && decide (i_1 < ((List.set ([] ++ l_0) i_1.toNat ((List.getD ([] ++ l_0) i_1.toNat (0, (⟨#[]⟩ : ByteArray), false)).1, bytesOf (List.set ((((List.getD l_0 i_1.toNat (0, (⟨#[]⟩ : ByteArray), false)).2).1).data.toList.map fun b => (b.toNat : Int)) ((Int.tmod (IntKind.wrap .i64 (Int.tdiv to_2 256)) (((((List.getD l_0 i_1.toNat (0, (⟨#[]⟩ : ByteArray), false)).2).1).data.toList.map fun b => (b.toNat : Int)).length : Int)).toNat) (IntKind.wrap .u8 ((BitVec.ofInt 8 (List.getD ((((List.getD l_0 i_1.toNat (0, (⟨#[]⟩ : ByteArray), false)).2).1).data.toList.map fun b => (b.toNat : Int)) ((Int.tmod (IntKind.wrap .i64 (Int.tdiv to_2 256)) (((((List.getD l_0 i_1.toNat (0, (⟨#[]⟩ : ByteArray), false)).2).1).data.toList.map fun b => (b.toNat : Int)).length : Int)).toNat) 0) ^^^ BitVec.ofInt 8 (IntKind.wrap .u8 (Int.tmod to_2 256))).toNat))), ((List.getD ([] ++ l_0) i_1.toNat (0, (⟨#[]⟩ : ByteArray), false)).2).2)).length : Int)) then
            some ((List.set (List.set ([] ++ l_0) i_1.toNat ((List.getD ([] ++ l_0) i_1.toNat (0, (⟨#[]⟩ : ByteArray), false)).1, bytesOf (List.set ((((List.getD l_0 i_1.toNat (0, (⟨#[]⟩ : ByteArray), false)).2).1).data.toList.map fun b => (b.toNat : Int)) ((Int.tmod (IntKind.wrap .i64 (Int.tdiv to_2 256)) (((((List.getD l_0 i_1.toNat (0, (⟨#[]⟩ : ByteArray), false)).2).1).data.toList.map fun b => (b.toNat : Int)).length : Int)).toNat) (IntKind.wrap .u8 ((BitVec.ofInt 8 (List.getD ((((List.getD l_0 i_1.toNat (0, (⟨#[]⟩ : ByteArray), false)).2).1).data.toList.map fun b => (b.toNat : Int)) ((Int.tmod (IntKind.wrap .i64 (Int.tdiv to_2 256)) (((((List.getD l_0 i_1.toNat (0, (⟨#[]⟩ : ByteArray), false)).2).1).data.toList.map fun b => (b.toNat : Int)).length : Int)).toNat) 0) ^^^ BitVec.ofInt 8 (IntKind.wrap .u8 (Int.tmod to_2 256))).toNat))), ((List.getD ([] ++ l_0) i_1.toNat (0, (⟨#[]⟩ : ByteArray), false)).2).2)) i_1.toNat ((List.getD (List.set ([] ++ l_0) i_1.toNat ((List.getD ([] ++ l_0) i_1.toNat (0, (⟨#[]⟩ : ByteArray), false)).1, bytesOf (List.set ((((List.getD l_0 i_1.toNat (0, (⟨#[]⟩ : ByteArray), false)).2).1).data.toList.map fun b => (b.toNat : Int)) ((Int.tmod (IntKind.wrap .i64 (Int.tdiv to_2 256)) (((((List.getD l_0 i_1.toNat (0, (⟨#[]⟩ : ByteArray), false)).2).1).data.toList.map fun b => (b.toNat : Int)).length : Int)).toNat) (IntKind.wrap .u8 ((BitVec.ofInt 8 (List.getD ((((List.getD l_0 i_1.toNat (0, (⟨#[]⟩ : ByteArray), false)).2).1).data.toList.map fun b => (b.toNat : Int)) ((Int.tmod (IntKind.wrap .i64 (Int.tdiv to_2 256)) (((((List.getD l_0 i_1.toNat (0, (⟨#[]⟩ : ByteArray), false)).2).1).data.toList.map fun b => (b.toNat : Int)).length : Int)).toNat) 0) ^^^ BitVec.ofInt 8 (IntKind.wrap .u8 (Int.tmod to_2 256))).toNat))), ((List.getD ([] ++ l_0) i_1.toNat (0, (⟨#[]⟩ : ByteArray), false)).2).2)) i_1.toNat (0, (⟨#[]⟩ : ByteArray), false)).1, ((List.getD (List.set ([] ++ l_0) i_1.toNat ((List.getD ([] ++ l_0) i_1.toNat (0, (⟨#[]⟩ : ByteArray), false)).1, bytesOf (List.set ((((List.getD l_0 i_1.toNat (0, (⟨#[]⟩ : ByteArray), false)).2).1).data.toList.map fun b => (b.toNat : Int)) ((Int.tmod (IntKind.wrap .i64 (Int.tdiv to_2 256)) (((((List.getD l_0 i_1.toNat (0, (⟨#[]⟩ : ByteArray), false)).2).1).data.toList.map fun b => (b.toNat : Int)).length : Int)).toNat) (IntKind.wrap .u8 ((BitVec.ofInt 8 (List.getD ((((List.getD l_0 i_1.toNat (0, (⟨#[]⟩ : ByteArray), false)).2).1).data.toList.map fun b => (b.toNat : Int)) ((Int.tmod (IntKind.wrap .i64 (Int.tdiv to_2 256)) (((((List.getD l_0 i_1.toNat (0, (⟨#[]⟩ : ByteArray), false)).2).1).data.toList.map fun b => (b.toNat : Int)).length : Int)).toNat) 0) ^^^ BitVec.ofInt 8 (IntKind.wrap .u8 (Int.tmod to_2 256))).toNat))), ((List.getD ([] ++ l_0) i_1.toNat (0, (⟨#[]⟩ : ByteArray), false)).2).2)) i_1.toNat (0, (⟨#[]⟩ : ByteArray), false)).2).1, true), true, ()), ())
            else none
            else none
            else none
           else none
          else none
         else none
        else none
       else none
      else none
     else none
    else none
   else none
  else none
 else none
theorem pleachref13_Turned_eq (l_0 : List (Int × ByteArray × Bool)) (i_1 : Int) (to_2 : Int) : evFn pleachref13_Turned_Γ tab pleachref13_Turned_fi 1 [.val t25, .val t2, .val t2] [⟨t25, [false], none⟩, ⟨t4, [false], none⟩] Tryz.f47 (l_0, i_1, to_2, ()) = pleachref13_Turned l_0 i_1 to_2 := by kernel_rfl
noncomputable def pleachref13_Turned_e : Ent := ⟨[.val t25, .val t2, .val t2], [⟨t25, [false], none⟩, ⟨t4, [false], none⟩], fun x => pleachref13_Turned x.1 x.2.1 x.2.2.1⟩
theorem pleachref13_Turned_good : Good tab.ty Tryz.prog 47 pleachref13_Turned_e := by
  refine fn_good (Γ := pleachref13_Turned_Γ) (fi := pleachref13_Turned_fi) (n := 1) follows (gcons (gmark Tryz.func47 (by kernel_rfl) (by kernel_rfl)) gnil) tabok Tryz.func47 (by kernel_rfl) (by kernel_rfl) (fun x r h => ?_)
  obtain ⟨l_0, i_1, to_2, _u⟩ := x
  exact (pleachref13_Turned_eq l_0 i_1 to_2).trans h
noncomputable def pleachref21_Do_Γ : Ctx := [(41, pleachref21_of_e), (42, pleachref19_Say_e), (43, pleachref21_with_e), (44, pleachref13_Gone_e), (45, pleachref21_come_e), (46, pleachref13_Twice_e), (47, pleachref13_Turned_e)]
def pleachref21_Do_fi : Fi := { keep := [], vty := [], vals := [], live := [(0, [2, 3, 4, 30, 31, 32, 33, 34, 35]), (1, [2, 3, 4, 17, 30, 31, 32, 33, 34, 35]), (2, [4, 5]), (3, [2, 3, 4, 20, 30, 31, 32, 33, 34, 35]), (4, [2, 3, 4, 20, 21, 30, 31, 32, 33, 34, 35]), (5, [2, 3, 4, 20, 21, 30, 31, 32, 33, 34, 35]), (6, [2, 3, 4, 20, 21, 30, 31, 32, 33, 34, 35]), (7, [2, 3, 4, 20, 21, 30, 31, 32, 33, 34, 35]), (8, [2, 3, 4, 36]), (9, [4, 5]), (10, [4, 5]), (11, [2, 3, 4, 20, 43]), (12, [2, 3, 4, 6, 7, 8]), (13, [2, 3, 4, 6, 7, 57]), (14, [4, 5]), (15, [2, 3, 4]), (16, [2, 4]), (17, [4, 5]), (18, [2, 3, 4, 73]), (19, [2, 4, 9, 10, 11]), (20, [2, 4, 9, 10, 85]), (21, [4, 5]), (22, [2, 4, 10]), (23, [4, 5]), (24, [2, 3, 4]), (25, [2, 3, 4, 95]), (26, [4, 5]), (27, [2, 3, 4, 95, 97]), (28, [2, 4, 12, 13]), (29, [2, 3, 4, 95, 108]), (30, [2, 4, 12, 13]), (31, [2, 3, 4, 118]), (32, [2, 4, 12, 13]), (33, [2, 4, 12, 131]), (34, [4, 5]), (35, [2, 4]), (36, [4, 5])] }
noncomputable def pleachref21_Do (arr_0 : (List (Bool × Int × ByteArray × (Int × Int × Int × Int × Int × Int × (List Int) × Int × Int × Int × Int × Int × List (Int × Int × Int)) × (Int × Int × (List (Int × ByteArray)) × (List (Int × ByteArray)) × (List (Int × Int × Int × ByteArray × Int)) × Int × Int) × Int)) × (List (Int × ByteArray × Bool)) × (List ByteArray) × Int × (List (List Int)) × List (List ((List Int) × Int))) (x_1 : Int × Int × Int × Int × ByteArray) : Option ((((List (Bool × Int × ByteArray × (Int × Int × Int × Int × Int × Int × (List Int) × Int × Int × Int × Int × Int × List (Int × Int × Int)) × (Int × Int × (List (Int × ByteArray)) × (List (Int × ByteArray)) × (List (Int × Int × Int × ByteArray × Int)) × Int × Int) × Int)) × (List (Int × ByteArray × Bool)) × (List ByteArray) × Int × (List (List Int)) × List (List ((List Int) × Int))) × Int × Unit) × Unit) :=
 bif (arr_0.1.length : Int) != 8 then
  some ((arr_0, 1, ()), ())
 else
 bif x_1.1 == 1 then
  bif x_1.1 == 1 then
   bif decide (x_1.2.1 < 1) then
    some ((arr_0, 1, ()), ())
   else
   bif decide (x_1.2.1 > (arr_0.1.length : Int)) then
    some ((arr_0, 1, ()), ())
   else
    Option.bind (pleachref21_of arr_0 x_1) fun (r1 : (((List (Bool × Int × ByteArray × (Int × Int × Int × Int × Int × Int × (List Int) × Int × Int × Int × Int × Int × List (Int × Int × Int)) × (Int × Int × (List (Int × ByteArray)) × (List (Int × ByteArray)) × (List (Int × Int × Int × ByteArray × Int)) × Int × Int) × Int)) × (List (Int × ByteArray × Bool)) × (List ByteArray) × Int × (List (List Int)) × List (List ((List Int) × Int))) × Int × Unit) × Unit) =>
    some ((r1.1.1, r1.1.2.1, ()), ())
  else
  bif x_1.1 == 4 then
   bif decide (0 < (arr_0.1.length : Int)) then
    Option.bind (pleachref19_Say ((List.getD arr_0.1 0 (false, 0, (⟨#[]⟩ : ByteArray), (0, 0, 0, 0, 0, 0, [], 0, 0, 0, 0, 0, []), (0, 0, [], [], [], 0, 0), 0)).1, ((List.getD arr_0.1 0 (false, 0, (⟨#[]⟩ : ByteArray), (0, 0, 0, 0, 0, 0, [], 0, 0, 0, 0, 0, []), (0, 0, [], [], [], 0, 0), 0)).2).1, (((List.getD arr_0.1 0 (false, 0, (⟨#[]⟩ : ByteArray), (0, 0, 0, 0, 0, 0, [], 0, 0, 0, 0, 0, []), (0, 0, [], [], [], 0, 0), 0)).2).2).1, ((((((List.getD arr_0.1 0 (false, 0, (⟨#[]⟩ : ByteArray), (0, 0, 0, 0, 0, 0, [], 0, 0, 0, 0, 0, []), (0, 0, [], [], [], 0, 0), 0)).2).2).2).1).1, ((((((List.getD arr_0.1 0 (false, 0, (⟨#[]⟩ : ByteArray), (0, 0, 0, 0, 0, 0, [], 0, 0, 0, 0, 0, []), (0, 0, [], [], [], 0, 0), 0)).2).2).2).1).2).1, (((((((List.getD arr_0.1 0 (false, 0, (⟨#[]⟩ : ByteArray), (0, 0, 0, 0, 0, 0, [], 0, 0, 0, 0, 0, []), (0, 0, [], [], [], 0, 0), 0)).2).2).2).1).2).2).1, ((((((((List.getD arr_0.1 0 (false, 0, (⟨#[]⟩ : ByteArray), (0, 0, 0, 0, 0, 0, [], 0, 0, 0, 0, 0, []), (0, 0, [], [], [], 0, 0), 0)).2).2).2).1).2).2).2).1, (((((((((List.getD arr_0.1 0 (false, 0, (⟨#[]⟩ : ByteArray), (0, 0, 0, 0, 0, 0, [], 0, 0, 0, 0, 0, []), (0, 0, [], [], [], 0, 0), 0)).2).2).2).1).2).2).2).2).1, ((((((((((List.getD arr_0.1 0 (false, 0, (⟨#[]⟩ : ByteArray), (0, 0, 0, 0, 0, 0, [], 0, 0, 0, 0, 0, []), (0, 0, [], [], [], 0, 0), 0)).2).2).2).1).2).2).2).2).2).1, (((((((((((List.getD arr_0.1 0 (false, 0, (⟨#[]⟩ : ByteArray), (0, 0, 0, 0, 0, 0, [], 0, 0, 0, 0, 0, []), (0, 0, [], [], [], 0, 0), 0)).2).2).2).1).2).2).2).2).2).2).1, ((((((((((((List.getD arr_0.1 0 (false, 0, (⟨#[]⟩ : ByteArray), (0, 0, 0, 0, 0, 0, [], 0, 0, 0, 0, 0, []), (0, 0, [], [], [], 0, 0), 0)).2).2).2).1).2).2).2).2).2).2).2).1, (((((((((((((List.getD arr_0.1 0 (false, 0, (⟨#[]⟩ : ByteArray), (0, 0, 0, 0, 0, 0, [], 0, 0, 0, 0, 0, []), (0, 0, [], [], [], 0, 0), 0)).2).2).2).1).2).2).2).2).2).2).2).2).1, ((((((((((((((List.getD arr_0.1 0 (false, 0, (⟨#[]⟩ : ByteArray), (0, 0, 0, 0, 0, 0, [], 0, 0, 0, 0, 0, []), (0, 0, [], [], [], 0, 0), 0)).2).2).2).1).2).2).2).2).2).2).2).2).2).1, (((((((((((((((List.getD arr_0.1 0 (false, 0, (⟨#[]⟩ : ByteArray), (0, 0, 0, 0, 0, 0, [], 0, 0, 0, 0, 0, []), (0, 0, [], [], [], 0, 0), 0)).2).2).2).1).2).2).2).2).2).2).2).2).2).2).1, ((((((((((((((((List.getD arr_0.1 0 (false, 0, (⟨#[]⟩ : ByteArray), (0, 0, 0, 0, 0, 0, [], 0, 0, 0, 0, 0, []), (0, 0, [], [], [], 0, 0), 0)).2).2).2).1).2).2).2).2).2).2).2).2).2).2).2)), (((((((List.getD arr_0.1 0 (false, 0, (⟨#[]⟩ : ByteArray), (0, 0, 0, 0, 0, 0, [], 0, 0, 0, 0, 0, []), (0, 0, [], [], [], 0, 0), 0)).2).2).2).2).1).1, (((((((List.getD arr_0.1 0 (false, 0, (⟨#[]⟩ : ByteArray), (0, 0, 0, 0, 0, 0, [], 0, 0, 0, 0, 0, []), (0, 0, [], [], [], 0, 0), 0)).2).2).2).2).1).2).1, ((((((((List.getD arr_0.1 0 (false, 0, (⟨#[]⟩ : ByteArray), (0, 0, 0, 0, 0, 0, [], 0, 0, 0, 0, 0, []), (0, 0, [], [], [], 0, 0), 0)).2).2).2).2).1).2).2).1, (((((((((List.getD arr_0.1 0 (false, 0, (⟨#[]⟩ : ByteArray), (0, 0, 0, 0, 0, 0, [], 0, 0, 0, 0, 0, []), (0, 0, [], [], [], 0, 0), 0)).2).2).2).2).1).2).2).2).1, ((((((((((List.getD arr_0.1 0 (false, 0, (⟨#[]⟩ : ByteArray), (0, 0, 0, 0, 0, 0, [], 0, 0, 0, 0, 0, []), (0, 0, [], [], [], 0, 0), 0)).2).2).2).2).1).2).2).2).2).1, (((((((((((List.getD arr_0.1 0 (false, 0, (⟨#[]⟩ : ByteArray), (0, 0, 0, 0, 0, 0, [], 0, 0, 0, 0, 0, []), (0, 0, [], [], [], 0, 0), 0)).2).2).2).2).1).2).2).2).2).2)), (((((List.getD arr_0.1 0 (false, 0, (⟨#[]⟩ : ByteArray), (0, 0, 0, 0, 0, 0, [], 0, 0, 0, 0, 0, []), (0, 0, [], [], [], 0, 0), 0)).2).2).2).2).2) x_1.2.2.2.2) fun (r2 : ((Bool × Int × ByteArray × (Int × Int × Int × Int × Int × Int × (List Int) × Int × Int × Int × Int × Int × List (Int × Int × Int)) × (Int × Int × (List (Int × ByteArray)) × (List (Int × ByteArray)) × (List (Int × Int × Int × ByteArray × Int)) × Int × Int) × Int) × (List (Int × Int × Int × Int × Int × Int × (List Int) × Int × Int × ByteArray)) × Bool × Unit) × Unit) =>
    bif !r2.1.2.2.1 then
     some ((arr_0, 1, ()), ())
    else
     Option.bind (pleachref21_with arr_0 0 r2.1.1 r2.1.2.1) fun (r3 : (((List (Bool × Int × ByteArray × (Int × Int × Int × Int × Int × Int × (List Int) × Int × Int × Int × Int × Int × List (Int × Int × Int)) × (Int × Int × (List (Int × ByteArray)) × (List (Int × ByteArray)) × (List (Int × Int × Int × ByteArray × Int)) × Int × Int) × Int)) × (List (Int × ByteArray × Bool)) × (List ByteArray) × Int × (List (List Int)) × List (List ((List Int) × Int))) × Unit) × Unit) =>
     bif Nat.ble (0 + r3.1.1.2.2.1.length) 1073741824 then
      bif Nat.ble (([] ++ r3.1.1.2.2.1).length + 1) 1073741824 then
       some (((r3.1.1.1, r3.1.1.2.1, ([] ++ r3.1.1.2.2.1) ++ [x_1.2.2.2.2], r3.1.1.2.2.2), 0, ()), ())
      else none
     else none
   else none
  else
  bif x_1.1 == 6 then
   Option.bind (pleachref13_Gone arr_0.2.1 x_1.2.2.1) fun (r4 : ((List (Int × ByteArray × Bool)) × (Int × ByteArray × Bool) × Bool × Unit) × Unit) =>
   bif !r4.1.2.2.1 then
    some ((arr_0, 3, ()), ())
   else
    Option.bind (pleachref21_come (arr_0.1, r4.1.1, arr_0.2.2) r4.1.2.1) fun (r5 : (((List (Bool × Int × ByteArray × (Int × Int × Int × Int × Int × Int × (List Int) × Int × Int × Int × Int × Int × List (Int × Int × Int)) × (Int × Int × (List (Int × ByteArray)) × (List (Int × ByteArray)) × (List (Int × Int × Int × ByteArray × Int)) × Int × Int) × Int)) × (List (Int × ByteArray × Bool)) × (List ByteArray) × Int × (List (List Int)) × List (List ((List Int) × Int))) × Unit) × Unit) =>
    some ((r5.1.1, 0, ()), ())
  else
  bif x_1.1 == 7 then
   Option.bind (pleachref13_Gone arr_0.2.1 x_1.2.2.1) fun (r6 : ((List (Int × ByteArray × Bool)) × (Int × ByteArray × Bool) × Bool × Unit) × Unit) =>
   bif !r6.1.2.2.1 then
    some ((arr_0, 3, ()), ())
   else
    some (((arr_0.1, r6.1.1, arr_0.2.2), 0, ()), ())
  else
  bif x_1.1 == 8 then
   Option.bind (pleachref13_Twice arr_0.2.1 x_1.2.2.1) fun (r7 : ((List (Int × ByteArray × Bool)) × Bool × Unit) × Unit) =>
   bif !r7.1.2.1 then
    some ((arr_0, 3, ()), ())
   else
    some (((arr_0.1, r7.1.1, arr_0.2.2), 0, ()), ())
  else
  bif x_1.1 == 9 then
   Option.bind (pleachref13_Turned arr_0.2.1 x_1.2.2.1 x_1.2.2.2.1) fun (r8 : ((List (Int × ByteArray × Bool)) × Bool × Unit) × Unit) =>
   bif !r8.1.2.1 then
    some ((arr_0, 3, ()), ())
   else
    some (((arr_0.1, r8.1.1, arr_0.2.2), 0, ()), ())
  else
   some ((arr_0, 1, ()), ())
 else
 bif x_1.1 == 2 then
  bif x_1.1 == 2 then
   bif decide (x_1.2.1 < 1) then
    some ((arr_0, 1, ()), ())
   else
   bif decide (x_1.2.1 > (arr_0.1.length : Int)) then
    some ((arr_0, 1, ()), ())
   else
    Option.bind (pleachref21_of arr_0 x_1) fun (r9 : (((List (Bool × Int × ByteArray × (Int × Int × Int × Int × Int × Int × (List Int) × Int × Int × Int × Int × Int × List (Int × Int × Int)) × (Int × Int × (List (Int × ByteArray)) × (List (Int × ByteArray)) × (List (Int × Int × Int × ByteArray × Int)) × Int × Int) × Int)) × (List (Int × ByteArray × Bool)) × (List ByteArray) × Int × (List (List Int)) × List (List ((List Int) × Int))) × Int × Unit) × Unit) =>
    some ((r9.1.1, r9.1.2.1, ()), ())
  else
  bif x_1.1 == 4 then
   bif decide (0 < (arr_0.1.length : Int)) then
    Option.bind (pleachref19_Say ((List.getD arr_0.1 0 (false, 0, (⟨#[]⟩ : ByteArray), (0, 0, 0, 0, 0, 0, [], 0, 0, 0, 0, 0, []), (0, 0, [], [], [], 0, 0), 0)).1, ((List.getD arr_0.1 0 (false, 0, (⟨#[]⟩ : ByteArray), (0, 0, 0, 0, 0, 0, [], 0, 0, 0, 0, 0, []), (0, 0, [], [], [], 0, 0), 0)).2).1, (((List.getD arr_0.1 0 (false, 0, (⟨#[]⟩ : ByteArray), (0, 0, 0, 0, 0, 0, [], 0, 0, 0, 0, 0, []), (0, 0, [], [], [], 0, 0), 0)).2).2).1, ((((((List.getD arr_0.1 0 (false, 0, (⟨#[]⟩ : ByteArray), (0, 0, 0, 0, 0, 0, [], 0, 0, 0, 0, 0, []), (0, 0, [], [], [], 0, 0), 0)).2).2).2).1).1, ((((((List.getD arr_0.1 0 (false, 0, (⟨#[]⟩ : ByteArray), (0, 0, 0, 0, 0, 0, [], 0, 0, 0, 0, 0, []), (0, 0, [], [], [], 0, 0), 0)).2).2).2).1).2).1, (((((((List.getD arr_0.1 0 (false, 0, (⟨#[]⟩ : ByteArray), (0, 0, 0, 0, 0, 0, [], 0, 0, 0, 0, 0, []), (0, 0, [], [], [], 0, 0), 0)).2).2).2).1).2).2).1, ((((((((List.getD arr_0.1 0 (false, 0, (⟨#[]⟩ : ByteArray), (0, 0, 0, 0, 0, 0, [], 0, 0, 0, 0, 0, []), (0, 0, [], [], [], 0, 0), 0)).2).2).2).1).2).2).2).1, (((((((((List.getD arr_0.1 0 (false, 0, (⟨#[]⟩ : ByteArray), (0, 0, 0, 0, 0, 0, [], 0, 0, 0, 0, 0, []), (0, 0, [], [], [], 0, 0), 0)).2).2).2).1).2).2).2).2).1, ((((((((((List.getD arr_0.1 0 (false, 0, (⟨#[]⟩ : ByteArray), (0, 0, 0, 0, 0, 0, [], 0, 0, 0, 0, 0, []), (0, 0, [], [], [], 0, 0), 0)).2).2).2).1).2).2).2).2).2).1, (((((((((((List.getD arr_0.1 0 (false, 0, (⟨#[]⟩ : ByteArray), (0, 0, 0, 0, 0, 0, [], 0, 0, 0, 0, 0, []), (0, 0, [], [], [], 0, 0), 0)).2).2).2).1).2).2).2).2).2).2).1, ((((((((((((List.getD arr_0.1 0 (false, 0, (⟨#[]⟩ : ByteArray), (0, 0, 0, 0, 0, 0, [], 0, 0, 0, 0, 0, []), (0, 0, [], [], [], 0, 0), 0)).2).2).2).1).2).2).2).2).2).2).2).1, (((((((((((((List.getD arr_0.1 0 (false, 0, (⟨#[]⟩ : ByteArray), (0, 0, 0, 0, 0, 0, [], 0, 0, 0, 0, 0, []), (0, 0, [], [], [], 0, 0), 0)).2).2).2).1).2).2).2).2).2).2).2).2).1, ((((((((((((((List.getD arr_0.1 0 (false, 0, (⟨#[]⟩ : ByteArray), (0, 0, 0, 0, 0, 0, [], 0, 0, 0, 0, 0, []), (0, 0, [], [], [], 0, 0), 0)).2).2).2).1).2).2).2).2).2).2).2).2).2).1, (((((((((((((((List.getD arr_0.1 0 (false, 0, (⟨#[]⟩ : ByteArray), (0, 0, 0, 0, 0, 0, [], 0, 0, 0, 0, 0, []), (0, 0, [], [], [], 0, 0), 0)).2).2).2).1).2).2).2).2).2).2).2).2).2).2).1, ((((((((((((((((List.getD arr_0.1 0 (false, 0, (⟨#[]⟩ : ByteArray), (0, 0, 0, 0, 0, 0, [], 0, 0, 0, 0, 0, []), (0, 0, [], [], [], 0, 0), 0)).2).2).2).1).2).2).2).2).2).2).2).2).2).2).2)), (((((((List.getD arr_0.1 0 (false, 0, (⟨#[]⟩ : ByteArray), (0, 0, 0, 0, 0, 0, [], 0, 0, 0, 0, 0, []), (0, 0, [], [], [], 0, 0), 0)).2).2).2).2).1).1, (((((((List.getD arr_0.1 0 (false, 0, (⟨#[]⟩ : ByteArray), (0, 0, 0, 0, 0, 0, [], 0, 0, 0, 0, 0, []), (0, 0, [], [], [], 0, 0), 0)).2).2).2).2).1).2).1, ((((((((List.getD arr_0.1 0 (false, 0, (⟨#[]⟩ : ByteArray), (0, 0, 0, 0, 0, 0, [], 0, 0, 0, 0, 0, []), (0, 0, [], [], [], 0, 0), 0)).2).2).2).2).1).2).2).1, (((((((((List.getD arr_0.1 0 (false, 0, (⟨#[]⟩ : ByteArray), (0, 0, 0, 0, 0, 0, [], 0, 0, 0, 0, 0, []), (0, 0, [], [], [], 0, 0), 0)).2).2).2).2).1).2).2).2).1, ((((((((((List.getD arr_0.1 0 (false, 0, (⟨#[]⟩ : ByteArray), (0, 0, 0, 0, 0, 0, [], 0, 0, 0, 0, 0, []), (0, 0, [], [], [], 0, 0), 0)).2).2).2).2).1).2).2).2).2).1, (((((((((((List.getD arr_0.1 0 (false, 0, (⟨#[]⟩ : ByteArray), (0, 0, 0, 0, 0, 0, [], 0, 0, 0, 0, 0, []), (0, 0, [], [], [], 0, 0), 0)).2).2).2).2).1).2).2).2).2).2)), (((((List.getD arr_0.1 0 (false, 0, (⟨#[]⟩ : ByteArray), (0, 0, 0, 0, 0, 0, [], 0, 0, 0, 0, 0, []), (0, 0, [], [], [], 0, 0), 0)).2).2).2).2).2) x_1.2.2.2.2) fun (r10 : ((Bool × Int × ByteArray × (Int × Int × Int × Int × Int × Int × (List Int) × Int × Int × Int × Int × Int × List (Int × Int × Int)) × (Int × Int × (List (Int × ByteArray)) × (List (Int × ByteArray)) × (List (Int × Int × Int × ByteArray × Int)) × Int × Int) × Int) × (List (Int × Int × Int × Int × Int × Int × (List Int) × Int × Int × ByteArray)) × Bool × Unit) × Unit) =>
    bif !r10.1.2.2.1 then
     some ((arr_0, 1, ()), ())
    else
     Option.bind (pleachref21_with arr_0 0 r10.1.1 r10.1.2.1) fun (r11 : (((List (Bool × Int × ByteArray × (Int × Int × Int × Int × Int × Int × (List Int) × Int × Int × Int × Int × Int × List (Int × Int × Int)) × (Int × Int × (List (Int × ByteArray)) × (List (Int × ByteArray)) × (List (Int × Int × Int × ByteArray × Int)) × Int × Int) × Int)) × (List (Int × ByteArray × Bool)) × (List ByteArray) × Int × (List (List Int)) × List (List ((List Int) × Int))) × Unit) × Unit) =>
     bif Nat.ble (0 + r11.1.1.2.2.1.length) 1073741824 then
      bif Nat.ble (([] ++ r11.1.1.2.2.1).length + 1) 1073741824 then
       some (((r11.1.1.1, r11.1.1.2.1, ([] ++ r11.1.1.2.2.1) ++ [x_1.2.2.2.2], r11.1.1.2.2.2), 0, ()), ())
      else none
     else none
   else none
  else
  bif x_1.1 == 6 then
   Option.bind (pleachref13_Gone arr_0.2.1 x_1.2.2.1) fun (r12 : ((List (Int × ByteArray × Bool)) × (Int × ByteArray × Bool) × Bool × Unit) × Unit) =>
   bif !r12.1.2.2.1 then
    some ((arr_0, 3, ()), ())
   else
    Option.bind (pleachref21_come (arr_0.1, r12.1.1, arr_0.2.2) r12.1.2.1) fun (r13 : (((List (Bool × Int × ByteArray × (Int × Int × Int × Int × Int × Int × (List Int) × Int × Int × Int × Int × Int × List (Int × Int × Int)) × (Int × Int × (List (Int × ByteArray)) × (List (Int × ByteArray)) × (List (Int × Int × Int × ByteArray × Int)) × Int × Int) × Int)) × (List (Int × ByteArray × Bool)) × (List ByteArray) × Int × (List (List Int)) × List (List ((List Int) × Int))) × Unit) × Unit) =>
    some ((r13.1.1, 0, ()), ())
  else
  bif x_1.1 == 7 then
   Option.bind (pleachref13_Gone arr_0.2.1 x_1.2.2.1) fun (r14 : ((List (Int × ByteArray × Bool)) × (Int × ByteArray × Bool) × Bool × Unit) × Unit) =>
   bif !r14.1.2.2.1 then
    some ((arr_0, 3, ()), ())
   else
    some (((arr_0.1, r14.1.1, arr_0.2.2), 0, ()), ())
  else
  bif x_1.1 == 8 then
   Option.bind (pleachref13_Twice arr_0.2.1 x_1.2.2.1) fun (r15 : ((List (Int × ByteArray × Bool)) × Bool × Unit) × Unit) =>
   bif !r15.1.2.1 then
    some ((arr_0, 3, ()), ())
   else
    some (((arr_0.1, r15.1.1, arr_0.2.2), 0, ()), ())
  else
  bif x_1.1 == 9 then
   Option.bind (pleachref13_Turned arr_0.2.1 x_1.2.2.1 x_1.2.2.2.1) fun (r16 : ((List (Int × ByteArray × Bool)) × Bool × Unit) × Unit) =>
   bif !r16.1.2.1 then
    some ((arr_0, 3, ()), ())
   else
    some (((arr_0.1, r16.1.1, arr_0.2.2), 0, ()), ())
  else
   some ((arr_0, 1, ()), ())
 else
 bif x_1.1 == 3 then
  bif x_1.1 == 3 then
   bif decide (x_1.2.1 < 1) then
    some ((arr_0, 1, ()), ())
   else
   bif decide (x_1.2.1 > (arr_0.1.length : Int)) then
    some ((arr_0, 1, ()), ())
   else
    Option.bind (pleachref21_of arr_0 x_1) fun (r17 : (((List (Bool × Int × ByteArray × (Int × Int × Int × Int × Int × Int × (List Int) × Int × Int × Int × Int × Int × List (Int × Int × Int)) × (Int × Int × (List (Int × ByteArray)) × (List (Int × ByteArray)) × (List (Int × Int × Int × ByteArray × Int)) × Int × Int) × Int)) × (List (Int × ByteArray × Bool)) × (List ByteArray) × Int × (List (List Int)) × List (List ((List Int) × Int))) × Int × Unit) × Unit) =>
    some ((r17.1.1, r17.1.2.1, ()), ())
  else
  bif x_1.1 == 4 then
   bif decide (0 < (arr_0.1.length : Int)) then
    Option.bind (pleachref19_Say ((List.getD arr_0.1 0 (false, 0, (⟨#[]⟩ : ByteArray), (0, 0, 0, 0, 0, 0, [], 0, 0, 0, 0, 0, []), (0, 0, [], [], [], 0, 0), 0)).1, ((List.getD arr_0.1 0 (false, 0, (⟨#[]⟩ : ByteArray), (0, 0, 0, 0, 0, 0, [], 0, 0, 0, 0, 0, []), (0, 0, [], [], [], 0, 0), 0)).2).1, (((List.getD arr_0.1 0 (false, 0, (⟨#[]⟩ : ByteArray), (0, 0, 0, 0, 0, 0, [], 0, 0, 0, 0, 0, []), (0, 0, [], [], [], 0, 0), 0)).2).2).1, ((((((List.getD arr_0.1 0 (false, 0, (⟨#[]⟩ : ByteArray), (0, 0, 0, 0, 0, 0, [], 0, 0, 0, 0, 0, []), (0, 0, [], [], [], 0, 0), 0)).2).2).2).1).1, ((((((List.getD arr_0.1 0 (false, 0, (⟨#[]⟩ : ByteArray), (0, 0, 0, 0, 0, 0, [], 0, 0, 0, 0, 0, []), (0, 0, [], [], [], 0, 0), 0)).2).2).2).1).2).1, (((((((List.getD arr_0.1 0 (false, 0, (⟨#[]⟩ : ByteArray), (0, 0, 0, 0, 0, 0, [], 0, 0, 0, 0, 0, []), (0, 0, [], [], [], 0, 0), 0)).2).2).2).1).2).2).1, ((((((((List.getD arr_0.1 0 (false, 0, (⟨#[]⟩ : ByteArray), (0, 0, 0, 0, 0, 0, [], 0, 0, 0, 0, 0, []), (0, 0, [], [], [], 0, 0), 0)).2).2).2).1).2).2).2).1, (((((((((List.getD arr_0.1 0 (false, 0, (⟨#[]⟩ : ByteArray), (0, 0, 0, 0, 0, 0, [], 0, 0, 0, 0, 0, []), (0, 0, [], [], [], 0, 0), 0)).2).2).2).1).2).2).2).2).1, ((((((((((List.getD arr_0.1 0 (false, 0, (⟨#[]⟩ : ByteArray), (0, 0, 0, 0, 0, 0, [], 0, 0, 0, 0, 0, []), (0, 0, [], [], [], 0, 0), 0)).2).2).2).1).2).2).2).2).2).1, (((((((((((List.getD arr_0.1 0 (false, 0, (⟨#[]⟩ : ByteArray), (0, 0, 0, 0, 0, 0, [], 0, 0, 0, 0, 0, []), (0, 0, [], [], [], 0, 0), 0)).2).2).2).1).2).2).2).2).2).2).1, ((((((((((((List.getD arr_0.1 0 (false, 0, (⟨#[]⟩ : ByteArray), (0, 0, 0, 0, 0, 0, [], 0, 0, 0, 0, 0, []), (0, 0, [], [], [], 0, 0), 0)).2).2).2).1).2).2).2).2).2).2).2).1, (((((((((((((List.getD arr_0.1 0 (false, 0, (⟨#[]⟩ : ByteArray), (0, 0, 0, 0, 0, 0, [], 0, 0, 0, 0, 0, []), (0, 0, [], [], [], 0, 0), 0)).2).2).2).1).2).2).2).2).2).2).2).2).1, ((((((((((((((List.getD arr_0.1 0 (false, 0, (⟨#[]⟩ : ByteArray), (0, 0, 0, 0, 0, 0, [], 0, 0, 0, 0, 0, []), (0, 0, [], [], [], 0, 0), 0)).2).2).2).1).2).2).2).2).2).2).2).2).2).1, (((((((((((((((List.getD arr_0.1 0 (false, 0, (⟨#[]⟩ : ByteArray), (0, 0, 0, 0, 0, 0, [], 0, 0, 0, 0, 0, []), (0, 0, [], [], [], 0, 0), 0)).2).2).2).1).2).2).2).2).2).2).2).2).2).2).1, ((((((((((((((((List.getD arr_0.1 0 (false, 0, (⟨#[]⟩ : ByteArray), (0, 0, 0, 0, 0, 0, [], 0, 0, 0, 0, 0, []), (0, 0, [], [], [], 0, 0), 0)).2).2).2).1).2).2).2).2).2).2).2).2).2).2).2)), (((((((List.getD arr_0.1 0 (false, 0, (⟨#[]⟩ : ByteArray), (0, 0, 0, 0, 0, 0, [], 0, 0, 0, 0, 0, []), (0, 0, [], [], [], 0, 0), 0)).2).2).2).2).1).1, (((((((List.getD arr_0.1 0 (false, 0, (⟨#[]⟩ : ByteArray), (0, 0, 0, 0, 0, 0, [], 0, 0, 0, 0, 0, []), (0, 0, [], [], [], 0, 0), 0)).2).2).2).2).1).2).1, ((((((((List.getD arr_0.1 0 (false, 0, (⟨#[]⟩ : ByteArray), (0, 0, 0, 0, 0, 0, [], 0, 0, 0, 0, 0, []), (0, 0, [], [], [], 0, 0), 0)).2).2).2).2).1).2).2).1, (((((((((List.getD arr_0.1 0 (false, 0, (⟨#[]⟩ : ByteArray), (0, 0, 0, 0, 0, 0, [], 0, 0, 0, 0, 0, []), (0, 0, [], [], [], 0, 0), 0)).2).2).2).2).1).2).2).2).1, ((((((((((List.getD arr_0.1 0 (false, 0, (⟨#[]⟩ : ByteArray), (0, 0, 0, 0, 0, 0, [], 0, 0, 0, 0, 0, []), (0, 0, [], [], [], 0, 0), 0)).2).2).2).2).1).2).2).2).2).1, (((((((((((List.getD arr_0.1 0 (false, 0, (⟨#[]⟩ : ByteArray), (0, 0, 0, 0, 0, 0, [], 0, 0, 0, 0, 0, []), (0, 0, [], [], [], 0, 0), 0)).2).2).2).2).1).2).2).2).2).2)), (((((List.getD arr_0.1 0 (false, 0, (⟨#[]⟩ : ByteArray), (0, 0, 0, 0, 0, 0, [], 0, 0, 0, 0, 0, []), (0, 0, [], [], [], 0, 0), 0)).2).2).2).2).2) x_1.2.2.2.2) fun (r18 : ((Bool × Int × ByteArray × (Int × Int × Int × Int × Int × Int × (List Int) × Int × Int × Int × Int × Int × List (Int × Int × Int)) × (Int × Int × (List (Int × ByteArray)) × (List (Int × ByteArray)) × (List (Int × Int × Int × ByteArray × Int)) × Int × Int) × Int) × (List (Int × Int × Int × Int × Int × Int × (List Int) × Int × Int × ByteArray)) × Bool × Unit) × Unit) =>
    bif !r18.1.2.2.1 then
     some ((arr_0, 1, ()), ())
    else
     Option.bind (pleachref21_with arr_0 0 r18.1.1 r18.1.2.1) fun (r19 : (((List (Bool × Int × ByteArray × (Int × Int × Int × Int × Int × Int × (List Int) × Int × Int × Int × Int × Int × List (Int × Int × Int)) × (Int × Int × (List (Int × ByteArray)) × (List (Int × ByteArray)) × (List (Int × Int × Int × ByteArray × Int)) × Int × Int) × Int)) × (List (Int × ByteArray × Bool)) × (List ByteArray) × Int × (List (List Int)) × List (List ((List Int) × Int))) × Unit) × Unit) =>
     bif Nat.ble (0 + r19.1.1.2.2.1.length) 1073741824 then
      bif Nat.ble (([] ++ r19.1.1.2.2.1).length + 1) 1073741824 then
       some (((r19.1.1.1, r19.1.1.2.1, ([] ++ r19.1.1.2.2.1) ++ [x_1.2.2.2.2], r19.1.1.2.2.2), 0, ()), ())
      else none
     else none
   else none
  else
  bif x_1.1 == 6 then
   Option.bind (pleachref13_Gone arr_0.2.1 x_1.2.2.1) fun (r20 : ((List (Int × ByteArray × Bool)) × (Int × ByteArray × Bool) × Bool × Unit) × Unit) =>
   bif !r20.1.2.2.1 then
    some ((arr_0, 3, ()), ())
   else
    Option.bind (pleachref21_come (arr_0.1, r20.1.1, arr_0.2.2) r20.1.2.1) fun (r21 : (((List (Bool × Int × ByteArray × (Int × Int × Int × Int × Int × Int × (List Int) × Int × Int × Int × Int × Int × List (Int × Int × Int)) × (Int × Int × (List (Int × ByteArray)) × (List (Int × ByteArray)) × (List (Int × Int × Int × ByteArray × Int)) × Int × Int) × Int)) × (List (Int × ByteArray × Bool)) × (List ByteArray) × Int × (List (List Int)) × List (List ((List Int) × Int))) × Unit) × Unit) =>
    some ((r21.1.1, 0, ()), ())
  else
  bif x_1.1 == 7 then
   Option.bind (pleachref13_Gone arr_0.2.1 x_1.2.2.1) fun (r22 : ((List (Int × ByteArray × Bool)) × (Int × ByteArray × Bool) × Bool × Unit) × Unit) =>
   bif !r22.1.2.2.1 then
    some ((arr_0, 3, ()), ())
   else
    some (((arr_0.1, r22.1.1, arr_0.2.2), 0, ()), ())
  else
  bif x_1.1 == 8 then
   Option.bind (pleachref13_Twice arr_0.2.1 x_1.2.2.1) fun (r23 : ((List (Int × ByteArray × Bool)) × Bool × Unit) × Unit) =>
   bif !r23.1.2.1 then
    some ((arr_0, 3, ()), ())
   else
    some (((arr_0.1, r23.1.1, arr_0.2.2), 0, ()), ())
  else
  bif x_1.1 == 9 then
   Option.bind (pleachref13_Turned arr_0.2.1 x_1.2.2.1 x_1.2.2.2.1) fun (r24 : ((List (Int × ByteArray × Bool)) × Bool × Unit) × Unit) =>
   bif !r24.1.2.1 then
    some ((arr_0, 3, ()), ())
   else
    some (((arr_0.1, r24.1.1, arr_0.2.2), 0, ()), ())
  else
   some ((arr_0, 1, ()), ())
 else
 bif x_1.1 == 5 then
  bif decide (x_1.2.1 < 1) then
   some ((arr_0, 1, ()), ())
  else
  bif decide (x_1.2.1 > (arr_0.1.length : Int)) then
   some ((arr_0, 1, ()), ())
  else
   Option.bind (pleachref21_of arr_0 x_1) fun (r25 : (((List (Bool × Int × ByteArray × (Int × Int × Int × Int × Int × Int × (List Int) × Int × Int × Int × Int × Int × List (Int × Int × Int)) × (Int × Int × (List (Int × ByteArray)) × (List (Int × ByteArray)) × (List (Int × Int × Int × ByteArray × Int)) × Int × Int) × Int)) × (List (Int × ByteArray × Bool)) × (List ByteArray) × Int × (List (List Int)) × List (List ((List Int) × Int))) × Int × Unit) × Unit) =>
   some ((r25.1.1, r25.1.2.1, ()), ())
 else
 bif x_1.1 == 4 then
  bif decide (0 < (arr_0.1.length : Int)) then
   Option.bind (pleachref19_Say ((List.getD arr_0.1 0 (false, 0, (⟨#[]⟩ : ByteArray), (0, 0, 0, 0, 0, 0, [], 0, 0, 0, 0, 0, []), (0, 0, [], [], [], 0, 0), 0)).1, ((List.getD arr_0.1 0 (false, 0, (⟨#[]⟩ : ByteArray), (0, 0, 0, 0, 0, 0, [], 0, 0, 0, 0, 0, []), (0, 0, [], [], [], 0, 0), 0)).2).1, (((List.getD arr_0.1 0 (false, 0, (⟨#[]⟩ : ByteArray), (0, 0, 0, 0, 0, 0, [], 0, 0, 0, 0, 0, []), (0, 0, [], [], [], 0, 0), 0)).2).2).1, ((((((List.getD arr_0.1 0 (false, 0, (⟨#[]⟩ : ByteArray), (0, 0, 0, 0, 0, 0, [], 0, 0, 0, 0, 0, []), (0, 0, [], [], [], 0, 0), 0)).2).2).2).1).1, ((((((List.getD arr_0.1 0 (false, 0, (⟨#[]⟩ : ByteArray), (0, 0, 0, 0, 0, 0, [], 0, 0, 0, 0, 0, []), (0, 0, [], [], [], 0, 0), 0)).2).2).2).1).2).1, (((((((List.getD arr_0.1 0 (false, 0, (⟨#[]⟩ : ByteArray), (0, 0, 0, 0, 0, 0, [], 0, 0, 0, 0, 0, []), (0, 0, [], [], [], 0, 0), 0)).2).2).2).1).2).2).1, ((((((((List.getD arr_0.1 0 (false, 0, (⟨#[]⟩ : ByteArray), (0, 0, 0, 0, 0, 0, [], 0, 0, 0, 0, 0, []), (0, 0, [], [], [], 0, 0), 0)).2).2).2).1).2).2).2).1, (((((((((List.getD arr_0.1 0 (false, 0, (⟨#[]⟩ : ByteArray), (0, 0, 0, 0, 0, 0, [], 0, 0, 0, 0, 0, []), (0, 0, [], [], [], 0, 0), 0)).2).2).2).1).2).2).2).2).1, ((((((((((List.getD arr_0.1 0 (false, 0, (⟨#[]⟩ : ByteArray), (0, 0, 0, 0, 0, 0, [], 0, 0, 0, 0, 0, []), (0, 0, [], [], [], 0, 0), 0)).2).2).2).1).2).2).2).2).2).1, (((((((((((List.getD arr_0.1 0 (false, 0, (⟨#[]⟩ : ByteArray), (0, 0, 0, 0, 0, 0, [], 0, 0, 0, 0, 0, []), (0, 0, [], [], [], 0, 0), 0)).2).2).2).1).2).2).2).2).2).2).1, ((((((((((((List.getD arr_0.1 0 (false, 0, (⟨#[]⟩ : ByteArray), (0, 0, 0, 0, 0, 0, [], 0, 0, 0, 0, 0, []), (0, 0, [], [], [], 0, 0), 0)).2).2).2).1).2).2).2).2).2).2).2).1, (((((((((((((List.getD arr_0.1 0 (false, 0, (⟨#[]⟩ : ByteArray), (0, 0, 0, 0, 0, 0, [], 0, 0, 0, 0, 0, []), (0, 0, [], [], [], 0, 0), 0)).2).2).2).1).2).2).2).2).2).2).2).2).1, ((((((((((((((List.getD arr_0.1 0 (false, 0, (⟨#[]⟩ : ByteArray), (0, 0, 0, 0, 0, 0, [], 0, 0, 0, 0, 0, []), (0, 0, [], [], [], 0, 0), 0)).2).2).2).1).2).2).2).2).2).2).2).2).2).1, (((((((((((((((List.getD arr_0.1 0 (false, 0, (⟨#[]⟩ : ByteArray), (0, 0, 0, 0, 0, 0, [], 0, 0, 0, 0, 0, []), (0, 0, [], [], [], 0, 0), 0)).2).2).2).1).2).2).2).2).2).2).2).2).2).2).1, ((((((((((((((((List.getD arr_0.1 0 (false, 0, (⟨#[]⟩ : ByteArray), (0, 0, 0, 0, 0, 0, [], 0, 0, 0, 0, 0, []), (0, 0, [], [], [], 0, 0), 0)).2).2).2).1).2).2).2).2).2).2).2).2).2).2).2)), (((((((List.getD arr_0.1 0 (false, 0, (⟨#[]⟩ : ByteArray), (0, 0, 0, 0, 0, 0, [], 0, 0, 0, 0, 0, []), (0, 0, [], [], [], 0, 0), 0)).2).2).2).2).1).1, (((((((List.getD arr_0.1 0 (false, 0, (⟨#[]⟩ : ByteArray), (0, 0, 0, 0, 0, 0, [], 0, 0, 0, 0, 0, []), (0, 0, [], [], [], 0, 0), 0)).2).2).2).2).1).2).1, ((((((((List.getD arr_0.1 0 (false, 0, (⟨#[]⟩ : ByteArray), (0, 0, 0, 0, 0, 0, [], 0, 0, 0, 0, 0, []), (0, 0, [], [], [], 0, 0), 0)).2).2).2).2).1).2).2).1, (((((((((List.getD arr_0.1 0 (false, 0, (⟨#[]⟩ : ByteArray), (0, 0, 0, 0, 0, 0, [], 0, 0, 0, 0, 0, []), (0, 0, [], [], [], 0, 0), 0)).2).2).2).2).1).2).2).2).1, ((((((((((List.getD arr_0.1 0 (false, 0, (⟨#[]⟩ : ByteArray), (0, 0, 0, 0, 0, 0, [], 0, 0, 0, 0, 0, []), (0, 0, [], [], [], 0, 0), 0)).2).2).2).2).1).2).2).2).2).1, (((((((((((List.getD arr_0.1 0 (false, 0, (⟨#[]⟩ : ByteArray), (0, 0, 0, 0, 0, 0, [], 0, 0, 0, 0, 0, []), (0, 0, [], [], [], 0, 0), 0)).2).2).2).2).1).2).2).2).2).2)), (((((List.getD arr_0.1 0 (false, 0, (⟨#[]⟩ : ByteArray), (0, 0, 0, 0, 0, 0, [], 0, 0, 0, 0, 0, []), (0, 0, [], [], [], 0, 0), 0)).2).2).2).2).2) x_1.2.2.2.2) fun (r26 : ((Bool × Int × ByteArray × (Int × Int × Int × Int × Int × Int × (List Int) × Int × Int × Int × Int × Int × List (Int × Int × Int)) × (Int × Int × (List (Int × ByteArray)) × (List (Int × ByteArray)) × (List (Int × Int × Int × ByteArray × Int)) × Int × Int) × Int) × (List (Int × Int × Int × Int × Int × Int × (List Int) × Int × Int × ByteArray)) × Bool × Unit) × Unit) =>
   bif !r26.1.2.2.1 then
    some ((arr_0, 1, ()), ())
   else
    Option.bind (pleachref21_with arr_0 0 r26.1.1 r26.1.2.1) fun (r27 : (((List (Bool × Int × ByteArray × (Int × Int × Int × Int × Int × Int × (List Int) × Int × Int × Int × Int × Int × List (Int × Int × Int)) × (Int × Int × (List (Int × ByteArray)) × (List (Int × ByteArray)) × (List (Int × Int × Int × ByteArray × Int)) × Int × Int) × Int)) × (List (Int × ByteArray × Bool)) × (List ByteArray) × Int × (List (List Int)) × List (List ((List Int) × Int))) × Unit) × Unit) =>
    bif Nat.ble (0 + r27.1.1.2.2.1.length) 1073741824 then
     bif Nat.ble (([] ++ r27.1.1.2.2.1).length + 1) 1073741824 then
      some (((r27.1.1.1, r27.1.1.2.1, ([] ++ r27.1.1.2.2.1) ++ [x_1.2.2.2.2], r27.1.1.2.2.2), 0, ()), ())
     else none
    else none
  else none
 else
 bif x_1.1 == 6 then
  Option.bind (pleachref13_Gone arr_0.2.1 x_1.2.2.1) fun (r28 : ((List (Int × ByteArray × Bool)) × (Int × ByteArray × Bool) × Bool × Unit) × Unit) =>
  bif !r28.1.2.2.1 then
   some ((arr_0, 3, ()), ())
  else
   Option.bind (pleachref21_come (arr_0.1, r28.1.1, arr_0.2.2) r28.1.2.1) fun (r29 : (((List (Bool × Int × ByteArray × (Int × Int × Int × Int × Int × Int × (List Int) × Int × Int × Int × Int × Int × List (Int × Int × Int)) × (Int × Int × (List (Int × ByteArray)) × (List (Int × ByteArray)) × (List (Int × Int × Int × ByteArray × Int)) × Int × Int) × Int)) × (List (Int × ByteArray × Bool)) × (List ByteArray) × Int × (List (List Int)) × List (List ((List Int) × Int))) × Unit) × Unit) =>
   some ((r29.1.1, 0, ()), ())
 else
 bif x_1.1 == 7 then
  Option.bind (pleachref13_Gone arr_0.2.1 x_1.2.2.1) fun (r30 : ((List (Int × ByteArray × Bool)) × (Int × ByteArray × Bool) × Bool × Unit) × Unit) =>
  bif !r30.1.2.2.1 then
   some ((arr_0, 3, ()), ())
  else
   some (((arr_0.1, r30.1.1, arr_0.2.2), 0, ()), ())
 else
 bif x_1.1 == 8 then
  Option.bind (pleachref13_Twice arr_0.2.1 x_1.2.2.1) fun (r31 : ((List (Int × ByteArray × Bool)) × Bool × Unit) × Unit) =>
  bif !r31.1.2.1 then
   some ((arr_0, 3, ()), ())
  else
   some (((arr_0.1, r31.1.1, arr_0.2.2), 0, ()), ())
 else
 bif x_1.1 == 9 then
  Option.bind (pleachref13_Turned arr_0.2.1 x_1.2.2.1 x_1.2.2.2.1) fun (r32 : ((List (Int × ByteArray × Bool)) × Bool × Unit) × Unit) =>
  bif !r32.1.2.1 then
   some ((arr_0, 3, ()), ())
  else
   some (((arr_0.1, r32.1.1, arr_0.2.2), 0, ()), ())
 else
  some ((arr_0, 1, ()), ())
theorem pleachref21_Do_eq (arr_0 : (List (Bool × Int × ByteArray × (Int × Int × Int × Int × Int × Int × (List Int) × Int × Int × Int × Int × Int × List (Int × Int × Int)) × (Int × Int × (List (Int × ByteArray)) × (List (Int × ByteArray)) × (List (Int × Int × Int × ByteArray × Int)) × Int × Int) × Int)) × (List (Int × ByteArray × Bool)) × (List ByteArray) × Int × (List (List Int)) × List (List ((List Int) × Int))) (x_1 : Int × Int × Int × Int × ByteArray) : evFn pleachref21_Do_Γ tab pleachref21_Do_fi 1 [.val t31, .val t69] [⟨t31, [false, false, false, false, false, false], none⟩, ⟨t2, [false], none⟩] Tryz.f23 (arr_0, x_1, ()) = pleachref21_Do arr_0 x_1 := by kernel_rfl
noncomputable def pleachref21_Do_e : Ent := ⟨[.val t31, .val t69], [⟨t31, [false, false, false, false, false, false], none⟩, ⟨t2, [false], none⟩], fun x => pleachref21_Do x.1 x.2.1⟩
theorem pleachref21_Do_good : Good tab.ty Tryz.prog 23 pleachref21_Do_e := by
  refine fn_good (Γ := pleachref21_Do_Γ) (fi := pleachref21_Do_fi) (n := 1) follows (gcons pleachref21_of_good (gcons pleachref19_Say_good (gcons pleachref21_with_good (gcons pleachref13_Gone_good (gcons pleachref21_come_good (gcons pleachref13_Twice_good (gcons pleachref13_Turned_good gnil))))))) tabok Tryz.func23 (by kernel_rfl) (by kernel_rfl) (fun x r h => ?_)
  obtain ⟨arr_0, x_1, _u⟩ := x
  exact (pleachref21_Do_eq arr_0 x_1).trans h
noncomputable def log_kind_Γ : Ctx := []
def log_kind_fi : Fi := { keep := [], vty := [], vals := [], live := [(0, [1]), (1, [4]), (2, [4, 5]), (3, [2]), (4, [9]), (5, [2]), (6, [2])] }
noncomputable def log_kind (e_0 : Int × Int × Int × ByteArray × Int) : Option ((IV × Unit) × Unit) :=
 bif e_0.1 == 1 then
  some ((IV.mk 135 [], ()), ())
 else
 bif e_0.1 == 2 then
  some ((IV.mk 106 [], ()), ())
 else
  some ((IV.nil, ()), ())
theorem log_kind_eq (e_0 : Int × Int × Int × ByteArray × Int) : evFn log_kind_Γ tab log_kind_fi 1 [.val t49] [⟨t20, [false], none⟩] Tryz.f55 (e_0, ()) = log_kind e_0 := by kernel_rfl
noncomputable def log_kind_e : Ent := ⟨[.val t49], [⟨t20, [false], none⟩], fun x => log_kind x.1⟩
theorem log_kind_good : Good tab.ty Tryz.prog 55 log_kind_e := by
  refine fn_good (Γ := log_kind_Γ) (fi := log_kind_fi) (n := 1) follows gnil tabok Tryz.func55 (by kernel_rfl) (by kernel_rfl) (fun x r h => ?_)
  obtain ⟨e_0, _u⟩ := x
  exact (log_kind_eq e_0).trans h
noncomputable def log_gap_fits_Γ : Ctx := []
def log_gap_fits_fi : Fi := { keep := [], vty := [], vals := [], live := [(0, [3, 11, 12, 13, 16, 17, 18, 19, 20, 21, 22, 23]), (1, [4])] }
noncomputable def log_gap_fits (x_0 : Unit) (e_1 : Int × Int × Int × ByteArray × Int) : Option ((Bool × Unit) × Unit) :=
 bif decide (e_1.2.2.1 ≥ e_1.2.1) then
  bif strEq e_1.2.2.2.1 (⟨#[]⟩ : ByteArray) then
   bif e_1.2.2.2.2 == 1 then
    some ((true, ()), ())
   else
    some ((e_1.2.2.2.2 == 2, ()), ())
  else
   some ((false, ()), ())
 else
  some ((false, ()), ())
theorem log_gap_fits_eq (x_0 : Unit) (e_1 : Int × Int × Int × ByteArray × Int) : evFn log_gap_fits_Γ tab log_gap_fits_fi 1 [.val t105, .val t49] [⟨t4, [false], none⟩] Tryz.f160 (x_0, e_1, ()) = log_gap_fits x_0 e_1 := by kernel_rfl
noncomputable def log_gap_fits_e : Ent := ⟨[.val t105, .val t49], [⟨t4, [false], none⟩], fun x => log_gap_fits x.1 x.2.1⟩
theorem log_gap_fits_good : Good tab.ty Tryz.prog 160 log_gap_fits_e := by
  refine fn_good (Γ := log_gap_fits_Γ) (fi := log_gap_fits_fi) (n := 1) follows gnil tabok Tryz.func160 (by kernel_rfl) (by kernel_rfl) (fun x r h => ?_)
  obtain ⟨x_0, e_1, _u⟩ := x
  exact (log_gap_fits_eq x_0 e_1).trans h
noncomputable def log_told_fits_Γ : Ctx := []
def log_told_fits_fi : Fi := { keep := [], vty := [], vals := [], live := [(0, [3, 11, 12, 13, 14, 17, 18, 19]), (1, [4])] }
noncomputable def log_told_fits (x_0 : Unit) (e_1 : Int × Int × Int × ByteArray × Int) : Option ((Bool × Unit) × Unit) :=
 bif e_1.2.2.1 == e_1.2.1 then
  bif decide ((e_1.2.2.2.1.size : Int) ≤ 12) then
   some ((e_1.2.2.2.2 == 0, ()), ())
  else
   some ((false, ()), ())
 else
  some ((false, ()), ())
theorem log_told_fits_eq (x_0 : Unit) (e_1 : Int × Int × Int × ByteArray × Int) : evFn log_told_fits_Γ tab log_told_fits_fi 1 [.val t105, .val t49] [⟨t4, [false], none⟩] Tryz.f161 (x_0, e_1, ()) = log_told_fits x_0 e_1 := by kernel_rfl
noncomputable def log_told_fits_e : Ent := ⟨[.val t105, .val t49], [⟨t4, [false], none⟩], fun x => log_told_fits x.1 x.2.1⟩
theorem log_told_fits_good : Good tab.ty Tryz.prog 161 log_told_fits_e := by
  refine fn_good (Γ := log_told_fits_Γ) (fi := log_told_fits_fi) (n := 1) follows gnil tabok Tryz.func161 (by kernel_rfl) (by kernel_rfl) (fun x r h => ?_)
  obtain ⟨x_0, e_1, _u⟩ := x
  exact (log_told_fits_eq x_0 e_1).trans h
noncomputable def log_May_Γ : Ctx := [(55, log_kind_e), (160, log_gap_fits_e), (161, log_told_fits_e)]
def log_May_fi : Fi := { keep := [], vty := [], vals := [], live := [(0, [0, 1, 21, 22, 23, 24, 27, 28, 29, 30, 33, 34, 35]), (1, [0, 1, 9, 21, 22, 23, 24, 27, 28, 29, 30, 33, 34, 35]), (2, [4]), (3, [1, 10, 11, 12, 21, 22, 23, 24, 27, 28, 29, 30, 33, 34, 35]), (4, [1, 10, 11, 12, 13, 21, 22, 23, 24, 27, 28, 29, 30, 33, 34, 35]), (5, [1, 6, 10, 11, 12, 21, 22, 23, 24, 27, 28, 29, 30, 33, 34, 35]), (6, [1, 6, 7, 10, 11, 12, 21, 22, 23, 24, 27, 28, 29, 30, 33, 34, 35]), (7, [6, 10, 11, 12, 21, 22, 23, 24, 27, 28, 29, 30, 33, 34, 35, 36]), (8, [4]), (9, [1, 10, 11, 12, 21, 22, 23, 24, 27, 28, 29, 30, 33, 34, 35]), (10, [1, 10, 11, 12, 21, 22, 23, 24, 27, 28, 29, 30, 33, 34, 35]), (11, [4])] }
noncomputable def log_May_B1 (L1 : Int → (List (Int × Int × Int × ByteArray × Int)) → Int → Int → Option ((Bool × Unit) × Unit)) (v1 : Int) (v2 : List (Int × Int × Int × ByteArray × Int)) (v3 : Int) (v4 : Int) : Option ((Bool × Unit) × Unit) :=
 bif decide (v4 < v3) then
  bif decide (0 ≤ v4) && decide (v4 < (v2.length : Int)) then
   Option.bind (log_kind ((List.getD v2 v4.toNat (0, 0, 0, (⟨#[]⟩ : ByteArray), 0)).1, ((List.getD v2 v4.toNat (0, 0, 0, (⟨#[]⟩ : ByteArray), 0)).2).1, (((List.getD v2 v4.toNat (0, 0, 0, (⟨#[]⟩ : ByteArray), 0)).2).2).1, ((((List.getD v2 v4.toNat (0, 0, 0, (⟨#[]⟩ : ByteArray), 0)).2).2).2))) fun (r5 : (IV × Unit) × Unit) =>
   bif IV.isNil r5.1.1 then
    some ((false, ()), ())
   else
   bif (((List.getD v2 v4.toNat (0, 0, 0, (⟨#[]⟩ : ByteArray), 0)).2).1) != v1 then
    some ((false, ()), ())
   else
   bif IV.is r5.1.1 106 then
    Option.bind (log_gap_fits () ((List.getD v2 v4.toNat (0, 0, 0, (⟨#[]⟩ : ByteArray), 0)).1, ((List.getD v2 v4.toNat (0, 0, 0, (⟨#[]⟩ : ByteArray), 0)).2).1, (((List.getD v2 v4.toNat (0, 0, 0, (⟨#[]⟩ : ByteArray), 0)).2).2).1, ((((List.getD v2 v4.toNat (0, 0, 0, (⟨#[]⟩ : ByteArray), 0)).2).2).2))) fun (r6 : (Bool × Unit) × Unit) =>
    bif !r6.1.1 then
     some ((false, ()), ())
    else
    bif decide ((((List.getD v2 v4.toNat (0, 0, 0, (⟨#[]⟩ : ByteArray), 0)).2).2).1 > 1000000) then
     some ((false, ()), ())
    else
     L1 (IntKind.wrap .i64 (((((List.getD v2 v4.toNat (0, 0, 0, (⟨#[]⟩ : ByteArray), 0)).2).2).1) + 1)) v2 v3 (IntKind.wrap .i64 (v4 + 1))
   else
   bif IV.is r5.1.1 135 then
    Option.bind (log_told_fits () ((List.getD v2 v4.toNat (0, 0, 0, (⟨#[]⟩ : ByteArray), 0)).1, ((List.getD v2 v4.toNat (0, 0, 0, (⟨#[]⟩ : ByteArray), 0)).2).1, (((List.getD v2 v4.toNat (0, 0, 0, (⟨#[]⟩ : ByteArray), 0)).2).2).1, ((((List.getD v2 v4.toNat (0, 0, 0, (⟨#[]⟩ : ByteArray), 0)).2).2).2))) fun (r7 : (Bool × Unit) × Unit) =>
    bif !r7.1.1 then
     some ((false, ()), ())
    else
    bif decide ((((List.getD v2 v4.toNat (0, 0, 0, (⟨#[]⟩ : ByteArray), 0)).2).2).1 > 1000000) then
     some ((false, ()), ())
    else
     L1 (IntKind.wrap .i64 (((((List.getD v2 v4.toNat (0, 0, 0, (⟨#[]⟩ : ByteArray), 0)).2).2).1) + 1)) v2 v3 (IntKind.wrap .i64 (v4 + 1))
   else none
  else none
 else
  some ((true, ()), ())
noncomputable def log_May_T (L1 : Int → (List (Int × Int × Int × ByteArray × Int)) → Int → Int → Option ((Bool × Unit) × Unit)) (l_0 : List (Int × Int × Int × ByteArray × Int)) (from_1 : Int) : Option ((Bool × Unit) × Unit) :=
 bif decide (from_1 < 1) then
  some ((false, ()), ())
 else
  L1 from_1 l_0 (l_0.length : Int) 0
noncomputable def log_May_L1 (n : Nat) : Nat → Int → (List (Int × Int × Int × ByteArray × Int)) → Int → Int → Option ((Bool × Unit) × Unit) := iter (fun _ _ _ _ => none) fun L => log_May_B1 L
noncomputable def log_May_X1 (n m : Nat) (v1 : Int) (v2 : List (Int × Int × Int × ByteArray × Int)) (v3 : Int) (v4 : Int) : Option ((Bool × Unit) × Unit) :=
 atLoop log_May_Γ tab (fiB [.val t42, .val t2] log_May_fi) n [.val t42, .val t2] [⟨t4, [false], none⟩] Tryz.f49 [1, 1, 0, 1, 0] [] [1, 10, 11, 12] m
 ⟨[(1, SV.cv (CV.one (LV.pure t2 v1))), (10, SV.cv (CV.one (LV.pure t42 v2))), (11, SV.cv (CV.one (LV.pure t2 v3))), (12, SV.cv (CV.one (LV.pure t2 v4)))],
  []⟩
theorem log_May_step1 (n m : Nat) (v1 : Int) (v2 : List (Int × Int × Int × ByteArray × Int)) (v3 : Int) (v4 : Int) : log_May_X1 n (m + 1) v1 v2 v3 v4 = log_May_B1 (log_May_X1 n m) v1 v2 v3 v4 := by kernel_rfl
theorem log_May_start (n : Nat) (l_0 : List (Int × Int × Int × ByteArray × Int)) (from_1 : Int) : evFn log_May_Γ tab log_May_fi n [.val t42, .val t2] [⟨t4, [false], none⟩] Tryz.f49 (l_0, from_1, ()) = log_May_T (log_May_X1 n n) l_0 from_1 := by kernel_rfl
theorem log_May_XL1 (n : Nat) : ∀ m, log_May_X1 n m = log_May_L1 n m
 | 0 => rfl
 | m + 1 => by
  have ih := log_May_XL1 n m
  funext v1 v2 v3 v4
  rw [log_May_step1, ih]
  rfl
noncomputable def log_May_n (n : Nat) (l_0 : List (Int × Int × Int × ByteArray × Int)) (from_1 : Int) : Option ((Bool × Unit) × Unit) := log_May_T (log_May_L1 n n) l_0 from_1
noncomputable def log_May (l_0 : List (Int × Int × Int × ByteArray × Int)) (from_1 : Int) : Option ((Bool × Unit) × Unit) := log_May_n 1099511627776 l_0 from_1
theorem log_May_eq (n : Nat) (l_0 : List (Int × Int × Int × ByteArray × Int)) (from_1 : Int) : evFn log_May_Γ tab log_May_fi n [.val t42, .val t2] [⟨t4, [false], none⟩] Tryz.f49 (l_0, from_1, ()) = log_May_n n l_0 from_1 := by
  rw [log_May_start, log_May_XL1 n n]
  rfl
noncomputable def log_May_e : Ent := ⟨[.val t42, .val t2], [⟨t4, [false], none⟩], fun x => log_May x.1 x.2.1⟩
theorem log_May_good : Good tab.ty Tryz.prog 49 log_May_e := by
  refine fn_good (Γ := log_May_Γ) (fi := log_May_fi) (n := 1099511627776) follows (gcons log_kind_good (gcons log_gap_fits_good (gcons log_told_fits_good gnil))) tabok Tryz.func49 (by kernel_rfl) (by kernel_rfl) (fun x r h => ?_)
  obtain ⟨l_0, from_1, _u⟩ := x
  exact (log_May_eq 1099511627776 l_0 from_1).trans h
noncomputable def log_Next_Γ : Ctx := []
def log_Next_fi : Fi := { keep := [], vty := [], vals := [], live := [(0, [0, 1]), (1, [0, 1, 7]), (2, [4]), (3, [4])] }
noncomputable def log_Next (l_0 : List (Int × Int × Int × ByteArray × Int)) (from_1 : Int) : Option ((Int × Unit) × Unit) :=
 bif (l_0.length : Int) == 0 then
  some ((from_1, ()), ())
 else
 bif decide (0 ≤ IntKind.wrap .i64 ((l_0.length : Int) - 1)) && decide (IntKind.wrap .i64 ((l_0.length : Int) - 1) < (l_0.length : Int)) then
  some ((IntKind.wrap .i64 (((((List.getD l_0 ((IntKind.wrap .i64 ((l_0.length : Int) - 1)).toNat) (0, 0, 0, (⟨#[]⟩ : ByteArray), 0)).2).2).1) + 1), ()), ())
 else none
theorem log_Next_eq (l_0 : List (Int × Int × Int × ByteArray × Int)) (from_1 : Int) : evFn log_Next_Γ tab log_Next_fi 1 [.val t42, .val t2] [⟨t2, [false], none⟩] Tryz.f50 (l_0, from_1, ()) = log_Next l_0 from_1 := by kernel_rfl
noncomputable def log_Next_e : Ent := ⟨[.val t42, .val t2], [⟨t2, [false], none⟩], fun x => log_Next x.1 x.2.1⟩
theorem log_Next_good : Good tab.ty Tryz.prog 50 log_Next_e := by
  refine fn_good (Γ := log_Next_Γ) (fi := log_Next_fi) (n := 1) follows gnil tabok Tryz.func50 (by kernel_rfl) (by kernel_rfl) (fun x r h => ?_)
  obtain ⟨l_0, from_1, _u⟩ := x
  exact (log_Next_eq l_0 from_1).trans h
noncomputable def truth_one_Γ : Ctx := [(49, log_May_e), (50, log_Next_e)]
def truth_one_fi : Fi := { keep := [], vty := [], vals := [], live := [(0, [1, 2, 13, 14, 15, 16, 17, 33, 34, 35, 36, 37, 38, 39]), (1, [1, 2, 8, 13, 14, 15, 16, 17, 33, 34, 35, 36, 37, 38, 39]), (2, [4]), (3, [2, 18, 33, 34, 35, 36, 37, 38, 39]), (4, [4]), (5, [2, 22, 33, 34, 35, 36, 37, 38, 39]), (6, [4]), (7, [2, 5, 33, 34, 35, 36, 37, 38, 39]), (8, [4])] }
noncomputable def truth_one (f_0 : Int × Int × (List (Int × ByteArray)) × (List (Int × ByteArray)) × (List (Int × Int × Int × ByteArray × Int)) × Int × Int) (said_1 : Int) : Option ((Bool × Unit) × Unit) :=
 bif f_0.1 == 0 then
  some ((true, ()), ())
 else
 bif decide (f_0.1 < 1) then
  some ((false, ()), ())
 else
 bif decide (f_0.1 > IntKind.wrap .i64 (said_1 + 1)) then
  some ((false, ()), ())
 else
 bif (f_0.2.2.2.2.1.length : Int) == 0 then
  some ((true, ()), ())
 else
 bif decide (0 < (f_0.2.2.2.2.1.length : Int)) then
  Option.bind (log_May f_0.2.2.2.2.1 (((List.getD f_0.2.2.2.2.1 0 (0, 0, 0, (⟨#[]⟩ : ByteArray), 0)).2).1)) fun (r1 : (Bool × Unit) × Unit) =>
  bif r1.1.1 then
   Option.bind (log_Next f_0.2.2.2.2.1 (((List.getD f_0.2.2.2.2.1 0 (0, 0, 0, (⟨#[]⟩ : ByteArray), 0)).2).1)) fun (r2 : (Int × Unit) × Unit) =>
   some ((r2.1.1 == f_0.1, ()), ())
  else
   some ((false, ()), ())
 else none
theorem truth_one_eq (f_0 : Int × Int × (List (Int × ByteArray)) × (List (Int × ByteArray)) × (List (Int × Int × Int × ByteArray × Int)) × Int × Int) (said_1 : Int) : evFn truth_one_Γ tab truth_one_fi 1 [.val t45, .val t2] [⟨t4, [false], none⟩] Tryz.f29 (f_0, said_1, ()) = truth_one f_0 said_1 := by kernel_rfl
noncomputable def truth_one_e : Ent := ⟨[.val t45, .val t2], [⟨t4, [false], none⟩], fun x => truth_one x.1 x.2.1⟩
theorem truth_one_good : Good tab.ty Tryz.prog 29 truth_one_e := by
  refine fn_good (Γ := truth_one_Γ) (fi := truth_one_fi) (n := 1) follows (gcons log_May_good (gcons log_Next_good gnil)) tabok Tryz.func29 (by kernel_rfl) (by kernel_rfl) (fun x r h => ?_)
  obtain ⟨f_0, said_1, _u⟩ := x
  exact (truth_one_eq f_0 said_1).trans h
noncomputable def truth_Logs_Γ : Ctx := [(29, truth_one_e)]
def truth_Logs_fi : Fi := { keep := [], vty := [], vals := [], live := [(0, [1, 15, 16, 17, 18, 19, 20, 21]), (1, [1, 6, 7, 8, 15, 16, 17, 18, 19, 20, 21]), (2, [1, 6, 7, 8, 9, 15, 16, 17, 18, 19, 20, 21]), (3, [1, 4, 6, 7, 8, 15, 16, 17, 18, 19, 20, 21]), (4, [1, 6, 7, 8, 15, 16, 17, 18, 19, 20, 21, 22]), (5, [2]), (6, [1, 6, 7, 8, 15, 16, 17, 18, 19, 20, 21]), (7, [2])] }
noncomputable def truth_Logs_B1 (L1 : (List (Bool × Int × ByteArray × (Int × Int × Int × Int × Int × Int × (List Int) × Int × Int × Int × Int × Int × List (Int × Int × Int)) × (Int × Int × (List (Int × ByteArray)) × (List (Int × ByteArray)) × (List (Int × Int × Int × ByteArray × Int)) × Int × Int) × Int)) → Int → Int → (List (Bool × Int × ByteArray × (Int × Int × Int × Int × Int × Int × (List Int) × Int × Int × Int × Int × Int × List (Int × Int × Int)) × (Int × Int × (List (Int × ByteArray)) × (List (Int × ByteArray)) × (List (Int × Int × Int × ByteArray × Int)) × Int × Int) × Int)) → (List (Int × ByteArray × Bool)) → List ByteArray → Int → List (List Int) → (List (List ((List Int) × Int))) → Option ((Bool × Unit) × Unit)) (v1 : List (Bool × Int × ByteArray × (Int × Int × Int × Int × Int × Int × (List Int) × Int × Int × Int × Int × Int × List (Int × Int × Int)) × (Int × Int × (List (Int × ByteArray)) × (List (Int × ByteArray)) × (List (Int × Int × Int × ByteArray × Int)) × Int × Int) × Int)) (v2 : Int) (v3 : Int) (v4 : List (Bool × Int × ByteArray × (Int × Int × Int × Int × Int × Int × (List Int) × Int × Int × Int × Int × Int × List (Int × Int × Int)) × (Int × Int × (List (Int × ByteArray)) × (List (Int × ByteArray)) × (List (Int × Int × Int × ByteArray × Int)) × Int × Int) × Int)) (v5 : List (Int × ByteArray × Bool)) (v6 : List ByteArray) (v7 : Int) (v8 : List (List Int)) (v9 : List (List ((List Int) × Int))) : Option ((Bool × Unit) × Unit) :=
 bif decide (v3 < v2) then
  bif decide (0 ≤ v3) && decide (v3 < (v1.length : Int)) then
   bif (List.getD v1 v3.toNat (false, 0, (⟨#[]⟩ : ByteArray), (0, 0, 0, 0, 0, 0, [], 0, 0, 0, 0, 0, []), (0, 0, [], [], [], 0, 0), 0)).1 then
    Option.bind (truth_one (((((((List.getD v1 v3.toNat (false, 0, (⟨#[]⟩ : ByteArray), (0, 0, 0, 0, 0, 0, [], 0, 0, 0, 0, 0, []), (0, 0, [], [], [], 0, 0), 0)).2).2).2).2).1).1, (((((((List.getD v1 v3.toNat (false, 0, (⟨#[]⟩ : ByteArray), (0, 0, 0, 0, 0, 0, [], 0, 0, 0, 0, 0, []), (0, 0, [], [], [], 0, 0), 0)).2).2).2).2).1).2).1, ((((((((List.getD v1 v3.toNat (false, 0, (⟨#[]⟩ : ByteArray), (0, 0, 0, 0, 0, 0, [], 0, 0, 0, 0, 0, []), (0, 0, [], [], [], 0, 0), 0)).2).2).2).2).1).2).2).1, (((((((((List.getD v1 v3.toNat (false, 0, (⟨#[]⟩ : ByteArray), (0, 0, 0, 0, 0, 0, [], 0, 0, 0, 0, 0, []), (0, 0, [], [], [], 0, 0), 0)).2).2).2).2).1).2).2).2).1, ((((((((((List.getD v1 v3.toNat (false, 0, (⟨#[]⟩ : ByteArray), (0, 0, 0, 0, 0, 0, [], 0, 0, 0, 0, 0, []), (0, 0, [], [], [], 0, 0), 0)).2).2).2).2).1).2).2).2).2).1, (((((((((((List.getD v1 v3.toNat (false, 0, (⟨#[]⟩ : ByteArray), (0, 0, 0, 0, 0, 0, [], 0, 0, 0, 0, 0, []), (0, 0, [], [], [], 0, 0), 0)).2).2).2).2).1).2).2).2).2).2)) (v6.length : Int)) fun (r10 : (Bool × Unit) × Unit) =>
    bif !r10.1.1 then
     some ((false, ()), ())
    else
     L1 v1 v2 (IntKind.wrap .i64 (v3 + 1)) v4 v5 v6 v7 v8 v9
   else
    L1 v1 v2 (IntKind.wrap .i64 (v3 + 1)) v4 v5 v6 v7 v8 v9
  else none
 else
  some ((true, ()), ())
noncomputable def truth_Logs_T (L1 : (List (Bool × Int × ByteArray × (Int × Int × Int × Int × Int × Int × (List Int) × Int × Int × Int × Int × Int × List (Int × Int × Int)) × (Int × Int × (List (Int × ByteArray)) × (List (Int × ByteArray)) × (List (Int × Int × Int × ByteArray × Int)) × Int × Int) × Int)) → Int → Int → (List (Bool × Int × ByteArray × (Int × Int × Int × Int × Int × Int × (List Int) × Int × Int × Int × Int × Int × List (Int × Int × Int)) × (Int × Int × (List (Int × ByteArray)) × (List (Int × ByteArray)) × (List (Int × Int × Int × ByteArray × Int)) × Int × Int) × Int)) → (List (Int × ByteArray × Bool)) → List ByteArray → Int → List (List Int) → (List (List ((List Int) × Int))) → Option ((Bool × Unit) × Unit)) (w_0 : (List (Bool × Int × ByteArray × (Int × Int × Int × Int × Int × Int × (List Int) × Int × Int × Int × Int × Int × List (Int × Int × Int)) × (Int × Int × (List (Int × ByteArray)) × (List (Int × ByteArray)) × (List (Int × Int × Int × ByteArray × Int)) × Int × Int) × Int)) × (List (Int × ByteArray × Bool)) × (List ByteArray) × Int × (List (List Int)) × List (List ((List Int) × Int))) : Option ((Bool × Unit) × Unit) :=
 L1 w_0.1 (w_0.1.length : Int) 0 w_0.1 w_0.2.1 w_0.2.2.1 w_0.2.2.2.1 w_0.2.2.2.2.1 w_0.2.2.2.2.2
noncomputable def truth_Logs_L1 (n : Nat) : Nat → (List (Bool × Int × ByteArray × (Int × Int × Int × Int × Int × Int × (List Int) × Int × Int × Int × Int × Int × List (Int × Int × Int)) × (Int × Int × (List (Int × ByteArray)) × (List (Int × ByteArray)) × (List (Int × Int × Int × ByteArray × Int)) × Int × Int) × Int)) → Int → Int → (List (Bool × Int × ByteArray × (Int × Int × Int × Int × Int × Int × (List Int) × Int × Int × Int × Int × Int × List (Int × Int × Int)) × (Int × Int × (List (Int × ByteArray)) × (List (Int × ByteArray)) × (List (Int × Int × Int × ByteArray × Int)) × Int × Int) × Int)) → (List (Int × ByteArray × Bool)) → List ByteArray → Int → List (List Int) → (List (List ((List Int) × Int))) → Option ((Bool × Unit) × Unit) := iter (fun _ _ _ _ _ _ _ _ _ => none) fun L => truth_Logs_B1 L
noncomputable def truth_Logs_X1 (n m : Nat) (v1 : List (Bool × Int × ByteArray × (Int × Int × Int × Int × Int × Int × (List Int) × Int × Int × Int × Int × Int × List (Int × Int × Int)) × (Int × Int × (List (Int × ByteArray)) × (List (Int × ByteArray)) × (List (Int × Int × Int × ByteArray × Int)) × Int × Int) × Int)) (v2 : Int) (v3 : Int) (v4 : List (Bool × Int × ByteArray × (Int × Int × Int × Int × Int × Int × (List Int) × Int × Int × Int × Int × Int × List (Int × Int × Int)) × (Int × Int × (List (Int × ByteArray)) × (List (Int × ByteArray)) × (List (Int × Int × Int × ByteArray × Int)) × Int × Int) × Int)) (v5 : List (Int × ByteArray × Bool)) (v6 : List ByteArray) (v7 : Int) (v8 : List (List Int)) (v9 : List (List ((List Int) × Int))) : Option ((Bool × Unit) × Unit) :=
 atLoop truth_Logs_Γ tab (fiB [.val t31] truth_Logs_fi) n [.val t31] [⟨t4, [false], none⟩] Tryz.f10 [1, 0, 1, 0] [] [1, 6, 7, 8] m
 ⟨[(1, SV.cv (CV.one (LV.ptr (1, 0) 0))), (6, SV.cv (CV.one (LV.pure t24 v1))), (7, SV.cv (CV.one (LV.pure t2 v2))), (8, SV.cv (CV.one (LV.pure t2 v3)))],
  [((1, 0), Ob.box 32 [LV.pure t24 v4, LV.pure t25 v5, LV.pure t26 v6, LV.pure t2 v7, LV.pure t27 v8, LV.pure t28 v9])]⟩
theorem truth_Logs_step1 (n m : Nat) (v1 : List (Bool × Int × ByteArray × (Int × Int × Int × Int × Int × Int × (List Int) × Int × Int × Int × Int × Int × List (Int × Int × Int)) × (Int × Int × (List (Int × ByteArray)) × (List (Int × ByteArray)) × (List (Int × Int × Int × ByteArray × Int)) × Int × Int) × Int)) (v2 : Int) (v3 : Int) (v4 : List (Bool × Int × ByteArray × (Int × Int × Int × Int × Int × Int × (List Int) × Int × Int × Int × Int × Int × List (Int × Int × Int)) × (Int × Int × (List (Int × ByteArray)) × (List (Int × ByteArray)) × (List (Int × Int × Int × ByteArray × Int)) × Int × Int) × Int)) (v5 : List (Int × ByteArray × Bool)) (v6 : List ByteArray) (v7 : Int) (v8 : List (List Int)) (v9 : List (List ((List Int) × Int))) : truth_Logs_X1 n (m + 1) v1 v2 v3 v4 v5 v6 v7 v8 v9 = truth_Logs_B1 (truth_Logs_X1 n m) v1 v2 v3 v4 v5 v6 v7 v8 v9 := by kernel_rfl
theorem truth_Logs_start (n : Nat) (w_0 : (List (Bool × Int × ByteArray × (Int × Int × Int × Int × Int × Int × (List Int) × Int × Int × Int × Int × Int × List (Int × Int × Int)) × (Int × Int × (List (Int × ByteArray)) × (List (Int × ByteArray)) × (List (Int × Int × Int × ByteArray × Int)) × Int × Int) × Int)) × (List (Int × ByteArray × Bool)) × (List ByteArray) × Int × (List (List Int)) × List (List ((List Int) × Int))) : evFn truth_Logs_Γ tab truth_Logs_fi n [.val t31] [⟨t4, [false], none⟩] Tryz.f10 (w_0, ()) = truth_Logs_T (truth_Logs_X1 n n) w_0 := by kernel_rfl
theorem truth_Logs_XL1 (n : Nat) : ∀ m, truth_Logs_X1 n m = truth_Logs_L1 n m
 | 0 => rfl
 | m + 1 => by
  have ih := truth_Logs_XL1 n m
  funext v1 v2 v3 v4 v5 v6 v7 v8 v9
  rw [truth_Logs_step1, ih]
  rfl
noncomputable def truth_Logs_n (n : Nat) (w_0 : (List (Bool × Int × ByteArray × (Int × Int × Int × Int × Int × Int × (List Int) × Int × Int × Int × Int × Int × List (Int × Int × Int)) × (Int × Int × (List (Int × ByteArray)) × (List (Int × ByteArray)) × (List (Int × Int × Int × ByteArray × Int)) × Int × Int) × Int)) × (List (Int × ByteArray × Bool)) × (List ByteArray) × Int × (List (List Int)) × List (List ((List Int) × Int))) : Option ((Bool × Unit) × Unit) := truth_Logs_T (truth_Logs_L1 n n) w_0
noncomputable def truth_Logs (w_0 : (List (Bool × Int × ByteArray × (Int × Int × Int × Int × Int × Int × (List Int) × Int × Int × Int × Int × Int × List (Int × Int × Int)) × (Int × Int × (List (Int × ByteArray)) × (List (Int × ByteArray)) × (List (Int × Int × Int × ByteArray × Int)) × Int × Int) × Int)) × (List (Int × ByteArray × Bool)) × (List ByteArray) × Int × (List (List Int)) × List (List ((List Int) × Int))) : Option ((Bool × Unit) × Unit) := truth_Logs_n 1099511627776 w_0
theorem truth_Logs_eq (n : Nat) (w_0 : (List (Bool × Int × ByteArray × (Int × Int × Int × Int × Int × Int × (List Int) × Int × Int × Int × Int × Int × List (Int × Int × Int)) × (Int × Int × (List (Int × ByteArray)) × (List (Int × ByteArray)) × (List (Int × Int × Int × ByteArray × Int)) × Int × Int) × Int)) × (List (Int × ByteArray × Bool)) × (List ByteArray) × Int × (List (List Int)) × List (List ((List Int) × Int))) : evFn truth_Logs_Γ tab truth_Logs_fi n [.val t31] [⟨t4, [false], none⟩] Tryz.f10 (w_0, ()) = truth_Logs_n n w_0 := by
  rw [truth_Logs_start, truth_Logs_XL1 n n]
  rfl
noncomputable def truth_Logs_e : Ent := ⟨[.val t31], [⟨t4, [false], none⟩], fun x => truth_Logs x.1⟩
theorem truth_Logs_good : Good tab.ty Tryz.prog 10 truth_Logs_e := by
  refine fn_good (Γ := truth_Logs_Γ) (fi := truth_Logs_fi) (n := 1099511627776) follows (gcons truth_one_good gnil) tabok Tryz.func10 (by kernel_rfl) (by kernel_rfl) (fun x r h => ?_)
  obtain ⟨w_0, _u⟩ := x
  exact (truth_Logs_eq 1099511627776 w_0).trans h
noncomputable def truth_Said_Γ : Ctx := []
def truth_Said_fi : Fi := { keep := [], vty := [], vals := [], live := [(0, [1, 26, 27, 28, 29, 30, 31, 32, 33, 34, 35, 36, 37, 38, 39, 40, 41, 42, 43, 44, 45, 46, 47, 48]), (1, [1, 8, 9, 10, 26, 27, 28, 29, 30, 31, 32, 33, 34, 35, 36, 37, 38, 39, 40, 41, 42, 43, 44, 45, 46, 47, 48]), (2, [1, 8, 9, 10, 11, 26, 27, 28, 29, 30, 31, 32, 33, 34, 35, 36, 37, 38, 39, 40, 41, 42, 43, 44, 45, 46, 47, 48]), (3, [1, 4, 8, 9, 10, 26, 27, 28, 29, 30, 31, 32, 33, 34, 35, 36, 37, 38, 39, 40, 41, 42, 43, 44, 45, 46, 47, 48]), (4, [1, 8, 9, 10, 16, 17, 18, 26, 27, 28, 29, 30, 31, 32, 33, 34, 35, 36, 37, 38, 39, 40, 41, 42, 43, 44, 45, 46, 47, 48]), (5, [1, 8, 9, 10, 16, 17, 18, 19, 26, 27, 28, 29, 30, 31, 32, 33, 34, 35, 36, 37, 38, 39, 40, 41, 42, 43, 44, 45, 46, 47, 48]), (6, [1, 6, 8, 9, 10, 16, 17, 18, 26, 27, 28, 29, 30, 31, 32, 33, 34, 35, 36, 37, 38, 39, 40, 41, 42, 43, 44, 45, 46, 47, 48]), (7, [1, 8, 9, 10, 16, 17, 18, 26, 27, 28, 29, 30, 31, 32, 33, 34, 35, 36, 37, 38, 39, 40, 41, 42, 43, 44, 45, 46, 47, 48, 49]), (8, [2]), (9, [1, 8, 9, 10, 16, 17, 18, 26, 27, 28, 29, 30, 31, 32, 33, 34, 35, 36, 37, 38, 39, 40, 41, 42, 43, 44, 45, 46, 47, 48]), (10, [1, 8, 9, 10, 26, 27, 28, 29, 30, 31, 32, 33, 34, 35, 36, 37, 38, 39, 40, 41, 42, 43, 44, 45, 46, 47, 48]), (11, [2])] }
noncomputable def truth_Said_B1 (L2 : (List (Bool × Int × ByteArray × (Int × Int × Int × Int × Int × Int × (List Int) × Int × Int × Int × Int × Int × List (Int × Int × Int)) × (Int × Int × (List (Int × ByteArray)) × (List (Int × ByteArray)) × (List (Int × Int × Int × ByteArray × Int)) × Int × Int) × Int)) → Int → Int → (List (Int × Int × Int × ByteArray × Int)) → Int → Int → (List (Bool × Int × ByteArray × (Int × Int × Int × Int × Int × Int × (List Int) × Int × Int × Int × Int × Int × List (Int × Int × Int)) × (Int × Int × (List (Int × ByteArray)) × (List (Int × ByteArray)) × (List (Int × Int × Int × ByteArray × Int)) × Int × Int) × Int)) → (List (Int × ByteArray × Bool)) → List ByteArray → Int → List (List Int) → (List (List ((List Int) × Int))) → Option ((Bool × Unit) × Unit)) (v1 : List (Bool × Int × ByteArray × (Int × Int × Int × Int × Int × Int × (List Int) × Int × Int × Int × Int × Int × List (Int × Int × Int)) × (Int × Int × (List (Int × ByteArray)) × (List (Int × ByteArray)) × (List (Int × Int × Int × ByteArray × Int)) × Int × Int) × Int)) (v2 : Int) (v3 : Int) (v4 : List (Bool × Int × ByteArray × (Int × Int × Int × Int × Int × Int × (List Int) × Int × Int × Int × Int × Int × List (Int × Int × Int)) × (Int × Int × (List (Int × ByteArray)) × (List (Int × ByteArray)) × (List (Int × Int × Int × ByteArray × Int)) × Int × Int) × Int)) (v5 : List (Int × ByteArray × Bool)) (v6 : List ByteArray) (v7 : Int) (v8 : List (List Int)) (v9 : List (List ((List Int) × Int))) : Option ((Bool × Unit) × Unit) :=
 bif decide (v3 < v2) then
  bif decide (0 ≤ v3) && decide (v3 < (v1.length : Int)) then
   L2 v1 v2 v3 (((((((((((List.getD v1 v3.toNat (false, 0, (⟨#[]⟩ : ByteArray), (0, 0, 0, 0, 0, 0, [], 0, 0, 0, 0, 0, []), (0, 0, [], [], [], 0, 0), 0)).2).2).2).2).1).2).2).2).2).1) ((((((((((((List.getD v1 v3.toNat (false, 0, (⟨#[]⟩ : ByteArray), (0, 0, 0, 0, 0, 0, [], 0, 0, 0, 0, 0, []), (0, 0, [], [], [], 0, 0), 0)).2).2).2).2).1).2).2).2).2).1).length : Int) 0 v4 v5 v6 v7 v8 v9
  else none
 else
  some ((true, ()), ())
noncomputable def truth_Said_B2 (L2 : (List (Bool × Int × ByteArray × (Int × Int × Int × Int × Int × Int × (List Int) × Int × Int × Int × Int × Int × List (Int × Int × Int)) × (Int × Int × (List (Int × ByteArray)) × (List (Int × ByteArray)) × (List (Int × Int × Int × ByteArray × Int)) × Int × Int) × Int)) → Int → Int → (List (Int × Int × Int × ByteArray × Int)) → Int → Int → (List (Bool × Int × ByteArray × (Int × Int × Int × Int × Int × Int × (List Int) × Int × Int × Int × Int × Int × List (Int × Int × Int)) × (Int × Int × (List (Int × ByteArray)) × (List (Int × ByteArray)) × (List (Int × Int × Int × ByteArray × Int)) × Int × Int) × Int)) → (List (Int × ByteArray × Bool)) → List ByteArray → Int → List (List Int) → (List (List ((List Int) × Int))) → Option ((Bool × Unit) × Unit)) (L1 : (List (Bool × Int × ByteArray × (Int × Int × Int × Int × Int × Int × (List Int) × Int × Int × Int × Int × Int × List (Int × Int × Int)) × (Int × Int × (List (Int × ByteArray)) × (List (Int × ByteArray)) × (List (Int × Int × Int × ByteArray × Int)) × Int × Int) × Int)) → Int → Int → (List (Bool × Int × ByteArray × (Int × Int × Int × Int × Int × Int × (List Int) × Int × Int × Int × Int × Int × List (Int × Int × Int)) × (Int × Int × (List (Int × ByteArray)) × (List (Int × ByteArray)) × (List (Int × Int × Int × ByteArray × Int)) × Int × Int) × Int)) → (List (Int × ByteArray × Bool)) → List ByteArray → Int → List (List Int) → (List (List ((List Int) × Int))) → Option ((Bool × Unit) × Unit)) (v10 : List (Bool × Int × ByteArray × (Int × Int × Int × Int × Int × Int × (List Int) × Int × Int × Int × Int × Int × List (Int × Int × Int)) × (Int × Int × (List (Int × ByteArray)) × (List (Int × ByteArray)) × (List (Int × Int × Int × ByteArray × Int)) × Int × Int) × Int)) (v11 : Int) (v12 : Int) (v13 : List (Int × Int × Int × ByteArray × Int)) (v14 : Int) (v15 : Int) (v16 : List (Bool × Int × ByteArray × (Int × Int × Int × Int × Int × Int × (List Int) × Int × Int × Int × Int × Int × List (Int × Int × Int)) × (Int × Int × (List (Int × ByteArray)) × (List (Int × ByteArray)) × (List (Int × Int × Int × ByteArray × Int)) × Int × Int) × Int)) (v17 : List (Int × ByteArray × Bool)) (v18 : List ByteArray) (v19 : Int) (v20 : List (List Int)) (v21 : List (List ((List Int) × Int))) : Option ((Bool × Unit) × Unit) :=
 bif decide (v15 < v14) then
  bif decide (0 ≤ v15) && decide (v15 < (v13.length : Int)) then
   bif ((List.getD v13 v15.toNat (0, 0, 0, (⟨#[]⟩ : ByteArray), 0)).1) == 1 then
    bif decide (((List.getD v13 v15.toNat (0, 0, 0, (⟨#[]⟩ : ByteArray), 0)).2).1 < 1) then
     some ((false, ()), ())
    else
    bif decide (((List.getD v13 v15.toNat (0, 0, 0, (⟨#[]⟩ : ByteArray), 0)).2).1 > (v18.length : Int)) then
     some ((false, ()), ())
    else
    bif decide (0 ≤ IntKind.wrap .i64 ((((List.getD v13 v15.toNat (0, 0, 0, (⟨#[]⟩ : ByteArray), 0)).2).1) - 1)) && decide (IntKind.wrap .i64 ((((List.getD v13 v15.toNat (0, 0, 0, (⟨#[]⟩ : ByteArray), 0)).2).1) - 1) < (v18.length : Int)) then
     bif !(strEq (List.getD v18 ((IntKind.wrap .i64 ((((List.getD v13 v15.toNat (0, 0, 0, (⟨#[]⟩ : ByteArray), 0)).2).1) - 1)).toNat) (⟨#[]⟩ : ByteArray)) (((((List.getD v13 v15.toNat (0, 0, 0, (⟨#[]⟩ : ByteArray), 0)).2).2).2).1)) then
      some ((false, ()), ())
     else
      L2 v10 v11 v12 v13 v14 (IntKind.wrap .i64 (v15 + 1)) v16 v17 v18 v19 v20 v21
    else none
   else
    L2 v10 v11 v12 v13 v14 (IntKind.wrap .i64 (v15 + 1)) v16 v17 v18 v19 v20 v21
  else none
 else
  L1 v10 v11 (IntKind.wrap .i64 (v12 + 1)) v16 v17 v18 v19 v20 v21
noncomputable def truth_Said_T (L1 : (List (Bool × Int × ByteArray × (Int × Int × Int × Int × Int × Int × (List Int) × Int × Int × Int × Int × Int × List (Int × Int × Int)) × (Int × Int × (List (Int × ByteArray)) × (List (Int × ByteArray)) × (List (Int × Int × Int × ByteArray × Int)) × Int × Int) × Int)) → Int → Int → (List (Bool × Int × ByteArray × (Int × Int × Int × Int × Int × Int × (List Int) × Int × Int × Int × Int × Int × List (Int × Int × Int)) × (Int × Int × (List (Int × ByteArray)) × (List (Int × ByteArray)) × (List (Int × Int × Int × ByteArray × Int)) × Int × Int) × Int)) → (List (Int × ByteArray × Bool)) → List ByteArray → Int → List (List Int) → (List (List ((List Int) × Int))) → Option ((Bool × Unit) × Unit)) (w_0 : (List (Bool × Int × ByteArray × (Int × Int × Int × Int × Int × Int × (List Int) × Int × Int × Int × Int × Int × List (Int × Int × Int)) × (Int × Int × (List (Int × ByteArray)) × (List (Int × ByteArray)) × (List (Int × Int × Int × ByteArray × Int)) × Int × Int) × Int)) × (List (Int × ByteArray × Bool)) × (List ByteArray) × Int × (List (List Int)) × List (List ((List Int) × Int))) : Option ((Bool × Unit) × Unit) :=
 L1 w_0.1 (w_0.1.length : Int) 0 w_0.1 w_0.2.1 w_0.2.2.1 w_0.2.2.2.1 w_0.2.2.2.2.1 w_0.2.2.2.2.2
noncomputable def truth_Said_L2 (n : Nat) (m1 : Nat) (r1 : (List (Bool × Int × ByteArray × (Int × Int × Int × Int × Int × Int × (List Int) × Int × Int × Int × Int × Int × List (Int × Int × Int)) × (Int × Int × (List (Int × ByteArray)) × (List (Int × ByteArray)) × (List (Int × Int × Int × ByteArray × Int)) × Int × Int) × Int)) → Int → Int → (List (Bool × Int × ByteArray × (Int × Int × Int × Int × Int × Int × (List Int) × Int × Int × Int × Int × Int × List (Int × Int × Int)) × (Int × Int × (List (Int × ByteArray)) × (List (Int × ByteArray)) × (List (Int × Int × Int × ByteArray × Int)) × Int × Int) × Int)) → (List (Int × ByteArray × Bool)) → List ByteArray → Int → List (List Int) → (List (List ((List Int) × Int))) → Option ((Bool × Unit) × Unit)) : Nat → (List (Bool × Int × ByteArray × (Int × Int × Int × Int × Int × Int × (List Int) × Int × Int × Int × Int × Int × List (Int × Int × Int)) × (Int × Int × (List (Int × ByteArray)) × (List (Int × ByteArray)) × (List (Int × Int × Int × ByteArray × Int)) × Int × Int) × Int)) → Int → Int → (List (Int × Int × Int × ByteArray × Int)) → Int → Int → (List (Bool × Int × ByteArray × (Int × Int × Int × Int × Int × Int × (List Int) × Int × Int × Int × Int × Int × List (Int × Int × Int)) × (Int × Int × (List (Int × ByteArray)) × (List (Int × ByteArray)) × (List (Int × Int × Int × ByteArray × Int)) × Int × Int) × Int)) → (List (Int × ByteArray × Bool)) → List ByteArray → Int → List (List Int) → (List (List ((List Int) × Int))) → Option ((Bool × Unit) × Unit) := iter (fun _ _ _ _ _ _ _ _ _ _ _ _ => none) fun L => truth_Said_B2 L r1
noncomputable def truth_Said_L1 (n : Nat) : Nat → (List (Bool × Int × ByteArray × (Int × Int × Int × Int × Int × Int × (List Int) × Int × Int × Int × Int × Int × List (Int × Int × Int)) × (Int × Int × (List (Int × ByteArray)) × (List (Int × ByteArray)) × (List (Int × Int × Int × ByteArray × Int)) × Int × Int) × Int)) → Int → Int → (List (Bool × Int × ByteArray × (Int × Int × Int × Int × Int × Int × (List Int) × Int × Int × Int × Int × Int × List (Int × Int × Int)) × (Int × Int × (List (Int × ByteArray)) × (List (Int × ByteArray)) × (List (Int × Int × Int × ByteArray × Int)) × Int × Int) × Int)) → (List (Int × ByteArray × Bool)) → List ByteArray → Int → List (List Int) → (List (List ((List Int) × Int))) → Option ((Bool × Unit) × Unit) := iterN (fun _ _ _ _ _ _ _ _ _ => none) fun m L => truth_Said_B1 (truth_Said_L2 n m L n)
noncomputable def truth_Said_X1 (n m : Nat) (v1 : List (Bool × Int × ByteArray × (Int × Int × Int × Int × Int × Int × (List Int) × Int × Int × Int × Int × Int × List (Int × Int × Int)) × (Int × Int × (List (Int × ByteArray)) × (List (Int × ByteArray)) × (List (Int × Int × Int × ByteArray × Int)) × Int × Int) × Int)) (v2 : Int) (v3 : Int) (v4 : List (Bool × Int × ByteArray × (Int × Int × Int × Int × Int × Int × (List Int) × Int × Int × Int × Int × Int × List (Int × Int × Int)) × (Int × Int × (List (Int × ByteArray)) × (List (Int × ByteArray)) × (List (Int × Int × Int × ByteArray × Int)) × Int × Int) × Int)) (v5 : List (Int × ByteArray × Bool)) (v6 : List ByteArray) (v7 : Int) (v8 : List (List Int)) (v9 : List (List ((List Int) × Int))) : Option ((Bool × Unit) × Unit) :=
 atLoop truth_Said_Γ tab (fiB [.val t31] truth_Said_fi) n [.val t31] [⟨t4, [false], none⟩] Tryz.f12 [1, 0, 1, 0] [] [1, 8, 9, 10] m
 ⟨[(1, SV.cv (CV.one (LV.ptr (1, 0) 0))), (8, SV.cv (CV.one (LV.pure t24 v1))), (9, SV.cv (CV.one (LV.pure t2 v2))), (10, SV.cv (CV.one (LV.pure t2 v3)))],
  [((1, 0), Ob.box 32 [LV.pure t24 v4, LV.pure t25 v5, LV.pure t26 v6, LV.pure t2 v7, LV.pure t27 v8, LV.pure t28 v9])]⟩
noncomputable def truth_Said_X2 (n m1 m : Nat) (v10 : List (Bool × Int × ByteArray × (Int × Int × Int × Int × Int × Int × (List Int) × Int × Int × Int × Int × Int × List (Int × Int × Int)) × (Int × Int × (List (Int × ByteArray)) × (List (Int × ByteArray)) × (List (Int × Int × Int × ByteArray × Int)) × Int × Int) × Int)) (v11 : Int) (v12 : Int) (v13 : List (Int × Int × Int × ByteArray × Int)) (v14 : Int) (v15 : Int) (v16 : List (Bool × Int × ByteArray × (Int × Int × Int × Int × Int × Int × (List Int) × Int × Int × Int × Int × Int × List (Int × Int × Int)) × (Int × Int × (List (Int × ByteArray)) × (List (Int × ByteArray)) × (List (Int × Int × Int × ByteArray × Int)) × Int × Int) × Int)) (v17 : List (Int × ByteArray × Bool)) (v18 : List ByteArray) (v19 : Int) (v20 : List (List Int)) (v21 : List (List ((List Int) × Int))) : Option ((Bool × Unit) × Unit) :=
 atLoop truth_Said_Γ tab (fiB [.val t31] truth_Said_fi) n [.val t31] [⟨t4, [false], none⟩] Tryz.f12 [1, 0, 1, 0, 0, 1, 1, 0, 0, 1, 1, 0] [(m1, [1, 8, 9, 10])] [1, 8, 9, 10, 16, 17, 18] m
 ⟨[(1, SV.cv (CV.one (LV.ptr (1, 0) 0))), (8, SV.cv (CV.one (LV.pure t24 v10))), (9, SV.cv (CV.one (LV.pure t2 v11))), (10, SV.cv (CV.one (LV.pure t2 v12))), (16, SV.cv (CV.one (LV.pure t42 v13))), (17, SV.cv (CV.one (LV.pure t2 v14))), (18, SV.cv (CV.one (LV.pure t2 v15)))],
  [((1, 0), Ob.box 32 [LV.pure t24 v16, LV.pure t25 v17, LV.pure t26 v18, LV.pure t2 v19, LV.pure t27 v20, LV.pure t28 v21])]⟩
theorem truth_Said_step1 (n m : Nat) (v1 : List (Bool × Int × ByteArray × (Int × Int × Int × Int × Int × Int × (List Int) × Int × Int × Int × Int × Int × List (Int × Int × Int)) × (Int × Int × (List (Int × ByteArray)) × (List (Int × ByteArray)) × (List (Int × Int × Int × ByteArray × Int)) × Int × Int) × Int)) (v2 : Int) (v3 : Int) (v4 : List (Bool × Int × ByteArray × (Int × Int × Int × Int × Int × Int × (List Int) × Int × Int × Int × Int × Int × List (Int × Int × Int)) × (Int × Int × (List (Int × ByteArray)) × (List (Int × ByteArray)) × (List (Int × Int × Int × ByteArray × Int)) × Int × Int) × Int)) (v5 : List (Int × ByteArray × Bool)) (v6 : List ByteArray) (v7 : Int) (v8 : List (List Int)) (v9 : List (List ((List Int) × Int))) : truth_Said_X1 n (m + 1) v1 v2 v3 v4 v5 v6 v7 v8 v9 = truth_Said_B1 (truth_Said_X2 n m n) v1 v2 v3 v4 v5 v6 v7 v8 v9 := by kernel_rfl
theorem truth_Said_step2 (n m1 m : Nat) (v10 : List (Bool × Int × ByteArray × (Int × Int × Int × Int × Int × Int × (List Int) × Int × Int × Int × Int × Int × List (Int × Int × Int)) × (Int × Int × (List (Int × ByteArray)) × (List (Int × ByteArray)) × (List (Int × Int × Int × ByteArray × Int)) × Int × Int) × Int)) (v11 : Int) (v12 : Int) (v13 : List (Int × Int × Int × ByteArray × Int)) (v14 : Int) (v15 : Int) (v16 : List (Bool × Int × ByteArray × (Int × Int × Int × Int × Int × Int × (List Int) × Int × Int × Int × Int × Int × List (Int × Int × Int)) × (Int × Int × (List (Int × ByteArray)) × (List (Int × ByteArray)) × (List (Int × Int × Int × ByteArray × Int)) × Int × Int) × Int)) (v17 : List (Int × ByteArray × Bool)) (v18 : List ByteArray) (v19 : Int) (v20 : List (List Int)) (v21 : List (List ((List Int) × Int))) : truth_Said_X2 n m1 (m + 1) v10 v11 v12 v13 v14 v15 v16 v17 v18 v19 v20 v21 = truth_Said_B2 (truth_Said_X2 n m1 m) (truth_Said_X1 n m1) v10 v11 v12 v13 v14 v15 v16 v17 v18 v19 v20 v21 := by kernel_rfl
theorem truth_Said_start (n : Nat) (w_0 : (List (Bool × Int × ByteArray × (Int × Int × Int × Int × Int × Int × (List Int) × Int × Int × Int × Int × Int × List (Int × Int × Int)) × (Int × Int × (List (Int × ByteArray)) × (List (Int × ByteArray)) × (List (Int × Int × Int × ByteArray × Int)) × Int × Int) × Int)) × (List (Int × ByteArray × Bool)) × (List ByteArray) × Int × (List (List Int)) × List (List ((List Int) × Int))) : evFn truth_Said_Γ tab truth_Said_fi n [.val t31] [⟨t4, [false], none⟩] Tryz.f12 (w_0, ()) = truth_Said_T (truth_Said_X1 n n) w_0 := by kernel_rfl
theorem truth_Said_XL2 (n : Nat) (m1 : Nat) (r1 : (List (Bool × Int × ByteArray × (Int × Int × Int × Int × Int × Int × (List Int) × Int × Int × Int × Int × Int × List (Int × Int × Int)) × (Int × Int × (List (Int × ByteArray)) × (List (Int × ByteArray)) × (List (Int × Int × Int × ByteArray × Int)) × Int × Int) × Int)) → Int → Int → (List (Bool × Int × ByteArray × (Int × Int × Int × Int × Int × Int × (List Int) × Int × Int × Int × Int × Int × List (Int × Int × Int)) × (Int × Int × (List (Int × ByteArray)) × (List (Int × ByteArray)) × (List (Int × Int × Int × ByteArray × Int)) × Int × Int) × Int)) → (List (Int × ByteArray × Bool)) → List ByteArray → Int → List (List Int) → (List (List ((List Int) × Int))) → Option ((Bool × Unit) × Unit)) (h1 : truth_Said_X1 n m1 = r1) : ∀ m, truth_Said_X2 n m1 m = truth_Said_L2 n m1 r1 m
 | 0 => rfl
 | m + 1 => by
  have ih := truth_Said_XL2 n m1 r1 h1 m
  funext v10 v11 v12 v13 v14 v15 v16 v17 v18 v19 v20 v21
  rw [truth_Said_step2, ih, h1]
  rfl
theorem truth_Said_XL1 (n : Nat) : ∀ m, truth_Said_X1 n m = truth_Said_L1 n m
 | 0 => rfl
 | m + 1 => by
  have ih := truth_Said_XL1 n m
  funext v1 v2 v3 v4 v5 v6 v7 v8 v9
  rw [truth_Said_step1, truth_Said_XL2 n m _ ih n]
  rfl
noncomputable def truth_Said_n (n : Nat) (w_0 : (List (Bool × Int × ByteArray × (Int × Int × Int × Int × Int × Int × (List Int) × Int × Int × Int × Int × Int × List (Int × Int × Int)) × (Int × Int × (List (Int × ByteArray)) × (List (Int × ByteArray)) × (List (Int × Int × Int × ByteArray × Int)) × Int × Int) × Int)) × (List (Int × ByteArray × Bool)) × (List ByteArray) × Int × (List (List Int)) × List (List ((List Int) × Int))) : Option ((Bool × Unit) × Unit) := truth_Said_T (truth_Said_L1 n n) w_0
noncomputable def truth_Said (w_0 : (List (Bool × Int × ByteArray × (Int × Int × Int × Int × Int × Int × (List Int) × Int × Int × Int × Int × Int × List (Int × Int × Int)) × (Int × Int × (List (Int × ByteArray)) × (List (Int × ByteArray)) × (List (Int × Int × Int × ByteArray × Int)) × Int × Int) × Int)) × (List (Int × ByteArray × Bool)) × (List ByteArray) × Int × (List (List Int)) × List (List ((List Int) × Int))) : Option ((Bool × Unit) × Unit) := truth_Said_n 1099511627776 w_0
theorem truth_Said_eq (n : Nat) (w_0 : (List (Bool × Int × ByteArray × (Int × Int × Int × Int × Int × Int × (List Int) × Int × Int × Int × Int × Int × List (Int × Int × Int)) × (Int × Int × (List (Int × ByteArray)) × (List (Int × ByteArray)) × (List (Int × Int × Int × ByteArray × Int)) × Int × Int) × Int)) × (List (Int × ByteArray × Bool)) × (List ByteArray) × Int × (List (List Int)) × List (List ((List Int) × Int))) : evFn truth_Said_Γ tab truth_Said_fi n [.val t31] [⟨t4, [false], none⟩] Tryz.f12 (w_0, ()) = truth_Said_n n w_0 := by
  rw [truth_Said_start, truth_Said_XL1 n n]
  rfl
noncomputable def truth_Said_e : Ent := ⟨[.val t31], [⟨t4, [false], none⟩], fun x => truth_Said x.1⟩
theorem truth_Said_good : Good tab.ty Tryz.prog 12 truth_Said_e := by
  refine fn_good (Γ := truth_Said_Γ) (fi := truth_Said_fi) (n := 1099511627776) follows gnil tabok Tryz.func12 (by kernel_rfl) (by kernel_rfl) (fun x r h => ?_)
  obtain ⟨w_0, _u⟩ := x
  exact (truth_Said_eq 1099511627776 w_0).trans h
noncomputable def world_Up_Γ : Ctx := []
def world_Up_fi : Fi := { keep := [], vty := [(2, 37), (3, 79)], vals := [], live := [(0, [1, 2, 3]), (1, [2, 3, 8, 9, 10]), (2, [2, 3, 8, 9, 10, 11]), (3, [2, 3, 5, 8, 9, 10]), (4, [2, 3, 5, 6, 8, 9, 10]), (5, [2, 3, 5, 6, 8, 9, 10, 15]), (6, [2, 3, 5, 6, 8, 9, 10]), (7, [2, 3, 8, 9, 10]), (8, [2, 3, 8, 9, 10]), (9, [2, 3])] }
noncomputable def world_Up_B1 (L1 : (List (Bool × Int × ByteArray × (Int × Int × Int × Int × Int × Int × (List Int) × Int × Int × Int × Int × Int × List (Int × Int × Int)) × (Int × Int × (List (Int × ByteArray)) × (List (Int × ByteArray)) × (List (Int × Int × Int × ByteArray × Int)) × Int × Int) × Int)) → Int → Int → List Int → List Bool → Option (((List Int) × (List Bool) × Unit) × Unit)) (v1 : List (Bool × Int × ByteArray × (Int × Int × Int × Int × Int × Int × (List Int) × Int × Int × Int × Int × Int × List (Int × Int × Int)) × (Int × Int × (List (Int × ByteArray)) × (List (Int × ByteArray)) × (List (Int × Int × Int × ByteArray × Int)) × Int × Int) × Int)) (v2 : Int) (v3 : Int) (v4 : List Int) (v5 : List Bool) : Option (((List Int) × (List Bool) × Unit) × Unit) :=
 bif decide (v3 < v2) then
  bif decide (0 ≤ v3) && decide (v3 < (v1.length : Int)) then
   bif (List.getD v1 v3.toNat (false, 0, (⟨#[]⟩ : ByteArray), (0, 0, 0, 0, 0, 0, [], 0, 0, 0, 0, 0, []), (0, 0, [], [], [], 0, 0), 0)).1 then
    bif Nat.ble (v4.length + 1) 1073741824 then
     bif Nat.ble (v5.length + 1) 1073741824 then
      L1 v1 v2 (IntKind.wrap .i64 (v3 + 1)) (v4 ++ [((((((((List.getD v1 v3.toNat (false, 0, (⟨#[]⟩ : ByteArray), (0, 0, 0, 0, 0, 0, [], 0, 0, 0, 0, 0, []), (0, 0, [], [], [], 0, 0), 0)).2).2).2).1).2).2).2).1]) (v5 ++ [(List.getD v1 v3.toNat (false, 0, (⟨#[]⟩ : ByteArray), (0, 0, 0, 0, 0, 0, [], 0, 0, 0, 0, 0, []), (0, 0, [], [], [], 0, 0), 0)).1])
     else none
    else none
   else
   bif Nat.ble (v4.length + 1) 1073741824 then
    bif Nat.ble (v5.length + 1) 1073741824 then
     L1 v1 v2 (IntKind.wrap .i64 (v3 + 1)) (v4 ++ [0]) (v5 ++ [(List.getD v1 v3.toNat (false, 0, (⟨#[]⟩ : ByteArray), (0, 0, 0, 0, 0, 0, [], 0, 0, 0, 0, 0, []), (0, 0, [], [], [], 0, 0), 0)).1])
    else none
   else none
  else none
 else
  some ((v4, v5, ()), ())
noncomputable def world_Up_T (L1 : (List (Bool × Int × ByteArray × (Int × Int × Int × Int × Int × Int × (List Int) × Int × Int × Int × Int × Int × List (Int × Int × Int)) × (Int × Int × (List (Int × ByteArray)) × (List (Int × ByteArray)) × (List (Int × Int × Int × ByteArray × Int)) × Int × Int) × Int)) → Int → Int → List Int → List Bool → Option (((List Int) × (List Bool) × Unit) × Unit)) (w_0 : (List (Bool × Int × ByteArray × (Int × Int × Int × Int × Int × Int × (List Int) × Int × Int × Int × Int × Int × List (Int × Int × Int)) × (Int × Int × (List (Int × ByteArray)) × (List (Int × ByteArray)) × (List (Int × Int × Int × ByteArray × Int)) × Int × Int) × Int)) × (List (Int × ByteArray × Bool)) × (List ByteArray) × Int × (List (List Int)) × List (List ((List Int) × Int))) : Option (((List Int) × (List Bool) × Unit) × Unit) :=
 L1 w_0.1 (w_0.1.length : Int) 0 [] []
noncomputable def world_Up_L1 (n : Nat) : Nat → (List (Bool × Int × ByteArray × (Int × Int × Int × Int × Int × Int × (List Int) × Int × Int × Int × Int × Int × List (Int × Int × Int)) × (Int × Int × (List (Int × ByteArray)) × (List (Int × ByteArray)) × (List (Int × Int × Int × ByteArray × Int)) × Int × Int) × Int)) → Int → Int → List Int → List Bool → Option (((List Int) × (List Bool) × Unit) × Unit) := iter (fun _ _ _ _ _ => none) fun L => world_Up_B1 L
noncomputable def world_Up_X1 (n m : Nat) (v1 : List (Bool × Int × ByteArray × (Int × Int × Int × Int × Int × Int × (List Int) × Int × Int × Int × Int × Int × List (Int × Int × Int)) × (Int × Int × (List (Int × ByteArray)) × (List (Int × ByteArray)) × (List (Int × Int × Int × ByteArray × Int)) × Int × Int) × Int)) (v2 : Int) (v3 : Int) (v4 : List Int) (v5 : List Bool) : Option (((List Int) × (List Bool) × Unit) × Unit) :=
 atLoop world_Up_Γ tab (fiB [.val t31] world_Up_fi) n [.val t31] [⟨t37, [true], none⟩, ⟨t79, [true], none⟩] Tryz.f32 [1, 0, 1, 0] [] [2, 3, 8, 9, 10] m
 ⟨[(2, SV.cv (CV.one (LV.ref (888888, 2)))), (3, SV.cv (CV.one (LV.ref (888888, 3)))), (8, SV.cv (CV.one (LV.pure t24 v1))), (9, SV.cv (CV.one (LV.pure t2 v2))), (10, SV.cv (CV.one (LV.pure t2 v3)))],
  [((888888, 2), Ob.row 3 t2 v4), ((888888, 3), Ob.row 4 t4 v5)]⟩
theorem world_Up_step1 (n m : Nat) (v1 : List (Bool × Int × ByteArray × (Int × Int × Int × Int × Int × Int × (List Int) × Int × Int × Int × Int × Int × List (Int × Int × Int)) × (Int × Int × (List (Int × ByteArray)) × (List (Int × ByteArray)) × (List (Int × Int × Int × ByteArray × Int)) × Int × Int) × Int)) (v2 : Int) (v3 : Int) (v4 : List Int) (v5 : List Bool) : world_Up_X1 n (m + 1) v1 v2 v3 v4 v5 = world_Up_B1 (world_Up_X1 n m) v1 v2 v3 v4 v5 := by kernel_rfl
theorem world_Up_start (n : Nat) (w_0 : (List (Bool × Int × ByteArray × (Int × Int × Int × Int × Int × Int × (List Int) × Int × Int × Int × Int × Int × List (Int × Int × Int)) × (Int × Int × (List (Int × ByteArray)) × (List (Int × ByteArray)) × (List (Int × Int × Int × ByteArray × Int)) × Int × Int) × Int)) × (List (Int × ByteArray × Bool)) × (List ByteArray) × Int × (List (List Int)) × List (List ((List Int) × Int))) : evFn world_Up_Γ tab world_Up_fi n [.val t31] [⟨t37, [true], none⟩, ⟨t79, [true], none⟩] Tryz.f32 (w_0, ()) = world_Up_T (world_Up_X1 n n) w_0 := by kernel_rfl
theorem world_Up_XL1 (n : Nat) : ∀ m, world_Up_X1 n m = world_Up_L1 n m
 | 0 => rfl
 | m + 1 => by
  have ih := world_Up_XL1 n m
  funext v1 v2 v3 v4 v5
  rw [world_Up_step1, ih]
  rfl
noncomputable def world_Up_n (n : Nat) (w_0 : (List (Bool × Int × ByteArray × (Int × Int × Int × Int × Int × Int × (List Int) × Int × Int × Int × Int × Int × List (Int × Int × Int)) × (Int × Int × (List (Int × ByteArray)) × (List (Int × ByteArray)) × (List (Int × Int × Int × ByteArray × Int)) × Int × Int) × Int)) × (List (Int × ByteArray × Bool)) × (List ByteArray) × Int × (List (List Int)) × List (List ((List Int) × Int))) : Option (((List Int) × (List Bool) × Unit) × Unit) := world_Up_T (world_Up_L1 n n) w_0
noncomputable def world_Up (w_0 : (List (Bool × Int × ByteArray × (Int × Int × Int × Int × Int × Int × (List Int) × Int × Int × Int × Int × Int × List (Int × Int × Int)) × (Int × Int × (List (Int × ByteArray)) × (List (Int × ByteArray)) × (List (Int × Int × Int × ByteArray × Int)) × Int × Int) × Int)) × (List (Int × ByteArray × Bool)) × (List ByteArray) × Int × (List (List Int)) × List (List ((List Int) × Int))) : Option (((List Int) × (List Bool) × Unit) × Unit) := world_Up_n 1099511627776 w_0
theorem world_Up_eq (n : Nat) (w_0 : (List (Bool × Int × ByteArray × (Int × Int × Int × Int × Int × Int × (List Int) × Int × Int × Int × Int × Int × List (Int × Int × Int)) × (Int × Int × (List (Int × ByteArray)) × (List (Int × ByteArray)) × (List (Int × Int × Int × ByteArray × Int)) × Int × Int) × Int)) × (List (Int × ByteArray × Bool)) × (List ByteArray) × Int × (List (List Int)) × List (List ((List Int) × Int))) : evFn world_Up_Γ tab world_Up_fi n [.val t31] [⟨t37, [true], none⟩, ⟨t79, [true], none⟩] Tryz.f32 (w_0, ()) = world_Up_n n w_0 := by
  rw [world_Up_start, world_Up_XL1 n n]
  rfl
noncomputable def world_Up_e : Ent := ⟨[.val t31], [⟨t37, [true], none⟩, ⟨t79, [true], none⟩], fun x => world_Up x.1⟩
theorem world_Up_good : Good tab.ty Tryz.prog 32 world_Up_e := by
  refine fn_good (Γ := world_Up_Γ) (fi := world_Up_fi) (n := 1099511627776) follows gnil tabok Tryz.func32 (by kernel_rfl) (by kernel_rfl) (fun x r h => ?_)
  obtain ⟨w_0, _u⟩ := x
  exact (world_Up_eq 1099511627776 w_0).trans h
noncomputable def slices_Index_int_Γ : Ctx := []
def slices_Index_int_fi : Fi := { keep := [], vty := [], vals := [], live := [(0, [0, 1]), (1, [0, 1, 7, 8]), (2, [0, 1, 7, 8, 9]), (3, [0, 1, 5, 7, 8]), (4, [0, 1, 5, 7, 8, 16]), (5, [4]), (6, [0, 1, 7, 8]), (7, [4])] }
noncomputable def slices_Index_int_B1 (L1 : List Int → Int → Int → Int → Option ((Int × Unit) × Unit)) (v1 : List Int) (v2 : Int) (v3 : Int) (v4 : Int) : Option ((Int × Unit) × Unit) :=
 bif decide (v4 < v3) then
  bif decide (0 ≤ v4) && decide (v4 < (v1.length : Int)) then
   bif v2 == (List.getD v1 v4.toNat 0) then
    some ((v4, ()), ())
   else
    L1 v1 v2 v3 (IntKind.wrap .i64 (v4 + 1))
  else none
 else
  some (((-1), ()), ())
noncomputable def slices_Index_int_T (L1 : List Int → Int → Int → Int → Option ((Int × Unit) × Unit)) (s_0 : List Int) (v_1 : Int) : Option ((Int × Unit) × Unit) :=
 L1 s_0 v_1 (s_0.length : Int) 0
noncomputable def slices_Index_int_L1 (n : Nat) : Nat → List Int → Int → Int → Int → Option ((Int × Unit) × Unit) := iter (fun _ _ _ _ => none) fun L => slices_Index_int_B1 L
noncomputable def slices_Index_int_X1 (n m : Nat) (v1 : List Int) (v2 : Int) (v3 : Int) (v4 : Int) : Option ((Int × Unit) × Unit) :=
 atLoop slices_Index_int_Γ tab (fiB [.val t37, .val t2] slices_Index_int_fi) n [.val t37, .val t2] [⟨t2, [false], none⟩] Tryz.f54 [1, 0, 1, 0] [] [0, 1, 7, 8] m
 ⟨[(0, SV.cv (CV.one (LV.pure t37 v1))), (1, SV.cv (CV.one (LV.pure t2 v2))), (7, SV.cv (CV.one (LV.pure t2 v3))), (8, SV.cv (CV.one (LV.pure t2 v4)))],
  []⟩
theorem slices_Index_int_step1 (n m : Nat) (v1 : List Int) (v2 : Int) (v3 : Int) (v4 : Int) : slices_Index_int_X1 n (m + 1) v1 v2 v3 v4 = slices_Index_int_B1 (slices_Index_int_X1 n m) v1 v2 v3 v4 := by kernel_rfl
theorem slices_Index_int_start (n : Nat) (s_0 : List Int) (v_1 : Int) : evFn slices_Index_int_Γ tab slices_Index_int_fi n [.val t37, .val t2] [⟨t2, [false], none⟩] Tryz.f54 (s_0, v_1, ()) = slices_Index_int_T (slices_Index_int_X1 n n) s_0 v_1 := by kernel_rfl
theorem slices_Index_int_XL1 (n : Nat) : ∀ m, slices_Index_int_X1 n m = slices_Index_int_L1 n m
 | 0 => rfl
 | m + 1 => by
  have ih := slices_Index_int_XL1 n m
  funext v1 v2 v3 v4
  rw [slices_Index_int_step1, ih]
  rfl
noncomputable def slices_Index_int_n (n : Nat) (s_0 : List Int) (v_1 : Int) : Option ((Int × Unit) × Unit) := slices_Index_int_T (slices_Index_int_L1 n n) s_0 v_1
noncomputable def slices_Index_int (s_0 : List Int) (v_1 : Int) : Option ((Int × Unit) × Unit) := slices_Index_int_n 1099511627776 s_0 v_1
theorem slices_Index_int_eq (n : Nat) (s_0 : List Int) (v_1 : Int) : evFn slices_Index_int_Γ tab slices_Index_int_fi n [.val t37, .val t2] [⟨t2, [false], none⟩] Tryz.f54 (s_0, v_1, ()) = slices_Index_int_n n s_0 v_1 := by
  rw [slices_Index_int_start, slices_Index_int_XL1 n n]
  rfl
noncomputable def slices_Index_int_e : Ent := ⟨[.val t37, .val t2], [⟨t2, [false], none⟩], fun x => slices_Index_int x.1 x.2.1⟩
theorem slices_Index_int_good : Good tab.ty Tryz.prog 54 slices_Index_int_e := by
  refine fn_good (Γ := slices_Index_int_Γ) (fi := slices_Index_int_fi) (n := 1099511627776) follows gnil tabok Tryz.func54 (by kernel_rfl) (by kernel_rfl) (fun x r h => ?_)
  obtain ⟨s_0, v_1, _u⟩ := x
  exact (slices_Index_int_eq 1099511627776 s_0 v_1).trans h
noncomputable def slices_Contains_int_Γ : Ctx := [(54, slices_Index_int_e)]
def slices_Contains_int_fi : Fi := { keep := [], vty := [], vals := [], live := [(0, [0, 1]), (1, [4])] }
noncomputable def slices_Contains_int (s_0 : List Int) (v_1 : Int) : Option ((Bool × Unit) × Unit) :=
 Option.bind (slices_Index_int s_0 v_1) fun (r1 : (Int × Unit) × Unit) =>
 some ((decide (r1.1.1 ≥ 0), ()), ())
theorem slices_Contains_int_eq (s_0 : List Int) (v_1 : Int) : evFn slices_Contains_int_Γ tab slices_Contains_int_fi 1 [.val t37, .val t2] [⟨t4, [false], none⟩] Tryz.f75 (s_0, v_1, ()) = slices_Contains_int s_0 v_1 := by kernel_rfl
noncomputable def slices_Contains_int_e : Ent := ⟨[.val t37, .val t2], [⟨t4, [false], none⟩], fun x => slices_Contains_int x.1 x.2.1⟩
theorem slices_Contains_int_good : Good tab.ty Tryz.prog 75 slices_Contains_int_e := by
  refine fn_good (Γ := slices_Contains_int_Γ) (fi := slices_Contains_int_fi) (n := 1) follows (gcons slices_Index_int_good gnil) tabok Tryz.func75 (by kernel_rfl) (by kernel_rfl) (fun x r h => ?_)
  obtain ⟨s_0, v_1, _u⟩ := x
  exact (slices_Contains_int_eq s_0 v_1).trans h
noncomputable def path_Has_Γ : Ctx := [(75, slices_Contains_int_e)]
def path_Has_fi : Fi := { keep := [], vty := [], vals := [], live := [(0, [0, 1]), (1, [4])] }
noncomputable def path_Has (p_0 : List Int) (id_1 : Int) : Option ((Bool × Unit) × Unit) :=
 Option.bind (slices_Contains_int p_0 id_1) fun (r1 : (Bool × Unit) × Unit) =>
 some ((r1.1.1, ()), ())
theorem path_Has_eq (p_0 : List Int) (id_1 : Int) : evFn path_Has_Γ tab path_Has_fi 1 [.val t37, .val t2] [⟨t4, [false], none⟩] Tryz.f52 (p_0, id_1, ()) = path_Has p_0 id_1 := by kernel_rfl
noncomputable def path_Has_e : Ent := ⟨[.val t37, .val t2], [⟨t4, [false], none⟩], fun x => path_Has x.1 x.2.1⟩
theorem path_Has_good : Good tab.ty Tryz.prog 52 path_Has_e := by
  refine fn_good (Γ := path_Has_Γ) (fi := path_Has_fi) (n := 1) follows (gcons slices_Contains_int_good gnil) tabok Tryz.func52 (by kernel_rfl) (by kernel_rfl) (fun x r h => ?_)
  obtain ⟨p_0, id_1, _u⟩ := x
  exact (path_Has_eq p_0 id_1).trans h
noncomputable def slices_Clone_int (s : List Int) : Option (((List Int) × Unit) × Unit) := bif Nat.ble s.length 1073741824 then some ((s, ()), ()) else none
theorem slices_Clone_int_raw (s : List Int) : evFn [] tab (fiOf Tryz.f53 []) 1 [.val t37] [⟨t37, [true], none⟩] Tryz.f53 (s, ()) = bif !(List.isEmpty s) then bif Nat.ble (0 + s.length) 1073741824 then some (([] ++ s, ()), ()) else none
 else bothEq (some (([], ()), ())) (bif Nat.ble (0 + s.length) 1073741824 then some (([] ++ s, ()), ()) else none) := by kernel_rfl
theorem slices_Clone_int_eq (s : List Int) : evFn [] tab (fiOf Tryz.f53 []) 1 [.val t37] [⟨t37, [true], none⟩] Tryz.f53 (s, ()) = slices_Clone_int s := by
  rw [slices_Clone_int_raw]
  cases s with
  | nil => exact bothEq_same _
  | cons x q => rw [Nat.zero_add]; rfl
noncomputable def slices_Clone_int_e : Ent := ⟨[.val t37], [⟨t37, [true], none⟩], fun x => slices_Clone_int x.1⟩
theorem slices_Clone_int_good : Good tab.ty Tryz.prog 53 slices_Clone_int_e := by
  refine fn_good (Γ := []) (fi := fiOf Tryz.f53 []) (n := 1) follows gnil tabok Tryz.func53 (by kernel_rfl) (by kernel_rfl) (fun x r h => ?_)
  obtain ⟨s, _u⟩ := x
  exact (slices_Clone_int_eq s).trans h
noncomputable def tree_next_Γ : Ctx := []
def tree_next_fi : Fi := { keep := [], vty := [], vals := [], live := [(0, [0, 1, 8, 9, 10, 11]), (1, [0, 1, 12]), (2, [4]), (3, [4])] }
noncomputable def tree_next (up_0 : List Int) (id_1 : Int) : Option ((Int × Unit) × Unit) :=
 bif decide (id_1 < 1) then
  some ((0, ()), ())
 else
 bif decide (id_1 > (up_0.length : Int)) then
  some ((0, ()), ())
 else
 bif decide (0 ≤ IntKind.wrap .i64 (id_1 - 1)) && decide (IntKind.wrap .i64 (id_1 - 1) < (up_0.length : Int)) then
  some ((List.getD up_0 ((IntKind.wrap .i64 (id_1 - 1)).toNat) 0, ()), ())
 else none
theorem tree_next_eq (up_0 : List Int) (id_1 : Int) : evFn tree_next_Γ tab tree_next_fi 1 [.val t37, .val t2] [⟨t2, [false], none⟩] Tryz.f51 (up_0, id_1, ()) = tree_next up_0 id_1 := by kernel_rfl
noncomputable def tree_next_e : Ent := ⟨[.val t37, .val t2], [⟨t2, [false], none⟩], fun x => tree_next x.1 x.2.1⟩
theorem tree_next_good : Good tab.ty Tryz.prog 51 tree_next_e := by
  refine fn_good (Γ := tree_next_Γ) (fi := tree_next_fi) (n := 1) follows gnil tabok Tryz.func51 (by kernel_rfl) (by kernel_rfl) (fun x r h => ?_)
  obtain ⟨up_0, id_1, _u⟩ := x
  exact (tree_next_eq up_0 id_1).trans h
noncomputable def tree_Loop_Γ : Ctx := [(51, tree_next_e), (52, path_Has_e), (53, slices_Clone_int_e), (54, slices_Index_int_e)]
def tree_Loop_fi : Fi := { keep := [], vty := [(5, 37)], vals := [], live := [(0, [0, 1, 11, 12, 13, 14]), (1, [0, 1, 5, 11, 12, 13, 14]), (2, [0, 5, 6, 11, 12, 13, 14]), (3, [0, 5, 6, 11, 12, 13, 14, 15]), (4, [0, 5, 6, 11, 12, 13, 14]), (5, [0, 5, 6, 11, 12, 13, 14, 21]), (6, [4]), (7, [0, 5, 6, 11, 12, 13, 14]), (8, [4])] }
noncomputable def tree_Loop_B1 (L1 : List Int → Int → List Int → Option (((List Int) × Unit) × Unit)) (v1 : List Int) (v2 : Int) (v3 : List Int) : Option (((List Int) × Unit) × Unit) :=
 bif decide (v2 ≥ 1) then
  bif decide (v2 ≤ (v1.length : Int)) then
   Option.bind (path_Has v3 v2) fun (r4 : (Bool × Unit) × Unit) =>
   bif r4.1.1 then
    Option.bind (slices_Index_int v3 v2) fun (r5 : (Int × Unit) × Unit) =>
    bif (decide (0 ≤ r5.1.1) && decide (r5.1.1 ≤ (v3.length : Int))) && decide ((v3.length : Int) ≤ (v3.length : Int)) then
     Option.bind (slices_Clone_int (List.drop r5.1.1.toNat (List.take ((v3.length : Int).toNat) v3))) fun (r6 : ((List Int) × Unit) × Unit) =>
     some ((r6.1.1, ()), ())
    else none
   else
   bif Nat.ble (v3.length + 1) 1073741824 then
    Option.bind (tree_next v1 v2) fun (r7 : (Int × Unit) × Unit) =>
    L1 v1 r7.1.1 (v3 ++ [v2])
   else none
  else
   some (([], ()), ())
 else
  some (([], ()), ())
noncomputable def tree_Loop_T (L1 : List Int → Int → List Int → Option (((List Int) × Unit) × Unit)) (up_0 : List Int) (from_1 : Int) : Option (((List Int) × Unit) × Unit) :=
 L1 up_0 from_1 []
noncomputable def tree_Loop_L1 (n : Nat) : Nat → List Int → Int → List Int → Option (((List Int) × Unit) × Unit) := iter (fun _ _ _ => none) fun L => tree_Loop_B1 L
noncomputable def tree_Loop_X1 (n m : Nat) (v1 : List Int) (v2 : Int) (v3 : List Int) : Option (((List Int) × Unit) × Unit) :=
 atLoop tree_Loop_Γ tab (fiB [.val t37, .val t2] tree_Loop_fi) n [.val t37, .val t2] [⟨t37, [true], none⟩] Tryz.f33 [1, 1, 0, 1, 0] [] [0, 5, 6] m
 ⟨[(0, SV.cv (CV.one (LV.pure t37 v1))), (5, SV.cv (CV.one (LV.ref (888888, 5)))), (6, SV.cv (CV.one (LV.pure t2 v2)))],
  [((888888, 5), Ob.row 3 t2 v3)]⟩
theorem tree_Loop_step1 (n m : Nat) (v1 : List Int) (v2 : Int) (v3 : List Int) : tree_Loop_X1 n (m + 1) v1 v2 v3 = tree_Loop_B1 (tree_Loop_X1 n m) v1 v2 v3 := by kernel_rfl
theorem tree_Loop_start (n : Nat) (up_0 : List Int) (from_1 : Int) : evFn tree_Loop_Γ tab tree_Loop_fi n [.val t37, .val t2] [⟨t37, [true], none⟩] Tryz.f33 (up_0, from_1, ()) = tree_Loop_T (tree_Loop_X1 n n) up_0 from_1 := by kernel_rfl
theorem tree_Loop_XL1 (n : Nat) : ∀ m, tree_Loop_X1 n m = tree_Loop_L1 n m
 | 0 => rfl
 | m + 1 => by
  have ih := tree_Loop_XL1 n m
  funext v1 v2 v3
  rw [tree_Loop_step1, ih]
  rfl
noncomputable def tree_Loop_n (n : Nat) (up_0 : List Int) (from_1 : Int) : Option (((List Int) × Unit) × Unit) := tree_Loop_T (tree_Loop_L1 n n) up_0 from_1
noncomputable def tree_Loop (up_0 : List Int) (from_1 : Int) : Option (((List Int) × Unit) × Unit) := tree_Loop_n 1099511627776 up_0 from_1
theorem tree_Loop_eq (n : Nat) (up_0 : List Int) (from_1 : Int) : evFn tree_Loop_Γ tab tree_Loop_fi n [.val t37, .val t2] [⟨t37, [true], none⟩] Tryz.f33 (up_0, from_1, ()) = tree_Loop_n n up_0 from_1 := by
  rw [tree_Loop_start, tree_Loop_XL1 n n]
  rfl
noncomputable def tree_Loop_e : Ent := ⟨[.val t37, .val t2], [⟨t37, [true], none⟩], fun x => tree_Loop x.1 x.2.1⟩
theorem tree_Loop_good : Good tab.ty Tryz.prog 33 tree_Loop_e := by
  refine fn_good (Γ := tree_Loop_Γ) (fi := tree_Loop_fi) (n := 1099511627776) follows (gcons tree_next_good (gcons path_Has_good (gcons slices_Clone_int_good (gcons slices_Index_int_good gnil)))) tabok Tryz.func33 (by kernel_rfl) (by kernel_rfl) (fun x r h => ?_)
  obtain ⟨up_0, from_1, _u⟩ := x
  exact (tree_Loop_eq 1099511627776 up_0 from_1).trans h
noncomputable def truth_Loops_Γ : Ctx := [(32, world_Up_e), (33, tree_Loop_e)]
def truth_Loops_fi : Fi := { keep := [], vty := [], vals := [], live := [(0, [1]), (1, [3]), (2, [3, 13, 14]), (3, [3, 13, 14, 15]), (4, [3, 5, 13, 14]), (5, [3, 6, 13, 14]), (6, [3, 6, 13, 14, 23]), (7, [2]), (8, [3, 13, 14]), (9, [2])] }
noncomputable def truth_Loops_B1 (L1 : Int → Int → List Int → Option (((List Int) × Unit) × Unit)) (v2 : Int) (v3 : Int) (v4 : List Int) : Option (((List Int) × Unit) × Unit) :=
 bif decide (v3 < v2) then
  Option.bind (tree_Loop v4 (IntKind.wrap .i64 (v3 + 1))) fun (r5 : ((List Int) × Unit) × Unit) =>
  bif decide ((r5.1.1.length : Int) > 0) then
   some ((r5.1.1, ()), ())
  else
   L1 v2 (IntKind.wrap .i64 (v3 + 1)) v4
 else
  some (([], ()), ())
noncomputable def truth_Loops_T (L1 : Int → Int → List Int → Option (((List Int) × Unit) × Unit)) (w_0 : (List (Bool × Int × ByteArray × (Int × Int × Int × Int × Int × Int × (List Int) × Int × Int × Int × Int × Int × List (Int × Int × Int)) × (Int × Int × (List (Int × ByteArray)) × (List (Int × ByteArray)) × (List (Int × Int × Int × ByteArray × Int)) × Int × Int) × Int)) × (List (Int × ByteArray × Bool)) × (List ByteArray) × Int × (List (List Int)) × List (List ((List Int) × Int))) : Option (((List Int) × Unit) × Unit) :=
 Option.bind (world_Up w_0) fun (r1 : ((List Int) × (List Bool) × Unit) × Unit) =>
 L1 (r1.1.1.length : Int) 0 r1.1.1
noncomputable def truth_Loops_L1 (n : Nat) : Nat → Int → Int → List Int → Option (((List Int) × Unit) × Unit) := iter (fun _ _ _ => none) fun L => truth_Loops_B1 L
noncomputable def truth_Loops_X1 (n m : Nat) (v2 : Int) (v3 : Int) (v4 : List Int) : Option (((List Int) × Unit) × Unit) :=
 atLoop truth_Loops_Γ tab (fiB [.val t31] truth_Loops_fi) n [.val t31] [⟨t37, [true], none⟩] Tryz.f15 [1, 1, 0, 1, 0] [] [3, 13, 14] m
 ⟨[(3, SV.cv (CV.one (LV.ref (888888, 3)))), (13, SV.cv (CV.one (LV.pure t2 v2))), (14, SV.cv (CV.one (LV.pure t2 v3)))],
  [((888888, 3), Ob.row 3 t2 v4)]⟩
theorem truth_Loops_step1 (n m : Nat) (v2 : Int) (v3 : Int) (v4 : List Int) : truth_Loops_X1 n (m + 1) v2 v3 v4 = truth_Loops_B1 (truth_Loops_X1 n m) v2 v3 v4 := by kernel_rfl
theorem truth_Loops_start (n : Nat) (w_0 : (List (Bool × Int × ByteArray × (Int × Int × Int × Int × Int × Int × (List Int) × Int × Int × Int × Int × Int × List (Int × Int × Int)) × (Int × Int × (List (Int × ByteArray)) × (List (Int × ByteArray)) × (List (Int × Int × Int × ByteArray × Int)) × Int × Int) × Int)) × (List (Int × ByteArray × Bool)) × (List ByteArray) × Int × (List (List Int)) × List (List ((List Int) × Int))) : evFn truth_Loops_Γ tab truth_Loops_fi n [.val t31] [⟨t37, [true], none⟩] Tryz.f15 (w_0, ()) = truth_Loops_T (truth_Loops_X1 n n) w_0 := by kernel_rfl
theorem truth_Loops_XL1 (n : Nat) : ∀ m, truth_Loops_X1 n m = truth_Loops_L1 n m
 | 0 => rfl
 | m + 1 => by
  have ih := truth_Loops_XL1 n m
  funext v2 v3 v4
  rw [truth_Loops_step1, ih]
  rfl
noncomputable def truth_Loops_n (n : Nat) (w_0 : (List (Bool × Int × ByteArray × (Int × Int × Int × Int × Int × Int × (List Int) × Int × Int × Int × Int × Int × List (Int × Int × Int)) × (Int × Int × (List (Int × ByteArray)) × (List (Int × ByteArray)) × (List (Int × Int × Int × ByteArray × Int)) × Int × Int) × Int)) × (List (Int × ByteArray × Bool)) × (List ByteArray) × Int × (List (List Int)) × List (List ((List Int) × Int))) : Option (((List Int) × Unit) × Unit) := truth_Loops_T (truth_Loops_L1 n n) w_0
noncomputable def truth_Loops (w_0 : (List (Bool × Int × ByteArray × (Int × Int × Int × Int × Int × Int × (List Int) × Int × Int × Int × Int × Int × List (Int × Int × Int)) × (Int × Int × (List (Int × ByteArray)) × (List (Int × ByteArray)) × (List (Int × Int × Int × ByteArray × Int)) × Int × Int) × Int)) × (List (Int × ByteArray × Bool)) × (List ByteArray) × Int × (List (List Int)) × List (List ((List Int) × Int))) : Option (((List Int) × Unit) × Unit) := truth_Loops_n 1099511627776 w_0
theorem truth_Loops_eq (n : Nat) (w_0 : (List (Bool × Int × ByteArray × (Int × Int × Int × Int × Int × Int × (List Int) × Int × Int × Int × Int × Int × List (Int × Int × Int)) × (Int × Int × (List (Int × ByteArray)) × (List (Int × ByteArray)) × (List (Int × Int × Int × ByteArray × Int)) × Int × Int) × Int)) × (List (Int × ByteArray × Bool)) × (List ByteArray) × Int × (List (List Int)) × List (List ((List Int) × Int))) : evFn truth_Loops_Γ tab truth_Loops_fi n [.val t31] [⟨t37, [true], none⟩] Tryz.f15 (w_0, ()) = truth_Loops_n n w_0 := by
  rw [truth_Loops_start, truth_Loops_XL1 n n]
  rfl
noncomputable def truth_Loops_e : Ent := ⟨[.val t31], [⟨t37, [true], none⟩], fun x => truth_Loops x.1⟩
theorem truth_Loops_good : Good tab.ty Tryz.prog 15 truth_Loops_e := by
  refine fn_good (Γ := truth_Loops_Γ) (fi := truth_Loops_fi) (n := 1099511627776) follows (gcons world_Up_good (gcons tree_Loop_good gnil)) tabok Tryz.func15 (by kernel_rfl) (by kernel_rfl) (fun x r h => ?_)
  obtain ⟨w_0, _u⟩ := x
  exact (truth_Loops_eq 1099511627776 w_0).trans h
noncomputable def span_one_Γ : Ctx := []
def span_one_fi : Fi := { keep := [], vty := [], vals := [], live := [(0, [1, 7, 8, 9, 10, 11, 14, 15, 16]), (1, [2])] }
noncomputable def span_one (s_0 : Int × Int) : Option ((Bool × Unit) × Unit) :=
 bif decide (s_0.1 ≥ 1) then
  bif decide (s_0.1 ≤ s_0.2) then
   some ((decide (s_0.2 ≤ 1000000), ()), ())
  else
   some ((false, ()), ())
 else
  some ((false, ()), ())
theorem span_one_eq (s_0 : Int × Int) : evFn span_one_Γ tab span_one_fi 1 [.val t43] [⟨t4, [false], none⟩] Tryz.f76 (s_0, ()) = span_one s_0 := by kernel_rfl
noncomputable def span_one_e : Ent := ⟨[.val t43], [⟨t4, [false], none⟩], fun x => span_one x.1⟩
theorem span_one_good : Good tab.ty Tryz.prog 76 span_one_e := by
  refine fn_good (Γ := span_one_Γ) (fi := span_one_fi) (n := 1) follows gnil tabok Tryz.func76 (by kernel_rfl) (by kernel_rfl) (fun x r h => ?_)
  obtain ⟨s_0, _u⟩ := x
  exact (span_one_eq s_0).trans h
noncomputable def slices_Clone_Span (s : List (Int × Int)) : Option (((List (Int × Int)) × Unit) × Unit) := bif Nat.ble s.length 1073741824 then some ((s, ()), ()) else none
theorem slices_Clone_Span_raw (s : List (Int × Int)) : evFn [] tab (fiOf Tryz.f77 []) 1 [.val t56] [⟨t56, [true], none⟩] Tryz.f77 (s, ()) = bif !(List.isEmpty s) then bif Nat.ble (0 + s.length) 1073741824 then some (([] ++ s, ()), ()) else none
 else bothEq (some (([], ()), ())) (bif Nat.ble (0 + s.length) 1073741824 then some (([] ++ s, ()), ()) else none) := by kernel_rfl
theorem slices_Clone_Span_eq (s : List (Int × Int)) : evFn [] tab (fiOf Tryz.f77 []) 1 [.val t56] [⟨t56, [true], none⟩] Tryz.f77 (s, ()) = slices_Clone_Span s := by
  rw [slices_Clone_Span_raw]
  cases s with
  | nil => exact bothEq_same _
  | cons x q => rw [Nat.zero_add]; rfl
noncomputable def slices_Clone_Span_e : Ent := ⟨[.val t56], [⟨t56, [true], none⟩], fun x => slices_Clone_Span x.1⟩
theorem slices_Clone_Span_good : Good tab.ty Tryz.prog 77 slices_Clone_Span_e := by
  refine fn_good (Γ := []) (fi := fiOf Tryz.f77 []) (n := 1) follows gnil tabok Tryz.func77 (by kernel_rfl) (by kernel_rfl) (fun x r h => ?_)
  obtain ⟨s, _u⟩ := x
  exact (slices_Clone_Span_eq s).trans h
noncomputable def slices_Insert_Span_Γ : Ctx := [(78, markE)]
def slices_Insert_Span_fi : Fi := { keep := [], vty := [], vals := [], live := [(0, [0, 1, 2]), (1, [0, 1, 2]), (2, [0, 1, 2, 7]), (3, [0, 1, 2, 7, 16]), (4, [6]), (5, [0, 1, 2, 7, 8]), (6, [0, 1, 2, 7, 8, 22]), (7, [6]), (8, [0, 1, 2, 7, 8, 31]), (9, [0, 1, 2, 7, 9]), (10, [0, 1, 7, 9]), (11, [9]), (12, [6]), (13, [0, 1, 2, 7, 8]), (14, [0, 1, 2, 7, 8, 68]), (15, [0, 1, 2]), (16, [0]), (17, [6]), (18, [0, 1, 7]), (19, [0]), (20, [6])] }
noncomputable def slices_Insert_Span_c (c : Nat) (s_0 : List (Int × Int)) (i_1 : Int) (v_2 : List (Int × Int)) : Option (((List (Int × Int)) × Unit) × Unit) :=
 bif (decide (0 ≤ i_1) && decide (i_1 ≤ ((s_0.length : Nat) : Int))) && decide (((s_0.length : Nat) : Int) ≤ ((((List.map some s_0 ++ List.replicate c none).length) - 0 : Nat) : Int)) then
  bif (v_2.length : Int) == 0 then
   bif Nat.ble s_0.length ((List.map some s_0 ++ List.replicate c none).length) then
    Option.bind (allSome (List.take s_0.length (List.map some s_0 ++ List.replicate c none))) fun (z1 : List (Int × Int)) =>
    some ((z1, ()), ())
   else none
  else
  bif i_1 == ((s_0.length : Nat) : Int) then
   bif Nat.ble (0 + s_0.length) ((List.map some s_0 ++ List.replicate c none).length) then
    bif Nat.ble (s_0.length + v_2.length) ((List.map some s_0 ++ List.replicate c none).length) then
     bif Nat.ble (s_0.length + v_2.length) ((writeAt (List.map some s_0 ++ List.replicate c none) s_0.length v_2).length) then
      Option.bind (allSome (List.take (s_0.length + v_2.length) (writeAt (List.map some s_0 ++ List.replicate c none) s_0.length v_2))) fun (z2 : List (Int × Int)) =>
      some ((z2, ()), ())
     else none
    else
    bif Nat.ble (s_0.length + v_2.length) 1073741824 then
     Option.bind (allSome (List.take s_0.length (List.map some s_0 ++ List.replicate c none))) fun (z3 : List (Int × Int)) =>
     some ((z3 ++ v_2, ()), ())
    else none
   else none
  else
  bif Nat.ble (0 + s_0.length) ((List.map some s_0 ++ List.replicate c none).length) then
   bif decide (IntKind.wrap .i64 (((s_0.length : Nat) : Int) + (v_2.length : Int)) > ((((List.map some s_0 ++ List.replicate c none).length) - 0 : Nat) : Int)) then
    bif decide (0 ≤ i_1) && decide (i_1 ≤ ((((List.map some s_0 ++ List.replicate c none).length) - 0 : Nat) : Int)) then
     bif Nat.ble (0 + ((i_1 - 0).toNat)) ((List.map some s_0 ++ List.replicate c none).length) then
      bif decide (0 < IntKind.wrap .i64 ((IntKind.wrap .i64 (((s_0.length : Nat) : Int) + (v_2.length : Int))) - i_1)) && true && Nat.blt ((List.map some s_0 ++ List.replicate c none).length) (((i_1 - 0).toNat) + ((List.replicate ((IntKind.wrap .i64 ((IntKind.wrap .i64 (((s_0.length : Nat) : Int) + (v_2.length : Int))) - i_1)).toNat) ((0, 0) : Int × Int)).length)) && Nat.ble (((List.map some s_0 ++ List.replicate c none).length) + ((List.replicate ((IntKind.wrap .i64 ((IntKind.wrap .i64 (((s_0.length : Nat) : Int) + (v_2.length : Int))) - i_1)).toNat) ((0, 0) : Int × Int)).length)) 536870912 then
       bif (decide (0 ≤ i_1) && decide (i_1 ≤ ((((i_1 - 0).toNat) + ((List.replicate ((IntKind.wrap .i64 ((IntKind.wrap .i64 (((s_0.length : Nat) : Int) + (v_2.length : Int))) - i_1)).toNat) ((0, 0) : Int × Int)).length) : Nat) : Int))) && decide (((((i_1 - 0).toNat) + ((List.replicate ((IntKind.wrap .i64 ((IntKind.wrap .i64 (((s_0.length : Nat) : Int) + (v_2.length : Int))) - i_1)).toNat) ((0, 0) : Int × Int)).length) : Nat) : Int) ≤ ((((List.take ((i_1 - 0).toNat) (List.map some s_0 ++ List.replicate c none) ++ List.map some (List.replicate ((IntKind.wrap .i64 ((IntKind.wrap .i64 (((s_0.length : Nat) : Int) + (v_2.length : Int))) - i_1)).toNat) ((0, 0) : Int × Int))).length) - 0 : Nat) : Int)) then
        bif Nat.ble ((0 + i_1.toNat) + ((((((i_1 - 0).toNat) + ((List.replicate ((IntKind.wrap .i64 ((IntKind.wrap .i64 (((s_0.length : Nat) : Int) + (v_2.length : Int))) - i_1)).toNat) ((0, 0) : Int × Int)).length) : Nat) : Int) - i_1).toNat)) ((List.take ((i_1 - 0).toNat) (List.map some s_0 ++ List.replicate c none) ++ List.map some (List.replicate ((IntKind.wrap .i64 ((IntKind.wrap .i64 (((s_0.length : Nat) : Int) + (v_2.length : Int))) - i_1)).toNat) ((0, 0) : Int × Int))).length) then
         bif (decide (0 ≤ IntKind.wrap .i64 (i_1 + (v_2.length : Int))) && decide (IntKind.wrap .i64 (i_1 + (v_2.length : Int)) ≤ ((((i_1 - 0).toNat) + ((List.replicate ((IntKind.wrap .i64 ((IntKind.wrap .i64 (((s_0.length : Nat) : Int) + (v_2.length : Int))) - i_1)).toNat) ((0, 0) : Int × Int)).length) : Nat) : Int))) && decide (((((i_1 - 0).toNat) + ((List.replicate ((IntKind.wrap .i64 ((IntKind.wrap .i64 (((s_0.length : Nat) : Int) + (v_2.length : Int))) - i_1)).toNat) ((0, 0) : Int × Int)).length) : Nat) : Int) ≤ ((((writeAt (List.take ((i_1 - 0).toNat) (List.map some s_0 ++ List.replicate c none) ++ List.map some (List.replicate ((IntKind.wrap .i64 ((IntKind.wrap .i64 (((s_0.length : Nat) : Int) + (v_2.length : Int))) - i_1)).toNat) ((0, 0) : Int × Int))) (0 + i_1.toNat) (List.take ((((((i_1 - 0).toNat) + ((List.replicate ((IntKind.wrap .i64 ((IntKind.wrap .i64 (((s_0.length : Nat) : Int) + (v_2.length : Int))) - i_1)).toNat) ((0, 0) : Int × Int)).length) : Nat) : Int) - i_1).toNat) v_2)).length) - 0 : Nat) : Int)) then
          bif (decide (0 ≤ i_1) && decide (i_1 ≤ ((s_0.length : Nat) : Int))) && decide (((s_0.length : Nat) : Int) ≤ ((((List.map some s_0 ++ List.replicate c none).length) - 0 : Nat) : Int)) then
           bif Nat.ble ((0 + ((IntKind.wrap .i64 (i_1 + (v_2.length : Int))).toNat)) + ((((((i_1 - 0).toNat) + ((List.replicate ((IntKind.wrap .i64 ((IntKind.wrap .i64 (((s_0.length : Nat) : Int) + (v_2.length : Int))) - i_1)).toNat) ((0, 0) : Int × Int)).length) : Nat) : Int) - (IntKind.wrap .i64 (i_1 + (v_2.length : Int)))).toNat)) ((writeAt (List.take ((i_1 - 0).toNat) (List.map some s_0 ++ List.replicate c none) ++ List.map some (List.replicate ((IntKind.wrap .i64 ((IntKind.wrap .i64 (((s_0.length : Nat) : Int) + (v_2.length : Int))) - i_1)).toNat) ((0, 0) : Int × Int))) (0 + i_1.toNat) (List.take ((((((i_1 - 0).toNat) + ((List.replicate ((IntKind.wrap .i64 ((IntKind.wrap .i64 (((s_0.length : Nat) : Int) + (v_2.length : Int))) - i_1)).toNat) ((0, 0) : Int × Int)).length) : Nat) : Int) - i_1).toNat) v_2)).length) then
            bif Nat.ble ((0 + i_1.toNat) + ((((s_0.length : Nat) : Int) - i_1).toNat)) ((List.map some s_0 ++ List.replicate c none).length) then
            Option.bind (allSome (List.take (min ((((((i_1 - 0).toNat) + ((List.replicate ((IntKind.wrap .i64 ((IntKind.wrap .i64 (((s_0.length : Nat) : Int) + (v_2.length : Int))) - i_1)).toNat) ((0, 0) : Int × Int)).length) : Nat) : Int) - (IntKind.wrap .i64 (i_1 + (v_2.length : Int)))).toNat) ((((s_0.length : Nat) : Int) - i_1).toNat)) (List.drop (0 + i_1.toNat) (List.map some s_0 ++ List.replicate c none)))) fun (z4 : List (Int × Int)) =>
            bif Nat.ble (((i_1 - 0).toNat) + ((List.replicate ((IntKind.wrap .i64 ((IntKind.wrap .i64 (((s_0.length : Nat) : Int) + (v_2.length : Int))) - i_1)).toNat) ((0, 0) : Int × Int)).length)) ((writeAt (writeAt (List.take ((i_1 - 0).toNat) (List.map some s_0 ++ List.replicate c none) ++ List.map some (List.replicate ((IntKind.wrap .i64 ((IntKind.wrap .i64 (((s_0.length : Nat) : Int) + (v_2.length : Int))) - i_1)).toNat) ((0, 0) : Int × Int))) (0 + i_1.toNat) (List.take ((((((i_1 - 0).toNat) + ((List.replicate ((IntKind.wrap .i64 ((IntKind.wrap .i64 (((s_0.length : Nat) : Int) + (v_2.length : Int))) - i_1)).toNat) ((0, 0) : Int × Int)).length) : Nat) : Int) - i_1).toNat) v_2)) (0 + ((IntKind.wrap .i64 (i_1 + (v_2.length : Int))).toNat)) z4).length) then
            Option.bind (allSome (List.take (((i_1 - 0).toNat) + ((List.replicate ((IntKind.wrap .i64 ((IntKind.wrap .i64 (((s_0.length : Nat) : Int) + (v_2.length : Int))) - i_1)).toNat) ((0, 0) : Int × Int)).length)) (writeAt (writeAt (List.take ((i_1 - 0).toNat) (List.map some s_0 ++ List.replicate c none) ++ List.map some (List.replicate ((IntKind.wrap .i64 ((IntKind.wrap .i64 (((s_0.length : Nat) : Int) + (v_2.length : Int))) - i_1)).toNat) ((0, 0) : Int × Int))) (0 + i_1.toNat) (List.take ((((((i_1 - 0).toNat) + ((List.replicate ((IntKind.wrap .i64 ((IntKind.wrap .i64 (((s_0.length : Nat) : Int) + (v_2.length : Int))) - i_1)).toNat) ((0, 0) : Int × Int)).length) : Nat) : Int) - i_1).toNat) v_2)) (0 + ((IntKind.wrap .i64 (i_1 + (v_2.length : Int))).toNat)) z4))) fun (z5 : List (Int × Int)) =>
            some ((z5, ()), ())
            else none
            else none
           else none
          else none
         else none
        else none
       else none
      else none
     else none
    else none
   else
   bif decide (0 ≤ IntKind.wrap .i64 (((s_0.length : Nat) : Int) + (v_2.length : Int))) && decide (IntKind.wrap .i64 (((s_0.length : Nat) : Int) + (v_2.length : Int)) ≤ ((((List.map some s_0 ++ List.replicate c none).length) - 0 : Nat) : Int)) then
    bif (decide (0 ≤ IntKind.wrap .i64 (i_1 + (v_2.length : Int))) && decide (IntKind.wrap .i64 (i_1 + (v_2.length : Int)) ≤ ((((IntKind.wrap .i64 (((s_0.length : Nat) : Int) + (v_2.length : Int))) - 0).toNat : Nat) : Int))) && decide (((((IntKind.wrap .i64 (((s_0.length : Nat) : Int) + (v_2.length : Int))) - 0).toNat : Nat) : Int) ≤ ((((List.map some s_0 ++ List.replicate c none).length) - 0 : Nat) : Int)) then
     bif (decide (0 ≤ IntKind.wrap .i64 (i_1 + (v_2.length : Int))) && decide (IntKind.wrap .i64 (i_1 + (v_2.length : Int)) ≤ ((((IntKind.wrap .i64 (((s_0.length : Nat) : Int) + (v_2.length : Int))) - 0).toNat : Nat) : Int))) && decide (((((IntKind.wrap .i64 (((s_0.length : Nat) : Int) + (v_2.length : Int))) - 0).toNat : Nat) : Int) ≤ ((((List.map some s_0 ++ List.replicate c none).length) - 0 : Nat) : Int)) then
      bif (decide (0 ≤ i_1) && decide (i_1 ≤ ((((IntKind.wrap .i64 (((s_0.length : Nat) : Int) + (v_2.length : Int))) - 0).toNat : Nat) : Int))) && decide (((((IntKind.wrap .i64 (((s_0.length : Nat) : Int) + (v_2.length : Int))) - 0).toNat : Nat) : Int) ≤ ((((List.map some s_0 ++ List.replicate c none).length) - 0 : Nat) : Int)) then
       bif Nat.ble ((0 + ((IntKind.wrap .i64 (i_1 + (v_2.length : Int))).toNat)) + ((((((IntKind.wrap .i64 (((s_0.length : Nat) : Int) + (v_2.length : Int))) - 0).toNat : Nat) : Int) - (IntKind.wrap .i64 (i_1 + (v_2.length : Int)))).toNat)) ((List.map some s_0 ++ List.replicate c none).length) then
        bif Nat.ble ((0 + i_1.toNat) + ((((((IntKind.wrap .i64 (((s_0.length : Nat) : Int) + (v_2.length : Int))) - 0).toNat : Nat) : Int) - i_1).toNat)) ((List.map some s_0 ++ List.replicate c none).length) then
         Option.bind (allSome (List.take (min ((((((IntKind.wrap .i64 (((s_0.length : Nat) : Int) + (v_2.length : Int))) - 0).toNat : Nat) : Int) - (IntKind.wrap .i64 (i_1 + (v_2.length : Int)))).toNat) ((((((IntKind.wrap .i64 (((s_0.length : Nat) : Int) + (v_2.length : Int))) - 0).toNat : Nat) : Int) - i_1).toNat)) (List.drop (0 + i_1.toNat) (List.map some s_0 ++ List.replicate c none)))) fun (z6 : List (Int × Int)) =>
         bif (decide (0 ≤ i_1) && decide (i_1 ≤ ((((IntKind.wrap .i64 (((s_0.length : Nat) : Int) + (v_2.length : Int))) - 0).toNat : Nat) : Int))) && decide (((((IntKind.wrap .i64 (((s_0.length : Nat) : Int) + (v_2.length : Int))) - 0).toNat : Nat) : Int) ≤ ((((writeAt (List.map some s_0 ++ List.replicate c none) (0 + ((IntKind.wrap .i64 (i_1 + (v_2.length : Int))).toNat)) z6).length) - 0 : Nat) : Int)) then
          bif Nat.ble ((0 + i_1.toNat) + ((((((IntKind.wrap .i64 (((s_0.length : Nat) : Int) + (v_2.length : Int))) - 0).toNat : Nat) : Int) - i_1).toNat)) ((writeAt (List.map some s_0 ++ List.replicate c none) (0 + ((IntKind.wrap .i64 (i_1 + (v_2.length : Int))).toNat)) z6).length) then
           bif Nat.ble (((IntKind.wrap .i64 (((s_0.length : Nat) : Int) + (v_2.length : Int))) - 0).toNat) ((writeAt (writeAt (List.map some s_0 ++ List.replicate c none) (0 + ((IntKind.wrap .i64 (i_1 + (v_2.length : Int))).toNat)) z6) (0 + i_1.toNat) (List.take ((((((IntKind.wrap .i64 (((s_0.length : Nat) : Int) + (v_2.length : Int))) - 0).toNat : Nat) : Int) - i_1).toNat) v_2)).length) then
            Option.bind (allSome (List.take (((IntKind.wrap .i64 (((s_0.length : Nat) : Int) + (v_2.length : Int))) - 0).toNat) (writeAt (writeAt (List.map some s_0 ++ List.replicate c none) (0 + ((IntKind.wrap .i64 (i_1 + (v_2.length : Int))).toNat)) z6) (0 + i_1.toNat) (List.take ((((((IntKind.wrap .i64 (((s_0.length : Nat) : Int) + (v_2.length : Int))) - 0).toNat : Nat) : Int) - i_1).toNat) v_2)))) fun (z7 : List (Int × Int)) =>
            some ((z7, ()), ())
           else none
          else none
         else none
        else none
       else none
      else none
     else none
    else none
   else none
  else none
 else none
theorem slices_Insert_Span_c_eq (c : Nat) (s_0 : List (Int × Int)) (i_1 : Int) (v_2 : List (Int × Int)) : evFn slices_Insert_Span_Γ tab { slices_Insert_Span_fi with cap := c } 1 [.ownc 63 t43, .val t2, .own 63 t43] [⟨t56, [true], none⟩] Tryz.f78 (s_0, i_1, v_2, ()) = slices_Insert_Span_c c s_0 i_1 v_2 := by kernel_rfl
theorem slices_Insert_Span_c_is (c : Nat) (s_0 : List (Int × Int)) (i_1 : Int) (v_2 : List (Int × Int)) : slices_Insert_Span_c c s_0 i_1 v_2 = insertC ((0, 0) : Int × Int) c s_0 i_1 v_2 := by kernel_rfl
noncomputable def slices_Insert_Span (s_0 : List (Int × Int)) (i_1 : Int) (v_2 : List (Int × Int)) : Option (((List (Int × Int)) × Unit) × Unit) := insertR s_0 i_1 v_2
noncomputable def slices_Insert_Span_e : Ent := ⟨[.ownc 63 t43, .val t2, .own 63 t43], [⟨t56, [true], none⟩], fun x => slices_Insert_Span x.1 x.2.1 x.2.2.1⟩
theorem slices_Insert_Span_good : Good tab.ty Tryz.prog 78 slices_Insert_Span_e := by
  refine fn_goodC (Γ := slices_Insert_Span_Γ) (fi := slices_Insert_Span_fi) (n := 1) follows (gcons (gmark Tryz.func78 (by kernel_rfl) (by kernel_rfl)) gnil) tabok Tryz.func78 (by kernel_rfl) (by kernel_rfl) (fun c x r h => ?_)
  obtain ⟨s_0, i_1, v_2, _u⟩ := x
  exact (slices_Insert_Span_c_eq c s_0 i_1 v_2).trans ((slices_Insert_Span_c_is c s_0 i_1 v_2).trans (insert_law ((0, 0) : Int × Int) c s_0 i_1 v_2 r h))
noncomputable def span_Add_Γ : Ctx := [(76, span_one_e), (77, slices_Clone_Span_e), (78, slices_Insert_Span_e)]
def span_Add_fi : Fi := { keep := [], vty := [(4, 56)], vals := [], live := [(0, [0, 3, 4, 26, 27, 28, 29, 30, 31, 55, 56, 57, 58, 59, 60, 61, 62]), (1, [0, 3, 4, 10, 26, 27, 28, 29, 30, 31, 55, 56, 57, 58, 59, 60, 61, 62]), (2, [4]), (3, [3, 4, 13, 14, 15, 26, 27, 28, 29, 30, 31, 55, 56, 57, 58, 59, 60, 61, 62]), (4, [3, 4, 13, 14, 15, 16, 26, 27, 28, 29, 30, 31, 55, 56, 57, 58, 59, 60, 61, 62]), (5, [3, 4, 6, 13, 14, 15, 26, 27, 28, 29, 30, 31, 55, 56, 57, 58, 59, 60, 61, 62]), (6, [3, 4, 6, 13, 14, 15, 26, 27, 28, 29, 30, 31, 32, 55, 56, 57, 58, 59, 60, 61, 62]), (7, [3, 4, 13, 14, 15, 26, 27, 28, 29, 30, 31, 55, 56, 57, 58, 59, 60, 61, 62]), (8, [3, 4, 13, 14, 15, 26, 27, 28, 29, 30, 31, 55, 56, 57, 58, 59, 60, 61, 62]), (9, [3, 4, 13, 14, 15, 26, 27, 28, 29, 30, 31, 55, 56, 57, 58, 59, 60, 61, 62]), (10, [3, 4, 7, 55, 56, 57, 58, 59, 60, 61, 62]), (11, [3, 4, 7, 55, 56, 57, 58, 59, 60, 61, 62, 63]), (12, [3, 4, 7, 55, 56, 57, 58, 59, 60, 61, 62]), (13, [4])] }
noncomputable def span_Add_B1 (L1 : (List (Int × Int)) → Int → Int → Int → Int → (List (Int × Int)) → Option (((List (Int × Int)) × Unit) × Unit)) (L2 : Int → Int → Int → (List (Int × Int)) → Option (((List (Int × Int)) × Unit) × Unit)) (v3 : List (Int × Int)) (v4 : Int) (v5 : Int) (v6 : Int) (v7 : Int) (v8 : List (Int × Int)) : Option (((List (Int × Int)) × Unit) × Unit) :=
 bif decide (v5 < v4) then
  bif decide (0 ≤ v5) && decide (v5 < (v3.length : Int)) then
   bif decide ((List.getD v3 v5.toNat (0, 0)).2 < IntKind.wrap .i64 (v6 - 1)) then
    bif Nat.ble (v8.length + 1) 1073741824 then
     L1 v3 v4 (IntKind.wrap .i64 (v5 + 1)) v6 v7 (v8 ++ [(List.getD v3 v5.toNat (0, 0))])
    else none
   else
   bif decide ((List.getD v3 v5.toNat (0, 0)).1 > IntKind.wrap .i64 (v7 + 1)) then
    bif Nat.ble (v8.length + 1) 1073741824 then
     L1 v3 v4 (IntKind.wrap .i64 (v5 + 1)) v6 v7 (v8 ++ [(List.getD v3 v5.toNat (0, 0))])
    else none
   else
    L1 v3 v4 (IntKind.wrap .i64 (v5 + 1)) (if (List.getD v3 v5.toNat (0, 0)).1 < v6 then (List.getD v3 v5.toNat (0, 0)).1 else v6) (if (List.getD v3 v5.toNat (0, 0)).2 > v7 then (List.getD v3 v5.toNat (0, 0)).2 else v7) v8
  else none
 else
  L2 0 v6 v7 v8
noncomputable def span_Add_B2 (L2 : Int → Int → Int → (List (Int × Int)) → Option (((List (Int × Int)) × Unit) × Unit)) (v9 : Int) (v10 : Int) (v11 : Int) (v12 : List (Int × Int)) : Option (((List (Int × Int)) × Unit) × Unit) :=
 bif decide (v9 < (v12.length : Int)) then
  bif decide (0 ≤ v9) && decide (v9 < (v12.length : Int)) then
   bif decide (0 ≤ v9) && decide (v9 < (v12.length : Int)) then
    bif decide ((List.getD v12 v9.toNat (0, 0)).1 < v10) then
     L2 (IntKind.wrap .i64 (v9 + 1)) v10 v11 v12
    else
     Option.bind (slices_Insert_Span v12 v9 [(v10, v11)]) fun (r13 : ((List (Int × Int)) × Unit) × Unit) =>
     some ((r13.1.1, ()), ())
   else none
  else none
 else
  Option.bind (slices_Insert_Span v12 v9 [(v10, v11)]) fun (r14 : ((List (Int × Int)) × Unit) × Unit) =>
  some ((r14.1.1, ()), ())
noncomputable def span_Add_T (L1 : (List (Int × Int)) → Int → Int → Int → Int → (List (Int × Int)) → Option (((List (Int × Int)) × Unit) × Unit)) (l_0 : List (Int × Int)) (s_1 : Int × Int) : Option (((List (Int × Int)) × Unit) × Unit) :=
 Option.bind (span_one s_1) fun (r1 : (Bool × Unit) × Unit) =>
 bif !r1.1.1 then
  Option.bind (slices_Clone_Span l_0) fun (r2 : ((List (Int × Int)) × Unit) × Unit) =>
  some ((r2.1.1, ()), ())
 else
  L1 l_0 (l_0.length : Int) 0 s_1.1 s_1.2 []
noncomputable def span_Add_L2 (n : Nat) : Nat → Int → Int → Int → (List (Int × Int)) → Option (((List (Int × Int)) × Unit) × Unit) := iter (fun _ _ _ _ => none) fun L => span_Add_B2 L
noncomputable def span_Add_L1 (n : Nat) : Nat → (List (Int × Int)) → Int → Int → Int → Int → (List (Int × Int)) → Option (((List (Int × Int)) × Unit) × Unit) := iter (fun _ _ _ _ _ _ => none) fun L => span_Add_B1 L (span_Add_L2 n n)
noncomputable def span_Add_X1 (n m : Nat) (v3 : List (Int × Int)) (v4 : Int) (v5 : Int) (v6 : Int) (v7 : Int) (v8 : List (Int × Int)) : Option (((List (Int × Int)) × Unit) × Unit) :=
 atLoop span_Add_Γ tab (fiB [.val t56, .val t43] span_Add_fi) n [.val t56, .val t43] [⟨t56, [true], none⟩] Tryz.f56 [1, 1, 0, 1, 0] [] [3, 4, 13, 14, 15] m
 ⟨[(3, SV.cv (CV.one (LV.ptr (3, 0) 0))), (4, SV.cv (CV.one (LV.ref (888888, 4)))), (13, SV.cv (CV.one (LV.pure t56 v3))), (14, SV.cv (CV.one (LV.pure t2 v4))), (15, SV.cv (CV.one (LV.pure t2 v5)))],
  [((3, 0), Ob.box 63 [LV.pure t2 v6, LV.pure t2 v7]), ((888888, 4), Ob.row 63 t43 v8)]⟩
noncomputable def span_Add_X2 (n m : Nat) (v9 : Int) (v10 : Int) (v11 : Int) (v12 : List (Int × Int)) : Option (((List (Int × Int)) × Unit) × Unit) :=
 atLoop span_Add_Γ tab (fiB [.val t56, .val t43] span_Add_fi) n [.val t56, .val t43] [⟨t56, [true], none⟩] Tryz.f56 [1, 1, 1, 1, 0, 0] [] [3, 4, 7] m
 ⟨[(3, SV.cv (CV.one (LV.ptr (3, 0) 0))), (4, SV.cv (CV.one (LV.ref (888888, 4)))), (7, SV.cv (CV.one (LV.pure t2 v9)))],
  [((3, 0), Ob.box 63 [LV.pure t2 v10, LV.pure t2 v11]), ((888888, 4), Ob.row 63 t43 v12)]⟩
theorem span_Add_step1 (n m : Nat) (v3 : List (Int × Int)) (v4 : Int) (v5 : Int) (v6 : Int) (v7 : Int) (v8 : List (Int × Int)) : span_Add_X1 n (m + 1) v3 v4 v5 v6 v7 v8 = span_Add_B1 (span_Add_X1 n m) (span_Add_X2 n n) v3 v4 v5 v6 v7 v8 := by kernel_rfl
theorem span_Add_step2 (n m : Nat) (v9 : Int) (v10 : Int) (v11 : Int) (v12 : List (Int × Int)) : span_Add_X2 n (m + 1) v9 v10 v11 v12 = span_Add_B2 (span_Add_X2 n m) v9 v10 v11 v12 := by kernel_rfl
theorem span_Add_start (n : Nat) (l_0 : List (Int × Int)) (s_1 : Int × Int) : evFn span_Add_Γ tab span_Add_fi n [.val t56, .val t43] [⟨t56, [true], none⟩] Tryz.f56 (l_0, s_1, ()) = span_Add_T (span_Add_X1 n n) l_0 s_1 := by kernel_rfl
theorem span_Add_XL2 (n : Nat) : ∀ m, span_Add_X2 n m = span_Add_L2 n m
 | 0 => rfl
 | m + 1 => by
  have ih := span_Add_XL2 n m
  funext v9 v10 v11 v12
  rw [span_Add_step2, ih]
  rfl
theorem span_Add_XL1 (n : Nat) : ∀ m, span_Add_X1 n m = span_Add_L1 n m
 | 0 => rfl
 | m + 1 => by
  have ih := span_Add_XL1 n m
  funext v3 v4 v5 v6 v7 v8
  rw [span_Add_step1, span_Add_XL2 n n, ih]
  rfl
noncomputable def span_Add_n (n : Nat) (l_0 : List (Int × Int)) (s_1 : Int × Int) : Option (((List (Int × Int)) × Unit) × Unit) := span_Add_T (span_Add_L1 n n) l_0 s_1
noncomputable def span_Add (l_0 : List (Int × Int)) (s_1 : Int × Int) : Option (((List (Int × Int)) × Unit) × Unit) := span_Add_n 1099511627776 l_0 s_1
theorem span_Add_eq (n : Nat) (l_0 : List (Int × Int)) (s_1 : Int × Int) : evFn span_Add_Γ tab span_Add_fi n [.val t56, .val t43] [⟨t56, [true], none⟩] Tryz.f56 (l_0, s_1, ()) = span_Add_n n l_0 s_1 := by
  rw [span_Add_start, span_Add_XL1 n n]
  rfl
noncomputable def span_Add_e : Ent := ⟨[.val t56, .val t43], [⟨t56, [true], none⟩], fun x => span_Add x.1 x.2.1⟩
theorem span_Add_good : Good tab.ty Tryz.prog 56 span_Add_e := by
  refine fn_good (Γ := span_Add_Γ) (fi := span_Add_fi) (n := 1099511627776) follows (gcons span_one_good (gcons slices_Clone_Span_good (gcons slices_Insert_Span_good gnil))) tabok Tryz.func56 (by kernel_rfl) (by kernel_rfl) (fun x r h => ?_)
  obtain ⟨l_0, s_1, _u⟩ := x
  exact (span_Add_eq 1099511627776 l_0 s_1).trans h
noncomputable def log_Gaps_Γ : Ctx := [(55, log_kind_e), (56, span_Add_e)]
def log_Gaps_fi : Fi := { keep := [], vty := [(2, 56)], vals := [], live := [(0, [0, 2]), (1, [2, 7, 8, 9]), (2, [2, 7, 8, 9, 10]), (3, [2, 4, 7, 8, 9]), (4, [2, 4, 6, 7, 8, 9]), (5, [2, 4, 7, 8, 9, 19]), (6, [2, 7, 8, 9]), (7, [2, 7, 8, 9]), (8, [2])] }
noncomputable def log_Gaps_B1 (L1 : (List (Int × Int × Int × ByteArray × Int)) → Int → Int → (List (Int × Int)) → Option (((List (Int × Int)) × Unit) × Unit)) (v1 : List (Int × Int × Int × ByteArray × Int)) (v2 : Int) (v3 : Int) (v4 : List (Int × Int)) : Option (((List (Int × Int)) × Unit) × Unit) :=
 bif decide (v3 < v2) then
  bif decide (0 ≤ v3) && decide (v3 < (v1.length : Int)) then
   Option.bind (log_kind ((List.getD v1 v3.toNat (0, 0, 0, (⟨#[]⟩ : ByteArray), 0)).1, ((List.getD v1 v3.toNat (0, 0, 0, (⟨#[]⟩ : ByteArray), 0)).2).1, (((List.getD v1 v3.toNat (0, 0, 0, (⟨#[]⟩ : ByteArray), 0)).2).2).1, ((((List.getD v1 v3.toNat (0, 0, 0, (⟨#[]⟩ : ByteArray), 0)).2).2).2))) fun (r5 : (IV × Unit) × Unit) =>
   bif IV.is r5.1.1 106 then
    Option.bind (span_Add v4 (((List.getD v1 v3.toNat (0, 0, 0, (⟨#[]⟩ : ByteArray), 0)).2).1, (((List.getD v1 v3.toNat (0, 0, 0, (⟨#[]⟩ : ByteArray), 0)).2).2).1)) fun (r6 : ((List (Int × Int)) × Unit) × Unit) =>
    L1 v1 v2 (IntKind.wrap .i64 (v3 + 1)) r6.1.1
   else
    L1 v1 v2 (IntKind.wrap .i64 (v3 + 1)) v4
  else none
 else
  some ((v4, ()), ())
noncomputable def log_Gaps_T (L1 : (List (Int × Int × Int × ByteArray × Int)) → Int → Int → (List (Int × Int)) → Option (((List (Int × Int)) × Unit) × Unit)) (l_0 : List (Int × Int × Int × ByteArray × Int)) : Option (((List (Int × Int)) × Unit) × Unit) :=
 L1 l_0 (l_0.length : Int) 0 []
noncomputable def log_Gaps_L1 (n : Nat) : Nat → (List (Int × Int × Int × ByteArray × Int)) → Int → Int → (List (Int × Int)) → Option (((List (Int × Int)) × Unit) × Unit) := iter (fun _ _ _ _ => none) fun L => log_Gaps_B1 L
noncomputable def log_Gaps_X1 (n m : Nat) (v1 : List (Int × Int × Int × ByteArray × Int)) (v2 : Int) (v3 : Int) (v4 : List (Int × Int)) : Option (((List (Int × Int)) × Unit) × Unit) :=
 atLoop log_Gaps_Γ tab (fiB [.val t42] log_Gaps_fi) n [.val t42] [⟨t56, [true], none⟩] Tryz.f36 [1, 0, 1, 0] [] [2, 7, 8, 9] m
 ⟨[(2, SV.cv (CV.one (LV.ref (888888, 2)))), (7, SV.cv (CV.one (LV.pure t42 v1))), (8, SV.cv (CV.one (LV.pure t2 v2))), (9, SV.cv (CV.one (LV.pure t2 v3)))],
  [((888888, 2), Ob.row 63 t43 v4)]⟩
theorem log_Gaps_step1 (n m : Nat) (v1 : List (Int × Int × Int × ByteArray × Int)) (v2 : Int) (v3 : Int) (v4 : List (Int × Int)) : log_Gaps_X1 n (m + 1) v1 v2 v3 v4 = log_Gaps_B1 (log_Gaps_X1 n m) v1 v2 v3 v4 := by kernel_rfl
theorem log_Gaps_start (n : Nat) (l_0 : List (Int × Int × Int × ByteArray × Int)) : evFn log_Gaps_Γ tab log_Gaps_fi n [.val t42] [⟨t56, [true], none⟩] Tryz.f36 (l_0, ()) = log_Gaps_T (log_Gaps_X1 n n) l_0 := by kernel_rfl
theorem log_Gaps_XL1 (n : Nat) : ∀ m, log_Gaps_X1 n m = log_Gaps_L1 n m
 | 0 => rfl
 | m + 1 => by
  have ih := log_Gaps_XL1 n m
  funext v1 v2 v3 v4
  rw [log_Gaps_step1, ih]
  rfl
noncomputable def log_Gaps_n (n : Nat) (l_0 : List (Int × Int × Int × ByteArray × Int)) : Option (((List (Int × Int)) × Unit) × Unit) := log_Gaps_T (log_Gaps_L1 n n) l_0
noncomputable def log_Gaps (l_0 : List (Int × Int × Int × ByteArray × Int)) : Option (((List (Int × Int)) × Unit) × Unit) := log_Gaps_n 1099511627776 l_0
theorem log_Gaps_eq (n : Nat) (l_0 : List (Int × Int × Int × ByteArray × Int)) : evFn log_Gaps_Γ tab log_Gaps_fi n [.val t42] [⟨t56, [true], none⟩] Tryz.f36 (l_0, ()) = log_Gaps_n n l_0 := by
  rw [log_Gaps_start, log_Gaps_XL1 n n]
  rfl
noncomputable def log_Gaps_e : Ent := ⟨[.val t42], [⟨t56, [true], none⟩], fun x => log_Gaps x.1⟩
theorem log_Gaps_good : Good tab.ty Tryz.prog 36 log_Gaps_e := by
  refine fn_good (Γ := log_Gaps_Γ) (fi := log_Gaps_fi) (n := 1099511627776) follows (gcons log_kind_good (gcons span_Add_good gnil)) tabok Tryz.func36 (by kernel_rfl) (by kernel_rfl) (fun x r h => ?_)
  obtain ⟨l_0, _u⟩ := x
  exact (log_Gaps_eq 1099511627776 l_0).trans h
noncomputable def truth_Lacks_Γ : Ctx := [(36, log_Gaps_e)]
def truth_Lacks_fi : Fi := { keep := [], vty := [], vals := [], live := [(0, [1, 2, 8, 9, 10, 11, 12]), (1, [1, 2, 13]), (2, [4]), (3, [4])] }
noncomputable def truth_Lacks (w_0 : (List (Bool × Int × ByteArray × (Int × Int × Int × Int × Int × Int × (List Int) × Int × Int × Int × Int × Int × List (Int × Int × Int)) × (Int × Int × (List (Int × ByteArray)) × (List (Int × ByteArray)) × (List (Int × Int × Int × ByteArray × Int)) × Int × Int) × Int)) × (List (Int × ByteArray × Bool)) × (List ByteArray) × Int × (List (List Int)) × List (List ((List Int) × Int))) (id_1 : Int) : Option (((List (Int × Int)) × Unit) × Unit) :=
 bif decide (id_1 < 1) then
  some (([], ()), ())
 else
 bif decide (id_1 > (w_0.1.length : Int)) then
  some (([], ()), ())
 else
 bif decide (0 ≤ IntKind.wrap .i64 (id_1 - 1)) && decide (IntKind.wrap .i64 (id_1 - 1) < (w_0.1.length : Int)) then
  Option.bind (log_Gaps (((((((((((List.getD w_0.1 ((IntKind.wrap .i64 (id_1 - 1)).toNat) (false, 0, (⟨#[]⟩ : ByteArray), (0, 0, 0, 0, 0, 0, [], 0, 0, 0, 0, 0, []), (0, 0, [], [], [], 0, 0), 0)).2).2).2).2).1).2).2).2).2).1)) fun (r1 : ((List (Int × Int)) × Unit) × Unit) =>
  some ((r1.1.1, ()), ())
 else none
theorem truth_Lacks_eq (w_0 : (List (Bool × Int × ByteArray × (Int × Int × Int × Int × Int × Int × (List Int) × Int × Int × Int × Int × Int × List (Int × Int × Int)) × (Int × Int × (List (Int × ByteArray)) × (List (Int × ByteArray)) × (List (Int × Int × Int × ByteArray × Int)) × Int × Int) × Int)) × (List (Int × ByteArray × Bool)) × (List ByteArray) × Int × (List (List Int)) × List (List ((List Int) × Int))) (id_1 : Int) : evFn truth_Lacks_Γ tab truth_Lacks_fi 1 [.val t31, .val t2] [⟨t56, [true], none⟩] Tryz.f18 (w_0, id_1, ()) = truth_Lacks w_0 id_1 := by kernel_rfl
noncomputable def truth_Lacks_e : Ent := ⟨[.val t31, .val t2], [⟨t56, [true], none⟩], fun x => truth_Lacks x.1 x.2.1⟩
theorem truth_Lacks_good : Good tab.ty Tryz.prog 18 truth_Lacks_e := by
  refine fn_good (Γ := truth_Lacks_Γ) (fi := truth_Lacks_fi) (n := 1) follows (gcons log_Gaps_good gnil) tabok Tryz.func18 (by kernel_rfl) (by kernel_rfl) (fun x r h => ?_)
  obtain ⟨w_0, id_1, _u⟩ := x
  exact (truth_Lacks_eq w_0 id_1).trans h
noncomputable def pleachlaw24_begun_Γ : Ctx := [(7, pleachmade_Made_e), (10, truth_Logs_e), (12, truth_Said_e), (15, truth_Loops_e), (18, truth_Lacks_e), (20, pleachref21_New_e), (21, pleachmade_Picks_Dist_e), (23, pleachref21_Do_e)]
def pleachlaw24_begun_fi : Fi := { keep := [], vty := [], vals := [], live := [(0, [27, 28, 31, 32, 33, 36, 37, 38, 41, 42, 43, 44, 47, 48, 49, 50]), (1, [1, 27, 28, 31, 32, 33, 36, 37, 38, 41, 42, 43, 44, 47, 48, 49, 50]), (2, [3, 27, 28, 31, 32, 33, 36, 37, 38, 41, 42, 43, 44, 47, 48, 49, 50]), (3, [3, 5, 27, 28, 31, 32, 33, 36, 37, 38, 41, 42, 43, 44, 47, 48, 49, 50]), (4, [3, 5, 27, 28, 31, 32, 33, 36, 37, 38, 41, 42, 43, 44, 47, 48, 49, 50]), (5, [3, 5, 6, 27, 28, 31, 32, 33, 36, 37, 38, 41, 42, 43, 44, 47, 48, 49, 50]), (6, [3, 5, 6, 27, 28, 31, 32, 33, 36, 37, 38, 41, 42, 43, 44, 47, 48, 49, 50]), (7, [0])] }
noncomputable def pleachlaw24_begun_x (x : PDs []) : Option (RDs [⟨t4, [false], none⟩] × ODs []) := evFn pleachlaw24_begun_Γ tab pleachlaw24_begun_fi 1099511627776 [] [⟨t4, [false], none⟩] Tryz.f6 x
noncomputable def pleachlaw24_begun  : Option ((Bool × Unit) × Unit) := pleachlaw24_begun_x (())
noncomputable def pleachlaw24_begun_e : Ent := ⟨[], [⟨t4, [false], none⟩], fun x => pleachlaw24_begun⟩
theorem pleachlaw24_begun_good : Good tab.ty Tryz.prog 6 pleachlaw24_begun_e := by
  refine fn_good (Γ := pleachlaw24_begun_Γ) (fi := pleachlaw24_begun_fi) (n := 1099511627776) follows (gcons pleachmade_Made_good (gcons truth_Logs_good (gcons truth_Said_good (gcons truth_Loops_good (gcons truth_Lacks_good (gcons pleachref21_New_good (gcons pleachmade_Picks_Dist_good (gcons pleachref21_Do_good gnil)))))))) tabok Tryz.func6 (by kernel_rfl) (by kernel_rfl) (fun x r h => ?_)
  exact h
noncomputable def pleachlaw24_TruthForms_Γ : Ctx := [(6, pleachlaw24_begun_e), (7, pleachmade_Made_e), (10, truth_Logs_e), (12, truth_Said_e), (15, truth_Loops_e), (18, truth_Lacks_e), (20, pleachref21_New_e), (21, pleachmade_Picks_Dist_e)]
def pleachlaw24_TruthForms_fi : Fi := { keep := [], vty := [(5, 56), (8, 37), (80, 37), (85, 37), (91, 37), (97, 56), (102, 56)], vals := [], live := [(0, [77, 80, 81, 82, 85, 86, 87, 88, 91, 92, 93, 94, 97, 98, 99, 102, 103, 104, 105, 106, 109, 110, 113, 114, 117, 118, 121, 122, 125, 126, 127, 128, 131, 132, 133, 134, 137, 138, 139, 140]), (1, [13, 77, 80, 81, 82, 85, 86, 87, 88, 91, 92, 93, 94, 97, 98, 99, 102, 103, 104, 105, 106, 109, 110, 113, 114, 117, 118, 121, 122, 125, 126, 127, 128, 131, 132, 133, 134, 137, 138, 139, 140]), (2, [0]), (3, [1, 77, 80, 81, 82, 85, 86, 87, 88, 91, 92, 93, 94, 97, 98, 99, 102, 103, 104, 105, 106, 109, 110, 113, 114, 117, 118, 121, 122, 125, 126, 127, 128, 131, 132, 133, 134, 137, 138, 139, 140]), (4, [1, 77, 80, 81, 82, 85, 86, 87, 88, 91, 92, 93, 94, 97, 98, 99, 102, 103, 104, 105, 106, 109, 110, 113, 114, 117, 118, 121, 122, 125, 126, 127, 128, 131, 132, 133, 134, 137, 138, 139, 140]), (5, [1, 3, 77, 80, 81, 82, 85, 86, 87, 88, 91, 92, 93, 94, 97, 98, 99, 102, 103, 104, 105, 106, 109, 110, 113, 114, 117, 118, 121, 122, 125, 126, 127, 128, 131, 132, 133, 134, 137, 138, 139, 140]), (6, [1, 3, 4, 77, 80, 81, 82, 85, 86, 87, 88, 91, 92, 93, 94, 97, 98, 99, 102, 103, 104, 105, 106, 109, 110, 113, 114, 117, 118, 121, 122, 125, 126, 127, 128, 131, 132, 133, 134, 137, 138, 139, 140]), (7, [1, 77, 80, 81, 82, 85, 86, 87, 88, 91, 92, 93, 94, 97, 98, 99, 102, 103, 104, 105, 106, 109, 110, 113, 114, 117, 118, 121, 122, 125, 126, 127, 128, 131, 132, 133, 134, 137, 138, 139, 140]), (8, [1, 5, 77, 80, 81, 82, 85, 86, 87, 88, 91, 92, 93, 94, 97, 98, 99, 102, 103, 104, 105, 106, 109, 110, 113, 114, 117, 118, 121, 122, 125, 126, 127, 128, 131, 132, 133, 134, 137, 138, 139, 140]), (9, [1, 5, 6, 7, 8, 77, 80, 81, 82, 85, 86, 87, 88, 91, 92, 93, 94, 97, 98, 99, 102, 103, 104, 105, 106, 109, 110, 113, 114, 117, 118, 121, 122, 125, 126, 127, 128, 131, 132, 133, 134, 137, 138, 139, 140]), (10, [1, 5, 6, 7, 8, 77, 80, 81, 82, 85, 86, 87, 88, 91, 92, 93, 94, 97, 98, 99, 102, 103, 104, 105, 106, 109, 110, 113, 114, 117, 118, 121, 122, 125, 126, 127, 128, 131, 132, 133, 134, 137, 138, 139, 140]), (11, [1, 5, 6, 7, 8, 9, 77, 80, 81, 82, 85, 86, 87, 88, 91, 92, 93, 94, 97, 98, 99, 102, 103, 104, 105, 106, 109, 110, 113, 114, 117, 118, 121, 122, 125, 126, 127, 128, 131, 132, 133, 134, 137, 138, 139, 140]), (12, [1, 5, 6, 7, 8, 9, 77, 80, 81, 82, 85, 86, 87, 88, 91, 92, 93, 94, 97, 98, 99, 102, 103, 104, 105, 106, 109, 110, 113, 114, 117, 118, 121, 122, 125, 126, 127, 128, 131, 132, 133, 134, 137, 138, 139, 140]), (13, [1, 5, 6, 7, 8, 9, 77, 80, 81, 82, 85, 86, 87, 88, 91, 92, 93, 94, 97, 98, 99, 102, 103, 104, 105, 106, 109, 110, 113, 114, 117, 118, 121, 122, 125, 126, 127, 128, 131, 132, 133, 134, 137, 138, 139, 140]), (14, [1, 5, 6, 7, 8, 9, 10, 77, 80, 81, 82, 85, 86, 87, 88, 91, 92, 93, 94, 97, 98, 99, 102, 103, 104, 105, 106, 109, 110, 113, 114, 117, 118, 121, 122, 125, 126, 127, 128, 131, 132, 133, 134, 137, 138, 139, 140]), (15, [1, 5, 6, 7, 8, 9, 10, 77, 80, 81, 82, 85, 86, 87, 88, 91, 92, 93, 94, 97, 98, 99, 102, 103, 104, 105, 106, 109, 110, 113, 114, 117, 118, 121, 122, 125, 126, 127, 128, 131, 132, 133, 134, 137, 138, 139, 140]), (16, [1, 5, 6, 7, 8, 9, 10, 77, 80, 81, 82, 85, 86, 87, 88, 91, 92, 93, 94, 97, 98, 99, 102, 103, 104, 105, 106, 109, 110, 113, 114, 117, 118, 121, 122, 125, 126, 127, 128, 131, 132, 133, 134, 137, 138, 139, 140]), (17, [1, 5, 6, 7, 8, 9, 10, 11, 77, 80, 81, 82, 85, 86, 87, 88, 91, 92, 93, 94, 97, 98, 99, 102, 103, 104, 105, 106, 109, 110, 113, 114, 117, 118, 121, 122, 125, 126, 127, 128, 131, 132, 133, 134, 137, 138, 139, 140]), (18, [0])] }
noncomputable def pleachlaw24_TruthForms_x (x : PDs []) : Option (RDs [⟨t4, [false], none⟩] × ODs []) := evFn pleachlaw24_TruthForms_Γ tab pleachlaw24_TruthForms_fi 1099511627776 [] [⟨t4, [false], none⟩] Tryz.f4 x
noncomputable def pleachlaw24_TruthForms  : Option ((Bool × Unit) × Unit) := pleachlaw24_TruthForms_x (())
noncomputable def pleachlaw24_TruthForms_e : Ent := ⟨[], [⟨t4, [false], none⟩], fun x => pleachlaw24_TruthForms⟩
theorem pleachlaw24_TruthForms_good : Good tab.ty Tryz.prog 4 pleachlaw24_TruthForms_e := by
  refine fn_good (Γ := pleachlaw24_TruthForms_Γ) (fi := pleachlaw24_TruthForms_fi) (n := 1099511627776) follows (gcons pleachlaw24_begun_good (gcons pleachmade_Made_good (gcons truth_Logs_good (gcons truth_Said_good (gcons truth_Loops_good (gcons truth_Lacks_good (gcons pleachref21_New_good (gcons pleachmade_Picks_Dist_good gnil)))))))) tabok Tryz.func4 (by kernel_rfl) (by kernel_rfl) (fun x r h => ?_)
  exact h
end Go.PE
