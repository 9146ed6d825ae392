/-
  Functions of the program, each as the evaluator answers it, and its contract.
  Conditions: none.
-/
import Derived.Test.YtemajkklbjdmjaaClusNearF1
set_option linter.unusedVariables false
set_option maxRecDepth 100000
namespace Go.PE
open Go.Proofs

noncomputable def pleachref7_Split_Γ : Ctx := [(31, pleachref7_Rising_e), (34, pleachref7_Near_e), (48, pleachref7_without_e)]
def pleachref7_Split_fi : Fi := { keep := [], vty := [(12, 28), (13, 28)], vals := [], live := [(0, [0, 1, 2, 41, 42, 43, 44, 45, 46, 47, 48, 49, 50, 51, 52, 53, 54, 55, 56, 57, 58, 59, 60, 61, 62, 63, 64, 65, 89, 90, 91, 92, 93, 94, 95, 96, 97, 98, 99, 100, 101, 102, 103, 104, 105, 106, 107, 108, 109, 110, 111, 112, 127, 128, 129, 130, 151, 152, 153, 154]), (1, [0, 1, 2, 20, 41, 42, 43, 44, 45, 46, 47, 48, 49, 50, 51, 52, 53, 54, 55, 56, 57, 58, 59, 60, 61, 62, 63, 64, 65, 89, 90, 91, 92, 93, 94, 95, 96, 97, 98, 99, 100, 101, 102, 103, 104, 105, 106, 107, 108, 109, 110, 111, 112, 127, 128, 129, 130, 151, 152, 153, 154]), (2, [6, 7]), (3, [0, 1, 2, 8, 9, 41, 42, 43, 44, 45, 46, 47, 48, 49, 50, 51, 52, 53, 54, 55, 56, 57, 58, 59, 60, 61, 62, 63, 64, 65, 89, 90, 91, 92, 93, 94, 95, 96, 97, 98, 99, 100, 101, 102, 103, 104, 105, 106, 107, 108, 109, 110, 111, 112, 127, 128, 129, 130, 151, 152, 153, 154]), (4, [0, 1, 2, 8, 9, 10, 41, 42, 43, 44, 45, 46, 47, 48, 49, 50, 51, 52, 53, 54, 55, 56, 57, 58, 59, 60, 61, 62, 63, 64, 65, 89, 90, 91, 92, 93, 94, 95, 96, 97, 98, 99, 100, 101, 102, 103, 104, 105, 106, 107, 108, 109, 110, 111, 112, 127, 128, 129, 130, 151, 152, 153, 154]), (5, [0, 1, 2, 8, 9, 10, 27, 41, 42, 43, 44, 45, 46, 47, 48, 49, 50, 51, 52, 53, 54, 55, 56, 57, 58, 59, 60, 61, 62, 63, 64, 65, 89, 90, 91, 92, 93, 94, 95, 96, 97, 98, 99, 100, 101, 102, 103, 104, 105, 106, 107, 108, 109, 110, 111, 112, 127, 128, 129, 130, 151, 152, 153, 154]), (6, [0, 1, 2, 8, 9, 10, 41, 42, 43, 44, 45, 46, 47, 48, 49, 50, 51, 52, 53, 54, 55, 56, 57, 58, 59, 60, 61, 62, 63, 64, 65, 89, 90, 91, 92, 93, 94, 95, 96, 97, 98, 99, 100, 101, 102, 103, 104, 105, 106, 107, 108, 109, 110, 111, 112, 127, 128, 129, 130, 151, 152, 153, 154]), (7, [0, 1, 2, 8, 9, 10, 11, 41, 42, 43, 44, 45, 46, 47, 48, 49, 50, 51, 52, 53, 54, 55, 56, 57, 58, 59, 60, 61, 62, 63, 64, 65, 89, 90, 91, 92, 93, 94, 95, 96, 97, 98, 99, 100, 101, 102, 103, 104, 105, 106, 107, 108, 109, 110, 111, 112, 127, 128, 129, 130, 151, 152, 153, 154]), (8, [0, 1, 2, 8, 9, 10, 11, 35, 41, 42, 43, 44, 45, 46, 47, 48, 49, 50, 51, 52, 53, 54, 55, 56, 57, 58, 59, 60, 61, 62, 63, 64, 65, 89, 90, 91, 92, 93, 94, 95, 96, 97, 98, 99, 100, 101, 102, 103, 104, 105, 106, 107, 108, 109, 110, 111, 112, 127, 128, 129, 130, 151, 152, 153, 154]), (9, [0, 1, 2, 8, 9, 10, 11, 41, 42, 43, 44, 45, 46, 47, 48, 49, 50, 51, 52, 53, 54, 55, 56, 57, 58, 59, 60, 61, 62, 63, 64, 65, 89, 90, 91, 92, 93, 94, 95, 96, 97, 98, 99, 100, 101, 102, 103, 104, 105, 106, 107, 108, 109, 110, 111, 112, 127, 128, 129, 130, 151, 152, 153, 154]), (10, [0, 1, 2, 8, 9, 10, 11, 41, 42, 43, 44, 45, 46, 47, 48, 49, 50, 51, 52, 53, 54, 55, 56, 57, 58, 59, 60, 61, 62, 63, 64, 65, 66, 89, 90, 91, 92, 93, 94, 95, 96, 97, 98, 99, 100, 101, 102, 103, 104, 105, 106, 107, 108, 109, 110, 111, 112, 127, 128, 129, 130, 151, 152, 153, 154]), (11, [0, 1, 2, 8, 9, 10, 11, 41, 42, 43, 44, 45, 46, 47, 48, 49, 50, 51, 52, 53, 54, 55, 56, 57, 58, 59, 60, 61, 62, 63, 64, 65, 89, 90, 91, 92, 93, 94, 95, 96, 97, 98, 99, 100, 101, 102, 103, 104, 105, 106, 107, 108, 109, 110, 111, 112, 127, 128, 129, 130, 151, 152, 153, 154]), (12, [0, 1, 2, 8, 9, 12, 13, 89, 90, 91, 92, 93, 94, 95, 96, 97, 98, 99, 100, 101, 102, 103, 104, 105, 106, 107, 108, 109, 110, 111, 112, 127, 128, 129, 130, 151, 152, 153, 154]), (13, [0, 1, 2, 8, 9, 12, 13, 14, 89, 90, 91, 92, 93, 94, 95, 96, 97, 98, 99, 100, 101, 102, 103, 104, 105, 106, 107, 108, 109, 110, 111, 112, 127, 128, 129, 130, 151, 152, 153, 154]), (14, [0, 1, 2, 8, 9, 12, 13, 14, 78, 89, 90, 91, 92, 93, 94, 95, 96, 97, 98, 99, 100, 101, 102, 103, 104, 105, 106, 107, 108, 109, 110, 111, 112, 127, 128, 129, 130, 151, 152, 153, 154]), (15, [0, 1, 2, 8, 9, 12, 13, 14, 89, 90, 91, 92, 93, 94, 95, 96, 97, 98, 99, 100, 101, 102, 103, 104, 105, 106, 107, 108, 109, 110, 111, 112, 127, 128, 129, 130, 151, 152, 153, 154]), (16, [0, 1, 2, 8, 9, 12, 13, 14, 15, 89, 90, 91, 92, 93, 94, 95, 96, 97, 98, 99, 100, 101, 102, 103, 104, 105, 106, 107, 108, 109, 110, 111, 112, 127, 128, 129, 130, 151, 152, 153, 154]), (17, [0, 1, 2, 8, 9, 12, 13, 14, 15, 89, 90, 91, 92, 93, 94, 95, 96, 97, 98, 99, 100, 101, 102, 103, 104, 105, 106, 107, 108, 109, 110, 111, 112, 113, 127, 128, 129, 130, 151, 152, 153, 154]), (18, [0, 1, 2, 8, 9, 12, 13, 14, 89, 90, 91, 92, 93, 94, 95, 96, 97, 98, 99, 100, 101, 102, 103, 104, 105, 106, 107, 108, 109, 110, 111, 112, 127, 128, 129, 130, 151, 152, 153, 154]), (19, [0, 1, 2, 8, 9, 12, 13, 14, 89, 90, 91, 92, 93, 94, 95, 96, 97, 98, 99, 100, 101, 102, 103, 104, 105, 106, 107, 108, 109, 110, 111, 112, 127, 128, 129, 130, 151, 152, 153, 154]), (20, [0, 2, 8, 9, 12, 13, 127, 128, 129, 130, 131, 151, 152, 153, 154]), (21, [0, 2, 8, 9, 12, 13, 16, 127, 128, 129, 130, 151, 152, 153, 154]), (22, [0, 2, 8, 9, 12, 13, 127, 128, 129, 130, 151, 152, 153, 154]), (23, [0, 2, 8, 9, 12, 13, 151, 152, 153, 154, 155]), (24, [0, 2, 8, 9, 12, 13, 17, 151, 152, 153, 154]), (25, [0, 2, 8, 9, 12, 13, 151, 152, 153, 154]), (26, [6, 7])] }
noncomputable def pleachref7_Split_B1 (L2 : List (List Int) → List Int → Int → Int → Int → Int → Int → Option (((List Int) × (List Int) × Unit) × Unit)) (L3 : List (List Int) → List Int → Int → Int → Int → Int → List Int → List Int → Option (((List Int) × (List Int) × Unit) × Unit)) (v1 : List (List Int)) (v2 : List Int) (v3 : Int) (v4 : Int) (v5 : Int) (v6 : Int) : Option (((List Int) × (List Int) × Unit) × Unit) :=
 bif decide (v6 < (v2.length : Int)) then
  L2 v1 v2 v3 v4 v5 v6 (IntKind.wrap .i64 (v6 + 1))
 else
  L3 v1 v2 v3 v4 v5 0 [] []
noncomputable def pleachref7_Split_B2 (L2 : List (List Int) → List Int → Int → Int → Int → Int → Int → Option (((List Int) × (List Int) × Unit) × Unit)) (L1 : List (List Int) → List Int → Int → Int → Int → Int → Option (((List Int) × (List Int) × Unit) × Unit)) (v7 : List (List Int)) (v8 : List Int) (v9 : Int) (v10 : Int) (v11 : Int) (v12 : Int) (v13 : Int) : Option (((List Int) × (List Int) × Unit) × Unit) :=
 bif decide (v13 < (v8.length : Int)) then
  bif v10 == 0 then
   bif decide (0 ≤ v12) && decide (v12 < (v8.length : Int)) then
    bif decide (0 ≤ v13) && decide (v13 < (v8.length : Int)) then
     L2 v7 v8 v9 (List.getD v8 v12.toNat 0) (List.getD v8 v13.toNat 0) v12 (IntKind.wrap .i64 (v13 + 1))
    else none
   else none
  else
  bif decide (0 ≤ v12) && decide (v12 < (v8.length : Int)) then
   bif decide (0 ≤ IntKind.wrap .i64 ((List.getD v8 v12.toNat 0) - 1)) && decide (IntKind.wrap .i64 ((List.getD v8 v12.toNat 0) - 1) < (v7.length : Int)) then
    bif decide (0 ≤ v13) && decide (v13 < (v8.length : Int)) then
     bif decide (0 ≤ IntKind.wrap .i64 ((List.getD v8 v13.toNat 0) - 1)) && decide (IntKind.wrap .i64 ((List.getD v8 v13.toNat 0) - 1) < ((List.getD v7 ((IntKind.wrap .i64 ((List.getD v8 v12.toNat 0) - 1)).toNat) []).length : Int)) then
      bif decide (0 ≤ IntKind.wrap .i64 (v10 - 1)) && decide (IntKind.wrap .i64 (v10 - 1) < (v7.length : Int)) then
       bif decide (0 ≤ IntKind.wrap .i64 (v11 - 1)) && decide (IntKind.wrap .i64 (v11 - 1) < ((List.getD v7 ((IntKind.wrap .i64 (v10 - 1)).toNat) []).length : Int)) then
        bif decide (List.getD (List.getD v7 ((IntKind.wrap .i64 ((List.getD v8 v12.toNat 0) - 1)).toNat) []) ((IntKind.wrap .i64 ((List.getD v8 v13.toNat 0) - 1)).toNat) 0 > List.getD (List.getD v7 ((IntKind.wrap .i64 (v10 - 1)).toNat) []) ((IntKind.wrap .i64 (v11 - 1)).toNat) 0) then
         bif decide (0 ≤ v12) && decide (v12 < (v8.length : Int)) then
          bif decide (0 ≤ v13) && decide (v13 < (v8.length : Int)) then
           L2 v7 v8 v9 (List.getD v8 v12.toNat 0) (List.getD v8 v13.toNat 0) v12 (IntKind.wrap .i64 (v13 + 1))
          else none
         else none
        else
         L2 v7 v8 v9 v10 v11 v12 (IntKind.wrap .i64 (v13 + 1))
       else none
      else none
     else none
    else none
   else none
  else none
 else
  L1 v7 v8 v9 v10 v11 (IntKind.wrap .i64 (v12 + 1))
noncomputable def pleachref7_Split_B3 (L3 : List (List Int) → List Int → Int → Int → Int → Int → List Int → List Int → Option (((List Int) × (List Int) × Unit) × Unit)) (L4 : List (List Int) → List Int → Int → Int → Int → Int → Bool → List Int → List Int → Option (((List Int) × (List Int) × Unit) × Unit)) (v14 : List (List Int)) (v15 : List Int) (v16 : Int) (v17 : Int) (v18 : Int) (v19 : Int) (v20 : List Int) (v21 : List Int) : Option (((List Int) × (List Int) × Unit) × Unit) :=
 bif decide (v19 < (v15.length : Int)) then
  bif decide (0 ≤ v19) && decide (v19 < (v15.length : Int)) then
   bif (List.getD v15 v19.toNat 0) != v18 then
    bif (List.getD v15 v19.toNat 0) == v17 then
     bif Nat.ble (v20.length + 1) 1073741824 then
      L3 v14 v15 v16 v17 v18 (IntKind.wrap .i64 (v19 + 1)) (v20 ++ [List.getD v15 v19.toNat 0]) v21
     else none
    else
    bif decide (0 ≤ IntKind.wrap .i64 ((List.getD v15 v19.toNat 0) - 1)) && decide (IntKind.wrap .i64 ((List.getD v15 v19.toNat 0) - 1) < (v14.length : Int)) then
     bif decide (0 ≤ IntKind.wrap .i64 (v17 - 1)) && decide (IntKind.wrap .i64 (v17 - 1) < ((List.getD v14 ((IntKind.wrap .i64 ((List.getD v15 v19.toNat 0) - 1)).toNat) []).length : Int)) then
      bif decide (0 ≤ IntKind.wrap .i64 ((List.getD v15 v19.toNat 0) - 1)) && decide (IntKind.wrap .i64 ((List.getD v15 v19.toNat 0) - 1) < (v14.length : Int)) then
       bif decide (0 ≤ IntKind.wrap .i64 (v18 - 1)) && decide (IntKind.wrap .i64 (v18 - 1) < ((List.getD v14 ((IntKind.wrap .i64 ((List.getD v15 v19.toNat 0) - 1)).toNat) []).length : Int)) then
        bif decide (List.getD (List.getD v14 ((IntKind.wrap .i64 ((List.getD v15 v19.toNat 0) - 1)).toNat) []) ((IntKind.wrap .i64 (v17 - 1)).toNat) 0 ≤ List.getD (List.getD v14 ((IntKind.wrap .i64 ((List.getD v15 v19.toNat 0) - 1)).toNat) []) ((IntKind.wrap .i64 (v18 - 1)).toNat) 0) then
         bif Nat.ble (v20.length + 1) 1073741824 then
          L3 v14 v15 v16 v17 v18 (IntKind.wrap .i64 (v19 + 1)) (v20 ++ [List.getD v15 v19.toNat 0]) v21
         else none
        else
        bif Nat.ble (v21.length + 1) 1073741824 then
         L3 v14 v15 v16 v17 v18 (IntKind.wrap .i64 (v19 + 1)) v20 (v21 ++ [List.getD v15 v19.toNat 0])
        else none
       else none
      else none
     else none
    else none
   else
   bif Nat.ble (v21.length + 1) 1073741824 then
    L3 v14 v15 v16 v17 v18 (IntKind.wrap .i64 (v19 + 1)) v20 (v21 ++ [List.getD v15 v19.toNat 0])
   else none
  else none
 else
  L4 v14 v15 v16 v17 v18 v19 (decide (v19 < (v15.length : Int))) v20 v21
noncomputable def pleachref7_Split_B4 (L5 : List (List Int) → Int → Int → Int → List Int → List Int → Option (((List Int) × (List Int) × Unit) × Unit)) (L6 : List (List Int) → Int → Int → Int → Int → Int → Bool → Bool → List Int → List Int → Option (((List Int) × (List Int) × Unit) × Unit)) (L8 : List (List Int) → Int → Int → Int → Bool → List Int → List Int → Option (((List Int) × (List Int) × Unit) × Unit)) (v22 : List (List Int)) (v23 : List Int) (v24 : Int) (v25 : Int) (v26 : Int) (v27 : Int) (v28 : Bool) (v29 : List Int) (v30 : List Int) : Option (((List Int) × (List Int) × Unit) × Unit) :=
 bif decide ((v29.length : Int) < v24) then
  bif decide ((v30.length : Int) > v24) then
   Option.bind (pleachref7_without v30 v26) fun (r31 : ((List Int) × Unit) × Unit) =>
   Option.bind (pleachref7_Near v22 v25 r31.1.1) fun (r32 : (Int × Unit) × Unit) =>
   bif Nat.ble (v29.length + 1) 1073741824 then
    Option.bind (pleachref7_Rising (v29 ++ [r32.1.1])) fun (r33 : ((List Int) × Unit) × Unit) =>
    Option.bind (pleachref7_without v30 r32.1.1) fun (r34 : ((List Int) × Unit) × Unit) =>
    L5 v22 v24 v25 v26 r33.1.1 r34.1.1
   else none
  else
   L6 v22 v24 v25 v26 (v30.length : Int) v24 (decide ((v30.length : Int) > v24)) (decide ((v30.length : Int) > v24)) v29 v30
 else
  L8 v22 v24 v25 v26 false v29 v30
noncomputable def pleachref7_Split_B5 (L5 : List (List Int) → Int → Int → Int → List Int → List Int → Option (((List Int) × (List Int) × Unit) × Unit)) (L6 : List (List Int) → Int → Int → Int → Int → Int → Bool → Bool → List Int → List Int → Option (((List Int) × (List Int) × Unit) × Unit)) (L8 : List (List Int) → Int → Int → Int → Bool → List Int → List Int → Option (((List Int) × (List Int) × Unit) × Unit)) (v35 : List (List Int)) (v36 : Int) (v37 : Int) (v38 : Int) (v39 : List Int) (v40 : List Int) : Option (((List Int) × (List Int) × Unit) × Unit) :=
 bif decide ((v39.length : Int) < v36) then
  bif decide ((v40.length : Int) > v36) then
   Option.bind (pleachref7_without v40 v38) fun (r41 : ((List Int) × Unit) × Unit) =>
   Option.bind (pleachref7_Near v35 v37 r41.1.1) fun (r42 : (Int × Unit) × Unit) =>
   bif Nat.ble (v39.length + 1) 1073741824 then
    Option.bind (pleachref7_Rising (v39 ++ [r42.1.1])) fun (r43 : ((List Int) × Unit) × Unit) =>
    Option.bind (pleachref7_without v40 r42.1.1) fun (r44 : ((List Int) × Unit) × Unit) =>
    L5 v35 v36 v37 v38 r43.1.1 r44.1.1
   else none
  else
   L6 v35 v36 v37 v38 (v40.length : Int) v36 (decide ((v40.length : Int) > v36)) (decide ((v40.length : Int) > v36)) v39 v40
 else
  L8 v35 v36 v37 v38 false v39 v40
noncomputable def pleachref7_Split_B6 (L7 : List (List Int) → Int → Int → Int → List Int → List Int → Option (((List Int) × (List Int) × Unit) × Unit)) (v45 : List (List Int)) (v46 : Int) (v47 : Int) (v48 : Int) (v49 : Int) (v50 : Int) (v51 : Bool) (v52 : Bool) (v53 : List Int) (v54 : List Int) : Option (((List Int) × (List Int) × Unit) × Unit) :=
 bif decide ((v54.length : Int) < v46) then
  bif decide ((v53.length : Int) > v46) then
   Option.bind (pleachref7_without v53 v47) fun (r55 : ((List Int) × Unit) × Unit) =>
   Option.bind (pleachref7_Near v45 v48 r55.1.1) fun (r56 : (Int × Unit) × Unit) =>
   bif Nat.ble (v54.length + 1) 1073741824 then
    Option.bind (pleachref7_Rising (v54 ++ [r56.1.1])) fun (r57 : ((List Int) × Unit) × Unit) =>
    Option.bind (pleachref7_without v53 r56.1.1) fun (r58 : ((List Int) × Unit) × Unit) =>
    L7 v45 v46 v47 v48 r58.1.1 r57.1.1
   else none
  else
   some ((v53, v54, ()), ())
 else
  some ((v53, v54, ()), ())
noncomputable def pleachref7_Split_B7 (L7 : List (List Int) → Int → Int → Int → List Int → List Int → Option (((List Int) × (List Int) × Unit) × Unit)) (v59 : List (List Int)) (v60 : Int) (v61 : Int) (v62 : Int) (v63 : List Int) (v64 : List Int) : Option (((List Int) × (List Int) × Unit) × Unit) :=
 bif decide ((v64.length : Int) < v60) then
  bif decide ((v63.length : Int) > v60) then
   Option.bind (pleachref7_without v63 v61) fun (r65 : ((List Int) × Unit) × Unit) =>
   Option.bind (pleachref7_Near v59 v62 r65.1.1) fun (r66 : (Int × Unit) × Unit) =>
   bif Nat.ble (v64.length + 1) 1073741824 then
    Option.bind (pleachref7_Rising (v64 ++ [r66.1.1])) fun (r67 : ((List Int) × Unit) × Unit) =>
    Option.bind (pleachref7_without v63 r66.1.1) fun (r68 : ((List Int) × Unit) × Unit) =>
    L7 v59 v60 v61 v62 r68.1.1 r67.1.1
   else none
  else
   some ((v63, v64, ()), ())
 else
  some ((v63, v64, ()), ())
noncomputable def pleachref7_Split_B8 (L9 : List (List Int) → Int → Int → Int → List Int → List Int → Option (((List Int) × (List Int) × Unit) × Unit)) (v69 : List (List Int)) (v70 : Int) (v71 : Int) (v72 : Int) (v73 : Bool) (v74 : List Int) (v75 : List Int) : Option (((List Int) × (List Int) × Unit) × Unit) :=
 bif decide ((v75.length : Int) < v70) then
  bif decide ((v74.length : Int) > v70) then
   Option.bind (pleachref7_without v74 v71) fun (r76 : ((List Int) × Unit) × Unit) =>
   Option.bind (pleachref7_Near v69 v72 r76.1.1) fun (r77 : (Int × Unit) × Unit) =>
   bif Nat.ble (v75.length + 1) 1073741824 then
    Option.bind (pleachref7_Rising (v75 ++ [r77.1.1])) fun (r78 : ((List Int) × Unit) × Unit) =>
    Option.bind (pleachref7_without v74 r77.1.1) fun (r79 : ((List Int) × Unit) × Unit) =>
    L9 v69 v70 v71 v72 r79.1.1 r78.1.1
   else none
  else
   some ((v74, v75, ()), ())
 else
  some ((v74, v75, ()), ())
noncomputable def pleachref7_Split_B9 (L9 : List (List Int) → Int → Int → Int → List Int → List Int → Option (((List Int) × (List Int) × Unit) × Unit)) (v80 : List (List Int)) (v81 : Int) (v82 : Int) (v83 : Int) (v84 : List Int) (v85 : List Int) : Option (((List Int) × (List Int) × Unit) × Unit) :=
 bif decide ((v85.length : Int) < v81) then
  bif decide ((v84.length : Int) > v81) then
   Option.bind (pleachref7_without v84 v82) fun (r86 : ((List Int) × Unit) × Unit) =>
   Option.bind (pleachref7_Near v80 v83 r86.1.1) fun (r87 : (Int × Unit) × Unit) =>
   bif Nat.ble (v85.length + 1) 1073741824 then
    Option.bind (pleachref7_Rising (v85 ++ [r87.1.1])) fun (r88 : ((List Int) × Unit) × Unit) =>
    Option.bind (pleachref7_without v84 r87.1.1) fun (r89 : ((List Int) × Unit) × Unit) =>
    L9 v80 v81 v82 v83 r89.1.1 r88.1.1
   else none
  else
   some ((v84, v85, ()), ())
 else
  some ((v84, v85, ()), ())
noncomputable def pleachref7_Split_T (L1 : List (List Int) → List Int → Int → Int → Int → Int → Option (((List Int) × (List Int) × Unit) × Unit)) (arr_0 : List (List Int)) (x_1 : List Int) (x_2 : Int) : Option (((List Int) × (List Int) × Unit) × Unit) :=
 bif decide ((x_1.length : Int) < 2) then
  bif Nat.ble (0 + x_1.length) 1073741824 then
   some (([] ++ x_1, [], ()), ())
  else none
 else
  L1 arr_0 x_1 x_2 0 0 0
noncomputable def pleachref7_Split_L2 (n : Nat) (m1 : Nat) (r1 : List (List Int) → List Int → Int → Int → Int → Int → Option (((List Int) × (List Int) × Unit) × Unit)) : Nat → List (List Int) → List Int → Int → Int → Int → Int → Int → Option (((List Int) × (List Int) × Unit) × Unit) := iter (fun _ _ _ _ _ _ _ => none) fun L => pleachref7_Split_B2 L r1
noncomputable def pleachref7_Split_L7 (n : Nat) : Nat → List (List Int) → Int → Int → Int → List Int → List Int → Option (((List Int) × (List Int) × Unit) × Unit) := iter (fun _ _ _ _ _ _ => none) fun L => pleachref7_Split_B7 L
noncomputable def pleachref7_Split_L6 (n : Nat) : Nat → List (List Int) → Int → Int → Int → Int → Int → Bool → Bool → List Int → List Int → Option (((List Int) × (List Int) × Unit) × Unit) := iterN (fun _ _ _ _ _ _ _ _ _ _ => none) fun m L => pleachref7_Split_B6 (pleachref7_Split_L7 n m)
noncomputable def pleachref7_Split_L9 (n : Nat) : Nat → List (List Int) → Int → Int → Int → List Int → List Int → Option (((List Int) × (List Int) × Unit) × Unit) := iter (fun _ _ _ _ _ _ => none) fun L => pleachref7_Split_B9 L
noncomputable def pleachref7_Split_L8 (n : Nat) : Nat → List (List Int) → Int → Int → Int → Bool → List Int → List Int → Option (((List Int) × (List Int) × Unit) × Unit) := iterN (fun _ _ _ _ _ _ _ => none) fun m L => pleachref7_Split_B8 (pleachref7_Split_L9 n m)
noncomputable def pleachref7_Split_L5 (n : Nat) : Nat → List (List Int) → Int → Int → Int → List Int → List Int → Option (((List Int) × (List Int) × Unit) × Unit) := iter (fun _ _ _ _ _ _ => none) fun L => pleachref7_Split_B5 L (pleachref7_Split_L6 n n) (pleachref7_Split_L8 n n)
noncomputable def pleachref7_Split_L4 (n : Nat) : Nat → List (List Int) → List Int → Int → Int → Int → Int → Bool → List Int → List Int → Option (((List Int) × (List Int) × Unit) × Unit) := iterN (fun _ _ _ _ _ _ _ _ _ => none) fun m L => pleachref7_Split_B4 (pleachref7_Split_L5 n m) (pleachref7_Split_L6 n n) (pleachref7_Split_L8 n n)
noncomputable def pleachref7_Split_L3 (n : Nat) : Nat → List (List Int) → List Int → Int → Int → Int → Int → List Int → List Int → Option (((List Int) × (List Int) × Unit) × Unit) := iter (fun _ _ _ _ _ _ _ _ => none) fun L => pleachref7_Split_B3 L (pleachref7_Split_L4 n n)
noncomputable def pleachref7_Split_L1 (n : Nat) : Nat → List (List Int) → List Int → Int → Int → Int → Int → Option (((List Int) × (List Int) × Unit) × Unit) := iterN (fun _ _ _ _ _ _ => none) fun m L => pleachref7_Split_B1 (pleachref7_Split_L2 n m L n) (pleachref7_Split_L3 n n)
noncomputable def pleachref7_Split_X1 (n m : Nat) (v1 : List (List Int)) (v2 : List Int) (v3 : Int) (v4 : Int) (v5 : Int) (v6 : Int) : Option (((List Int) × (List Int) × Unit) × Unit) :=
 atLoop pleachref7_Split_Γ tab (fiB [.val t24, .val t28, .val t2] pleachref7_Split_fi) n [.val t24, .val t28, .val t2] [⟨t28, [true], none⟩, ⟨t28, [true], none⟩] Try.f19 [1, 1, 1, 0, 1, 0] [] [0, 1, 2, 8, 9, 10] m
 ⟨[(0, SV.cv (CV.one (LV.pure t24 v1))), (1, SV.cv (CV.one (LV.pure t28 v2))), (2, SV.cv (CV.one (LV.pure t2 v3))), (8, SV.cv (CV.one (LV.pure t2 v4))), (9, SV.cv (CV.one (LV.pure t2 v5))), (10, SV.cv (CV.one (LV.pure t2 v6)))],
  []⟩
noncomputable def pleachref7_Split_X2 (n m1 m : Nat) (v7 : List (List Int)) (v8 : List Int) (v9 : Int) (v10 : Int) (v11 : Int) (v12 : Int) (v13 : Int) : Option (((List Int) × (List Int) × Unit) × Unit) :=
 atLoop pleachref7_Split_Γ tab (fiB [.val t24, .val t28, .val t2] pleachref7_Split_fi) n [.val t24, .val t28, .val t2] [⟨t28, [true], none⟩, ⟨t28, [true], none⟩] Try.f19 [1, 1, 1, 0, 1, 0, 0, 1, 0, 0, 1, 0] [(m1, [0, 1, 2, 8, 9, 10])] [0, 1, 2, 8, 9, 10, 11] m
 ⟨[(0, SV.cv (CV.one (LV.pure t24 v7))), (1, SV.cv (CV.one (LV.pure t28 v8))), (2, SV.cv (CV.one (LV.pure t2 v9))), (8, SV.cv (CV.one (LV.pure t2 v10))), (9, SV.cv (CV.one (LV.pure t2 v11))), (10, SV.cv (CV.one (LV.pure t2 v12))), (11, SV.cv (CV.one (LV.pure t2 v13)))],
  []⟩
noncomputable def pleachref7_Split_X3 (n m : Nat) (v14 : List (List Int)) (v15 : List Int) (v16 : Int) (v17 : Int) (v18 : Int) (v19 : Int) (v20 : List Int) (v21 : List Int) : Option (((List Int) × (List Int) × Unit) × Unit) :=
 atLoop pleachref7_Split_Γ tab (fiB [.val t24, .val t28, .val t2] pleachref7_Split_fi) n [.val t24, .val t28, .val t2] [⟨t28, [true], none⟩, ⟨t28, [true], none⟩] Try.f19 [1, 1, 1, 1, 1, 0, 1, 0] [] [0, 1, 2, 8, 9, 12, 13, 14] m
 ⟨[(0, SV.cv (CV.one (LV.pure t24 v14))), (1, SV.cv (CV.one (LV.pure t28 v15))), (2, SV.cv (CV.one (LV.pure t2 v16))), (8, SV.cv (CV.one (LV.pure t2 v17))), (9, SV.cv (CV.one (LV.pure t2 v18))), (12, SV.cv (CV.one (LV.ref (888888, 12)))), (13, SV.cv (CV.one (LV.ref (888888, 13)))), (14, SV.cv (CV.one (LV.pure t2 v19)))],
  [((888888, 12), Ob.row 3 t2 v20), ((888888, 13), Ob.row 3 t2 v21)]⟩
noncomputable def pleachref7_Split_X4 (n m : Nat) (v22 : List (List Int)) (v23 : List Int) (v24 : Int) (v25 : Int) (v26 : Int) (v27 : Int) (v28 : Bool) (v29 : List Int) (v30 : List Int) : Option (((List Int) × (List Int) × Unit) × Unit) :=
 atLoop pleachref7_Split_Γ tab (fiB [.val t24, .val t28, .val t2] pleachref7_Split_fi) n [.val t24, .val t28, .val t2] [⟨t28, [true], none⟩, ⟨t28, [true], none⟩] Try.f19 [1, 1, 1, 1, 1, 1, 0, 0] [] [0, 1, 2, 8, 9, 12, 13, 14, 78] m
 ⟨[(0, SV.cv (CV.one (LV.pure t24 v22))), (1, SV.cv (CV.one (LV.pure t28 v23))), (2, SV.cv (CV.one (LV.pure t2 v24))), (8, SV.cv (CV.one (LV.pure t2 v25))), (9, SV.cv (CV.one (LV.pure t2 v26))), (12, SV.cv (CV.one (LV.ref (888888, 12)))), (13, SV.cv (CV.one (LV.ref (888888, 13)))), (14, SV.cv (CV.one (LV.pure t2 v27))), (78, SV.cv (CV.one (LV.pure t4 v28)))],
  [((888888, 12), Ob.row 3 t2 v29), ((888888, 13), Ob.row 3 t2 v30)]⟩
noncomputable def pleachref7_Split_X5 (n m : Nat) (v35 : List (List Int)) (v36 : Int) (v37 : Int) (v38 : Int) (v39 : List Int) (v40 : List Int) : Option (((List Int) × (List Int) × Unit) × Unit) :=
 atLoop pleachref7_Split_Γ tab (fiB [.val t24, .val t28, .val t2] pleachref7_Split_fi) n [.val t24, .val t28, .val t2] [⟨t28, [true], none⟩, ⟨t28, [true], none⟩] Try.f19 [1, 1, 1, 1, 1, 1, 0, 0] [] [0, 1, 2, 8, 9, 12, 13, 14, 78] m
 ⟨[(0, SV.cv (CV.one (LV.pure t24 v35))), (2, SV.cv (CV.one (LV.pure t2 v36))), (8, SV.cv (CV.one (LV.pure t2 v37))), (9, SV.cv (CV.one (LV.pure t2 v38))), (12, SV.cv (CV.one (LV.ref (888888, 12)))), (13, SV.cv (CV.one (LV.ref (888888, 13))))],
  [((888888, 12), Ob.row 3 t2 v39), ((888888, 13), Ob.row 3 t2 v40)]⟩
noncomputable def pleachref7_Split_X6 (n m : Nat) (v45 : List (List Int)) (v46 : Int) (v47 : Int) (v48 : Int) (v49 : Int) (v50 : Int) (v51 : Bool) (v52 : Bool) (v53 : List Int) (v54 : List Int) : Option (((List Int) × (List Int) × Unit) × Unit) :=
 atLoop pleachref7_Split_Γ tab (fiB [.val t24, .val t28, .val t2] pleachref7_Split_fi) n [.val t24, .val t28, .val t2] [⟨t28, [true], none⟩, ⟨t28, [true], none⟩] Try.f19 [1, 1, 1, 1, 1, 1, 1, 0, 0] [] [0, 2, 8, 9, 12, 13, 127, 128, 129, 130, 131] m
 ⟨[(0, SV.cv (CV.one (LV.pure t24 v45))), (2, SV.cv (CV.one (LV.pure t2 v46))), (8, SV.cv (CV.one (LV.pure t2 v47))), (9, SV.cv (CV.one (LV.pure t2 v48))), (12, SV.cv (CV.one (LV.ref (888888, 12)))), (13, SV.cv (CV.one (LV.ref (888888, 127)))), (127, SV.cv (CV.one (LV.ref (888888, 127)))), (128, SV.cv (CV.one (LV.pure t2 v49))), (129, SV.cv (CV.one (LV.pure t2 v50))), (130, SV.cv (CV.one (LV.pure t4 v51))), (131, SV.cv (CV.one (LV.pure t4 v52)))],
  [((888888, 12), Ob.row 3 t2 v53), ((888888, 127), Ob.row 3 t2 v54)]⟩
noncomputable def pleachref7_Split_X7 (n m : Nat) (v59 : List (List Int)) (v60 : Int) (v61 : Int) (v62 : Int) (v63 : List Int) (v64 : List Int) : Option (((List Int) × (List Int) × Unit) × Unit) :=
 atLoop pleachref7_Split_Γ tab (fiB [.val t24, .val t28, .val t2] pleachref7_Split_fi) n [.val t24, .val t28, .val t2] [⟨t28, [true], none⟩, ⟨t28, [true], none⟩] Try.f19 [1, 1, 1, 1, 1, 1, 1, 0, 0] [] [0, 2, 8, 9, 12, 13, 127, 128, 129, 130, 131] m
 ⟨[(0, SV.cv (CV.one (LV.pure t24 v59))), (2, SV.cv (CV.one (LV.pure t2 v60))), (8, SV.cv (CV.one (LV.pure t2 v61))), (9, SV.cv (CV.one (LV.pure t2 v62))), (12, SV.cv (CV.one (LV.ref (888888, 12)))), (13, SV.cv (CV.one (LV.ref (888888, 13))))],
  [((888888, 12), Ob.row 3 t2 v63), ((888888, 13), Ob.row 3 t2 v64)]⟩
noncomputable def pleachref7_Split_X8 (n m : Nat) (v69 : List (List Int)) (v70 : Int) (v71 : Int) (v72 : Int) (v73 : Bool) (v74 : List Int) (v75 : List Int) : Option (((List Int) × (List Int) × Unit) × Unit) :=
 atLoop pleachref7_Split_Γ tab (fiB [.val t24, .val t28, .val t2] pleachref7_Split_fi) n [.val t24, .val t28, .val t2] [⟨t28, [true], none⟩, ⟨t28, [true], none⟩] Try.f19 [1, 1, 1, 1, 1, 1, 1, 0, 0] [] [0, 2, 8, 9, 12, 13, 131] m
 ⟨[(0, SV.cv (CV.one (LV.pure t24 v69))), (2, SV.cv (CV.one (LV.pure t2 v70))), (8, SV.cv (CV.one (LV.pure t2 v71))), (9, SV.cv (CV.one (LV.pure t2 v72))), (12, SV.cv (CV.one (LV.ref (888888, 12)))), (13, SV.cv (CV.one (LV.ref (888888, 13)))), (131, SV.cv (CV.one (LV.pure t4 v73)))],
  [((888888, 12), Ob.row 3 t2 v74), ((888888, 13), Ob.row 3 t2 v75)]⟩
noncomputable def pleachref7_Split_X9 (n m : Nat) (v80 : List (List Int)) (v81 : Int) (v82 : Int) (v83 : Int) (v84 : List Int) (v85 : List Int) : Option (((List Int) × (List Int) × Unit) × Unit) :=
 atLoop pleachref7_Split_Γ tab (fiB [.val t24, .val t28, .val t2] pleachref7_Split_fi) n [.val t24, .val t28, .val t2] [⟨t28, [true], none⟩, ⟨t28, [true], none⟩] Try.f19 [1, 1, 1, 1, 1, 1, 1, 0, 0] [] [0, 2, 8, 9, 12, 13, 131] m
 ⟨[(0, SV.cv (CV.one (LV.pure t24 v80))), (2, SV.cv (CV.one (LV.pure t2 v81))), (8, SV.cv (CV.one (LV.pure t2 v82))), (9, SV.cv (CV.one (LV.pure t2 v83))), (12, SV.cv (CV.one (LV.ref (888888, 12)))), (13, SV.cv (CV.one (LV.ref (888888, 13))))],
  [((888888, 12), Ob.row 3 t2 v84), ((888888, 13), Ob.row 3 t2 v85)]⟩
theorem pleachref7_Split_step1 (n m : Nat) (v1 : List (List Int)) (v2 : List Int) (v3 : Int) (v4 : Int) (v5 : Int) (v6 : Int) : pleachref7_Split_X1 n (m + 1) v1 v2 v3 v4 v5 v6 = pleachref7_Split_B1 (pleachref7_Split_X2 n m n) (pleachref7_Split_X3 n n) v1 v2 v3 v4 v5 v6 := by kernel_rfl
theorem pleachref7_Split_step2 (n m1 m : Nat) (v7 : List (List Int)) (v8 : List Int) (v9 : Int) (v10 : Int) (v11 : Int) (v12 : Int) (v13 : Int) : pleachref7_Split_X2 n m1 (m + 1) v7 v8 v9 v10 v11 v12 v13 = pleachref7_Split_B2 (pleachref7_Split_X2 n m1 m) (pleachref7_Split_X1 n m1) v7 v8 v9 v10 v11 v12 v13 := by kernel_rfl
theorem pleachref7_Split_step3 (n m : Nat) (v14 : List (List Int)) (v15 : List Int) (v16 : Int) (v17 : Int) (v18 : Int) (v19 : Int) (v20 : List Int) (v21 : List Int) : pleachref7_Split_X3 n (m + 1) v14 v15 v16 v17 v18 v19 v20 v21 = pleachref7_Split_B3 (pleachref7_Split_X3 n m) (pleachref7_Split_X4 n n) v14 v15 v16 v17 v18 v19 v20 v21 := by kernel_rfl
theorem pleachref7_Split_step4 (n m : Nat) (v22 : List (List Int)) (v23 : List Int) (v24 : Int) (v25 : Int) (v26 : Int) (v27 : Int) (v28 : Bool) (v29 : List Int) (v30 : List Int) : pleachref7_Split_X4 n (m + 1) v22 v23 v24 v25 v26 v27 v28 v29 v30 = pleachref7_Split_B4 (pleachref7_Split_X5 n m) (pleachref7_Split_X6 n n) (pleachref7_Split_X8 n n) v22 v23 v24 v25 v26 v27 v28 v29 v30 := by kernel_rfl
theorem pleachref7_Split_step5 (n m : Nat) (v35 : List (List Int)) (v36 : Int) (v37 : Int) (v38 : Int) (v39 : List Int) (v40 : List Int) : pleachref7_Split_X5 n (m + 1) v35 v36 v37 v38 v39 v40 = pleachref7_Split_B5 (pleachref7_Split_X5 n m) (pleachref7_Split_X6 n n) (pleachref7_Split_X8 n n) v35 v36 v37 v38 v39 v40 := by kernel_rfl
theorem pleachref7_Split_step6 (n m : Nat) (v45 : List (List Int)) (v46 : Int) (v47 : Int) (v48 : Int) (v49 : Int) (v50 : Int) (v51 : Bool) (v52 : Bool) (v53 : List Int) (v54 : List Int) : pleachref7_Split_X6 n (m + 1) v45 v46 v47 v48 v49 v50 v51 v52 v53 v54 = pleachref7_Split_B6 (pleachref7_Split_X7 n m) v45 v46 v47 v48 v49 v50 v51 v52 v53 v54 := by kernel_rfl
theorem pleachref7_Split_step7 (n m : Nat) (v59 : List (List Int)) (v60 : Int) (v61 : Int) (v62 : Int) (v63 : List Int) (v64 : List Int) : pleachref7_Split_X7 n (m + 1) v59 v60 v61 v62 v63 v64 = pleachref7_Split_B7 (pleachref7_Split_X7 n m) v59 v60 v61 v62 v63 v64 := by kernel_rfl
theorem pleachref7_Split_step8 (n m : Nat) (v69 : List (List Int)) (v70 : Int) (v71 : Int) (v72 : Int) (v73 : Bool) (v74 : List Int) (v75 : List Int) : pleachref7_Split_X8 n (m + 1) v69 v70 v71 v72 v73 v74 v75 = pleachref7_Split_B8 (pleachref7_Split_X9 n m) v69 v70 v71 v72 v73 v74 v75 := by kernel_rfl
theorem pleachref7_Split_step9 (n m : Nat) (v80 : List (List Int)) (v81 : Int) (v82 : Int) (v83 : Int) (v84 : List Int) (v85 : List Int) : pleachref7_Split_X9 n (m + 1) v80 v81 v82 v83 v84 v85 = pleachref7_Split_B9 (pleachref7_Split_X9 n m) v80 v81 v82 v83 v84 v85 := by kernel_rfl
theorem pleachref7_Split_start (n : Nat) (arr_0 : List (List Int)) (x_1 : List Int) (x_2 : Int) : evFn pleachref7_Split_Γ tab pleachref7_Split_fi n [.val t24, .val t28, .val t2] [⟨t28, [true], none⟩, ⟨t28, [true], none⟩] Try.f19 (arr_0, x_1, x_2, ()) = pleachref7_Split_T (pleachref7_Split_X1 n n) arr_0 x_1 x_2 := by kernel_rfl
theorem pleachref7_Split_XL2 (n : Nat) (m1 : Nat) (r1 : List (List Int) → List Int → Int → Int → Int → Int → Option (((List Int) × (List Int) × Unit) × Unit)) (h1 : pleachref7_Split_X1 n m1 = r1) : ∀ m, pleachref7_Split_X2 n m1 m = pleachref7_Split_L2 n m1 r1 m
 | 0 => rfl
 | m + 1 => by
  have ih := pleachref7_Split_XL2 n m1 r1 h1 m
  funext v7 v8 v9 v10 v11 v12 v13
  rw [pleachref7_Split_step2, ih, h1]
  rfl
theorem pleachref7_Split_XL7 (n : Nat) : ∀ m, pleachref7_Split_X7 n m = pleachref7_Split_L7 n m
 | 0 => rfl
 | m + 1 => by
  have ih := pleachref7_Split_XL7 n m
  funext v59 v60 v61 v62 v63 v64
  rw [pleachref7_Split_step7, ih]
  rfl
theorem pleachref7_Split_XL6 (n : Nat) : ∀ m, pleachref7_Split_X6 n m = pleachref7_Split_L6 n m
 | 0 => rfl
 | m + 1 => by
  have ih := pleachref7_Split_XL6 n m
  funext v45 v46 v47 v48 v49 v50 v51 v52 v53 v54
  rw [pleachref7_Split_step6, pleachref7_Split_XL7 n m]
  rfl
theorem pleachref7_Split_XL9 (n : Nat) : ∀ m, pleachref7_Split_X9 n m = pleachref7_Split_L9 n m
 | 0 => rfl
 | m + 1 => by
  have ih := pleachref7_Split_XL9 n m
  funext v80 v81 v82 v83 v84 v85
  rw [pleachref7_Split_step9, ih]
  rfl
theorem pleachref7_Split_XL8 (n : Nat) : ∀ m, pleachref7_Split_X8 n m = pleachref7_Split_L8 n m
 | 0 => rfl
 | m + 1 => by
  have ih := pleachref7_Split_XL8 n m
  funext v69 v70 v71 v72 v73 v74 v75
  rw [pleachref7_Split_step8, pleachref7_Split_XL9 n m]
  rfl
theorem pleachref7_Split_XL5 (n : Nat) : ∀ m, pleachref7_Split_X5 n m = pleachref7_Split_L5 n m
 | 0 => rfl
 | m + 1 => by
  have ih := pleachref7_Split_XL5 n m
  funext v35 v36 v37 v38 v39 v40
  rw [pleachref7_Split_step5, pleachref7_Split_XL6 n n, pleachref7_Split_XL8 n n, ih]
  rfl
theorem pleachref7_Split_XL4 (n : Nat) : ∀ m, pleachref7_Split_X4 n m = pleachref7_Split_L4 n m
 | 0 => rfl
 | m + 1 => by
  have ih := pleachref7_Split_XL4 n m
  funext v22 v23 v24 v25 v26 v27 v28 v29 v30
  rw [pleachref7_Split_step4, pleachref7_Split_XL5 n m, pleachref7_Split_XL6 n n, pleachref7_Split_XL8 n n]
  rfl
theorem pleachref7_Split_XL3 (n : Nat) : ∀ m, pleachref7_Split_X3 n m = pleachref7_Split_L3 n m
 | 0 => rfl
 | m + 1 => by
  have ih := pleachref7_Split_XL3 n m
  funext v14 v15 v16 v17 v18 v19 v20 v21
  rw [pleachref7_Split_step3, pleachref7_Split_XL4 n n, ih]
  rfl
theorem pleachref7_Split_XL1 (n : Nat) : ∀ m, pleachref7_Split_X1 n m = pleachref7_Split_L1 n m
 | 0 => rfl
 | m + 1 => by
  have ih := pleachref7_Split_XL1 n m
  funext v1 v2 v3 v4 v5 v6
  rw [pleachref7_Split_step1, pleachref7_Split_XL2 n m _ ih n, pleachref7_Split_XL3 n n]
  rfl
noncomputable def pleachref7_Split_n (n : Nat) (arr_0 : List (List Int)) (x_1 : List Int) (x_2 : Int) : Option (((List Int) × (List Int) × Unit) × Unit) := pleachref7_Split_T (pleachref7_Split_L1 n n) arr_0 x_1 x_2
noncomputable def pleachref7_Split (arr_0 : List (List Int)) (x_1 : List Int) (x_2 : Int) : Option (((List Int) × (List Int) × Unit) × Unit) := pleachref7_Split_n 1099511627776 arr_0 x_1 x_2
theorem pleachref7_Split_eq (n : Nat) (arr_0 : List (List Int)) (x_1 : List Int) (x_2 : Int) : evFn pleachref7_Split_Γ tab pleachref7_Split_fi n [.val t24, .val t28, .val t2] [⟨t28, [true], none⟩, ⟨t28, [true], none⟩] Try.f19 (arr_0, x_1, x_2, ()) = pleachref7_Split_n n arr_0 x_1 x_2 := by
  rw [pleachref7_Split_start, pleachref7_Split_XL1 n n]
  rfl
noncomputable def pleachref7_Split_e : Ent := ⟨[.val t24, .val t28, .val t2], [⟨t28, [true], none⟩, ⟨t28, [true], none⟩], fun x => pleachref7_Split x.1 x.2.1 x.2.2.1⟩
theorem pleachref7_Split_good : Good tab.ty Try.prog 19 pleachref7_Split_e := by
  refine fn_good (Γ := pleachref7_Split_Γ) (fi := pleachref7_Split_fi) (n := 1099511627776) follows (gcons pleachref7_Rising_good (gcons pleachref7_Near_good (gcons pleachref7_without_good gnil))) tabok Try.func19 (by kernel_rfl) (by kernel_rfl) (fun x r h => ?_)
  obtain ⟨arr_0, x_1, x_2, _u⟩ := x
  exact (pleachref7_Split_eq 1099511627776 arr_0 x_1 x_2).trans h
noncomputable def pleachref7_parted_Γ : Ctx := [(19, pleachref7_Split_e), (21, pleachref7_Of_e)]
def pleachref7_parted_fi : Fi := { keep := [], vty := [], vals := [], live := [(0, [0, 1, 2, 3]), (1, [0, 1, 2, 9, 10]), (2, [0, 1, 2, 9, 10, 11]), (3, [8])] }
noncomputable def pleachref7_parted (d_0 : List (List Int)) (cs_1 : List ((List Int) × Int)) (i_2 : Int) (k_3 : Int) : Option (((List ((List Int) × Int)) × Unit) × Unit) :=
 bif decide (0 ≤ i_2) && decide (i_2 < (cs_1.length : Int)) then
  Option.bind (pleachref7_Split d_0 ((List.getD cs_1 i_2.toNat ([], 0)).1) k_3) fun (r1 : ((List Int) × (List Int) × Unit) × Unit) =>
  bif decide (0 ≤ i_2) && decide (i_2 ≤ (cs_1.length : Int)) then
   bif Nat.ble (0 + (List.drop 0 (List.take i_2.toNat cs_1)).length) 1073741824 then
    Option.bind (pleachref7_Of d_0 r1.1.1) fun (r2 : (((List Int) × Int) × Unit) × Unit) =>
    Option.bind (pleachref7_Of d_0 r1.1.2.1) fun (r3 : (((List Int) × Int) × Unit) × Unit) =>
    bif Nat.ble (([] ++ (List.drop 0 (List.take i_2.toNat cs_1))).length + 2) 1073741824 then
     bif (decide (0 ≤ IntKind.wrap .i64 (i_2 + 1)) && decide (IntKind.wrap .i64 (i_2 + 1) ≤ (cs_1.length : Int))) && decide ((cs_1.length : Int) ≤ (cs_1.length : Int)) then
      bif Nat.ble ((([] ++ (List.drop 0 (List.take i_2.toNat cs_1))) ++ [r2.1.1, r3.1.1]).length + (List.drop ((IntKind.wrap .i64 (i_2 + 1)).toNat) (List.take ((cs_1.length : Int).toNat) cs_1)).length) 1073741824 then
       some (((([] ++ (List.drop 0 (List.take i_2.toNat cs_1))) ++ [r2.1.1, r3.1.1]) ++ (List.drop ((IntKind.wrap .i64 (i_2 + 1)).toNat) (List.take ((cs_1.length : Int).toNat) cs_1)), ()), ())
      else none
     else none
    else none
   else none
  else none
 else none
theorem pleachref7_parted_eq (d_0 : List (List Int)) (cs_1 : List ((List Int) × Int)) (i_2 : Int) (k_3 : Int) : evFn pleachref7_parted_Γ tab pleachref7_parted_fi 1 [.val t24, .val t37, .val t2, .val t2] [⟨t37, [true], none⟩] Try.f51 (d_0, cs_1, i_2, k_3, ()) = pleachref7_parted d_0 cs_1 i_2 k_3 := by kernel_rfl
noncomputable def pleachref7_parted_e : Ent := ⟨[.val t24, .val t37, .val t2, .val t2], [⟨t37, [true], none⟩], fun x => pleachref7_parted x.1 x.2.1 x.2.2.1 x.2.2.2.1⟩
theorem pleachref7_parted_good : Good tab.ty Try.prog 51 pleachref7_parted_e := by
  refine fn_good (Γ := pleachref7_parted_Γ) (fi := pleachref7_parted_fi) (n := 1) follows (gcons pleachref7_Split_good (gcons pleachref7_Of_good gnil)) tabok Try.func51 (by kernel_rfl) (by kernel_rfl) (fun x r h => ?_)
  obtain ⟨d_0, cs_1, i_2, k_3, _u⟩ := x
  exact (pleachref7_parted_eq d_0 cs_1 i_2 k_3).trans h
noncomputable def pleachref7_Group_Γ : Ctx := [(21, pleachref7_Of_e), (51, pleachref7_parted_e)]
def pleachref7_Group_fi : Fi := { keep := [], vty := [], vals := [], live := [(0, [0, 1, 2]), (1, [0, 1, 2, 11]), (2, [6]), (3, [0, 2, 7]), (4, [0, 2, 7, 8]), (5, [0, 2, 7, 8, 19]), (6, [0, 2, 7, 8]), (7, [0, 2, 7, 8, 31]), (8, [0, 2, 7, 8]), (9, [6])] }
noncomputable def pleachref7_Group_B1 (L2 : List (List Int) → Int → Int → Bool → (List ((List Int) × Int)) → Option (((List ((List Int) × Int)) × Unit) × Unit)) (v2 : List (List Int)) (v3 : Int) (v4 : Int) (v5 : List ((List Int) × Int)) : Option (((List ((List Int) × Int)) × Unit) × Unit) :=
 bif decide (v4 < (v5.length : Int)) then
  L2 v2 v3 v4 (decide (v4 < (v5.length : Int))) v5
 else
  some ((v5, ()), ())
noncomputable def pleachref7_Group_B2 (L3 : List (List Int) → Int → Int → (List ((List Int) × Int)) → Option (((List ((List Int) × Int)) × Unit) × Unit)) (L1 : List (List Int) → Int → Int → (List ((List Int) × Int)) → Option (((List ((List Int) × Int)) × Unit) × Unit)) (v6 : List (List Int)) (v7 : Int) (v8 : Int) (v9 : Bool) (v10 : List ((List Int) × Int)) : Option (((List ((List Int) × Int)) × Unit) × Unit) :=
 bif decide (0 ≤ v8) && decide (v8 < (v10.length : Int)) then
  bif decide (0 ≤ v8) && decide (v8 < (v10.length : Int)) then
   bif decide ((((List.getD v10 v8.toNat ([], 0)).1).length : Int) > IntKind.wrap .i64 ((IntKind.wrap .i64 (3 * v7)) - 1)) then
    Option.bind (pleachref7_parted v6 v10 v8 v7) fun (r11 : ((List ((List Int) × Int)) × Unit) × Unit) =>
    L3 v6 v7 v8 r11.1.1
   else
    L1 v6 v7 (IntKind.wrap .i64 (v8 + 1)) v10
  else none
 else none
noncomputable def pleachref7_Group_B3 (L3 : List (List Int) → Int → Int → (List ((List Int) × Int)) → Option (((List ((List Int) × Int)) × Unit) × Unit)) (L1 : List (List Int) → Int → Int → (List ((List Int) × Int)) → Option (((List ((List Int) × Int)) × Unit) × Unit)) (v12 : List (List Int)) (v13 : Int) (v14 : Int) (v15 : List ((List Int) × Int)) : Option (((List ((List Int) × Int)) × Unit) × Unit) :=
 bif decide (0 ≤ v14) && decide (v14 < (v15.length : Int)) then
  bif decide (0 ≤ v14) && decide (v14 < (v15.length : Int)) then
   bif decide ((((List.getD v15 v14.toNat ([], 0)).1).length : Int) > IntKind.wrap .i64 ((IntKind.wrap .i64 (3 * v13)) - 1)) then
    Option.bind (pleachref7_parted v12 v15 v14 v13) fun (r16 : ((List ((List Int) × Int)) × Unit) × Unit) =>
    L3 v12 v13 v14 r16.1.1
   else
    L1 v12 v13 (IntKind.wrap .i64 (v14 + 1)) v15
  else none
 else none
noncomputable def pleachref7_Group_T (L1 : List (List Int) → Int → Int → (List ((List Int) × Int)) → Option (((List ((List Int) × Int)) × Unit) × Unit)) (d_0 : List (List Int)) (l_1 : List Int) (k_2 : Int) : Option (((List ((List Int) × Int)) × Unit) × Unit) :=
 bif (l_1.length : Int) == 0 then
  some (([], ()), ())
 else
  Option.bind (pleachref7_Of d_0 l_1) fun (r1 : (((List Int) × Int) × Unit) × Unit) =>
  L1 d_0 k_2 0 [r1.1.1]
noncomputable def pleachref7_Group_L3 (n : Nat) (m1 : Nat) (r1 : List (List Int) → Int → Int → (List ((List Int) × Int)) → Option (((List ((List Int) × Int)) × Unit) × Unit)) : Nat → List (List Int) → Int → Int → (List ((List Int) × Int)) → Option (((List ((List Int) × Int)) × Unit) × Unit) := iter (fun _ _ _ _ => none) fun L => pleachref7_Group_B3 L r1
noncomputable def pleachref7_Group_L2 (n : Nat) (m1 : Nat) (r1 : List (List Int) → Int → Int → (List ((List Int) × Int)) → Option (((List ((List Int) × Int)) × Unit) × Unit)) : Nat → List (List Int) → Int → Int → Bool → (List ((List Int) × Int)) → Option (((List ((List Int) × Int)) × Unit) × Unit) := iterN (fun _ _ _ _ _ => none) fun m L => pleachref7_Group_B2 (pleachref7_Group_L3 n m1 r1 m) r1
noncomputable def pleachref7_Group_L1 (n : Nat) : Nat → List (List Int) → Int → Int → (List ((List Int) × Int)) → Option (((List ((List Int) × Int)) × Unit) × Unit) := iterN (fun _ _ _ _ => none) fun m L => pleachref7_Group_B1 (pleachref7_Group_L2 n m L n)
noncomputable def pleachref7_Group_X1 (n m : Nat) (v2 : List (List Int)) (v3 : Int) (v4 : Int) (v5 : List ((List Int) × Int)) : Option (((List ((List Int) × Int)) × Unit) × Unit) :=
 atLoop pleachref7_Group_Γ tab (fiB [.val t24, .val t28, .val t2] pleachref7_Group_fi) n [.val t24, .val t28, .val t2] [⟨t37, [true], none⟩] Try.f25 [1, 1, 1, 0, 1, 0] [] [0, 2, 7, 8] m
 ⟨[(0, SV.cv (CV.one (LV.pure t24 v2))), (2, SV.cv (CV.one (LV.pure t2 v3))), (7, SV.cv (CV.one (LV.ref (888888, 7)))), (8, SV.cv (CV.one (LV.pure t2 v4)))],
  [((888888, 7), Ob.row 33 t32 v5)]⟩
noncomputable def pleachref7_Group_X2 (n m1 m : Nat) (v6 : List (List Int)) (v7 : Int) (v8 : Int) (v9 : Bool) (v10 : List ((List Int) × Int)) : Option (((List ((List Int) × Int)) × Unit) × Unit) :=
 atLoop pleachref7_Group_Γ tab (fiB [.val t24, .val t28, .val t2] pleachref7_Group_fi) n [.val t24, .val t28, .val t2] [⟨t37, [true], none⟩] Try.f25 [1, 1, 1, 0, 1, 0, 0, 1, 0, 0, 0] [(m1, [0, 2, 7, 8])] [0, 2, 7, 8, 19] m
 ⟨[(0, SV.cv (CV.one (LV.pure t24 v6))), (2, SV.cv (CV.one (LV.pure t2 v7))), (7, SV.cv (CV.one (LV.ref (888888, 7)))), (8, SV.cv (CV.one (LV.pure t2 v8))), (19, SV.cv (CV.one (LV.pure t4 v9)))],
  [((888888, 7), Ob.row 33 t32 v10)]⟩
noncomputable def pleachref7_Group_X3 (n m1 m : Nat) (v12 : List (List Int)) (v13 : Int) (v14 : Int) (v15 : List ((List Int) × Int)) : Option (((List ((List Int) × Int)) × Unit) × Unit) :=
 atLoop pleachref7_Group_Γ tab (fiB [.val t24, .val t28, .val t2] pleachref7_Group_fi) n [.val t24, .val t28, .val t2] [⟨t37, [true], none⟩] Try.f25 [1, 1, 1, 0, 1, 0, 0, 1, 0, 0, 0] [(m1, [0, 2, 7, 8])] [0, 2, 7, 8, 19] m
 ⟨[(0, SV.cv (CV.one (LV.pure t24 v12))), (2, SV.cv (CV.one (LV.pure t2 v13))), (7, SV.cv (CV.one (LV.ref (888888, 7)))), (8, SV.cv (CV.one (LV.pure t2 v14)))],
  [((888888, 7), Ob.row 33 t32 v15)]⟩
theorem pleachref7_Group_step1 (n m : Nat) (v2 : List (List Int)) (v3 : Int) (v4 : Int) (v5 : List ((List Int) × Int)) : pleachref7_Group_X1 n (m + 1) v2 v3 v4 v5 = pleachref7_Group_B1 (pleachref7_Group_X2 n m n) v2 v3 v4 v5 := by kernel_rfl
theorem pleachref7_Group_step2 (n m1 m : Nat) (v6 : List (List Int)) (v7 : Int) (v8 : Int) (v9 : Bool) (v10 : List ((List Int) × Int)) : pleachref7_Group_X2 n m1 (m + 1) v6 v7 v8 v9 v10 = pleachref7_Group_B2 (pleachref7_Group_X3 n m1 m) (pleachref7_Group_X1 n m1) v6 v7 v8 v9 v10 := by kernel_rfl
theorem pleachref7_Group_step3 (n m1 m : Nat) (v12 : List (List Int)) (v13 : Int) (v14 : Int) (v15 : List ((List Int) × Int)) : pleachref7_Group_X3 n m1 (m + 1) v12 v13 v14 v15 = pleachref7_Group_B3 (pleachref7_Group_X3 n m1 m) (pleachref7_Group_X1 n m1) v12 v13 v14 v15 := by kernel_rfl
theorem pleachref7_Group_start (n : Nat) (d_0 : List (List Int)) (l_1 : List Int) (k_2 : Int) : evFn pleachref7_Group_Γ tab pleachref7_Group_fi n [.val t24, .val t28, .val t2] [⟨t37, [true], none⟩] Try.f25 (d_0, l_1, k_2, ()) = pleachref7_Group_T (pleachref7_Group_X1 n n) d_0 l_1 k_2 := by kernel_rfl
theorem pleachref7_Group_XL3 (n : Nat) (m1 : Nat) (r1 : List (List Int) → Int → Int → (List ((List Int) × Int)) → Option (((List ((List Int) × Int)) × Unit) × Unit)) (h1 : pleachref7_Group_X1 n m1 = r1) : ∀ m, pleachref7_Group_X3 n m1 m = pleachref7_Group_L3 n m1 r1 m
 | 0 => rfl
 | m + 1 => by
  have ih := pleachref7_Group_XL3 n m1 r1 h1 m
  funext v12 v13 v14 v15
  rw [pleachref7_Group_step3, ih, h1]
  rfl
theorem pleachref7_Group_XL2 (n : Nat) (m1 : Nat) (r1 : List (List Int) → Int → Int → (List ((List Int) × Int)) → Option (((List ((List Int) × Int)) × Unit) × Unit)) (h1 : pleachref7_Group_X1 n m1 = r1) : ∀ m, pleachref7_Group_X2 n m1 m = pleachref7_Group_L2 n m1 r1 m
 | 0 => rfl
 | m + 1 => by
  have ih := pleachref7_Group_XL2 n m1 r1 h1 m
  funext v6 v7 v8 v9 v10
  rw [pleachref7_Group_step2, pleachref7_Group_XL3 n m1 r1 h1 m, h1]
  rfl
theorem pleachref7_Group_XL1 (n : Nat) : ∀ m, pleachref7_Group_X1 n m = pleachref7_Group_L1 n m
 | 0 => rfl
 | m + 1 => by
  have ih := pleachref7_Group_XL1 n m
  funext v2 v3 v4 v5
  rw [pleachref7_Group_step1, pleachref7_Group_XL2 n m _ ih n]
  rfl
noncomputable def pleachref7_Group_n (n : Nat) (d_0 : List (List Int)) (l_1 : List Int) (k_2 : Int) : Option (((List ((List Int) × Int)) × Unit) × Unit) := pleachref7_Group_T (pleachref7_Group_L1 n n) d_0 l_1 k_2
noncomputable def pleachref7_Group (d_0 : List (List Int)) (l_1 : List Int) (k_2 : Int) : Option (((List ((List Int) × Int)) × Unit) × Unit) := pleachref7_Group_n 1099511627776 d_0 l_1 k_2
theorem pleachref7_Group_eq (n : Nat) (d_0 : List (List Int)) (l_1 : List Int) (k_2 : Int) : evFn pleachref7_Group_Γ tab pleachref7_Group_fi n [.val t24, .val t28, .val t2] [⟨t37, [true], none⟩] Try.f25 (d_0, l_1, k_2, ()) = pleachref7_Group_n n d_0 l_1 k_2 := by
  rw [pleachref7_Group_start, pleachref7_Group_XL1 n n]
  rfl
noncomputable def pleachref7_Group_e : Ent := ⟨[.val t24, .val t28, .val t2], [⟨t37, [true], none⟩], fun x => pleachref7_Group x.1 x.2.1 x.2.2.1⟩
theorem pleachref7_Group_good : Good tab.ty Try.prog 25 pleachref7_Group_e := by
  refine fn_good (Γ := pleachref7_Group_Γ) (fi := pleachref7_Group_fi) (n := 1099511627776) follows (gcons pleachref7_Of_good (gcons pleachref7_parted_good gnil)) tabok Try.func25 (by kernel_rfl) (by kernel_rfl) (fun x r h => ?_)
  obtain ⟨d_0, l_1, k_2, _u⟩ := x
  exact (pleachref7_Group_eq 1099511627776 d_0 l_1 k_2).trans h
noncomputable def pleachref7_Home_Γ : Ctx := [(35, pleachref1_Has_e)]
def pleachref7_Home_fi : Fi := { keep := [], vty := [], vals := [], live := [(0, [0, 1]), (1, [0, 1, 5]), (2, [0, 1, 5, 9]), (3, [0, 1, 5]), (4, [0, 1, 5, 18]), (5, [4]), (6, [4])] }
noncomputable def pleachref7_Home_B1 (L1 : (List ((List Int) × Int)) → Int → Int → Option ((Int × Unit) × Unit)) (v1 : List ((List Int) × Int)) (v2 : Int) (v3 : Int) : Option ((Int × Unit) × Unit) :=
 bif decide (v3 < (v1.length : Int)) then
  bif decide (0 ≤ v3) && decide (v3 < (v1.length : Int)) then
   Option.bind (pleachref1_Has ((List.getD v1 v3.toNat ([], 0)).1) v2) fun (r4 : (Bool × Unit) × Unit) =>
   bif r4.1.1 then
    some ((v3, ()), ())
   else
    L1 v1 v2 (IntKind.wrap .i64 (v3 + 1))
  else none
 else
  some (((-1), ()), ())
noncomputable def pleachref7_Home_T (L1 : (List ((List Int) × Int)) → Int → Int → Option ((Int × Unit) × Unit)) (cs_0 : List ((List Int) × Int)) (id_1 : Int) : Option ((Int × Unit) × Unit) :=
 L1 cs_0 id_1 0
noncomputable def pleachref7_Home_L1 (n : Nat) : Nat → (List ((List Int) × Int)) → Int → Int → Option ((Int × Unit) × Unit) := iter (fun _ _ _ => none) fun L => pleachref7_Home_B1 L
noncomputable def pleachref7_Home_X1 (n m : Nat) (v1 : List ((List Int) × Int)) (v2 : Int) (v3 : Int) : Option ((Int × Unit) × Unit) :=
 atLoop pleachref7_Home_Γ tab (fiB [.val t37, .val t2] pleachref7_Home_fi) n [.val t37, .val t2] [⟨t2, [false], none⟩] Try.f32 [1, 0, 1, 0] [] [0, 1, 5] m
 ⟨[(0, SV.cv (CV.one (LV.pure t37 v1))), (1, SV.cv (CV.one (LV.pure t2 v2))), (5, SV.cv (CV.one (LV.pure t2 v3)))],
  []⟩
theorem pleachref7_Home_step1 (n m : Nat) (v1 : List ((List Int) × Int)) (v2 : Int) (v3 : Int) : pleachref7_Home_X1 n (m + 1) v1 v2 v3 = pleachref7_Home_B1 (pleachref7_Home_X1 n m) v1 v2 v3 := by kernel_rfl
theorem pleachref7_Home_start (n : Nat) (cs_0 : List ((List Int) × Int)) (id_1 : Int) : evFn pleachref7_Home_Γ tab pleachref7_Home_fi n [.val t37, .val t2] [⟨t2, [false], none⟩] Try.f32 (cs_0, id_1, ()) = pleachref7_Home_T (pleachref7_Home_X1 n n) cs_0 id_1 := by kernel_rfl
theorem pleachref7_Home_XL1 (n : Nat) : ∀ m, pleachref7_Home_X1 n m = pleachref7_Home_L1 n m
 | 0 => rfl
 | m + 1 => by
  have ih := pleachref7_Home_XL1 n m
  funext v1 v2 v3
  rw [pleachref7_Home_step1, ih]
  rfl
noncomputable def pleachref7_Home_n (n : Nat) (cs_0 : List ((List Int) × Int)) (id_1 : Int) : Option ((Int × Unit) × Unit) := pleachref7_Home_T (pleachref7_Home_L1 n n) cs_0 id_1
noncomputable def pleachref7_Home (cs_0 : List ((List Int) × Int)) (id_1 : Int) : Option ((Int × Unit) × Unit) := pleachref7_Home_n 1099511627776 cs_0 id_1
theorem pleachref7_Home_eq (n : Nat) (cs_0 : List ((List Int) × Int)) (id_1 : Int) : evFn pleachref7_Home_Γ tab pleachref7_Home_fi n [.val t37, .val t2] [⟨t2, [false], none⟩] Try.f32 (cs_0, id_1, ()) = pleachref7_Home_n n cs_0 id_1 := by
  rw [pleachref7_Home_start, pleachref7_Home_XL1 n n]
  rfl
noncomputable def pleachref7_Home_e : Ent := ⟨[.val t37, .val t2], [⟨t2, [false], none⟩], fun x => pleachref7_Home x.1 x.2.1⟩
theorem pleachref7_Home_good : Good tab.ty Try.prog 32 pleachref7_Home_e := by
  refine fn_good (Γ := pleachref7_Home_Γ) (fi := pleachref7_Home_fi) (n := 1099511627776) follows (gcons pleachref1_Has_good gnil) tabok Try.func32 (by kernel_rfl) (by kernel_rfl) (fun x r h => ?_)
  obtain ⟨cs_0, id_1, _u⟩ := x
  exact (pleachref7_Home_eq 1099511627776 cs_0 id_1).trans h
noncomputable def pleachlaw8_less1_Γ : Ctx := []
def pleachlaw8_less1_fi : Fi := { keep := [], vty := [(5, 28)], vals := [], live := [(0, [0, 1]), (1, [0, 1, 5]), (2, [0, 1, 5, 6]), (3, [0, 1, 5, 6, 10]), (4, [0, 1, 5, 6]), (5, [0, 1, 5, 6, 18]), (6, [0, 1, 5, 6]), (7, [4])] }
noncomputable def pleachlaw8_less1_B1 (L1 : List Int → Int → Int → List Int → Option (((List Int) × Unit) × Unit)) (v1 : List Int) (v2 : Int) (v3 : Int) (v4 : List Int) : Option (((List Int) × Unit) × Unit) :=
 bif decide (v3 < (v1.length : Int)) then
  bif decide (0 ≤ v3) && decide (v3 < (v1.length : Int)) then
   bif (List.getD v1 v3.toNat 0) != v2 then
    bif decide (0 ≤ v3) && decide (v3 < (v1.length : Int)) then
     bif Nat.ble (v4.length + 1) 1073741824 then
      L1 v1 v2 (IntKind.wrap .i64 (v3 + 1)) (v4 ++ [List.getD v1 v3.toNat 0])
     else none
    else none
   else
    L1 v1 v2 (IntKind.wrap .i64 (v3 + 1)) v4
  else none
 else
  some ((v4, ()), ())
noncomputable def pleachlaw8_less1_T (L1 : List Int → Int → Int → List Int → Option (((List Int) × Unit) × Unit)) (l_0 : List Int) (id_1 : Int) : Option (((List Int) × Unit) × Unit) :=
 L1 l_0 id_1 0 []
noncomputable def pleachlaw8_less1_L1 (n : Nat) : Nat → List Int → Int → Int → List Int → Option (((List Int) × Unit) × Unit) := iter (fun _ _ _ _ => none) fun L => pleachlaw8_less1_B1 L
noncomputable def pleachlaw8_less1_X1 (n m : Nat) (v1 : List Int) (v2 : Int) (v3 : Int) (v4 : List Int) : Option (((List Int) × Unit) × Unit) :=
 atLoop pleachlaw8_less1_Γ tab (fiB [.val t28, .val t2] pleachlaw8_less1_fi) n [.val t28, .val t2] [⟨t28, [true], none⟩] Try.f33 [1, 1, 0, 1, 0] [] [0, 1, 5, 6] m
 ⟨[(0, SV.cv (CV.one (LV.pure t28 v1))), (1, SV.cv (CV.one (LV.pure t2 v2))), (5, SV.cv (CV.one (LV.ref (888888, 5)))), (6, SV.cv (CV.one (LV.pure t2 v3)))],
  [((888888, 5), Ob.row 3 t2 v4)]⟩
theorem pleachlaw8_less1_step1 (n m : Nat) (v1 : List Int) (v2 : Int) (v3 : Int) (v4 : List Int) : pleachlaw8_less1_X1 n (m + 1) v1 v2 v3 v4 = pleachlaw8_less1_B1 (pleachlaw8_less1_X1 n m) v1 v2 v3 v4 := by kernel_rfl
theorem pleachlaw8_less1_start (n : Nat) (l_0 : List Int) (id_1 : Int) : evFn pleachlaw8_less1_Γ tab pleachlaw8_less1_fi n [.val t28, .val t2] [⟨t28, [true], none⟩] Try.f33 (l_0, id_1, ()) = pleachlaw8_less1_T (pleachlaw8_less1_X1 n n) l_0 id_1 := by kernel_rfl
theorem pleachlaw8_less1_XL1 (n : Nat) : ∀ m, pleachlaw8_less1_X1 n m = pleachlaw8_less1_L1 n m
 | 0 => rfl
 | m + 1 => by
  have ih := pleachlaw8_less1_XL1 n m
  funext v1 v2 v3 v4
  rw [pleachlaw8_less1_step1, ih]
  rfl
noncomputable def pleachlaw8_less1_n (n : Nat) (l_0 : List Int) (id_1 : Int) : Option (((List Int) × Unit) × Unit) := pleachlaw8_less1_T (pleachlaw8_less1_L1 n n) l_0 id_1
noncomputable def pleachlaw8_less1 (l_0 : List Int) (id_1 : Int) : Option (((List Int) × Unit) × Unit) := pleachlaw8_less1_n 1099511627776 l_0 id_1
theorem pleachlaw8_less1_eq (n : Nat) (l_0 : List Int) (id_1 : Int) : evFn pleachlaw8_less1_Γ tab pleachlaw8_less1_fi n [.val t28, .val t2] [⟨t28, [true], none⟩] Try.f33 (l_0, id_1, ()) = pleachlaw8_less1_n n l_0 id_1 := by
  rw [pleachlaw8_less1_start, pleachlaw8_less1_XL1 n n]
  rfl
noncomputable def pleachlaw8_less1_e : Ent := ⟨[.val t28, .val t2], [⟨t28, [true], none⟩], fun x => pleachlaw8_less1 x.1 x.2.1⟩
theorem pleachlaw8_less1_good : Good tab.ty Try.prog 33 pleachlaw8_less1_e := by
  refine fn_good (Γ := pleachlaw8_less1_Γ) (fi := pleachlaw8_less1_fi) (n := 1099511627776) follows gnil tabok Try.func33 (by kernel_rfl) (by kernel_rfl) (fun x r h => ?_)
  obtain ⟨l_0, id_1, _u⟩ := x
  exact (pleachlaw8_less1_eq 1099511627776 l_0 id_1).trans h
noncomputable def pleachref1_SameInts_Γ : Ctx := []
def pleachref1_SameInts_fi : Fi := { keep := [], vty := [], vals := [], live := [(0, [0, 1]), (1, [0, 1, 10]), (2, [4]), (3, [0, 1, 5]), (4, [0, 1, 5, 14]), (5, [0, 1, 5]), (6, [0, 1, 5, 25]), (7, [4]), (8, [4])] }
noncomputable def pleachref1_SameInts_B1 (L1 : List Int → List Int → Int → Option ((Bool × Unit) × Unit)) (v1 : List Int) (v2 : List Int) (v3 : Int) : Option ((Bool × Unit) × Unit) :=
 bif decide (v3 < (v1.length : Int)) then
  bif decide (0 ≤ v3) && decide (v3 < (v1.length : Int)) then
   bif decide (0 ≤ v3) && decide (v3 < (v2.length : Int)) then
    bif (List.getD v1 v3.toNat 0) != (List.getD v2 v3.toNat 0) then
     some ((false, ()), ())
    else
     L1 v1 v2 (IntKind.wrap .i64 (v3 + 1))
   else none
  else none
 else
  some ((true, ()), ())
noncomputable def pleachref1_SameInts_T (L1 : List Int → List Int → Int → Option ((Bool × Unit) × Unit)) (a_0 : List Int) (b_1 : List Int) : Option ((Bool × Unit) × Unit) :=
 bif (a_0.length : Int) != (b_1.length : Int) then
  some ((false, ()), ())
 else
  L1 a_0 b_1 0
noncomputable def pleachref1_SameInts_L1 (n : Nat) : Nat → List Int → List Int → Int → Option ((Bool × Unit) × Unit) := iter (fun _ _ _ => none) fun L => pleachref1_SameInts_B1 L
noncomputable def pleachref1_SameInts_X1 (n m : Nat) (v1 : List Int) (v2 : List Int) (v3 : Int) : Option ((Bool × Unit) × Unit) :=
 atLoop pleachref1_SameInts_Γ tab (fiB [.val t28, .val t28] pleachref1_SameInts_fi) n [.val t28, .val t28] [⟨t4, [false], none⟩] Try.f22 [1, 1, 0, 1, 0] [] [0, 1, 5] m
 ⟨[(0, SV.cv (CV.one (LV.pure t28 v1))), (1, SV.cv (CV.one (LV.pure t28 v2))), (5, SV.cv (CV.one (LV.pure t2 v3)))],
  []⟩
theorem pleachref1_SameInts_step1 (n m : Nat) (v1 : List Int) (v2 : List Int) (v3 : Int) : pleachref1_SameInts_X1 n (m + 1) v1 v2 v3 = pleachref1_SameInts_B1 (pleachref1_SameInts_X1 n m) v1 v2 v3 := by kernel_rfl
theorem pleachref1_SameInts_start (n : Nat) (a_0 : List Int) (b_1 : List Int) : evFn pleachref1_SameInts_Γ tab pleachref1_SameInts_fi n [.val t28, .val t28] [⟨t4, [false], none⟩] Try.f22 (a_0, b_1, ()) = pleachref1_SameInts_T (pleachref1_SameInts_X1 n n) a_0 b_1 := by kernel_rfl
theorem pleachref1_SameInts_XL1 (n : Nat) : ∀ m, pleachref1_SameInts_X1 n m = pleachref1_SameInts_L1 n m
 | 0 => rfl
 | m + 1 => by
  have ih := pleachref1_SameInts_XL1 n m
  funext v1 v2 v3
  rw [pleachref1_SameInts_step1, ih]
  rfl
noncomputable def pleachref1_SameInts_n (n : Nat) (a_0 : List Int) (b_1 : List Int) : Option ((Bool × Unit) × Unit) := pleachref1_SameInts_T (pleachref1_SameInts_L1 n n) a_0 b_1
noncomputable def pleachref1_SameInts (a_0 : List Int) (b_1 : List Int) : Option ((Bool × Unit) × Unit) := pleachref1_SameInts_n 1099511627776 a_0 b_1
theorem pleachref1_SameInts_eq (n : Nat) (a_0 : List Int) (b_1 : List Int) : evFn pleachref1_SameInts_Γ tab pleachref1_SameInts_fi n [.val t28, .val t28] [⟨t4, [false], none⟩] Try.f22 (a_0, b_1, ()) = pleachref1_SameInts_n n a_0 b_1 := by
  rw [pleachref1_SameInts_start, pleachref1_SameInts_XL1 n n]
  rfl
noncomputable def pleachref1_SameInts_e : Ent := ⟨[.val t28, .val t28], [⟨t4, [false], none⟩], fun x => pleachref1_SameInts x.1 x.2.1⟩
theorem pleachref1_SameInts_good : Good tab.ty Try.prog 22 pleachref1_SameInts_e := by
  refine fn_good (Γ := pleachref1_SameInts_Γ) (fi := pleachref1_SameInts_fi) (n := 1099511627776) follows gnil tabok Try.func22 (by kernel_rfl) (by kernel_rfl) (fun x r h => ?_)
  obtain ⟨a_0, b_1, _u⟩ := x
  exact (pleachref1_SameInts_eq 1099511627776 a_0 b_1).trans h
noncomputable def pleachlaw8_ClusNear_Γ : Ctx := [(14, pleachlaw8_begun_e), (15, pleachmade_Made_e), (16, pleachmade_Picks_Dist_e), (21, pleachref7_Of_e), (22, pleachref1_SameInts_e), (25, pleachref7_Group_e), (28, clus_Leave_e), (32, pleachref7_Home_e), (33, pleachlaw8_less1_e), (34, pleachref7_Near_e), (35, pleachref1_Has_e)]
def pleachlaw8_ClusNear_fi : Fi := { keep := [], vty := [(11, 28), (21, 28)], vals := [], live := [(0, [0, 1, 2, 3, 73, 74, 75, 76, 77, 78, 79, 80, 81, 84, 85, 86, 87, 88, 89, 90, 91, 92, 93, 94, 118, 119, 120, 121, 122, 123, 181, 182, 183, 195, 196, 197, 198, 199, 200, 201, 202, 203, 204, 205, 206, 237, 238, 241, 242, 243, 244, 245, 246, 247, 248, 251, 252, 253, 254, 255, 256, 257, 258, 259, 260, 261]), (1, [0, 1, 2, 3, 29, 73, 74, 75, 76, 77, 78, 79, 80, 81, 84, 85, 86, 87, 88, 89, 90, 91, 92, 93, 94, 118, 119, 120, 121, 122, 123, 181, 182, 183, 195, 196, 197, 198, 199, 200, 201, 202, 203, 204, 205, 206, 237, 238, 241, 242, 243, 244, 245, 246, 247, 248, 251, 252, 253, 254, 255, 256, 257, 258, 259, 260, 261]), (2, [8]), (3, [0, 1, 2, 3, 32, 73, 74, 75, 76, 77, 78, 79, 80, 81, 84, 85, 86, 87, 88, 89, 90, 91, 92, 93, 94, 118, 119, 120, 121, 122, 123, 181, 182, 183, 195, 196, 197, 198, 199, 200, 201, 202, 203, 204, 205, 206, 237, 238, 241, 242, 243, 244, 245, 246, 247, 248, 251, 252, 253, 254, 255, 256, 257, 258, 259, 260, 261]), (4, [8]), (5, [1, 2, 3, 9, 73, 74, 75, 76, 77, 78, 79, 80, 81, 84, 85, 86, 87, 88, 89, 90, 91, 92, 93, 94, 118, 119, 120, 121, 122, 123, 181, 182, 183, 195, 196, 197, 198, 199, 200, 201, 202, 203, 204, 205, 206, 237, 238, 241, 242, 243, 244, 245, 246, 247, 248, 251, 252, 253, 254, 255, 256, 257, 258, 259, 260, 261]), (6, [1, 2, 9, 10, 73, 74, 75, 76, 77, 78, 79, 80, 81, 84, 85, 86, 87, 88, 89, 90, 91, 92, 93, 94, 118, 119, 120, 121, 122, 123, 181, 182, 183, 195, 196, 197, 198, 199, 200, 201, 202, 203, 204, 205, 206, 237, 238, 241, 242, 243, 244, 245, 246, 247, 248, 251, 252, 253, 254, 255, 256, 257, 258, 259, 260, 261]), (7, [1, 2, 9, 10, 11, 73, 74, 75, 76, 77, 78, 79, 80, 81, 84, 85, 86, 87, 88, 89, 90, 91, 92, 93, 94, 118, 119, 120, 121, 122, 123, 181, 182, 183, 195, 196, 197, 198, 199, 200, 201, 202, 203, 204, 205, 206, 237, 238, 241, 242, 243, 244, 245, 246, 247, 248, 251, 252, 253, 254, 255, 256, 257, 258, 259, 260, 261]), (8, [1, 2, 9, 10, 11, 12, 73, 74, 75, 76, 77, 78, 79, 80, 81, 84, 85, 86, 87, 88, 89, 90, 91, 92, 93, 94, 118, 119, 120, 121, 122, 123, 181, 182, 183, 195, 196, 197, 198, 199, 200, 201, 202, 203, 204, 205, 206, 237, 238, 241, 242, 243, 244, 245, 246, 247, 248, 251, 252, 253, 254, 255, 256, 257, 258, 259, 260, 261]), (9, [1, 2, 9, 10, 11, 12, 41, 73, 74, 75, 76, 77, 78, 79, 80, 81, 84, 85, 86, 87, 88, 89, 90, 91, 92, 93, 94, 118, 119, 120, 121, 122, 123, 181, 182, 183, 195, 196, 197, 198, 199, 200, 201, 202, 203, 204, 205, 206, 237, 238, 241, 242, 243, 244, 245, 246, 247, 248, 251, 252, 253, 254, 255, 256, 257, 258, 259, 260, 261]), (10, [1, 2, 9, 10, 11, 12, 73, 74, 75, 76, 77, 78, 79, 80, 81, 84, 85, 86, 87, 88, 89, 90, 91, 92, 93, 94, 118, 119, 120, 121, 122, 123, 181, 182, 183, 195, 196, 197, 198, 199, 200, 201, 202, 203, 204, 205, 206, 237, 238, 241, 242, 243, 244, 245, 246, 247, 248, 251, 252, 253, 254, 255, 256, 257, 258, 259, 260, 261]), (11, [1, 2, 9, 10, 11, 12, 49, 73, 74, 75, 76, 77, 78, 79, 80, 81, 84, 85, 86, 87, 88, 89, 90, 91, 92, 93, 94, 118, 119, 120, 121, 122, 123, 181, 182, 183, 195, 196, 197, 198, 199, 200, 201, 202, 203, 204, 205, 206, 237, 238, 241, 242, 243, 244, 245, 246, 247, 248, 251, 252, 253, 254, 255, 256, 257, 258, 259, 260, 261]), (12, [1, 2, 9, 10, 11, 12, 73, 74, 75, 76, 77, 78, 79, 80, 81, 84, 85, 86, 87, 88, 89, 90, 91, 92, 93, 94, 118, 119, 120, 121, 122, 123, 181, 182, 183, 195, 196, 197, 198, 199, 200, 201, 202, 203, 204, 205, 206, 237, 238, 241, 242, 243, 244, 245, 246, 247, 248, 251, 252, 253, 254, 255, 256, 257, 258, 259, 260, 261]), (13, [2, 9, 10, 11, 13, 73, 74, 75, 76, 77, 78, 79, 80, 81, 84, 85, 86, 87, 88, 89, 90, 91, 92, 93, 94, 118, 119, 120, 121, 122, 123, 181, 182, 183, 195, 196, 197, 198, 199, 200, 201, 202, 203, 204, 205, 206, 237, 238, 241, 242, 243, 244, 245, 246, 247, 248, 251, 252, 253, 254, 255, 256, 257, 258, 259, 260, 261]), (14, [9, 10, 11, 13, 14, 73, 74, 75, 76, 77, 78, 79, 80, 81, 84, 85, 86, 87, 88, 89, 90, 91, 92, 93, 94, 118, 119, 120, 121, 122, 123, 181, 182, 183, 195, 196, 197, 198, 199, 200, 201, 202, 203, 204, 205, 206, 237, 238, 241, 242, 243, 244, 245, 246, 247, 248, 251, 252, 253, 254, 255, 256, 257, 258, 259, 260, 261]), (15, [9, 10, 11, 13, 14, 15, 73, 74, 75, 76, 77, 78, 79, 80, 81, 84, 85, 86, 87, 88, 89, 90, 91, 92, 93, 94, 118, 119, 120, 121, 122, 123, 181, 182, 183, 195, 196, 197, 198, 199, 200, 201, 202, 203, 204, 205, 206, 237, 238, 241, 242, 243, 244, 245, 246, 247, 248, 251, 252, 253, 254, 255, 256, 257, 258, 259, 260, 261]), (16, [9, 10, 11, 13, 14, 15, 16, 73, 74, 75, 76, 77, 78, 79, 80, 81, 84, 85, 86, 87, 88, 89, 90, 91, 92, 93, 94, 118, 119, 120, 121, 122, 123, 181, 182, 183, 195, 196, 197, 198, 199, 200, 201, 202, 203, 204, 205, 206, 237, 238, 241, 242, 243, 244, 245, 246, 247, 248, 251, 252, 253, 254, 255, 256, 257, 258, 259, 260, 261]), (17, [9, 10, 11, 13, 14, 15, 16, 95, 118, 119, 120, 121, 122, 123, 181, 182, 183, 195, 196, 197, 198, 199, 200, 201, 202, 203, 204, 205, 206, 237, 238, 241, 242, 243, 244, 245, 246, 247, 248, 251, 252, 253, 254, 255, 256, 257, 258, 259, 260, 261]), (18, [11, 13, 15, 16, 17, 118, 119, 120, 121, 122, 123]), (19, [11, 13, 15, 16, 17, 18, 118, 119, 120, 121, 122, 123]), (20, [11, 13, 15, 16, 17, 18, 99, 118, 119, 120, 121, 122, 123]), (21, [11, 13, 15, 16, 17, 18, 118, 119, 120, 121, 122, 123]), (22, [11, 13, 15, 16, 17, 18, 118, 119, 120, 121, 122, 123]), (23, [11, 13, 15, 16, 17, 19, 118, 119, 120, 121, 122, 123]), (24, [11, 13, 16, 17, 19, 111, 118, 119, 120, 121, 122, 123]), (25, [11, 13, 16, 17, 19, 118, 119, 120, 121, 122, 123]), (26, [8]), (27, [9, 10, 13, 14, 15, 16, 131, 181, 182, 183, 195, 196, 197, 198, 199, 200, 201, 202, 203, 204, 205, 206, 237, 238, 241, 242, 243, 244, 245, 246, 247, 248, 251, 252, 253, 254, 255, 256, 257, 258, 259, 260, 261]), (28, [8]), (29, [9, 10, 13, 15, 16, 20, 181, 182, 183, 195, 196, 197, 198, 199, 200, 201, 202, 203, 204, 205, 206, 237, 238, 241, 242, 243, 244, 245, 246, 247, 248, 251, 252, 253, 254, 255, 256, 257, 258, 259, 260, 261]), (30, [9, 10, 13, 15, 16, 20, 21, 181, 182, 183, 195, 196, 197, 198, 199, 200, 201, 202, 203, 204, 205, 206, 237, 238, 241, 242, 243, 244, 245, 246, 247, 248, 251, 252, 253, 254, 255, 256, 257, 258, 259, 260, 261]), (31, [9, 10, 13, 15, 16, 20, 21, 22, 181, 182, 183, 195, 196, 197, 198, 199, 200, 201, 202, 203, 204, 205, 206, 237, 238, 241, 242, 243, 244, 245, 246, 247, 248, 251, 252, 253, 254, 255, 256, 257, 258, 259, 260, 261]), (32, [9, 10, 13, 15, 16, 20, 21, 22, 151, 181, 182, 183, 195, 196, 197, 198, 199, 200, 201, 202, 203, 204, 205, 206, 237, 238, 241, 242, 243, 244, 245, 246, 247, 248, 251, 252, 253, 254, 255, 256, 257, 258, 259, 260, 261]), (33, [9, 10, 13, 15, 16, 20, 21, 22, 181, 182, 183, 195, 196, 197, 198, 199, 200, 201, 202, 203, 204, 205, 206, 237, 238, 241, 242, 243, 244, 245, 246, 247, 248, 251, 252, 253, 254, 255, 256, 257, 258, 259, 260, 261]), (34, [9, 10, 13, 15, 16, 20, 21, 22, 156, 181, 182, 183, 195, 196, 197, 198, 199, 200, 201, 202, 203, 204, 205, 206, 237, 238, 241, 242, 243, 244, 245, 246, 247, 248, 251, 252, 253, 254, 255, 256, 257, 258, 259, 260, 261]), (35, [9, 10, 13, 15, 16, 20, 21, 22, 181, 182, 183, 195, 196, 197, 198, 199, 200, 201, 202, 203, 204, 205, 206, 237, 238, 241, 242, 243, 244, 245, 246, 247, 248, 251, 252, 253, 254, 255, 256, 257, 258, 259, 260, 261]), (36, [10, 13, 15, 16, 20, 23, 181, 182, 183, 195, 196, 197, 198, 199, 200, 201, 202, 203, 204, 205, 206, 237, 238, 241, 242, 243, 244, 245, 246, 247, 248, 251, 252, 253, 254, 255, 256, 257, 258, 259, 260, 261]), (37, [10, 13, 15, 16, 20, 23, 24, 181, 182, 183, 195, 196, 197, 198, 199, 200, 201, 202, 203, 204, 205, 206, 237, 238, 241, 242, 243, 244, 245, 246, 247, 248, 251, 252, 253, 254, 255, 256, 257, 258, 259, 260, 261]), (38, [10, 13, 15, 16, 20, 23, 24, 174, 181, 182, 183, 195, 196, 197, 198, 199, 200, 201, 202, 203, 204, 205, 206, 237, 238, 241, 242, 243, 244, 245, 246, 247, 248, 251, 252, 253, 254, 255, 256, 257, 258, 259, 260, 261]), (39, [10, 13, 15, 16, 20, 23, 24, 181, 182, 183, 195, 196, 197, 198, 199, 200, 201, 202, 203, 204, 205, 206, 237, 238, 241, 242, 243, 244, 245, 246, 247, 248, 251, 252, 253, 254, 255, 256, 257, 258, 259, 260, 261]), (40, [10, 13, 15, 16, 20, 23, 24, 181, 182, 183, 184, 195, 196, 197, 198, 199, 200, 201, 202, 203, 204, 205, 206, 237, 238, 241, 242, 243, 244, 245, 246, 247, 248, 251, 252, 253, 254, 255, 256, 257, 258, 259, 260, 261]), (41, [10, 13, 15, 16, 20, 23, 24, 25, 181, 182, 183, 195, 196, 197, 198, 199, 200, 201, 202, 203, 204, 205, 206, 237, 238, 241, 242, 243, 244, 245, 246, 247, 248, 251, 252, 253, 254, 255, 256, 257, 258, 259, 260, 261]), (42, [10, 13, 15, 16, 20, 23, 24, 181, 182, 183, 195, 196, 197, 198, 199, 200, 201, 202, 203, 204, 205, 206, 207, 237, 238, 241, 242, 243, 244, 245, 246, 247, 248, 251, 252, 253, 254, 255, 256, 257, 258, 259, 260, 261]), (43, [8]), (44, [10, 13, 16, 20, 23, 26, 237, 238, 241, 242, 243, 244, 245, 246, 247, 248, 251, 252, 253, 254, 255, 256, 257, 258, 259, 260, 261]), (45, [13, 16, 20, 23, 26, 226, 237, 238, 241, 242, 243, 244, 245, 246, 247, 248, 251, 252, 253, 254, 255, 256, 257, 258, 259, 260, 261]), (46, [13, 16, 23, 26, 27, 237, 238, 241, 242, 243, 244, 245, 246, 247, 248, 251, 252, 253, 254, 255, 256, 257, 258, 259, 260, 261]), (47, [8]), (48, [8])] }
noncomputable def pleachlaw8_ClusNear_B1 (L1 : Int → Int → Int → Int → List (List Int) → List Int → Option ((Bool × Unit) × Unit)) (L2 : List Int → (List ((List Int) × Int)) → Int → (List ((List Int) × Int)) → Int → Int → Option ((Bool × Unit) × Unit)) (L3 : List (List Int) → Int → (List ((List Int) × Int)) → Int → (List ((List Int) × Int)) → Int → Int → List Int → Option ((Bool × Unit) × Unit)) (v4 : Int) (v5 : Int) (v6 : Int) (v7 : Int) (v8 : List (List Int)) (v9 : List Int) : Option ((Bool × Unit) × Unit) :=
 bif decide (v7 ≤ 8) then
  bif decide (0 ≤ IntKind.wrap .i64 (v7 - 1)) then
   bif (IntKind.wrap .u8 ((BitVec.ofInt 8 (Int.fdiv v4 (2 ^ (min ((IntKind.wrap .i64 (v7 - 1)).toNat) 8))) &&& BitVec.ofInt 8 1).toNat)) == 1 then
    bif Nat.ble (v9.length + 1) 1073741824 then
     L1 v4 v5 v6 (IntKind.wrap .i64 (v7 + 1)) v8 (v9 ++ [v7])
    else none
   else
    L1 v4 v5 v6 (IntKind.wrap .i64 (v7 + 1)) v8 v9
  else none
 else
  Option.bind (pleachref7_Group v8 v9 v6) fun (r10 : ((List ((List Int) × Int)) × Unit) × Unit) =>
  Option.bind (pleachref7_Home r10.1.1 (IntKind.wrap .i64 (1 + (IntKind.wrap .i64 (Int.tmod v5 8))))) fun (r11 : (Int × Unit) × Unit) =>
  Option.bind (clus_Leave v8 r10.1.1 (IntKind.wrap .i64 (1 + (IntKind.wrap .i64 (Int.tmod v5 8)))) v6) fun (r12 : ((List ((List Int) × Int)) × Unit) × Unit) =>
  bif decide (r11.1.1 < 0) then
   L2 v9 r10.1.1 r11.1.1 r12.1.1 0 0
  else
  bif decide (0 ≤ r11.1.1) && decide (r11.1.1 < (r10.1.1.length : Int)) then
   bif decide (IntKind.wrap .i64 ((((List.getD r10.1.1 r11.1.1.toNat ([], 0)).1).length : Int) - 1) ≥ v6) then
    L2 v9 r10.1.1 r11.1.1 r12.1.1 0 0
   else
   bif (r10.1.1.length : Int) == 1 then
    bif decide (0 < (r10.1.1.length : Int)) then
     bif decide ((((List.getD r10.1.1 0 ([], 0)).1).length : Int) > 1) then
      L2 v9 r10.1.1 r11.1.1 r12.1.1 0 0
     else
     bif decide (0 ≤ r11.1.1) && decide (r11.1.1 < (r10.1.1.length : Int)) then
      bif (((List.getD r10.1.1 r11.1.1.toNat ([], 0)).1).length : Int) == 1 then
       some (((r12.1.1.length : Int) == (IntKind.wrap .i64 ((r10.1.1.length : Int) - 1)), ()), ())
      else
      bif decide (0 ≤ r11.1.1) && decide (r11.1.1 < (r10.1.1.length : Int)) then
       Option.bind (pleachlaw8_less1 ((List.getD r10.1.1 r11.1.1.toNat ([], 0)).1) (IntKind.wrap .i64 (1 + (IntKind.wrap .i64 (Int.tmod v5 8))))) fun (r19 : ((List Int) × Unit) × Unit) =>
       Option.bind (pleachref7_Of v8 r19.1.1) fun (r20 : (((List Int) × Int) × Unit) × Unit) =>
       L3 v8 v6 r10.1.1 r11.1.1 r12.1.1 r20.1.1.2 0 []
      else none
     else none
    else none
   else
   bif decide (0 ≤ r11.1.1) && decide (r11.1.1 < (r10.1.1.length : Int)) then
    bif (((List.getD r10.1.1 r11.1.1.toNat ([], 0)).1).length : Int) == 1 then
     some (((r12.1.1.length : Int) == (IntKind.wrap .i64 ((r10.1.1.length : Int) - 1)), ()), ())
    else
    bif decide (0 ≤ r11.1.1) && decide (r11.1.1 < (r10.1.1.length : Int)) then
     Option.bind (pleachlaw8_less1 ((List.getD r10.1.1 r11.1.1.toNat ([], 0)).1) (IntKind.wrap .i64 (1 + (IntKind.wrap .i64 (Int.tmod v5 8))))) fun (r42 : ((List Int) × Unit) × Unit) =>
     Option.bind (pleachref7_Of v8 r42.1.1) fun (r43 : (((List Int) × Int) × Unit) × Unit) =>
     L3 v8 v6 r10.1.1 r11.1.1 r12.1.1 r43.1.1.2 0 []
    else none
   else none
  else none
noncomputable def pleachlaw8_ClusNear_B2 (L2 : List Int → (List ((List Int) × Int)) → Int → (List ((List Int) × Int)) → Int → Int → Option ((Bool × Unit) × Unit)) (v13 : List Int) (v14 : List ((List Int) × Int)) (v15 : Int) (v16 : List ((List Int) × Int)) (v17 : Int) (v18 : Int) : Option ((Bool × Unit) × Unit) :=
 bif decide (v18 < (v16.length : Int)) then
  bif decide (0 ≤ v18) && decide (v18 < (v16.length : Int)) then
   L2 v13 v14 v15 v16 (IntKind.wrap .i64 (v17 + (((List.getD v16 v18.toNat ([], 0)).1).length : Int))) (IntKind.wrap .i64 (v18 + 1))
  else none
 else
 bif decide (v15 ≥ 0) then
  bif (v16.length : Int) == (v14.length : Int) then
   some ((v17 == (IntKind.wrap .i64 ((v13.length : Int) - 1)), ()), ())
  else
   some ((false, ()), ())
 else
 bif (v16.length : Int) == (v14.length : Int) then
  some ((v17 == (IntKind.wrap .i64 ((v13.length : Int) - 0)), ()), ())
 else
  some ((false, ()), ())
noncomputable def pleachlaw8_ClusNear_B3 (L3 : List (List Int) → Int → (List ((List Int) × Int)) → Int → (List ((List Int) × Int)) → Int → Int → List Int → Option ((Bool × Unit) × Unit)) (L4 : Int → (List ((List Int) × Int)) → Int → (List ((List Int) × Int)) → Int → Int → Int → Option ((Bool × Unit) × Unit)) (v21 : List (List Int)) (v22 : Int) (v23 : List ((List Int) × Int)) (v24 : Int) (v25 : List ((List Int) × Int)) (v26 : Int) (v27 : Int) (v28 : List Int) : Option ((Bool × Unit) × Unit) :=
 bif decide (v27 < (v23.length : Int)) then
  bif v27 != v24 then
   bif decide (0 ≤ v27) && decide (v27 < (v23.length : Int)) then
    bif Nat.ble (v28.length + 1) 1073741824 then
     L3 v21 v22 v23 v24 v25 v26 (IntKind.wrap .i64 (v27 + 1)) (v28 ++ [(List.getD v23 v27.toNat ([], 0)).2])
    else none
   else none
  else
   L3 v21 v22 v23 v24 v25 v26 (IntKind.wrap .i64 (v27 + 1)) v28
 else
  Option.bind (pleachref7_Near v21 v26 v28) fun (r29 : (Int × Unit) × Unit) =>
  Option.bind (pleachref7_Home v23 r29.1.1) fun (r30 : (Int × Unit) × Unit) =>
  L4 v22 v23 v24 v25 v26 r30.1.1 0
noncomputable def pleachlaw8_ClusNear_B4 (L4 : Int → (List ((List Int) × Int)) → Int → (List ((List Int) × Int)) → Int → Int → Int → Option ((Bool × Unit) × Unit)) (v31 : Int) (v32 : List ((List Int) × Int)) (v33 : Int) (v34 : List ((List Int) × Int)) (v35 : Int) (v36 : Int) (v37 : Int) : Option ((Bool × Unit) × Unit) :=
 bif decide (v37 < (v32.length : Int)) then
  bif v37 == v33 then
   L4 v31 v32 v33 v34 v35 v36 (IntKind.wrap .i64 (v37 + 1))
  else
  bif v37 == v36 then
   L4 v31 v32 v33 v34 v35 v36 (IntKind.wrap .i64 (v37 + 1))
  else
  bif decide (0 ≤ v37) && decide (v37 < (v32.length : Int)) then
   Option.bind (pleachref7_Home v34 ((List.getD v32 v37.toNat ([], 0)).2)) fun (r38 : (Int × Unit) × Unit) =>
   bif decide (r38.1.1 < 0) then
    some ((false, ()), ())
   else
   bif decide (0 ≤ r38.1.1) && decide (r38.1.1 < (v34.length : Int)) then
    bif decide (0 ≤ v37) && decide (v37 < (v32.length : Int)) then
     Option.bind (pleachref1_SameInts ((List.getD v34 r38.1.1.toNat ([], 0)).1) ((List.getD v32 v37.toNat ([], 0)).1)) fun (r39 : (Bool × Unit) × Unit) =>
     bif !r39.1.1 then
      some ((false, ()), ())
     else
      L4 v31 v32 v33 v34 v35 v36 (IntKind.wrap .i64 (v37 + 1))
    else none
   else none
  else none
 else
 bif decide (0 ≤ v33) && decide (v33 < (v32.length : Int)) then
  bif decide (0 ≤ v36) && decide (v36 < (v32.length : Int)) then
   bif decide (IntKind.wrap .i64 ((IntKind.wrap .i64 ((((List.getD v32 v33.toNat ([], 0)).1).length : Int) - 1)) + (((List.getD v32 v36.toNat ([], 0)).1).length : Int)) ≤ IntKind.wrap .i64 ((IntKind.wrap .i64 (3 * v31)) - 1)) then
    Option.bind (pleachref7_Home v34 v35) fun (r40 : (Int × Unit) × Unit) =>
    bif (v34.length : Int) == (IntKind.wrap .i64 ((v32.length : Int) - 1)) then
     bif decide (r40.1.1 ≥ 0) then
      bif decide (0 ≤ r40.1.1) && decide (r40.1.1 < (v34.length : Int)) then
       bif (((List.getD v34 r40.1.1.toNat ([], 0)).1).length : Int) == (IntKind.wrap .i64 ((IntKind.wrap .i64 ((((List.getD v32 v33.toNat ([], 0)).1).length : Int) - 1)) + (((List.getD v32 v36.toNat ([], 0)).1).length : Int))) then
        bif decide (0 ≤ r40.1.1) && decide (r40.1.1 < (v34.length : Int)) then
         bif decide (0 ≤ v36) && decide (v36 < (v32.length : Int)) then
          Option.bind (pleachref1_Has ((List.getD v34 r40.1.1.toNat ([], 0)).1) ((List.getD v32 v36.toNat ([], 0)).2)) fun (r41 : (Bool × Unit) × Unit) =>
          some ((r41.1.1, ()), ())
         else none
        else none
       else
        some ((false, ()), ())
      else none
     else
      some ((false, ()), ())
    else
     some ((false, ()), ())
   else
    some (((v34.length : Int) == (v32.length : Int), ()), ())
  else none
 else none
noncomputable def pleachlaw8_ClusNear_T (L1 : Int → Int → Int → Int → List (List Int) → List Int → Option ((Bool × Unit) × Unit)) (arr_0 : List Int) (x_1 : Int) (x_2 : Int) (x_3 : Int) : Option ((Bool × Unit) × Unit) :=
 Option.bind (pleachlaw8_begun) fun (r1 : (Bool × Unit) × Unit) =>
 bif !r1.1.1 then
  some ((false, ()), ())
 else
 bif decide ((arr_0.length : Int) > 30) then
  some ((true, ()), ())
 else
  Option.bind (pleachmade_Made arr_0) fun (r2 : (((List Int) × Int) × Unit) × Unit) =>
  Option.bind (pleachmade_Picks_Dist r2.1.1) fun (r3 : ((List (List Int)) × Unit) × (((List Int) × Int) × Unit)) =>
  L1 x_1 x_2 (IntKind.wrap .i64 (1 + (IntKind.wrap .i64 (Int.tmod x_3 3)))) 1 r3.1.1 []
noncomputable def pleachlaw8_ClusNear_L2 (n : Nat) : Nat → List Int → (List ((List Int) × Int)) → Int → (List ((List Int) × Int)) → Int → Int → Option ((Bool × Unit) × Unit) := iter (fun _ _ _ _ _ _ => none) fun L => pleachlaw8_ClusNear_B2 L
noncomputable def pleachlaw8_ClusNear_L4 (n : Nat) : Nat → Int → (List ((List Int) × Int)) → Int → (List ((List Int) × Int)) → Int → Int → Int → Option ((Bool × Unit) × Unit) := iter (fun _ _ _ _ _ _ _ => none) fun L => pleachlaw8_ClusNear_B4 L
noncomputable def pleachlaw8_ClusNear_L3 (n : Nat) : Nat → List (List Int) → Int → (List ((List Int) × Int)) → Int → (List ((List Int) × Int)) → Int → Int → List Int → Option ((Bool × Unit) × Unit) := iter (fun _ _ _ _ _ _ _ _ => none) fun L => pleachlaw8_ClusNear_B3 L (pleachlaw8_ClusNear_L4 n n)
noncomputable def pleachlaw8_ClusNear_L1 (n : Nat) : Nat → Int → Int → Int → Int → List (List Int) → List Int → Option ((Bool × Unit) × Unit) := iter (fun _ _ _ _ _ _ => none) fun L => pleachlaw8_ClusNear_B1 L (pleachlaw8_ClusNear_L2 n n) (pleachlaw8_ClusNear_L3 n n)
noncomputable def pleachlaw8_ClusNear_X1 (n m : Nat) (v4 : Int) (v5 : Int) (v6 : Int) (v7 : Int) (v8 : List (List Int)) (v9 : List Int) : Option ((Bool × Unit) × Unit) :=
 atLoop pleachlaw8_ClusNear_Γ tab (fiB [.val t22, .val t5, .val t5, .val t5] pleachlaw8_ClusNear_fi) n [.val t22, .val t5, .val t5, .val t5] [⟨t4, [false], none⟩] Try.f8 [1, 1, 1, 1, 1, 1, 0, 1, 0] [] [1, 2, 9, 10, 11, 12] m
 ⟨[(1, SV.cv (CV.one (LV.pure t5 v4))), (2, SV.cv (CV.one (LV.pure t5 v5))), (9, SV.cv (CV.one (LV.ref (888888, 9)))), (10, SV.cv (CV.one (LV.pure t2 v6))), (11, SV.cv (CV.one (LV.ref (888888, 11)))), (12, SV.cv (CV.one (LV.pure t2 v7)))],
  [((888888, 9), Ob.row 28 t28 v8), ((888888, 11), Ob.row 3 t2 v9)]⟩
noncomputable def pleachlaw8_ClusNear_X2 (n m : Nat) (v13 : List Int) (v14 : List ((List Int) × Int)) (v15 : Int) (v16 : List ((List Int) × Int)) (v17 : Int) (v18 : Int) : Option ((Bool × Unit) × Unit) :=
 atLoop pleachlaw8_ClusNear_Γ tab (fiB [.val t22, .val t5, .val t5, .val t5] pleachlaw8_ClusNear_fi) n [.val t22, .val t5, .val t5, .val t5] [⟨t4, [false], none⟩] Try.f8 [1, 1, 1, 1, 1, 1, 1, 1, 1, 1, 1, 0, 1, 0, 1, 0, 1, 0] [] [11, 13, 15, 16, 17, 18] m
 ⟨[(11, SV.cv (CV.one (LV.pure t28 v13))), (13, SV.cv (CV.one (LV.pure t37 v14))), (15, SV.cv (CV.one (LV.pure t2 v15))), (16, SV.cv (CV.one (LV.pure t37 v16))), (17, SV.cv (CV.one (LV.pure t2 v17))), (18, SV.cv (CV.one (LV.pure t2 v18)))],
  []⟩
noncomputable def pleachlaw8_ClusNear_X3 (n m : Nat) (v21 : List (List Int)) (v22 : Int) (v23 : List ((List Int) × Int)) (v24 : Int) (v25 : List ((List Int) × Int)) (v26 : Int) (v27 : Int) (v28 : List Int) : Option ((Bool × Unit) × Unit) :=
 atLoop pleachlaw8_ClusNear_Γ tab (fiB [.val t22, .val t5, .val t5, .val t5] pleachlaw8_ClusNear_fi) n [.val t22, .val t5, .val t5, .val t5] [⟨t4, [false], none⟩] Try.f8 [1, 1, 1, 1, 1, 1, 1, 1, 1, 1, 1, 1, 1, 1, 1, 0, 1, 0] [] [9, 10, 13, 15, 16, 20, 21, 22] m
 ⟨[(9, SV.cv (CV.one (LV.pure t24 v21))), (10, SV.cv (CV.one (LV.pure t2 v22))), (13, SV.cv (CV.one (LV.pure t37 v23))), (15, SV.cv (CV.one (LV.pure t2 v24))), (16, SV.cv (CV.one (LV.pure t37 v25))), (20, SV.cv (CV.one (LV.pure t2 v26))), (21, SV.cv (CV.one (LV.ref (888888, 21)))), (22, SV.cv (CV.one (LV.pure t2 v27)))],
  [((888888, 21), Ob.row 3 t2 v28)]⟩
noncomputable def pleachlaw8_ClusNear_X4 (n m : Nat) (v31 : Int) (v32 : List ((List Int) × Int)) (v33 : Int) (v34 : List ((List Int) × Int)) (v35 : Int) (v36 : Int) (v37 : Int) : Option ((Bool × Unit) × Unit) :=
 atLoop pleachlaw8_ClusNear_Γ tab (fiB [.val t22, .val t5, .val t5, .val t5] pleachlaw8_ClusNear_fi) n [.val t22, .val t5, .val t5, .val t5] [⟨t4, [false], none⟩] Try.f8 [1, 1, 1, 1, 1, 1, 1, 1, 1, 1, 1, 1, 1, 1, 1, 1, 1, 0, 1, 0] [] [10, 13, 15, 16, 20, 23, 24] m
 ⟨[(10, SV.cv (CV.one (LV.pure t2 v31))), (13, SV.cv (CV.one (LV.pure t37 v32))), (15, SV.cv (CV.one (LV.pure t2 v33))), (16, SV.cv (CV.one (LV.pure t37 v34))), (20, SV.cv (CV.one (LV.pure t2 v35))), (23, SV.cv (CV.one (LV.pure t2 v36))), (24, SV.cv (CV.one (LV.pure t2 v37)))],
  []⟩
theorem pleachlaw8_ClusNear_step1 (n m : Nat) (v4 : Int) (v5 : Int) (v6 : Int) (v7 : Int) (v8 : List (List Int)) (v9 : List Int) : pleachlaw8_ClusNear_X1 n (m + 1) v4 v5 v6 v7 v8 v9 = pleachlaw8_ClusNear_B1 (pleachlaw8_ClusNear_X1 n m) (pleachlaw8_ClusNear_X2 n n) (pleachlaw8_ClusNear_X3 n n) v4 v5 v6 v7 v8 v9 := by kernel_rfl
theorem pleachlaw8_ClusNear_step2 (n m : Nat) (v13 : List Int) (v14 : List ((List Int) × Int)) (v15 : Int) (v16 : List ((List Int) × Int)) (v17 : Int) (v18 : Int) : pleachlaw8_ClusNear_X2 n (m + 1) v13 v14 v15 v16 v17 v18 = pleachlaw8_ClusNear_B2 (pleachlaw8_ClusNear_X2 n m) v13 v14 v15 v16 v17 v18 := by kernel_rfl
theorem pleachlaw8_ClusNear_step3 (n m : Nat) (v21 : List (List Int)) (v22 : Int) (v23 : List ((List Int) × Int)) (v24 : Int) (v25 : List ((List Int) × Int)) (v26 : Int) (v27 : Int) (v28 : List Int) : pleachlaw8_ClusNear_X3 n (m + 1) v21 v22 v23 v24 v25 v26 v27 v28 = pleachlaw8_ClusNear_B3 (pleachlaw8_ClusNear_X3 n m) (pleachlaw8_ClusNear_X4 n n) v21 v22 v23 v24 v25 v26 v27 v28 := by kernel_rfl
theorem pleachlaw8_ClusNear_step4 (n m : Nat) (v31 : Int) (v32 : List ((List Int) × Int)) (v33 : Int) (v34 : List ((List Int) × Int)) (v35 : Int) (v36 : Int) (v37 : Int) : pleachlaw8_ClusNear_X4 n (m + 1) v31 v32 v33 v34 v35 v36 v37 = pleachlaw8_ClusNear_B4 (pleachlaw8_ClusNear_X4 n m) v31 v32 v33 v34 v35 v36 v37 := by kernel_rfl
theorem pleachlaw8_ClusNear_start (n : Nat) (arr_0 : List Int) (x_1 : Int) (x_2 : Int) (x_3 : Int) : evFn pleachlaw8_ClusNear_Γ tab pleachlaw8_ClusNear_fi n [.val t22, .val t5, .val t5, .val t5] [⟨t4, [false], none⟩] Try.f8 (arr_0, x_1, x_2, x_3, ()) = pleachlaw8_ClusNear_T (pleachlaw8_ClusNear_X1 n n) arr_0 x_1 x_2 x_3 := by kernel_rfl
theorem pleachlaw8_ClusNear_XL2 (n : Nat) : ∀ m, pleachlaw8_ClusNear_X2 n m = pleachlaw8_ClusNear_L2 n m
 | 0 => rfl
 | m + 1 => by
  have ih := pleachlaw8_ClusNear_XL2 n m
  funext v13 v14 v15 v16 v17 v18
  rw [pleachlaw8_ClusNear_step2, ih]
  rfl
theorem pleachlaw8_ClusNear_XL4 (n : Nat) : ∀ m, pleachlaw8_ClusNear_X4 n m = pleachlaw8_ClusNear_L4 n m
 | 0 => rfl
 | m + 1 => by
  have ih := pleachlaw8_ClusNear_XL4 n m
  funext v31 v32 v33 v34 v35 v36 v37
  rw [pleachlaw8_ClusNear_step4, ih]
  rfl
theorem pleachlaw8_ClusNear_XL3 (n : Nat) : ∀ m, pleachlaw8_ClusNear_X3 n m = pleachlaw8_ClusNear_L3 n m
 | 0 => rfl
 | m + 1 => by
  have ih := pleachlaw8_ClusNear_XL3 n m
  funext v21 v22 v23 v24 v25 v26 v27 v28
  rw [pleachlaw8_ClusNear_step3, pleachlaw8_ClusNear_XL4 n n, ih]
  rfl
theorem pleachlaw8_ClusNear_XL1 (n : Nat) : ∀ m, pleachlaw8_ClusNear_X1 n m = pleachlaw8_ClusNear_L1 n m
 | 0 => rfl
 | m + 1 => by
  have ih := pleachlaw8_ClusNear_XL1 n m
  funext v4 v5 v6 v7 v8 v9
  rw [pleachlaw8_ClusNear_step1, pleachlaw8_ClusNear_XL2 n n, pleachlaw8_ClusNear_XL3 n n, ih]
  rfl
noncomputable def pleachlaw8_ClusNear_n (n : Nat) (arr_0 : List Int) (x_1 : Int) (x_2 : Int) (x_3 : Int) : Option ((Bool × Unit) × Unit) := pleachlaw8_ClusNear_T (pleachlaw8_ClusNear_L1 n n) arr_0 x_1 x_2 x_3
noncomputable def pleachlaw8_ClusNear (arr_0 : List Int) (x_1 : Int) (x_2 : Int) (x_3 : Int) : Option ((Bool × Unit) × Unit) := pleachlaw8_ClusNear_n 1099511627776 arr_0 x_1 x_2 x_3
theorem pleachlaw8_ClusNear_eq (n : Nat) (arr_0 : List Int) (x_1 : Int) (x_2 : Int) (x_3 : Int) : evFn pleachlaw8_ClusNear_Γ tab pleachlaw8_ClusNear_fi n [.val t22, .val t5, .val t5, .val t5] [⟨t4, [false], none⟩] Try.f8 (arr_0, x_1, x_2, x_3, ()) = pleachlaw8_ClusNear_n n arr_0 x_1 x_2 x_3 := by
  rw [pleachlaw8_ClusNear_start, pleachlaw8_ClusNear_XL1 n n]
  rfl
noncomputable def pleachlaw8_ClusNear_e : Ent := ⟨[.val t22, .val t5, .val t5, .val t5], [⟨t4, [false], none⟩], fun x => pleachlaw8_ClusNear x.1 x.2.1 x.2.2.1 x.2.2.2.1⟩
theorem pleachlaw8_ClusNear_good : Good tab.ty Try.prog 8 pleachlaw8_ClusNear_e := by
  refine fn_good (Γ := pleachlaw8_ClusNear_Γ) (fi := pleachlaw8_ClusNear_fi) (n := 1099511627776) follows (gcons pleachlaw8_begun_good (gcons pleachmade_Made_good (gcons pleachmade_Picks_Dist_good (gcons pleachref7_Of_good (gcons pleachref1_SameInts_good (gcons pleachref7_Group_good (gcons clus_Leave_good (gcons pleachref7_Home_good (gcons pleachlaw8_less1_good (gcons pleachref7_Near_good (gcons pleachref1_Has_good gnil))))))))))) tabok Try.func8 (by kernel_rfl) (by kernel_rfl) (fun x r h => ?_)
  obtain ⟨arr_0, x_1, x_2, x_3, _u⟩ := x
  exact (pleachlaw8_ClusNear_eq 1099511627776 arr_0 x_1 x_2 x_3).trans h
noncomputable def pleachref7_JoinClus_Γ : Ctx := [(21, pleachref7_Of_e), (31, pleachref7_Rising_e), (32, pleachref7_Home_e), (51, pleachref7_parted_e)]
def pleachref7_JoinClus_fi : Fi := { keep := [], vty := [], vals := [], live := [(0, [0, 1, 2, 3, 4, 26, 27, 28, 29, 32, 33, 34, 35]), (1, [0, 1, 2, 3, 4, 11, 26, 27, 28, 29, 32, 33, 34, 35]), (2, [0, 1, 2, 3, 4, 11, 17, 26, 27, 28, 29, 32, 33, 34, 35]), (3, [10]), (4, [0, 1, 2, 3, 4, 11, 36]), (5, [10]), (6, [0, 2, 4, 11]), (7, [0, 2, 4, 11, 63]), (8, [10]), (9, [10])] }
noncomputable def pleachref7_JoinClus (d_0 : List (List Int)) (cs_1 : List ((List Int) × Int)) (at_2 : Int) (id_3 : Int) (k_4 : Int) : Option (((List ((List Int) × Int)) × Unit) × Unit) :=
 bif Nat.ble (0 + cs_1.length) 1073741824 then
  bif (cs_1.length : Int) == 0 then
   Option.bind (pleachref7_Of d_0 [id_3]) fun (r1 : (((List Int) × Int) × Unit) × Unit) =>
   some (([r1.1.1], ()), ())
  else
  bif decide (at_2 < 0) then
   some (([] ++ cs_1, ()), ())
  else
  bif decide (at_2 ≥ (cs_1.length : Int)) then
   some (([] ++ cs_1, ()), ())
  else
   Option.bind (pleachref7_Home cs_1 id_3) fun (r2 : (Int × Unit) × Unit) =>
   bif decide (r2.1.1 ≥ 0) then
    some (([] ++ cs_1, ()), ())
   else
   bif decide (0 ≤ at_2) && decide (at_2 < (cs_1.length : Int)) then
    bif Nat.ble (0 + ((List.getD cs_1 at_2.toNat ([], 0)).1).length) 1073741824 then
     bif Nat.ble (([] ++ ((List.getD cs_1 at_2.toNat ([], 0)).1)).length + 1) 1073741824 then
      Option.bind (pleachref7_Rising (([] ++ ((List.getD cs_1 at_2.toNat ([], 0)).1)) ++ [id_3])) fun (r3 : ((List Int) × Unit) × Unit) =>
      Option.bind (pleachref7_Of d_0 r3.1.1) fun (r4 : (((List Int) × Int) × Unit) × Unit) =>
      bif decide (0 ≤ at_2) && decide (at_2 < (([] ++ cs_1).length : Int)) then
       bif decide (0 ≤ at_2) && decide (at_2 < (([] ++ cs_1).length : Int)) then
        bif decide (0 ≤ at_2) && decide (at_2 < ((List.set ([] ++ cs_1) at_2.toNat r4.1.1).length : Int)) then
         bif decide (0 ≤ at_2) && decide (at_2 < ((List.set ([] ++ cs_1) at_2.toNat r4.1.1).length : Int)) then
          bif decide ((((List.getD (List.set ([] ++ cs_1) at_2.toNat r4.1.1) at_2.toNat ([], 0)).1).length : Int) > IntKind.wrap .i64 ((IntKind.wrap .i64 (3 * k_4)) - 1)) then
           Option.bind (pleachref7_parted d_0 (List.set ([] ++ cs_1) at_2.toNat r4.1.1) at_2 k_4) fun (r5 : ((List ((List Int) × Int)) × Unit) × Unit) =>
           some ((r5.1.1, ()), ())
          else
           some ((List.set ([] ++ cs_1) at_2.toNat r4.1.1, ()), ())
         else none
        else none
       else none
      else none
     else none
    else none
   else none
 else none
theorem pleachref7_JoinClus_eq (d_0 : List (List Int)) (cs_1 : List ((List Int) × Int)) (at_2 : Int) (id_3 : Int) (k_4 : Int) : evFn pleachref7_JoinClus_Γ tab pleachref7_JoinClus_fi 1 [.val t24, .val t37, .val t2, .val t2, .val t2] [⟨t37, [true], none⟩] Try.f27 (d_0, cs_1, at_2, id_3, k_4, ()) = pleachref7_JoinClus d_0 cs_1 at_2 id_3 k_4 := by kernel_rfl
noncomputable def pleachref7_JoinClus_e : Ent := ⟨[.val t24, .val t37, .val t2, .val t2, .val t2], [⟨t37, [true], none⟩], fun x => pleachref7_JoinClus x.1 x.2.1 x.2.2.1 x.2.2.2.1 x.2.2.2.2.1⟩
theorem pleachref7_JoinClus_good : Good tab.ty Try.prog 27 pleachref7_JoinClus_e := by
  refine fn_good (Γ := pleachref7_JoinClus_Γ) (fi := pleachref7_JoinClus_fi) (n := 1) follows (gcons pleachref7_Of_good (gcons pleachref7_Rising_good (gcons pleachref7_Home_good (gcons pleachref7_parted_good gnil)))) tabok Try.func27 (by kernel_rfl) (by kernel_rfl) (fun x r h => ?_)
  obtain ⟨d_0, cs_1, at_2, id_3, k_4, _u⟩ := x
  exact (pleachref7_JoinClus_eq d_0 cs_1 at_2 id_3 k_4).trans h
noncomputable def pleachref7_LeaveClus_Γ : Ctx := [(29, markE), (21, pleachref7_Of_e), (31, pleachref7_Rising_e), (32, pleachref7_Home_e), (34, pleachref7_Near_e), (48, pleachref7_without_e), (51, pleachref7_parted_e)]
def pleachref7_LeaveClus_fi : Fi := { keep := [], vty := [(12, 28)], vals := [], live := [(0, [0, 1, 2, 3, 53, 54, 55]), (1, [0, 1, 2, 3, 9, 53, 54, 55]), (2, [0, 1, 2, 3, 9, 10, 53, 54, 55]), (3, [0, 1, 2, 3, 9, 10, 22, 53, 54, 55]), (4, [8]), (5, [0, 3, 9, 10, 11, 53, 54, 55]), (6, [0, 3, 9, 10, 11, 33, 53, 54, 55]), (7, [8]), (8, [0, 3, 9, 10, 11, 53, 54, 55]), (9, [0, 3, 9, 10, 11, 56]), (10, [8]), (11, [0, 3, 9, 10, 11, 12]), (12, [0, 3, 9, 10, 11, 12, 13]), (13, [0, 3, 9, 10, 11, 12, 13, 61]), (14, [0, 3, 9, 10, 11, 12, 13]), (15, [0, 3, 9, 10, 11, 12, 13, 66]), (16, [0, 3, 9, 10, 11, 12, 13]), (17, [0, 3, 9, 10, 11, 14]), (18, [0, 3, 9, 10, 14]), (19, [0, 3, 9, 10, 14]), (20, [0, 3, 9, 10, 112]), (21, [0, 3, 9, 10]), (22, [0, 3, 9, 10, 124]), (23, [8]), (24, [8])], melt := [(7, 1000010), (19, 1000010)] }
noncomputable def pleachref7_LeaveClus_B1 (L1 : List (List Int) → Int → Int → Int → (List ((List Int) × Int)) → List Int → List Int → Option (((List ((List Int) × Int)) × Unit) × Unit)) (v6 : List (List Int)) (v7 : Int) (v8 : Int) (v9 : Int) (v10 : List ((List Int) × Int)) (v11 : List Int) (v12 : List Int) : Option (((List ((List Int) × Int)) × Unit) × Unit) :=
 bif decide (v9 < (v10.length : Int)) then
  bif v9 != v8 then
   bif decide (0 ≤ v9) && decide (v9 < (v10.length : Int)) then
    bif decide (0 ≤ v9) && decide (v9 < (v10.length : Int)) then
     bif Nat.ble (v12.length + 1) 1073741824 then
      L1 v6 v7 v8 (IntKind.wrap .i64 (v9 + 1)) v10 v11 (v12 ++ [(List.getD v10 v9.toNat ([], 0)).2])
     else none
    else none
   else none
  else
   L1 v6 v7 v8 (IntKind.wrap .i64 (v9 + 1)) v10 v11 v12
 else
 bif decide (0 ≤ v8) && decide (v8 < (v10.length : Int)) then
  bif decide (0 ≤ v8) && decide (v8 < (v10.length : Int)) then
   Option.bind (pleachref7_Near v6 ((List.getD v10 v8.toNat ([], 0)).2) v12) fun (r13 : (Int × Unit) × Unit) =>
   Option.bind (pleachref7_Home v10 r13.1.1) fun (r14 : (Int × Unit) × Unit) =>
   bif Nat.ble (0 + v11.length) 1073741824 then
    bif decide (0 ≤ r14.1.1) && decide (r14.1.1 < (v10.length : Int)) then
     bif decide (0 ≤ r14.1.1) && decide (r14.1.1 < (v10.length : Int)) then
      bif Nat.ble (([] ++ v11).length + ((List.getD v10 r14.1.1.toNat ([], 0)).1).length) 1073741824 then
       Option.bind (pleachref7_Rising (([] ++ v11) ++ ((List.getD v10 r14.1.1.toNat ([], 0)).1))) fun (r15 : ((List Int) × Unit) × Unit) =>
       Option.bind (pleachref7_Of v6 r15.1.1) fun (r16 : (((List Int) × Int) × Unit) × Unit) =>
       bif decide (0 ≤ v8) && decide (v8 < (v10.length : Int)) then
        bif decide (0 ≤ v8) && decide (v8 < (v10.length : Int)) then
         bif decide (0 ≤ r14.1.1) && decide (r14.1.1 ≤ (((List.map some (List.set v10 v8.toNat r16.1.1)).length : Nat) : Int)) then
          bif Nat.ble (0 + ((r14.1.1 - 0).toNat)) ((List.map some (List.set v10 v8.toNat r16.1.1)).length) then
           Option.bind (allSome (List.take ((r14.1.1 - 0).toNat) (List.drop 0 (List.map some (List.set v10 v8.toNat r16.1.1))))) fun (z17 : List ((List Int) × Int)) =>
           bif Nat.ble (0 + z17.length) 1073741824 then
            bif (decide (0 ≤ IntKind.wrap .i64 (r14.1.1 + 1)) && decide (IntKind.wrap .i64 (r14.1.1 + 1) ≤ (((List.set v10 v8.toNat r16.1.1).length : Nat) : Int))) && decide ((((List.set v10 v8.toNat r16.1.1).length : Nat) : Int) ≤ (((List.map some (List.set v10 v8.toNat r16.1.1)).length : Nat) : Int)) then
            bif Nat.ble ((0 + ((IntKind.wrap .i64 (r14.1.1 + 1)).toNat)) + (((((List.set v10 v8.toNat r16.1.1).length : Nat) : Int) - (IntKind.wrap .i64 (r14.1.1 + 1))).toNat)) ((List.map some (List.set v10 v8.toNat r16.1.1)).length) then
            Option.bind (allSome (List.take (((((List.set v10 v8.toNat r16.1.1).length : Nat) : Int) - (IntKind.wrap .i64 (r14.1.1 + 1))).toNat) (List.drop (0 + ((IntKind.wrap .i64 (r14.1.1 + 1)).toNat)) (List.map some (List.set v10 v8.toNat r16.1.1))))) fun (z18 : List ((List Int) × Int)) =>
            bif Nat.ble ((([] ++ z17).length) + z18.length) 1073741824 then
            bif decide (r14.1.1 < v8) then
            bif decide (0 ≤ IntKind.wrap .i64 (v8 - 1)) && decide (IntKind.wrap .i64 (v8 - 1) < ((([] ++ z17) ++ z18).length : Int)) then
            bif decide (0 ≤ IntKind.wrap .i64 (v8 - 1)) && decide (IntKind.wrap .i64 (v8 - 1) < ((([] ++ z17) ++ z18).length : Int)) then
            bif decide ((((List.getD (([] ++ z17) ++ z18) ((IntKind.wrap .i64 (v8 - 1)).toNat) ([], 0)).1).length : Int) > IntKind.wrap .i64 ((IntKind.wrap .i64 (3 * v7)) - 1)) then
            Option.bind (pleachref7_parted v6 (([] ++ z17) ++ z18) (IntKind.wrap .i64 (v8 - 1)) v7) fun (r19 : ((List ((List Int) × Int)) × Unit) × Unit) =>
            some ((r19.1.1, ()), ())
            else
            some ((([] ++ z17) ++ z18, ()), ())
            else none
            else none
            else
            bif decide (0 ≤ v8) && decide (v8 < ((([] ++ z17) ++ z18).length : Int)) then
            bif decide (0 ≤ v8) && decide (v8 < ((([] ++ z17) ++ z18).length : Int)) then
            bif decide ((((List.getD (([] ++ z17) ++ z18) v8.toNat ([], 0)).1).length : Int) > IntKind.wrap .i64 ((IntKind.wrap .i64 (3 * v7)) - 1)) then
            Option.bind (pleachref7_parted v6 (([] ++ z17) ++ z18) v8 v7) fun (r20 : ((List ((List Int) × Int)) × Unit) × Unit) =>
            some ((r20.1.1, ()), ())
            else
            some ((([] ++ z17) ++ z18, ()), ())
            else none
            else none
            else none
            else none
            else none
           else none
          else none
         else none
        else none
       else none
      else none
     else none
    else none
   else none
  else none
 else none
noncomputable def pleachref7_LeaveClus_T (L1 : List (List Int) → Int → Int → Int → (List ((List Int) × Int)) → List Int → List Int → Option (((List ((List Int) × Int)) × Unit) × Unit)) (arr_0 : List (List Int)) (x_1 : List ((List Int) × Int)) (x_2 : Int) (x_3 : Int) : Option (((List ((List Int) × Int)) × Unit) × Unit) :=
 Option.bind (pleachref7_Home x_1 x_2) fun (r1 : (Int × Unit) × Unit) =>
 bif Nat.ble (0 + x_1.length) 1073741824 then
  bif decide (r1.1.1 < 0) then
   some (([] ++ x_1, ()), ())
  else
  bif decide (0 ≤ r1.1.1) && decide (r1.1.1 < (x_1.length : Int)) then
   Option.bind (pleachref7_without ((List.getD x_1 r1.1.1.toNat ([], 0)).1) x_2) fun (r2 : ((List Int) × Unit) × Unit) =>
   bif (r2.1.1.length : Int) == 0 then
    bif decide (0 ≤ r1.1.1) && decide (r1.1.1 ≤ (((List.map some ([] ++ x_1)).length : Nat) : Int)) then
     bif (decide (0 ≤ IntKind.wrap .i64 (r1.1.1 + 1)) && decide (IntKind.wrap .i64 (r1.1.1 + 1) ≤ ((([] ++ x_1).length : Nat) : Int))) && decide (((([] ++ x_1).length : Nat) : Int) ≤ (((List.map some ([] ++ x_1)).length : Nat) : Int)) then
      bif Nat.ble (0 + ((r1.1.1 - 0).toNat)) ((List.map some ([] ++ x_1)).length) then
       bif Nat.ble ((0 + ((IntKind.wrap .i64 (r1.1.1 + 1)).toNat)) + ((((([] ++ x_1).length : Nat) : Int) - (IntKind.wrap .i64 (r1.1.1 + 1))).toNat)) ((List.map some ([] ++ x_1)).length) then
        Option.bind (allSome (List.take ((((([] ++ x_1).length : Nat) : Int) - (IntKind.wrap .i64 (r1.1.1 + 1))).toNat) (List.drop (0 + ((IntKind.wrap .i64 (r1.1.1 + 1)).toNat)) (List.map some ([] ++ x_1))))) fun (z3 : List ((List Int) × Int)) =>
        bif Nat.ble (((r1.1.1 - 0).toNat) + z3.length) ((List.map some ([] ++ x_1)).length) then
         bif Nat.ble (((r1.1.1 - 0).toNat) + z3.length) ((writeAt (List.map some ([] ++ x_1)) ((r1.1.1 - 0).toNat) z3).length) then
          Option.bind (allSome (List.take (((r1.1.1 - 0).toNat) + z3.length) (writeAt (List.map some ([] ++ x_1)) ((r1.1.1 - 0).toNat) z3))) fun (z4 : List ((List Int) × Int)) =>
          some ((z4, ()), ())
         else none
        else none
       else none
      else none
     else none
    else none
   else
    Option.bind (pleachref7_Of arr_0 r2.1.1) fun (r5 : (((List Int) × Int) × Unit) × Unit) =>
    bif decide (0 ≤ r1.1.1) && decide (r1.1.1 < (([] ++ x_1).length : Int)) then
     bif decide (0 ≤ r1.1.1) && decide (r1.1.1 < (([] ++ x_1).length : Int)) then
      bif decide ((r2.1.1.length : Int) ≥ x_3) then
       some ((List.set ([] ++ x_1) r1.1.1.toNat r5.1.1, ()), ())
      else
      bif ((List.set ([] ++ x_1) r1.1.1.toNat r5.1.1).length : Int) == 1 then
       some ((List.set ([] ++ x_1) r1.1.1.toNat r5.1.1, ()), ())
      else
       L1 arr_0 x_3 r1.1.1 0 (List.set ([] ++ x_1) r1.1.1.toNat r5.1.1) r2.1.1 []
     else none
    else none
  else none
 else none
noncomputable def pleachref7_LeaveClus_L1 (n : Nat) : Nat → List (List Int) → Int → Int → Int → (List ((List Int) × Int)) → List Int → List Int → Option (((List ((List Int) × Int)) × Unit) × Unit) := iter (fun _ _ _ _ _ _ _ => none) fun L => pleachref7_LeaveClus_B1 L
noncomputable def pleachref7_LeaveClus_X1 (n m : Nat) (v6 : List (List Int)) (v7 : Int) (v8 : Int) (v9 : Int) (v10 : List ((List Int) × Int)) (v11 : List Int) (v12 : List Int) : Option (((List ((List Int) × Int)) × Unit) × Unit) :=
 atLoop pleachref7_LeaveClus_Γ tab (fiB [.val t24, .val t37, .val t2, .val t2] pleachref7_LeaveClus_fi) n [.val t24, .val t37, .val t2, .val t2] [⟨t37, [true], none⟩] Try.f29 [1, 1, 1, 1, 1, 1, 1, 1, 1, 0, 1, 0] [] [0, 3, 9, 10, 11, 12, 13] m
 ⟨[(0, SV.cv (CV.one (LV.pure t24 v6))), (3, SV.cv (CV.one (LV.pure t2 v7))), (9, SV.cv (CV.one (LV.pure t2 v8))), (10, SV.cv (CV.one (LV.ref (888888, 10)))), (11, SV.cv (CV.one (LV.ref (888888, 11)))), (12, SV.cv (CV.one (LV.ref (888888, 12)))), (13, SV.cv (CV.one (LV.pure t2 v9)))],
  [((888888, 10), Ob.row 33 t32 v10), ((888888, 11), Ob.row 3 t2 v11), ((888888, 12), Ob.row 3 t2 v12)]⟩
theorem pleachref7_LeaveClus_step1 (n m : Nat) (v6 : List (List Int)) (v7 : Int) (v8 : Int) (v9 : Int) (v10 : List ((List Int) × Int)) (v11 : List Int) (v12 : List Int) : pleachref7_LeaveClus_X1 n (m + 1) v6 v7 v8 v9 v10 v11 v12 = pleachref7_LeaveClus_B1 (pleachref7_LeaveClus_X1 n m) v6 v7 v8 v9 v10 v11 v12 := by kernel_rfl
theorem pleachref7_LeaveClus_start (n : Nat) (arr_0 : List (List Int)) (x_1 : List ((List Int) × Int)) (x_2 : Int) (x_3 : Int) : evFn pleachref7_LeaveClus_Γ tab pleachref7_LeaveClus_fi n [.val t24, .val t37, .val t2, .val t2] [⟨t37, [true], none⟩] Try.f29 (arr_0, x_1, x_2, x_3, ()) = pleachref7_LeaveClus_T (pleachref7_LeaveClus_X1 n n) arr_0 x_1 x_2 x_3 := by kernel_rfl
theorem pleachref7_LeaveClus_XL1 (n : Nat) : ∀ m, pleachref7_LeaveClus_X1 n m = pleachref7_LeaveClus_L1 n m
 | 0 => rfl
 | m + 1 => by
  have ih := pleachref7_LeaveClus_XL1 n m
  funext v6 v7 v8 v9 v10 v11 v12
  rw [pleachref7_LeaveClus_step1, ih]
  rfl
noncomputable def pleachref7_LeaveClus_n (n : Nat) (arr_0 : List (List Int)) (x_1 : List ((List Int) × Int)) (x_2 : Int) (x_3 : Int) : Option (((List ((List Int) × Int)) × Unit) × Unit) := pleachref7_LeaveClus_T (pleachref7_LeaveClus_L1 n n) arr_0 x_1 x_2 x_3
noncomputable def pleachref7_LeaveClus (arr_0 : List (List Int)) (x_1 : List ((List Int) × Int)) (x_2 : Int) (x_3 : Int) : Option (((List ((List Int) × Int)) × Unit) × Unit) := pleachref7_LeaveClus_n 1099511627776 arr_0 x_1 x_2 x_3
theorem pleachref7_LeaveClus_eq (n : Nat) (arr_0 : List (List Int)) (x_1 : List ((List Int) × Int)) (x_2 : Int) (x_3 : Int) : evFn pleachref7_LeaveClus_Γ tab pleachref7_LeaveClus_fi n [.val t24, .val t37, .val t2, .val t2] [⟨t37, [true], none⟩] Try.f29 (arr_0, x_1, x_2, x_3, ()) = pleachref7_LeaveClus_n n arr_0 x_1 x_2 x_3 := by
  rw [pleachref7_LeaveClus_start, pleachref7_LeaveClus_XL1 n n]
  rfl
noncomputable def pleachref7_LeaveClus_e : Ent := ⟨[.val t24, .val t37, .val t2, .val t2], [⟨t37, [true], none⟩], fun x => pleachref7_LeaveClus x.1 x.2.1 x.2.2.1 x.2.2.2.1⟩
theorem pleachref7_LeaveClus_good : Good tab.ty Try.prog 29 pleachref7_LeaveClus_e := by
  refine fn_good (Γ := pleachref7_LeaveClus_Γ) (fi := pleachref7_LeaveClus_fi) (n := 1099511627776) follows (gcons (gmark Try.func29 (by kernel_rfl) (by kernel_rfl)) (gcons pleachref7_Of_good (gcons pleachref7_Rising_good (gcons pleachref7_Home_good (gcons pleachref7_Near_good (gcons pleachref7_without_good (gcons pleachref7_parted_good gnil))))))) tabok Try.func29 (by kernel_rfl) (by kernel_rfl) (fun x r h => ?_)
  obtain ⟨arr_0, x_1, x_2, x_3, _u⟩ := x
  exact (pleachref7_LeaveClus_eq 1099511627776 arr_0 x_1 x_2 x_3).trans h
noncomputable def slices_Equal_int_Γ : Ctx := []
def slices_Equal_int_fi : Fi := { keep := [], vty := [], vals := [], live := [(0, [0, 1]), (1, [0, 1, 10]), (2, [4]), (3, [0, 1, 12, 13]), (4, [0, 1, 12, 13, 14]), (5, [0, 1, 5, 12, 13]), (6, [0, 1, 12, 13, 24]), (7, [4]), (8, [0, 1, 12, 13]), (9, [4])] }
noncomputable def slices_Equal_int_B1 (L1 : List Int → List Int → Int → Int → Option ((Bool × Unit) × Unit)) (v1 : List Int) (v2 : List Int) (v3 : Int) (v4 : Int) : Option ((Bool × Unit) × Unit) :=
 bif decide (v4 < v3) then
  bif decide (0 ≤ v4) && decide (v4 < (v1.length : Int)) then
   bif decide (0 ≤ v4) && decide (v4 < (v2.length : Int)) then
    bif (List.getD v1 v4.toNat 0) != (List.getD v2 v4.toNat 0) then
     some ((false, ()), ())
    else
     L1 v1 v2 v3 (IntKind.wrap .i64 (v4 + 1))
   else none
  else none
 else
  some ((true, ()), ())
noncomputable def slices_Equal_int_T (L1 : List Int → List Int → Int → Int → Option ((Bool × Unit) × Unit)) (s1_0 : List Int) (s2_1 : List Int) : Option ((Bool × Unit) × Unit) :=
 bif (s1_0.length : Int) != (s2_1.length : Int) then
  some ((false, ()), ())
 else
  L1 s1_0 s2_1 (s1_0.length : Int) 0
noncomputable def slices_Equal_int_L1 (n : Nat) : Nat → List Int → List Int → Int → Int → Option ((Bool × Unit) × Unit) := iter (fun _ _ _ _ => none) fun L => slices_Equal_int_B1 L
noncomputable def slices_Equal_int_X1 (n m : Nat) (v1 : List Int) (v2 : List Int) (v3 : Int) (v4 : Int) : Option ((Bool × Unit) × Unit) :=
 atLoop slices_Equal_int_Γ tab (fiB [.val t28, .val t28] slices_Equal_int_fi) n [.val t28, .val t28] [⟨t4, [false], none⟩] Try.f97 [1, 1, 0, 1, 0] [] [0, 1, 12, 13] m
 ⟨[(0, SV.cv (CV.one (LV.pure t28 v1))), (1, SV.cv (CV.one (LV.pure t28 v2))), (12, SV.cv (CV.one (LV.pure t2 v3))), (13, SV.cv (CV.one (LV.pure t2 v4)))],
  []⟩
theorem slices_Equal_int_step1 (n m : Nat) (v1 : List Int) (v2 : List Int) (v3 : Int) (v4 : Int) : slices_Equal_int_X1 n (m + 1) v1 v2 v3 v4 = slices_Equal_int_B1 (slices_Equal_int_X1 n m) v1 v2 v3 v4 := by kernel_rfl
theorem slices_Equal_int_start (n : Nat) (s1_0 : List Int) (s2_1 : List Int) : evFn slices_Equal_int_Γ tab slices_Equal_int_fi n [.val t28, .val t28] [⟨t4, [false], none⟩] Try.f97 (s1_0, s2_1, ()) = slices_Equal_int_T (slices_Equal_int_X1 n n) s1_0 s2_1 := by kernel_rfl
theorem slices_Equal_int_XL1 (n : Nat) : ∀ m, slices_Equal_int_X1 n m = slices_Equal_int_L1 n m
 | 0 => rfl
 | m + 1 => by
  have ih := slices_Equal_int_XL1 n m
  funext v1 v2 v3 v4
  rw [slices_Equal_int_step1, ih]
  rfl
noncomputable def slices_Equal_int_n (n : Nat) (s1_0 : List Int) (s2_1 : List Int) : Option ((Bool × Unit) × Unit) := slices_Equal_int_T (slices_Equal_int_L1 n n) s1_0 s2_1
noncomputable def slices_Equal_int (s1_0 : List Int) (s2_1 : List Int) : Option ((Bool × Unit) × Unit) := slices_Equal_int_n 1099511627776 s1_0 s2_1
theorem slices_Equal_int_eq (n : Nat) (s1_0 : List Int) (s2_1 : List Int) : evFn slices_Equal_int_Γ tab slices_Equal_int_fi n [.val t28, .val t28] [⟨t4, [false], none⟩] Try.f97 (s1_0, s2_1, ()) = slices_Equal_int_n n s1_0 s2_1 := by
  rw [slices_Equal_int_start, slices_Equal_int_XL1 n n]
  rfl
noncomputable def slices_Equal_int_e : Ent := ⟨[.val t28, .val t28], [⟨t4, [false], none⟩], fun x => slices_Equal_int x.1 x.2.1⟩
theorem slices_Equal_int_good : Good tab.ty Try.prog 97 slices_Equal_int_e := by
  refine fn_good (Γ := slices_Equal_int_Γ) (fi := slices_Equal_int_fi) (n := 1099511627776) follows gnil tabok Try.func97 (by kernel_rfl) (by kernel_rfl) (fun x r h => ?_)
  obtain ⟨s1_0, s2_1, _u⟩ := x
  exact (slices_Equal_int_eq 1099511627776 s1_0 s2_1).trans h
end Go.PE
