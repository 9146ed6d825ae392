/-
  Functions of the program, each as the evaluator answers it, and its contract.
  Conditions: none.
-/
import Derived.Test.YtemajkklbjdmjaaClusSizesF1
set_option linter.unusedVariables false
set_option maxRecDepth 100000
namespace Go.PE
open Go.Proofs

noncomputable def pleachlaw8_ClusSizes_Γ : Ctx := [(14, pleachlaw8_begun_e), (15, pleachmade_Made_e), (16, pleachmade_Picks_Dist_e), (26, clus_Join_e), (28, clus_Leave_e), (30, pleachref7_Mid_e)]
def pleachlaw8_ClusSizes_fi : Fi := { keep := [], vty := [(9, 37)], vals := [], live := [(0, [0, 1, 2, 26, 27, 28, 109, 110, 111, 112, 113, 114, 117, 118, 119, 120, 121, 122, 123, 124, 125, 128, 129, 130, 131, 132, 133, 134, 135, 136, 150, 151, 152, 153, 154, 157, 158, 159, 160, 161, 162, 163, 166, 167, 168, 169, 170, 171, 174, 175, 176, 177, 178, 179, 180, 181, 182, 183, 184, 185, 186, 187]), (1, [0, 1, 2, 21, 26, 27, 28, 109, 110, 111, 112, 113, 114, 117, 118, 119, 120, 121, 122, 123, 124, 125, 128, 129, 130, 131, 132, 133, 134, 135, 136, 150, 151, 152, 153, 154, 157, 158, 159, 160, 161, 162, 163, 166, 167, 168, 169, 170, 171, 174, 175, 176, 177, 178, 179, 180, 181, 182, 183, 184, 185, 186, 187]), (2, [6]), (3, [0, 1, 2, 29, 109, 110, 111, 112, 113, 114, 117, 118, 119, 120, 121, 122, 123, 124, 125, 128, 129, 130, 131, 132, 133, 134, 135, 136, 150, 151, 152, 153, 154, 157, 158, 159, 160, 161, 162, 163, 166, 167, 168, 169, 170, 171, 174, 175, 176, 177, 178, 179, 180, 181, 182, 183, 184, 185, 186, 187]), (4, [6]), (5, [1, 2, 7, 109, 110, 111, 112, 113, 114, 117, 118, 119, 120, 121, 122, 123, 124, 125, 128, 129, 130, 131, 132, 133, 134, 135, 136, 150, 151, 152, 153, 154, 157, 158, 159, 160, 161, 162, 163, 166, 167, 168, 169, 170, 171, 174, 175, 176, 177, 178, 179, 180, 181, 182, 183, 184, 185, 186, 187]), (6, [1, 7, 8, 109, 110, 111, 112, 113, 114, 117, 118, 119, 120, 121, 122, 123, 124, 125, 128, 129, 130, 131, 132, 133, 134, 135, 136, 150, 151, 152, 153, 154, 157, 158, 159, 160, 161, 162, 163, 166, 167, 168, 169, 170, 171, 174, 175, 176, 177, 178, 179, 180, 181, 182, 183, 184, 185, 186, 187]), (7, [1, 7, 8, 9, 109, 110, 111, 112, 113, 114, 117, 118, 119, 120, 121, 122, 123, 124, 125, 128, 129, 130, 131, 132, 133, 134, 135, 136, 150, 151, 152, 153, 154, 157, 158, 159, 160, 161, 162, 163, 166, 167, 168, 169, 170, 171, 174, 175, 176, 177, 178, 179, 180, 181, 182, 183, 184, 185, 186, 187]), (8, [1, 7, 8, 9, 10, 109, 110, 111, 112, 113, 114, 117, 118, 119, 120, 121, 122, 123, 124, 125, 128, 129, 130, 131, 132, 133, 134, 135, 136, 150, 151, 152, 153, 154, 157, 158, 159, 160, 161, 162, 163, 166, 167, 168, 169, 170, 171, 174, 175, 176, 177, 178, 179, 180, 181, 182, 183, 184, 185, 186, 187]), (9, [1, 7, 8, 9, 10, 11, 109, 110, 111, 112, 113, 114, 117, 118, 119, 120, 121, 122, 123, 124, 125, 128, 129, 130, 131, 132, 133, 134, 135, 136, 150, 151, 152, 153, 154, 157, 158, 159, 160, 161, 162, 163, 166, 167, 168, 169, 170, 171, 174, 175, 176, 177, 178, 179, 180, 181, 182, 183, 184, 185, 186, 187]), (10, [1, 7, 8, 9, 10, 11, 12, 109, 110, 111, 112, 113, 114, 117, 118, 119, 120, 121, 122, 123, 124, 125, 128, 129, 130, 131, 132, 133, 134, 135, 136, 150, 151, 152, 153, 154, 157, 158, 159, 160, 161, 162, 163, 166, 167, 168, 169, 170, 171, 174, 175, 176, 177, 178, 179, 180, 181, 182, 183, 184, 185, 186, 187]), (11, [1, 7, 8, 9, 10, 11, 12, 40, 109, 110, 111, 112, 113, 114, 117, 118, 119, 120, 121, 122, 123, 124, 125, 128, 129, 130, 131, 132, 133, 134, 135, 136, 150, 151, 152, 153, 154, 157, 158, 159, 160, 161, 162, 163, 166, 167, 168, 169, 170, 171, 174, 175, 176, 177, 178, 179, 180, 181, 182, 183, 184, 185, 186, 187]), (12, [1, 7, 8, 9, 10, 11, 12, 109, 110, 111, 112, 113, 114, 117, 118, 119, 120, 121, 122, 123, 124, 125, 128, 129, 130, 131, 132, 133, 134, 135, 136, 150, 151, 152, 153, 154, 157, 158, 159, 160, 161, 162, 163, 166, 167, 168, 169, 170, 171, 174, 175, 176, 177, 178, 179, 180, 181, 182, 183, 184, 185, 186, 187]), (13, [1, 7, 8, 9, 10, 11, 12, 13, 109, 110, 111, 112, 113, 114, 117, 118, 119, 120, 121, 122, 123, 124, 125, 128, 129, 130, 131, 132, 133, 134, 135, 136, 150, 151, 152, 153, 154, 157, 158, 159, 160, 161, 162, 163, 166, 167, 168, 169, 170, 171, 174, 175, 176, 177, 178, 179, 180, 181, 182, 183, 184, 185, 186, 187]), (14, [1, 7, 8, 9, 10, 11, 12, 13, 57, 109, 110, 111, 112, 113, 114, 117, 118, 119, 120, 121, 122, 123, 124, 125, 128, 129, 130, 131, 132, 133, 134, 135, 136, 150, 151, 152, 153, 154, 157, 158, 159, 160, 161, 162, 163, 166, 167, 168, 169, 170, 171, 174, 175, 176, 177, 178, 179, 180, 181, 182, 183, 184, 185, 186, 187]), (15, [1, 7, 8, 9, 10, 11, 12, 13, 14, 109, 110, 111, 112, 113, 114, 117, 118, 119, 120, 121, 122, 123, 124, 125, 128, 129, 130, 131, 132, 133, 134, 135, 136, 150, 151, 152, 153, 154, 157, 158, 159, 160, 161, 162, 163, 166, 167, 168, 169, 170, 171, 174, 175, 176, 177, 178, 179, 180, 181, 182, 183, 184, 185, 186, 187]), (16, [1, 7, 8, 9, 10, 11, 12, 13, 109, 110, 111, 112, 113, 114, 117, 118, 119, 120, 121, 122, 123, 124, 125, 128, 129, 130, 131, 132, 133, 134, 135, 136, 150, 151, 152, 153, 154, 157, 158, 159, 160, 161, 162, 163, 166, 167, 168, 169, 170, 171, 174, 175, 176, 177, 178, 179, 180, 181, 182, 183, 184, 185, 186, 187]), (17, [1, 7, 8, 9, 10, 11, 12, 13, 77, 109, 110, 111, 112, 113, 114, 117, 118, 119, 120, 121, 122, 123, 124, 125, 128, 129, 130, 131, 132, 133, 134, 135, 136, 150, 151, 152, 153, 154, 157, 158, 159, 160, 161, 162, 163, 166, 167, 168, 169, 170, 171, 174, 175, 176, 177, 178, 179, 180, 181, 182, 183, 184, 185, 186, 187]), (18, [1, 7, 8, 9, 10, 11, 12, 13, 109, 110, 111, 112, 113, 114, 117, 118, 119, 120, 121, 122, 123, 124, 125, 128, 129, 130, 131, 132, 133, 134, 135, 136, 150, 151, 152, 153, 154, 157, 158, 159, 160, 161, 162, 163, 166, 167, 168, 169, 170, 171, 174, 175, 176, 177, 178, 179, 180, 181, 182, 183, 184, 185, 186, 187]), (19, [1, 7, 8, 9, 10, 11, 12, 109, 110, 111, 112, 113, 114, 117, 118, 119, 120, 121, 122, 123, 124, 125, 128, 129, 130, 131, 132, 133, 134, 135, 136, 150, 151, 152, 153, 154, 157, 158, 159, 160, 161, 162, 163, 166, 167, 168, 169, 170, 171, 174, 175, 176, 177, 178, 179, 180, 181, 182, 183, 184, 185, 186, 187]), (20, [1, 7, 8, 9, 10, 11, 12, 13, 109, 110, 111, 112, 113, 114, 117, 118, 119, 120, 121, 122, 123, 124, 125, 128, 129, 130, 131, 132, 133, 134, 135, 136, 150, 151, 152, 153, 154, 157, 158, 159, 160, 161, 162, 163, 166, 167, 168, 169, 170, 171, 174, 175, 176, 177, 178, 179, 180, 181, 182, 183, 184, 185, 186, 187]), (21, [1, 7, 8, 9, 10, 11, 12, 13, 89, 109, 110, 111, 112, 113, 114, 117, 118, 119, 120, 121, 122, 123, 124, 125, 128, 129, 130, 131, 132, 133, 134, 135, 136, 150, 151, 152, 153, 154, 157, 158, 159, 160, 161, 162, 163, 166, 167, 168, 169, 170, 171, 174, 175, 176, 177, 178, 179, 180, 181, 182, 183, 184, 185, 186, 187]), (22, [1, 7, 8, 9, 10, 11, 12, 13, 109, 110, 111, 112, 113, 114, 117, 118, 119, 120, 121, 122, 123, 124, 125, 128, 129, 130, 131, 132, 133, 134, 135, 136, 150, 151, 152, 153, 154, 157, 158, 159, 160, 161, 162, 163, 166, 167, 168, 169, 170, 171, 174, 175, 176, 177, 178, 179, 180, 181, 182, 183, 184, 185, 186, 187]), (23, [1, 7, 8, 9, 10, 11, 12, 109, 110, 111, 112, 113, 114, 117, 118, 119, 120, 121, 122, 123, 124, 125, 128, 129, 130, 131, 132, 133, 134, 135, 136, 150, 151, 152, 153, 154, 157, 158, 159, 160, 161, 162, 163, 166, 167, 168, 169, 170, 171, 174, 175, 176, 177, 178, 179, 180, 181, 182, 183, 184, 185, 186, 187]), (24, [1, 7, 8, 9, 10, 11, 12, 15, 109, 110, 111, 112, 113, 114, 117, 118, 119, 120, 121, 122, 123, 124, 125, 128, 129, 130, 131, 132, 133, 134, 135, 136, 150, 151, 152, 153, 154, 157, 158, 159, 160, 161, 162, 163, 166, 167, 168, 169, 170, 171, 174, 175, 176, 177, 178, 179, 180, 181, 182, 183, 184, 185, 186, 187]), (25, [1, 7, 8, 9, 10, 11, 12, 15, 16, 109, 110, 111, 112, 113, 114, 117, 118, 119, 120, 121, 122, 123, 124, 125, 128, 129, 130, 131, 132, 133, 134, 135, 136, 150, 151, 152, 153, 154, 157, 158, 159, 160, 161, 162, 163, 166, 167, 168, 169, 170, 171, 174, 175, 176, 177, 178, 179, 180, 181, 182, 183, 184, 185, 186, 187]), (26, [1, 7, 8, 9, 10, 11, 12, 15, 16, 17, 109, 110, 111, 112, 113, 114, 117, 118, 119, 120, 121, 122, 123, 124, 125, 128, 129, 130, 131, 132, 133, 134, 135, 136, 150, 151, 152, 153, 154, 157, 158, 159, 160, 161, 162, 163, 166, 167, 168, 169, 170, 171, 174, 175, 176, 177, 178, 179, 180, 181, 182, 183, 184, 185, 186, 187]), (27, [1, 7, 8, 9, 10, 11, 12, 15, 16, 17, 97, 109, 110, 111, 112, 113, 114, 117, 118, 119, 120, 121, 122, 123, 124, 125, 128, 129, 130, 131, 132, 133, 134, 135, 136, 150, 151, 152, 153, 154, 157, 158, 159, 160, 161, 162, 163, 166, 167, 168, 169, 170, 171, 174, 175, 176, 177, 178, 179, 180, 181, 182, 183, 184, 185, 186, 187]), (28, [1, 7, 8, 9, 10, 11, 12, 15, 16, 17, 109, 110, 111, 112, 113, 114, 117, 118, 119, 120, 121, 122, 123, 124, 125, 128, 129, 130, 131, 132, 133, 134, 135, 136, 150, 151, 152, 153, 154, 157, 158, 159, 160, 161, 162, 163, 166, 167, 168, 169, 170, 171, 174, 175, 176, 177, 178, 179, 180, 181, 182, 183, 184, 185, 186, 187]), (29, [1, 7, 8, 9, 10, 11, 12, 15, 16, 17, 18, 109, 110, 111, 112, 113, 114, 117, 118, 119, 120, 121, 122, 123, 124, 125, 128, 129, 130, 131, 132, 133, 134, 135, 136, 150, 151, 152, 153, 154, 157, 158, 159, 160, 161, 162, 163, 166, 167, 168, 169, 170, 171, 174, 175, 176, 177, 178, 179, 180, 181, 182, 183, 184, 185, 186, 187]), (30, [1, 7, 8, 9, 10, 11, 12, 15, 16, 17, 18, 109, 110, 111, 112, 113, 114, 117, 118, 119, 120, 121, 122, 123, 124, 125, 128, 129, 130, 131, 132, 133, 134, 135, 136, 137, 150, 151, 152, 153, 154, 157, 158, 159, 160, 161, 162, 163, 166, 167, 168, 169, 170, 171, 174, 175, 176, 177, 178, 179, 180, 181, 182, 183, 184, 185, 186, 187]), (31, [6]), (32, [1, 7, 8, 9, 10, 11, 12, 15, 16, 17, 18, 19, 109, 110, 111, 112, 113, 114, 117, 118, 119, 120, 121, 122, 123, 124, 125, 128, 129, 130, 131, 132, 133, 134, 135, 136, 150, 151, 152, 153, 154, 157, 158, 159, 160, 161, 162, 163, 166, 167, 168, 169, 170, 171, 174, 175, 176, 177, 178, 179, 180, 181, 182, 183, 184, 185, 186, 187]), (33, [1, 7, 8, 9, 10, 11, 12, 15, 16, 17, 18, 19, 109, 110, 111, 112, 113, 114, 117, 118, 119, 120, 121, 122, 123, 124, 125, 128, 129, 130, 131, 132, 133, 134, 135, 136, 141, 150, 151, 152, 153, 154, 157, 158, 159, 160, 161, 162, 163, 166, 167, 168, 169, 170, 171, 174, 175, 176, 177, 178, 179, 180, 181, 182, 183, 184, 185, 186, 187]), (34, [1, 7, 8, 9, 10, 11, 12, 15, 16, 17, 18, 19, 109, 110, 111, 112, 113, 114, 117, 118, 119, 120, 121, 122, 123, 124, 125, 128, 129, 130, 131, 132, 133, 134, 135, 136, 150, 151, 152, 153, 154, 157, 158, 159, 160, 161, 162, 163, 166, 167, 168, 169, 170, 171, 174, 175, 176, 177, 178, 179, 180, 181, 182, 183, 184, 185, 186, 187]), (35, [1, 7, 8, 9, 10, 11, 12, 15, 16, 17, 18, 19, 109, 110, 111, 112, 113, 114, 117, 118, 119, 120, 121, 122, 123, 124, 125, 128, 129, 130, 131, 132, 133, 134, 135, 136, 150, 151, 152, 153, 154, 157, 158, 159, 160, 161, 162, 163, 166, 167, 168, 169, 170, 171, 174, 175, 176, 177, 178, 179, 180, 181, 182, 183, 184, 185, 186, 187, 188]), (36, [6]), (37, [1, 7, 8, 9, 10, 11, 12, 15, 16, 17, 18, 19, 109, 110, 111, 112, 113, 114, 117, 118, 119, 120, 121, 122, 123, 124, 125, 128, 129, 130, 131, 132, 133, 134, 135, 136, 150, 151, 152, 153, 154, 157, 158, 159, 160, 161, 162, 163, 166, 167, 168, 169, 170, 171, 174, 175, 176, 177, 178, 179, 180, 181, 182, 183, 184, 185, 186, 187]), (38, [1, 7, 8, 9, 10, 11, 12, 15, 16, 17, 18, 19, 109, 110, 111, 112, 113, 114, 117, 118, 119, 120, 121, 122, 123, 124, 125, 128, 129, 130, 131, 132, 133, 134, 135, 136, 150, 151, 152, 153, 154, 157, 158, 159, 160, 161, 162, 163, 166, 167, 168, 169, 170, 171, 174, 175, 176, 177, 178, 179, 180, 181, 182, 183, 184, 185, 186, 187]), (39, [1, 7, 8, 9, 10, 11, 12, 109, 110, 111, 112, 113, 114, 117, 118, 119, 120, 121, 122, 123, 124, 125, 128, 129, 130, 131, 132, 133, 134, 135, 136, 150, 151, 152, 153, 154, 157, 158, 159, 160, 161, 162, 163, 166, 167, 168, 169, 170, 171, 174, 175, 176, 177, 178, 179, 180, 181, 182, 183, 184, 185, 186, 187, 198]), (40, [6]), (41, [6])] }
noncomputable def pleachlaw8_ClusSizes_B1 (L2 : (List (Int × Int × Int)) → List (List Int) → Int → (List ((List Int) × Int)) → Int → Int → Int → Int → List Bool → List Bool → Option ((Bool × Unit) × Unit)) (v4 : List (Int × Int × Int)) (v5 : Int) (v6 : Int) (v7 : Int) (v8 : List (List Int)) (v9 : List ((List Int) × Int)) (v10 : List Bool) : Option ((Bool × Unit) × Unit) :=
 bif decide (v7 < (v4.length : Int)) then
  bif decide (0 ≤ v7) && decide (v7 < (v4.length : Int)) then
   bif decide (0 ≤ v7) && decide (v7 < (v4.length : Int)) then
    bif decide (Int.tmod (((List.getD v4 v7.toNat (0, 0, 0)).2).2) 3 > 0) then
     bif decide (0 ≤ v7) && decide (v7 < (v4.length : Int)) then
      bif !((if 1 > (v9.length : Int) then 1 else (v9.length : Int)) == 0) then
       Option.bind (clus_Join v8 v9 (Int.tmod (IntKind.wrap .i64 (((List.getD v4 v7.toNat (0, 0, 0)).2).1)) (if 1 > (v9.length : Int) then 1 else (v9.length : Int))) (IntKind.wrap .i64 (1 + (IntKind.wrap .i64 (Int.tmod ((List.getD v4 v7.toNat (0, 0, 0)).1) 8)))) v5) fun (r11 : ((List ((List Int) × Int)) × Unit) × Unit) =>
       bif (decide (0 ≤ IntKind.wrap .i64 (1 + (IntKind.wrap .i64 (Int.tmod ((List.getD v4 v7.toNat (0, 0, 0)).1) 8)))) && decide (IntKind.wrap .i64 (1 + (IntKind.wrap .i64 (Int.tmod ((List.getD v4 v7.toNat (0, 0, 0)).1) 8))) < 9)) && decide (IntKind.wrap .i64 (1 + (IntKind.wrap .i64 (Int.tmod ((List.getD v4 v7.toNat (0, 0, 0)).1) 8))) < (v10.length : Int)) then
        bif decide (0 ≤ IntKind.wrap .i64 (1 + (IntKind.wrap .i64 (Int.tmod ((List.getD v4 v7.toNat (0, 0, 0)).1) 8)))) && decide (IntKind.wrap .i64 (1 + (IntKind.wrap .i64 (Int.tmod ((List.getD v4 v7.toNat (0, 0, 0)).1) 8))) < (v10.length : Int)) then
         bif !(List.getD v10 ((IntKind.wrap .i64 (1 + (IntKind.wrap .i64 (Int.tmod ((List.getD v4 v7.toNat (0, 0, 0)).1) 8)))).toNat) false) then
          bif (decide (0 ≤ IntKind.wrap .i64 (1 + (IntKind.wrap .i64 (Int.tmod ((List.getD v4 v7.toNat (0, 0, 0)).1) 8)))) && decide (IntKind.wrap .i64 (1 + (IntKind.wrap .i64 (Int.tmod ((List.getD v4 v7.toNat (0, 0, 0)).1) 8))) < 9)) && decide (IntKind.wrap .i64 (1 + (IntKind.wrap .i64 (Int.tmod ((List.getD v4 v7.toNat (0, 0, 0)).1) 8))) < (v10.length : Int)) then
           bif decide (0 ≤ IntKind.wrap .i64 (1 + (IntKind.wrap .i64 (Int.tmod ((List.getD v4 v7.toNat (0, 0, 0)).1) 8)))) && decide (IntKind.wrap .i64 (1 + (IntKind.wrap .i64 (Int.tmod ((List.getD v4 v7.toNat (0, 0, 0)).1) 8))) < (v10.length : Int)) then
            L2 v4 v8 v5 r11.1.1 (IntKind.wrap .i64 (v6 + 1)) v7 0 0 (List.set v10 ((IntKind.wrap .i64 (1 + (IntKind.wrap .i64 (Int.tmod ((List.getD v4 v7.toNat (0, 0, 0)).1) 8)))).toNat) true) (List.replicate 9 false)
           else none
          else none
         else
         bif (decide (0 ≤ IntKind.wrap .i64 (1 + (IntKind.wrap .i64 (Int.tmod ((List.getD v4 v7.toNat (0, 0, 0)).1) 8)))) && decide (IntKind.wrap .i64 (1 + (IntKind.wrap .i64 (Int.tmod ((List.getD v4 v7.toNat (0, 0, 0)).1) 8))) < 9)) && decide (IntKind.wrap .i64 (1 + (IntKind.wrap .i64 (Int.tmod ((List.getD v4 v7.toNat (0, 0, 0)).1) 8))) < (v10.length : Int)) then
          bif decide (0 ≤ IntKind.wrap .i64 (1 + (IntKind.wrap .i64 (Int.tmod ((List.getD v4 v7.toNat (0, 0, 0)).1) 8)))) && decide (IntKind.wrap .i64 (1 + (IntKind.wrap .i64 (Int.tmod ((List.getD v4 v7.toNat (0, 0, 0)).1) 8))) < (v10.length : Int)) then
           L2 v4 v8 v5 r11.1.1 v6 v7 0 0 (List.set v10 ((IntKind.wrap .i64 (1 + (IntKind.wrap .i64 (Int.tmod ((List.getD v4 v7.toNat (0, 0, 0)).1) 8)))).toNat) true) (List.replicate 9 false)
          else none
         else none
        else none
       else none
      else none
     else none
    else
     Option.bind (clus_Leave v8 v9 (IntKind.wrap .i64 (1 + (IntKind.wrap .i64 (Int.tmod ((List.getD v4 v7.toNat (0, 0, 0)).1) 8)))) v5) fun (r181 : ((List ((List Int) × Int)) × Unit) × Unit) =>
     bif (decide (0 ≤ IntKind.wrap .i64 (1 + (IntKind.wrap .i64 (Int.tmod ((List.getD v4 v7.toNat (0, 0, 0)).1) 8)))) && decide (IntKind.wrap .i64 (1 + (IntKind.wrap .i64 (Int.tmod ((List.getD v4 v7.toNat (0, 0, 0)).1) 8))) < 9)) && decide (IntKind.wrap .i64 (1 + (IntKind.wrap .i64 (Int.tmod ((List.getD v4 v7.toNat (0, 0, 0)).1) 8))) < (v10.length : Int)) then
      bif decide (0 ≤ IntKind.wrap .i64 (1 + (IntKind.wrap .i64 (Int.tmod ((List.getD v4 v7.toNat (0, 0, 0)).1) 8)))) && decide (IntKind.wrap .i64 (1 + (IntKind.wrap .i64 (Int.tmod ((List.getD v4 v7.toNat (0, 0, 0)).1) 8))) < (v10.length : Int)) then
       bif List.getD v10 ((IntKind.wrap .i64 (1 + (IntKind.wrap .i64 (Int.tmod ((List.getD v4 v7.toNat (0, 0, 0)).1) 8)))).toNat) false then
        bif (decide (0 ≤ IntKind.wrap .i64 (1 + (IntKind.wrap .i64 (Int.tmod ((List.getD v4 v7.toNat (0, 0, 0)).1) 8)))) && decide (IntKind.wrap .i64 (1 + (IntKind.wrap .i64 (Int.tmod ((List.getD v4 v7.toNat (0, 0, 0)).1) 8))) < 9)) && decide (IntKind.wrap .i64 (1 + (IntKind.wrap .i64 (Int.tmod ((List.getD v4 v7.toNat (0, 0, 0)).1) 8))) < (v10.length : Int)) then
         bif decide (0 ≤ IntKind.wrap .i64 (1 + (IntKind.wrap .i64 (Int.tmod ((List.getD v4 v7.toNat (0, 0, 0)).1) 8)))) && decide (IntKind.wrap .i64 (1 + (IntKind.wrap .i64 (Int.tmod ((List.getD v4 v7.toNat (0, 0, 0)).1) 8))) < (v10.length : Int)) then
          L2 v4 v8 v5 r181.1.1 (IntKind.wrap .i64 (v6 - 1)) v7 0 0 (List.set v10 ((IntKind.wrap .i64 (1 + (IntKind.wrap .i64 (Int.tmod ((List.getD v4 v7.toNat (0, 0, 0)).1) 8)))).toNat) false) (List.replicate 9 false)
         else none
        else none
       else
       bif (decide (0 ≤ IntKind.wrap .i64 (1 + (IntKind.wrap .i64 (Int.tmod ((List.getD v4 v7.toNat (0, 0, 0)).1) 8)))) && decide (IntKind.wrap .i64 (1 + (IntKind.wrap .i64 (Int.tmod ((List.getD v4 v7.toNat (0, 0, 0)).1) 8))) < 9)) && decide (IntKind.wrap .i64 (1 + (IntKind.wrap .i64 (Int.tmod ((List.getD v4 v7.toNat (0, 0, 0)).1) 8))) < (v10.length : Int)) then
        bif decide (0 ≤ IntKind.wrap .i64 (1 + (IntKind.wrap .i64 (Int.tmod ((List.getD v4 v7.toNat (0, 0, 0)).1) 8)))) && decide (IntKind.wrap .i64 (1 + (IntKind.wrap .i64 (Int.tmod ((List.getD v4 v7.toNat (0, 0, 0)).1) 8))) < (v10.length : Int)) then
         L2 v4 v8 v5 r181.1.1 v6 v7 0 0 (List.set v10 ((IntKind.wrap .i64 (1 + (IntKind.wrap .i64 (Int.tmod ((List.getD v4 v7.toNat (0, 0, 0)).1) 8)))).toNat) false) (List.replicate 9 false)
        else none
       else none
      else none
     else none
   else none
  else none
 else
  some ((true, ()), ())
noncomputable def pleachlaw8_ClusSizes_B2 (L3 : (List (Int × Int × Int)) → List (List Int) → Int → (List ((List Int) × Int)) → Int → Int → Int → Int → List Int → Int → List Int → Int → Int → Int → Int → Bool → (List ((List Int) × Int)) → Int → Bool → Bool → List Int → Int → Int → Bool → Bool → (List ((List Int) × Int)) → Int → ((List Int) × Int) → Int → Int → List (List Int) → List Int → Int → Bool → List Bool → List Bool → Option ((Bool × Unit) × Unit)) (L4 : (List (Int × Int × Int)) → List (List Int) → Int → (List ((List Int) × Int)) → Int → Int → Int → Int → List Int → Int → List Int → Int → Int → Int → Int → Bool → (List ((List Int) × Int)) → Int → Bool → Bool → Bool → (List ((List Int) × Int)) → Int → ((List Int) × Int) → Int → Int → List (List Int) → List Int → Int → Bool → List Bool → List Bool → Option ((Bool × Unit) × Unit)) (L5 : (List (Int × Int × Int)) → List (List Int) → Int → (List ((List Int) × Int)) → Int → Int → List Bool → Option ((Bool × Unit) × Unit)) (v12 : List (Int × Int × Int)) (v13 : List (List Int)) (v14 : Int) (v15 : List ((List Int) × Int)) (v16 : Int) (v17 : Int) (v18 : Int) (v19 : Int) (v20 : List Bool) (v21 : List Bool) : Option ((Bool × Unit) × Unit) :=
 bif decide (v19 < (v15.length : Int)) then
  bif decide (0 ≤ v19) && decide (v19 < (v15.length : Int)) then
   bif decide ((((List.getD v15 v19.toNat ([], 0)).1).length : Int) < 1) then
    some ((false, ()), ())
   else
   bif decide ((((List.getD v15 v19.toNat ([], 0)).1).length : Int) > IntKind.wrap .i64 ((IntKind.wrap .i64 (3 * v14)) - 1)) then
    some ((false, ()), ())
   else
   bif decide ((v15.length : Int) > 1) then
    bif decide ((((List.getD v15 v19.toNat ([], 0)).1).length : Int) < v14) then
     some ((false, ()), ())
    else
    bif decide (0 ≤ v19) && decide (v19 < (v15.length : Int)) then
     Option.bind (pleachref7_Mid v13 ((List.getD v15 v19.toNat ([], 0)).1)) fun (r22 : (Int × Unit) × Unit) =>
     bif ((List.getD v15 v19.toNat ([], 0)).2) != r22.1.1 then
      some ((false, ()), ())
     else
      L3 v12 v13 v14 v15 v16 v17 v18 v19 ((List.getD v15 v19.toNat ([], 0)).1) 0 ((List.getD v15 v19.toNat ([], 0)).1) (((List.getD v15 v19.toNat ([], 0)).1).length : Int) v14 (IntKind.wrap .i64 (3 * v14)) (IntKind.wrap .i64 ((IntKind.wrap .i64 (3 * v14)) - 1)) (decide ((((List.getD v15 v19.toNat ([], 0)).1).length : Int) > IntKind.wrap .i64 ((IntKind.wrap .i64 (3 * v14)) - 1))) v15 (v15.length : Int) (decide ((v15.length : Int) > 1)) true ((List.getD v15 v19.toNat ([], 0)).1) (((List.getD v15 v19.toNat ([], 0)).1).length : Int) v14 (decide ((((List.getD v15 v19.toNat ([], 0)).1).length : Int) < v14)) (decide ((((List.getD v15 v19.toNat ([], 0)).1).length : Int) < v14)) v15 v19 (List.getD v15 v19.toNat ([], 0)) ((List.getD v15 v19.toNat ([], 0)).2) ((List.getD v15 v19.toNat ([], 0)).2) v13 ((List.getD v15 v19.toNat ([], 0)).1) r22.1.1 (((List.getD v15 v19.toNat ([], 0)).2) != r22.1.1) v20 v21
    else none
   else
   bif decide (0 ≤ v19) && decide (v19 < (v15.length : Int)) then
    Option.bind (pleachref7_Mid v13 ((List.getD v15 v19.toNat ([], 0)).1)) fun (r59 : (Int × Unit) × Unit) =>
    bif ((List.getD v15 v19.toNat ([], 0)).2) != r59.1.1 then
     some ((false, ()), ())
    else
     L4 v12 v13 v14 v15 v16 v17 v18 v19 ((List.getD v15 v19.toNat ([], 0)).1) 0 ((List.getD v15 v19.toNat ([], 0)).1) (((List.getD v15 v19.toNat ([], 0)).1).length : Int) v14 (IntKind.wrap .i64 (3 * v14)) (IntKind.wrap .i64 ((IntKind.wrap .i64 (3 * v14)) - 1)) (decide ((((List.getD v15 v19.toNat ([], 0)).1).length : Int) > IntKind.wrap .i64 ((IntKind.wrap .i64 (3 * v14)) - 1))) v15 (v15.length : Int) (decide ((v15.length : Int) > 1)) false false v15 v19 (List.getD v15 v19.toNat ([], 0)) ((List.getD v15 v19.toNat ([], 0)).2) ((List.getD v15 v19.toNat ([], 0)).2) v13 ((List.getD v15 v19.toNat ([], 0)).1) r59.1.1 (((List.getD v15 v19.toNat ([], 0)).2) != r59.1.1) v20 v21
   else none
  else none
 else
 bif v18 != v16 then
  some ((false, ()), ())
 else
  L5 v12 v13 v14 v15 v16 (IntKind.wrap .i64 (v17 + 1)) v20
noncomputable def pleachlaw8_ClusSizes_B3 (L3 : (List (Int × Int × Int)) → List (List Int) → Int → (List ((List Int) × Int)) → Int → Int → Int → Int → List Int → Int → List Int → Int → Int → Int → Int → Bool → (List ((List Int) × Int)) → Int → Bool → Bool → List Int → Int → Int → Bool → Bool → (List ((List Int) × Int)) → Int → ((List Int) × Int) → Int → Int → List (List Int) → List Int → Int → Bool → List Bool → List Bool → Option ((Bool × Unit) × Unit)) (L2 : (List (Int × Int × Int)) → List (List Int) → Int → (List ((List Int) × Int)) → Int → Int → Int → Int → List Bool → List Bool → Option ((Bool × Unit) × Unit)) (v23 : List (Int × Int × Int)) (v24 : List (List Int)) (v25 : Int) (v26 : List ((List Int) × Int)) (v27 : Int) (v28 : Int) (v29 : Int) (v30 : Int) (v31 : List Int) (v32 : Int) (v33 : List Int) (v34 : Int) (v35 : Int) (v36 : Int) (v37 : Int) (v38 : Bool) (v39 : List ((List Int) × Int)) (v40 : Int) (v41 : Bool) (v42 : Bool) (v43 : List Int) (v44 : Int) (v45 : Int) (v46 : Bool) (v47 : Bool) (v48 : List ((List Int) × Int)) (v49 : Int) (v50 : (List Int) × Int) (v51 : Int) (v52 : Int) (v53 : List (List Int)) (v54 : List Int) (v55 : Int) (v56 : Bool) (v57 : List Bool) (v58 : List Bool) : Option ((Bool × Unit) × Unit) :=
 bif decide (v32 < (v31.length : Int)) then
  bif decide (0 ≤ v32) && decide (v32 < (v31.length : Int)) then
   bif decide (List.getD v31 v32.toNat 0 < 1) then
    some ((false, ()), ())
   else
   bif decide (0 ≤ v32) && decide (v32 < (v31.length : Int)) then
    bif decide (List.getD v31 v32.toNat 0 > 8) then
     some ((false, ()), ())
    else
    bif decide (0 ≤ v32) && decide (v32 < (v31.length : Int)) then
     bif (decide (0 ≤ List.getD v31 v32.toNat 0) && decide (List.getD v31 v32.toNat 0 < 9)) && decide (List.getD v31 v32.toNat 0 < (v57.length : Int)) then
      bif decide (0 ≤ List.getD v31 v32.toNat 0) && decide (List.getD v31 v32.toNat 0 < (v57.length : Int)) then
       bif !(List.getD v57 ((List.getD v31 v32.toNat 0).toNat) false) then
        some ((false, ()), ())
       else
       bif decide (0 ≤ v32) && decide (v32 < (v31.length : Int)) then
        bif (decide (0 ≤ List.getD v31 v32.toNat 0) && decide (List.getD v31 v32.toNat 0 < 9)) && decide (List.getD v31 v32.toNat 0 < (v58.length : Int)) then
         bif decide (0 ≤ List.getD v31 v32.toNat 0) && decide (List.getD v31 v32.toNat 0 < (v58.length : Int)) then
          bif List.getD v58 ((List.getD v31 v32.toNat 0).toNat) false then
           some ((false, ()), ())
          else
          bif decide (v32 > 0) then
           bif decide (0 ≤ v32) && decide (v32 < (v31.length : Int)) then
            bif decide (0 ≤ IntKind.wrap .i64 (v32 - 1)) && decide (IntKind.wrap .i64 (v32 - 1) < (v31.length : Int)) then
            bif decide (List.getD v31 v32.toNat 0 ≤ List.getD v31 ((IntKind.wrap .i64 (v32 - 1)).toNat) 0) then
            some ((false, ()), ())
            else
            bif decide (0 ≤ v32) && decide (v32 < (v31.length : Int)) then
            bif (decide (0 ≤ List.getD v31 v32.toNat 0) && decide (List.getD v31 v32.toNat 0 < 9)) && decide (List.getD v31 v32.toNat 0 < (v58.length : Int)) then
            bif decide (0 ≤ List.getD v31 v32.toNat 0) && decide (List.getD v31 v32.toNat 0 < (v58.length : Int)) then
            L3 v23 v24 v25 v26 v27 v28 (IntKind.wrap .i64 (v29 + 1)) v30 v31 (IntKind.wrap .i64 (v32 + 1)) v33 v34 v35 v36 v37 v38 v39 v40 v41 v42 v43 v44 v45 v46 v47 v48 v49 v50 v51 v52 v53 v54 v55 v56 v57 (List.set v58 ((List.getD v31 v32.toNat 0).toNat) true)
            else none
            else none
            else none
            else none
           else none
          else
          bif decide (0 ≤ v32) && decide (v32 < (v31.length : Int)) then
           bif (decide (0 ≤ List.getD v31 v32.toNat 0) && decide (List.getD v31 v32.toNat 0 < 9)) && decide (List.getD v31 v32.toNat 0 < (v58.length : Int)) then
            bif decide (0 ≤ List.getD v31 v32.toNat 0) && decide (List.getD v31 v32.toNat 0 < (v58.length : Int)) then
            L3 v23 v24 v25 v26 v27 v28 (IntKind.wrap .i64 (v29 + 1)) v30 v31 (IntKind.wrap .i64 (v32 + 1)) v33 v34 v35 v36 v37 v38 v39 v40 v41 v42 v43 v44 v45 v46 v47 v48 v49 v50 v51 v52 v53 v54 v55 v56 v57 (List.set v58 ((List.getD v31 v32.toNat 0).toNat) true)
            else none
           else none
          else none
         else none
        else none
       else none
      else none
     else none
    else none
   else none
  else none
 else
  L2 v23 v24 v25 v26 v27 v28 v29 (IntKind.wrap .i64 (v30 + 1)) v57 v58
noncomputable def pleachlaw8_ClusSizes_B4 (L4 : (List (Int × Int × Int)) → List (List Int) → Int → (List ((List Int) × Int)) → Int → Int → Int → Int → List Int → Int → List Int → Int → Int → Int → Int → Bool → (List ((List Int) × Int)) → Int → Bool → Bool → Bool → (List ((List Int) × Int)) → Int → ((List Int) × Int) → Int → Int → List (List Int) → List Int → Int → Bool → List Bool → List Bool → Option ((Bool × Unit) × Unit)) (L2 : (List (Int × Int × Int)) → List (List Int) → Int → (List ((List Int) × Int)) → Int → Int → Int → Int → List Bool → List Bool → Option ((Bool × Unit) × Unit)) (v60 : List (Int × Int × Int)) (v61 : List (List Int)) (v62 : Int) (v63 : List ((List Int) × Int)) (v64 : Int) (v65 : Int) (v66 : Int) (v67 : Int) (v68 : List Int) (v69 : Int) (v70 : List Int) (v71 : Int) (v72 : Int) (v73 : Int) (v74 : Int) (v75 : Bool) (v76 : List ((List Int) × Int)) (v77 : Int) (v78 : Bool) (v79 : Bool) (v80 : Bool) (v81 : List ((List Int) × Int)) (v82 : Int) (v83 : (List Int) × Int) (v84 : Int) (v85 : Int) (v86 : List (List Int)) (v87 : List Int) (v88 : Int) (v89 : Bool) (v90 : List Bool) (v91 : List Bool) : Option ((Bool × Unit) × Unit) :=
 bif decide (v69 < (v68.length : Int)) then
  bif decide (0 ≤ v69) && decide (v69 < (v68.length : Int)) then
   bif decide (List.getD v68 v69.toNat 0 < 1) then
    some ((false, ()), ())
   else
   bif decide (0 ≤ v69) && decide (v69 < (v68.length : Int)) then
    bif decide (List.getD v68 v69.toNat 0 > 8) then
     some ((false, ()), ())
    else
    bif decide (0 ≤ v69) && decide (v69 < (v68.length : Int)) then
     bif (decide (0 ≤ List.getD v68 v69.toNat 0) && decide (List.getD v68 v69.toNat 0 < 9)) && decide (List.getD v68 v69.toNat 0 < (v90.length : Int)) then
      bif decide (0 ≤ List.getD v68 v69.toNat 0) && decide (List.getD v68 v69.toNat 0 < (v90.length : Int)) then
       bif !(List.getD v90 ((List.getD v68 v69.toNat 0).toNat) false) then
        some ((false, ()), ())
       else
       bif decide (0 ≤ v69) && decide (v69 < (v68.length : Int)) then
        bif (decide (0 ≤ List.getD v68 v69.toNat 0) && decide (List.getD v68 v69.toNat 0 < 9)) && decide (List.getD v68 v69.toNat 0 < (v91.length : Int)) then
         bif decide (0 ≤ List.getD v68 v69.toNat 0) && decide (List.getD v68 v69.toNat 0 < (v91.length : Int)) then
          bif List.getD v91 ((List.getD v68 v69.toNat 0).toNat) false then
           some ((false, ()), ())
          else
          bif decide (v69 > 0) then
           bif decide (0 ≤ v69) && decide (v69 < (v68.length : Int)) then
            bif decide (0 ≤ IntKind.wrap .i64 (v69 - 1)) && decide (IntKind.wrap .i64 (v69 - 1) < (v68.length : Int)) then
            bif decide (List.getD v68 v69.toNat 0 ≤ List.getD v68 ((IntKind.wrap .i64 (v69 - 1)).toNat) 0) then
            some ((false, ()), ())
            else
            bif decide (0 ≤ v69) && decide (v69 < (v68.length : Int)) then
            bif (decide (0 ≤ List.getD v68 v69.toNat 0) && decide (List.getD v68 v69.toNat 0 < 9)) && decide (List.getD v68 v69.toNat 0 < (v91.length : Int)) then
            bif decide (0 ≤ List.getD v68 v69.toNat 0) && decide (List.getD v68 v69.toNat 0 < (v91.length : Int)) then
            L4 v60 v61 v62 v63 v64 v65 (IntKind.wrap .i64 (v66 + 1)) v67 v68 (IntKind.wrap .i64 (v69 + 1)) v70 v71 v72 v73 v74 v75 v76 v77 v78 v79 v80 v81 v82 v83 v84 v85 v86 v87 v88 v89 v90 (List.set v91 ((List.getD v68 v69.toNat 0).toNat) true)
            else none
            else none
            else none
            else none
           else none
          else
          bif decide (0 ≤ v69) && decide (v69 < (v68.length : Int)) then
           bif (decide (0 ≤ List.getD v68 v69.toNat 0) && decide (List.getD v68 v69.toNat 0 < 9)) && decide (List.getD v68 v69.toNat 0 < (v91.length : Int)) then
            bif decide (0 ≤ List.getD v68 v69.toNat 0) && decide (List.getD v68 v69.toNat 0 < (v91.length : Int)) then
            L4 v60 v61 v62 v63 v64 v65 (IntKind.wrap .i64 (v66 + 1)) v67 v68 (IntKind.wrap .i64 (v69 + 1)) v70 v71 v72 v73 v74 v75 v76 v77 v78 v79 v80 v81 v82 v83 v84 v85 v86 v87 v88 v89 v90 (List.set v91 ((List.getD v68 v69.toNat 0).toNat) true)
            else none
           else none
          else none
         else none
        else none
       else none
      else none
     else none
    else none
   else none
  else none
 else
  L2 v60 v61 v62 v63 v64 v65 v66 (IntKind.wrap .i64 (v67 + 1)) v90 v91
noncomputable def pleachlaw8_ClusSizes_B5 (L6 : (List (Int × Int × Int)) → List (List Int) → Int → (List ((List Int) × Int)) → Int → Int → Int → Int → List Bool → List Bool → Option ((Bool × Unit) × Unit)) (v92 : List (Int × Int × Int)) (v93 : List (List Int)) (v94 : Int) (v95 : List ((List Int) × Int)) (v96 : Int) (v97 : Int) (v98 : List Bool) : Option ((Bool × Unit) × Unit) :=
 bif decide (v97 < (v92.length : Int)) then
  bif decide (0 ≤ v97) && decide (v97 < (v92.length : Int)) then
   bif decide (0 ≤ v97) && decide (v97 < (v92.length : Int)) then
    bif decide (Int.tmod (((List.getD v92 v97.toNat (0, 0, 0)).2).2) 3 > 0) then
     bif decide (0 ≤ v97) && decide (v97 < (v92.length : Int)) then
      bif !((if 1 > (v95.length : Int) then 1 else (v95.length : Int)) == 0) then
       Option.bind (clus_Join v93 v95 (Int.tmod (IntKind.wrap .i64 (((List.getD v92 v97.toNat (0, 0, 0)).2).1)) (if 1 > (v95.length : Int) then 1 else (v95.length : Int))) (IntKind.wrap .i64 (1 + (IntKind.wrap .i64 (Int.tmod ((List.getD v92 v97.toNat (0, 0, 0)).1) 8)))) v94) fun (r99 : ((List ((List Int) × Int)) × Unit) × Unit) =>
       bif (decide (0 ≤ IntKind.wrap .i64 (1 + (IntKind.wrap .i64 (Int.tmod ((List.getD v92 v97.toNat (0, 0, 0)).1) 8)))) && decide (IntKind.wrap .i64 (1 + (IntKind.wrap .i64 (Int.tmod ((List.getD v92 v97.toNat (0, 0, 0)).1) 8))) < 9)) && decide (IntKind.wrap .i64 (1 + (IntKind.wrap .i64 (Int.tmod ((List.getD v92 v97.toNat (0, 0, 0)).1) 8))) < (v98.length : Int)) then
        bif decide (0 ≤ IntKind.wrap .i64 (1 + (IntKind.wrap .i64 (Int.tmod ((List.getD v92 v97.toNat (0, 0, 0)).1) 8)))) && decide (IntKind.wrap .i64 (1 + (IntKind.wrap .i64 (Int.tmod ((List.getD v92 v97.toNat (0, 0, 0)).1) 8))) < (v98.length : Int)) then
         bif !(List.getD v98 ((IntKind.wrap .i64 (1 + (IntKind.wrap .i64 (Int.tmod ((List.getD v92 v97.toNat (0, 0, 0)).1) 8)))).toNat) false) then
          bif (decide (0 ≤ IntKind.wrap .i64 (1 + (IntKind.wrap .i64 (Int.tmod ((List.getD v92 v97.toNat (0, 0, 0)).1) 8)))) && decide (IntKind.wrap .i64 (1 + (IntKind.wrap .i64 (Int.tmod ((List.getD v92 v97.toNat (0, 0, 0)).1) 8))) < 9)) && decide (IntKind.wrap .i64 (1 + (IntKind.wrap .i64 (Int.tmod ((List.getD v92 v97.toNat (0, 0, 0)).1) 8))) < (v98.length : Int)) then
           bif decide (0 ≤ IntKind.wrap .i64 (1 + (IntKind.wrap .i64 (Int.tmod ((List.getD v92 v97.toNat (0, 0, 0)).1) 8)))) && decide (IntKind.wrap .i64 (1 + (IntKind.wrap .i64 (Int.tmod ((List.getD v92 v97.toNat (0, 0, 0)).1) 8))) < (v98.length : Int)) then
            L6 v92 v93 v94 r99.1.1 (IntKind.wrap .i64 (v96 + 1)) v97 0 0 (List.set v98 ((IntKind.wrap .i64 (1 + (IntKind.wrap .i64 (Int.tmod ((List.getD v92 v97.toNat (0, 0, 0)).1) 8)))).toNat) true) (List.replicate 9 false)
           else none
          else none
         else
         bif (decide (0 ≤ IntKind.wrap .i64 (1 + (IntKind.wrap .i64 (Int.tmod ((List.getD v92 v97.toNat (0, 0, 0)).1) 8)))) && decide (IntKind.wrap .i64 (1 + (IntKind.wrap .i64 (Int.tmod ((List.getD v92 v97.toNat (0, 0, 0)).1) 8))) < 9)) && decide (IntKind.wrap .i64 (1 + (IntKind.wrap .i64 (Int.tmod ((List.getD v92 v97.toNat (0, 0, 0)).1) 8))) < (v98.length : Int)) then
          bif decide (0 ≤ IntKind.wrap .i64 (1 + (IntKind.wrap .i64 (Int.tmod ((List.getD v92 v97.toNat (0, 0, 0)).1) 8)))) && decide (IntKind.wrap .i64 (1 + (IntKind.wrap .i64 (Int.tmod ((List.getD v92 v97.toNat (0, 0, 0)).1) 8))) < (v98.length : Int)) then
           L6 v92 v93 v94 r99.1.1 v96 v97 0 0 (List.set v98 ((IntKind.wrap .i64 (1 + (IntKind.wrap .i64 (Int.tmod ((List.getD v92 v97.toNat (0, 0, 0)).1) 8)))).toNat) true) (List.replicate 9 false)
          else none
         else none
        else none
       else none
      else none
     else none
    else
     Option.bind (clus_Leave v93 v95 (IntKind.wrap .i64 (1 + (IntKind.wrap .i64 (Int.tmod ((List.getD v92 v97.toNat (0, 0, 0)).1) 8)))) v94) fun (r180 : ((List ((List Int) × Int)) × Unit) × Unit) =>
     bif (decide (0 ≤ IntKind.wrap .i64 (1 + (IntKind.wrap .i64 (Int.tmod ((List.getD v92 v97.toNat (0, 0, 0)).1) 8)))) && decide (IntKind.wrap .i64 (1 + (IntKind.wrap .i64 (Int.tmod ((List.getD v92 v97.toNat (0, 0, 0)).1) 8))) < 9)) && decide (IntKind.wrap .i64 (1 + (IntKind.wrap .i64 (Int.tmod ((List.getD v92 v97.toNat (0, 0, 0)).1) 8))) < (v98.length : Int)) then
      bif decide (0 ≤ IntKind.wrap .i64 (1 + (IntKind.wrap .i64 (Int.tmod ((List.getD v92 v97.toNat (0, 0, 0)).1) 8)))) && decide (IntKind.wrap .i64 (1 + (IntKind.wrap .i64 (Int.tmod ((List.getD v92 v97.toNat (0, 0, 0)).1) 8))) < (v98.length : Int)) then
       bif List.getD v98 ((IntKind.wrap .i64 (1 + (IntKind.wrap .i64 (Int.tmod ((List.getD v92 v97.toNat (0, 0, 0)).1) 8)))).toNat) false then
        bif (decide (0 ≤ IntKind.wrap .i64 (1 + (IntKind.wrap .i64 (Int.tmod ((List.getD v92 v97.toNat (0, 0, 0)).1) 8)))) && decide (IntKind.wrap .i64 (1 + (IntKind.wrap .i64 (Int.tmod ((List.getD v92 v97.toNat (0, 0, 0)).1) 8))) < 9)) && decide (IntKind.wrap .i64 (1 + (IntKind.wrap .i64 (Int.tmod ((List.getD v92 v97.toNat (0, 0, 0)).1) 8))) < (v98.length : Int)) then
         bif decide (0 ≤ IntKind.wrap .i64 (1 + (IntKind.wrap .i64 (Int.tmod ((List.getD v92 v97.toNat (0, 0, 0)).1) 8)))) && decide (IntKind.wrap .i64 (1 + (IntKind.wrap .i64 (Int.tmod ((List.getD v92 v97.toNat (0, 0, 0)).1) 8))) < (v98.length : Int)) then
          L6 v92 v93 v94 r180.1.1 (IntKind.wrap .i64 (v96 - 1)) v97 0 0 (List.set v98 ((IntKind.wrap .i64 (1 + (IntKind.wrap .i64 (Int.tmod ((List.getD v92 v97.toNat (0, 0, 0)).1) 8)))).toNat) false) (List.replicate 9 false)
         else none
        else none
       else
       bif (decide (0 ≤ IntKind.wrap .i64 (1 + (IntKind.wrap .i64 (Int.tmod ((List.getD v92 v97.toNat (0, 0, 0)).1) 8)))) && decide (IntKind.wrap .i64 (1 + (IntKind.wrap .i64 (Int.tmod ((List.getD v92 v97.toNat (0, 0, 0)).1) 8))) < 9)) && decide (IntKind.wrap .i64 (1 + (IntKind.wrap .i64 (Int.tmod ((List.getD v92 v97.toNat (0, 0, 0)).1) 8))) < (v98.length : Int)) then
        bif decide (0 ≤ IntKind.wrap .i64 (1 + (IntKind.wrap .i64 (Int.tmod ((List.getD v92 v97.toNat (0, 0, 0)).1) 8)))) && decide (IntKind.wrap .i64 (1 + (IntKind.wrap .i64 (Int.tmod ((List.getD v92 v97.toNat (0, 0, 0)).1) 8))) < (v98.length : Int)) then
         L6 v92 v93 v94 r180.1.1 v96 v97 0 0 (List.set v98 ((IntKind.wrap .i64 (1 + (IntKind.wrap .i64 (Int.tmod ((List.getD v92 v97.toNat (0, 0, 0)).1) 8)))).toNat) false) (List.replicate 9 false)
        else none
       else none
      else none
     else none
   else none
  else none
 else
  some ((true, ()), ())
noncomputable def pleachlaw8_ClusSizes_B6 (L7 : (List (Int × Int × Int)) → List (List Int) → Int → (List ((List Int) × Int)) → Int → Int → Int → Int → List Int → Int → List Int → Int → Int → Int → Int → Bool → (List ((List Int) × Int)) → Int → Bool → Bool → List Int → Int → Int → Bool → Bool → (List ((List Int) × Int)) → Int → ((List Int) × Int) → Int → Int → List (List Int) → List Int → Int → Bool → List Bool → List Bool → Option ((Bool × Unit) × Unit)) (L8 : (List (Int × Int × Int)) → List (List Int) → Int → (List ((List Int) × Int)) → Int → Int → Int → Int → List Int → Int → List Int → Int → Int → Int → Int → Bool → (List ((List Int) × Int)) → Int → Bool → Bool → Bool → (List ((List Int) × Int)) → Int → ((List Int) × Int) → Int → Int → List (List Int) → List Int → Int → Bool → List Bool → List Bool → Option ((Bool × Unit) × Unit)) (L5 : (List (Int × Int × Int)) → List (List Int) → Int → (List ((List Int) × Int)) → Int → Int → List Bool → Option ((Bool × Unit) × Unit)) (v100 : List (Int × Int × Int)) (v101 : List (List Int)) (v102 : Int) (v103 : List ((List Int) × Int)) (v104 : Int) (v105 : Int) (v106 : Int) (v107 : Int) (v108 : List Bool) (v109 : List Bool) : Option ((Bool × Unit) × Unit) :=
 bif decide (v107 < (v103.length : Int)) then
  bif decide (0 ≤ v107) && decide (v107 < (v103.length : Int)) then
   bif decide ((((List.getD v103 v107.toNat ([], 0)).1).length : Int) < 1) then
    some ((false, ()), ())
   else
   bif decide ((((List.getD v103 v107.toNat ([], 0)).1).length : Int) > IntKind.wrap .i64 ((IntKind.wrap .i64 (3 * v102)) - 1)) then
    some ((false, ()), ())
   else
   bif decide ((v103.length : Int) > 1) then
    bif decide ((((List.getD v103 v107.toNat ([], 0)).1).length : Int) < v102) then
     some ((false, ()), ())
    else
    bif decide (0 ≤ v107) && decide (v107 < (v103.length : Int)) then
     Option.bind (pleachref7_Mid v101 ((List.getD v103 v107.toNat ([], 0)).1)) fun (r110 : (Int × Unit) × Unit) =>
     bif ((List.getD v103 v107.toNat ([], 0)).2) != r110.1.1 then
      some ((false, ()), ())
     else
      L7 v100 v101 v102 v103 v104 v105 v106 v107 ((List.getD v103 v107.toNat ([], 0)).1) 0 ((List.getD v103 v107.toNat ([], 0)).1) (((List.getD v103 v107.toNat ([], 0)).1).length : Int) v102 (IntKind.wrap .i64 (3 * v102)) (IntKind.wrap .i64 ((IntKind.wrap .i64 (3 * v102)) - 1)) (decide ((((List.getD v103 v107.toNat ([], 0)).1).length : Int) > IntKind.wrap .i64 ((IntKind.wrap .i64 (3 * v102)) - 1))) v103 (v103.length : Int) (decide ((v103.length : Int) > 1)) true ((List.getD v103 v107.toNat ([], 0)).1) (((List.getD v103 v107.toNat ([], 0)).1).length : Int) v102 (decide ((((List.getD v103 v107.toNat ([], 0)).1).length : Int) < v102)) (decide ((((List.getD v103 v107.toNat ([], 0)).1).length : Int) < v102)) v103 v107 (List.getD v103 v107.toNat ([], 0)) ((List.getD v103 v107.toNat ([], 0)).2) ((List.getD v103 v107.toNat ([], 0)).2) v101 ((List.getD v103 v107.toNat ([], 0)).1) r110.1.1 (((List.getD v103 v107.toNat ([], 0)).2) != r110.1.1) v108 v109
    else none
   else
   bif decide (0 ≤ v107) && decide (v107 < (v103.length : Int)) then
    Option.bind (pleachref7_Mid v101 ((List.getD v103 v107.toNat ([], 0)).1)) fun (r147 : (Int × Unit) × Unit) =>
    bif ((List.getD v103 v107.toNat ([], 0)).2) != r147.1.1 then
     some ((false, ()), ())
    else
     L8 v100 v101 v102 v103 v104 v105 v106 v107 ((List.getD v103 v107.toNat ([], 0)).1) 0 ((List.getD v103 v107.toNat ([], 0)).1) (((List.getD v103 v107.toNat ([], 0)).1).length : Int) v102 (IntKind.wrap .i64 (3 * v102)) (IntKind.wrap .i64 ((IntKind.wrap .i64 (3 * v102)) - 1)) (decide ((((List.getD v103 v107.toNat ([], 0)).1).length : Int) > IntKind.wrap .i64 ((IntKind.wrap .i64 (3 * v102)) - 1))) v103 (v103.length : Int) (decide ((v103.length : Int) > 1)) false false v103 v107 (List.getD v103 v107.toNat ([], 0)) ((List.getD v103 v107.toNat ([], 0)).2) ((List.getD v103 v107.toNat ([], 0)).2) v101 ((List.getD v103 v107.toNat ([], 0)).1) r147.1.1 (((List.getD v103 v107.toNat ([], 0)).2) != r147.1.1) v108 v109
   else none
  else none
 else
 bif v106 != v104 then
  some ((false, ()), ())
 else
  L5 v100 v101 v102 v103 v104 (IntKind.wrap .i64 (v105 + 1)) v108
noncomputable def pleachlaw8_ClusSizes_B7 (L7 : (List (Int × Int × Int)) → List (List Int) → Int → (List ((List Int) × Int)) → Int → Int → Int → Int → List Int → Int → List Int → Int → Int → Int → Int → Bool → (List ((List Int) × Int)) → Int → Bool → Bool → List Int → Int → Int → Bool → Bool → (List ((List Int) × Int)) → Int → ((List Int) × Int) → Int → Int → List (List Int) → List Int → Int → Bool → List Bool → List Bool → Option ((Bool × Unit) × Unit)) (L6 : (List (Int × Int × Int)) → List (List Int) → Int → (List ((List Int) × Int)) → Int → Int → Int → Int → List Bool → List Bool → Option ((Bool × Unit) × Unit)) (v111 : List (Int × Int × Int)) (v112 : List (List Int)) (v113 : Int) (v114 : List ((List Int) × Int)) (v115 : Int) (v116 : Int) (v117 : Int) (v118 : Int) (v119 : List Int) (v120 : Int) (v121 : List Int) (v122 : Int) (v123 : Int) (v124 : Int) (v125 : Int) (v126 : Bool) (v127 : List ((List Int) × Int)) (v128 : Int) (v129 : Bool) (v130 : Bool) (v131 : List Int) (v132 : Int) (v133 : Int) (v134 : Bool) (v135 : Bool) (v136 : List ((List Int) × Int)) (v137 : Int) (v138 : (List Int) × Int) (v139 : Int) (v140 : Int) (v141 : List (List Int)) (v142 : List Int) (v143 : Int) (v144 : Bool) (v145 : List Bool) (v146 : List Bool) : Option ((Bool × Unit) × Unit) :=
 bif decide (v120 < (v119.length : Int)) then
  bif decide (0 ≤ v120) && decide (v120 < (v119.length : Int)) then
   bif decide (List.getD v119 v120.toNat 0 < 1) then
    some ((false, ()), ())
   else
   bif decide (0 ≤ v120) && decide (v120 < (v119.length : Int)) then
    bif decide (List.getD v119 v120.toNat 0 > 8) then
     some ((false, ()), ())
    else
    bif decide (0 ≤ v120) && decide (v120 < (v119.length : Int)) then
     bif (decide (0 ≤ List.getD v119 v120.toNat 0) && decide (List.getD v119 v120.toNat 0 < 9)) && decide (List.getD v119 v120.toNat 0 < (v145.length : Int)) then
      bif decide (0 ≤ List.getD v119 v120.toNat 0) && decide (List.getD v119 v120.toNat 0 < (v145.length : Int)) then
       bif !(List.getD v145 ((List.getD v119 v120.toNat 0).toNat) false) then
        some ((false, ()), ())
       else
       bif decide (0 ≤ v120) && decide (v120 < (v119.length : Int)) then
        bif (decide (0 ≤ List.getD v119 v120.toNat 0) && decide (List.getD v119 v120.toNat 0 < 9)) && decide (List.getD v119 v120.toNat 0 < (v146.length : Int)) then
         bif decide (0 ≤ List.getD v119 v120.toNat 0) && decide (List.getD v119 v120.toNat 0 < (v146.length : Int)) then
          bif List.getD v146 ((List.getD v119 v120.toNat 0).toNat) false then
           some ((false, ()), ())
          else
          bif decide (v120 > 0) then
           bif decide (0 ≤ v120) && decide (v120 < (v119.length : Int)) then
            bif decide (0 ≤ IntKind.wrap .i64 (v120 - 1)) && decide (IntKind.wrap .i64 (v120 - 1) < (v119.length : Int)) then
            bif decide (List.getD v119 v120.toNat 0 ≤ List.getD v119 ((IntKind.wrap .i64 (v120 - 1)).toNat) 0) then
            some ((false, ()), ())
            else
            bif decide (0 ≤ v120) && decide (v120 < (v119.length : Int)) then
            bif (decide (0 ≤ List.getD v119 v120.toNat 0) && decide (List.getD v119 v120.toNat 0 < 9)) && decide (List.getD v119 v120.toNat 0 < (v146.length : Int)) then
            bif decide (0 ≤ List.getD v119 v120.toNat 0) && decide (List.getD v119 v120.toNat 0 < (v146.length : Int)) then
            L7 v111 v112 v113 v114 v115 v116 (IntKind.wrap .i64 (v117 + 1)) v118 v119 (IntKind.wrap .i64 (v120 + 1)) v121 v122 v123 v124 v125 v126 v127 v128 v129 v130 v131 v132 v133 v134 v135 v136 v137 v138 v139 v140 v141 v142 v143 v144 v145 (List.set v146 ((List.getD v119 v120.toNat 0).toNat) true)
            else none
            else none
            else none
            else none
           else none
          else
          bif decide (0 ≤ v120) && decide (v120 < (v119.length : Int)) then
           bif (decide (0 ≤ List.getD v119 v120.toNat 0) && decide (List.getD v119 v120.toNat 0 < 9)) && decide (List.getD v119 v120.toNat 0 < (v146.length : Int)) then
            bif decide (0 ≤ List.getD v119 v120.toNat 0) && decide (List.getD v119 v120.toNat 0 < (v146.length : Int)) then
            L7 v111 v112 v113 v114 v115 v116 (IntKind.wrap .i64 (v117 + 1)) v118 v119 (IntKind.wrap .i64 (v120 + 1)) v121 v122 v123 v124 v125 v126 v127 v128 v129 v130 v131 v132 v133 v134 v135 v136 v137 v138 v139 v140 v141 v142 v143 v144 v145 (List.set v146 ((List.getD v119 v120.toNat 0).toNat) true)
            else none
           else none
          else none
         else none
        else none
       else none
      else none
     else none
    else none
   else none
  else none
 else
  L6 v111 v112 v113 v114 v115 v116 v117 (IntKind.wrap .i64 (v118 + 1)) v145 v146
noncomputable def pleachlaw8_ClusSizes_B8 (L8 : (List (Int × Int × Int)) → List (List Int) → Int → (List ((List Int) × Int)) → Int → Int → Int → Int → List Int → Int → List Int → Int → Int → Int → Int → Bool → (List ((List Int) × Int)) → Int → Bool → Bool → Bool → (List ((List Int) × Int)) → Int → ((List Int) × Int) → Int → Int → List (List Int) → List Int → Int → Bool → List Bool → List Bool → Option ((Bool × Unit) × Unit)) (L6 : (List (Int × Int × Int)) → List (List Int) → Int → (List ((List Int) × Int)) → Int → Int → Int → Int → List Bool → List Bool → Option ((Bool × Unit) × Unit)) (v148 : List (Int × Int × Int)) (v149 : List (List Int)) (v150 : Int) (v151 : List ((List Int) × Int)) (v152 : Int) (v153 : Int) (v154 : Int) (v155 : Int) (v156 : List Int) (v157 : Int) (v158 : List Int) (v159 : Int) (v160 : Int) (v161 : Int) (v162 : Int) (v163 : Bool) (v164 : List ((List Int) × Int)) (v165 : Int) (v166 : Bool) (v167 : Bool) (v168 : Bool) (v169 : List ((List Int) × Int)) (v170 : Int) (v171 : (List Int) × Int) (v172 : Int) (v173 : Int) (v174 : List (List Int)) (v175 : List Int) (v176 : Int) (v177 : Bool) (v178 : List Bool) (v179 : List Bool) : Option ((Bool × Unit) × Unit) :=
 bif decide (v157 < (v156.length : Int)) then
  bif decide (0 ≤ v157) && decide (v157 < (v156.length : Int)) then
   bif decide (List.getD v156 v157.toNat 0 < 1) then
    some ((false, ()), ())
   else
   bif decide (0 ≤ v157) && decide (v157 < (v156.length : Int)) then
    bif decide (List.getD v156 v157.toNat 0 > 8) then
     some ((false, ()), ())
    else
    bif decide (0 ≤ v157) && decide (v157 < (v156.length : Int)) then
     bif (decide (0 ≤ List.getD v156 v157.toNat 0) && decide (List.getD v156 v157.toNat 0 < 9)) && decide (List.getD v156 v157.toNat 0 < (v178.length : Int)) then
      bif decide (0 ≤ List.getD v156 v157.toNat 0) && decide (List.getD v156 v157.toNat 0 < (v178.length : Int)) then
       bif !(List.getD v178 ((List.getD v156 v157.toNat 0).toNat) false) then
        some ((false, ()), ())
       else
       bif decide (0 ≤ v157) && decide (v157 < (v156.length : Int)) then
        bif (decide (0 ≤ List.getD v156 v157.toNat 0) && decide (List.getD v156 v157.toNat 0 < 9)) && decide (List.getD v156 v157.toNat 0 < (v179.length : Int)) then
         bif decide (0 ≤ List.getD v156 v157.toNat 0) && decide (List.getD v156 v157.toNat 0 < (v179.length : Int)) then
          bif List.getD v179 ((List.getD v156 v157.toNat 0).toNat) false then
           some ((false, ()), ())
          else
          bif decide (v157 > 0) then
           bif decide (0 ≤ v157) && decide (v157 < (v156.length : Int)) then
            bif decide (0 ≤ IntKind.wrap .i64 (v157 - 1)) && decide (IntKind.wrap .i64 (v157 - 1) < (v156.length : Int)) then
            bif decide (List.getD v156 v157.toNat 0 ≤ List.getD v156 ((IntKind.wrap .i64 (v157 - 1)).toNat) 0) then
            some ((false, ()), ())
            else
            bif decide (0 ≤ v157) && decide (v157 < (v156.length : Int)) then
            bif (decide (0 ≤ List.getD v156 v157.toNat 0) && decide (List.getD v156 v157.toNat 0 < 9)) && decide (List.getD v156 v157.toNat 0 < (v179.length : Int)) then
            bif decide (0 ≤ List.getD v156 v157.toNat 0) && decide (List.getD v156 v157.toNat 0 < (v179.length : Int)) then
            L8 v148 v149 v150 v151 v152 v153 (IntKind.wrap .i64 (v154 + 1)) v155 v156 (IntKind.wrap .i64 (v157 + 1)) v158 v159 v160 v161 v162 v163 v164 v165 v166 v167 v168 v169 v170 v171 v172 v173 v174 v175 v176 v177 v178 (List.set v179 ((List.getD v156 v157.toNat 0).toNat) true)
            else none
            else none
            else none
            else none
           else none
          else
          bif decide (0 ≤ v157) && decide (v157 < (v156.length : Int)) then
           bif (decide (0 ≤ List.getD v156 v157.toNat 0) && decide (List.getD v156 v157.toNat 0 < 9)) && decide (List.getD v156 v157.toNat 0 < (v179.length : Int)) then
            bif decide (0 ≤ List.getD v156 v157.toNat 0) && decide (List.getD v156 v157.toNat 0 < (v179.length : Int)) then
            L8 v148 v149 v150 v151 v152 v153 (IntKind.wrap .i64 (v154 + 1)) v155 v156 (IntKind.wrap .i64 (v157 + 1)) v158 v159 v160 v161 v162 v163 v164 v165 v166 v167 v168 v169 v170 v171 v172 v173 v174 v175 v176 v177 v178 (List.set v179 ((List.getD v156 v157.toNat 0).toNat) true)
            else none
           else none
          else none
         else none
        else none
       else none
      else none
     else none
    else none
   else none
  else none
 else
  L6 v148 v149 v150 v151 v152 v153 v154 (IntKind.wrap .i64 (v155 + 1)) v178 v179
noncomputable def pleachlaw8_ClusSizes_T (L1 : (List (Int × Int × Int)) → Int → Int → Int → List (List Int) → (List ((List Int) × Int)) → List Bool → Option ((Bool × Unit) × Unit)) (arr_0 : List Int) (x_1 : List (Int × Int × Int)) (x_2 : Int) : Option ((Bool × Unit) × Unit) :=
 Option.bind (pleachlaw8_begun) fun (r1 : (Bool × Unit) × Unit) =>
 bif !r1.1.1 then
  some ((false, ()), ())
 else
 bif decide ((arr_0.length : Int) > 30) then
  some ((true, ()), ())
 else
 bif decide ((x_1.length : Int) > 25) then
  some ((true, ()), ())
 else
  Option.bind (pleachmade_Made arr_0) fun (r2 : (((List Int) × Int) × Unit) × Unit) =>
  Option.bind (pleachmade_Picks_Dist r2.1.1) fun (r3 : ((List (List Int)) × Unit) × (((List Int) × Int) × Unit)) =>
  L1 x_1 (IntKind.wrap .i64 (1 + (IntKind.wrap .i64 (Int.tmod x_2 3)))) 0 0 r3.1.1 [] (List.replicate 9 false)
noncomputable def pleachlaw8_ClusSizes_L3 (n : Nat) (m1 : Nat) (r1 : (List (Int × Int × Int)) → Int → Int → Int → List (List Int) → (List ((List Int) × Int)) → List Bool → Option ((Bool × Unit) × Unit)) (m2 : Nat) (r2 : (List (Int × Int × Int)) → List (List Int) → Int → (List ((List Int) × Int)) → Int → Int → Int → Int → List Bool → List Bool → Option ((Bool × Unit) × Unit)) : Nat → (List (Int × Int × Int)) → List (List Int) → Int → (List ((List Int) × Int)) → Int → Int → Int → Int → List Int → Int → List Int → Int → Int → Int → Int → Bool → (List ((List Int) × Int)) → Int → Bool → Bool → List Int → Int → Int → Bool → Bool → (List ((List Int) × Int)) → Int → ((List Int) × Int) → Int → Int → List (List Int) → List Int → Int → Bool → List Bool → List Bool → Option ((Bool × Unit) × Unit) := iter (fun _ _ _ _ _ _ _ _ _ _ _ _ _ _ _ _ _ _ _ _ _ _ _ _ _ _ _ _ _ _ _ _ _ _ _ _ => none) fun L => pleachlaw8_ClusSizes_B3 L r2
noncomputable def pleachlaw8_ClusSizes_L4 (n : Nat) (m1 : Nat) (r1 : (List (Int × Int × Int)) → Int → Int → Int → List (List Int) → (List ((List Int) × Int)) → List Bool → Option ((Bool × Unit) × Unit)) (m2 : Nat) (r2 : (List (Int × Int × Int)) → List (List Int) → Int → (List ((List Int) × Int)) → Int → Int → Int → Int → List Bool → List Bool → Option ((Bool × Unit) × Unit)) : Nat → (List (Int × Int × Int)) → List (List Int) → Int → (List ((List Int) × Int)) → Int → Int → Int → Int → List Int → Int → List Int → Int → Int → Int → Int → Bool → (List ((List Int) × Int)) → Int → Bool → Bool → Bool → (List ((List Int) × Int)) → Int → ((List Int) × Int) → Int → Int → List (List Int) → List Int → Int → Bool → List Bool → List Bool → Option ((Bool × Unit) × Unit) := iter (fun _ _ _ _ _ _ _ _ _ _ _ _ _ _ _ _ _ _ _ _ _ _ _ _ _ _ _ _ _ _ _ _ => none) fun L => pleachlaw8_ClusSizes_B4 L r2
noncomputable def pleachlaw8_ClusSizes_L7 (n : Nat) (m5 : Nat) (r5 : (List (Int × Int × Int)) → List (List Int) → Int → (List ((List Int) × Int)) → Int → Int → List Bool → Option ((Bool × Unit) × Unit)) (m6 : Nat) (r6 : (List (Int × Int × Int)) → List (List Int) → Int → (List ((List Int) × Int)) → Int → Int → Int → Int → List Bool → List Bool → Option ((Bool × Unit) × Unit)) : Nat → (List (Int × Int × Int)) → List (List Int) → Int → (List ((List Int) × Int)) → Int → Int → Int → Int → List Int → Int → List Int → Int → Int → Int → Int → Bool → (List ((List Int) × Int)) → Int → Bool → Bool → List Int → Int → Int → Bool → Bool → (List ((List Int) × Int)) → Int → ((List Int) × Int) → Int → Int → List (List Int) → List Int → Int → Bool → List Bool → List Bool → Option ((Bool × Unit) × Unit) := iter (fun _ _ _ _ _ _ _ _ _ _ _ _ _ _ _ _ _ _ _ _ _ _ _ _ _ _ _ _ _ _ _ _ _ _ _ _ => none) fun L => pleachlaw8_ClusSizes_B7 L r6
noncomputable def pleachlaw8_ClusSizes_L8 (n : Nat) (m5 : Nat) (r5 : (List (Int × Int × Int)) → List (List Int) → Int → (List ((List Int) × Int)) → Int → Int → List Bool → Option ((Bool × Unit) × Unit)) (m6 : Nat) (r6 : (List (Int × Int × Int)) → List (List Int) → Int → (List ((List Int) × Int)) → Int → Int → Int → Int → List Bool → List Bool → Option ((Bool × Unit) × Unit)) : Nat → (List (Int × Int × Int)) → List (List Int) → Int → (List ((List Int) × Int)) → Int → Int → Int → Int → List Int → Int → List Int → Int → Int → Int → Int → Bool → (List ((List Int) × Int)) → Int → Bool → Bool → Bool → (List ((List Int) × Int)) → Int → ((List Int) × Int) → Int → Int → List (List Int) → List Int → Int → Bool → List Bool → List Bool → Option ((Bool × Unit) × Unit) := iter (fun _ _ _ _ _ _ _ _ _ _ _ _ _ _ _ _ _ _ _ _ _ _ _ _ _ _ _ _ _ _ _ _ => none) fun L => pleachlaw8_ClusSizes_B8 L r6
noncomputable def pleachlaw8_ClusSizes_L6 (n : Nat) (m5 : Nat) (r5 : (List (Int × Int × Int)) → List (List Int) → Int → (List ((List Int) × Int)) → Int → Int → List Bool → Option ((Bool × Unit) × Unit)) : Nat → (List (Int × Int × Int)) → List (List Int) → Int → (List ((List Int) × Int)) → Int → Int → Int → Int → List Bool → List Bool → Option ((Bool × Unit) × Unit) := iterN (fun _ _ _ _ _ _ _ _ _ _ => none) fun m L => pleachlaw8_ClusSizes_B6 (pleachlaw8_ClusSizes_L7 n m5 r5 m L n) (pleachlaw8_ClusSizes_L8 n m5 r5 m L n) r5
noncomputable def pleachlaw8_ClusSizes_L5 (n : Nat) : Nat → (List (Int × Int × Int)) → List (List Int) → Int → (List ((List Int) × Int)) → Int → Int → List Bool → Option ((Bool × Unit) × Unit) := iterN (fun _ _ _ _ _ _ _ => none) fun m L => pleachlaw8_ClusSizes_B5 (pleachlaw8_ClusSizes_L6 n m L n)
noncomputable def pleachlaw8_ClusSizes_L2 (n : Nat) (m1 : Nat) (r1 : (List (Int × Int × Int)) → Int → Int → Int → List (List Int) → (List ((List Int) × Int)) → List Bool → Option ((Bool × Unit) × Unit)) : Nat → (List (Int × Int × Int)) → List (List Int) → Int → (List ((List Int) × Int)) → Int → Int → Int → Int → List Bool → List Bool → Option ((Bool × Unit) × Unit) := iterN (fun _ _ _ _ _ _ _ _ _ _ => none) fun m L => pleachlaw8_ClusSizes_B2 (pleachlaw8_ClusSizes_L3 n m1 r1 m L n) (pleachlaw8_ClusSizes_L4 n m1 r1 m L n) (pleachlaw8_ClusSizes_L5 n m1)
noncomputable def pleachlaw8_ClusSizes_L1 (n : Nat) : Nat → (List (Int × Int × Int)) → Int → Int → Int → List (List Int) → (List ((List Int) × Int)) → List Bool → Option ((Bool × Unit) × Unit) := iterN (fun _ _ _ _ _ _ _ => none) fun m L => pleachlaw8_ClusSizes_B1 (pleachlaw8_ClusSizes_L2 n m L n)
noncomputable def pleachlaw8_ClusSizes_X1 (n m : Nat) (v4 : List (Int × Int × Int)) (v5 : Int) (v6 : Int) (v7 : Int) (v8 : List (List Int)) (v9 : List ((List Int) × Int)) (v10 : List Bool) : Option ((Bool × Unit) × Unit) :=
 atLoop pleachlaw8_ClusSizes_Γ tab (fiB [.val t22, .val t40, .val t5] pleachlaw8_ClusSizes_fi) n [.val t22, .val t40, .val t5] [⟨t4, [false], none⟩] Try.f5 [1, 1, 1, 1, 1, 1, 1, 1, 0, 1, 0] [] [1, 7, 8, 9, 10, 11, 12] m
 ⟨[(1, SV.cv (CV.one (LV.pure t40 v4))), (7, SV.cv (CV.one (LV.ref (888888, 7)))), (8, SV.cv (CV.one (LV.pure t2 v5))), (9, SV.cv (CV.one (LV.ref (888888, 9)))), (10, SV.cv (CV.one (LV.ptr (10, 0) 0))), (11, SV.cv (CV.one (LV.pure t2 v6))), (12, SV.cv (CV.one (LV.pure t2 v7)))],
  [((888888, 7), Ob.row 28 t28 v8), ((888888, 9), Ob.row 33 t32 v9), ((10, 0), Ob.arr 4 t4 v10)]⟩
noncomputable def pleachlaw8_ClusSizes_X2 (n m1 m : Nat) (v12 : List (Int × Int × Int)) (v13 : List (List Int)) (v14 : Int) (v15 : List ((List Int) × Int)) (v16 : Int) (v17 : Int) (v18 : Int) (v19 : Int) (v20 : List Bool) (v21 : List Bool) : Option ((Bool × Unit) × Unit) :=
 atLoop pleachlaw8_ClusSizes_Γ tab (fiB [.val t22, .val t40, .val t5] pleachlaw8_ClusSizes_fi) n [.val t22, .val t40, .val t5] [⟨t4, [false], none⟩] Try.f5 [1, 1, 1, 1, 1, 1, 1, 1, 0, 1, 0, 0, 1, 0, 0, 1, 1, 1, 1, 0, 1, 0] [(m1, [1, 7, 8, 9, 10, 11, 12])] [1, 7, 8, 9, 10, 11, 12, 15, 16, 17] m
 ⟨[(1, SV.cv (CV.one (LV.pure t40 v12))), (7, SV.cv (CV.one (LV.pure t24 v13))), (8, SV.cv (CV.one (LV.pure t2 v14))), (9, SV.cv (CV.one (LV.pure t37 v15))), (10, SV.cv (CV.one (LV.ptr (10, 0) 0))), (11, SV.cv (CV.one (LV.pure t2 v16))), (12, SV.cv (CV.one (LV.pure t2 v17))), (15, SV.cv (CV.one (LV.pure t2 v18))), (16, SV.cv (CV.one (LV.ptr (16, 0) 0))), (17, SV.cv (CV.one (LV.pure t2 v19)))],
  [((10, 0), Ob.arr 4 t4 v20), ((16, 0), Ob.arr 4 t4 v21)]⟩
noncomputable def pleachlaw8_ClusSizes_X3 (n m1 m2 m : Nat) (v23 : List (Int × Int × Int)) (v24 : List (List Int)) (v25 : Int) (v26 : List ((List Int) × Int)) (v27 : Int) (v28 : Int) (v29 : Int) (v30 : Int) (v31 : List Int) (v32 : Int) (v33 : List Int) (v34 : Int) (v35 : Int) (v36 : Int) (v37 : Int) (v38 : Bool) (v39 : List ((List Int) × Int)) (v40 : Int) (v41 : Bool) (v42 : Bool) (v43 : List Int) (v44 : Int) (v45 : Int) (v46 : Bool) (v47 : Bool) (v48 : List ((List Int) × Int)) (v49 : Int) (v50 : (List Int) × Int) (v51 : Int) (v52 : Int) (v53 : List (List Int)) (v54 : List Int) (v55 : Int) (v56 : Bool) (v57 : List Bool) (v58 : List Bool) : Option ((Bool × Unit) × Unit) :=
 atLoop pleachlaw8_ClusSizes_Γ tab (fiB [.val t22, .val t40, .val t5] pleachlaw8_ClusSizes_fi) n [.val t22, .val t40, .val t5] [⟨t4, [false], none⟩] Try.f5 [1, 1, 1, 1, 1, 1, 1, 1, 0, 1, 0, 0, 1, 0, 0, 1, 1, 1, 1, 0, 1, 0, 0, 1, 0, 0, 1, 1, 1, 0] [(m1, [1, 7, 8, 9, 10, 11, 12]), (m2, [1, 7, 8, 9, 10, 11, 12, 15, 16, 17])] [1, 7, 8, 9, 10, 11, 12, 15, 16, 17, 18, 19, 109, 110, 111, 112, 113, 114, 117, 118, 119, 120, 121, 122, 123, 124, 125, 128, 129, 130, 131, 132, 133, 134, 135, 136] m
 ⟨[(1, SV.cv (CV.one (LV.pure t40 v23))), (7, SV.cv (CV.one (LV.pure t24 v24))), (8, SV.cv (CV.one (LV.pure t2 v25))), (9, SV.cv (CV.one (LV.pure t37 v26))), (10, SV.cv (CV.one (LV.ptr (10, 0) 0))), (11, SV.cv (CV.one (LV.pure t2 v27))), (12, SV.cv (CV.one (LV.pure t2 v28))), (15, SV.cv (CV.one (LV.pure t2 v29))), (16, SV.cv (CV.one (LV.ptr (16, 0) 0))), (17, SV.cv (CV.one (LV.pure t2 v30))), (18, SV.cv (CV.one (LV.pure t28 v31))), (19, SV.cv (CV.one (LV.pure t2 v32))), (109, SV.cv (CV.one (LV.pure t28 v33))), (110, SV.cv (CV.one (LV.pure t2 v34))), (111, SV.cv (CV.one (LV.pure t2 v35))), (112, SV.cv (CV.one (LV.pure t2 v36))), (113, SV.cv (CV.one (LV.pure t2 v37))), (114, SV.cv (CV.one (LV.pure t4 v38))), (117, SV.cv (CV.one (LV.pure t37 v39))), (118, SV.cv (CV.one (LV.pure t2 v40))), (119, SV.cv (CV.one (LV.pure t4 v41))), (120, SV.cv (CV.one (LV.pure t4 v42))), (121, SV.cv (CV.one (LV.pure t28 v43))), (122, SV.cv (CV.one (LV.pure t2 v44))), (123, SV.cv (CV.one (LV.pure t2 v45))), (124, SV.cv (CV.one (LV.pure t4 v46))), (125, SV.cv (CV.one (LV.pure t4 v47))), (128, SV.cv (CV.one (LV.pure t37 v48))), (129, SV.cv (CV.one (LV.pure t2 v49))), (130, SV.ep t32 v50), (131, SV.ep t2 v51), (132, SV.cv (CV.one (LV.pure t2 v52))), (133, SV.cv (CV.one (LV.pure t24 v53))), (134, SV.cv (CV.one (LV.pure t28 v54))), (135, SV.cv (CV.one (LV.pure t2 v55))), (136, SV.cv (CV.one (LV.pure t4 v56)))],
  [((10, 0), Ob.arr 4 t4 v57), ((16, 0), Ob.arr 4 t4 v58)]⟩
noncomputable def pleachlaw8_ClusSizes_X4 (n m1 m2 m : Nat) (v60 : List (Int × Int × Int)) (v61 : List (List Int)) (v62 : Int) (v63 : List ((List Int) × Int)) (v64 : Int) (v65 : Int) (v66 : Int) (v67 : Int) (v68 : List Int) (v69 : Int) (v70 : List Int) (v71 : Int) (v72 : Int) (v73 : Int) (v74 : Int) (v75 : Bool) (v76 : List ((List Int) × Int)) (v77 : Int) (v78 : Bool) (v79 : Bool) (v80 : Bool) (v81 : List ((List Int) × Int)) (v82 : Int) (v83 : (List Int) × Int) (v84 : Int) (v85 : Int) (v86 : List (List Int)) (v87 : List Int) (v88 : Int) (v89 : Bool) (v90 : List Bool) (v91 : List Bool) : Option ((Bool × Unit) × Unit) :=
 atLoop pleachlaw8_ClusSizes_Γ tab (fiB [.val t22, .val t40, .val t5] pleachlaw8_ClusSizes_fi) n [.val t22, .val t40, .val t5] [⟨t4, [false], none⟩] Try.f5 [1, 1, 1, 1, 1, 1, 1, 1, 0, 1, 0, 0, 1, 0, 0, 1, 1, 1, 1, 0, 1, 0, 0, 1, 0, 0, 1, 1, 1, 0] [(m1, [1, 7, 8, 9, 10, 11, 12]), (m2, [1, 7, 8, 9, 10, 11, 12, 15, 16, 17])] [1, 7, 8, 9, 10, 11, 12, 15, 16, 17, 18, 19, 109, 110, 111, 112, 113, 114, 117, 118, 119, 120, 125, 128, 129, 130, 131, 132, 133, 134, 135, 136] m
 ⟨[(1, SV.cv (CV.one (LV.pure t40 v60))), (7, SV.cv (CV.one (LV.pure t24 v61))), (8, SV.cv (CV.one (LV.pure t2 v62))), (9, SV.cv (CV.one (LV.pure t37 v63))), (10, SV.cv (CV.one (LV.ptr (10, 0) 0))), (11, SV.cv (CV.one (LV.pure t2 v64))), (12, SV.cv (CV.one (LV.pure t2 v65))), (15, SV.cv (CV.one (LV.pure t2 v66))), (16, SV.cv (CV.one (LV.ptr (16, 0) 0))), (17, SV.cv (CV.one (LV.pure t2 v67))), (18, SV.cv (CV.one (LV.pure t28 v68))), (19, SV.cv (CV.one (LV.pure t2 v69))), (109, SV.cv (CV.one (LV.pure t28 v70))), (110, SV.cv (CV.one (LV.pure t2 v71))), (111, SV.cv (CV.one (LV.pure t2 v72))), (112, SV.cv (CV.one (LV.pure t2 v73))), (113, SV.cv (CV.one (LV.pure t2 v74))), (114, SV.cv (CV.one (LV.pure t4 v75))), (117, SV.cv (CV.one (LV.pure t37 v76))), (118, SV.cv (CV.one (LV.pure t2 v77))), (119, SV.cv (CV.one (LV.pure t4 v78))), (120, SV.cv (CV.one (LV.pure t4 v79))), (125, SV.cv (CV.one (LV.pure t4 v80))), (128, SV.cv (CV.one (LV.pure t37 v81))), (129, SV.cv (CV.one (LV.pure t2 v82))), (130, SV.ep t32 v83), (131, SV.ep t2 v84), (132, SV.cv (CV.one (LV.pure t2 v85))), (133, SV.cv (CV.one (LV.pure t24 v86))), (134, SV.cv (CV.one (LV.pure t28 v87))), (135, SV.cv (CV.one (LV.pure t2 v88))), (136, SV.cv (CV.one (LV.pure t4 v89)))],
  [((10, 0), Ob.arr 4 t4 v90), ((16, 0), Ob.arr 4 t4 v91)]⟩
noncomputable def pleachlaw8_ClusSizes_X5 (n m : Nat) (v92 : List (Int × Int × Int)) (v93 : List (List Int)) (v94 : Int) (v95 : List ((List Int) × Int)) (v96 : Int) (v97 : Int) (v98 : List Bool) : Option ((Bool × Unit) × Unit) :=
 atLoop pleachlaw8_ClusSizes_Γ tab (fiB [.val t22, .val t40, .val t5] pleachlaw8_ClusSizes_fi) n [.val t22, .val t40, .val t5] [⟨t4, [false], none⟩] Try.f5 [1, 1, 1, 1, 1, 1, 1, 1, 0, 1, 0] [] [1, 7, 8, 9, 10, 11, 12] m
 ⟨[(1, SV.cv (CV.one (LV.pure t40 v92))), (7, SV.cv (CV.one (LV.pure t24 v93))), (8, SV.cv (CV.one (LV.pure t2 v94))), (9, SV.cv (CV.one (LV.pure t37 v95))), (10, SV.cv (CV.one (LV.ptr (10, 0) 0))), (11, SV.cv (CV.one (LV.pure t2 v96))), (12, SV.cv (CV.one (LV.pure t2 v97)))],
  [((10, 0), Ob.arr 4 t4 v98)]⟩
noncomputable def pleachlaw8_ClusSizes_X6 (n m5 m : Nat) (v100 : List (Int × Int × Int)) (v101 : List (List Int)) (v102 : Int) (v103 : List ((List Int) × Int)) (v104 : Int) (v105 : Int) (v106 : Int) (v107 : Int) (v108 : List Bool) (v109 : List Bool) : Option ((Bool × Unit) × Unit) :=
 atLoop pleachlaw8_ClusSizes_Γ tab (fiB [.val t22, .val t40, .val t5] pleachlaw8_ClusSizes_fi) n [.val t22, .val t40, .val t5] [⟨t4, [false], none⟩] Try.f5 [1, 1, 1, 1, 1, 1, 1, 1, 0, 1, 0, 0, 1, 0, 0, 1, 1, 1, 1, 0, 1, 0] [(m5, [1, 7, 8, 9, 10, 11, 12])] [1, 7, 8, 9, 10, 11, 12, 15, 16, 17] m
 ⟨[(1, SV.cv (CV.one (LV.pure t40 v100))), (7, SV.cv (CV.one (LV.pure t24 v101))), (8, SV.cv (CV.one (LV.pure t2 v102))), (9, SV.cv (CV.one (LV.pure t37 v103))), (10, SV.cv (CV.one (LV.ptr (10, 0) 0))), (11, SV.cv (CV.one (LV.pure t2 v104))), (12, SV.cv (CV.one (LV.pure t2 v105))), (15, SV.cv (CV.one (LV.pure t2 v106))), (16, SV.cv (CV.one (LV.ptr (16, 0) 0))), (17, SV.cv (CV.one (LV.pure t2 v107)))],
  [((10, 0), Ob.arr 4 t4 v108), ((16, 0), Ob.arr 4 t4 v109)]⟩
noncomputable def pleachlaw8_ClusSizes_X7 (n m5 m6 m : Nat) (v111 : List (Int × Int × Int)) (v112 : List (List Int)) (v113 : Int) (v114 : List ((List Int) × Int)) (v115 : Int) (v116 : Int) (v117 : Int) (v118 : Int) (v119 : List Int) (v120 : Int) (v121 : List Int) (v122 : Int) (v123 : Int) (v124 : Int) (v125 : Int) (v126 : Bool) (v127 : List ((List Int) × Int)) (v128 : Int) (v129 : Bool) (v130 : Bool) (v131 : List Int) (v132 : Int) (v133 : Int) (v134 : Bool) (v135 : Bool) (v136 : List ((List Int) × Int)) (v137 : Int) (v138 : (List Int) × Int) (v139 : Int) (v140 : Int) (v141 : List (List Int)) (v142 : List Int) (v143 : Int) (v144 : Bool) (v145 : List Bool) (v146 : List Bool) : Option ((Bool × Unit) × Unit) :=
 atLoop pleachlaw8_ClusSizes_Γ tab (fiB [.val t22, .val t40, .val t5] pleachlaw8_ClusSizes_fi) n [.val t22, .val t40, .val t5] [⟨t4, [false], none⟩] Try.f5 [1, 1, 1, 1, 1, 1, 1, 1, 0, 1, 0, 0, 1, 0, 0, 1, 1, 1, 1, 0, 1, 0, 0, 1, 0, 0, 1, 1, 1, 0] [(m5, [1, 7, 8, 9, 10, 11, 12]), (m6, [1, 7, 8, 9, 10, 11, 12, 15, 16, 17])] [1, 7, 8, 9, 10, 11, 12, 15, 16, 17, 18, 19, 109, 110, 111, 112, 113, 114, 117, 118, 119, 120, 121, 122, 123, 124, 125, 128, 129, 130, 131, 132, 133, 134, 135, 136] m
 ⟨[(1, SV.cv (CV.one (LV.pure t40 v111))), (7, SV.cv (CV.one (LV.pure t24 v112))), (8, SV.cv (CV.one (LV.pure t2 v113))), (9, SV.cv (CV.one (LV.pure t37 v114))), (10, SV.cv (CV.one (LV.ptr (10, 0) 0))), (11, SV.cv (CV.one (LV.pure t2 v115))), (12, SV.cv (CV.one (LV.pure t2 v116))), (15, SV.cv (CV.one (LV.pure t2 v117))), (16, SV.cv (CV.one (LV.ptr (16, 0) 0))), (17, SV.cv (CV.one (LV.pure t2 v118))), (18, SV.cv (CV.one (LV.pure t28 v119))), (19, SV.cv (CV.one (LV.pure t2 v120))), (109, SV.cv (CV.one (LV.pure t28 v121))), (110, SV.cv (CV.one (LV.pure t2 v122))), (111, SV.cv (CV.one (LV.pure t2 v123))), (112, SV.cv (CV.one (LV.pure t2 v124))), (113, SV.cv (CV.one (LV.pure t2 v125))), (114, SV.cv (CV.one (LV.pure t4 v126))), (117, SV.cv (CV.one (LV.pure t37 v127))), (118, SV.cv (CV.one (LV.pure t2 v128))), (119, SV.cv (CV.one (LV.pure t4 v129))), (120, SV.cv (CV.one (LV.pure t4 v130))), (121, SV.cv (CV.one (LV.pure t28 v131))), (122, SV.cv (CV.one (LV.pure t2 v132))), (123, SV.cv (CV.one (LV.pure t2 v133))), (124, SV.cv (CV.one (LV.pure t4 v134))), (125, SV.cv (CV.one (LV.pure t4 v135))), (128, SV.cv (CV.one (LV.pure t37 v136))), (129, SV.cv (CV.one (LV.pure t2 v137))), (130, SV.ep t32 v138), (131, SV.ep t2 v139), (132, SV.cv (CV.one (LV.pure t2 v140))), (133, SV.cv (CV.one (LV.pure t24 v141))), (134, SV.cv (CV.one (LV.pure t28 v142))), (135, SV.cv (CV.one (LV.pure t2 v143))), (136, SV.cv (CV.one (LV.pure t4 v144)))],
  [((10, 0), Ob.arr 4 t4 v145), ((16, 0), Ob.arr 4 t4 v146)]⟩
noncomputable def pleachlaw8_ClusSizes_X8 (n m5 m6 m : Nat) (v148 : List (Int × Int × Int)) (v149 : List (List Int)) (v150 : Int) (v151 : List ((List Int) × Int)) (v152 : Int) (v153 : Int) (v154 : Int) (v155 : Int) (v156 : List Int) (v157 : Int) (v158 : List Int) (v159 : Int) (v160 : Int) (v161 : Int) (v162 : Int) (v163 : Bool) (v164 : List ((List Int) × Int)) (v165 : Int) (v166 : Bool) (v167 : Bool) (v168 : Bool) (v169 : List ((List Int) × Int)) (v170 : Int) (v171 : (List Int) × Int) (v172 : Int) (v173 : Int) (v174 : List (List Int)) (v175 : List Int) (v176 : Int) (v177 : Bool) (v178 : List Bool) (v179 : List Bool) : Option ((Bool × Unit) × Unit) :=
 atLoop pleachlaw8_ClusSizes_Γ tab (fiB [.val t22, .val t40, .val t5] pleachlaw8_ClusSizes_fi) n [.val t22, .val t40, .val t5] [⟨t4, [false], none⟩] Try.f5 [1, 1, 1, 1, 1, 1, 1, 1, 0, 1, 0, 0, 1, 0, 0, 1, 1, 1, 1, 0, 1, 0, 0, 1, 0, 0, 1, 1, 1, 0] [(m5, [1, 7, 8, 9, 10, 11, 12]), (m6, [1, 7, 8, 9, 10, 11, 12, 15, 16, 17])] [1, 7, 8, 9, 10, 11, 12, 15, 16, 17, 18, 19, 109, 110, 111, 112, 113, 114, 117, 118, 119, 120, 125, 128, 129, 130, 131, 132, 133, 134, 135, 136] m
 ⟨[(1, SV.cv (CV.one (LV.pure t40 v148))), (7, SV.cv (CV.one (LV.pure t24 v149))), (8, SV.cv (CV.one (LV.pure t2 v150))), (9, SV.cv (CV.one (LV.pure t37 v151))), (10, SV.cv (CV.one (LV.ptr (10, 0) 0))), (11, SV.cv (CV.one (LV.pure t2 v152))), (12, SV.cv (CV.one (LV.pure t2 v153))), (15, SV.cv (CV.one (LV.pure t2 v154))), (16, SV.cv (CV.one (LV.ptr (16, 0) 0))), (17, SV.cv (CV.one (LV.pure t2 v155))), (18, SV.cv (CV.one (LV.pure t28 v156))), (19, SV.cv (CV.one (LV.pure t2 v157))), (109, SV.cv (CV.one (LV.pure t28 v158))), (110, SV.cv (CV.one (LV.pure t2 v159))), (111, SV.cv (CV.one (LV.pure t2 v160))), (112, SV.cv (CV.one (LV.pure t2 v161))), (113, SV.cv (CV.one (LV.pure t2 v162))), (114, SV.cv (CV.one (LV.pure t4 v163))), (117, SV.cv (CV.one (LV.pure t37 v164))), (118, SV.cv (CV.one (LV.pure t2 v165))), (119, SV.cv (CV.one (LV.pure t4 v166))), (120, SV.cv (CV.one (LV.pure t4 v167))), (125, SV.cv (CV.one (LV.pure t4 v168))), (128, SV.cv (CV.one (LV.pure t37 v169))), (129, SV.cv (CV.one (LV.pure t2 v170))), (130, SV.ep t32 v171), (131, SV.ep t2 v172), (132, SV.cv (CV.one (LV.pure t2 v173))), (133, SV.cv (CV.one (LV.pure t24 v174))), (134, SV.cv (CV.one (LV.pure t28 v175))), (135, SV.cv (CV.one (LV.pure t2 v176))), (136, SV.cv (CV.one (LV.pure t4 v177)))],
  [((10, 0), Ob.arr 4 t4 v178), ((16, 0), Ob.arr 4 t4 v179)]⟩
theorem pleachlaw8_ClusSizes_step1 (n m : Nat) (v4 : List (Int × Int × Int)) (v5 : Int) (v6 : Int) (v7 : Int) (v8 : List (List Int)) (v9 : List ((List Int) × Int)) (v10 : List Bool) : pleachlaw8_ClusSizes_X1 n (m + 1) v4 v5 v6 v7 v8 v9 v10 = pleachlaw8_ClusSizes_B1 (pleachlaw8_ClusSizes_X2 n m n) v4 v5 v6 v7 v8 v9 v10 := by kernel_rfl
theorem pleachlaw8_ClusSizes_step2 (n m1 m : Nat) (v12 : List (Int × Int × Int)) (v13 : List (List Int)) (v14 : Int) (v15 : List ((List Int) × Int)) (v16 : Int) (v17 : Int) (v18 : Int) (v19 : Int) (v20 : List Bool) (v21 : List Bool) : pleachlaw8_ClusSizes_X2 n m1 (m + 1) v12 v13 v14 v15 v16 v17 v18 v19 v20 v21 = pleachlaw8_ClusSizes_B2 (pleachlaw8_ClusSizes_X3 n m1 m n) (pleachlaw8_ClusSizes_X4 n m1 m n) (pleachlaw8_ClusSizes_X5 n m1) v12 v13 v14 v15 v16 v17 v18 v19 v20 v21 := by kernel_rfl
theorem pleachlaw8_ClusSizes_step3 (n m1 m2 m : Nat) (v23 : List (Int × Int × Int)) (v24 : List (List Int)) (v25 : Int) (v26 : List ((List Int) × Int)) (v27 : Int) (v28 : Int) (v29 : Int) (v30 : Int) (v31 : List Int) (v32 : Int) (v33 : List Int) (v34 : Int) (v35 : Int) (v36 : Int) (v37 : Int) (v38 : Bool) (v39 : List ((List Int) × Int)) (v40 : Int) (v41 : Bool) (v42 : Bool) (v43 : List Int) (v44 : Int) (v45 : Int) (v46 : Bool) (v47 : Bool) (v48 : List ((List Int) × Int)) (v49 : Int) (v50 : (List Int) × Int) (v51 : Int) (v52 : Int) (v53 : List (List Int)) (v54 : List Int) (v55 : Int) (v56 : Bool) (v57 : List Bool) (v58 : List Bool) : pleachlaw8_ClusSizes_X3 n m1 m2 (m + 1) v23 v24 v25 v26 v27 v28 v29 v30 v31 v32 v33 v34 v35 v36 v37 v38 v39 v40 v41 v42 v43 v44 v45 v46 v47 v48 v49 v50 v51 v52 v53 v54 v55 v56 v57 v58 = pleachlaw8_ClusSizes_B3 (pleachlaw8_ClusSizes_X3 n m1 m2 m) (pleachlaw8_ClusSizes_X2 n m1 m2) v23 v24 v25 v26 v27 v28 v29 v30 v31 v32 v33 v34 v35 v36 v37 v38 v39 v40 v41 v42 v43 v44 v45 v46 v47 v48 v49 v50 v51 v52 v53 v54 v55 v56 v57 v58 := by kernel_rfl
theorem pleachlaw8_ClusSizes_step4 (n m1 m2 m : Nat) (v60 : List (Int × Int × Int)) (v61 : List (List Int)) (v62 : Int) (v63 : List ((List Int) × Int)) (v64 : Int) (v65 : Int) (v66 : Int) (v67 : Int) (v68 : List Int) (v69 : Int) (v70 : List Int) (v71 : Int) (v72 : Int) (v73 : Int) (v74 : Int) (v75 : Bool) (v76 : List ((List Int) × Int)) (v77 : Int) (v78 : Bool) (v79 : Bool) (v80 : Bool) (v81 : List ((List Int) × Int)) (v82 : Int) (v83 : (List Int) × Int) (v84 : Int) (v85 : Int) (v86 : List (List Int)) (v87 : List Int) (v88 : Int) (v89 : Bool) (v90 : List Bool) (v91 : List Bool) : pleachlaw8_ClusSizes_X4 n m1 m2 (m + 1) v60 v61 v62 v63 v64 v65 v66 v67 v68 v69 v70 v71 v72 v73 v74 v75 v76 v77 v78 v79 v80 v81 v82 v83 v84 v85 v86 v87 v88 v89 v90 v91 = pleachlaw8_ClusSizes_B4 (pleachlaw8_ClusSizes_X4 n m1 m2 m) (pleachlaw8_ClusSizes_X2 n m1 m2) v60 v61 v62 v63 v64 v65 v66 v67 v68 v69 v70 v71 v72 v73 v74 v75 v76 v77 v78 v79 v80 v81 v82 v83 v84 v85 v86 v87 v88 v89 v90 v91 := by kernel_rfl
theorem pleachlaw8_ClusSizes_step5 (n m : Nat) (v92 : List (Int × Int × Int)) (v93 : List (List Int)) (v94 : Int) (v95 : List ((List Int) × Int)) (v96 : Int) (v97 : Int) (v98 : List Bool) : pleachlaw8_ClusSizes_X5 n (m + 1) v92 v93 v94 v95 v96 v97 v98 = pleachlaw8_ClusSizes_B5 (pleachlaw8_ClusSizes_X6 n m n) v92 v93 v94 v95 v96 v97 v98 := by kernel_rfl
theorem pleachlaw8_ClusSizes_step6 (n m5 m : Nat) (v100 : List (Int × Int × Int)) (v101 : List (List Int)) (v102 : Int) (v103 : List ((List Int) × Int)) (v104 : Int) (v105 : Int) (v106 : Int) (v107 : Int) (v108 : List Bool) (v109 : List Bool) : pleachlaw8_ClusSizes_X6 n m5 (m + 1) v100 v101 v102 v103 v104 v105 v106 v107 v108 v109 = pleachlaw8_ClusSizes_B6 (pleachlaw8_ClusSizes_X7 n m5 m n) (pleachlaw8_ClusSizes_X8 n m5 m n) (pleachlaw8_ClusSizes_X5 n m5) v100 v101 v102 v103 v104 v105 v106 v107 v108 v109 := by kernel_rfl
theorem pleachlaw8_ClusSizes_step7 (n m5 m6 m : Nat) (v111 : List (Int × Int × Int)) (v112 : List (List Int)) (v113 : Int) (v114 : List ((List Int) × Int)) (v115 : Int) (v116 : Int) (v117 : Int) (v118 : Int) (v119 : List Int) (v120 : Int) (v121 : List Int) (v122 : Int) (v123 : Int) (v124 : Int) (v125 : Int) (v126 : Bool) (v127 : List ((List Int) × Int)) (v128 : Int) (v129 : Bool) (v130 : Bool) (v131 : List Int) (v132 : Int) (v133 : Int) (v134 : Bool) (v135 : Bool) (v136 : List ((List Int) × Int)) (v137 : Int) (v138 : (List Int) × Int) (v139 : Int) (v140 : Int) (v141 : List (List Int)) (v142 : List Int) (v143 : Int) (v144 : Bool) (v145 : List Bool) (v146 : List Bool) : pleachlaw8_ClusSizes_X7 n m5 m6 (m + 1) v111 v112 v113 v114 v115 v116 v117 v118 v119 v120 v121 v122 v123 v124 v125 v126 v127 v128 v129 v130 v131 v132 v133 v134 v135 v136 v137 v138 v139 v140 v141 v142 v143 v144 v145 v146 = pleachlaw8_ClusSizes_B7 (pleachlaw8_ClusSizes_X7 n m5 m6 m) (pleachlaw8_ClusSizes_X6 n m5 m6) v111 v112 v113 v114 v115 v116 v117 v118 v119 v120 v121 v122 v123 v124 v125 v126 v127 v128 v129 v130 v131 v132 v133 v134 v135 v136 v137 v138 v139 v140 v141 v142 v143 v144 v145 v146 := by kernel_rfl
theorem pleachlaw8_ClusSizes_step8 (n m5 m6 m : Nat) (v148 : List (Int × Int × Int)) (v149 : List (List Int)) (v150 : Int) (v151 : List ((List Int) × Int)) (v152 : Int) (v153 : Int) (v154 : Int) (v155 : Int) (v156 : List Int) (v157 : Int) (v158 : List Int) (v159 : Int) (v160 : Int) (v161 : Int) (v162 : Int) (v163 : Bool) (v164 : List ((List Int) × Int)) (v165 : Int) (v166 : Bool) (v167 : Bool) (v168 : Bool) (v169 : List ((List Int) × Int)) (v170 : Int) (v171 : (List Int) × Int) (v172 : Int) (v173 : Int) (v174 : List (List Int)) (v175 : List Int) (v176 : Int) (v177 : Bool) (v178 : List Bool) (v179 : List Bool) : pleachlaw8_ClusSizes_X8 n m5 m6 (m + 1) v148 v149 v150 v151 v152 v153 v154 v155 v156 v157 v158 v159 v160 v161 v162 v163 v164 v165 v166 v167 v168 v169 v170 v171 v172 v173 v174 v175 v176 v177 v178 v179 = pleachlaw8_ClusSizes_B8 (pleachlaw8_ClusSizes_X8 n m5 m6 m) (pleachlaw8_ClusSizes_X6 n m5 m6) v148 v149 v150 v151 v152 v153 v154 v155 v156 v157 v158 v159 v160 v161 v162 v163 v164 v165 v166 v167 v168 v169 v170 v171 v172 v173 v174 v175 v176 v177 v178 v179 := by kernel_rfl
theorem pleachlaw8_ClusSizes_start (n : Nat) (arr_0 : List Int) (x_1 : List (Int × Int × Int)) (x_2 : Int) : evFn pleachlaw8_ClusSizes_Γ tab pleachlaw8_ClusSizes_fi n [.val t22, .val t40, .val t5] [⟨t4, [false], none⟩] Try.f5 (arr_0, x_1, x_2, ()) = pleachlaw8_ClusSizes_T (pleachlaw8_ClusSizes_X1 n n) arr_0 x_1 x_2 := by kernel_rfl
theorem pleachlaw8_ClusSizes_XL3 (n : Nat) (m1 : Nat) (r1 : (List (Int × Int × Int)) → Int → Int → Int → List (List Int) → (List ((List Int) × Int)) → List Bool → Option ((Bool × Unit) × Unit)) (h1 : pleachlaw8_ClusSizes_X1 n m1 = r1) (m2 : Nat) (r2 : (List (Int × Int × Int)) → List (List Int) → Int → (List ((List Int) × Int)) → Int → Int → Int → Int → List Bool → List Bool → Option ((Bool × Unit) × Unit)) (h2 : pleachlaw8_ClusSizes_X2 n m1 m2 = r2) : ∀ m, pleachlaw8_ClusSizes_X3 n m1 m2 m = pleachlaw8_ClusSizes_L3 n m1 r1 m2 r2 m
 | 0 => rfl
 | m + 1 => by
  have ih := pleachlaw8_ClusSizes_XL3 n m1 r1 h1 m2 r2 h2 m
  funext v23 v24 v25 v26 v27 v28 v29 v30 v31 v32 v33 v34 v35 v36 v37 v38 v39 v40 v41 v42 v43 v44 v45 v46 v47 v48 v49 v50 v51 v52 v53 v54 v55 v56 v57 v58
  rw [pleachlaw8_ClusSizes_step3, ih, h2]
  rfl
theorem pleachlaw8_ClusSizes_XL4 (n : Nat) (m1 : Nat) (r1 : (List (Int × Int × Int)) → Int → Int → Int → List (List Int) → (List ((List Int) × Int)) → List Bool → Option ((Bool × Unit) × Unit)) (h1 : pleachlaw8_ClusSizes_X1 n m1 = r1) (m2 : Nat) (r2 : (List (Int × Int × Int)) → List (List Int) → Int → (List ((List Int) × Int)) → Int → Int → Int → Int → List Bool → List Bool → Option ((Bool × Unit) × Unit)) (h2 : pleachlaw8_ClusSizes_X2 n m1 m2 = r2) : ∀ m, pleachlaw8_ClusSizes_X4 n m1 m2 m = pleachlaw8_ClusSizes_L4 n m1 r1 m2 r2 m
 | 0 => rfl
 | m + 1 => by
  have ih := pleachlaw8_ClusSizes_XL4 n m1 r1 h1 m2 r2 h2 m
  funext v60 v61 v62 v63 v64 v65 v66 v67 v68 v69 v70 v71 v72 v73 v74 v75 v76 v77 v78 v79 v80 v81 v82 v83 v84 v85 v86 v87 v88 v89 v90 v91
  rw [pleachlaw8_ClusSizes_step4, ih, h2]
  rfl
theorem pleachlaw8_ClusSizes_XL7 (n : Nat) (m5 : Nat) (r5 : (List (Int × Int × Int)) → List (List Int) → Int → (List ((List Int) × Int)) → Int → Int → List Bool → Option ((Bool × Unit) × Unit)) (h5 : pleachlaw8_ClusSizes_X5 n m5 = r5) (m6 : Nat) (r6 : (List (Int × Int × Int)) → List (List Int) → Int → (List ((List Int) × Int)) → Int → Int → Int → Int → List Bool → List Bool → Option ((Bool × Unit) × Unit)) (h6 : pleachlaw8_ClusSizes_X6 n m5 m6 = r6) : ∀ m, pleachlaw8_ClusSizes_X7 n m5 m6 m = pleachlaw8_ClusSizes_L7 n m5 r5 m6 r6 m
 | 0 => rfl
 | m + 1 => by
  have ih := pleachlaw8_ClusSizes_XL7 n m5 r5 h5 m6 r6 h6 m
  funext v111 v112 v113 v114 v115 v116 v117 v118 v119 v120 v121 v122 v123 v124 v125 v126 v127 v128 v129 v130 v131 v132 v133 v134 v135 v136 v137 v138 v139 v140 v141 v142 v143 v144 v145 v146
  rw [pleachlaw8_ClusSizes_step7, ih, h6]
  rfl
theorem pleachlaw8_ClusSizes_XL8 (n : Nat) (m5 : Nat) (r5 : (List (Int × Int × Int)) → List (List Int) → Int → (List ((List Int) × Int)) → Int → Int → List Bool → Option ((Bool × Unit) × Unit)) (h5 : pleachlaw8_ClusSizes_X5 n m5 = r5) (m6 : Nat) (r6 : (List (Int × Int × Int)) → List (List Int) → Int → (List ((List Int) × Int)) → Int → Int → Int → Int → List Bool → List Bool → Option ((Bool × Unit) × Unit)) (h6 : pleachlaw8_ClusSizes_X6 n m5 m6 = r6) : ∀ m, pleachlaw8_ClusSizes_X8 n m5 m6 m = pleachlaw8_ClusSizes_L8 n m5 r5 m6 r6 m
 | 0 => rfl
 | m + 1 => by
  have ih := pleachlaw8_ClusSizes_XL8 n m5 r5 h5 m6 r6 h6 m
  funext v148 v149 v150 v151 v152 v153 v154 v155 v156 v157 v158 v159 v160 v161 v162 v163 v164 v165 v166 v167 v168 v169 v170 v171 v172 v173 v174 v175 v176 v177 v178 v179
  rw [pleachlaw8_ClusSizes_step8, ih, h6]
  rfl
theorem pleachlaw8_ClusSizes_XL6 (n : Nat) (m5 : Nat) (r5 : (List (Int × Int × Int)) → List (List Int) → Int → (List ((List Int) × Int)) → Int → Int → List Bool → Option ((Bool × Unit) × Unit)) (h5 : pleachlaw8_ClusSizes_X5 n m5 = r5) : ∀ m, pleachlaw8_ClusSizes_X6 n m5 m = pleachlaw8_ClusSizes_L6 n m5 r5 m
 | 0 => rfl
 | m + 1 => by
  have ih := pleachlaw8_ClusSizes_XL6 n m5 r5 h5 m
  funext v100 v101 v102 v103 v104 v105 v106 v107 v108 v109
  rw [pleachlaw8_ClusSizes_step6, pleachlaw8_ClusSizes_XL7 n m5 r5 h5 m _ ih n, pleachlaw8_ClusSizes_XL8 n m5 r5 h5 m _ ih n, h5]
  rfl
theorem pleachlaw8_ClusSizes_XL5 (n : Nat) : ∀ m, pleachlaw8_ClusSizes_X5 n m = pleachlaw8_ClusSizes_L5 n m
 | 0 => rfl
 | m + 1 => by
  have ih := pleachlaw8_ClusSizes_XL5 n m
  funext v92 v93 v94 v95 v96 v97 v98
  rw [pleachlaw8_ClusSizes_step5, pleachlaw8_ClusSizes_XL6 n m _ ih n]
  rfl
theorem pleachlaw8_ClusSizes_XL2 (n : Nat) (m1 : Nat) (r1 : (List (Int × Int × Int)) → Int → Int → Int → List (List Int) → (List ((List Int) × Int)) → List Bool → Option ((Bool × Unit) × Unit)) (h1 : pleachlaw8_ClusSizes_X1 n m1 = r1) : ∀ m, pleachlaw8_ClusSizes_X2 n m1 m = pleachlaw8_ClusSizes_L2 n m1 r1 m
 | 0 => rfl
 | m + 1 => by
  have ih := pleachlaw8_ClusSizes_XL2 n m1 r1 h1 m
  funext v12 v13 v14 v15 v16 v17 v18 v19 v20 v21
  rw [pleachlaw8_ClusSizes_step2, pleachlaw8_ClusSizes_XL3 n m1 r1 h1 m _ ih n, pleachlaw8_ClusSizes_XL4 n m1 r1 h1 m _ ih n, pleachlaw8_ClusSizes_XL5 n m1]
  rfl
theorem pleachlaw8_ClusSizes_XL1 (n : Nat) : ∀ m, pleachlaw8_ClusSizes_X1 n m = pleachlaw8_ClusSizes_L1 n m
 | 0 => rfl
 | m + 1 => by
  have ih := pleachlaw8_ClusSizes_XL1 n m
  funext v4 v5 v6 v7 v8 v9 v10
  rw [pleachlaw8_ClusSizes_step1, pleachlaw8_ClusSizes_XL2 n m _ ih n]
  rfl
noncomputable def pleachlaw8_ClusSizes_n (n : Nat) (arr_0 : List Int) (x_1 : List (Int × Int × Int)) (x_2 : Int) : Option ((Bool × Unit) × Unit) := pleachlaw8_ClusSizes_T (pleachlaw8_ClusSizes_L1 n n) arr_0 x_1 x_2
noncomputable def pleachlaw8_ClusSizes (arr_0 : List Int) (x_1 : List (Int × Int × Int)) (x_2 : Int) : Option ((Bool × Unit) × Unit) := pleachlaw8_ClusSizes_n 1099511627776 arr_0 x_1 x_2
theorem pleachlaw8_ClusSizes_eq (n : Nat) (arr_0 : List Int) (x_1 : List (Int × Int × Int)) (x_2 : Int) : evFn pleachlaw8_ClusSizes_Γ tab pleachlaw8_ClusSizes_fi n [.val t22, .val t40, .val t5] [⟨t4, [false], none⟩] Try.f5 (arr_0, x_1, x_2, ()) = pleachlaw8_ClusSizes_n n arr_0 x_1 x_2 := by
  rw [pleachlaw8_ClusSizes_start, pleachlaw8_ClusSizes_XL1 n n]
  rfl
noncomputable def pleachlaw8_ClusSizes_e : Ent := ⟨[.val t22, .val t40, .val t5], [⟨t4, [false], none⟩], fun x => pleachlaw8_ClusSizes x.1 x.2.1 x.2.2.1⟩
theorem pleachlaw8_ClusSizes_good : Good tab.ty Try.prog 5 pleachlaw8_ClusSizes_e := by
  refine fn_good (Γ := pleachlaw8_ClusSizes_Γ) (fi := pleachlaw8_ClusSizes_fi) (n := 1099511627776) follows (gcons pleachlaw8_begun_good (gcons pleachmade_Made_good (gcons pleachmade_Picks_Dist_good (gcons clus_Join_good (gcons clus_Leave_good (gcons pleachref7_Mid_good gnil)))))) tabok Try.func5 (by kernel_rfl) (by kernel_rfl) (fun x r h => ?_)
  obtain ⟨arr_0, x_1, x_2, _u⟩ := x
  exact (pleachlaw8_ClusSizes_eq 1099511627776 arr_0 x_1 x_2).trans h
noncomputable def pleachref7_Of_Γ : Ctx := [(30, pleachref7_Mid_e)]
def pleachref7_Of_fi : Fi := { keep := [], vty := [], vals := [], live := [(0, [0, 1, 4]), (1, [4])] }
noncomputable def pleachref7_Of (d_0 : List (List Int)) (l_1 : List Int) : Option ((((List Int) × Int) × Unit) × Unit) :=
 bif Nat.ble (0 + l_1.length) 1073741824 then
  Option.bind (pleachref7_Mid d_0 l_1) fun (r1 : (Int × Unit) × Unit) =>
  some ((([] ++ l_1, r1.1.1), ()), ())
 else none
theorem pleachref7_Of_eq (d_0 : List (List Int)) (l_1 : List Int) : evFn pleachref7_Of_Γ tab pleachref7_Of_fi 1 [.val t24, .val t28] [⟨t32, [true, false], none⟩] Try.f21 (d_0, l_1, ()) = pleachref7_Of d_0 l_1 := by kernel_rfl
noncomputable def pleachref7_Of_e : Ent := ⟨[.val t24, .val t28], [⟨t32, [true, false], none⟩], fun x => pleachref7_Of x.1 x.2.1⟩
theorem pleachref7_Of_good : Good tab.ty Try.prog 21 pleachref7_Of_e := by
  refine fn_good (Γ := pleachref7_Of_Γ) (fi := pleachref7_Of_fi) (n := 1) follows (gcons pleachref7_Mid_good gnil) tabok Try.func21 (by kernel_rfl) (by kernel_rfl) (fun x r h => ?_)
  obtain ⟨d_0, l_1, _u⟩ := x
  exact (pleachref7_Of_eq d_0 l_1).trans h
noncomputable def pleachref1_SameInts_Γ : Ctx := []
def pleachref1_SameInts_fi : Fi := { keep := [], vty := [], vals := [], live := [(0, [0, 1]), (1, [0, 1, 10]), (2, [4]), (3, [0, 1, 5]), (4, [0, 1, 5, 14]), (5, [0, 1, 5]), (6, [0, 1, 5, 25]), (7, [4]), (8, [4])] }
noncomputable def pleachref1_SameInts_B1 (L1 : List Int → List Int → Int → Option ((Bool × Unit) × Unit)) (v1 : List Int) (v2 : List Int) (v3 : Int) : Option ((Bool × Unit) × Unit) :=
 bif decide (v3 < (v1.length : Int)) then
  bif decide (0 ≤ v3) && decide (v3 < (v1.length : Int)) then
   bif decide (0 ≤ v3) && decide (v3 < (v2.length : Int)) then
    bif (List.getD v1 v3.toNat 0) != (List.getD v2 v3.toNat 0) then
     some ((false, ()), ())
    else
     L1 v1 v2 (IntKind.wrap .i64 (v3 + 1))
   else none
  else none
 else
  some ((true, ()), ())
noncomputable def pleachref1_SameInts_T (L1 : List Int → List Int → Int → Option ((Bool × Unit) × Unit)) (a_0 : List Int) (b_1 : List Int) : Option ((Bool × Unit) × Unit) :=
 bif (a_0.length : Int) != (b_1.length : Int) then
  some ((false, ()), ())
 else
  L1 a_0 b_1 0
noncomputable def pleachref1_SameInts_L1 (n : Nat) : Nat → List Int → List Int → Int → Option ((Bool × Unit) × Unit) := iter (fun _ _ _ => none) fun L => pleachref1_SameInts_B1 L
noncomputable def pleachref1_SameInts_X1 (n m : Nat) (v1 : List Int) (v2 : List Int) (v3 : Int) : Option ((Bool × Unit) × Unit) :=
 atLoop pleachref1_SameInts_Γ tab (fiB [.val t28, .val t28] pleachref1_SameInts_fi) n [.val t28, .val t28] [⟨t4, [false], none⟩] Try.f22 [1, 1, 0, 1, 0] [] [0, 1, 5] m
 ⟨[(0, SV.cv (CV.one (LV.pure t28 v1))), (1, SV.cv (CV.one (LV.pure t28 v2))), (5, SV.cv (CV.one (LV.pure t2 v3)))],
  []⟩
theorem pleachref1_SameInts_step1 (n m : Nat) (v1 : List Int) (v2 : List Int) (v3 : Int) : pleachref1_SameInts_X1 n (m + 1) v1 v2 v3 = pleachref1_SameInts_B1 (pleachref1_SameInts_X1 n m) v1 v2 v3 := by kernel_rfl
theorem pleachref1_SameInts_start (n : Nat) (a_0 : List Int) (b_1 : List Int) : evFn pleachref1_SameInts_Γ tab pleachref1_SameInts_fi n [.val t28, .val t28] [⟨t4, [false], none⟩] Try.f22 (a_0, b_1, ()) = pleachref1_SameInts_T (pleachref1_SameInts_X1 n n) a_0 b_1 := by kernel_rfl
theorem pleachref1_SameInts_XL1 (n : Nat) : ∀ m, pleachref1_SameInts_X1 n m = pleachref1_SameInts_L1 n m
 | 0 => rfl
 | m + 1 => by
  have ih := pleachref1_SameInts_XL1 n m
  funext v1 v2 v3
  rw [pleachref1_SameInts_step1, ih]
  rfl
noncomputable def pleachref1_SameInts_n (n : Nat) (a_0 : List Int) (b_1 : List Int) : Option ((Bool × Unit) × Unit) := pleachref1_SameInts_T (pleachref1_SameInts_L1 n n) a_0 b_1
noncomputable def pleachref1_SameInts (a_0 : List Int) (b_1 : List Int) : Option ((Bool × Unit) × Unit) := pleachref1_SameInts_n 1099511627776 a_0 b_1
theorem pleachref1_SameInts_eq (n : Nat) (a_0 : List Int) (b_1 : List Int) : evFn pleachref1_SameInts_Γ tab pleachref1_SameInts_fi n [.val t28, .val t28] [⟨t4, [false], none⟩] Try.f22 (a_0, b_1, ()) = pleachref1_SameInts_n n a_0 b_1 := by
  rw [pleachref1_SameInts_start, pleachref1_SameInts_XL1 n n]
  rfl
noncomputable def pleachref1_SameInts_e : Ent := ⟨[.val t28, .val t28], [⟨t4, [false], none⟩], fun x => pleachref1_SameInts x.1 x.2.1⟩
theorem pleachref1_SameInts_good : Good tab.ty Try.prog 22 pleachref1_SameInts_e := by
  refine fn_good (Γ := pleachref1_SameInts_Γ) (fi := pleachref1_SameInts_fi) (n := 1099511627776) follows gnil tabok Try.func22 (by kernel_rfl) (by kernel_rfl) (fun x r h => ?_)
  obtain ⟨a_0, b_1, _u⟩ := x
  exact (pleachref1_SameInts_eq 1099511627776 a_0 b_1).trans h
noncomputable def pleachref7_Rising_Γ : Ctx := [(35, pleachref1_Has_e)]
def pleachref7_Rising_fi : Fi := { keep := [], vty := [(3, 28)], vals := [], live := [(0, [0]), (1, [0, 3]), (2, [0, 3, 4]), (3, [0, 3, 4, 6]), (4, [0, 3, 4]), (5, [0, 3, 4, 11]), (6, [0, 3, 4]), (7, [2])] }
noncomputable def pleachref7_Rising_B1 (L1 : List Int → Int → List Int → Option (((List Int) × Unit) × Unit)) (v1 : List Int) (v2 : Int) (v3 : List Int) : Option (((List Int) × Unit) × Unit) :=
 bif decide (v2 ≤ 8) then
  Option.bind (pleachref1_Has v1 v2) fun (r4 : (Bool × Unit) × Unit) =>
  bif r4.1.1 then
   bif Nat.ble (v3.length + 1) 1073741824 then
    L1 v1 (IntKind.wrap .i64 (v2 + 1)) (v3 ++ [v2])
   else none
  else
   L1 v1 (IntKind.wrap .i64 (v2 + 1)) v3
 else
  some ((v3, ()), ())
noncomputable def pleachref7_Rising_T (L1 : List Int → Int → List Int → Option (((List Int) × Unit) × Unit)) (l_0 : List Int) : Option (((List Int) × Unit) × Unit) :=
 L1 l_0 1 []
noncomputable def pleachref7_Rising_L1 (n : Nat) : Nat → List Int → Int → List Int → Option (((List Int) × Unit) × Unit) := iter (fun _ _ _ => none) fun L => pleachref7_Rising_B1 L
noncomputable def pleachref7_Rising_X1 (n m : Nat) (v1 : List Int) (v2 : Int) (v3 : List Int) : Option (((List Int) × Unit) × Unit) :=
 atLoop pleachref7_Rising_Γ tab (fiB [.val t28] pleachref7_Rising_fi) n [.val t28] [⟨t28, [true], none⟩] Try.f31 [1, 1, 0, 1, 0] [] [0, 3, 4] m
 ⟨[(0, SV.cv (CV.one (LV.pure t28 v1))), (3, SV.cv (CV.one (LV.ref (888888, 3)))), (4, SV.cv (CV.one (LV.pure t2 v2)))],
  [((888888, 3), Ob.row 3 t2 v3)]⟩
theorem pleachref7_Rising_step1 (n m : Nat) (v1 : List Int) (v2 : Int) (v3 : List Int) : pleachref7_Rising_X1 n (m + 1) v1 v2 v3 = pleachref7_Rising_B1 (pleachref7_Rising_X1 n m) v1 v2 v3 := by kernel_rfl
theorem pleachref7_Rising_start (n : Nat) (l_0 : List Int) : evFn pleachref7_Rising_Γ tab pleachref7_Rising_fi n [.val t28] [⟨t28, [true], none⟩] Try.f31 (l_0, ()) = pleachref7_Rising_T (pleachref7_Rising_X1 n n) l_0 := by kernel_rfl
theorem pleachref7_Rising_XL1 (n : Nat) : ∀ m, pleachref7_Rising_X1 n m = pleachref7_Rising_L1 n m
 | 0 => rfl
 | m + 1 => by
  have ih := pleachref7_Rising_XL1 n m
  funext v1 v2 v3
  rw [pleachref7_Rising_step1, ih]
  rfl
noncomputable def pleachref7_Rising_n (n : Nat) (l_0 : List Int) : Option (((List Int) × Unit) × Unit) := pleachref7_Rising_T (pleachref7_Rising_L1 n n) l_0
noncomputable def pleachref7_Rising (l_0 : List Int) : Option (((List Int) × Unit) × Unit) := pleachref7_Rising_n 1099511627776 l_0
theorem pleachref7_Rising_eq (n : Nat) (l_0 : List Int) : evFn pleachref7_Rising_Γ tab pleachref7_Rising_fi n [.val t28] [⟨t28, [true], none⟩] Try.f31 (l_0, ()) = pleachref7_Rising_n n l_0 := by
  rw [pleachref7_Rising_start, pleachref7_Rising_XL1 n n]
  rfl
noncomputable def pleachref7_Rising_e : Ent := ⟨[.val t28], [⟨t28, [true], none⟩], fun x => pleachref7_Rising x.1⟩
theorem pleachref7_Rising_good : Good tab.ty Try.prog 31 pleachref7_Rising_e := by
  refine fn_good (Γ := pleachref7_Rising_Γ) (fi := pleachref7_Rising_fi) (n := 1099511627776) follows (gcons pleachref1_Has_good gnil) tabok Try.func31 (by kernel_rfl) (by kernel_rfl) (fun x r h => ?_)
  obtain ⟨l_0, _u⟩ := x
  exact (pleachref7_Rising_eq 1099511627776 l_0).trans h
noncomputable def pleachref7_Near_Γ : Ctx := [(35, pleachref1_Has_e)]
def pleachref7_Near_fi : Fi := { keep := [], vty := [], vals := [], live := [(0, [0, 1, 2, 17, 18, 19, 22, 23, 24, 25, 26, 27, 28, 29, 30, 31, 32, 33, 34, 35, 36, 37, 38, 39, 40, 41, 42, 43, 44]), (1, [0, 1, 2, 7, 17, 18, 19, 22, 23, 24, 25, 26, 27, 28, 29, 30, 31, 32, 33, 34, 35, 36, 37, 38, 39, 40, 41, 42, 43, 44]), (2, [0, 1, 2, 7, 8, 17, 18, 19, 22, 23, 24, 25, 26, 27, 28, 29, 30, 31, 32, 33, 34, 35, 36, 37, 38, 39, 40, 41, 42, 43, 44]), (3, [0, 1, 2, 7, 8, 10, 17, 18, 19, 22, 23, 24, 25, 26, 27, 28, 29, 30, 31, 32, 33, 34, 35, 36, 37, 38, 39, 40, 41, 42, 43, 44]), (4, [0, 1, 2, 7, 8, 17, 18, 19, 22, 23, 24, 25, 26, 27, 28, 29, 30, 31, 32, 33, 34, 35, 36, 37, 38, 39, 40, 41, 42, 43, 44]), (5, [0, 1, 2, 7, 8, 17, 18, 19, 22, 23, 24, 25, 26, 27, 28, 29, 30, 31, 32, 33, 34, 35, 36, 37, 38, 39, 40, 41, 42, 43, 44, 45]), (6, [0, 1, 2, 7, 8, 17, 18, 19, 22, 23, 24, 25, 26, 27, 28, 29, 30, 31, 32, 33, 34, 35, 36, 37, 38, 39, 40, 41, 42, 43, 44]), (7, [6])] }
noncomputable def pleachref7_Near_B1 (L1 : List (List Int) → Int → List Int → Int → Int → Option ((Int × Unit) × Unit)) (v1 : List (List Int)) (v2 : Int) (v3 : List Int) (v4 : Int) (v5 : Int) : Option ((Int × Unit) × Unit) :=
 bif decide (v5 ≤ 8) then
  bif v5 != v2 then
   Option.bind (pleachref1_Has v3 v5) fun (r6 : (Bool × Unit) × Unit) =>
   bif r6.1.1 then
    bif v4 == 0 then
     L1 v1 v2 v3 v5 (IntKind.wrap .i64 (v5 + 1))
    else
    bif decide (0 ≤ IntKind.wrap .i64 (v2 - 1)) && decide (IntKind.wrap .i64 (v2 - 1) < (v1.length : Int)) then
     bif decide (0 ≤ IntKind.wrap .i64 (v5 - 1)) && decide (IntKind.wrap .i64 (v5 - 1) < ((List.getD v1 ((IntKind.wrap .i64 (v2 - 1)).toNat) []).length : Int)) then
      bif decide (0 ≤ IntKind.wrap .i64 (v2 - 1)) && decide (IntKind.wrap .i64 (v2 - 1) < (v1.length : Int)) then
       bif decide (0 ≤ IntKind.wrap .i64 (v4 - 1)) && decide (IntKind.wrap .i64 (v4 - 1) < ((List.getD v1 ((IntKind.wrap .i64 (v2 - 1)).toNat) []).length : Int)) then
        bif decide (List.getD (List.getD v1 ((IntKind.wrap .i64 (v2 - 1)).toNat) []) ((IntKind.wrap .i64 (v5 - 1)).toNat) 0 < List.getD (List.getD v1 ((IntKind.wrap .i64 (v2 - 1)).toNat) []) ((IntKind.wrap .i64 (v4 - 1)).toNat) 0) then
         L1 v1 v2 v3 v5 (IntKind.wrap .i64 (v5 + 1))
        else
         L1 v1 v2 v3 v4 (IntKind.wrap .i64 (v5 + 1))
       else none
      else none
     else none
    else none
   else
    L1 v1 v2 v3 v4 (IntKind.wrap .i64 (v5 + 1))
  else
   L1 v1 v2 v3 v4 (IntKind.wrap .i64 (v5 + 1))
 else
  some ((v4, ()), ())
noncomputable def pleachref7_Near_T (L1 : List (List Int) → Int → List Int → Int → Int → Option ((Int × Unit) × Unit)) (d_0 : List (List Int)) (m_1 : Int) (l_2 : List Int) : Option ((Int × Unit) × Unit) :=
 L1 d_0 m_1 l_2 0 1
noncomputable def pleachref7_Near_L1 (n : Nat) : Nat → List (List Int) → Int → List Int → Int → Int → Option ((Int × Unit) × Unit) := iter (fun _ _ _ _ _ => none) fun L => pleachref7_Near_B1 L
noncomputable def pleachref7_Near_X1 (n m : Nat) (v1 : List (List Int)) (v2 : Int) (v3 : List Int) (v4 : Int) (v5 : Int) : Option ((Int × Unit) × Unit) :=
 atLoop pleachref7_Near_Γ tab (fiB [.val t24, .val t2, .val t28] pleachref7_Near_fi) n [.val t24, .val t2, .val t28] [⟨t2, [false], none⟩] Try.f34 [1, 1, 0, 1, 0] [] [0, 1, 2, 7, 8] m
 ⟨[(0, SV.cv (CV.one (LV.pure t24 v1))), (1, SV.cv (CV.one (LV.pure t2 v2))), (2, SV.cv (CV.one (LV.pure t28 v3))), (7, SV.cv (CV.one (LV.pure t2 v4))), (8, SV.cv (CV.one (LV.pure t2 v5)))],
  []⟩
theorem pleachref7_Near_step1 (n m : Nat) (v1 : List (List Int)) (v2 : Int) (v3 : List Int) (v4 : Int) (v5 : Int) : pleachref7_Near_X1 n (m + 1) v1 v2 v3 v4 v5 = pleachref7_Near_B1 (pleachref7_Near_X1 n m) v1 v2 v3 v4 v5 := by kernel_rfl
theorem pleachref7_Near_start (n : Nat) (d_0 : List (List Int)) (m_1 : Int) (l_2 : List Int) : evFn pleachref7_Near_Γ tab pleachref7_Near_fi n [.val t24, .val t2, .val t28] [⟨t2, [false], none⟩] Try.f34 (d_0, m_1, l_2, ()) = pleachref7_Near_T (pleachref7_Near_X1 n n) d_0 m_1 l_2 := by kernel_rfl
theorem pleachref7_Near_XL1 (n : Nat) : ∀ m, pleachref7_Near_X1 n m = pleachref7_Near_L1 n m
 | 0 => rfl
 | m + 1 => by
  have ih := pleachref7_Near_XL1 n m
  funext v1 v2 v3 v4 v5
  rw [pleachref7_Near_step1, ih]
  rfl
noncomputable def pleachref7_Near_n (n : Nat) (d_0 : List (List Int)) (m_1 : Int) (l_2 : List Int) : Option ((Int × Unit) × Unit) := pleachref7_Near_T (pleachref7_Near_L1 n n) d_0 m_1 l_2
noncomputable def pleachref7_Near (d_0 : List (List Int)) (m_1 : Int) (l_2 : List Int) : Option ((Int × Unit) × Unit) := pleachref7_Near_n 1099511627776 d_0 m_1 l_2
theorem pleachref7_Near_eq (n : Nat) (d_0 : List (List Int)) (m_1 : Int) (l_2 : List Int) : evFn pleachref7_Near_Γ tab pleachref7_Near_fi n [.val t24, .val t2, .val t28] [⟨t2, [false], none⟩] Try.f34 (d_0, m_1, l_2, ()) = pleachref7_Near_n n d_0 m_1 l_2 := by
  rw [pleachref7_Near_start, pleachref7_Near_XL1 n n]
  rfl
noncomputable def pleachref7_Near_e : Ent := ⟨[.val t24, .val t2, .val t28], [⟨t2, [false], none⟩], fun x => pleachref7_Near x.1 x.2.1 x.2.2.1⟩
theorem pleachref7_Near_good : Good tab.ty Try.prog 34 pleachref7_Near_e := by
  refine fn_good (Γ := pleachref7_Near_Γ) (fi := pleachref7_Near_fi) (n := 1099511627776) follows (gcons pleachref1_Has_good gnil) tabok Try.func34 (by kernel_rfl) (by kernel_rfl) (fun x r h => ?_)
  obtain ⟨d_0, m_1, l_2, _u⟩ := x
  exact (pleachref7_Near_eq 1099511627776 d_0 m_1 l_2).trans h
noncomputable def pleachref7_without_Γ : Ctx := []
def pleachref7_without_fi : Fi := { keep := [], vty := [(5, 28)], vals := [], live := [(0, [0, 1]), (1, [0, 1, 5]), (2, [0, 1, 5, 6]), (3, [0, 1, 5, 6, 10]), (4, [0, 1, 5, 6]), (5, [0, 1, 5, 6, 18]), (6, [0, 1, 5, 6]), (7, [4])] }
noncomputable def pleachref7_without_B1 (L1 : List Int → Int → Int → List Int → Option (((List Int) × Unit) × Unit)) (v1 : List Int) (v2 : Int) (v3 : Int) (v4 : List Int) : Option (((List Int) × Unit) × Unit) :=
 bif decide (v3 < (v1.length : Int)) then
  bif decide (0 ≤ v3) && decide (v3 < (v1.length : Int)) then
   bif (List.getD v1 v3.toNat 0) != v2 then
    bif decide (0 ≤ v3) && decide (v3 < (v1.length : Int)) then
     bif Nat.ble (v4.length + 1) 1073741824 then
      L1 v1 v2 (IntKind.wrap .i64 (v3 + 1)) (v4 ++ [List.getD v1 v3.toNat 0])
     else none
    else none
   else
    L1 v1 v2 (IntKind.wrap .i64 (v3 + 1)) v4
  else none
 else
  some ((v4, ()), ())
noncomputable def pleachref7_without_T (L1 : List Int → Int → Int → List Int → Option (((List Int) × Unit) × Unit)) (l_0 : List Int) (id_1 : Int) : Option (((List Int) × Unit) × Unit) :=
 L1 l_0 id_1 0 []
noncomputable def pleachref7_without_L1 (n : Nat) : Nat → List Int → Int → Int → List Int → Option (((List Int) × Unit) × Unit) := iter (fun _ _ _ _ => none) fun L => pleachref7_without_B1 L
noncomputable def pleachref7_without_X1 (n m : Nat) (v1 : List Int) (v2 : Int) (v3 : Int) (v4 : List Int) : Option (((List Int) × Unit) × Unit) :=
 atLoop pleachref7_without_Γ tab (fiB [.val t28, .val t2] pleachref7_without_fi) n [.val t28, .val t2] [⟨t28, [true], none⟩] Try.f48 [1, 1, 0, 1, 0] [] [0, 1, 5, 6] m
 ⟨[(0, SV.cv (CV.one (LV.pure t28 v1))), (1, SV.cv (CV.one (LV.pure t2 v2))), (5, SV.cv (CV.one (LV.ref (888888, 5)))), (6, SV.cv (CV.one (LV.pure t2 v3)))],
  [((888888, 5), Ob.row 3 t2 v4)]⟩
theorem pleachref7_without_step1 (n m : Nat) (v1 : List Int) (v2 : Int) (v3 : Int) (v4 : List Int) : pleachref7_without_X1 n (m + 1) v1 v2 v3 v4 = pleachref7_without_B1 (pleachref7_without_X1 n m) v1 v2 v3 v4 := by kernel_rfl
theorem pleachref7_without_start (n : Nat) (l_0 : List Int) (id_1 : Int) : evFn pleachref7_without_Γ tab pleachref7_without_fi n [.val t28, .val t2] [⟨t28, [true], none⟩] Try.f48 (l_0, id_1, ()) = pleachref7_without_T (pleachref7_without_X1 n n) l_0 id_1 := by kernel_rfl
theorem pleachref7_without_XL1 (n : Nat) : ∀ m, pleachref7_without_X1 n m = pleachref7_without_L1 n m
 | 0 => rfl
 | m + 1 => by
  have ih := pleachref7_without_XL1 n m
  funext v1 v2 v3 v4
  rw [pleachref7_without_step1, ih]
  rfl
noncomputable def pleachref7_without_n (n : Nat) (l_0 : List Int) (id_1 : Int) : Option (((List Int) × Unit) × Unit) := pleachref7_without_T (pleachref7_without_L1 n n) l_0 id_1
noncomputable def pleachref7_without (l_0 : List Int) (id_1 : Int) : Option (((List Int) × Unit) × Unit) := pleachref7_without_n 1099511627776 l_0 id_1
theorem pleachref7_without_eq (n : Nat) (l_0 : List Int) (id_1 : Int) : evFn pleachref7_without_Γ tab pleachref7_without_fi n [.val t28, .val t2] [⟨t28, [true], none⟩] Try.f48 (l_0, id_1, ()) = pleachref7_without_n n l_0 id_1 := by
  rw [pleachref7_without_start, pleachref7_without_XL1 n n]
  rfl
noncomputable def pleachref7_without_e : Ent := ⟨[.val t28, .val t2], [⟨t28, [true], none⟩], fun x => pleachref7_without x.1 x.2.1⟩
theorem pleachref7_without_good : Good tab.ty Try.prog 48 pleachref7_without_e := by
  refine fn_good (Γ := pleachref7_without_Γ) (fi := pleachref7_without_fi) (n := 1099511627776) follows gnil tabok Try.func48 (by kernel_rfl) (by kernel_rfl) (fun x r h => ?_)
  obtain ⟨l_0, id_1, _u⟩ := x
  exact (pleachref7_without_eq 1099511627776 l_0 id_1).trans h
noncomputable def slices_Equal_int_Γ : Ctx := []
def slices_Equal_int_fi : Fi := { keep := [], vty := [], vals := [], live := [(0, [0, 1]), (1, [0, 1, 10]), (2, [4]), (3, [0, 1, 12, 13]), (4, [0, 1, 12, 13, 14]), (5, [0, 1, 5, 12, 13]), (6, [0, 1, 12, 13, 24]), (7, [4]), (8, [0, 1, 12, 13]), (9, [4])] }
noncomputable def slices_Equal_int_B1 (L1 : List Int → List Int → Int → Int → Option ((Bool × Unit) × Unit)) (v1 : List Int) (v2 : List Int) (v3 : Int) (v4 : Int) : Option ((Bool × Unit) × Unit) :=
 bif decide (v4 < v3) then
  bif decide (0 ≤ v4) && decide (v4 < (v1.length : Int)) then
   bif decide (0 ≤ v4) && decide (v4 < (v2.length : Int)) then
    bif (List.getD v1 v4.toNat 0) != (List.getD v2 v4.toNat 0) then
     some ((false, ()), ())
    else
     L1 v1 v2 v3 (IntKind.wrap .i64 (v4 + 1))
   else none
  else none
 else
  some ((true, ()), ())
noncomputable def slices_Equal_int_T (L1 : List Int → List Int → Int → Int → Option ((Bool × Unit) × Unit)) (s1_0 : List Int) (s2_1 : List Int) : Option ((Bool × Unit) × Unit) :=
 bif (s1_0.length : Int) != (s2_1.length : Int) then
  some ((false, ()), ())
 else
  L1 s1_0 s2_1 (s1_0.length : Int) 0
noncomputable def slices_Equal_int_L1 (n : Nat) : Nat → List Int → List Int → Int → Int → Option ((Bool × Unit) × Unit) := iter (fun _ _ _ _ => none) fun L => slices_Equal_int_B1 L
noncomputable def slices_Equal_int_X1 (n m : Nat) (v1 : List Int) (v2 : List Int) (v3 : Int) (v4 : Int) : Option ((Bool × Unit) × Unit) :=
 atLoop slices_Equal_int_Γ tab (fiB [.val t28, .val t28] slices_Equal_int_fi) n [.val t28, .val t28] [⟨t4, [false], none⟩] Try.f97 [1, 1, 0, 1, 0] [] [0, 1, 12, 13] m
 ⟨[(0, SV.cv (CV.one (LV.pure t28 v1))), (1, SV.cv (CV.one (LV.pure t28 v2))), (12, SV.cv (CV.one (LV.pure t2 v3))), (13, SV.cv (CV.one (LV.pure t2 v4)))],
  []⟩
theorem slices_Equal_int_step1 (n m : Nat) (v1 : List Int) (v2 : List Int) (v3 : Int) (v4 : Int) : slices_Equal_int_X1 n (m + 1) v1 v2 v3 v4 = slices_Equal_int_B1 (slices_Equal_int_X1 n m) v1 v2 v3 v4 := by kernel_rfl
theorem slices_Equal_int_start (n : Nat) (s1_0 : List Int) (s2_1 : List Int) : evFn slices_Equal_int_Γ tab slices_Equal_int_fi n [.val t28, .val t28] [⟨t4, [false], none⟩] Try.f97 (s1_0, s2_1, ()) = slices_Equal_int_T (slices_Equal_int_X1 n n) s1_0 s2_1 := by kernel_rfl
theorem slices_Equal_int_XL1 (n : Nat) : ∀ m, slices_Equal_int_X1 n m = slices_Equal_int_L1 n m
 | 0 => rfl
 | m + 1 => by
  have ih := slices_Equal_int_XL1 n m
  funext v1 v2 v3 v4
  rw [slices_Equal_int_step1, ih]
  rfl
noncomputable def slices_Equal_int_n (n : Nat) (s1_0 : List Int) (s2_1 : List Int) : Option ((Bool × Unit) × Unit) := slices_Equal_int_T (slices_Equal_int_L1 n n) s1_0 s2_1
noncomputable def slices_Equal_int (s1_0 : List Int) (s2_1 : List Int) : Option ((Bool × Unit) × Unit) := slices_Equal_int_n 1099511627776 s1_0 s2_1
theorem slices_Equal_int_eq (n : Nat) (s1_0 : List Int) (s2_1 : List Int) : evFn slices_Equal_int_Γ tab slices_Equal_int_fi n [.val t28, .val t28] [⟨t4, [false], none⟩] Try.f97 (s1_0, s2_1, ()) = slices_Equal_int_n n s1_0 s2_1 := by
  rw [slices_Equal_int_start, slices_Equal_int_XL1 n n]
  rfl
noncomputable def slices_Equal_int_e : Ent := ⟨[.val t28, .val t28], [⟨t4, [false], none⟩], fun x => slices_Equal_int x.1 x.2.1⟩
theorem slices_Equal_int_good : Good tab.ty Try.prog 97 slices_Equal_int_e := by
  refine fn_good (Γ := slices_Equal_int_Γ) (fi := slices_Equal_int_fi) (n := 1099511627776) follows gnil tabok Try.func97 (by kernel_rfl) (by kernel_rfl) (fun x r h => ?_)
  obtain ⟨s1_0, s2_1, _u⟩ := x
  exact (slices_Equal_int_eq 1099511627776 s1_0 s2_1).trans h
end Go.PE
