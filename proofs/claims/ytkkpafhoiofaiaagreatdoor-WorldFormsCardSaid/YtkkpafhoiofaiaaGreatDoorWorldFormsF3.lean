/-
  Functions of the program, each as the evaluator answers it, and its contract.
  Conditions: none.
-/
import Derived.Test.YtkkpafhoiofaiaaGreatDoorWorldFormsF2
set_option linter.unusedVariables false
set_option maxRecDepth 100000
namespace Go.PE
open Go.Proofs

noncomputable def slices_EqualFunc_Cluster_Cluster_Cluster_Cluster_b_Γ : Ctx := []
def slices_EqualFunc_Cluster_Cluster_Cluster_Cluster_b_fi : Fi := { keep := [], vty := [(10, 190), (12, 190), (15, 190), (22, 190)], vals := [], live := [(0, [0, 1, 2]), (1, [0, 1, 2, 14]), (2, [6]), (3, [1, 2, 15, 16, 17]), (4, [1, 2, 15, 16, 17, 18]), (5, [1, 2, 7, 8, 15, 16, 17]), (6, [1, 2, 8, 9, 15, 16, 17]), (7, [1, 2, 15, 16, 17, 30]), (8, [6]), (9, [1, 2, 15, 16, 17]), (10, [6])] }
noncomputable def slices_EqualFunc_Cluster_Cluster_Cluster_Cluster_b_x (x : PDs [.val t190, .val t190, .fn [t206, t206] [t4]]) : Option (RDs [⟨t4, [false], none⟩] × ODs [.val t190, .val t190, .fn [t206, t206] [t4]]) := evFn slices_EqualFunc_Cluster_Cluster_Cluster_Cluster_b_Γ tab slices_EqualFunc_Cluster_Cluster_Cluster_Cluster_b_fi 1099511627776 [.val t190, .val t190, .fn [t206, t206] [t4]] [⟨t4, [false], none⟩] Tryz.f186 x
noncomputable def slices_EqualFunc_Cluster_Cluster_Cluster_Cluster_b (x0 : List ((List Int) × Int)) (x1 : List ((List Int) × Int)) (x2 : (((List Int) × Int) × ((List Int) × Int) × Unit → Option (Bool × Unit))) : Option ((Bool × Unit) × Unit) := slices_EqualFunc_Cluster_Cluster_Cluster_Cluster_b_x (x0, x1, x2, ())
noncomputable def slices_EqualFunc_Cluster_Cluster_Cluster_Cluster_b_e : Ent := ⟨[.val t190, .val t190, .fn [t206, t206] [t4]], [⟨t4, [false], none⟩], fun x => slices_EqualFunc_Cluster_Cluster_Cluster_Cluster_b x.1 x.2.1 x.2.2.1⟩
theorem slices_EqualFunc_Cluster_Cluster_Cluster_Cluster_b_good : Good tab.ty Tryz.prog 186 slices_EqualFunc_Cluster_Cluster_Cluster_Cluster_b_e := by
  refine fn_good (Γ := slices_EqualFunc_Cluster_Cluster_Cluster_Cluster_b_Γ) (fi := slices_EqualFunc_Cluster_Cluster_Cluster_Cluster_b_fi) (n := 1099511627776) follows gnil tabok Tryz.func186 (by kernel_rfl) (by kernel_rfl) (fun x r h => ?_)
  obtain ⟨x0, x1, x2, _u⟩ := x
  exact h
noncomputable def world_levels_fn1_Γ : Ctx := [(114, slices_Equal_int_e)]
def world_levels_fn1_fi : Fi := { keep := [], vty := [], vals := [], live := [(0, [2, 3, 11, 12, 13, 14, 15]), (1, [4])] }
noncomputable def world_levels_fn1 (c_0 : (List Int) × Int) (x_1 : (List Int) × Int) : Option ((Bool × Unit) × Unit) :=
 bif c_0.2 == x_1.2 then
  Option.bind (slices_Equal_int c_0.1 x_1.1) fun (r1 : (Bool × Unit) × Unit) =>
  some ((r1.1.1, ()), ())
 else
  some ((false, ()), ())
theorem world_levels_fn1_eq (c_0 : (List Int) × Int) (x_1 : (List Int) × Int) : evFn world_levels_fn1_Γ tab world_levels_fn1_fi 1 [.val t206, .val t206] [⟨t4, [false], none⟩] Tryz.f187 (c_0, x_1, ()) = world_levels_fn1 c_0 x_1 := by kernel_rfl
noncomputable def world_levels_fn1_e : Ent := ⟨[.val t206, .val t206], [⟨t4, [false], none⟩], fun x => world_levels_fn1 x.1 x.2.1⟩
theorem world_levels_fn1_good : Good tab.ty Tryz.prog 187 world_levels_fn1_e := by
  refine fn_good (Γ := world_levels_fn1_Γ) (fi := world_levels_fn1_fi) (n := 1) follows (gcons slices_Equal_int_good gnil) tabok Tryz.func187 (by kernel_rfl) (by kernel_rfl) (fun x r h => ?_)
  obtain ⟨c_0, x_1, _u⟩ := x
  exact (world_levels_fn1_eq c_0 x_1).trans h
noncomputable def world_levels_Γ : Ctx := [(186, slices_EqualFunc_Cluster_Cluster_Cluster_Cluster_b_e), (187, world_levels_fn1_e)]
def world_levels_fi : Fi := { keep := [], vty := [], vals := [], live := [(0, [0, 1]), (1, [4])] }
noncomputable def world_levels (a_0 : List ((List Int) × Int)) (b_1 : List ((List Int) × Int)) : Option ((Bool × Unit) × Unit) :=
 Option.bind (slices_EqualFunc_Cluster_Cluster_Cluster_Cluster_b a_0 b_1 (fun x => (world_levels_fn1 x.1 x.2.1).bind fun r => some (r.1.1, ()))) fun (r1 : (Bool × Unit) × Unit) =>
 some ((r1.1.1, ()), ())
theorem world_levels_eq (a_0 : List ((List Int) × Int)) (b_1 : List ((List Int) × Int)) : evFn world_levels_Γ tab world_levels_fi 1 [.val t190, .val t190] [⟨t4, [false], none⟩] Tryz.f116 (a_0, b_1, ()) = world_levels a_0 b_1 := by kernel_rfl
noncomputable def world_levels_e : Ent := ⟨[.val t190, .val t190], [⟨t4, [false], none⟩], fun x => world_levels x.1 x.2.1⟩
theorem world_levels_good : Good tab.ty Tryz.prog 116 world_levels_e := by
  refine fn_good (Γ := world_levels_Γ) (fi := world_levels_fi) (n := 1) follows (gcons slices_EqualFunc_Cluster_Cluster_Cluster_Cluster_b_good (gcons world_levels_fn1_good gnil)) tabok Tryz.func116 (by kernel_rfl) (by kernel_rfl) (fun x r h => ?_)
  obtain ⟨a_0, b_1, _u⟩ := x
  exact (world_levels_eq a_0 b_1).trans h
noncomputable def world_Same_Γ : Ctx := [(109, slices_EqualFunc_Node_Node_Node_Node_e), (110, world_nodes_e), (111, slices_Equal_Gram_e), (112, slices_Equal_string_e), (113, slices_EqualFunc_int_int_int_int_e), (114, slices_Equal_int_e), (115, slices_EqualFunc_Cluster_Cluster_Cluster_Cluster_e), (116, world_levels_e)]
def world_Same_fi : Fi := { keep := [], vty := [], vals := [], live := [(0, [2, 3, 12, 13, 14, 15, 16, 17, 20, 21, 22, 23, 24, 25, 35, 36, 37, 38, 39, 40, 41, 44, 45, 46, 47, 48, 49, 50]), (1, [2, 3, 26, 35, 36, 37, 38, 39, 40, 41, 44, 45, 46, 47, 48, 49, 50]), (2, [4]), (3, [4])] }
noncomputable def world_Same_x (x : PDs [.val t53, .val t53]) : Option (RDs [⟨t4, [false], none⟩] × ODs [.val t53, .val t53]) := evFn world_Same_Γ tab world_Same_fi 1099511627776 [.val t53, .val t53] [⟨t4, [false], none⟩] Tryz.f45 x
noncomputable def world_Same (x0 : (List (Bool × Int × ByteArray × (Int × Int × Int × Int × Int × Int × (List Int) × Int × Int × Int × Int × Int × List (Int × Int × Int)) × (Int × Int × (List (Int × ByteArray)) × (List (Int × ByteArray)) × (List (Int × Int × Int × ByteArray × Int)) × Int × Int) × Int)) × (List (Int × ByteArray × Bool)) × (List ByteArray) × Int × (List (List Int)) × List (List ((List Int) × Int))) (x1 : (List (Bool × Int × ByteArray × (Int × Int × Int × Int × Int × Int × (List Int) × Int × Int × Int × Int × Int × List (Int × Int × Int)) × (Int × Int × (List (Int × ByteArray)) × (List (Int × ByteArray)) × (List (Int × Int × Int × ByteArray × Int)) × Int × Int) × Int)) × (List (Int × ByteArray × Bool)) × (List ByteArray) × Int × (List (List Int)) × List (List ((List Int) × Int))) : Option ((Bool × Unit) × Unit) := world_Same_x (x0, x1, ())
noncomputable def world_Same_e : Ent := ⟨[.val t53, .val t53], [⟨t4, [false], none⟩], fun x => world_Same x.1 x.2.1⟩
theorem world_Same_good : Good tab.ty Tryz.prog 45 world_Same_e := by
  refine fn_good (Γ := world_Same_Γ) (fi := world_Same_fi) (n := 1099511627776) follows (gcons slices_EqualFunc_Node_Node_Node_Node_good (gcons world_nodes_good (gcons slices_Equal_Gram_good (gcons slices_Equal_string_good (gcons slices_EqualFunc_int_int_int_int_good (gcons slices_Equal_int_good (gcons slices_EqualFunc_Cluster_Cluster_Cluster_Cluster_good (gcons world_levels_good gnil)))))))) tabok Tryz.func45 (by kernel_rfl) (by kernel_rfl) (fun x r h => ?_)
  obtain ⟨x0, x1, _u⟩ := x
  exact h
noncomputable def pleachlaw22_begun_Γ : Ctx := [(13, world_New_e), (14, pleachmade_Made_e), (15, pleachmade_Picks_Dist_e), (16, world_Do_e), (44, world_Up_e), (45, world_Same_e)]
def pleachlaw22_begun_fi : Fi := { keep := [], vty := [(9, 23), (10, 69), (73, 23), (78, 69), (83, 69), (88, 69)], vals := [], live := [(0, [42, 43, 46, 47, 48, 49, 52, 53, 54, 55, 56, 59, 60, 63, 64, 65, 66, 69, 70, 73, 74, 75, 78, 79, 80, 83, 84, 85, 88, 89, 90, 91, 94, 95, 96]), (1, [1, 2, 42, 43, 46, 47, 48, 49, 52, 53, 54, 55, 56, 59, 60, 63, 64, 65, 66, 69, 70, 73, 74, 75, 78, 79, 80, 83, 84, 85, 88, 89, 90, 91, 94, 95, 96]), (2, [1, 2, 3, 4, 42, 43, 46, 47, 48, 49, 52, 53, 54, 55, 56, 59, 60, 63, 64, 65, 66, 69, 70, 73, 74, 75, 78, 79, 80, 83, 84, 85, 88, 89, 90, 91, 94, 95, 96]), (3, [1, 2, 3, 4, 5, 6, 42, 43, 46, 47, 48, 49, 52, 53, 54, 55, 56, 59, 60, 63, 64, 65, 66, 69, 70, 73, 74, 75, 78, 79, 80, 83, 84, 85, 88, 89, 90, 91, 94, 95, 96]), (4, [1, 2, 3, 4, 5, 6, 8, 42, 43, 46, 47, 48, 49, 52, 53, 54, 55, 56, 59, 60, 63, 64, 65, 66, 69, 70, 73, 74, 75, 78, 79, 80, 83, 84, 85, 88, 89, 90, 91, 94, 95, 96]), (5, [1, 2, 3, 4, 5, 6, 8, 9, 10, 42, 43, 46, 47, 48, 49, 52, 53, 54, 55, 56, 59, 60, 63, 64, 65, 66, 69, 70, 73, 74, 75, 78, 79, 80, 83, 84, 85, 88, 89, 90, 91, 94, 95, 96]), (6, [0])] }
noncomputable def pleachlaw22_begun_x (x : PDs []) : Option (RDs [⟨t4, [false], none⟩] × ODs []) := evFn pleachlaw22_begun_Γ tab pleachlaw22_begun_fi 1099511627776 [] [⟨t4, [false], none⟩] Tryz.f12 x
noncomputable def pleachlaw22_begun  : Option ((Bool × Unit) × Unit) := pleachlaw22_begun_x (())
noncomputable def pleachlaw22_begun_e : Ent := ⟨[], [⟨t4, [false], none⟩], fun x => pleachlaw22_begun⟩
theorem pleachlaw22_begun_good : Good tab.ty Tryz.prog 12 pleachlaw22_begun_e := by
  refine fn_good (Γ := pleachlaw22_begun_Γ) (fi := pleachlaw22_begun_fi) (n := 1099511627776) follows (gcons world_New_good (gcons pleachmade_Made_good (gcons pleachmade_Picks_Dist_good (gcons world_Do_good (gcons world_Up_good (gcons world_Same_good gnil)))))) tabok Tryz.func12 (by kernel_rfl) (by kernel_rfl) (fun x r h => ?_)
  exact h
noncomputable def pleachlaw22_WorldForms_Γ : Ctx := [(12, pleachlaw22_begun_e), (13, world_New_e), (14, pleachmade_Made_e), (15, pleachmade_Picks_Dist_e), (16, world_Do_e)]
def pleachlaw22_WorldForms_fi : Fi := { keep := [], vty := [(3, 62), (4, 64), (48, 62), (55, 62), (63, 64), (68, 64)], vals := [], live := [(0, [67, 68, 69, 70, 71, 72, 75, 76, 77, 78, 81, 82, 83, 84, 85, 86, 87, 88, 89, 90, 93, 94, 95, 96, 97, 98, 99, 100, 101, 102, 103, 104, 105, 106, 107, 108, 109, 110, 115, 116, 117, 118, 121, 122, 123, 124, 125, 126, 129, 130, 131, 132, 133, 134, 137, 138, 139, 140, 143, 144, 145, 146, 147]), (1, [9, 67, 68, 69, 70, 71, 72, 75, 76, 77, 78, 81, 82, 83, 84, 85, 86, 87, 88, 89, 90, 93, 94, 95, 96, 97, 98, 99, 100, 101, 102, 103, 104, 105, 106, 107, 108, 109, 110, 115, 116, 117, 118, 121, 122, 123, 124, 125, 126, 129, 130, 131, 132, 133, 134, 137, 138, 139, 140, 143, 144, 145, 146, 147]), (2, [0]), (3, [1, 2, 67, 68, 69, 70, 71, 72, 75, 76, 77, 78, 81, 82, 83, 84, 85, 86, 87, 88, 89, 90, 93, 94, 95, 96, 97, 98, 99, 100, 101, 102, 103, 104, 105, 106, 107, 108, 109, 110, 115, 116, 117, 118, 121, 122, 123, 124, 125, 126, 129, 130, 131, 132, 133, 134, 137, 138, 139, 140, 143, 144, 145, 146, 147]), (4, [1, 2, 3, 67, 68, 69, 70, 71, 72, 75, 76, 77, 78, 81, 82, 83, 84, 85, 86, 87, 88, 89, 90, 93, 94, 95, 96, 97, 98, 99, 100, 101, 102, 103, 104, 105, 106, 107, 108, 109, 110, 115, 116, 117, 118, 121, 122, 123, 124, 125, 126, 129, 130, 131, 132, 133, 134, 137, 138, 139, 140, 143, 144, 145, 146, 147]), (5, [1, 2, 3, 4, 67, 68, 69, 70, 71, 72, 75, 76, 77, 78, 81, 82, 83, 84, 85, 86, 87, 88, 89, 90, 93, 94, 95, 96, 97, 98, 99, 100, 101, 102, 103, 104, 105, 106, 107, 108, 109, 110, 115, 116, 117, 118, 121, 122, 123, 124, 125, 126, 129, 130, 131, 132, 133, 134, 137, 138, 139, 140, 143, 144, 145, 146, 147]), (6, [1, 2, 3, 4, 5, 67, 68, 69, 70, 71, 72, 75, 76, 77, 78, 81, 82, 83, 84, 85, 86, 87, 88, 89, 90, 93, 94, 95, 96, 97, 98, 99, 100, 101, 102, 103, 104, 105, 106, 107, 108, 109, 110, 115, 116, 117, 118, 121, 122, 123, 124, 125, 126, 129, 130, 131, 132, 133, 134, 137, 138, 139, 140, 143, 144, 145, 146, 147]), (7, [1, 2, 3, 4, 5, 50, 67, 68, 69, 70, 71, 72, 75, 76, 77, 78, 81, 82, 83, 84, 85, 86, 87, 88, 89, 90, 93, 94, 95, 96, 97, 98, 99, 100, 101, 102, 103, 104, 105, 106, 107, 108, 109, 110, 115, 116, 117, 118, 121, 122, 123, 124, 125, 126, 129, 130, 131, 132, 133, 134, 137, 138, 139, 140, 143, 144, 145, 146, 147]), (8, [1, 2, 3, 4, 5, 67, 68, 69, 70, 71, 72, 75, 76, 77, 78, 81, 82, 83, 84, 85, 86, 87, 88, 89, 90, 93, 94, 95, 96, 97, 98, 99, 100, 101, 102, 103, 104, 105, 106, 107, 108, 109, 110, 115, 116, 117, 118, 121, 122, 123, 124, 125, 126, 129, 130, 131, 132, 133, 134, 137, 138, 139, 140, 143, 144, 145, 146, 147]), (9, [1, 2, 3, 4, 5, 6, 7, 67, 68, 69, 70, 71, 72, 75, 76, 77, 78, 81, 82, 83, 84, 85, 86, 87, 88, 89, 90, 93, 94, 95, 96, 97, 98, 99, 100, 101, 102, 103, 104, 105, 106, 107, 108, 109, 110, 115, 116, 117, 118, 121, 122, 123, 124, 125, 126, 129, 130, 131, 132, 133, 134, 137, 138, 139, 140, 143, 144, 145, 146, 147]), (10, [1, 2, 3, 4, 5, 6, 67, 68, 69, 70, 71, 72, 75, 76, 77, 78, 81, 82, 83, 84, 85, 86, 87, 88, 89, 90, 93, 94, 95, 96, 97, 98, 99, 100, 101, 102, 103, 104, 105, 106, 107, 108, 109, 110, 111, 115, 116, 117, 118, 121, 122, 123, 124, 125, 126, 129, 130, 131, 132, 133, 134, 137, 138, 139, 140, 143, 144, 145, 146, 147]), (11, [0]), (12, [1, 2, 3, 4, 5, 67, 68, 69, 70, 71, 72, 75, 76, 77, 78, 81, 82, 83, 84, 85, 86, 87, 88, 89, 90, 93, 94, 95, 96, 97, 98, 99, 100, 101, 102, 103, 104, 105, 106, 107, 108, 109, 110, 115, 116, 117, 118, 121, 122, 123, 124, 125, 126, 129, 130, 131, 132, 133, 134, 137, 138, 139, 140, 143, 144, 145, 146, 147]), (13, [0])] }
noncomputable def pleachlaw22_WorldForms_x (x : PDs []) : Option (RDs [⟨t4, [false], none⟩] × ODs []) := evFn pleachlaw22_WorldForms_Γ tab pleachlaw22_WorldForms_fi 1099511627776 [] [⟨t4, [false], none⟩] Tryz.f4 x
noncomputable def pleachlaw22_WorldForms  : Option ((Bool × Unit) × Unit) := pleachlaw22_WorldForms_x (())
noncomputable def pleachlaw22_WorldForms_e : Ent := ⟨[], [⟨t4, [false], none⟩], fun x => pleachlaw22_WorldForms⟩
theorem pleachlaw22_WorldForms_good : Good tab.ty Tryz.prog 4 pleachlaw22_WorldForms_e := by
  refine fn_good (Γ := pleachlaw22_WorldForms_Γ) (fi := pleachlaw22_WorldForms_fi) (n := 1099511627776) follows (gcons pleachlaw22_begun_good (gcons world_New_good (gcons pleachmade_Made_good (gcons pleachmade_Picks_Dist_good (gcons world_Do_good gnil))))) tabok Tryz.func4 (by kernel_rfl) (by kernel_rfl) (fun x r h => ?_)
  exact h
end Go.PE
