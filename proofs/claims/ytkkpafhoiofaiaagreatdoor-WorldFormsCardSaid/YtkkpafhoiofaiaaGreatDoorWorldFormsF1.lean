/-
  Functions of the program, each as the evaluator answers it, and its contract.
  Conditions: none.
-/
import Derived.Test.YtkkpafhoiofaiaaGreatDoorWorldFormsT
import Derived.WalkKit
import Derived.BigCall
import Derived.Lib.OthersKept
set_option linter.unusedVariables false
set_option maxRecDepth 100000
namespace Go.PE
open Go.Proofs

noncomputable def pleachmade_Made_Γ : Ctx := []
def pleachmade_Made_fi : Fi := { keep := [], vty := [], vals := [], live := [(0, [0]), (1, [2])] }
noncomputable def pleachmade_Made (l_0 : List Int) : Option ((((List Int) × Int) × Unit) × Unit) :=
 some (((l_0, 0), ()), ())
theorem pleachmade_Made_eq (l_0 : List Int) : evFn pleachmade_Made_Γ tab pleachmade_Made_fi 1 [.val t43] [⟨t103, [false, false], some 104⟩] Tryz.f14 (l_0, ()) = pleachmade_Made l_0 := by kernel_rfl
noncomputable def pleachmade_Made_e : Ent := ⟨[.val t43], [⟨t103, [false, false], some 104⟩], fun x => pleachmade_Made x.1⟩
theorem pleachmade_Made_good : Good tab.ty Tryz.prog 14 pleachmade_Made_e := by
  refine fn_good (Γ := pleachmade_Made_Γ) (fi := pleachmade_Made_fi) (n := 1) follows gnil tabok Tryz.func14 (by kernel_rfl) (by kernel_rfl) (fun x r h => ?_)
  obtain ⟨l_0, _u⟩ := x
  exact (pleachmade_Made_eq l_0).trans h
noncomputable def pleachmade_Picks_Num_Γ : Ctx := []
def pleachmade_Picks_Num_fi : Fi := { keep := [], vty := [], vals := [], live := [(0, [0, 1, 16, 17]), (1, [0, 1, 18]), (2, [0, 4]), (3, [0, 1]), (4, [0, 4])] }
noncomputable def pleachmade_Picks_Num (p_0 : (List Int) × Int) (m_1 : Int) : Option ((Int × Unit) × (((List Int) × Int) × Unit)) :=
 bif decide (p_0.2 ≥ (p_0.1.length : Int)) then
  some ((0, ()), (p_0, ()))
 else
 bif decide (m_1 < 1) then
  some ((0, ()), (p_0, ()))
 else
 bif decide (0 ≤ IntKind.wrap .i64 ((IntKind.wrap .i64 (p_0.2 + 1)) - 1)) && decide (IntKind.wrap .i64 ((IntKind.wrap .i64 (p_0.2 + 1)) - 1) < (p_0.1.length : Int)) then
  bif !(m_1 == 0) then
   some ((Int.tmod (IntKind.wrap .i64 (List.getD p_0.1 ((IntKind.wrap .i64 ((IntKind.wrap .i64 (p_0.2 + 1)) - 1)).toNat) 0)) m_1, ()), ((p_0.1, IntKind.wrap .i64 (p_0.2 + 1)), ()))
  else none
 else none
theorem pleachmade_Picks_Num_eq (p_0 : (List Int) × Int) (m_1 : Int) : evFn pleachmade_Picks_Num_Γ tab pleachmade_Picks_Num_fi 1 [.box 104 t103 [false, false], .val t2] [⟨t2, [false], none⟩] Tryz.f48 (p_0, m_1, ()) = pleachmade_Picks_Num p_0 m_1 := by kernel_rfl
noncomputable def pleachmade_Picks_Num_e : Ent := ⟨[.box 104 t103 [false, false], .val t2], [⟨t2, [false], none⟩], fun x => pleachmade_Picks_Num x.1 x.2.1⟩
theorem pleachmade_Picks_Num_good : Good tab.ty Tryz.prog 48 pleachmade_Picks_Num_e := by
  refine fn_good (Γ := pleachmade_Picks_Num_Γ) (fi := pleachmade_Picks_Num_fi) (n := 1) follows gnil tabok Tryz.func48 (by kernel_rfl) (by kernel_rfl) (fun x r h => ?_)
  obtain ⟨p_0, m_1, _u⟩ := x
  exact (pleachmade_Picks_Num_eq p_0 m_1).trans h
noncomputable def pleachmade_Picks_Dist_Γ : Ctx := [(48, pleachmade_Picks_Num_e)]
def pleachmade_Picks_Dist_fi : Fi := { keep := [], vty := [(2, 49), (3, 49), (12, 49), (30, 49), (35, 49), (44, 49)], vals := [(3, 999)], live := [(0, [0]), (1, [0, 3]), (2, [0, 3, 4]), (3, [0, 3, 4, 9]), (4, [0, 3, 4]), (5, [0, 3, 4]), (6, [0, 3, 5]), (7, [0, 3, 5, 17]), (8, [0, 3, 5]), (9, [0, 3, 5, 6]), (10, [0, 3, 5, 6, 22]), (11, [0, 3, 5, 6]), (12, [0, 3, 5, 6, 7]), (13, [0, 3, 5, 6]), (14, [0, 2])], melt := [(14, 3)] }
noncomputable def pleachmade_Picks_Dist_x (x : PDs [.box 104 t103 [false, false]]) : Option (RDs [⟨t49, [true], none⟩] × ODs [.box 104 t103 [false, false]]) := evFn pleachmade_Picks_Dist_Γ tab pleachmade_Picks_Dist_fi 40 [.box 104 t103 [false, false]] [⟨t49, [true], none⟩] Tryz.f15 x
noncomputable def pleachmade_Picks_Dist (x0 : (List Int) × Int) : Option (((List (List Int)) × Unit) × (((List Int) × Int) × Unit)) := pleachmade_Picks_Dist_x (x0, ())
noncomputable def pleachmade_Picks_Dist_e : Ent := ⟨[.box 104 t103 [false, false]], [⟨t49, [true], none⟩], fun x => pleachmade_Picks_Dist x.1⟩
theorem pleachmade_Picks_Dist_good : Good tab.ty Tryz.prog 15 pleachmade_Picks_Dist_e := by
  refine fn_good (Γ := pleachmade_Picks_Dist_Γ) (fi := pleachmade_Picks_Dist_fi) (n := 40) follows (gcons pleachmade_Picks_Num_good gnil) tabok Tryz.func15 (by kernel_rfl) (by kernel_rfl) (fun x r h => ?_)
  obtain ⟨x0, _u⟩ := x
  exact h
noncomputable def slices_IndexFunc_ints_Γ : Ctx := []
def slices_IndexFunc_ints_fi : Fi := { keep := [], vty := [(6, 49), (12, 49)], vals := [], live := [(0, [0, 1]), (1, [0, 1, 7, 8]), (2, [0, 1, 7, 8, 9]), (3, [0, 1, 5, 7, 8]), (4, [0, 1, 5, 7, 8, 16]), (5, [4]), (6, [0, 1, 7, 8]), (7, [4])] }
noncomputable def slices_IndexFunc_ints_x (x : PDs [.val t49, .fn [t23] [t4]]) : Option (RDs [⟨t2, [false], none⟩] × ODs [.val t49, .fn [t23] [t4]]) := evFn slices_IndexFunc_ints_Γ tab slices_IndexFunc_ints_fi 1099511627776 [.val t49, .fn [t23] [t4]] [⟨t2, [false], none⟩] Tryz.f259 x
noncomputable def slices_IndexFunc_ints (x0 : List (List Int)) (x1 : ((List Int) × Unit → Option (Bool × Unit))) : Option ((Int × Unit) × Unit) := slices_IndexFunc_ints_x (x0, x1, ())
noncomputable def slices_IndexFunc_ints_e : Ent := ⟨[.val t49, .fn [t23] [t4]], [⟨t2, [false], none⟩], fun x => slices_IndexFunc_ints x.1 x.2.1⟩
theorem slices_IndexFunc_ints_good : Good tab.ty Tryz.prog 259 slices_IndexFunc_ints_e := by
  refine fn_good (Γ := slices_IndexFunc_ints_Γ) (fi := slices_IndexFunc_ints_fi) (n := 1099511627776) follows gnil tabok Tryz.func259 (by kernel_rfl) (by kernel_rfl) (fun x r h => ?_)
  obtain ⟨x0, x1, _u⟩ := x
  exact h
noncomputable def slices_ContainsFunc_ints_Γ : Ctx := [(259, slices_IndexFunc_ints_e)]
def slices_ContainsFunc_ints_fi : Fi := { keep := [], vty := [], vals := [], live := [(0, [0, 1]), (1, [4])] }
noncomputable def slices_ContainsFunc_ints (s_0 : List (List Int)) (f_1 : ((List Int) × Unit → Option (Bool × Unit))) : Option ((Bool × Unit) × Unit) :=
 Option.bind (slices_IndexFunc_ints s_0 f_1) fun (r1 : (Int × Unit) × Unit) =>
 some ((decide (r1.1.1 ≥ 0), ()), ())
theorem slices_ContainsFunc_ints_eq (s_0 : List (List Int)) (f_1 : ((List Int) × Unit → Option (Bool × Unit))) : evFn slices_ContainsFunc_ints_Γ tab slices_ContainsFunc_ints_fi 1 [.val t49, .fn [t23] [t4]] [⟨t4, [false], none⟩] Tryz.f188 (s_0, f_1, ()) = slices_ContainsFunc_ints s_0 f_1 := by kernel_rfl
noncomputable def slices_ContainsFunc_ints_e : Ent := ⟨[.val t49, .fn [t23] [t4]], [⟨t4, [false], none⟩], fun x => slices_ContainsFunc_ints x.1 x.2.1⟩
theorem slices_ContainsFunc_ints_good : Good tab.ty Tryz.prog 188 slices_ContainsFunc_ints_e := by
  refine fn_good (Γ := slices_ContainsFunc_ints_Γ) (fi := slices_ContainsFunc_ints_fi) (n := 1) follows (gcons slices_IndexFunc_ints_good gnil) tabok Tryz.func188 (by kernel_rfl) (by kernel_rfl) (fun x r h => ?_)
  obtain ⟨s_0, f_1, _u⟩ := x
  exact (slices_ContainsFunc_ints_eq s_0 f_1).trans h
noncomputable def hier_dist_fn1_Γ : Ctx := []
def hier_dist_fn1_fi : Fi := { keep := [], vty := [], vals := [], live := [(0, [0]), (1, [2])] }
noncomputable def hier_dist_fn1 (l_0 : List Int) : Option ((Bool × Unit) × Unit) :=
 some (((l_0.length : Int) != 8, ()), ())
theorem hier_dist_fn1_eq (l_0 : List Int) : evFn hier_dist_fn1_Γ tab hier_dist_fn1_fi 1 [.val t23] [⟨t4, [false], none⟩] Tryz.f189 (l_0, ()) = hier_dist_fn1 l_0 := by kernel_rfl
noncomputable def hier_dist_fn1_e : Ent := ⟨[.val t23], [⟨t4, [false], none⟩], fun x => hier_dist_fn1 x.1⟩
theorem hier_dist_fn1_good : Good tab.ty Tryz.prog 189 hier_dist_fn1_e := by
  refine fn_good (Γ := hier_dist_fn1_Γ) (fi := hier_dist_fn1_fi) (n := 1) follows gnil tabok Tryz.func189 (by kernel_rfl) (by kernel_rfl) (fun x r h => ?_)
  obtain ⟨l_0, _u⟩ := x
  exact (hier_dist_fn1_eq l_0).trans h
noncomputable def hier_dist_Γ : Ctx := [(188, slices_ContainsFunc_ints_e), (189, hier_dist_fn1_e)]
def hier_dist_fi : Fi := { keep := [], vty := [(4, 23), (7, 49), (11, 49), (14, 49), (21, 23), (36, 49)], vals := [], live := [(0, [0, 11, 12, 31, 32, 35, 36, 37, 38, 39, 40, 41, 42, 43, 46, 47, 48, 49, 50, 51, 52]), (1, [0, 13, 31, 32, 35, 36, 37, 38, 39, 40, 41, 42, 43, 46, 47, 48, 49, 50, 51, 52]), (2, [2]), (3, [0, 14, 15, 16, 31, 32, 35, 36, 37, 38, 39, 40, 41, 42, 43, 46, 47, 48, 49, 50, 51, 52]), (4, [0, 14, 15, 16, 17, 31, 32, 35, 36, 37, 38, 39, 40, 41, 42, 43, 46, 47, 48, 49, 50, 51, 52]), (5, [0, 3, 4, 14, 15, 16, 31, 32, 35, 36, 37, 38, 39, 40, 41, 42, 43, 46, 47, 48, 49, 50, 51, 52]), (6, [0, 3, 14, 15, 16, 21, 22, 23, 31, 32, 35, 36, 37, 38, 39, 40, 41, 42, 43, 46, 47, 48, 49, 50, 51, 52]), (7, [0, 3, 14, 15, 16, 21, 22, 23, 24, 31, 32, 35, 36, 37, 38, 39, 40, 41, 42, 43, 46, 47, 48, 49, 50, 51, 52]), (8, [0, 3, 5, 6, 14, 15, 16, 21, 22, 23, 31, 32, 35, 36, 37, 38, 39, 40, 41, 42, 43, 46, 47, 48, 49, 50, 51, 52]), (9, [0, 3, 14, 15, 16, 21, 22, 23, 31, 32, 35, 36, 37, 38, 39, 40, 41, 42, 43, 46, 47, 48, 49, 50, 51, 52, 53]), (10, [2]), (11, [0, 3, 14, 15, 16, 21, 22, 23, 31, 32, 35, 36, 37, 38, 39, 40, 41, 42, 43, 46, 47, 48, 49, 50, 51, 52]), (12, [0, 14, 15, 16, 31, 32, 35, 36, 37, 38, 39, 40, 41, 42, 43, 46, 47, 48, 49, 50, 51, 52]), (13, [2])] }
noncomputable def hier_dist_x (x : PDs [.val t49]) : Option (RDs [⟨t4, [false], none⟩] × ODs [.val t49]) := evFn hier_dist_Γ tab hier_dist_fi 1099511627776 [.val t49] [⟨t4, [false], none⟩] Tryz.f117 x
noncomputable def hier_dist (x0 : List (List Int)) : Option ((Bool × Unit) × Unit) := hier_dist_x (x0, ())
noncomputable def hier_dist_e : Ent := ⟨[.val t49], [⟨t4, [false], none⟩], fun x => hier_dist x.1⟩
theorem hier_dist_good : Good tab.ty Tryz.prog 117 hier_dist_e := by
  refine fn_good (Γ := hier_dist_Γ) (fi := hier_dist_fi) (n := 1099511627776) follows (gcons slices_ContainsFunc_ints_good (gcons hier_dist_fn1_good gnil)) tabok Tryz.func117 (by kernel_rfl) (by kernel_rfl) (fun x r h => ?_)
  obtain ⟨x0, _u⟩ := x
  exact h
noncomputable def slices_Clone_ints (s : List (List Int)) : Option (((List (List Int)) × Unit) × Unit) := bif Nat.ble s.length 1073741824 then some ((s, ()), ()) else none
theorem slices_Clone_ints_raw (s : List (List Int)) : evFn [] tab (fiOf Tryz.f190 []) 1 [.val t49] [⟨t49, [true], none⟩] Tryz.f190 (s, ()) = bif !(List.isEmpty s) then bif Nat.ble (0 + s.length) 1073741824 then some (([] ++ s, ()), ()) else none
 else bothEq (some (([], ()), ())) (bif Nat.ble (0 + s.length) 1073741824 then some (([] ++ s, ()), ()) else none) := by kernel_rfl
theorem slices_Clone_ints_eq (s : List (List Int)) : evFn [] tab (fiOf Tryz.f190 []) 1 [.val t49] [⟨t49, [true], none⟩] Tryz.f190 (s, ()) = slices_Clone_ints s := by
  rw [slices_Clone_ints_raw]
  cases s with
  | nil => exact bothEq_same _
  | cons x q => rw [Nat.zero_add]; rfl
noncomputable def slices_Clone_ints_e : Ent := ⟨[.val t49], [⟨t49, [true], none⟩], fun x => slices_Clone_ints x.1⟩
theorem slices_Clone_ints_good : Good tab.ty Tryz.prog 190 slices_Clone_ints_e := by
  refine fn_good (Γ := []) (fi := fiOf Tryz.f190 []) (n := 1) follows gnil tabok Tryz.func190 (by kernel_rfl) (by kernel_rfl) (fun x r h => ?_)
  obtain ⟨s, _u⟩ := x
  exact (slices_Clone_ints_eq s).trans h
noncomputable def slices_Clone_int (s : List Int) : Option (((List Int) × Unit) × Unit) := bif Nat.ble s.length 1073741824 then some ((s, ()), ()) else none
theorem slices_Clone_int_raw (s : List Int) : evFn [] tab (fiOf Tryz.f67 []) 1 [.val t23] [⟨t23, [true], none⟩] Tryz.f67 (s, ()) = bif !(List.isEmpty s) then bif Nat.ble (0 + s.length) 1073741824 then some (([] ++ s, ()), ()) else none
 else bothEq (some (([], ()), ())) (bif Nat.ble (0 + s.length) 1073741824 then some (([] ++ s, ()), ()) else none) := by kernel_rfl
theorem slices_Clone_int_eq (s : List Int) : evFn [] tab (fiOf Tryz.f67 []) 1 [.val t23] [⟨t23, [true], none⟩] Tryz.f67 (s, ()) = slices_Clone_int s := by
  rw [slices_Clone_int_raw]
  cases s with
  | nil => exact bothEq_same _
  | cons x q => rw [Nat.zero_add]; rfl
noncomputable def slices_Clone_int_e : Ent := ⟨[.val t23], [⟨t23, [true], none⟩], fun x => slices_Clone_int x.1⟩
theorem slices_Clone_int_good : Good tab.ty Tryz.prog 67 slices_Clone_int_e := by
  refine fn_good (Γ := []) (fi := fiOf Tryz.f67 []) (n := 1) follows gnil tabok Tryz.func67 (by kernel_rfl) (by kernel_rfl) (fun x r h => ?_)
  obtain ⟨s, _u⟩ := x
  exact (slices_Clone_int_eq s).trans h
noncomputable def hier_twin_Γ : Ctx := [(67, slices_Clone_int_e), (190, slices_Clone_ints_e)]
def hier_twin_fi : Fi := { keep := [], vty := [], vals := [], live := [(0, [0]), (1, [0, 3]), (2, [3, 8, 9, 10]), (3, [3, 8, 9, 10, 11]), (4, [3, 4, 5, 8, 9, 10]), (5, [3, 8, 9, 10]), (6, [3, 8, 9, 10]), (7, [2])] }
noncomputable def hier_twin_B1 (L1 : List (List Int) → Int → Int → List (List Int) → Option (((List (List Int)) × Unit) × Unit)) (v2 : List (List Int)) (v3 : Int) (v4 : Int) (v5 : List (List Int)) : Option (((List (List Int)) × Unit) × Unit) :=
 bif decide (v4 < v3) then
  bif decide (0 ≤ v4) && decide (v4 < (v2.length : Int)) then
   Option.bind (slices_Clone_int (List.getD v2 v4.toNat [])) fun (r6 : ((List Int) × Unit) × Unit) =>
   bif decide (0 ≤ v4) && decide (v4 < (v5.length : Int)) then
    bif decide (0 ≤ v4) && decide (v4 < (v5.length : Int)) then
     L1 v2 v3 (IntKind.wrap .i64 (v4 + 1)) (List.set v5 v4.toNat r6.1.1)
    else none
   else none
  else none
 else
  some ((v5, ()), ())
noncomputable def hier_twin_T (L1 : List (List Int) → Int → Int → List (List Int) → Option (((List (List Int)) × Unit) × Unit)) (d_0 : List (List Int)) : Option (((List (List Int)) × Unit) × Unit) :=
 Option.bind (slices_Clone_ints d_0) fun (r1 : ((List (List Int)) × Unit) × Unit) =>
 L1 d_0 (d_0.length : Int) 0 r1.1.1
noncomputable def hier_twin_L1 (n : Nat) : Nat → List (List Int) → Int → Int → List (List Int) → Option (((List (List Int)) × Unit) × Unit) := iter (fun _ _ _ _ => none) fun L => hier_twin_B1 L
noncomputable def hier_twin_X1 (n m : Nat) (v2 : List (List Int)) (v3 : Int) (v4 : Int) (v5 : List (List Int)) : Option (((List (List Int)) × Unit) × Unit) :=
 atLoop hier_twin_Γ tab (fiB [.val t49] hier_twin_fi) n [.val t49] [⟨t49, [true], none⟩] Tryz.f118 [1, 1, 0, 1, 0] [] [3, 8, 9, 10] m
 ⟨[(3, SV.cv (CV.one (LV.ref (888888, 3)))), (8, SV.cv (CV.one (LV.pure t49 v2))), (9, SV.cv (CV.one (LV.pure t2 v3))), (10, SV.cv (CV.one (LV.pure t2 v4)))],
  [((888888, 3), Ob.row 23 t23 v5)]⟩
theorem hier_twin_step1 (n m : Nat) (v2 : List (List Int)) (v3 : Int) (v4 : Int) (v5 : List (List Int)) : hier_twin_X1 n (m + 1) v2 v3 v4 v5 = hier_twin_B1 (hier_twin_X1 n m) v2 v3 v4 v5 := by kernel_rfl
theorem hier_twin_start (n : Nat) (d_0 : List (List Int)) : evFn hier_twin_Γ tab hier_twin_fi n [.val t49] [⟨t49, [true], none⟩] Tryz.f118 (d_0, ()) = hier_twin_T (hier_twin_X1 n n) d_0 := by kernel_rfl
theorem hier_twin_XL1 (n : Nat) : ∀ m, hier_twin_X1 n m = hier_twin_L1 n m
 | 0 => rfl
 | m + 1 => by
  have ih := hier_twin_XL1 n m
  funext v2 v3 v4 v5
  rw [hier_twin_step1, ih]
  rfl
noncomputable def hier_twin_n (n : Nat) (d_0 : List (List Int)) : Option (((List (List Int)) × Unit) × Unit) := hier_twin_T (hier_twin_L1 n n) d_0
noncomputable def hier_twin (d_0 : List (List Int)) : Option (((List (List Int)) × Unit) × Unit) := hier_twin_n 1099511627776 d_0
theorem hier_twin_eq (n : Nat) (d_0 : List (List Int)) : evFn hier_twin_Γ tab hier_twin_fi n [.val t49] [⟨t49, [true], none⟩] Tryz.f118 (d_0, ()) = hier_twin_n n d_0 := by
  rw [hier_twin_start, hier_twin_XL1 n n]
  rfl
noncomputable def hier_twin_e : Ent := ⟨[.val t49], [⟨t49, [true], none⟩], fun x => hier_twin x.1⟩
theorem hier_twin_good : Good tab.ty Tryz.prog 118 hier_twin_e := by
  refine fn_good (Γ := hier_twin_Γ) (fi := hier_twin_fi) (n := 1099511627776) follows (gcons slices_Clone_int_good (gcons slices_Clone_ints_good gnil)) tabok Tryz.func118 (by kernel_rfl) (by kernel_rfl) (fun x r h => ?_)
  obtain ⟨d_0, _u⟩ := x
  exact (hier_twin_eq 1099511627776 d_0).trans h
noncomputable def hier_New_Γ : Ctx := [(117, hier_dist_e), (118, hier_twin_e)]
def hier_New_fi : Fi := { keep := [], vty := [], vals := [], live := [(0, [0, 1, 4, 10, 11, 14, 15]), (1, [0, 1, 4, 16]), (2, [4, 5]), (3, [4, 5])] }
noncomputable def hier_New (d_0 : List (List Int)) (k_1 : Int) : Option (((Int × (List (List Int)) × List (List ((List Int) × Int))) × Bool × Unit) × Unit) :=
 Option.bind (hier_dist d_0) fun (r1 : (Bool × Unit) × Unit) =>
 bif !r1.1.1 then
  some (((0, [], []), false, ()), ())
 else
 bif decide (k_1 < 1) then
  some (((0, [], []), false, ()), ())
 else
 bif decide (k_1 > 3) then
  some (((0, [], []), false, ()), ())
 else
  Option.bind (hier_twin d_0) fun (r2 : ((List (List Int)) × Unit) × Unit) =>
  some (((k_1, r2.1.1, []), true, ()), ())
theorem hier_New_eq (d_0 : List (List Int)) (k_1 : Int) : evFn hier_New_Γ tab hier_New_fi 1 [.val t49, .val t2] [⟨t51, [false, true, true], none⟩, ⟨t4, [false], none⟩] Tryz.f46 (d_0, k_1, ()) = hier_New d_0 k_1 := by kernel_rfl
noncomputable def hier_New_e : Ent := ⟨[.val t49, .val t2], [⟨t51, [false, true, true], none⟩, ⟨t4, [false], none⟩], fun x => hier_New x.1 x.2.1⟩
theorem hier_New_good : Good tab.ty Tryz.prog 46 hier_New_e := by
  refine fn_good (Γ := hier_New_Γ) (fi := hier_New_fi) (n := 1) follows (gcons hier_dist_good (gcons hier_twin_good gnil)) tabok Tryz.func46 (by kernel_rfl) (by kernel_rfl) (fun x r h => ?_)
  obtain ⟨d_0, k_1, _u⟩ := x
  exact (hier_New_eq d_0 k_1).trans h
noncomputable def slices_Clone_Clusters (s : List (List ((List Int) × Int))) : Option (((List (List ((List Int) × Int))) × Unit) × Unit) := bif Nat.ble s.length 1073741824 then some ((s, ()), ()) else none
theorem slices_Clone_Clusters_raw (s : List (List ((List Int) × Int))) : evFn [] tab (fiOf Tryz.f131 []) 1 [.val t50] [⟨t50, [true], none⟩] Tryz.f131 (s, ()) = bif !(List.isEmpty s) then bif Nat.ble (0 + s.length) 1073741824 then some (([] ++ s, ()), ()) else none
 else bothEq (some (([], ()), ())) (bif Nat.ble (0 + s.length) 1073741824 then some (([] ++ s, ()), ()) else none) := by kernel_rfl
theorem slices_Clone_Clusters_eq (s : List (List ((List Int) × Int))) : evFn [] tab (fiOf Tryz.f131 []) 1 [.val t50] [⟨t50, [true], none⟩] Tryz.f131 (s, ()) = slices_Clone_Clusters s := by
  rw [slices_Clone_Clusters_raw]
  cases s with
  | nil => exact bothEq_same _
  | cons x q => rw [Nat.zero_add]; rfl
noncomputable def slices_Clone_Clusters_e : Ent := ⟨[.val t50], [⟨t50, [true], none⟩], fun x => slices_Clone_Clusters x.1⟩
theorem slices_Clone_Clusters_good : Good tab.ty Tryz.prog 131 slices_Clone_Clusters_e := by
  refine fn_good (Γ := []) (fi := fiOf Tryz.f131 []) (n := 1) follows gnil tabok Tryz.func131 (by kernel_rfl) (by kernel_rfl) (fun x r h => ?_)
  obtain ⟨s, _u⟩ := x
  exact (slices_Clone_Clusters_eq s).trans h
noncomputable def slices_Clone_Cluster (s : List ((List Int) × Int)) : Option (((List ((List Int) × Int)) × Unit) × Unit) := bif Nat.ble s.length 1073741824 then some ((s, ()), ()) else none
theorem slices_Clone_Cluster_raw (s : List ((List Int) × Int)) : evFn [] tab (fiOf Tryz.f132 []) 1 [.val t190] [⟨t190, [true], none⟩] Tryz.f132 (s, ()) = bif !(List.isEmpty s) then bif Nat.ble (0 + s.length) 1073741824 then some (([] ++ s, ()), ()) else none
 else bothEq (some (([], ()), ())) (bif Nat.ble (0 + s.length) 1073741824 then some (([] ++ s, ()), ()) else none) := by kernel_rfl
theorem slices_Clone_Cluster_eq (s : List ((List Int) × Int)) : evFn [] tab (fiOf Tryz.f132 []) 1 [.val t190] [⟨t190, [true], none⟩] Tryz.f132 (s, ()) = slices_Clone_Cluster s := by
  rw [slices_Clone_Cluster_raw]
  cases s with
  | nil => exact bothEq_same _
  | cons x q => rw [Nat.zero_add]; rfl
noncomputable def slices_Clone_Cluster_e : Ent := ⟨[.val t190], [⟨t190, [true], none⟩], fun x => slices_Clone_Cluster x.1⟩
theorem slices_Clone_Cluster_good : Good tab.ty Tryz.prog 132 slices_Clone_Cluster_e := by
  refine fn_good (Γ := []) (fi := fiOf Tryz.f132 []) (n := 1) follows gnil tabok Tryz.func132 (by kernel_rfl) (by kernel_rfl) (fun x r h => ?_)
  obtain ⟨s, _u⟩ := x
  exact (slices_Clone_Cluster_eq s).trans h
noncomputable def hier_clusters_Γ : Ctx := [(67, slices_Clone_int_e), (132, slices_Clone_Cluster_e)]
def hier_clusters_fi : Fi := { keep := [], vty := [], vals := [], live := [(0, [0]), (1, [0]), (2, [0, 7, 8, 9]), (3, [0, 7, 8, 9, 10]), (4, [0, 3, 4, 7, 8, 9]), (5, [0, 7, 8, 9]), (6, [0, 7, 8, 9]), (7, [2])] }
noncomputable def hier_clusters_B1 (L1 : Int → Int → (List ((List Int) × Int)) → Option (((List ((List Int) × Int)) × Unit) × Unit)) (v2 : Int) (v3 : Int) (v4 : List ((List Int) × Int)) : Option (((List ((List Int) × Int)) × Unit) × Unit) :=
 bif decide (v3 < v2) then
  bif decide (0 ≤ v3) && decide (v3 < (v4.length : Int)) then
   bif decide (0 ≤ v3) && decide (v3 < (v4.length : Int)) then
    Option.bind (slices_Clone_int ((List.getD v4 v3.toNat ([], 0)).1)) fun (r5 : ((List Int) × Unit) × Unit) =>
    bif decide (0 ≤ v3) && decide (v3 < (v4.length : Int)) then
     bif decide (0 ≤ v3) && decide (v3 < (v4.length : Int)) then
      L1 v2 (IntKind.wrap .i64 (v3 + 1)) (List.set v4 v3.toNat (r5.1.1, (List.getD v4 v3.toNat ([], 0)).2))
     else none
    else none
   else none
  else none
 else
  some ((v4, ()), ())
noncomputable def hier_clusters_T (L1 : Int → Int → (List ((List Int) × Int)) → Option (((List ((List Int) × Int)) × Unit) × Unit)) (cs_0 : List ((List Int) × Int)) : Option (((List ((List Int) × Int)) × Unit) × Unit) :=
 Option.bind (slices_Clone_Cluster cs_0) fun (r1 : ((List ((List Int) × Int)) × Unit) × Unit) =>
 L1 (r1.1.1.length : Int) 0 r1.1.1
noncomputable def hier_clusters_L1 (n : Nat) : Nat → Int → Int → (List ((List Int) × Int)) → Option (((List ((List Int) × Int)) × Unit) × Unit) := iter (fun _ _ _ => none) fun L => hier_clusters_B1 L
noncomputable def hier_clusters_X1 (n m : Nat) (v2 : Int) (v3 : Int) (v4 : List ((List Int) × Int)) : Option (((List ((List Int) × Int)) × Unit) × Unit) :=
 atLoop hier_clusters_Γ tab (fiB [.val t190] hier_clusters_fi) n [.val t190] [⟨t190, [true], none⟩] Tryz.f191 [1, 1, 0, 1, 0] [] [0, 7, 8, 9] m
 ⟨[(0, SV.cv (CV.one (LV.ref (888888, 7)))), (7, SV.cv (CV.one (LV.ref (888888, 7)))), (8, SV.cv (CV.one (LV.pure t2 v2))), (9, SV.cv (CV.one (LV.pure t2 v3)))],
  [((888888, 7), Ob.row 207 t206 v4)]⟩
theorem hier_clusters_step1 (n m : Nat) (v2 : Int) (v3 : Int) (v4 : List ((List Int) × Int)) : hier_clusters_X1 n (m + 1) v2 v3 v4 = hier_clusters_B1 (hier_clusters_X1 n m) v2 v3 v4 := by kernel_rfl
theorem hier_clusters_start (n : Nat) (cs_0 : List ((List Int) × Int)) : evFn hier_clusters_Γ tab hier_clusters_fi n [.val t190] [⟨t190, [true], none⟩] Tryz.f191 (cs_0, ()) = hier_clusters_T (hier_clusters_X1 n n) cs_0 := by kernel_rfl
theorem hier_clusters_XL1 (n : Nat) : ∀ m, hier_clusters_X1 n m = hier_clusters_L1 n m
 | 0 => rfl
 | m + 1 => by
  have ih := hier_clusters_XL1 n m
  funext v2 v3 v4
  rw [hier_clusters_step1, ih]
  rfl
noncomputable def hier_clusters_n (n : Nat) (cs_0 : List ((List Int) × Int)) : Option (((List ((List Int) × Int)) × Unit) × Unit) := hier_clusters_T (hier_clusters_L1 n n) cs_0
noncomputable def hier_clusters (cs_0 : List ((List Int) × Int)) : Option (((List ((List Int) × Int)) × Unit) × Unit) := hier_clusters_n 1099511627776 cs_0
theorem hier_clusters_eq (n : Nat) (cs_0 : List ((List Int) × Int)) : evFn hier_clusters_Γ tab hier_clusters_fi n [.val t190] [⟨t190, [true], none⟩] Tryz.f191 (cs_0, ()) = hier_clusters_n n cs_0 := by
  rw [hier_clusters_start, hier_clusters_XL1 n n]
  rfl
noncomputable def hier_clusters_e : Ent := ⟨[.val t190], [⟨t190, [true], none⟩], fun x => hier_clusters x.1⟩
theorem hier_clusters_good : Good tab.ty Tryz.prog 191 hier_clusters_e := by
  refine fn_good (Γ := hier_clusters_Γ) (fi := hier_clusters_fi) (n := 1099511627776) follows (gcons slices_Clone_int_good (gcons slices_Clone_Cluster_good gnil)) tabok Tryz.func191 (by kernel_rfl) (by kernel_rfl) (fun x r h => ?_)
  obtain ⟨cs_0, _u⟩ := x
  exact (hier_clusters_eq 1099511627776 cs_0).trans h
noncomputable def hier_copied_Γ : Ctx := [(118, hier_twin_e), (131, slices_Clone_Clusters_e), (191, hier_clusters_e)]
def hier_copied_fi : Fi := { keep := [], vty := [(4, 190), (24, 190)], vals := [], live := [(0, [1, 2]), (1, [1, 2]), (2, [1, 2, 14, 15, 16]), (3, [1, 2, 14, 15, 16, 17]), (4, [1, 2, 3, 4, 14, 15, 16]), (5, [1, 2, 14, 15, 16]), (6, [1, 2, 14, 15, 16]), (7, [2])] }
noncomputable def hier_copied_x (x : PDs [.val t51]) : Option (RDs [⟨t51, [false, true, true], none⟩] × ODs [.val t51]) := evFn hier_copied_Γ tab hier_copied_fi 1099511627776 [.val t51] [⟨t51, [false, true, true], none⟩] Tryz.f119 x
noncomputable def hier_copied (x0 : Int × (List (List Int)) × List (List ((List Int) × Int))) : Option (((Int × (List (List Int)) × List (List ((List Int) × Int))) × Unit) × Unit) := hier_copied_x (x0, ())
noncomputable def hier_copied_e : Ent := ⟨[.val t51], [⟨t51, [false, true, true], none⟩], fun x => hier_copied x.1⟩
theorem hier_copied_good : Good tab.ty Tryz.prog 119 hier_copied_e := by
  refine fn_good (Γ := hier_copied_Γ) (fi := hier_copied_fi) (n := 1099511627776) follows (gcons hier_twin_good (gcons slices_Clone_Clusters_good (gcons hier_clusters_good gnil))) tabok Tryz.func119 (by kernel_rfl) (by kernel_rfl) (fun x r h => ?_)
  obtain ⟨x0, _u⟩ := x
  exact h
noncomputable def hier_all_Γ : Ctx := []
def hier_all_fi : Fi := { keep := [], vty := [], vals := [], live := [(0, [1]), (1, [1, 6]), (2, [2]), (3, [2])] }
noncomputable def hier_all (h_0 : Int × (List (List Int)) × List (List ((List Int) × Int))) : Option (((List ((List Int) × Int)) × Unit) × Unit) :=
 bif (h_0.2.2.length : Int) == 0 then
  some (([], ()), ())
 else
 bif decide (0 < (h_0.2.2.length : Int)) then
  some ((List.getD h_0.2.2 0 [], ()), ())
 else none
theorem hier_all_eq (h_0 : Int × (List (List Int)) × List (List ((List Int) × Int))) : evFn hier_all_Γ tab hier_all_fi 1 [.val t51] [⟨t190, [false], none⟩] Tryz.f121 (h_0, ()) = hier_all h_0 := by kernel_rfl
noncomputable def hier_all_e : Ent := ⟨[.val t51], [⟨t190, [false], none⟩], fun x => hier_all x.1⟩
theorem hier_all_good : Good tab.ty Tryz.prog 121 hier_all_e := by
  refine fn_good (Γ := hier_all_Γ) (fi := hier_all_fi) (n := 1) follows gnil tabok Tryz.func121 (by kernel_rfl) (by kernel_rfl) (fun x r h => ?_)
  obtain ⟨h_0, _u⟩ := x
  exact (hier_all_eq h_0).trans h
noncomputable def slices_IndexFunc_Cluster_Γ : Ctx := []
def slices_IndexFunc_Cluster_fi : Fi := { keep := [], vty := [(6, 190), (12, 190)], vals := [], live := [(0, [0, 1]), (1, [0, 1, 7, 8]), (2, [0, 1, 7, 8, 9]), (3, [0, 1, 5, 7, 8]), (4, [0, 1, 5, 7, 8, 16]), (5, [4]), (6, [0, 1, 7, 8]), (7, [4])] }
noncomputable def slices_IndexFunc_Cluster_x (x : PDs [.val t190, .fn [t206] [t4]]) : Option (RDs [⟨t2, [false], none⟩] × ODs [.val t190, .fn [t206] [t4]]) := evFn slices_IndexFunc_Cluster_Γ tab slices_IndexFunc_Cluster_fi 1099511627776 [.val t190, .fn [t206] [t4]] [⟨t2, [false], none⟩] Tryz.f192 x
noncomputable def slices_IndexFunc_Cluster (x0 : List ((List Int) × Int)) (x1 : (((List Int) × Int) × Unit → Option (Bool × Unit))) : Option ((Int × Unit) × Unit) := slices_IndexFunc_Cluster_x (x0, x1, ())
noncomputable def slices_IndexFunc_Cluster_e : Ent := ⟨[.val t190, .fn [t206] [t4]], [⟨t2, [false], none⟩], fun x => slices_IndexFunc_Cluster x.1 x.2.1⟩
theorem slices_IndexFunc_Cluster_good : Good tab.ty Tryz.prog 192 slices_IndexFunc_Cluster_e := by
  refine fn_good (Γ := slices_IndexFunc_Cluster_Γ) (fi := slices_IndexFunc_Cluster_fi) (n := 1099511627776) follows gnil tabok Tryz.func192 (by kernel_rfl) (by kernel_rfl) (fun x r h => ?_)
  obtain ⟨x0, x1, _u⟩ := x
  exact h
noncomputable def slices_Index_int_Γ : Ctx := []
def slices_Index_int_fi : Fi := { keep := [], vty := [], vals := [], live := [(0, [0, 1]), (1, [0, 1, 7, 8]), (2, [0, 1, 7, 8, 9]), (3, [0, 1, 5, 7, 8]), (4, [0, 1, 5, 7, 8, 16]), (5, [4]), (6, [0, 1, 7, 8]), (7, [4])] }
noncomputable def slices_Index_int_B1 (L1 : List Int → Int → Int → Int → Option ((Int × Unit) × Unit)) (v1 : List Int) (v2 : Int) (v3 : Int) (v4 : Int) : Option ((Int × Unit) × Unit) :=
 bif decide (v4 < v3) then
  bif decide (0 ≤ v4) && decide (v4 < (v1.length : Int)) then
   bif v2 == (List.getD v1 v4.toNat 0) then
    some ((v4, ()), ())
   else
    L1 v1 v2 v3 (IntKind.wrap .i64 (v4 + 1))
  else none
 else
  some (((-1), ()), ())
noncomputable def slices_Index_int_T (L1 : List Int → Int → Int → Int → Option ((Int × Unit) × Unit)) (s_0 : List Int) (v_1 : Int) : Option ((Int × Unit) × Unit) :=
 L1 s_0 v_1 (s_0.length : Int) 0
noncomputable def slices_Index_int_L1 (n : Nat) : Nat → List Int → Int → Int → Int → Option ((Int × Unit) × Unit) := iter (fun _ _ _ _ => none) fun L => slices_Index_int_B1 L
noncomputable def slices_Index_int_X1 (n m : Nat) (v1 : List Int) (v2 : Int) (v3 : Int) (v4 : Int) : Option ((Int × Unit) × Unit) :=
 atLoop slices_Index_int_Γ tab (fiB [.val t23, .val t2] slices_Index_int_fi) n [.val t23, .val t2] [⟨t2, [false], none⟩] Tryz.f260 [1, 0, 1, 0] [] [0, 1, 7, 8] m
 ⟨[(0, SV.cv (CV.one (LV.pure t23 v1))), (1, SV.cv (CV.one (LV.pure t2 v2))), (7, SV.cv (CV.one (LV.pure t2 v3))), (8, SV.cv (CV.one (LV.pure t2 v4)))],
  []⟩
theorem slices_Index_int_step1 (n m : Nat) (v1 : List Int) (v2 : Int) (v3 : Int) (v4 : Int) : slices_Index_int_X1 n (m + 1) v1 v2 v3 v4 = slices_Index_int_B1 (slices_Index_int_X1 n m) v1 v2 v3 v4 := by kernel_rfl
theorem slices_Index_int_start (n : Nat) (s_0 : List Int) (v_1 : Int) : evFn slices_Index_int_Γ tab slices_Index_int_fi n [.val t23, .val t2] [⟨t2, [false], none⟩] Tryz.f260 (s_0, v_1, ()) = slices_Index_int_T (slices_Index_int_X1 n n) s_0 v_1 := by kernel_rfl
theorem slices_Index_int_XL1 (n : Nat) : ∀ m, slices_Index_int_X1 n m = slices_Index_int_L1 n m
 | 0 => rfl
 | m + 1 => by
  have ih := slices_Index_int_XL1 n m
  funext v1 v2 v3 v4
  rw [slices_Index_int_step1, ih]
  rfl
noncomputable def slices_Index_int_n (n : Nat) (s_0 : List Int) (v_1 : Int) : Option ((Int × Unit) × Unit) := slices_Index_int_T (slices_Index_int_L1 n n) s_0 v_1
noncomputable def slices_Index_int (s_0 : List Int) (v_1 : Int) : Option ((Int × Unit) × Unit) := slices_Index_int_n 1099511627776 s_0 v_1
theorem slices_Index_int_eq (n : Nat) (s_0 : List Int) (v_1 : Int) : evFn slices_Index_int_Γ tab slices_Index_int_fi n [.val t23, .val t2] [⟨t2, [false], none⟩] Tryz.f260 (s_0, v_1, ()) = slices_Index_int_n n s_0 v_1 := by
  rw [slices_Index_int_start, slices_Index_int_XL1 n n]
  rfl
noncomputable def slices_Index_int_e : Ent := ⟨[.val t23, .val t2], [⟨t2, [false], none⟩], fun x => slices_Index_int x.1 x.2.1⟩
theorem slices_Index_int_good : Good tab.ty Tryz.prog 260 slices_Index_int_e := by
  refine fn_good (Γ := slices_Index_int_Γ) (fi := slices_Index_int_fi) (n := 1099511627776) follows gnil tabok Tryz.func260 (by kernel_rfl) (by kernel_rfl) (fun x r h => ?_)
  obtain ⟨s_0, v_1, _u⟩ := x
  exact (slices_Index_int_eq 1099511627776 s_0 v_1).trans h
noncomputable def slices_Contains_int_Γ : Ctx := [(260, slices_Index_int_e)]
def slices_Contains_int_fi : Fi := { keep := [], vty := [], vals := [], live := [(0, [0, 1]), (1, [4])] }
noncomputable def slices_Contains_int (s_0 : List Int) (v_1 : Int) : Option ((Bool × Unit) × Unit) :=
 Option.bind (slices_Index_int s_0 v_1) fun (r1 : (Int × Unit) × Unit) =>
 some ((decide (r1.1.1 ≥ 0), ()), ())
theorem slices_Contains_int_eq (s_0 : List Int) (v_1 : Int) : evFn slices_Contains_int_Γ tab slices_Contains_int_fi 1 [.val t23, .val t2] [⟨t4, [false], none⟩] Tryz.f194 (s_0, v_1, ()) = slices_Contains_int s_0 v_1 := by kernel_rfl
noncomputable def slices_Contains_int_e : Ent := ⟨[.val t23, .val t2], [⟨t4, [false], none⟩], fun x => slices_Contains_int x.1 x.2.1⟩
theorem slices_Contains_int_good : Good tab.ty Tryz.prog 194 slices_Contains_int_e := by
  refine fn_good (Γ := slices_Contains_int_Γ) (fi := slices_Contains_int_fi) (n := 1) follows (gcons slices_Index_int_good gnil) tabok Tryz.func194 (by kernel_rfl) (by kernel_rfl) (fun x r h => ?_)
  obtain ⟨s_0, v_1, _u⟩ := x
  exact (slices_Contains_int_eq s_0 v_1).trans h
noncomputable def hier_find_fn1_Γ : Ctx := [(194, slices_Contains_int_e)]
def hier_find_fn1_fi : Fi := { keep := [], vty := [], vals := [], live := [(0, [1, 2]), (1, [3])] }
noncomputable def hier_find_fn1 (c_0 : (List Int) × Int) (x_1 : Int) : Option ((Bool × Unit) × Unit) :=
 Option.bind (slices_Contains_int c_0.1 x_1) fun (r1 : (Bool × Unit) × Unit) =>
 some ((r1.1.1, ()), ())
theorem hier_find_fn1_eq (c_0 : (List Int) × Int) (x_1 : Int) : evFn hier_find_fn1_Γ tab hier_find_fn1_fi 1 [.val t206, .rbox t2] [⟨t4, [false], none⟩] Tryz.f193 (c_0, x_1, ()) = hier_find_fn1 c_0 x_1 := by kernel_rfl
noncomputable def hier_find_fn1_e : Ent := ⟨[.val t206, .rbox t2], [⟨t4, [false], none⟩], fun x => hier_find_fn1 x.1 x.2.1⟩
theorem hier_find_fn1_good : Good tab.ty Tryz.prog 193 hier_find_fn1_e := by
  refine fn_good (Γ := hier_find_fn1_Γ) (fi := hier_find_fn1_fi) (n := 1) follows (gcons slices_Contains_int_good gnil) tabok Tryz.func193 (by kernel_rfl) (by kernel_rfl) (fun x r h => ?_)
  obtain ⟨c_0, x_1, _u⟩ := x
  exact (hier_find_fn1_eq c_0 x_1).trans h
noncomputable def hier_find_Γ : Ctx := [(192, slices_IndexFunc_Cluster_e), (193, hier_find_fn1_e)]
def hier_find_fi : Fi := { keep := [], vty := [], vals := [], live := [(0, [0, 3]), (1, [4])] }
noncomputable def hier_find (cs_0 : List ((List Int) × Int)) (id_1 : Int) : Option ((Int × Unit) × Unit) :=
 Option.bind (slices_IndexFunc_Cluster cs_0 (fun x => (hier_find_fn1 x.1 id_1).bind fun r => some (r.1.1, ()))) fun (r1 : (Int × Unit) × Unit) =>
 some ((r1.1.1, ()), ())
theorem hier_find_eq (cs_0 : List ((List Int) × Int)) (id_1 : Int) : evFn hier_find_Γ tab hier_find_fi 1 [.val t190, .val t2] [⟨t2, [false], none⟩] Tryz.f120 (cs_0, id_1, ()) = hier_find cs_0 id_1 := by kernel_rfl
noncomputable def hier_find_e : Ent := ⟨[.val t190, .val t2], [⟨t2, [false], none⟩], fun x => hier_find x.1 x.2.1⟩
theorem hier_find_good : Good tab.ty Tryz.prog 120 hier_find_e := by
  refine fn_good (Γ := hier_find_Γ) (fi := hier_find_fi) (n := 1) follows (gcons slices_IndexFunc_Cluster_good (gcons hier_find_fn1_good gnil)) tabok Tryz.func120 (by kernel_rfl) (by kernel_rfl) (fun x r h => ?_)
  obtain ⟨cs_0, id_1, _u⟩ := x
  exact (hier_find_eq cs_0 id_1).trans h
noncomputable def mid_least_Γ : Ctx := []
def mid_least_fi : Fi := { keep := [], vty := [(10, 23)], vals := [], live := [(0, [0, 1, 4, 24, 25, 26, 27, 28, 29, 30, 31, 32, 33, 34, 35, 36, 37, 38, 39, 40]), (1, [0, 1, 4, 5, 24, 25, 26, 27, 28, 29, 30, 31, 32, 33, 34, 35, 36, 37, 38, 39, 40]), (2, [1, 4, 5, 10, 11, 12, 24, 25, 26, 27, 28, 29, 30, 31, 32, 33, 34, 35, 36, 37, 38, 39, 40]), (3, [1, 4, 5, 10, 11, 12, 13, 24, 25, 26, 27, 28, 29, 30, 31, 32, 33, 34, 35, 36, 37, 38, 39, 40]), (4, [1, 4, 5, 7, 10, 11, 12, 24, 25, 26, 27, 28, 29, 30, 31, 32, 33, 34, 35, 36, 37, 38, 39, 40]), (5, [1, 4, 5, 7, 8, 9, 10, 11, 12, 24, 25, 26, 27, 28, 29, 30, 31, 32, 33, 34, 35, 36, 37, 38, 39, 40]), (6, [1, 4, 5, 7, 8, 10, 11, 12, 24, 25, 26, 27, 28, 29, 30, 31, 32, 33, 34, 35, 36, 37, 38, 39, 40, 41]), (7, [1, 4, 5, 10, 11, 12, 24, 25, 26, 27, 28, 29, 30, 31, 32, 33, 34, 35, 36, 37, 38, 39, 40]), (8, [1, 4, 5, 10, 11, 12, 24, 25, 26, 27, 28, 29, 30, 31, 32, 33, 34, 35, 36, 37, 38, 39, 40]), (9, [4])] }
noncomputable def mid_least_x (x : PDs [.val t23, .fn [t2] [t2, t4]]) : Option (RDs [⟨t2, [false], none⟩] × ODs [.val t23, .fn [t2] [t2, t4]]) := evFn mid_least_Γ tab mid_least_fi 1099511627776 [.val t23, .fn [t2] [t2, t4]] [⟨t2, [false], none⟩] Tryz.f267 x
noncomputable def mid_least (x0 : List Int) (x1 : (Int × Unit → Option (Int × Bool × Unit))) : Option ((Int × Unit) × Unit) := mid_least_x (x0, x1, ())
noncomputable def mid_least_e : Ent := ⟨[.val t23, .fn [t2] [t2, t4]], [⟨t2, [false], none⟩], fun x => mid_least x.1 x.2.1⟩
theorem mid_least_good : Good tab.ty Tryz.prog 267 mid_least_e := by
  refine fn_good (Γ := mid_least_Γ) (fi := mid_least_fi) (n := 1099511627776) follows gnil tabok Tryz.func267 (by kernel_rfl) (by kernel_rfl) (fun x r h => ?_)
  obtain ⟨x0, x1, _u⟩ := x
  exact h
noncomputable def mid_dist_Γ : Ctx := []
def mid_dist_fi : Fi := { keep := [], vty := [], vals := [], live := [(0, [0, 1, 2, 10, 11, 12, 13, 16, 17, 20, 21, 22, 23, 24, 25, 26, 27]), (1, [0, 1, 2, 28]), (2, [6]), (3, [6])] }
noncomputable def mid_dist (d_0 : List (List Int)) (a_1 : Int) (b_2 : Int) : Option ((Int × Unit) × Unit) :=
 bif decide (a_1 < 1) then
  some ((0, ()), ())
 else
 bif decide (a_1 > (d_0.length : Int)) then
  some ((0, ()), ())
 else
 bif decide (b_2 < 1) then
  some ((0, ()), ())
 else
 bif decide (0 ≤ IntKind.wrap .i64 (a_1 - 1)) && decide (IntKind.wrap .i64 (a_1 - 1) < (d_0.length : Int)) then
  bif decide (b_2 > ((List.getD d_0 ((IntKind.wrap .i64 (a_1 - 1)).toNat) []).length : Int)) then
   some ((0, ()), ())
  else
  bif decide (0 ≤ IntKind.wrap .i64 (a_1 - 1)) && decide (IntKind.wrap .i64 (a_1 - 1) < (d_0.length : Int)) then
   bif decide (0 ≤ IntKind.wrap .i64 (b_2 - 1)) && decide (IntKind.wrap .i64 (b_2 - 1) < ((List.getD d_0 ((IntKind.wrap .i64 (a_1 - 1)).toNat) []).length : Int)) then
    some ((List.getD (List.getD d_0 ((IntKind.wrap .i64 (a_1 - 1)).toNat) []) ((IntKind.wrap .i64 (b_2 - 1)).toNat) 0, ()), ())
   else none
  else none
 else none
theorem mid_dist_eq (d_0 : List (List Int)) (a_1 : Int) (b_2 : Int) : evFn mid_dist_Γ tab mid_dist_fi 1 [.val t49, .val t2, .val t2] [⟨t2, [false], none⟩] Tryz.f269 (d_0, a_1, b_2, ()) = mid_dist d_0 a_1 b_2 := by kernel_rfl
noncomputable def mid_dist_e : Ent := ⟨[.val t49, .val t2, .val t2], [⟨t2, [false], none⟩], fun x => mid_dist x.1 x.2.1 x.2.2.1⟩
theorem mid_dist_good : Good tab.ty Tryz.prog 269 mid_dist_e := by
  refine fn_good (Γ := mid_dist_Γ) (fi := mid_dist_fi) (n := 1) follows gnil tabok Tryz.func269 (by kernel_rfl) (by kernel_rfl) (fun x r h => ?_)
  obtain ⟨d_0, a_1, b_2, _u⟩ := x
  exact (mid_dist_eq d_0 a_1 b_2).trans h
noncomputable def mid_Near_fn1_Γ : Ctx := [(269, mid_dist_e)]
def mid_Near_fn1_fi : Fi := { keep := [], vty := [], vals := [], live := [(0, [0, 1, 2]), (1, [4, 5])] }
noncomputable def mid_Near_fn1 (x_0 : Int) (x_1 : List (List Int)) (x_2 : Int) : Option ((Int × Bool × Unit) × Unit) :=
 Option.bind (mid_dist x_1 x_2 x_0) fun (r1 : (Int × Unit) × Unit) =>
 some ((r1.1.1, x_0 != x_2, ()), ())
theorem mid_Near_fn1_eq (x_0 : Int) (x_1 : List (List Int)) (x_2 : Int) : evFn mid_Near_fn1_Γ tab mid_Near_fn1_fi 1 [.val t2, .rbox t49, .rbox t2] [⟨t2, [false], none⟩, ⟨t4, [false], none⟩] Tryz.f268 (x_0, x_1, x_2, ()) = mid_Near_fn1 x_0 x_1 x_2 := by kernel_rfl
noncomputable def mid_Near_fn1_e : Ent := ⟨[.val t2, .rbox t49, .rbox t2], [⟨t2, [false], none⟩, ⟨t4, [false], none⟩], fun x => mid_Near_fn1 x.1 x.2.1 x.2.2.1⟩
theorem mid_Near_fn1_good : Good tab.ty Tryz.prog 268 mid_Near_fn1_e := by
  refine fn_good (Γ := mid_Near_fn1_Γ) (fi := mid_Near_fn1_fi) (n := 1) follows (gcons mid_dist_good gnil) tabok Tryz.func268 (by kernel_rfl) (by kernel_rfl) (fun x r h => ?_)
  obtain ⟨x_0, x_1, x_2, _u⟩ := x
  exact (mid_Near_fn1_eq x_0 x_1 x_2).trans h
noncomputable def mid_Near_Γ : Ctx := [(267, mid_least_e), (268, mid_Near_fn1_e)]
def mid_Near_fi : Fi := { keep := [], vty := [], vals := [], live := [(0, [2, 3, 4]), (1, [6])] }
noncomputable def mid_Near (d_0 : List (List Int)) (m_1 : Int) (l_2 : List Int) : Option ((Int × Unit) × Unit) :=
 Option.bind (mid_least l_2 (fun x => (mid_Near_fn1 x.1 d_0 m_1).bind fun r => some (r.1.1, r.1.2.1, ()))) fun (r1 : (Int × Unit) × Unit) =>
 some ((r1.1.1, ()), ())
theorem mid_Near_eq (d_0 : List (List Int)) (m_1 : Int) (l_2 : List Int) : evFn mid_Near_Γ tab mid_Near_fi 1 [.val t49, .val t2, .val t23] [⟨t2, [false], none⟩] Tryz.f202 (d_0, m_1, l_2, ()) = mid_Near d_0 m_1 l_2 := by kernel_rfl
noncomputable def mid_Near_e : Ent := ⟨[.val t49, .val t2, .val t23], [⟨t2, [false], none⟩], fun x => mid_Near x.1 x.2.1 x.2.2.1⟩
theorem mid_Near_good : Good tab.ty Tryz.prog 202 mid_Near_e := by
  refine fn_good (Γ := mid_Near_Γ) (fi := mid_Near_fi) (n := 1) follows (gcons mid_least_good (gcons mid_Near_fn1_good gnil)) tabok Tryz.func202 (by kernel_rfl) (by kernel_rfl) (fun x r h => ?_)
  obtain ⟨d_0, m_1, l_2, _u⟩ := x
  exact (mid_Near_eq d_0 m_1 l_2).trans h
noncomputable def hier_down_Γ : Ctx := [(120, hier_find_e), (202, mid_Near_e)]
def hier_down_fi : Fi := { keep := [], vty := [], vals := [], live := [(0, [1, 2, 4, 18, 19, 20, 21, 22, 23, 24, 25]), (1, [1, 2, 4, 5, 18, 19, 20, 21, 22, 23, 24, 25]), (2, [1, 2, 4, 5, 12, 18, 19, 20, 21, 22, 23, 24, 25]), (3, [1, 2, 4, 5, 18, 19, 20, 21, 22, 23, 24, 25]), (4, [1, 2, 4, 5, 18, 19, 20, 21, 22, 23, 24, 25, 26]), (5, [4]), (6, [1, 2, 5, 6, 18, 19, 20, 21, 22, 23, 24, 25]), (7, [1, 2, 4, 5, 18, 19, 20, 21, 22, 23, 24, 25]), (8, [4])] }
noncomputable def hier_down_x (x : PDs [.val t51, .val t2]) : Option (RDs [⟨t2, [false], none⟩] × ODs [.val t51, .val t2]) := evFn hier_down_Γ tab hier_down_fi 1099511627776 [.val t51, .val t2] [⟨t2, [false], none⟩] Tryz.f124 x
noncomputable def hier_down (x0 : Int × (List (List Int)) × List (List ((List Int) × Int))) (x1 : Int) : Option ((Int × Unit) × Unit) := hier_down_x (x0, x1, ())
noncomputable def hier_down_e : Ent := ⟨[.val t51, .val t2], [⟨t2, [false], none⟩], fun x => hier_down x.1 x.2.1⟩
theorem hier_down_good : Good tab.ty Tryz.prog 124 hier_down_e := by
  refine fn_good (Γ := hier_down_Γ) (fi := hier_down_fi) (n := 1099511627776) follows (gcons hier_find_good (gcons mid_Near_good gnil)) tabok Tryz.func124 (by kernel_rfl) (by kernel_rfl) (fun x r h => ?_)
  obtain ⟨x0, x1, _u⟩ := x
  exact h
section
open Go.RowKit
theorem clone_use {P : Program} {τ : TypeId → Option Ty} {f : FuncId} {eT : TypeId} {e : Ty} {G : PDs [.val (.sl eT e)] → Option (RDs [⟨.sl eT e, [true], none⟩] × ODs [.val (.sl eT e)])}
    (hg : Good τ P f ⟨[.val (.sl eT e)], [⟨.sl eT e, [true], none⟩], G⟩) {S : Nat → Prop} {w : World} {xs : List e.den} {v : Value} (hS : ∀ k, S k → k < w.heap.size) (hr : Rep τ S w (.sl eT e) xs [v])
    (hG : G (xs, ()) = some ((xs, ()), ())) :
    Calls P f #[v] w fun ex w' => ∃ v' S', ex = .returned v' ∧ RowRel τ S' w' eT e xs v' (blk v').toList ∧ (∀ j, blk v' = some j → ¬ S' j ∧ j < w'.heap.size ∧ w.heap.size ≤ j) ∧ (∀ k, S k → S' k) ∧
      (∀ k, S' k → k < w'.heap.size ∧ (S k ∨ w.heap.size ≤ k)) ∧ Fr (fun _ => False) w w' := by
  refine (hg.2 w S (xs, ()) [v] [] ((xs, ()), ()) hS ⟨v, [], [], [], rfl, rfl, ⟨.inr ⟨rfl, hr⟩, rfl⟩, rfl, rfl⟩ List.nodup_nil (by simp) hG).mono ?_
  rintro ex w' ⟨vs, S', B1, B2, rfl, h1, _, _, h3, h4, h5, h6⟩
  obtain ⟨v', vr, b1, b2, rfl, rfl, hres, rfl, rfl⟩ := h1
  obtain ⟨cs, _, hcs, hown⟩ := hres
  have := hcs rfl; subst this
  obtain ⟨c, cr, b3, b4, e1, rfl, hl, h7⟩ := hown
  obtain ⟨rfl, rfl⟩ := List.cons.inj e1
  obtain ⟨_, rfl⟩ : ([] : List Value) = [] ∧ b4 = [] := h7
  have hl : RowRel τ S' w' eT e xs v' b3 := hl
  obtain ⟨g1, g2, g3⟩ := hl
  subst g3
  refine ⟨v', S', rfl, ⟨g1, g2, rfl⟩, fun j hj => ?_, h4, fun k hk => ⟨(h5 k hk).1, (h5 k hk).2.imp id (fun h => h.elim id (fun h => by cases h))⟩, h6.mono (fun _ h => by cases h)⟩
  have := h3 j (by simp [hj])
  exact ⟨this.1, this.2.1, this.2.2.elim id (fun h => by cases h)⟩
theorem intRowRel {S : Nat → Prop} {w w' : World} {xs : List Int} {c : Value} {B : List Nat} (h : RowRel tab.ty S w 3 (.int .i64) xs c B) (hk : ∀ j ∈ B, w'.heap[j]? = w.heap[j]?) : RowRel tab.ty (fun _ => False) w' 3 (.int .i64) xs c B := by
  have key : ∀ {xs : List Int} {cs : List Value}, RowCells tab.ty S w (.int .i64) xs cs → RowCells tab.ty (fun _ => False) w' (.int .i64) xs cs := by
    intro xs
    induction xs with
    | nil => intro cs h; exact h
    | cons x r ih => intro cs h; obtain ⟨c, cr, hc, h1, h2⟩ := h; exact ⟨c, cr, hc, h1, ih h2⟩
  obtain ⟨h0, ⟨cells, hr, hc⟩, hb⟩ := h
  subst hb
  refine ⟨h0, ⟨cells, ⟨hr.1, ?_⟩, key hc⟩, rfl⟩
  rcases hr.2 with hn | ⟨g, cap, cur, rfl, hg, hh', rest⟩
  · exact .inl hn
  · exact .inr ⟨g, cap, cur, rfl, hg, (hk g (by simp [blk])).trans hh', rest⟩
theorem twin_snoc {w : World} {x : List Int × Int} {c : Value} {Bc : List Nat} (hx : RowRel tab.ty (fun _ => False) w 3 (.int .i64) x.1 c Bc) : ∀ {xs : List (List Int × Int)} {cs : List Value} {B : List Nat}, TwinC tab.ty 3 w xs cs B → TwinC tab.ty 3 w (xs ++ [x]) (cs ++ [c, Value.int .i64 x.2]) (B ++ Bc)
  | [], cs, B, h => by
    obtain ⟨rfl, rfl⟩ := h
    exact ⟨c, [], Bc, [], rfl, (List.append_nil _).symm, hx, rfl, rfl⟩
  | y :: r, cs, B, h => by
    obtain ⟨d, cr, B1, B2, rfl, rfl, h1, h2⟩ := h
    exact ⟨d, _, B1, _, rfl, (List.append_assoc ..), h1, twin_snoc hx h2⟩
def ClRep (S : Nat → Prop) (w : World) : List (List Int × Int) → List Value → Prop
  | [], cs => cs = []
  | x :: r, cs => ∃ c cr, cs = c :: Value.int .i64 x.2 :: cr ∧ Rep tab.ty S w (.sl 3 (.int .i64)) x.1 [c] ∧ ClRep S w r cr
theorem ClRep.of {S : Nat → Prop} {w : World} : ∀ {xs : List (List Int × Int)} {cs : List Value}, RowCells tab.ty S w t207 xs cs → ClRep S w xs cs
  | [], cs, h => h
  | x :: r, cs, h => by
    obtain ⟨ce, cr, rfl, hrep, h2⟩ := h
    obtain ⟨c1, c2, rfl, hr1, hr2⟩ := hrep
    have hc2 : c2 = [Value.int .i64 x.2] := hr2
    subst hc2
    obtain ⟨A', c', e, hh⟩ := hr1
    subst e
    exact ⟨_, cr, rfl, ⟨A', c', rfl, hh⟩, ClRep.of h2⟩
theorem ClRep.to {S : Nat → Prop} {w : World} : ∀ {xs : List (List Int × Int)} {cs : List Value}, ClRep S w xs cs → RowCells tab.ty S w t207 xs cs
  | [], cs, h => h
  | x :: r, cs, h => by
    obtain ⟨c, cr, rfl, h1, h2⟩ := h
    exact ⟨[c, Value.int .i64 x.2], cr, rfl, ⟨[c], [Value.int .i64 x.2], rfl, h1, rfl⟩, ClRep.to h2⟩
theorem ClRep.frame {S S' : Nat → Prop} {w w' : World} (hS : ∀ q, S q → S' q) (hsz : w.heap.size ≤ w'.heap.size) (hk : ∀ q, S q → q < w.heap.size → w'.heap[q]? = w.heap[q]?) : ∀ {xs : List (List Int × Int)} {cs : List Value}, ClRep S w xs cs → ClRep S' w' xs cs
  | [], cs, h => h
  | x :: r, cs, h => by
    obtain ⟨c, cr, rfl, h1, h2⟩ := h
    exact ⟨c, cr, rfl, Rep.frame (t := .sl 3 (.int .i64)) hS hsz hk h1, ClRep.frame hS hsz hk h2⟩
theorem own_setCell {w : World} {eT : TypeId} {sz n : Nat} {g n' cp i : Nat} {cells : List Value} {u : Value} (h : w.ownsRow 0 eT sz (.slice (some ⟨g, 0, none⟩) n' cp) n cells) (hi : i < cells.length) :
    (w.setCell ⟨g, i, none⟩ u).ownsRow 0 eT sz (.slice (some ⟨g, 0, none⟩) n' cp) n (cells.set i u) := by
  refine ⟨by rw [List.length_set]; exact h.1, ?_⟩
  rcases h.2 with ⟨e, _⟩ | ⟨g2, cap, cur, e, hg, hh, h1, h2, h3, h4⟩
  · cases e
  · injection e with e e2 e3
    have hgg : g = g2 := by injection e with e; injection e
    subst hgg
    have hcl : cells.length ≤ cur.size := by rw [← h4, List.length_take, Array.length_toList]; omega
    refine .inr ⟨g, cap, cur.setIfInBounds i u, by rw [e2, e3], hg, ?_, h1, h2, by simpa using h3, ?_⟩
    · obtain ⟨hlt2, hk2⟩ := Array.getElem?_eq_some_iff.1 hh
      show (w.heap.modify g _)[g]? = _
      rw [Array.getElem?_eq_getElem (by rw [Array.size_modify]; exact hlt2), Array.getElem_modify_self, hk2]
      rfl
    · rw [← h4, Array.toList_setIfInBounds, List.take_set]
def valNat : Value → Nat
  | .int _ m => m.toNat
  | _ => 0
set_option maxHeartbeats 4000000 in
set_option maxRecDepth 1000000 in
theorem twin_at (w : World) (S : Nat → Prop) (xs : List (List Int × Int)) (v : Value) (hS : ∀ k, S k → k < w.heap.size) (hr : Rep tab.ty S w t190 xs [v]) (hl : xs.length ≤ 1073741824) (hx : ∀ x ∈ xs, x.1.length ≤ 1073741824) :
    Calls Tryz.prog 197 #[v] w fun e w' => ∃ v' cells B, e = .returned v' ∧ w'.ownsRow 0 207 2 v' xs.length cells ∧ TwinC tab.ty 3 w' xs cells B ∧ ((blk v').toList ++ B).Nodup ∧ (∀ j ∈ (blk v').toList ++ B, w.heap.size ≤ j ∧ j < w'.heap.size) ∧ Fr (fun _ => False) w w' := by
  have hcl : slices_Clone_Cluster xs = some ((xs, ()), ()) := by unfold slices_Clone_Cluster; rw [show Nat.ble xs.length 1073741824 = true from nble_iff.2 hl]; rfl
  have hcc := clone_use slices_Clone_Cluster_good hS hr hcl
  go_enter Tryz.func197, Tryz.ntmps197
  go_wp2_with (go_at_call 132; refine hcc.mono ?_)
  rintro e W1 ⟨v1, S1, rfl, hrow, hblk, hS1, hS1b, f1⟩
  obtain ⟨h0, ⟨cells, hown, hrc⟩, _⟩ := hrow
  obtain ⟨A, n, cp, rfl⟩ := own_slice hown
  have hown : W1.ownsRow 0 207 2 (.slice A n cp) xs.length cells := hown
  have hrc := ClRep.of hrc
  go_wp2
  have hn : n = xs.length ∧ n ≤ maxLen := by
    rcases hown.2 with ⟨e5, e6⟩ | ⟨g, cap, cur, e5, _, _, e6, e7, _⟩
    · injection e5 with _ e5 _; exact ⟨by omega, by rw [e5]; simp [maxLen]⟩
    · injection e5 with _ e5 _; exact ⟨e5, by omega⟩
  obtain ⟨hnx, hnm⟩ := hn
  subst hnx
  have hblkS : ∀ j, blk (Value.slice A xs.length cp) = some j → ¬ S1 j := fun j hj => (hblk j hj).1
  go_loopw [9] (fun i wr => ∃ (k : Nat) (pre post : List Value) (B : List Nat), k ≤ xs.length ∧ i = .int .i64 (k : Int) ∧ wr.ownsRow 0 207 2 (.slice A xs.length cp) xs.length (pre ++ post) ∧ TwinC tab.ty 3 wr (xs.take k) pre B ∧
      ClRep S1 wr (xs.drop k) post ∧ ((blk (.slice A xs.length cp)).toList ++ B).Nodup ∧ (∀ j ∈ B, W1.heap.size ≤ j ∧ j < wr.heap.size) ∧ Fr (fun j => blk (.slice A xs.length cp) = some j) W1 wr) (fun i wr => xs.length - valNat i)
  case atStart =>
    refine ⟨0, [], cells, [], Nat.zero_le _, rfl, hown, ⟨rfl, rfl⟩, hrc, ?_, by simp, Fr.refl _ _⟩
    cases blk (Value.slice A xs.length cp) <;> simp
  case round =>
    obtain ⟨k, pre, post, B, hk, rfl, hown2, htw, hrc2, hnd, hB, hfr⟩ := hrel
    by_cases hlt : k < xs.length
    · have hkl : k < xs.length := by omega
      obtain ⟨g, rfl⟩ : ∃ g, A = some ⟨g, 0, none⟩ := by
        rcases hown2.2 with ⟨_, h0⟩ | ⟨g, cap, cur, e5, _⟩
        · omega
        · injection e5 with e5 _ _; exact ⟨g, e5⟩
      obtain ⟨cap, cur, e5, hh, hcap, hcm, hcs, htk⟩ := own_cells hown2 (b := g) rfl
      have hdrop : xs.drop k = xs[k] :: xs.drop (k + 1) := by rw [List.drop_eq_getElem_cons hkl]
      rw [hdrop] at hrc2
      obtain ⟨hd, cr, hce, hrep, hrc3⟩ := hrc2
      subst hce
      obtain ⟨Ah, ch, ehd, _⟩ := id hrep
      obtain ⟨rfl, _⟩ := List.cons.inj ehd
      have hpl : pre.length = k * 2 := by
        rw [htw.length, List.length_take, Nat.min_eq_left (by omega)]
      have hg0 : g < W1.heap.size := (hblk g rfl).2.1
      have hcur : ∀ (j : Nat) (u : Value), j < 2 → ([Value.slice Ah xs[k].1.length ch, Value.int .i64 xs[k].2] : List Value)[j]? = some u → cur[k * 2 + j]? = some u := fun j u hj hu => by
        have e1 : (pre ++ Value.slice Ah xs[k].1.length ch :: Value.int .i64 xs[k].2 :: cr)[k * 2 + j]? = ([Value.slice Ah xs[k].1.length ch, Value.int .i64 xs[k].2] : List Value)[j]? := by
          rw [List.getElem?_append_right (by omega), hpl, show k * 2 + j - k * 2 = j by omega]
          match j, hj with
          | 0, _ => rfl
          | 1, _ => rfl
        have htk' : cur.toList.take (xs.length * 2) = pre ++ Value.slice Ah xs[k].1.length ch :: Value.int .i64 xs[k].2 :: cr := htk
        rw [← hu, ← e1, ← htk', List.getElem?_take, if_pos (by omega), Array.getElem?_toList]
      have hc0 : wr.cell? ⟨g, k * 2, none⟩ = some (.slice Ah xs[k].1.length ch) := by
        have := hcur 0 _ (by omega) rfl
        rw [Nat.add_zero] at this
        simp [World.cell?, hh, this]
      have hc1 : wr.cell? ⟨g, k * 2 + 1, none⟩ = some (.int .i64 xs[k].2) := by
        have := hcur 1 _ (by omega) rfl
        simp [World.cell?, hh, this]
      have hlt' : (k : Int) < (xs.length : Int) := by omega
      have hgS : ¬ S1 g := (hblk g rfl).1
      have hgw : g < wr.heap.size := (Array.getElem?_eq_some_iff.1 hh).1
      have hsz0 : W1.heap.size ≤ wr.heap.size := hfr.size
      have hci : slices_Clone_int xs[k].1 = some ((xs[k].1, ()), ()) := by unfold slices_Clone_int; rw [show Nat.ble xs[k].1.length 1073741824 = true from nble_iff.2 (hx _ (List.getElem_mem _))]; rfl
      have hci2 := clone_use (S := S1) (w := wr.alloc (.cells #[.slice Ah xs[k].1.length ch, .int .i64 xs[k].2] 207)) (xs := xs[k].1) (v := .slice Ah xs[k].1.length ch) slices_Clone_int_good
        (fun q hq => by have := (hS1b q hq).1; simp; omega)
        (Rep.frame (t := .sl 3 (.int .i64)) (fun _ h => h) (by simp) (fun q hq hql => RowKit.Below.heap_alloc wr _ q hql) hrep) hci
      go_wp2_with (go_at_call 67; refine hci2.mono ?_)
      rintro e W2 v2 rfl S2 hrow2 hb2 hS2 hS2b f2
      obtain ⟨A2, n2, c2, rfl⟩ : ∃ A n c, v2 = .slice A n c := by
        obtain ⟨_, ⟨_, ho, _⟩, _⟩ := hrow2; exact own_slice ho
      have fa : Fr (fun _ => False) wr W2 := (Fr.alloc _ wr _).trans f2
      have hh2 : W2.heap[g]? = some (.cells cur 207 (0, 0)) := (fa.block hgw (fun x => x)).trans hh
      have hc0' : W2.cell? ⟨g, k * 2, none⟩ = some (.slice Ah xs[k].1.length ch) := by
        have := hcur 0 _ (by omega) rfl
        rw [Nat.add_zero] at this
        simp [World.cell?, hh2, this]
      have hfz : W2.frozen? ⟨g, k * 2, none⟩ = false := by simp [World.frozen?, hh2]
      go_wp2
      go_roundw
      case rel =>
        have hb2' : ∀ q, blk (Value.slice A2 n2 c2) = some q → wr.heap.size < q ∧ q < W2.heap.size := fun q hq => by
          have := hb2 q hq
          exact ⟨by omega, this.2.1⟩
        have hW2 : wr.heap.size ≤ W2.heap.size := fa.size
        have hset : ∀ q, q ≠ g → (W2.setCell ⟨g, k * 2, none⟩ (.slice A2 n2 c2)).heap[q]? = W2.heap[q]? := fun q hq => RowKit.Below.heap_setCell W2 _ _ q hq
        have hBg : ∀ q ∈ B, q ≠ g := fun q hq e => by
          subst e
          have : ([q] ++ B).Nodup := hnd
          simp at this
          exact this.1 hq
        refine ⟨k + 1, pre ++ [.slice A2 n2 c2, .int .i64 xs[k].2], cr, B ++ (blk (Value.slice A2 n2 c2)).toList, hkl, by simp, ?_, ?_, ?_, ?_, ?_, ?_⟩
        · have hownW2 : W2.ownsRow 0 207 2 (.slice (some ⟨g, 0, none⟩) xs.length cp) xs.length (pre ++ Value.slice Ah xs[k].1.length ch :: Value.int .i64 xs[k].2 :: cr) := by
            refine ⟨hown2.1, ?_⟩
            rcases hown2.2 with ⟨e, _⟩ | ⟨g2, cap2, cur2, e, hg2, hh3, r1, r2, r3, r4⟩
            · cases e
            · have hgg : g = g2 := by injection e with e; injection e with e; injection e
              subst hgg
              exact .inr ⟨g, cap2, cur2, e, hg2, (fa.block hgw (fun x => x)).trans hh3, r1, r2, r3, r4⟩
          have := own_setCell (i := k * 2) (u := .slice A2 n2 c2) hownW2 (by simp [hpl])
          rw [List.set_append_right _ _ (by omega), hpl, Nat.sub_self] at this
          simpa using this
        · have h1 := htw.move (w' := W2.setCell ⟨g, k * 2, none⟩ (.slice A2 n2 c2)) (fun q hq => by
            rw [hset q (hBg q hq), fa.block (hB q hq).2 (fun x => x)])
          have h2 : RowRel tab.ty (fun _ => False) (W2.setCell ⟨g, k * 2, none⟩ (.slice A2 n2 c2)) 3 (.int .i64) xs[k].1 (.slice A2 n2 c2) (blk (Value.slice A2 n2 c2)).toList := intRowRel hrow2 (fun q hq => by
            have := hb2' q (by simpa using hq)
            exact hset q (by omega))
          have h3 := twin_snoc (x := xs[k]) h2 h1
          rw [List.take_succ_eq_append_getElem hkl]
          exact h3
        · refine hrc3.frame (fun _ h => h) (by simp; omega) (fun q hq hql => ?_)
          rw [hset q (fun e => hgS (by rw [← e]; exact hq)), fa.block hql (fun x => x)]
        · have h1 : ([g] ++ B).Nodup := hnd
          show ([g] ++ (B ++ (blk (Value.slice A2 n2 c2)).toList)).Nodup
          rw [← List.append_assoc]
          refine List.nodup_append.2 ⟨h1, by cases blk (Value.slice A2 n2 c2) <;> simp, fun q hq q' hq' e => ?_⟩
          subst e
          have := hb2' q (by simpa using hq')
          rcases List.mem_append.1 hq with h | h
          · have : q = g := by simpa using h
            omega
          · have := (hB q h).2
            omega
        · intro q hq
          rcases List.mem_append.1 hq with hq | hq
          · have := hB q hq
            exact ⟨this.1, by simp; omega⟩
          · have := hb2' q (by simpa using hq)
            exact ⟨by omega, by simp; omega⟩
        · refine (hfr.trans' fa (fun _ _ x => x.elim)).trans' (Fr.setCell W2 _ _) (fun q _ hq => ?_)
          have hq : q = g := hq
          rw [hq]; rfl
      case measure => simp [valNat]; omega
    · have hlt' : ¬ (k : Int) < (xs.length : Int) := by omega
      go_wp2
      go_ret
      rw [List.drop_eq_nil_of_le (by omega)] at hrc2
      have hrc2 : post = [] := hrc2
      subst hrc2
      rw [List.append_nil] at hown2
      rw [List.take_of_length_le (by omega)] at htw
      refine ⟨_, rfl, pre, hown2, B, htw, hnd, fun j hj => ?_, ?_⟩
      · rcases hj with hj | hj
        · have := hblk j hj
          exact ⟨this.2.2, Nat.lt_of_lt_of_le this.2.1 hfr.size⟩
        · exact ⟨Nat.le_trans f1.size (hB j hj).1, (hB j hj).2⟩
      · exact f1.trans' hfr (fun j h1 h2 => absurd (hblk j h2).2.2 (by omega))
theorem clus_twin_ok : TwinOk Tryz.prog tab.ty 197 207 3 := ⟨⟨_, Tryz.func197, by kernel_rfl, by kernel_rfl⟩, fun w S xs v hS hr hl hx => twin_at w S xs v hS hr hl hx⟩
end
noncomputable def mid_Far_Γ : Ctx := [(269, mid_dist_e)]
def mid_Far_fi : Fi := { keep := [], vty := [], vals := [], live := [(0, [0, 1, 2, 6]), (1, [0, 1, 6, 9, 10, 11]), (2, [0, 1, 6, 9, 10, 11, 12]), (3, [0, 1, 6, 8, 9, 10, 11]), (4, [0, 1, 6, 9, 10, 11]), (5, [0, 1, 6, 9, 10, 11]), (6, [6])] }
noncomputable def mid_Far_B1 (L1 : List (List Int) → Int → Int → List Int → Int → Int → Option ((Int × Unit) × Unit)) (v1 : List (List Int)) (v2 : Int) (v3 : Int) (v4 : List Int) (v5 : Int) (v6 : Int) : Option ((Int × Unit) × Unit) :=
 bif decide (v6 < v5) then
  bif decide (0 ≤ v6) && decide (v6 < (v4.length : Int)) then
   Option.bind (mid_dist v1 v2 (List.getD v4 v6.toNat 0)) fun (r7 : (Int × Unit) × Unit) =>
   L1 v1 v2 (if r7.1.1 > v3 then r7.1.1 else v3) v4 v5 (IntKind.wrap .i64 (v6 + 1))
  else none
 else
  some ((v3, ()), ())
noncomputable def mid_Far_T (L1 : List (List Int) → Int → Int → List Int → Int → Int → Option ((Int × Unit) × Unit)) (d_0 : List (List Int)) (m_1 : Int) (l_2 : List Int) : Option ((Int × Unit) × Unit) :=
 L1 d_0 m_1 0 l_2 (l_2.length : Int) 0
noncomputable def mid_Far_L1 (n : Nat) : Nat → List (List Int) → Int → Int → List Int → Int → Int → Option ((Int × Unit) × Unit) := iter (fun _ _ _ _ _ _ => none) fun L => mid_Far_B1 L
noncomputable def mid_Far_X1 (n m : Nat) (v1 : List (List Int)) (v2 : Int) (v3 : Int) (v4 : List Int) (v5 : Int) (v6 : Int) : Option ((Int × Unit) × Unit) :=
 atLoop mid_Far_Γ tab (fiB [.val t49, .val t2, .val t23] mid_Far_fi) n [.val t49, .val t2, .val t23] [⟨t2, [false], none⟩] Tryz.f310 [1, 0, 1, 0] [] [0, 1, 6, 9, 10, 11] m
 ⟨[(0, SV.cv (CV.one (LV.pure t49 v1))), (1, SV.cv (CV.one (LV.pure t2 v2))), (6, SV.cv (CV.one (LV.pure t2 v3))), (9, SV.cv (CV.one (LV.pure t23 v4))), (10, SV.cv (CV.one (LV.pure t2 v5))), (11, SV.cv (CV.one (LV.pure t2 v6)))],
  []⟩
theorem mid_Far_step1 (n m : Nat) (v1 : List (List Int)) (v2 : Int) (v3 : Int) (v4 : List Int) (v5 : Int) (v6 : Int) : mid_Far_X1 n (m + 1) v1 v2 v3 v4 v5 v6 = mid_Far_B1 (mid_Far_X1 n m) v1 v2 v3 v4 v5 v6 := by kernel_rfl
theorem mid_Far_start (n : Nat) (d_0 : List (List Int)) (m_1 : Int) (l_2 : List Int) : evFn mid_Far_Γ tab mid_Far_fi n [.val t49, .val t2, .val t23] [⟨t2, [false], none⟩] Tryz.f310 (d_0, m_1, l_2, ()) = mid_Far_T (mid_Far_X1 n n) d_0 m_1 l_2 := by kernel_rfl
theorem mid_Far_XL1 (n : Nat) : ∀ m, mid_Far_X1 n m = mid_Far_L1 n m
 | 0 => rfl
 | m + 1 => by
  have ih := mid_Far_XL1 n m
  funext v1 v2 v3 v4 v5 v6
  rw [mid_Far_step1, ih]
  rfl
noncomputable def mid_Far_n (n : Nat) (d_0 : List (List Int)) (m_1 : Int) (l_2 : List Int) : Option ((Int × Unit) × Unit) := mid_Far_T (mid_Far_L1 n n) d_0 m_1 l_2
noncomputable def mid_Far (d_0 : List (List Int)) (m_1 : Int) (l_2 : List Int) : Option ((Int × Unit) × Unit) := mid_Far_n 1099511627776 d_0 m_1 l_2
theorem mid_Far_eq (n : Nat) (d_0 : List (List Int)) (m_1 : Int) (l_2 : List Int) : evFn mid_Far_Γ tab mid_Far_fi n [.val t49, .val t2, .val t23] [⟨t2, [false], none⟩] Tryz.f310 (d_0, m_1, l_2, ()) = mid_Far_n n d_0 m_1 l_2 := by
  rw [mid_Far_start, mid_Far_XL1 n n]
  rfl
noncomputable def mid_Far_e : Ent := ⟨[.val t49, .val t2, .val t23], [⟨t2, [false], none⟩], fun x => mid_Far x.1 x.2.1 x.2.2.1⟩
theorem mid_Far_good : Good tab.ty Tryz.prog 310 mid_Far_e := by
  refine fn_good (Γ := mid_Far_Γ) (fi := mid_Far_fi) (n := 1099511627776) follows (gcons mid_dist_good gnil) tabok Tryz.func310 (by kernel_rfl) (by kernel_rfl) (fun x r h => ?_)
  obtain ⟨d_0, m_1, l_2, _u⟩ := x
  exact (mid_Far_eq 1099511627776 d_0 m_1 l_2).trans h
noncomputable def mid_Mid_fn1_Γ : Ctx := [(310, mid_Far_e)]
def mid_Mid_fn1_fi : Fi := { keep := [], vty := [], vals := [], live := [(0, [0, 1, 2]), (1, [4, 5])] }
noncomputable def mid_Mid_fn1 (x_0 : Int) (x_1 : List (List Int)) (x_2 : List Int) : Option ((Int × Bool × Unit) × Unit) :=
 Option.bind (mid_Far x_1 x_0 x_2) fun (r1 : (Int × Unit) × Unit) =>
 some ((r1.1.1, true, ()), ())
theorem mid_Mid_fn1_eq (x_0 : Int) (x_1 : List (List Int)) (x_2 : List Int) : evFn mid_Mid_fn1_Γ tab mid_Mid_fn1_fi 1 [.val t2, .rbox t49, .rbox t23] [⟨t2, [false], none⟩, ⟨t4, [false], none⟩] Tryz.f309 (x_0, x_1, x_2, ()) = mid_Mid_fn1 x_0 x_1 x_2 := by kernel_rfl
noncomputable def mid_Mid_fn1_e : Ent := ⟨[.val t2, .rbox t49, .rbox t23], [⟨t2, [false], none⟩, ⟨t4, [false], none⟩], fun x => mid_Mid_fn1 x.1 x.2.1 x.2.2.1⟩
theorem mid_Mid_fn1_good : Good tab.ty Tryz.prog 309 mid_Mid_fn1_e := by
  refine fn_good (Γ := mid_Mid_fn1_Γ) (fi := mid_Mid_fn1_fi) (n := 1) follows (gcons mid_Far_good gnil) tabok Tryz.func309 (by kernel_rfl) (by kernel_rfl) (fun x r h => ?_)
  obtain ⟨x_0, x_1, x_2, _u⟩ := x
  exact (mid_Mid_fn1_eq x_0 x_1 x_2).trans h
noncomputable def mid_Mid_Γ : Ctx := [(267, mid_least_e), (309, mid_Mid_fn1_e)]
def mid_Mid_fi : Fi := { keep := [], vty := [], vals := [], live := [(0, [2, 3]), (1, [4])] }
noncomputable def mid_Mid (d_0 : List (List Int)) (l_1 : List Int) : Option ((Int × Unit) × Unit) :=
 Option.bind (mid_least l_1 (fun x => (mid_Mid_fn1 x.1 d_0 l_1).bind fun r => some (r.1.1, r.1.2.1, ()))) fun (r1 : (Int × Unit) × Unit) =>
 some ((r1.1.1, ()), ())
theorem mid_Mid_eq (d_0 : List (List Int)) (l_1 : List Int) : evFn mid_Mid_Γ tab mid_Mid_fi 1 [.val t49, .val t23] [⟨t2, [false], none⟩] Tryz.f261 (d_0, l_1, ()) = mid_Mid d_0 l_1 := by kernel_rfl
noncomputable def mid_Mid_e : Ent := ⟨[.val t49, .val t23], [⟨t2, [false], none⟩], fun x => mid_Mid x.1 x.2.1⟩
theorem mid_Mid_good : Good tab.ty Tryz.prog 261 mid_Mid_e := by
  refine fn_good (Γ := mid_Mid_Γ) (fi := mid_Mid_fi) (n := 1) follows (gcons mid_least_good (gcons mid_Mid_fn1_good gnil)) tabok Tryz.func261 (by kernel_rfl) (by kernel_rfl) (fun x r h => ?_)
  obtain ⟨d_0, l_1, _u⟩ := x
  exact (mid_Mid_eq d_0 l_1).trans h
noncomputable def clus_Of_Γ : Ctx := [(67, slices_Clone_int_e), (261, mid_Mid_e)]
def clus_Of_fi : Fi := { keep := [], vty := [], vals := [], live := [(0, [0, 1, 4]), (1, [4])] }
noncomputable def clus_Of (d_0 : List (List Int)) (l_1 : List Int) : Option ((((List Int) × Int) × Unit) × Unit) :=
 Option.bind (slices_Clone_int l_1) fun (r1 : ((List Int) × Unit) × Unit) =>
 Option.bind (mid_Mid d_0 l_1) fun (r2 : (Int × Unit) × Unit) =>
 some (((r1.1.1, r2.1.1), ()), ())
theorem clus_Of_eq (d_0 : List (List Int)) (l_1 : List Int) : evFn clus_Of_Γ tab clus_Of_fi 1 [.val t49, .val t23] [⟨t206, [true, false], none⟩] Tryz.f198 (d_0, l_1, ()) = clus_Of d_0 l_1 := by kernel_rfl
noncomputable def clus_Of_e : Ent := ⟨[.val t49, .val t23], [⟨t206, [true, false], none⟩], fun x => clus_Of x.1 x.2.1⟩
theorem clus_Of_good : Good tab.ty Tryz.prog 198 clus_Of_e := by
  refine fn_good (Γ := clus_Of_Γ) (fi := clus_Of_fi) (n := 1) follows (gcons slices_Clone_int_good (gcons mid_Mid_good gnil)) tabok Tryz.func198 (by kernel_rfl) (by kernel_rfl) (fun x r h => ?_)
  obtain ⟨d_0, l_1, _u⟩ := x
  exact (clus_Of_eq d_0 l_1).trans h
noncomputable def clus_find_fn1_Γ : Ctx := [(194, slices_Contains_int_e)]
def clus_find_fn1_fi : Fi := { keep := [], vty := [], vals := [], live := [(0, [1, 2]), (1, [3])] }
noncomputable def clus_find_fn1 (c_0 : (List Int) × Int) (x_1 : Int) : Option ((Bool × Unit) × Unit) :=
 Option.bind (slices_Contains_int c_0.1 x_1) fun (r1 : (Bool × Unit) × Unit) =>
 some ((r1.1.1, ()), ())
theorem clus_find_fn1_eq (c_0 : (List Int) × Int) (x_1 : Int) : evFn clus_find_fn1_Γ tab clus_find_fn1_fi 1 [.val t206, .rbox t2] [⟨t4, [false], none⟩] Tryz.f262 (c_0, x_1, ()) = clus_find_fn1 c_0 x_1 := by kernel_rfl
noncomputable def clus_find_fn1_e : Ent := ⟨[.val t206, .rbox t2], [⟨t4, [false], none⟩], fun x => clus_find_fn1 x.1 x.2.1⟩
theorem clus_find_fn1_good : Good tab.ty Tryz.prog 262 clus_find_fn1_e := by
  refine fn_good (Γ := clus_find_fn1_Γ) (fi := clus_find_fn1_fi) (n := 1) follows (gcons slices_Contains_int_good gnil) tabok Tryz.func262 (by kernel_rfl) (by kernel_rfl) (fun x r h => ?_)
  obtain ⟨c_0, x_1, _u⟩ := x
  exact (clus_find_fn1_eq c_0 x_1).trans h
noncomputable def clus_find_Γ : Ctx := [(192, slices_IndexFunc_Cluster_e), (262, clus_find_fn1_e)]
def clus_find_fi : Fi := { keep := [], vty := [], vals := [], live := [(0, [0, 3]), (1, [4])] }
noncomputable def clus_find (cs_0 : List ((List Int) × Int)) (id_1 : Int) : Option ((Int × Unit) × Unit) :=
 Option.bind (slices_IndexFunc_Cluster cs_0 (fun x => (clus_find_fn1 x.1 id_1).bind fun r => some (r.1.1, ()))) fun (r1 : (Int × Unit) × Unit) =>
 some ((r1.1.1, ()), ())
theorem clus_find_eq (cs_0 : List ((List Int) × Int)) (id_1 : Int) : evFn clus_find_Γ tab clus_find_fi 1 [.val t190, .val t2] [⟨t2, [false], none⟩] Tryz.f199 (cs_0, id_1, ()) = clus_find cs_0 id_1 := by kernel_rfl
noncomputable def clus_find_e : Ent := ⟨[.val t190, .val t2], [⟨t2, [false], none⟩], fun x => clus_find x.1 x.2.1⟩
theorem clus_find_good : Good tab.ty Tryz.prog 199 clus_find_e := by
  refine fn_good (Γ := clus_find_Γ) (fi := clus_find_fi) (n := 1) follows (gcons slices_IndexFunc_Cluster_good (gcons clus_find_fn1_good gnil)) tabok Tryz.func199 (by kernel_rfl) (by kernel_rfl) (fun x r h => ?_)
  obtain ⟨cs_0, id_1, _u⟩ := x
  exact (clus_find_eq cs_0 id_1).trans h
noncomputable def math_bits_Len32_Γ : Ctx := []
def math_bits_Len32_fi : Fi := { keep := [], vty := [], vals := [], live := [(0, [0, 2]), (1, [0, 2, 4]), (2, [0]), (3, [0, 2]), (4, [0, 2, 8]), (5, [0, 2]), (6, [0, 2]), (7, [2])] }
noncomputable def math_bits_Len32_x (x : PDs [.val t94]) : Option (RDs [⟨t2, [false], none⟩] × ODs [.val t94]) := evFn math_bits_Len32_Γ tab math_bits_Len32_fi 1099511627776 [.val t94] [⟨t2, [false], none⟩] Tryz.f320 x
noncomputable def math_bits_Len32 (x0 : Int) : Option ((Int × Unit) × Unit) := math_bits_Len32_x (x0, ())
noncomputable def math_bits_Len32_e : Ent := ⟨[.val t94], [⟨t2, [false], none⟩], fun x => math_bits_Len32 x.1⟩
theorem math_bits_Len32_good : Good tab.ty Tryz.prog 320 math_bits_Len32_e := by
  refine fn_good (Γ := math_bits_Len32_Γ) (fi := math_bits_Len32_fi) (n := 1099511627776) follows gnil tabok Tryz.func320 (by kernel_rfl) (by kernel_rfl) (fun x r h => ?_)
  obtain ⟨x0, _u⟩ := x
  exact h
noncomputable def math_bits_Len64_Γ : Ctx := []
def math_bits_Len64_fi : Fi := { keep := [], vty := [], vals := [], live := [(0, [0, 2]), (1, [0, 2, 4]), (2, [0]), (3, [0, 2]), (4, [0, 2, 8]), (5, [0, 2]), (6, [0, 2]), (7, [0, 2, 14]), (8, [0, 2]), (9, [0, 2]), (10, [2])] }
noncomputable def math_bits_Len64_x (x : PDs [.val t12]) : Option (RDs [⟨t2, [false], none⟩] × ODs [.val t12]) := evFn math_bits_Len64_Γ tab math_bits_Len64_fi 1099511627776 [.val t12] [⟨t2, [false], none⟩] Tryz.f321 x
noncomputable def math_bits_Len64 (x0 : Int) : Option ((Int × Unit) × Unit) := math_bits_Len64_x (x0, ())
noncomputable def math_bits_Len64_e : Ent := ⟨[.val t12], [⟨t2, [false], none⟩], fun x => math_bits_Len64 x.1⟩
theorem math_bits_Len64_good : Good tab.ty Tryz.prog 321 math_bits_Len64_e := by
  refine fn_good (Γ := math_bits_Len64_Γ) (fi := math_bits_Len64_fi) (n := 1099511627776) follows gnil tabok Tryz.func321 (by kernel_rfl) (by kernel_rfl) (fun x r h => ?_)
  obtain ⟨x0, _u⟩ := x
  exact h
noncomputable def math_bits_Len_Γ : Ctx := [(321, math_bits_Len64_e)]
def math_bits_Len_fi : Fi := { keep := [], vty := [], vals := [], live := [(0, [0]), (1, [2]), (2, [2])] }
noncomputable def math_bits_Len (x_0 : Int) : Option ((Int × Unit) × Unit) :=
 Option.bind (math_bits_Len64 x_0) fun (r1 : (Int × Unit) × Unit) =>
 some ((r1.1.1, ()), ())
theorem math_bits_Len_eq (x_0 : Int) : evFn math_bits_Len_Γ tab math_bits_Len_fi 1 [.val t12] [⟨t2, [false], none⟩] Tryz.f264 (x_0, ()) = math_bits_Len x_0 := by kernel_rfl
noncomputable def math_bits_Len_e : Ent := ⟨[.val t12], [⟨t2, [false], none⟩], fun x => math_bits_Len x.1⟩
theorem math_bits_Len_good : Good tab.ty Tryz.prog 264 math_bits_Len_e := by
  refine fn_good (Γ := math_bits_Len_Γ) (fi := math_bits_Len_fi) (n := 1) follows (gcons math_bits_Len64_good gnil) tabok Tryz.func264 (by kernel_rfl) (by kernel_rfl) (fun x r h => ?_)
  obtain ⟨x_0, _u⟩ := x
  exact (math_bits_Len_eq x_0).trans h
noncomputable def cmp_isNaN_int_Γ : Ctx := []
def cmp_isNaN_int_fi : Fi := { keep := [], vty := [], vals := [], live := [(0, [0]), (1, [2])] }
noncomputable def cmp_isNaN_int (x_0 : Int) : Option ((Bool × Unit) × Unit) :=
 some ((x_0 != x_0, ()), ())
theorem cmp_isNaN_int_eq (x_0 : Int) : evFn cmp_isNaN_int_Γ tab cmp_isNaN_int_fi 1 [.val t2] [⟨t4, [false], none⟩] Tryz.f306 (x_0, ()) = cmp_isNaN_int x_0 := by kernel_rfl
noncomputable def cmp_isNaN_int_e : Ent := ⟨[.val t2], [⟨t4, [false], none⟩], fun x => cmp_isNaN_int x.1⟩
theorem cmp_isNaN_int_good : Good tab.ty Tryz.prog 306 cmp_isNaN_int_e := by
  refine fn_good (Γ := cmp_isNaN_int_Γ) (fi := cmp_isNaN_int_fi) (n := 1) follows gnil tabok Tryz.func306 (by kernel_rfl) (by kernel_rfl) (fun x r h => ?_)
  obtain ⟨x_0, _u⟩ := x
  exact (cmp_isNaN_int_eq x_0).trans h
noncomputable def cmp_Less_int_Γ : Ctx := [(306, cmp_isNaN_int_e)]
def cmp_Less_int_fi : Fi := { keep := [], vty := [], vals := [], live := [(0, [0, 1, 8, 9, 10, 13, 14, 15]), (1, [4])] }
noncomputable def cmp_Less_int (x_0 : Int) (y_1 : Int) : Option ((Bool × Unit) × Unit) :=
 Option.bind (cmp_isNaN_int x_0) fun (r1 : (Bool × Unit) × Unit) =>
 bif r1.1.1 then
  Option.bind (cmp_isNaN_int y_1) fun (r2 : (Bool × Unit) × Unit) =>
  bif !r2.1.1 then
   some ((true, ()), ())
  else
   some ((decide (x_0 < y_1), ()), ())
 else
  some ((decide (x_0 < y_1), ()), ())
theorem cmp_Less_int_eq (x_0 : Int) (y_1 : Int) : evFn cmp_Less_int_Γ tab cmp_Less_int_fi 1 [.val t2, .val t2] [⟨t4, [false], none⟩] Tryz.f317 (x_0, y_1, ()) = cmp_Less_int x_0 y_1 := by kernel_rfl
noncomputable def cmp_Less_int_e : Ent := ⟨[.val t2, .val t2], [⟨t4, [false], none⟩], fun x => cmp_Less_int x.1 x.2.1⟩
theorem cmp_Less_int_good : Good tab.ty Tryz.prog 317 cmp_Less_int_e := by
  refine fn_good (Γ := cmp_Less_int_Γ) (fi := cmp_Less_int_fi) (n := 1) follows (gcons cmp_isNaN_int_good gnil) tabok Tryz.func317 (by kernel_rfl) (by kernel_rfl) (fun x r h => ?_)
  obtain ⟨x_0, y_1, _u⟩ := x
  exact (cmp_Less_int_eq x_0 y_1).trans h
noncomputable def slices_insertionSortOrdered_int_Γ : Ctx := [(317, cmp_Less_int_e)]
def slices_insertionSortOrdered_int_fi : Fi := { keep := [], vty := [(20, 23), (24, 23), (33, 23), (35, 23), (38, 23), (43, 23)], vals := [], live := [(0, [0, 1, 2, 6, 20, 21, 22, 23, 24, 25, 26, 27, 28, 29]), (1, [0, 1, 2, 6, 12, 20, 21, 22, 23, 24, 25, 26, 27, 28, 29]), (2, [0, 1, 2, 6, 20, 21, 22, 23, 24, 25, 26, 27, 28, 29]), (3, [0, 1, 2, 6, 7, 20, 21, 22, 23, 24, 25, 26, 27, 28, 29]), (4, [0, 1, 2, 6, 7, 20, 21, 22, 23, 24, 25, 26, 27, 28, 29, 30]), (5, [0, 1, 2, 6, 7, 20, 21, 22, 23, 24, 25, 26, 27, 28, 29]), (6, [0, 1, 2, 6, 7, 20, 21, 22, 23, 24, 25, 26, 27, 28, 29])] }
noncomputable def slices_insertionSortOrdered_int_x (x : PDs [.io 3 t2, .val t2, .val t2]) : Option (RDs [] × ODs [.io 3 t2, .val t2, .val t2]) := evFn slices_insertionSortOrdered_int_Γ tab slices_insertionSortOrdered_int_fi 1099511627776 [.io 3 t2, .val t2, .val t2] [] Tryz.f311 x
noncomputable def slices_insertionSortOrdered_int (x0 : List Int) (x1 : Int) (x2 : Int) : Option (Unit × (List Int × Unit)) := slices_insertionSortOrdered_int_x (x0, x1, x2, ())
noncomputable def slices_insertionSortOrdered_int_e : Ent := ⟨[.io 3 t2, .val t2, .val t2], [], fun x => slices_insertionSortOrdered_int x.1 x.2.1 x.2.2.1⟩
theorem slices_insertionSortOrdered_int_good : Good tab.ty Tryz.prog 311 slices_insertionSortOrdered_int_e := by
  refine fn_good (Γ := slices_insertionSortOrdered_int_Γ) (fi := slices_insertionSortOrdered_int_fi) (n := 1099511627776) follows (gcons cmp_Less_int_good gnil) tabok Tryz.func311 (by kernel_rfl) (by kernel_rfl) (fun x r h => ?_)
  obtain ⟨x0, x1, x2, _u⟩ := x
  exact h
noncomputable def slices_nextPowerOfTwo_Γ : Ctx := [(264, math_bits_Len_e)]
def slices_nextPowerOfTwo_fi : Fi := { keep := [], vty := [], vals := [], live := [(0, [0]), (1, [2])] }
noncomputable def slices_nextPowerOfTwo (length_0 : Int) : Option ((Int × Unit) × Unit) :=
 Option.bind (math_bits_Len (IntKind.wrap .u64 length_0)) fun (r1 : (Int × Unit) × Unit) =>
 bif decide (0 ≤ r1.1.1) then
  some ((IntKind.wrap .u64 (1 * 2 ^ (min r1.1.1.toNat 64)), ()), ())
 else none
theorem slices_nextPowerOfTwo_eq (length_0 : Int) : evFn slices_nextPowerOfTwo_Γ tab slices_nextPowerOfTwo_fi 1 [.val t2] [⟨t12, [false], none⟩] Tryz.f345 (length_0, ()) = slices_nextPowerOfTwo length_0 := by kernel_rfl
noncomputable def slices_nextPowerOfTwo_e : Ent := ⟨[.val t2], [⟨t12, [false], none⟩], fun x => slices_nextPowerOfTwo x.1⟩
theorem slices_nextPowerOfTwo_good : Good tab.ty Tryz.prog 345 slices_nextPowerOfTwo_e := by
  refine fn_good (Γ := slices_nextPowerOfTwo_Γ) (fi := slices_nextPowerOfTwo_fi) (n := 1) follows (gcons math_bits_Len_good gnil) tabok Tryz.func345 (by kernel_rfl) (by kernel_rfl) (fun x r h => ?_)
  obtain ⟨length_0, _u⟩ := x
  exact (slices_nextPowerOfTwo_eq length_0).trans h
noncomputable def slices_xorshift_Next_Γ : Ctx := []
def slices_xorshift_Next_fi : Fi := { keep := [], vty := [], vals := [], live := [(0, [0]), (1, [0]), (2, [0]), (3, [0]), (4, [0, 2])] }
noncomputable def slices_xorshift_Next (r_0 : Int) : Option ((Int × Unit) × (Int × Unit)) :=
 some ((IntKind.wrap .u64 ((BitVec.ofInt 64 (IntKind.wrap .u64 ((BitVec.ofInt 64 (IntKind.wrap .u64 ((BitVec.ofInt 64 r_0 ^^^ BitVec.ofInt 64 (IntKind.wrap .u64 (r_0 * 2 ^ 13))).toNat)) ^^^ BitVec.ofInt 64 (Int.fdiv (IntKind.wrap .u64 ((BitVec.ofInt 64 r_0 ^^^ BitVec.ofInt 64 (IntKind.wrap .u64 (r_0 * 2 ^ 13))).toNat)) (2 ^ 7))).toNat)) ^^^ BitVec.ofInt 64 (IntKind.wrap .u64 ((IntKind.wrap .u64 ((BitVec.ofInt 64 (IntKind.wrap .u64 ((BitVec.ofInt 64 r_0 ^^^ BitVec.ofInt 64 (IntKind.wrap .u64 (r_0 * 2 ^ 13))).toNat)) ^^^ BitVec.ofInt 64 (Int.fdiv (IntKind.wrap .u64 ((BitVec.ofInt 64 r_0 ^^^ BitVec.ofInt 64 (IntKind.wrap .u64 (r_0 * 2 ^ 13))).toNat)) (2 ^ 7))).toNat)) * 2 ^ 17))).toNat), ()), (IntKind.wrap .u64 ((BitVec.ofInt 64 (IntKind.wrap .u64 ((BitVec.ofInt 64 (IntKind.wrap .u64 ((BitVec.ofInt 64 r_0 ^^^ BitVec.ofInt 64 (IntKind.wrap .u64 (r_0 * 2 ^ 13))).toNat)) ^^^ BitVec.ofInt 64 (Int.fdiv (IntKind.wrap .u64 ((BitVec.ofInt 64 r_0 ^^^ BitVec.ofInt 64 (IntKind.wrap .u64 (r_0 * 2 ^ 13))).toNat)) (2 ^ 7))).toNat)) ^^^ BitVec.ofInt 64 (IntKind.wrap .u64 ((IntKind.wrap .u64 ((BitVec.ofInt 64 (IntKind.wrap .u64 ((BitVec.ofInt 64 r_0 ^^^ BitVec.ofInt 64 (IntKind.wrap .u64 (r_0 * 2 ^ 13))).toNat)) ^^^ BitVec.ofInt 64 (Int.fdiv (IntKind.wrap .u64 ((BitVec.ofInt 64 r_0 ^^^ BitVec.ofInt 64 (IntKind.wrap .u64 (r_0 * 2 ^ 13))).toNat)) (2 ^ 7))).toNat)) * 2 ^ 17))).toNat), ()))
theorem slices_xorshift_Next_eq (r_0 : Int) : evFn slices_xorshift_Next_Γ tab slices_xorshift_Next_fi 1 [.box 339 t12 [false]] [⟨t12, [false], none⟩] Tryz.f346 (r_0, ()) = slices_xorshift_Next r_0 := by kernel_rfl
noncomputable def slices_xorshift_Next_e : Ent := ⟨[.box 339 t12 [false]], [⟨t12, [false], none⟩], fun x => slices_xorshift_Next x.1⟩
theorem slices_xorshift_Next_good : Good tab.ty Tryz.prog 346 slices_xorshift_Next_e := by
  refine fn_good (Γ := slices_xorshift_Next_Γ) (fi := slices_xorshift_Next_fi) (n := 1) follows gnil tabok Tryz.func346 (by kernel_rfl) (by kernel_rfl) (fun x r h => ?_)
  obtain ⟨r_0, _u⟩ := x
  exact (slices_xorshift_Next_eq r_0).trans h
noncomputable def slices_order2Ordered_int_Γ : Ctx := [(317, cmp_Less_int_e)]
def slices_order2Ordered_int_fi : Fi := { keep := [], vty := [], vals := [], live := [(0, [3, 0, 1, 2]), (1, [3, 1, 2, 18]), (2, [3, 1, 2]), (3, [3, 8, 9]), (4, [3, 8, 9])] }
noncomputable def slices_order2Ordered_int (data_0 : List Int) (a_1 : Int) (b_2 : Int) (swaps_3 : Int) : Option ((Int × Int × Unit) × (Int × Unit)) :=
 bif decide (0 ≤ b_2) && decide (b_2 < (data_0.length : Int)) then
  bif decide (0 ≤ a_1) && decide (a_1 < (data_0.length : Int)) then
   Option.bind (cmp_Less_int (List.getD data_0 b_2.toNat 0) (List.getD data_0 a_1.toNat 0)) fun (r1 : (Bool × Unit) × Unit) =>
   bif r1.1.1 then
    some ((b_2, a_1, ()), (IntKind.wrap .i64 (swaps_3 + 1), ()))
   else
    some ((a_1, b_2, ()), (swaps_3, ()))
  else none
 else none
theorem slices_order2Ordered_int_eq (data_0 : List Int) (a_1 : Int) (b_2 : Int) (swaps_3 : Int) : evFn slices_order2Ordered_int_Γ tab slices_order2Ordered_int_fi 1 [.val t23, .val t2, .val t2, .box 3 t2 [false]] [⟨t2, [false], none⟩, ⟨t2, [false], none⟩] Tryz.f353 (data_0, a_1, b_2, swaps_3, ()) = slices_order2Ordered_int data_0 a_1 b_2 swaps_3 := by kernel_rfl
noncomputable def slices_order2Ordered_int_e : Ent := ⟨[.val t23, .val t2, .val t2, .box 3 t2 [false]], [⟨t2, [false], none⟩, ⟨t2, [false], none⟩], fun x => slices_order2Ordered_int x.1 x.2.1 x.2.2.1 x.2.2.2.1⟩
theorem slices_order2Ordered_int_good : Good tab.ty Tryz.prog 353 slices_order2Ordered_int_e := by
  refine fn_good (Γ := slices_order2Ordered_int_Γ) (fi := slices_order2Ordered_int_fi) (n := 1) follows (gcons cmp_Less_int_good gnil) tabok Tryz.func353 (by kernel_rfl) (by kernel_rfl) (fun x r h => ?_)
  obtain ⟨data_0, a_1, b_2, swaps_3, _u⟩ := x
  exact (slices_order2Ordered_int_eq data_0 a_1 b_2 swaps_3).trans h
noncomputable def slices_medianOrdered_int_Γ : Ctx := [(353, slices_order2Ordered_int_e)]
def slices_medianOrdered_int_fi : Fi := { keep := [], vty := [], vals := [], live := [(0, [4, 0, 1, 2, 3]), (1, [4, 0, 1, 2, 3]), (2, [4, 0, 1, 2]), (3, [4, 2]), (4, [4, 10])] }
noncomputable def slices_medianOrdered_int (data_0 : List Int) (a_1 : Int) (b_2 : Int) (c_3 : Int) (swaps_4 : Int) : Option ((Int × Unit) × (Int × Unit)) :=
 Option.bind (slices_order2Ordered_int data_0 a_1 b_2 swaps_4) fun (r1 : (Int × Int × Unit) × (Int × Unit)) =>
 Option.bind (slices_order2Ordered_int data_0 r1.1.2.1 c_3 r1.2.1) fun (r2 : (Int × Int × Unit) × (Int × Unit)) =>
 Option.bind (slices_order2Ordered_int data_0 r1.1.1 r2.1.1 r2.2.1) fun (r3 : (Int × Int × Unit) × (Int × Unit)) =>
 some ((r3.1.2.1, ()), (r3.2.1, ()))
theorem slices_medianOrdered_int_eq (data_0 : List Int) (a_1 : Int) (b_2 : Int) (c_3 : Int) (swaps_4 : Int) : evFn slices_medianOrdered_int_Γ tab slices_medianOrdered_int_fi 1 [.val t23, .val t2, .val t2, .val t2, .box 3 t2 [false]] [⟨t2, [false], none⟩] Tryz.f348 (data_0, a_1, b_2, c_3, swaps_4, ()) = slices_medianOrdered_int data_0 a_1 b_2 c_3 swaps_4 := by kernel_rfl
noncomputable def slices_medianOrdered_int_e : Ent := ⟨[.val t23, .val t2, .val t2, .val t2, .box 3 t2 [false]], [⟨t2, [false], none⟩], fun x => slices_medianOrdered_int x.1 x.2.1 x.2.2.1 x.2.2.2.1 x.2.2.2.2.1⟩
theorem slices_medianOrdered_int_good : Good tab.ty Tryz.prog 348 slices_medianOrdered_int_e := by
  refine fn_good (Γ := slices_medianOrdered_int_Γ) (fi := slices_medianOrdered_int_fi) (n := 1) follows (gcons slices_order2Ordered_int_good gnil) tabok Tryz.func348 (by kernel_rfl) (by kernel_rfl) (fun x r h => ?_)
  obtain ⟨data_0, a_1, b_2, c_3, swaps_4, _u⟩ := x
  exact (slices_medianOrdered_int_eq data_0 a_1 b_2 c_3 swaps_4).trans h
noncomputable def slices_medianAdjacentOrdered_int_Γ : Ctx := [(348, slices_medianOrdered_int_e)]
def slices_medianAdjacentOrdered_int_fi : Fi := { keep := [], vty := [], vals := [], live := [(0, [2, 0, 1]), (1, [2, 6])] }
noncomputable def slices_medianAdjacentOrdered_int (data_0 : List Int) (a_1 : Int) (swaps_2 : Int) : Option ((Int × Unit) × (Int × Unit)) :=
 Option.bind (slices_medianOrdered_int data_0 (IntKind.wrap .i64 (a_1 - 1)) a_1 (IntKind.wrap .i64 (a_1 + 1)) swaps_2) fun (r1 : (Int × Unit) × (Int × Unit)) =>
 some ((r1.1.1, ()), (r1.2.1, ()))
theorem slices_medianAdjacentOrdered_int_eq (data_0 : List Int) (a_1 : Int) (swaps_2 : Int) : evFn slices_medianAdjacentOrdered_int_Γ tab slices_medianAdjacentOrdered_int_fi 1 [.val t23, .val t2, .box 3 t2 [false]] [⟨t2, [false], none⟩] Tryz.f347 (data_0, a_1, swaps_2, ()) = slices_medianAdjacentOrdered_int data_0 a_1 swaps_2 := by kernel_rfl
noncomputable def slices_medianAdjacentOrdered_int_e : Ent := ⟨[.val t23, .val t2, .box 3 t2 [false]], [⟨t2, [false], none⟩], fun x => slices_medianAdjacentOrdered_int x.1 x.2.1 x.2.2.1⟩
theorem slices_medianAdjacentOrdered_int_good : Good tab.ty Tryz.prog 347 slices_medianAdjacentOrdered_int_e := by
  refine fn_good (Γ := slices_medianAdjacentOrdered_int_Γ) (fi := slices_medianAdjacentOrdered_int_fi) (n := 1) follows (gcons slices_medianOrdered_int_good gnil) tabok Tryz.func347 (by kernel_rfl) (by kernel_rfl) (fun x r h => ?_)
  obtain ⟨data_0, a_1, swaps_2, _u⟩ := x
  exact (slices_medianAdjacentOrdered_int_eq data_0 a_1 swaps_2).trans h
noncomputable def slices_choosePivotOrdered_int_Γ : Ctx := [(347, slices_medianAdjacentOrdered_int_e), (348, slices_medianOrdered_int_e)]
def slices_choosePivotOrdered_int_fi : Fi := { keep := [], vty := [], vals := [], live := [(0, [0, 1, 2]), (1, [0, 1, 8]), (2, [0, 1, 8, 9]), (3, [0, 1, 8, 9, 10]), (4, [0, 1, 8, 9, 10, 11]), (5, [0, 8, 9, 10, 11, 12]), (6, [0, 8, 9, 10, 11, 12, 32]), (7, [0, 9, 10, 11, 12, 34]), (8, [0, 9, 10, 11, 12]), (9, [0, 9, 10, 11, 12]), (10, [0, 9, 10, 11, 12]), (11, [9, 11]), (12, [11, 49]), (13, [6, 7]), (14, [11, 49, 51]), (15, [6, 7]), (16, [11, 54]), (17, [6, 7])] }
noncomputable def slices_choosePivotOrdered_int (data_0 : List Int) (a_1 : Int) (b_2 : Int) : Option ((Int × Int × Unit) × Unit) :=
 bif decide (IntKind.wrap .i64 (b_2 - a_1) ≥ 8) then
  bif decide (IntKind.wrap .i64 (b_2 - a_1) ≥ 50) then
   Option.bind (slices_medianAdjacentOrdered_int data_0 (IntKind.wrap .i64 (a_1 + (IntKind.wrap .i64 ((IntKind.wrap .i64 (Int.tdiv (IntKind.wrap .i64 (b_2 - a_1)) 4)) * 1)))) 0) fun (r1 : (Int × Unit) × (Int × Unit)) =>
   Option.bind (slices_medianAdjacentOrdered_int data_0 (IntKind.wrap .i64 (a_1 + (IntKind.wrap .i64 ((IntKind.wrap .i64 (Int.tdiv (IntKind.wrap .i64 (b_2 - a_1)) 4)) * 2)))) r1.2.1) fun (r2 : (Int × Unit) × (Int × Unit)) =>
   Option.bind (slices_medianAdjacentOrdered_int data_0 (IntKind.wrap .i64 (a_1 + (IntKind.wrap .i64 ((IntKind.wrap .i64 (Int.tdiv (IntKind.wrap .i64 (b_2 - a_1)) 4)) * 3)))) r2.2.1) fun (r3 : (Int × Unit) × (Int × Unit)) =>
   Option.bind (slices_medianOrdered_int data_0 r1.1.1 r2.1.1 r3.1.1 r3.2.1) fun (r4 : (Int × Unit) × (Int × Unit)) =>
   bif r4.2.1 == 0 then
    some ((r4.1.1, 1, ()), ())
   else
   bif r4.2.1 == 12 then
    some ((r4.1.1, 2, ()), ())
   else
    some ((r4.1.1, 0, ()), ())
  else
   Option.bind (slices_medianOrdered_int data_0 (IntKind.wrap .i64 (a_1 + (IntKind.wrap .i64 ((IntKind.wrap .i64 (Int.tdiv (IntKind.wrap .i64 (b_2 - a_1)) 4)) * 1)))) (IntKind.wrap .i64 (a_1 + (IntKind.wrap .i64 ((IntKind.wrap .i64 (Int.tdiv (IntKind.wrap .i64 (b_2 - a_1)) 4)) * 2)))) (IntKind.wrap .i64 (a_1 + (IntKind.wrap .i64 ((IntKind.wrap .i64 (Int.tdiv (IntKind.wrap .i64 (b_2 - a_1)) 4)) * 3)))) 0) fun (r5 : (Int × Unit) × (Int × Unit)) =>
   bif r5.2.1 == 0 then
    some ((r5.1.1, 1, ()), ())
   else
   bif r5.2.1 == 12 then
    some ((r5.1.1, 2, ()), ())
   else
    some ((r5.1.1, 0, ()), ())
 else
  some ((IntKind.wrap .i64 (a_1 + (IntKind.wrap .i64 ((IntKind.wrap .i64 (Int.tdiv (IntKind.wrap .i64 (b_2 - a_1)) 4)) * 2))), 1, ()), ())
theorem slices_choosePivotOrdered_int_eq (data_0 : List Int) (a_1 : Int) (b_2 : Int) : evFn slices_choosePivotOrdered_int_Γ tab slices_choosePivotOrdered_int_fi 1 [.val t23, .val t2, .val t2] [⟨t2, [false], none⟩, ⟨t2, [false], none⟩] Tryz.f314 (data_0, a_1, b_2, ()) = slices_choosePivotOrdered_int data_0 a_1 b_2 := by kernel_rfl
noncomputable def slices_choosePivotOrdered_int_e : Ent := ⟨[.val t23, .val t2, .val t2], [⟨t2, [false], none⟩, ⟨t2, [false], none⟩], fun x => slices_choosePivotOrdered_int x.1 x.2.1 x.2.2.1⟩
theorem slices_choosePivotOrdered_int_good : Good tab.ty Tryz.prog 314 slices_choosePivotOrdered_int_e := by
  refine fn_good (Γ := slices_choosePivotOrdered_int_Γ) (fi := slices_choosePivotOrdered_int_fi) (n := 1) follows (gcons slices_medianAdjacentOrdered_int_good (gcons slices_medianOrdered_int_good gnil)) tabok Tryz.func314 (by kernel_rfl) (by kernel_rfl) (fun x r h => ?_)
  obtain ⟨data_0, a_1, b_2, _u⟩ := x
  exact (slices_choosePivotOrdered_int_eq data_0 a_1 b_2).trans h
noncomputable def slices_pdqsortOrdered_int_Γ : Ctx := [(311, slices_insertionSortOrdered_int_e), (314, slices_choosePivotOrdered_int_e), (317, cmp_Less_int_e)]
def slices_pdqsortOrdered_int_fi : Fi := { keep := [], vty := [(24, 23), (30, 23), (36, 23), (43, 23), (51, 23), (69, 23), (76, 23), (81, 23), (88, 23), (95, 23), (117, 23), (127, 23)], vals := [], live := [(0, [0, 1, 2, 3, 8, 63, 66, 67, 76, 77, 78, 79, 80, 81, 82, 83, 84, 85, 86]), (1, [0, 1, 2, 3, 8, 9, 63, 66, 67, 76, 77, 78, 79, 80, 81, 82, 83, 84, 85, 86]), (2, [0, 1, 2, 3, 8, 9, 10, 63, 66, 67, 76, 77, 78, 79, 80, 81, 82, 83, 84, 85, 86]), (3, [0, 1, 2, 3, 8, 9, 10, 23, 63, 66, 67, 76, 77, 78, 79, 80, 81, 82, 83, 84, 85, 86]), (4, [0]), (5, [0, 1, 2, 3, 8, 9, 10, 29, 63, 66, 67, 76, 77, 78, 79, 80, 81, 82, 83, 84, 85, 86]), (6, [0]), (7, [0, 1, 2, 3, 8, 9, 10, 35, 63, 66, 67, 76, 77, 78, 79, 80, 81, 82, 83, 84, 85, 86]), (8, [0, 1, 2, 3, 8, 9, 10, 63, 66, 67, 76, 77, 78, 79, 80, 81, 82, 83, 84, 85, 86]), (9, [0, 1, 2, 3, 8, 9, 10, 63, 66, 67, 76, 77, 78, 79, 80, 81, 82, 83, 84, 85, 86]), (10, [0, 1, 2, 3, 8, 9, 10, 11, 12, 63, 66, 67, 76, 77, 78, 79, 80, 81, 82, 83, 84, 85, 86]), (11, [0, 1, 2, 3, 8, 9, 10, 11, 12, 50, 63, 66, 67, 76, 77, 78, 79, 80, 81, 82, 83, 84, 85, 86]), (12, [0, 1, 2, 3, 8, 9, 10, 11, 63, 66, 67, 76, 77, 78, 79, 80, 81, 82, 83, 84, 85, 86]), (13, [0, 1, 2, 3, 8, 9, 10, 11, 63, 66, 67, 76, 77, 78, 79, 80, 81, 82, 83, 84, 85, 86]), (14, [0, 1, 2, 3, 8, 9, 10, 11, 12, 63, 66, 67, 76, 77, 78, 79, 80, 81, 82, 83, 84, 85, 86]), (15, [0, 1, 2, 3, 8, 9, 10, 11, 63, 66, 67, 68, 76, 77, 78, 79, 80, 81, 82, 83, 84, 85, 86]), (16, [0, 1, 2, 3, 8, 9, 10, 11, 63, 66, 67, 72, 76, 77, 78, 79, 80, 81, 82, 83, 84, 85, 86]), (17, [0, 1, 2, 3, 8, 9, 10, 11, 63, 66, 67, 76, 77, 78, 79, 80, 81, 82, 83, 84, 85, 86, 87]), (18, [0, 2, 3, 8, 9, 13, 63, 66, 67, 76, 77, 78, 79, 80, 81, 82, 83, 84, 85, 86]), (19, [0, 1, 2, 3, 8, 9, 63, 66, 67, 76, 77, 78, 79, 80, 81, 82, 83, 84, 85, 86]), (20, [0, 1, 2, 3, 10, 14, 15, 63, 66, 67, 76, 77, 78, 79, 80, 81, 82, 83, 84, 85, 86]), (21, [0, 1, 2, 3, 9, 10, 14, 63, 66, 67, 76, 77, 78, 79, 80, 81, 82, 83, 84, 85, 86]), (22, [0, 1, 2, 3, 9, 10, 14, 16, 17, 63, 66, 67, 76, 77, 78, 79, 80, 81, 82, 83, 84, 85, 86]), (23, [0, 1, 2, 3, 9, 14, 16, 17, 18, 63, 66, 67, 76, 77, 78, 79, 80, 81, 82, 83, 84, 85, 86]), (24, [0, 1, 2, 3, 9, 14, 16, 17, 18, 63, 66, 67, 76, 77, 78, 79, 80, 81, 82, 83, 84, 85, 86, 113]), (25, [0, 1, 2, 3, 8, 9, 14, 63, 66, 67, 76, 77, 78, 79, 80, 81, 82, 83, 84, 85, 86]), (26, [0, 2, 3, 8, 9, 14, 63, 66, 67, 76, 77, 78, 79, 80, 81, 82, 83, 84, 85, 86]), (27, [0, 1, 2, 3, 8, 9, 63, 66, 67, 76, 77, 78, 79, 80, 81, 82, 83, 84, 85, 86]), (28, [0, 1, 2, 3, 8, 9, 14, 63, 66, 67, 76, 77, 78, 79, 80, 81, 82, 83, 84, 85, 86]), (29, [0, 1, 3, 8, 9, 14, 63, 66, 67, 76, 77, 78, 79, 80, 81, 82, 83, 84, 85, 86]), (30, [0, 1, 2, 3, 8, 9, 63, 66, 67, 76, 77, 78, 79, 80, 81, 82, 83, 84, 85, 86])] }
noncomputable def slices_pdqsortOrdered_int_x (x : PDs [.io 3 t2, .val t2, .val t2, .val t2]) : Option (RDs [] × ODs [.io 3 t2, .val t2, .val t2, .val t2]) := evFn slices_pdqsortOrdered_int_Γ tab slices_pdqsortOrdered_int_fi 1099511627776 [.io 3 t2, .val t2, .val t2, .val t2] [] Tryz.f263 x
noncomputable def slices_pdqsortOrdered_int (x0 : List Int) (x1 : Int) (x2 : Int) (x3 : Int) : Option (Unit × (List Int × Unit)) := slices_pdqsortOrdered_int_x (x0, x1, x2, x3, ())
noncomputable def slices_pdqsortOrdered_int_e : Ent := ⟨[.io 3 t2, .val t2, .val t2, .val t2], [], fun x => slices_pdqsortOrdered_int x.1 x.2.1 x.2.2.1 x.2.2.2.1⟩
theorem slices_pdqsortOrdered_int_good : Good tab.ty Tryz.prog 263 slices_pdqsortOrdered_int_e := by
  refine fn_good (Γ := slices_pdqsortOrdered_int_Γ) (fi := slices_pdqsortOrdered_int_fi) (n := 1099511627776) follows (gcons slices_insertionSortOrdered_int_good (gcons slices_choosePivotOrdered_int_good (gcons cmp_Less_int_good gnil))) tabok Tryz.func263 (by kernel_rfl) (by kernel_rfl) (fun x r h => ?_)
  obtain ⟨x0, x1, x2, x3, _u⟩ := x
  exact h
noncomputable def slices_Sort_int_Γ : Ctx := [(263, slices_pdqsortOrdered_int_e), (264, math_bits_Len_e)]
def slices_Sort_int_fi : Fi := { keep := [], vty := [], vals := [], live := [(0, [0, 2]), (1, [0])] }
noncomputable def slices_Sort_int (x_0 : List Int) : Option (Unit × (List Int × Unit)) :=
 Option.bind (math_bits_Len (IntKind.wrap .u64 (x_0.length : Int))) fun (r1 : (Int × Unit) × Unit) =>
 Option.bind (slices_pdqsortOrdered_int x_0 0 (x_0.length : Int) r1.1.1) fun (r2 : Unit × (List Int × Unit)) =>
 some ((), (r2.2.1, ()))
theorem slices_Sort_int_eq (x_0 : List Int) : evFn slices_Sort_int_Γ tab slices_Sort_int_fi 1 [.io 3 t2] [] Tryz.f200 (x_0, ()) = slices_Sort_int x_0 := by kernel_rfl
noncomputable def slices_Sort_int_e : Ent := ⟨[.io 3 t2], [], fun x => slices_Sort_int x.1⟩
theorem slices_Sort_int_good : Good tab.ty Tryz.prog 200 slices_Sort_int_e := by
  refine fn_good (Γ := slices_Sort_int_Γ) (fi := slices_Sort_int_fi) (n := 1) follows (gcons slices_pdqsortOrdered_int_good (gcons math_bits_Len_good gnil)) tabok Tryz.func200 (by kernel_rfl) (by kernel_rfl) (fun x r h => ?_)
  obtain ⟨x_0, _u⟩ := x
  exact (slices_Sort_int_eq x_0).trans h
noncomputable def clus_far_Γ : Ctx := [(310, mid_Far_e)]
def clus_far_fi : Fi := { keep := [], vty := [], vals := [], live := [(0, [0, 1, 2]), (1, [6])] }
noncomputable def clus_far (d_0 : List (List Int)) (a_1 : Int) (b_2 : Int) : Option ((Int × Unit) × Unit) :=
 Option.bind (mid_Far d_0 a_1 [b_2]) fun (r1 : (Int × Unit) × Unit) =>
 some ((r1.1.1, ()), ())
theorem clus_far_eq (d_0 : List (List Int)) (a_1 : Int) (b_2 : Int) : evFn clus_far_Γ tab clus_far_fi 1 [.val t49, .val t2, .val t2] [⟨t2, [false], none⟩] Tryz.f323 (d_0, a_1, b_2, ()) = clus_far d_0 a_1 b_2 := by kernel_rfl
noncomputable def clus_far_e : Ent := ⟨[.val t49, .val t2, .val t2], [⟨t2, [false], none⟩], fun x => clus_far x.1 x.2.1 x.2.2.1⟩
theorem clus_far_good : Good tab.ty Tryz.prog 323 clus_far_e := by
  refine fn_good (Γ := clus_far_Γ) (fi := clus_far_fi) (n := 1) follows (gcons mid_Far_good gnil) tabok Tryz.func323 (by kernel_rfl) (by kernel_rfl) (fun x r h => ?_)
  obtain ⟨d_0, a_1, b_2, _u⟩ := x
  exact (clus_far_eq d_0 a_1 b_2).trans h
noncomputable def clus_ends_Γ : Ctx := [(323, clus_far_e)]
def clus_ends_fi : Fi := { keep := [], vty := [(12, 23), (19, 23), (28, 49)], vals := [], live := [(0, [0, 1, 4, 5]), (1, [0, 1, 4, 5, 6]), (2, [0, 1, 4, 5, 6, 12, 13, 14]), (3, [0, 1, 4, 5, 6, 12, 13, 14, 15]), (4, [0, 1, 4, 5, 6, 7, 8, 12, 13, 14]), (5, [0, 1, 4, 5, 6, 8, 12, 13, 14, 22, 23, 24]), (6, [0, 1, 4, 5, 6, 8, 12, 13, 14, 22, 23, 24, 25]), (7, [0, 1, 4, 5, 6, 8, 10, 12, 13, 14, 22, 23, 24]), (8, [0, 1, 4, 5, 6, 8, 10, 11, 12, 13, 14, 22, 23, 24]), (9, [0, 1, 4, 5, 6, 8, 10, 11, 12, 13, 14, 22, 23, 24, 34]), (10, [0, 1, 4, 5, 6, 8, 12, 13, 14, 22, 23, 24]), (11, [0, 1, 4, 5, 6, 8, 12, 13, 14, 22, 23, 24]), (12, [0, 1, 4, 5, 6, 12, 13, 14]), (13, [4, 5])] }
noncomputable def clus_ends_x (x : PDs [.val t49, .val t23]) : Option (RDs [⟨t2, [false], none⟩, ⟨t2, [false], none⟩] × ODs [.val t49, .val t23]) := evFn clus_ends_Γ tab clus_ends_fi 1099511627776 [.val t49, .val t23] [⟨t2, [false], none⟩, ⟨t2, [false], none⟩] Tryz.f322 x
noncomputable def clus_ends (x0 : List (List Int)) (x1 : List Int) : Option ((Int × Int × Unit) × Unit) := clus_ends_x (x0, x1, ())
noncomputable def clus_ends_e : Ent := ⟨[.val t49, .val t23], [⟨t2, [false], none⟩, ⟨t2, [false], none⟩], fun x => clus_ends x.1 x.2.1⟩
theorem clus_ends_good : Good tab.ty Tryz.prog 322 clus_ends_e := by
  refine fn_good (Γ := clus_ends_Γ) (fi := clus_ends_fi) (n := 1099511627776) follows (gcons clus_far_good gnil) tabok Tryz.func322 (by kernel_rfl) (by kernel_rfl) (fun x r h => ?_)
  obtain ⟨x0, x1, _u⟩ := x
  exact h
noncomputable def slices_IndexFunc_int_Γ : Ctx := []
def slices_IndexFunc_int_fi : Fi := { keep := [], vty := [], vals := [], live := [(0, [0, 1]), (1, [0, 1, 7, 8]), (2, [0, 1, 7, 8, 9]), (3, [0, 1, 5, 7, 8]), (4, [0, 1, 5, 7, 8, 16]), (5, [4]), (6, [0, 1, 7, 8]), (7, [4])] }
noncomputable def slices_IndexFunc_int_B1 (L1 : List Int → (Int × Unit → Option (Bool × Unit)) → Int → Int → Option ((Int × Unit) × Unit)) (v1 : List Int) (v2 : (Int × Unit → Option (Bool × Unit))) (v3 : Int) (v4 : Int) : Option ((Int × Unit) × Unit) :=
 bif decide (v4 < v3) then
  bif decide (0 ≤ v4) && decide (v4 < (v1.length : Int)) then
   Option.bind (v2 (List.getD v1 v4.toNat 0, ())) fun (r5 : Bool × Unit) =>
   bif r5.1 then
    some ((v4, ()), ())
   else
    L1 v1 v2 v3 (IntKind.wrap .i64 (v4 + 1))
  else none
 else
  some (((-1), ()), ())
noncomputable def slices_IndexFunc_int_T (L1 : List Int → (Int × Unit → Option (Bool × Unit)) → Int → Int → Option ((Int × Unit) × Unit)) (s_0 : List Int) (f_1 : (Int × Unit → Option (Bool × Unit))) : Option ((Int × Unit) × Unit) :=
 L1 s_0 f_1 (s_0.length : Int) 0
noncomputable def slices_IndexFunc_int_L1 (n : Nat) : Nat → List Int → (Int × Unit → Option (Bool × Unit)) → Int → Int → Option ((Int × Unit) × Unit) := iter (fun _ _ _ _ => none) fun L => slices_IndexFunc_int_B1 L
noncomputable def slices_IndexFunc_int_X1 (n m : Nat) (v1 : List Int) (v2 : (Int × Unit → Option (Bool × Unit))) (v3 : Int) (v4 : Int) : Option ((Int × Unit) × Unit) :=
 atLoop slices_IndexFunc_int_Γ tab (fiB [.val t23, .fn [t2] [t4]] slices_IndexFunc_int_fi) n [.val t23, .fn [t2] [t4]] [⟨t2, [false], none⟩] Tryz.f340 [1, 0, 1, 0] [] [0, 1, 7, 8] m
 ⟨[(0, SV.cv (CV.one (LV.pure t23 v1))), (1, SV.cv (CV.one (LV.clo [t2] [t4] v2))), (7, SV.cv (CV.one (LV.pure t2 v3))), (8, SV.cv (CV.one (LV.pure t2 v4)))],
  []⟩
theorem slices_IndexFunc_int_step1 (n m : Nat) (v1 : List Int) (v2 : (Int × Unit → Option (Bool × Unit))) (v3 : Int) (v4 : Int) : slices_IndexFunc_int_X1 n (m + 1) v1 v2 v3 v4 = slices_IndexFunc_int_B1 (slices_IndexFunc_int_X1 n m) v1 v2 v3 v4 := by kernel_rfl
theorem slices_IndexFunc_int_start (n : Nat) (s_0 : List Int) (f_1 : (Int × Unit → Option (Bool × Unit))) : evFn slices_IndexFunc_int_Γ tab slices_IndexFunc_int_fi n [.val t23, .fn [t2] [t4]] [⟨t2, [false], none⟩] Tryz.f340 (s_0, f_1, ()) = slices_IndexFunc_int_T (slices_IndexFunc_int_X1 n n) s_0 f_1 := by kernel_rfl
theorem slices_IndexFunc_int_XL1 (n : Nat) : ∀ m, slices_IndexFunc_int_X1 n m = slices_IndexFunc_int_L1 n m
 | 0 => rfl
 | m + 1 => by
  have ih := slices_IndexFunc_int_XL1 n m
  funext v1 v2 v3 v4
  rw [slices_IndexFunc_int_step1, ih]
  rfl
noncomputable def slices_IndexFunc_int_n (n : Nat) (s_0 : List Int) (f_1 : (Int × Unit → Option (Bool × Unit))) : Option ((Int × Unit) × Unit) := slices_IndexFunc_int_T (slices_IndexFunc_int_L1 n n) s_0 f_1
noncomputable def slices_IndexFunc_int (s_0 : List Int) (f_1 : (Int × Unit → Option (Bool × Unit))) : Option ((Int × Unit) × Unit) := slices_IndexFunc_int_n 1099511627776 s_0 f_1
theorem slices_IndexFunc_int_eq (n : Nat) (s_0 : List Int) (f_1 : (Int × Unit → Option (Bool × Unit))) : evFn slices_IndexFunc_int_Γ tab slices_IndexFunc_int_fi n [.val t23, .fn [t2] [t4]] [⟨t2, [false], none⟩] Tryz.f340 (s_0, f_1, ()) = slices_IndexFunc_int_n n s_0 f_1 := by
  rw [slices_IndexFunc_int_start, slices_IndexFunc_int_XL1 n n]
  rfl
noncomputable def slices_IndexFunc_int_e : Ent := ⟨[.val t23, .fn [t2] [t4]], [⟨t2, [false], none⟩], fun x => slices_IndexFunc_int x.1 x.2.1⟩
theorem slices_IndexFunc_int_good : Good tab.ty Tryz.prog 340 slices_IndexFunc_int_e := by
  refine fn_good (Γ := slices_IndexFunc_int_Γ) (fi := slices_IndexFunc_int_fi) (n := 1099511627776) follows gnil tabok Tryz.func340 (by kernel_rfl) (by kernel_rfl) (fun x r h => ?_)
  obtain ⟨s_0, f_1, _u⟩ := x
  exact (slices_IndexFunc_int_eq 1099511627776 s_0 f_1).trans h
noncomputable def slices_DeleteFunc_int_Γ : Ctx := [(326, markE), (340, slices_IndexFunc_int_e)]
def slices_DeleteFunc_int_fi : Fi := { keep := [], vty := [(4, 23), (8, 23), (13, 23), (17, 23), (22, 23), (30, 23), (36, 23), (39, 23)], vals := [], live := [(0, [0, 1]), (1, [0, 1, 5]), (2, [0, 1, 5, 12]), (3, [4]), (4, [0, 1, 5, 6]), (5, [0, 1, 5, 6, 19]), (6, [0, 1, 5, 6]), (7, [0, 1, 5, 6, 7]), (8, [0, 1, 5, 6, 7, 29]), (9, [0, 1, 5, 6]), (10, [0, 1, 5, 6]), (11, [0, 5]), (12, [4])], melt := [(11, 1000000), (12, 1000000)] }
noncomputable def slices_DeleteFunc_int_x (x : PDs [.own 3 t2, .fn [t2] [t4]]) : Option (RDs [⟨t23, [true], none⟩] × ODs [.own 3 t2, .fn [t2] [t4]]) := evFn slices_DeleteFunc_int_Γ tab slices_DeleteFunc_int_fi 1099511627776 [.own 3 t2, .fn [t2] [t4]] [⟨t23, [true], none⟩] Tryz.f326 x
noncomputable def slices_DeleteFunc_int (x0 : List Int) (x1 : (Int × Unit → Option (Bool × Unit))) : Option (((List Int) × Unit) × Unit) := slices_DeleteFunc_int_x (x0, x1, ())
noncomputable def slices_DeleteFunc_int_e : Ent := ⟨[.own 3 t2, .fn [t2] [t4]], [⟨t23, [true], none⟩], fun x => slices_DeleteFunc_int x.1 x.2.1⟩
theorem slices_DeleteFunc_int_good : Good tab.ty Tryz.prog 326 slices_DeleteFunc_int_e := by
  refine fn_good (Γ := slices_DeleteFunc_int_Γ) (fi := slices_DeleteFunc_int_fi) (n := 1099511627776) follows (gcons (gmark Tryz.func326 (by kernel_rfl) (by kernel_rfl)) (gcons slices_IndexFunc_int_good gnil)) tabok Tryz.func326 (by kernel_rfl) (by kernel_rfl) (fun x r h => ?_)
  obtain ⟨x0, x1, _u⟩ := x
  exact h
noncomputable def clus_over_fn1_Γ : Ctx := []
def clus_over_fn1_fi : Fi := { keep := [], vty := [], vals := [], live := [(0, [0, 1]), (1, [3])] }
noncomputable def clus_over_fn1 (x_0 : Int) (x_1 : Int) : Option ((Bool × Unit) × Unit) :=
 some ((x_0 == x_1, ()), ())
theorem clus_over_fn1_eq (x_0 : Int) (x_1 : Int) : evFn clus_over_fn1_Γ tab clus_over_fn1_fi 1 [.val t2, .rbox t2] [⟨t4, [false], none⟩] Tryz.f349 (x_0, x_1, ()) = clus_over_fn1 x_0 x_1 := by kernel_rfl
noncomputable def clus_over_fn1_e : Ent := ⟨[.val t2, .rbox t2], [⟨t4, [false], none⟩], fun x => clus_over_fn1 x.1 x.2.1⟩
theorem clus_over_fn1_good : Good tab.ty Tryz.prog 349 clus_over_fn1_e := by
  refine fn_good (Γ := clus_over_fn1_Γ) (fi := clus_over_fn1_fi) (n := 1) follows gnil tabok Tryz.func349 (by kernel_rfl) (by kernel_rfl) (fun x r h => ?_)
  obtain ⟨x_0, x_1, _u⟩ := x
  exact (clus_over_fn1_eq x_0 x_1).trans h
noncomputable def clus_over_fn2_Γ : Ctx := []
def clus_over_fn2_fi : Fi := { keep := [], vty := [], vals := [], live := [(0, [0, 1]), (1, [3])] }
noncomputable def clus_over_fn2 (y_0 : Int) (x_1 : Int) : Option ((Bool × Unit) × Unit) :=
 some ((y_0 == x_1, ()), ())
theorem clus_over_fn2_eq (y_0 : Int) (x_1 : Int) : evFn clus_over_fn2_Γ tab clus_over_fn2_fi 1 [.val t2, .rbox t2] [⟨t4, [false], none⟩] Tryz.f350 (y_0, x_1, ()) = clus_over_fn2 y_0 x_1 := by kernel_rfl
noncomputable def clus_over_fn2_e : Ent := ⟨[.val t2, .rbox t2], [⟨t4, [false], none⟩], fun x => clus_over_fn2 x.1 x.2.1⟩
theorem clus_over_fn2_good : Good tab.ty Tryz.prog 350 clus_over_fn2_e := by
  refine fn_good (Γ := clus_over_fn2_Γ) (fi := clus_over_fn2_fi) (n := 1) follows gnil tabok Tryz.func350 (by kernel_rfl) (by kernel_rfl) (fun x r h => ?_)
  obtain ⟨y_0, x_1, _u⟩ := x
  exact (clus_over_fn2_eq y_0 x_1).trans h
noncomputable def clus_over_Γ : Ctx := [(67, slices_Clone_int_e), (194, slices_Contains_int_e), (200, slices_Sort_int_e), (202, mid_Near_e), (326, slices_DeleteFunc_int_e), (349, clus_over_fn1_e), (350, clus_over_fn2_e)]
def clus_over_fi : Fi := { keep := [], vty := [], vals := [], live := [(0, [0, 1, 2, 4, 8]), (1, [0, 1, 2, 4, 12]), (2, [1, 2, 4, 12, 13]), (3, [1, 2, 4, 13, 24]), (4, [1, 2, 13]), (5, [1, 2, 13]), (6, [1, 2]), (7, [1, 2]), (8, [10, 11])] }
noncomputable def clus_over (d_0 : List (List Int)) (from_1 : List Int) (to_2 : List Int) (own_3 : Int) (end_4 : Int) : Option (((List Int) × (List Int) × Unit) × Unit) :=
 Option.bind (slices_Clone_int from_1) fun (r1 : ((List Int) × Unit) × Unit) =>
 Option.bind (slices_DeleteFunc_int r1.1.1 (fun x => (clus_over_fn1 x.1 own_3).bind fun r => some (r.1.1, ()))) fun (r2 : ((List Int) × Unit) × Unit) =>
 Option.bind (mid_Near d_0 end_4 r2.1.1) fun (r3 : (Int × Unit) × Unit) =>
 Option.bind (slices_Contains_int r2.1.1 end_4) fun (r4 : (Bool × Unit) × Unit) =>
 bif r4.1.1 then
  Option.bind (slices_Clone_int from_1) fun (r5 : ((List Int) × Unit) × Unit) =>
  Option.bind (slices_DeleteFunc_int r5.1.1 (fun x => (clus_over_fn2 x.1 end_4).bind fun r => some (r.1.1, ()))) fun (r6 : ((List Int) × Unit) × Unit) =>
  Option.bind (slices_Clone_int to_2) fun (r7 : ((List Int) × Unit) × Unit) =>
  bif Nat.ble (r7.1.1.length + 1) 1073741824 then
   Option.bind (slices_Sort_int (r7.1.1 ++ [end_4])) fun (r8 : Unit × (List Int × Unit)) =>
   some ((r6.1.1, r8.2.1, ()), ())
  else none
 else
  Option.bind (slices_Clone_int from_1) fun (r9 : ((List Int) × Unit) × Unit) =>
  Option.bind (slices_DeleteFunc_int r9.1.1 (fun x => (clus_over_fn2 x.1 r3.1.1).bind fun r => some (r.1.1, ()))) fun (r10 : ((List Int) × Unit) × Unit) =>
  Option.bind (slices_Clone_int to_2) fun (r11 : ((List Int) × Unit) × Unit) =>
  bif Nat.ble (r11.1.1.length + 1) 1073741824 then
   Option.bind (slices_Sort_int (r11.1.1 ++ [r3.1.1])) fun (r12 : Unit × (List Int × Unit)) =>
   some ((r10.1.1, r12.2.1, ()), ())
  else none
theorem clus_over_eq (d_0 : List (List Int)) (from_1 : List Int) (to_2 : List Int) (own_3 : Int) (end_4 : Int) : evFn clus_over_Γ tab clus_over_fi 1 [.val t49, .val t23, .val t23, .val t2, .val t2] [⟨t23, [true], none⟩, ⟨t23, [true], none⟩] Tryz.f324 (d_0, from_1, to_2, own_3, end_4, ()) = clus_over d_0 from_1 to_2 own_3 end_4 := by kernel_rfl
noncomputable def clus_over_e : Ent := ⟨[.val t49, .val t23, .val t23, .val t2, .val t2], [⟨t23, [true], none⟩, ⟨t23, [true], none⟩], fun x => clus_over x.1 x.2.1 x.2.2.1 x.2.2.2.1 x.2.2.2.2.1⟩
theorem clus_over_good : Good tab.ty Tryz.prog 324 clus_over_e := by
  refine fn_good (Γ := clus_over_Γ) (fi := clus_over_fi) (n := 1) follows (gcons slices_Clone_int_good (gcons slices_Contains_int_good (gcons slices_Sort_int_good (gcons mid_Near_good (gcons slices_DeleteFunc_int_good (gcons clus_over_fn1_good (gcons clus_over_fn2_good gnil))))))) tabok Tryz.func324 (by kernel_rfl) (by kernel_rfl) (fun x r h => ?_)
  obtain ⟨d_0, from_1, to_2, own_3, end_4, _u⟩ := x
  exact (clus_over_eq d_0 from_1 to_2 own_3 end_4).trans h
noncomputable def clus_Split_Γ : Ctx := [(67, slices_Clone_int_e), (322, clus_ends_e), (323, clus_far_e), (324, clus_over_e)]
def clus_Split_fi : Fi := { keep := [], vty := [(6, 23), (7, 23), (12, 23), (15, 23), (18, 49), (19, 23), (23, 23), (37, 49), (41, 49), (48, 23), (52, 23), (57, 23), (62, 23), (68, 49), (69, 23), (70, 23), (76, 23), (81, 23), (87, 49), (88, 23), (89, 23), (95, 23), (96, 23)], vals := [], live := [(0, [0, 1, 2, 6, 7, 33, 34, 35, 36, 37, 38, 39, 40, 41, 42, 43, 44, 45, 46, 62, 63, 64, 65, 81, 82, 83, 84]), (1, [0, 1, 2, 6, 7, 14, 33, 34, 35, 36, 37, 38, 39, 40, 41, 42, 43, 44, 45, 46, 62, 63, 64, 65, 81, 82, 83, 84]), (2, [6, 7]), (3, [0, 1, 2, 6, 7, 8, 9, 33, 34, 35, 36, 37, 38, 39, 40, 41, 42, 43, 44, 45, 46, 62, 63, 64, 65, 81, 82, 83, 84]), (4, [0, 2, 6, 7, 8, 9, 23, 24, 25, 33, 34, 35, 36, 37, 38, 39, 40, 41, 42, 43, 44, 45, 46, 62, 63, 64, 65, 81, 82, 83, 84]), (5, [0, 2, 6, 7, 8, 9, 23, 24, 25, 26, 33, 34, 35, 36, 37, 38, 39, 40, 41, 42, 43, 44, 45, 46, 62, 63, 64, 65, 81, 82, 83, 84]), (6, [0, 2, 6, 7, 8, 9, 11, 23, 24, 25, 33, 34, 35, 36, 37, 38, 39, 40, 41, 42, 43, 44, 45, 46, 62, 63, 64, 65, 81, 82, 83, 84]), (7, [0, 2, 6, 7, 8, 9, 11, 23, 24, 25, 33, 34, 35, 36, 37, 38, 39, 40, 41, 42, 43, 44, 45, 46, 47, 62, 63, 64, 65, 81, 82, 83, 84]), (8, [0, 2, 6, 7, 8, 9, 23, 24, 25, 33, 34, 35, 36, 37, 38, 39, 40, 41, 42, 43, 44, 45, 46, 62, 63, 64, 65, 81, 82, 83, 84]), (9, [0, 2, 6, 7, 8, 9, 23, 24, 25, 33, 34, 35, 36, 37, 38, 39, 40, 41, 42, 43, 44, 45, 46, 62, 63, 64, 65, 81, 82, 83, 84]), (10, [0, 2, 6, 7, 8, 9, 23, 24, 25, 33, 34, 35, 36, 37, 38, 39, 40, 41, 42, 43, 44, 45, 46, 62, 63, 64, 65, 81, 82, 83, 84]), (11, [0, 2, 6, 7, 8, 9, 62, 63, 64, 65, 66, 81, 82, 83, 84]), (12, [0, 2, 6, 7, 8, 9, 62, 63, 64, 65, 81, 82, 83, 84]), (13, [0, 2, 6, 7, 8, 9, 81, 82, 83, 84, 85]), (14, [0, 2, 6, 7, 8, 9, 81, 82, 83, 84]), (15, [6, 7])] }
noncomputable def clus_Split_x (x : PDs [.val t49, .val t23, .val t2]) : Option (RDs [⟨t23, [true], none⟩, ⟨t23, [true], none⟩] × ODs [.val t49, .val t23, .val t2]) := evFn clus_Split_Γ tab clus_Split_fi 1099511627776 [.val t49, .val t23, .val t2] [⟨t23, [true], none⟩, ⟨t23, [true], none⟩] Tryz.f265 x
noncomputable def clus_Split (x0 : List (List Int)) (x1 : List Int) (x2 : Int) : Option (((List Int) × (List Int) × Unit) × Unit) := clus_Split_x (x0, x1, x2, ())
noncomputable def clus_Split_e : Ent := ⟨[.val t49, .val t23, .val t2], [⟨t23, [true], none⟩, ⟨t23, [true], none⟩], fun x => clus_Split x.1 x.2.1 x.2.2.1⟩
theorem clus_Split_good : Good tab.ty Tryz.prog 265 clus_Split_e := by
  refine fn_good (Γ := clus_Split_Γ) (fi := clus_Split_fi) (n := 1099511627776) follows (gcons slices_Clone_int_good (gcons clus_ends_good (gcons clus_far_good (gcons clus_over_good gnil)))) tabok Tryz.func265 (by kernel_rfl) (by kernel_rfl) (fun x r h => ?_)
  obtain ⟨x0, x1, x2, _u⟩ := x
  exact h
noncomputable def slices_Grow_Cluster_Γ : Ctx := [(325, markE)]
def slices_Grow_Cluster_fi : Fi := { keep := [], vty := [], vals := [], live := [(0, [0, 1]), (1, [0, 1, 6]), (2, [0, 1]), (3, [0, 1]), (4, [0, 1, 16]), (5, [0]), (6, [4])] }
noncomputable def slices_Grow_Cluster_c (c : Nat) (s_0 : List ((List Int) × Int)) (n_1 : Int) : Option (((List ((List Int) × Int)) × Unit) × Unit) :=
 bif decide (n_1 < 0) then
  none
 else
 bif Nat.ble (0 + s_0.length) ((List.map some s_0 ++ List.replicate c none).length) then
  bif decide (IntKind.wrap .i64 (n_1 - (IntKind.wrap .i64 (((((List.map some s_0 ++ List.replicate c none).length) - 0 : Nat) : Int) - ((s_0.length : Nat) : Int)))) > 0) then
   bif Nat.ble (0 + s_0.length) ((List.map some s_0 ++ List.replicate c none).length) then
    bif decide (0 ≤ ((((List.map some s_0 ++ List.replicate c none).length) - 0 : Nat) : Int)) && decide (((((List.map some s_0 ++ List.replicate c none).length) - 0 : Nat) : Int) ≤ ((((List.map some s_0 ++ List.replicate c none).length) - 0 : Nat) : Int)) then
     bif Nat.ble (0 + ((((((List.map some s_0 ++ List.replicate c none).length) - 0 : Nat) : Int) - 0).toNat)) ((List.map some s_0 ++ List.replicate c none).length) then
      bif decide (0 < IntKind.wrap .i64 (n_1 - (IntKind.wrap .i64 (((((List.map some s_0 ++ List.replicate c none).length) - 0 : Nat) : Int) - ((s_0.length : Nat) : Int))))) && true && Nat.blt ((List.map some s_0 ++ List.replicate c none).length) (((((((List.map some s_0 ++ List.replicate c none).length) - 0 : Nat) : Int) - 0).toNat) + ((List.replicate ((IntKind.wrap .i64 (n_1 - (IntKind.wrap .i64 (((((List.map some s_0 ++ List.replicate c none).length) - 0 : Nat) : Int) - ((s_0.length : Nat) : Int))))).toNat) (([], 0) : (List Int) × Int)).length)) && Nat.ble (((List.map some s_0 ++ List.replicate c none).length) + ((List.replicate ((IntKind.wrap .i64 (n_1 - (IntKind.wrap .i64 (((((List.map some s_0 ++ List.replicate c none).length) - 0 : Nat) : Int) - ((s_0.length : Nat) : Int))))).toNat) (([], 0) : (List Int) × Int)).length)) 536870912 then
       bif decide (0 ≤ ((s_0.length : Nat) : Int)) && decide (((s_0.length : Nat) : Int) ≤ ((((List.take ((((((List.map some s_0 ++ List.replicate c none).length) - 0 : Nat) : Int) - 0).toNat) (List.map some s_0 ++ List.replicate c none) ++ List.map some (List.replicate ((IntKind.wrap .i64 (n_1 - (IntKind.wrap .i64 (((((List.map some s_0 ++ List.replicate c none).length) - 0 : Nat) : Int) - ((s_0.length : Nat) : Int))))).toNat) (([], 0) : (List Int) × Int))).length) - 0 : Nat) : Int)) then
        bif Nat.ble ((((s_0.length : Nat) : Int) - 0).toNat) ((List.take ((((((List.map some s_0 ++ List.replicate c none).length) - 0 : Nat) : Int) - 0).toNat) (List.map some s_0 ++ List.replicate c none) ++ List.map some (List.replicate ((IntKind.wrap .i64 (n_1 - (IntKind.wrap .i64 (((((List.map some s_0 ++ List.replicate c none).length) - 0 : Nat) : Int) - ((s_0.length : Nat) : Int))))).toNat) (([], 0) : (List Int) × Int))).length) then
         Option.bind (allSome (List.take ((((s_0.length : Nat) : Int) - 0).toNat) (List.take ((((((List.map some s_0 ++ List.replicate c none).length) - 0 : Nat) : Int) - 0).toNat) (List.map some s_0 ++ List.replicate c none) ++ List.map some (List.replicate ((IntKind.wrap .i64 (n_1 - (IntKind.wrap .i64 (((((List.map some s_0 ++ List.replicate c none).length) - 0 : Nat) : Int) - ((s_0.length : Nat) : Int))))).toNat) (([], 0) : (List Int) × Int))))) fun (z1 : List ((List Int) × Int)) =>
         some ((z1, ()), ())
        else none
       else none
      else none
     else none
    else none
   else none
  else
  bif Nat.ble s_0.length ((List.map some s_0 ++ List.replicate c none).length) then
   Option.bind (allSome (List.take s_0.length (List.map some s_0 ++ List.replicate c none))) fun (z2 : List ((List Int) × Int)) =>
   some ((z2, ()), ())
  else none
 else none
theorem slices_Grow_Cluster_c_eq (c : Nat) (s_0 : List ((List Int) × Int)) (n_1 : Int) : evFn slices_Grow_Cluster_Γ tab { slices_Grow_Cluster_fi with cap := c } 1 [.ownc 207 t206, .val t2] [⟨t190, [true], none⟩] Tryz.f325 (s_0, n_1, ()) = slices_Grow_Cluster_c c s_0 n_1 := by kernel_rfl
theorem slices_Grow_Cluster_c_is (c : Nat) (s_0 : List ((List Int) × Int)) (n_1 : Int) : slices_Grow_Cluster_c c s_0 n_1 = growC (([], 0) : (List Int) × Int) c s_0 n_1 := by kernel_rfl
noncomputable def slices_Grow_Cluster (s_0 : List ((List Int) × Int)) (n_1 : Int) : Option (((List ((List Int) × Int)) × Unit) × Unit) := growR s_0 n_1
noncomputable def slices_Grow_Cluster_e : Ent := ⟨[.ownc 207 t206, .val t2], [⟨t190, [true], none⟩], fun x => slices_Grow_Cluster x.1 x.2.1⟩
theorem slices_Grow_Cluster_good : Good tab.ty Tryz.prog 325 slices_Grow_Cluster_e := by
  refine fn_goodC (Γ := slices_Grow_Cluster_Γ) (fi := slices_Grow_Cluster_fi) (n := 1) follows (gcons (gmark Tryz.func325 (by kernel_rfl) (by kernel_rfl)) gnil) tabok Tryz.func325 (by kernel_rfl) (by kernel_rfl) (fun c x r hc h => ?_)
  obtain ⟨s_0, n_1, _u⟩ := x
  exact (slices_Grow_Cluster_c_eq c s_0 n_1).trans ((slices_Grow_Cluster_c_is c s_0 n_1).trans (grow_law (([], 0) : (List Int) × Int) c s_0 n_1 r hc h))
noncomputable def slices_Concat_Cluster_Γ : Ctx := [(325, slices_Grow_Cluster_e)]
def slices_Concat_Cluster_fi : Fi := { keep := [], vty := [(2, 190), (5, 190), (6, 190), (8, 190), (9, 50), (16, 190), (25, 50), (31, 190), (32, 190), (35, 190)], vals := [], live := [(0, [0]), (1, [0, 3]), (2, [0, 3, 9, 10, 11]), (3, [0, 3, 9, 10, 11, 12]), (4, [0, 3, 5, 9, 10, 11]), (5, [0, 3, 9, 10, 11]), (6, [0, 3, 9, 10, 11, 20]), (7, [0, 3, 9, 10, 11]), (8, [0, 3, 9, 10, 11]), (9, [0, 6]), (10, [6, 25, 26, 27]), (11, [6, 25, 26, 27, 28]), (12, [6, 8, 25, 26, 27]), (13, [6, 25, 26, 27]), (14, [6, 25, 26, 27]), (15, [2])] }
noncomputable def slices_Concat_Cluster_x (x : PDs [.val t50]) : Option (RDs [⟨t190, [true], none⟩] × ODs [.val t50]) := evFn slices_Concat_Cluster_Γ tab slices_Concat_Cluster_fi 1099511627776 [.val t50] [⟨t190, [true], none⟩] Tryz.f266 x
noncomputable def slices_Concat_Cluster (x0 : List (List ((List Int) × Int))) : Option (((List ((List Int) × Int)) × Unit) × Unit) := slices_Concat_Cluster_x (x0, ())
noncomputable def slices_Concat_Cluster_e : Ent := ⟨[.val t50], [⟨t190, [true], none⟩], fun x => slices_Concat_Cluster x.1⟩
theorem slices_Concat_Cluster_good : Good tab.ty Tryz.prog 266 slices_Concat_Cluster_e := by
  refine fn_good (Γ := slices_Concat_Cluster_Γ) (fi := slices_Concat_Cluster_fi) (n := 1099511627776) follows (gcons slices_Grow_Cluster_good gnil) tabok Tryz.func266 (by kernel_rfl) (by kernel_rfl) (fun x r h => ?_)
  obtain ⟨x0, _u⟩ := x
  exact h
noncomputable def clus_cut_Γ : Ctx := [(198, clus_Of_e), (265, clus_Split_e), (266, slices_Concat_Cluster_e)]
def clus_cut_fi : Fi := { keep := [], vty := [], vals := [], live := [(0, [0, 1, 2, 3, 22, 23, 24, 25, 26, 27, 41, 42, 43]), (1, [0, 1, 2, 3, 10, 22, 23, 24, 25, 26, 27, 41, 42, 43]), (2, [0, 1, 2, 3, 10, 28, 41, 42, 43]), (3, [8, 9]), (4, [0, 1, 2, 11, 12, 41, 42, 43]), (5, [0, 1, 2, 11, 12, 44]), (6, [8, 9]), (7, [8, 9])] }
noncomputable def clus_cut (d_0 : List (List Int)) (cs_1 : List ((List Int) × Int)) (at_2 : Int) (k_3 : Int) : Option (((List ((List Int) × Int)) × Bool × Unit) × Unit) :=
 bif decide (0 ≤ at_2) && decide (at_2 < (cs_1.length : Int)) then
  bif decide ((((List.getD cs_1 at_2.toNat ([], 0)).1).length : Int) < 2) then
   some ((cs_1, false, ()), ())
  else
  bif decide ((((List.getD cs_1 at_2.toNat ([], 0)).1).length : Int) ≤ IntKind.wrap .i64 ((IntKind.wrap .i64 (3 * k_3)) - 1)) then
   some ((cs_1, false, ()), ())
  else
   Option.bind (clus_Split d_0 ((List.getD cs_1 at_2.toNat ([], 0)).1) k_3) fun (r1 : ((List Int) × (List Int) × Unit) × Unit) =>
   bif (r1.1.1.length : Int) == 0 then
    some ((cs_1, false, ()), ())
   else
   bif (r1.1.2.1.length : Int) == 0 then
    some ((cs_1, false, ()), ())
   else
   bif decide (0 ≤ at_2) && decide (at_2 ≤ (cs_1.length : Int)) then
    Option.bind (clus_Of d_0 r1.1.1) fun (r2 : (((List Int) × Int) × Unit) × Unit) =>
    Option.bind (clus_Of d_0 r1.1.2.1) fun (r3 : (((List Int) × Int) × Unit) × Unit) =>
    bif (decide (0 ≤ IntKind.wrap .i64 (at_2 + 1)) && decide (IntKind.wrap .i64 (at_2 + 1) ≤ (cs_1.length : Int))) && decide ((cs_1.length : Int) ≤ (cs_1.length : Int)) then
     Option.bind (slices_Concat_Cluster [List.drop 0 (List.take at_2.toNat cs_1), [r2.1.1, r3.1.1], List.drop ((IntKind.wrap .i64 (at_2 + 1)).toNat) (List.take ((cs_1.length : Int).toNat) cs_1)]) fun (r4 : ((List ((List Int) × Int)) × Unit) × Unit) =>
     some ((r4.1.1, true, ()), ())
    else none
   else none
 else none
theorem clus_cut_eq (d_0 : List (List Int)) (cs_1 : List ((List Int) × Int)) (at_2 : Int) (k_3 : Int) : evFn clus_cut_Γ tab clus_cut_fi 1 [.val t49, .val t190, .val t2, .val t2] [⟨t190, [false], none⟩, ⟨t4, [false], none⟩] Tryz.f201 (d_0, cs_1, at_2, k_3, ()) = clus_cut d_0 cs_1 at_2 k_3 := by kernel_rfl
noncomputable def clus_cut_e : Ent := ⟨[.val t49, .val t190, .val t2, .val t2], [⟨t190, [false], none⟩, ⟨t4, [false], none⟩], fun x => clus_cut x.1 x.2.1 x.2.2.1 x.2.2.2.1⟩
theorem clus_cut_good : Good tab.ty Tryz.prog 201 clus_cut_e := by
  refine fn_good (Γ := clus_cut_Γ) (fi := clus_cut_fi) (n := 1) follows (gcons clus_Of_good (gcons clus_Split_good (gcons slices_Concat_Cluster_good gnil))) tabok Tryz.func201 (by kernel_rfl) (by kernel_rfl) (fun x r h => ?_)
  obtain ⟨d_0, cs_1, at_2, k_3, _u⟩ := x
  exact (clus_cut_eq d_0 cs_1 at_2 k_3).trans h
noncomputable def clus_Join_Γ : Ctx := [(198, clus_Of_e), (199, clus_find_e), (200, slices_Sort_int_e), (201, clus_cut_e)]
def clus_Join_fi : Fi := { keep := [], vty := [(1, 190), (10, 190), (11, 23), (12, 190), (15, 190), (18, 49), (28, 190), (33, 190), (38, 190), (39, 190), (47, 23), (49, 190), (51, 49), (52, 23), (56, 49), (57, 190), (63, 190)], vals := [], live := [(0, [0, 1, 2, 3, 4, 27, 28, 29, 30, 33, 34, 35, 36]), (1, [0, 1, 2, 3, 4, 27, 28, 29, 30, 33, 34, 35, 36]), (2, [0, 1, 2, 3, 4, 14, 27, 28, 29, 30, 33, 34, 35, 36]), (3, [10]), (4, [0, 1, 2, 3, 4, 23]), (5, [10]), (6, [0, 1, 2, 4, 11]), (7, [0, 1, 2, 4, 11]), (8, [0, 1, 2, 4]), (9, [1]), (10, [10])] }
def clus_Join_cfg : TakeCfg := { eT := 207, iT := 3, Tcs := 190, Tsl := 23, tD := t49, cs := 1, ix := 2, tA := 12, tB := 13, q1 := 39, q2 := 40, q3 := 41, q4 := 42, q5 := 43, ks := [2, 3, 4], bx := none, ft := 197, id6 := 6 }
noncomputable def clus_Join_c0 : Code := match Tryz.f123.body with
  | some c => c
  | none => .skip
noncomputable def clus_Join_c1 : Code := seqR clus_Join_c0
noncomputable def clus_Join_c2 : Code := seqR clus_Join_c1
noncomputable def clus_Join_Bs : List Code := [seqL clus_Join_c2]
noncomputable def clus_Join_c3 : Code := seqR (clus_Join_c2)
noncomputable def clus_Join_x (x : PDs [.val t49, .val t190, .val t2, .val t2, .val t2]) : Option (RDs [⟨t190, [false], none⟩] × ODs [.val t49, .val t190, .val t2, .val t2, .val t2]) := evTake clus_Join_Γ tab clus_Join_fi 1099511627776 clus_Join_cfg (seqL clus_Join_c0) clus_Join_Bs (regArr (seqL clus_Join_c3)) (seqR clus_Join_c3) [.val t49, .val t190, .val t2, .val t2, .val t2] [⟨t190, [false], none⟩] Tryz.f123 x.1 x
noncomputable def clus_Join (x0 : List (List Int)) (x1 : List ((List Int) × Int)) (x2 : Int) (x3 : Int) (x4 : Int) : Option (((List ((List Int) × Int)) × Unit) × Unit) := clus_Join_x (x0, x1, x2, x3, x4, ())
noncomputable def clus_Join_e : Ent := ⟨[.val t49, .val t190, .val t2, .val t2, .val t2], [⟨t190, [false], none⟩], fun x => clus_Join x.1 x.2.1 x.2.2.1 x.2.2.2.1 x.2.2.2.2.1⟩
theorem clus_Join_ops : TakeOps clus_Join_cfg (opAt (regOps (seqL clus_Join_c1)) 0) (opAt (regOps (seqL clus_Join_c1)) 1) (opAt (regOps (seqL clus_Join_c1)) 2) (opAt (regOps (seqL clus_Join_c3)) 0) (opAt (regOps (seqL clus_Join_c3)) 1) (opAt (regOps (seqL clus_Join_c3)) 2) (opAt (regOps (seqL clus_Join_c3)) 3) (opAt (regOps (seqL clus_Join_c3)) 4) := ⟨⟨rfl, rfl, rfl⟩, ⟨rfl, rfl, rfl⟩, ⟨rfl, rfl, rfl⟩, ⟨rfl, rfl, rfl⟩, ⟨rfl, rfl, rfl⟩, ⟨rfl, rfl, rfl⟩, ⟨rfl, rfl, rfl⟩, ⟨rfl, rfl, rfl⟩⟩
theorem clus_Join_good : Good tab.ty Tryz.prog 123 clus_Join_e := by
  refine take_good (c := clus_Join_cfg) (pr := [.val t190, .val t2, .val t2, .val t2]) (rs := [⟨t190, [false], none⟩]) (Γ := clus_Join_Γ) (fi := clus_Join_fi) (n := 1099511627776) (id1 := 1) (r0 := seqL clus_Join_c0) (Bs := clus_Join_Bs) (ops1 := regArr (seqL clus_Join_c1)) (ops6 := regArr (seqL clus_Join_c3)) (rest := (regOps (seqL clus_Join_c3)).drop 5) (tail := seqR clus_Join_c3) follows (gcons clus_Of_good (gcons clus_find_good (gcons slices_Sort_int_good (gcons clus_cut_good gnil)))) tabok clus_twin_ok Tryz.func123 (by kernel_rfl) (by kernel_rfl) (by kernel_rfl) (by kernel_rfl) clus_Join_ops (by kernel_rfl) (by kernel_rfl) (fun x r h => ?_)
  obtain ⟨x0, x1, x2, x3, x4, _u⟩ := x
  exact h
noncomputable def hier_leaders_Γ : Ctx := [(200, slices_Sort_int_e)]
def hier_leaders_fi : Fi := { keep := [], vty := [(2, 23)], vals := [], live := [(0, [0, 2]), (1, [2, 5, 6, 7]), (2, [2, 5, 6, 7, 8]), (3, [2, 4, 5, 6, 7]), (4, [2, 5, 6, 7]), (5, [2, 5, 6, 7]), (6, [2]), (7, [2])] }
noncomputable def hier_leaders_B1 (L1 : (List ((List Int) × Int)) → Int → Int → List Int → Option (((List Int) × Unit) × Unit)) (v1 : List ((List Int) × Int)) (v2 : Int) (v3 : Int) (v4 : List Int) : Option (((List Int) × Unit) × Unit) :=
 bif decide (v3 < v2) then
  bif decide (0 ≤ v3) && decide (v3 < (v1.length : Int)) then
   bif Nat.ble (v4.length + 1) 1073741824 then
    L1 v1 v2 (IntKind.wrap .i64 (v3 + 1)) (v4 ++ [(List.getD v1 v3.toNat ([], 0)).2])
   else none
  else none
 else
  Option.bind (slices_Sort_int v4) fun (r5 : Unit × (List Int × Unit)) =>
  some ((r5.2.1, ()), ())
noncomputable def hier_leaders_T (L1 : (List ((List Int) × Int)) → Int → Int → List Int → Option (((List Int) × Unit) × Unit)) (cs_0 : List ((List Int) × Int)) : Option (((List Int) × Unit) × Unit) :=
 L1 cs_0 (cs_0.length : Int) 0 []
noncomputable def hier_leaders_L1 (n : Nat) : Nat → (List ((List Int) × Int)) → Int → Int → List Int → Option (((List Int) × Unit) × Unit) := iter (fun _ _ _ _ => none) fun L => hier_leaders_B1 L
noncomputable def hier_leaders_X1 (n m : Nat) (v1 : List ((List Int) × Int)) (v2 : Int) (v3 : Int) (v4 : List Int) : Option (((List Int) × Unit) × Unit) :=
 atLoop hier_leaders_Γ tab (fiB [.val t190] hier_leaders_fi) n [.val t190] [⟨t23, [true], none⟩] Tryz.f196 [1, 0, 1, 0] [] [2, 5, 6, 7] m
 ⟨[(2, SV.cv (CV.one (LV.ref (888888, 2)))), (5, SV.cv (CV.one (LV.pure t190 v1))), (6, SV.cv (CV.one (LV.pure t2 v2))), (7, SV.cv (CV.one (LV.pure t2 v3)))],
  [((888888, 2), Ob.row 3 t2 v4)]⟩
theorem hier_leaders_step1 (n m : Nat) (v1 : List ((List Int) × Int)) (v2 : Int) (v3 : Int) (v4 : List Int) : hier_leaders_X1 n (m + 1) v1 v2 v3 v4 = hier_leaders_B1 (hier_leaders_X1 n m) v1 v2 v3 v4 := by kernel_rfl
theorem hier_leaders_start (n : Nat) (cs_0 : List ((List Int) × Int)) : evFn hier_leaders_Γ tab hier_leaders_fi n [.val t190] [⟨t23, [true], none⟩] Tryz.f196 (cs_0, ()) = hier_leaders_T (hier_leaders_X1 n n) cs_0 := by kernel_rfl
theorem hier_leaders_XL1 (n : Nat) : ∀ m, hier_leaders_X1 n m = hier_leaders_L1 n m
 | 0 => rfl
 | m + 1 => by
  have ih := hier_leaders_XL1 n m
  funext v1 v2 v3 v4
  rw [hier_leaders_step1, ih]
  rfl
noncomputable def hier_leaders_n (n : Nat) (cs_0 : List ((List Int) × Int)) : Option (((List Int) × Unit) × Unit) := hier_leaders_T (hier_leaders_L1 n n) cs_0
noncomputable def hier_leaders (cs_0 : List ((List Int) × Int)) : Option (((List Int) × Unit) × Unit) := hier_leaders_n 1099511627776 cs_0
theorem hier_leaders_eq (n : Nat) (cs_0 : List ((List Int) × Int)) : evFn hier_leaders_Γ tab hier_leaders_fi n [.val t190] [⟨t23, [true], none⟩] Tryz.f196 (cs_0, ()) = hier_leaders_n n cs_0 := by
  rw [hier_leaders_start, hier_leaders_XL1 n n]
  rfl
noncomputable def hier_leaders_e : Ent := ⟨[.val t190], [⟨t23, [true], none⟩], fun x => hier_leaders x.1⟩
theorem hier_leaders_good : Good tab.ty Tryz.prog 196 hier_leaders_e := by
  refine fn_good (Γ := hier_leaders_Γ) (fi := hier_leaders_fi) (n := 1099511627776) follows (gcons slices_Sort_int_good gnil) tabok Tryz.func196 (by kernel_rfl) (by kernel_rfl) (fun x r h => ?_)
  obtain ⟨cs_0, _u⟩ := x
  exact (hier_leaders_eq 1099511627776 cs_0).trans h
noncomputable def clus_Group_Γ : Ctx := [(198, clus_Of_e), (201, clus_cut_e)]
def clus_Group_fi : Fi := { keep := [], vty := [(6, 190), (8, 190), (10, 23), (13, 49), (14, 23), (18, 190), (22, 49), (23, 190), (29, 190), (34, 190)], vals := [], live := [(0, [0, 1, 2]), (1, [0, 1, 2, 12]), (2, [6]), (3, [0, 2, 6]), (4, [0, 2, 6, 7]), (5, [0, 2, 6, 7, 20]), (6, [0, 2, 7, 8, 9]), (7, [0, 2, 6, 7, 9]), (8, [0, 2, 6, 7, 31]), (9, [0, 2, 6, 7]), (10, [6])] }
noncomputable def clus_Group_x (x : PDs [.val t49, .val t23, .val t2]) : Option (RDs [⟨t190, [false], none⟩] × ODs [.val t49, .val t23, .val t2]) := evFn clus_Group_Γ tab clus_Group_fi 1099511627776 [.val t49, .val t23, .val t2] [⟨t190, [false], none⟩] Tryz.f195 x
noncomputable def clus_Group (x0 : List (List Int)) (x1 : List Int) (x2 : Int) : Option (((List ((List Int) × Int)) × Unit) × Unit) := clus_Group_x (x0, x1, x2, ())
noncomputable def clus_Group_e : Ent := ⟨[.val t49, .val t23, .val t2], [⟨t190, [false], none⟩], fun x => clus_Group x.1 x.2.1 x.2.2.1⟩
theorem clus_Group_good : Good tab.ty Tryz.prog 195 clus_Group_e := by
  refine fn_good (Γ := clus_Group_Γ) (fi := clus_Group_fi) (n := 1099511627776) follows (gcons clus_Of_good (gcons clus_cut_good gnil)) tabok Tryz.func195 (by kernel_rfl) (by kernel_rfl) (fun x r h => ?_)
  obtain ⟨x0, x1, x2, _u⟩ := x
  exact h
noncomputable def hier_above_Γ : Ctx := [(195, clus_Group_e), (196, hier_leaders_e)]
def hier_above_fi : Fi := { keep := [], vty := [(1, 190), (6, 190), (11, 190), (15, 190), (26, 190)], vals := [], live := [(0, [1, 2, 4, 19, 20, 21, 22]), (1, [1, 2, 4, 19, 20, 21, 22]), (2, [1, 2, 4, 8, 19, 20, 21, 22]), (3, [1, 2, 4, 19, 20, 21, 22]), (4, [1, 2, 4, 19, 20, 21, 22, 23]), (5, [1, 2, 4, 19, 20, 21, 22]), (6, [4])] }
noncomputable def hier_above_x (x : PDs [.val t51, .val t190]) : Option (RDs [⟨t51, [false, false, true], none⟩] × ODs [.val t51, .val t190]) := evFn hier_above_Γ tab hier_above_fi 1099511627776 [.val t51, .val t190] [⟨t51, [false, false, true], none⟩] Tryz.f122 x
noncomputable def hier_above (x0 : Int × (List (List Int)) × List (List ((List Int) × Int))) (x1 : List ((List Int) × Int)) : Option (((Int × (List (List Int)) × List (List ((List Int) × Int))) × Unit) × Unit) := hier_above_x (x0, x1, ())
noncomputable def hier_above_e : Ent := ⟨[.val t51, .val t190], [⟨t51, [false, false, true], none⟩], fun x => hier_above x.1 x.2.1⟩
theorem hier_above_good : Good tab.ty Tryz.prog 122 hier_above_e := by
  refine fn_good (Γ := hier_above_Γ) (fi := hier_above_fi) (n := 1099511627776) follows (gcons clus_Group_good (gcons hier_leaders_good gnil)) tabok Tryz.func122 (by kernel_rfl) (by kernel_rfl) (fun x r h => ?_)
  obtain ⟨x0, x1, _u⟩ := x
  exact h
noncomputable def hier_Join_Γ : Ctx := [(119, hier_copied_e), (120, hier_find_e), (121, hier_all_e), (122, hier_above_e), (123, clus_Join_e), (124, hier_down_e)]
def hier_Join_fi : Fi := { keep := [], vty := [], vals := [], live := [(0, [1, 2, 4, 10, 11, 14, 15, 16, 17, 18]), (1, [1, 2, 4, 10, 11, 14, 15, 16, 17, 18]), (2, [1, 2, 4, 19]), (3, [4]), (4, [4])] }
noncomputable def hier_Join (h_0 : Int × (List (List Int)) × List (List ((List Int) × Int))) (id_1 : Int) : Option (((Int × (List (List Int)) × List (List ((List Int) × Int))) × Unit) × Unit) :=
 Option.bind (hier_copied h_0) fun (r1 : ((Int × (List (List Int)) × List (List ((List Int) × Int))) × Unit) × Unit) =>
 bif decide (id_1 < 1) then
  some ((r1.1.1, ()), ())
 else
 bif decide (id_1 > 8) then
  some ((r1.1.1, ()), ())
 else
  Option.bind (hier_all r1.1.1) fun (r2 : ((List ((List Int) × Int)) × Unit) × Unit) =>
  Option.bind (hier_find r2.1.1 id_1) fun (r3 : (Int × Unit) × Unit) =>
  bif decide (r3.1.1 ≥ 0) then
   some ((r1.1.1, ()), ())
  else
   Option.bind (hier_all r1.1.1) fun (r4 : ((List ((List Int) × Int)) × Unit) × Unit) =>
   Option.bind (hier_down r1.1.1 id_1) fun (r5 : (Int × Unit) × Unit) =>
   Option.bind (clus_Join r1.1.1.2.1 r4.1.1 r5.1.1 id_1 r1.1.1.1) fun (r6 : ((List ((List Int) × Int)) × Unit) × Unit) =>
   Option.bind (hier_above r1.1.1 r6.1.1) fun (r7 : ((Int × (List (List Int)) × List (List ((List Int) × Int))) × Unit) × Unit) =>
   some ((r7.1.1, ()), ())
theorem hier_Join_eq (h_0 : Int × (List (List Int)) × List (List ((List Int) × Int))) (id_1 : Int) : evFn hier_Join_Γ tab hier_Join_fi 1 [.val t51, .val t2] [⟨t51, [false, false, false], none⟩] Tryz.f47 (h_0, id_1, ()) = hier_Join h_0 id_1 := by kernel_rfl
noncomputable def hier_Join_e : Ent := ⟨[.val t51, .val t2], [⟨t51, [false, false, false], none⟩], fun x => hier_Join x.1 x.2.1⟩
theorem hier_Join_good : Good tab.ty Tryz.prog 47 hier_Join_e := by
  refine fn_good (Γ := hier_Join_Γ) (fi := hier_Join_fi) (n := 1) follows (gcons hier_copied_good (gcons hier_find_good (gcons hier_all_good (gcons hier_above_good (gcons clus_Join_good (gcons hier_down_good gnil)))))) tabok Tryz.func47 (by kernel_rfl) (by kernel_rfl) (fun x r h => ?_)
  obtain ⟨h_0, id_1, _u⟩ := x
  exact (hier_Join_eq h_0 id_1).trans h
noncomputable def unicode_utf8_RuneLen_Γ : Ctx := []
def unicode_utf8_RuneLen_fi : Fi := { keep := [], vty := [], vals := [], live := [(0, [0, 16, 17]), (1, [0, 3, 16, 17]), (2, [2]), (3, [0, 6, 16, 17]), (4, [2]), (5, [0, 9, 16, 17]), (6, [2]), (7, [0, 12]), (8, [2]), (9, [0, 19]), (10, [2]), (11, [22]), (12, [2]), (13, [2])] }
noncomputable def unicode_utf8_RuneLen (r_0 : Int) : Option ((Int × Unit) × Unit) :=
 bif decide (r_0 < 0) then
  some (((-1), ()), ())
 else
 bif decide (r_0 ≤ 127) then
  some ((1, ()), ())
 else
 bif decide (r_0 ≤ 2047) then
  some ((2, ()), ())
 else
 bif decide (55296 ≤ r_0) then
  bif decide (r_0 ≤ 57343) then
   some (((-1), ()), ())
  else
  bif decide (r_0 ≤ 65535) then
   some ((3, ()), ())
  else
  bif decide (r_0 ≤ 1114111) then
   some ((4, ()), ())
  else
   some (((-1), ()), ())
 else
 bif decide (r_0 ≤ 65535) then
  some ((3, ()), ())
 else
 bif decide (r_0 ≤ 1114111) then
  some ((4, ()), ())
 else
  some (((-1), ()), ())
theorem unicode_utf8_RuneLen_eq (r_0 : Int) : evFn unicode_utf8_RuneLen_Γ tab unicode_utf8_RuneLen_fi 1 [.val t21] [⟨t2, [false], none⟩] Tryz.f235 (r_0, ()) = unicode_utf8_RuneLen r_0 := by kernel_rfl
noncomputable def unicode_utf8_RuneLen_e : Ent := ⟨[.val t21], [⟨t2, [false], none⟩], fun x => unicode_utf8_RuneLen x.1⟩
theorem unicode_utf8_RuneLen_good : Good tab.ty Tryz.prog 235 unicode_utf8_RuneLen_e := by
  refine fn_good (Γ := unicode_utf8_RuneLen_Γ) (fi := unicode_utf8_RuneLen_fi) (n := 1) follows gnil tabok Tryz.func235 (by kernel_rfl) (by kernel_rfl) (fun x r h => ?_)
  obtain ⟨r_0, _u⟩ := x
  exact (unicode_utf8_RuneLen_eq r_0).trans h
noncomputable def unicode_utf8_DecodeRuneInString_Γ : Ctx := []
def unicode_utf8_DecodeRuneInString_fi : Fi := { keep := [], vty := [], vals := [], live := [(0, [0, 7, 8, 9]), (1, [0, 10]), (2, [2, 3]), (3, [2, 3])] }
noncomputable def unicode_utf8_DecodeRuneInString (s_0 : ByteArray) : Option ((Int × Int × Unit) × Unit) :=
 bif !(strEq s_0 (⟨#[]⟩ : ByteArray)) then
  bif decide (0 < (s_0.size : Int)) then
   bif decide (((s_0.data.getD 0 0).toNat : Int) < 128) then
    bif decide (0 < (s_0.size : Int)) then
     some ((IntKind.wrap .i32 ((s_0.data.getD 0 0).toNat : Int), 1, ()), ())
    else none
   else none
  else none
 else none
theorem unicode_utf8_DecodeRuneInString_eq (s_0 : ByteArray) : evFn unicode_utf8_DecodeRuneInString_Γ tab unicode_utf8_DecodeRuneInString_fi 1 [.val t9] [⟨t21, [false], none⟩, ⟨t2, [false], none⟩] Tryz.f236 (s_0, ()) = unicode_utf8_DecodeRuneInString s_0 := by kernel_rfl
noncomputable def unicode_utf8_DecodeRuneInString_e : Ent := ⟨[.val t9], [⟨t21, [false], none⟩, ⟨t2, [false], none⟩], fun x => unicode_utf8_DecodeRuneInString x.1⟩
theorem unicode_utf8_DecodeRuneInString_good : Good tab.ty Tryz.prog 236 unicode_utf8_DecodeRuneInString_e := by
  refine fn_good (Γ := unicode_utf8_DecodeRuneInString_Γ) (fi := unicode_utf8_DecodeRuneInString_fi) (n := 1) follows gnil tabok Tryz.func236 (by kernel_rfl) (by kernel_rfl) (fun x r h => ?_)
  obtain ⟨s_0, _u⟩ := x
  exact (unicode_utf8_DecodeRuneInString_eq s_0).trans h
noncomputable def text_Letters_fn1_Γ : Ctx := []
def text_Letters_fn1_fi : Fi := { keep := [], vty := [], vals := [], live := [(0, [3, 0]), (1, [3]), (2, [3, 7])] }
noncomputable def text_Letters_fn1 (letter_0 : Int) (x_1 : Int) (x_2 : Int) (x_3 : List Int) : Option ((Bool × Unit) × ((List Int) × Unit)) :=
 bif Nat.ble (x_3.length + 1) 1073741824 then
  some ((true, ()), (x_3 ++ [letter_0], ()))
 else none
theorem text_Letters_fn1_eq (letter_0 : Int) (x_1 : Int) (x_2 : Int) (x_3 : List Int) : evFn text_Letters_fn1_Γ tab text_Letters_fn1_fi 1 [.val t2, .val t2, .val t2, .box 23 t23 [true]] [⟨t4, [false], none⟩] Tryz.f160 (letter_0, x_1, x_2, x_3, ()) = text_Letters_fn1 letter_0 x_1 x_2 x_3 := by kernel_rfl
noncomputable def text_Letters_fn1_e : Ent := ⟨[.val t2, .val t2, .val t2, .box 23 t23 [true]], [⟨t4, [false], none⟩], fun x => text_Letters_fn1 x.1 x.2.1 x.2.2.1 x.2.2.2.1⟩
theorem text_Letters_fn1_good : Good tab.ty Tryz.prog 160 text_Letters_fn1_e := by
  refine fn_good (Γ := text_Letters_fn1_Γ) (fi := text_Letters_fn1_fi) (n := 1) follows gnil tabok Tryz.func160 (by kernel_rfl) (by kernel_rfl) (fun x r h => ?_)
  obtain ⟨letter_0, x_1, x_2, x_3, _u⟩ := x
  exact (text_Letters_fn1_eq letter_0 x_1 x_2 x_3).trans h
section
open Go.RowKit
def asciiB (s : ByteArray) : Bool := s.data.toList.all fun b => Nat.blt b.toNat 128
def lettersA (s : ByteArray) : List Int := s.data.toList.map fun b => (b.toNat : Int)
theorem asciiB_at {s : ByteArray} (h : asciiB s = true) {i : Nat} (hi : i < s.size) : (s[i]'hi).toNat < 128 := by
  have := List.all_eq_true.1 h (s.data.toList[i]'(by simpa using hi)) (List.getElem_mem _)
  exact Nat.le_of_ble_eq_true this
theorem lettersA_take {s : ByteArray} {i : Nat} (hi : i < s.size) : (lettersA s).take (i + 1) = (lettersA s).take i ++ [((s[i]'hi).toNat : Int)] := by
  have hl : i < (lettersA s).length := by simpa [lettersA] using hi
  rw [List.take_succ_eq_append_getElem hl]
  simp [lettersA]
  rfl
theorem lettersA_len (s : ByteArray) : (lettersA s).length = s.size := by simp [lettersA]
abbrev IntSl : Ty := .sl 3 (.int .i64)
def BoxAt (w : World) (B : Nat) (xs : List Int) (Bl : List Nat) : Prop :=
  VarRel tab.ty (fun _ => False) w IntSl [true] xs (.pointer (some ⟨B, 0, none⟩)) Bl
theorem intRow_any {S : Nat → Prop} {w w' : World} : ∀ {xs : List Int} {cs : List Value}, RowCells tab.ty S w (.int .i64) xs cs → RowCells tab.ty (fun _ => False) w' (.int .i64) xs cs
  | [], cs, h => h
  | x :: r, cs, h => by
    obtain ⟨c, cr, hc, h1, h2⟩ := h
    exact ⟨c, cr, hc, h1, intRow_any h2⟩
theorem BoxAt.mv {S : Nat → Prop} {w w' : World} {B : Nat} {xs : List Int} {Bl : List Nat} (h : VarRel tab.ty S w IntSl [true] xs (.pointer (some ⟨B, 0, none⟩)) Bl) (hk : ∀ j ∈ Bl, w'.heap[j]? = w.heap[j]?) : BoxAt w' B xs Bl := by
  obtain ⟨b, T, cs, B', hv, hh, hB, hown⟩ := h
  obtain ⟨c, cr, B1, B2, e1, e2, h1, h2⟩ := hown
  obtain ⟨h0, ⟨cells, hr, hc⟩, hb⟩ := h1
  subst hB; subst e2; subst hb
  refine ⟨b, T, cs, _, hv, (hk b (by simp)).trans hh, rfl, c, cr, _, B2, e1, rfl, ⟨h0, ⟨cells, ⟨hr.1, ?_⟩, intRow_any hc⟩, rfl⟩, h2⟩
  rcases hr.2 with hn | ⟨g, cap, cur, rfl, hg, hh', rest⟩
  · exact .inl hn
  · exact .inr ⟨g, cap, cur, rfl, hg, (hk g (by simp [blk])).trans hh', rest⟩
theorem runeLen_at (c : Nat) (hc : c < 128) (W : World) : Calls Tryz.prog 235 #[.int .i32 (c : Int)] W fun e W' => e = .returned (.int .i64 1) ∧ Fr (fun _ => False) W W' := by
  have hG : unicode_utf8_RuneLen_e.G ((c : Int), ()) = some (((1 : Int), ()), ()) := by
    show unicode_utf8_RuneLen (c : Int) = _
    unfold unicode_utf8_RuneLen
    rw [show decide ((c : Int) < 0) = false from decide_eq_false (by omega), show decide ((c : Int) ≤ 127) = true from decide_eq_true (by omega)]
    rfl
  refine (unicode_utf8_RuneLen_good.2 W (fun _ => False) ((c : Int), ()) [.int .i32 (c : Int)] [] (((1 : Int), ()), ()) (fun _ h => h.elim) ⟨_, _, [], [], rfl, rfl, ⟨.inr ⟨rfl, rfl⟩, rfl⟩, rfl, rfl⟩ List.nodup_nil (by simp) hG).mono ?_
  rintro e W' ⟨vs, S', B1, B2, rfl, hr, _, _, _, _, _, hf⟩
  obtain ⟨v, vr, b1, b2, rfl, _, h1, rfl, _⟩ := hr
  obtain ⟨cs, _, hcs, hcs2⟩ := h1
  have := hcs rfl; subst this
  obtain ⟨c1, cr, _, _, e1, _, h3, _⟩ := hcs2
  have h3 : Rep tab.ty S' W' (.int .i64) (1 : Int) [c1] ∧ _ = [] := h3
  obtain ⟨rfl, _⟩ := List.cons.inj e1
  have h4 : [v] = [Value.int .i64 1] := h3.1
  obtain ⟨rfl, _⟩ := List.cons.inj h4
  exact ⟨rfl, hf.mono (fun k hk => by cases hk)⟩
theorem decode_at (s : ByteArray) (c : Nat) (h0 : s.size ≠ 0) (hs : (s.data.getD 0 0).toNat = c) (hc : c < 128) (W : World) : Calls Tryz.prog 236 #[.string s] W fun e W' => e = .returned (.tuple #[.int .i32 (c : Int), .int .i64 1]) ∧ Fr (fun _ => False) W W' := by
  have hG : unicode_utf8_DecodeRuneInString_e.G (s, ()) = some (((c : Int), (1 : Int), ()), ()) := by
    show unicode_utf8_DecodeRuneInString s = _
    unfold unicode_utf8_DecodeRuneInString
    have e1 : strEq s (⟨#[]⟩ : ByteArray) = false := by
      rw [← Bool.not_eq_true]
      intro h
      have : s.data.toList = [] := by simpa [strEq] using h
      exact h0 (by have := congrArg List.length this; rw [Array.length_toList] at this; exact this)
    rw [e1, show decide (0 < (s.size : Int)) = true from decide_eq_true (by omega), hs, show decide ((c : Int) < 128) = true from decide_eq_true (by omega)]
    have : IntKind.wrap .i32 (c : Int) = (c : Int) := by
      have h1 : (c : Int) % 4294967296 = c := by omega
      rw [IntKind.wrap_i32]; omega
    rw [this]
    rfl
  refine (unicode_utf8_DecodeRuneInString_good.2 W (fun _ => False) (s, ()) [.string s] [] (((c : Int), (1 : Int), ()), ()) (fun _ h => h.elim) ⟨_, _, [], [], rfl, rfl, ⟨.inr ⟨rfl, rfl⟩, rfl⟩, rfl, rfl⟩ List.nodup_nil (by simp) hG).mono ?_
  rintro e W' ⟨vs, S', B1, B2, rfl, hr, _, _, _, _, _, hf⟩
  obtain ⟨v, vr, b1, b2, rfl, _, h1, v2, vr2, _, _, rfl, _, h2, rfl, _⟩ := hr
  obtain ⟨cs, _, hcs, hcs2⟩ := h1
  have := hcs rfl; subst this
  obtain ⟨c1, cr, _, _, e1, _, h3, _⟩ := hcs2
  have h3 : Rep tab.ty S' W' (.int .i32) (c : Int) [c1] ∧ _ = [] := h3
  obtain ⟨rfl, _⟩ := List.cons.inj e1
  have h4 : [v] = [Value.int .i32 (c : Int)] := h3.1
  obtain ⟨rfl, _⟩ := List.cons.inj h4
  obtain ⟨cs, _, hcs, hcs2⟩ := h2
  have := hcs rfl; subst this
  obtain ⟨c1, cr, _, _, e1, _, h3, _⟩ := hcs2
  have h3 : Rep tab.ty S' W' (.int .i64) (1 : Int) [c1] ∧ _ = [] := h3
  obtain ⟨rfl, _⟩ := List.cons.inj e1
  have h4 : [v2] = [Value.int .i64 1] := h3.1
  obtain ⟨rfl, _⟩ := List.cons.inj h4
  exact ⟨rfl, hf.mono (fun k hk => by cases hk)⟩
theorem fn1_at (x a b : Int) (B : Nat) (xs : List Int) (Bl : List Nat) (W : World) (hB : BoxAt W B xs Bl) (hn : Bl.Nodup) (hlt : ∀ j ∈ Bl, j < W.heap.size) (hx : xs.length + 1 ≤ 1073741824) :
    Calls Tryz.prog 160 #[.int .i64 x, .int .i64 a, .int .i64 b, .pointer (some ⟨B, 0, none⟩)] W fun e W' => e = .returned (.bool true) ∧ ∃ Bl', BoxAt W' B (xs ++ [x]) Bl' ∧ Bl'.Nodup ∧ (∀ j ∈ Bl', j < W'.heap.size ∧ (W.heap.size ≤ j ∨ j ∈ Bl)) ∧ Fr (fun j => j ∈ Bl) W W' := by
  have hG : text_Letters_fn1_e.G (x, a, b, xs, ()) = some ((true, ()), (xs ++ [x], ())) := by
    show text_Letters_fn1 x a b xs = _
    unfold text_Letters_fn1
    rw [show Nat.ble (xs.length + 1) 1073741824 = true from nble_iff.2 hx]
    rfl
  refine (text_Letters_fn1_good.2 W (fun _ => False) (x, a, b, xs, ()) [.int .i64 x, .int .i64 a, .int .i64 b, .pointer (some ⟨B, 0, none⟩)] Bl ((true, ()), (xs ++ [x], ())) (fun _ h => h.elim)
    ⟨_, _, [], Bl, rfl, rfl, ⟨.inr ⟨rfl, rfl⟩, rfl⟩, _, _, [], Bl, rfl, rfl, ⟨.inr ⟨rfl, rfl⟩, rfl⟩, _, _, [], Bl, rfl, rfl, ⟨.inr ⟨rfl, rfl⟩, rfl⟩, _, _, Bl, [], rfl, (List.append_nil _).symm, hB, rfl, rfl⟩ hn (fun k hk => ⟨fun h => h, hlt k hk⟩) hG).mono ?_
  rintro e W' ⟨vs, S', B1, B2, rfl, hr, ho, hnd, hbl, _, _, hf⟩
  obtain ⟨v, vr, b1, b2, rfl, _, h1, rfl, _⟩ := hr
  obtain ⟨cs, _, hcs, hcs2⟩ := h1
  have := hcs rfl; subst this
  obtain ⟨c1, cr, _, _, e1, _, h3, _⟩ := hcs2
  have h3 : Rep tab.ty S' W' .bool true [c1] ∧ _ = [] := h3
  obtain ⟨rfl, _⟩ := List.cons.inj e1
  have h4 : [v] = [Value.bool true] := h3.1
  obtain ⟨rfl, _⟩ := List.cons.inj h4
  obtain ⟨v3, vr3, c1, c2, e3, rfl, hv3, hc2⟩ := ho
  have hc2 : c2 = [] := hc2
  subst hc2
  obtain ⟨rfl, _⟩ := List.cons.inj (show [Value.pointer (some ⟨B, 0, none⟩)] = v3 :: vr3 from e3)
  refine ⟨rfl, c1, BoxAt.mv hv3 (fun _ _ => rfl), ?_, fun j hj => ?_, hf⟩
  · have := (List.nodup_append.1 hnd).2.1
    simpa using this
  · have := hbl j (List.mem_append.2 (.inr (List.mem_append.2 (.inl hj))))
    exact this.2
set_option maxHeartbeats 4000000 in
set_option maxRecDepth 1000000 in
theorem each_at (s : ByteArray) (ha : asciiB s = true) (hs : s.size ≤ 1073741824) (w : World) (B : Nat) (Bl : List Nat) (hB : BoxAt w B [] Bl) (hn : Bl.Nodup) (hlt : ∀ j ∈ Bl, j < w.heap.size) :
    Calls Tryz.prog 159 #[.string s, .func (.func 160) #[] #[.pointer (some ⟨B, 0, none⟩)]] w fun e w' => e = .returned (.tuple #[]) ∧ ∃ Bl', BoxAt w' B (lettersA s) Bl' ∧ Bl'.Nodup ∧ (∀ j ∈ Bl', j < w'.heap.size ∧ (w.heap.size ≤ j ∨ j ∈ Bl)) ∧ Fr (fun j => j ∈ Bl) w w' := by
  go_enter Tryz.func159, Tryz.ntmps159
  go_wp2
  go_loopw [] (fun wr => ∃ (pos : Nat) (Bl' : List Nat), wr.heap[w.heap.size]? = some (.stringIter s pos) ∧ pos ≤ s.size ∧ BoxAt wr B ((lettersA s).take pos) Bl' ∧ Bl'.Nodup ∧ (∀ j ∈ Bl', j < wr.heap.size ∧ (w.heap.size < j ∨ j ∈ Bl)) ∧ Fr (fun j => j ∈ Bl) w wr) (fun wr => s.size - wr.iterPos (w.heap.size))
  case atStart =>
    refine ⟨0, Bl, World.iter_heap w s 0, Nat.zero_le _, ?_, hn, fun j hj => ⟨?_, .inr hj⟩, ?_⟩
    · rw [List.take_zero]; exact BoxAt.mv hB (fun j hj => RowKit.Below.heap_alloc w _ j (hlt j hj))
    · have := hlt j hj; simp [World.iter]; omega
    · exact (Fr.alloc _ w _)
  case round =>
    obtain ⟨pos, Bl', hit, hpl, hb, hn', hbl, hf⟩ := hrel
    have hk : w.heap.size < wr.heap.size := (Array.getElem?_eq_some_iff.1 hit).1
    have hkB : w.heap.size ∉ Bl' := fun h => by
      rcases (hbl _ h).2 with h | h
      · omega
      · exact absurd (hlt _ h) (by omega)
    by_cases hp : pos < s.size
    · have hnx : ∀ ty, (Instr.next (.pointer (some ⟨w.heap.size, 0, none⟩)) true ty).run Tryz.prog wr = _ := fun ty => Lib.run_next_ascii_at wr w.heap.size s pos ty hit hp (asciiB_at ha hp)
      generalize hc : (s[pos]'hp).toNat = c at hnx
      have hc128 : c < 128 := by rw [← hc]; exact asciiB_at ha hp
      have hit2 := Lib.iterAt_heap wr w.heap.size s pos (pos + 1) hit
      go_wp2_with (go_at_call 235; refine (runeLen_at c hc128 _).mono ?_)
      rintro e W1 ⟨rfl, f1⟩
      have hsz : (s.extract pos s.size).size = s.size - pos := by simp
      have hd0 : ((s.extract pos s.size).data.getD 0 0).toNat = c := by
        rw [← hc]
        have e1 : (s.extract pos s.size).data[0]? = some (s[pos]'hp) := by
          rw [ByteArray.data_extract, Array.getElem?_extract]
          rw [if_pos (by simp; omega)]
          simp only [Nat.add_zero]
          exact Array.getElem?_eq_getElem hp
        rw [Array.getD_eq_getD_getElem?, e1]
        rfl
      have f0 : Fr (fun j => j ∈ Bl) w (wr.iterAt w.heap.size s (pos + 1)) := hf.trans' (Y := fun j => j = w.heap.size) ⟨rfl, rfl, rfl, by rw [Lib.iterAt_size]; exact Nat.le_refl _, fun j _ hj => Lib.iterAt_other _ _ _ _ _ hj⟩ (fun j h1 h2 => absurd h2 (by omega))
      go_wp2_with (go_at_call 236; refine (decode_at _ c (by rw [hsz]; omega) hd0 hc128 _).mono ?_)
      rintro e W2 ⟨rfl, f2⟩
      have hb2 : BoxAt W2 B ((lettersA s).take pos) Bl' := BoxAt.mv hb (fun j hj => by
        have h1 : j < wr.heap.size := (hbl j hj).1
        have h2 : j < (wr.iterAt w.heap.size s (pos + 1)).heap.size := by rw [Lib.iterAt_size]; exact h1
        rw [f2.block (Nat.lt_of_lt_of_le h2 f1.size) (fun x => x), f1.block h2 (fun x => x)]
        exact Lib.iterAt_other _ _ _ _ _ (fun e => hkB (by rw [← e]; exact hj)))
      have hw2 : wr.heap.size ≤ W2.heap.size := by
        have := f1.size; have := f2.size; rw [Lib.iterAt_size] at *; omega
      have hit3 : W2.heap[w.heap.size]? = some (.stringIter s (pos + 1)) := by
        have h2 : w.heap.size < (wr.iterAt w.heap.size s (pos + 1)).heap.size := by rw [Lib.iterAt_size]; exact hk
        rw [f2.block (Nat.lt_of_lt_of_le h2 f1.size) (fun x => x), f1.block h2 (fun x => x)]
        exact hit2
      have c65 : ¬ ((c : Int) = 65533) := by omega
      have fn1h := fun (a b : Int) => fn1_at (c : Int) a b B ((lettersA s).take pos) Bl' W2 hb2 hn' (fun j hj => Nat.lt_of_lt_of_le (hbl j hj).1 hw2) (by rw [List.length_take, lettersA_len]; omega)
      go_wp2_with (go_at_call 160; refine (fn1h _ _).mono ?_)
      rintro e W3 ⟨rfl, Bl3, hb3, hn3, hbl3, f3⟩
      go_wp2
      go_roundw
      case rel =>
        have hk3 : W3.heap[w.heap.size]? = some (.stringIter s (pos + 1)) := by
          rw [f3.block (by omega) hkB]; exact hit3
        refine ⟨pos + 1, Bl3, hk3, hp, by rw [lettersA_take hp, hc]; exact hb3, hn3, fun j hj => ⟨(hbl3 j hj).1, ?_⟩, ?_⟩
        · rcases (hbl3 j hj).2 with h | h
          · exact .inl (by omega)
          · exact (hbl j h).2
        · refine ((f0.trans' f1 (fun _ _ x => x.elim)).trans' f2 (fun _ _ x => x.elim)).trans' f3 (fun j h1 h2 => ?_)
          rcases (hbl j h2).2 with h | h
          · omega
          · exact h
      case measure =>
        have hk3 : W3.heap[w.heap.size]? = some (.stringIter s (pos + 1)) := by
          rw [f3.block (by omega) hkB]; exact hit3
        simp only [World.iterPos, hk3, hit]
        omega
    · have hnx : ∀ ty, (Instr.next (.pointer (some ⟨w.heap.size, 0, none⟩)) true ty).run Tryz.prog wr = _ := fun ty => Lib.run_next_end_at wr w.heap.size s pos ty hit hp
      go_wp2
      go_end0
      have : pos = s.size := by omega
      subst this
      rw [List.take_of_length_le (by rw [lettersA_len]; exact Nat.le_refl _)] at hb
      exact ⟨rfl, Bl', hb, hn', fun j hj => ⟨(hbl j hj).1, (hbl j hj).2.imp Nat.le_of_lt id⟩, hf⟩
set_option maxHeartbeats 4000000 in
set_option maxRecDepth 1000000 in
theorem letters_at (s : ByteArray) (ha : asciiB s = true) (hs : s.size ≤ 1073741824) (w : World) :
    Calls Tryz.prog 66 #[.string s] w fun e w' => ∃ v Bl, e = .returned v ∧ RowRel tab.ty (fun _ => False) w' 3 (.int .i64) (lettersA s) v Bl ∧ (∀ j ∈ Bl, j < w'.heap.size ∧ w.heap.size ≤ j) ∧ Fr (fun _ => False) w w' := by
  have hE := fun W B Bl h1 h2 h3 => each_at s ha hs W B Bl h1 h2 h3
  go_enter Tryz.func66, Tryz.ntmps66
  have hB0 : BoxAt (w.alloc (.cells #[.slice none 0 0] 23)) w.heap.size [] [w.heap.size] :=
    ⟨w.heap.size, 23, #[.slice none 0 0], [], rfl, (by show (w.heap.push _)[w.heap.size]? = _; simp), rfl, .slice none 0 0, [], [], [], rfl, rfl, ⟨Nat.zero_lt_one, ⟨[], World.ownsRow_nil _ 0 3 1, rfl⟩, rfl⟩, rfl, rfl⟩
  go_wp2_with (go_at_call 159; refine (hE _ _ _ hB0 (by simp) (by simp)).mono ?_)
  rintro e W1 ⟨rfl, Bl1, hb1, hn1, hbl1, f1⟩
  obtain ⟨b, T, cs, B', hv, hh, hB, hown⟩ := hb1
  obtain ⟨c, cr, B1, B2, e1, e2, h1, h2⟩ := hown
  obtain ⟨rfl, rfl⟩ : cr = [] ∧ B2 = [] := h2
  obtain ⟨h0, ⟨cells, hr, hc⟩, hb⟩ : RowRel tab.ty (fun _ => False) W1 3 (.int .i64) (lettersA s) c B1 := h1
  have hcs : cs = #[c] := by apply Array.ext'; exact e1
  subst hcs
  obtain ⟨rfl⟩ : w.heap.size = b := by injection hv with e; injection e with e; injection e
  have hcell : W1.cell? ⟨w.heap.size, 0, none⟩ = some c := by simp [World.cell?, hh]
  have hfro : W1.frozen? ⟨w.heap.size, 0, none⟩ = false := by simp [World.frozen?, hh]
  obtain ⟨A, n, cp, rfl⟩ := own_slice hr
  subst hB; subst e2; subst hb
  have hne : ∀ j ∈ (blk (Value.slice A n cp)).toList, j ≠ w.heap.size := fun j hj e => by
    have := (List.nodup_cons.1 hn1).1
    exact this (by rw [← e]; simpa using hj)
  have hh2 : (W1.setCell ⟨w.heap.size, 0, none⟩ (.slice A n cp)).heap[w.heap.size]? = some (.cells #[.slice A n cp] T (0, 0)) := by
    obtain ⟨hlt2, hk2⟩ := Array.getElem?_eq_some_iff.1 hh
    show (W1.heap.modify w.heap.size _)[w.heap.size]? = _
    rw [Array.getElem?_eq_getElem (by rw [Array.size_modify]; exact hlt2), Array.getElem_modify_self, hk2]
    rfl
  have hcell2 : (W1.setCell ⟨w.heap.size, 0, none⟩ (.slice A n cp)).cell? ⟨w.heap.size, 0, none⟩ = some (.slice A n cp) := by simp [World.cell?, hh2]
  go_wp2
  (try simp only [Exit.inBlock, Exit.then])
  refine bodyPost_ret (v := .slice A n cp) (by simp only [results, show Tryz.f66.results = #[.cell 2 23] from rfl]; go_simp) rfl ?_
  refine ⟨_, _, rfl, ⟨h0, ⟨cells, ⟨hr.1, ?_⟩, intRow_any hc⟩, rfl⟩, fun j hj => ⟨?_, ?_⟩, ?_⟩
  · rcases hr.2 with hn | ⟨g, cap, cur, e, hg, hh', rest⟩
    · exact .inl hn
    · refine .inr ⟨g, cap, cur, e, hg, ?_, rest⟩
      injection e with e _ _
      subst e
      exact (RowKit.Below.heap_setCell W1 _ _ g (hne g (by simp [blk]))).trans hh'
  · have := (hbl1 j (by simp only [List.mem_cons]; exact .inr (by simpa using hj))).1
    simpa using this
  · rcases (hbl1 j (by simp only [List.mem_cons]; exact .inr (by simpa using hj))).2 with h | h
    · simp at h; omega
    · simp at h; omega
  · exact ((Fr.alloc (fun _ => False) w _).trans' f1 (fun j h1 h2 => by simp at h2; omega)).trans' (Fr.setCell W1 _ _) (fun j h1 h2 => by simp at h2; omega)
noncomputable def text_Letters (s_0 : ByteArray) : Option (((List Int) × Unit) × Unit) := bif asciiB s_0 && Nat.ble s_0.size 1073741824 then some ((lettersA s_0, ()), ()) else none
noncomputable def text_Letters_e : Ent := ⟨[.val t9], [⟨t23, [true], none⟩], fun x => text_Letters x.1⟩
theorem text_Letters_good : Good tab.ty Tryz.prog 66 text_Letters_e := by
  refine ⟨⟨_, Tryz.func66, by kernel_rfl, by kernel_rfl⟩, fun w S x vals B r hS ha hn hB hG => ?_⟩
  obtain ⟨s, u⟩ := x
  obtain ⟨v, vr, b1, b2, rfl, rfl, ⟨hv, rfl⟩, rfl, rfl⟩ := ha
  have hG : (bif asciiB s && Nat.ble s.size 1073741824 then some ((lettersA s, ()), ()) else none) = some r := hG
  cases hq : (asciiB s && Nat.ble s.size 1073741824) with
  | false => rw [hq] at hG; cases hG
  | true =>
  rw [hq] at hG
  have hG := Option.some.inj hG
  subst hG
  simp only [Bool.and_eq_true] at hq
  obtain ⟨hq1, hq2⟩ := hq
  have hv2 : v = .string s := by
    rcases hv with ⟨h, _⟩ | ⟨_, h⟩
    · cases h
    · have h : [v] = [Value.string s] := h
      injection h
  subst hv2
  refine (letters_at s hq1 (nble_iff.1 hq2) w).mono ?_
  rintro e w' ⟨v, Bl, rfl, hr, hbl, hf⟩
  obtain ⟨h0, ⟨cells, hr, hc⟩, rfl⟩ := hr
  refine ⟨[v], S, (blk v).toList, [], rfl, ⟨v, [], (blk v).toList, [], rfl, by simp, ⟨[v], (fun h => by cases h), (fun _ => rfl), v, [], (blk v).toList, [], rfl, by simp, ⟨h0, ⟨cells, hr, ?_⟩, rfl⟩, rfl, rfl⟩, rfl, rfl⟩, rfl, ?_, fun k hk => ?_, fun _ h => h, fun k hk => ⟨Nat.lt_of_lt_of_le (hS k hk) hf.size, .inl hk⟩, hf.mono (fun _ h => h.elim)⟩
  · exact hc.frame (fun _ h => h.elim) (Nat.le_refl _) (fun _ _ _ => rfl)
  · cases blk v <;> simp
  · have h1 := hbl k (by simpa using hk)
    exact ⟨fun h => by have := hS k h; omega, h1.1, .inl h1.2⟩
end
noncomputable def text_Name_Γ : Ctx := [(66, text_Letters_e)]
def text_Name_fi : Fi := { keep := [], vty := [], vals := [], live := [(0, [0, 17, 18, 19, 20, 21, 22, 29, 30, 31]), (1, [3, 17, 18, 19, 20, 21, 22, 29, 30, 31]), (2, [3, 8, 9, 10, 17, 18, 19, 20, 21, 22, 29, 30, 31]), (3, [3, 8, 9, 10, 11, 17, 18, 19, 20, 21, 22, 29, 30, 31]), (4, [3, 5, 8, 9, 10, 17, 18, 19, 20, 21, 22, 29, 30, 31]), (5, [3, 8, 9, 10, 17, 18, 19, 20, 21, 22, 23, 29, 30, 31]), (6, [2]), (7, [3, 8, 9, 10, 17, 18, 19, 20, 21, 22, 29, 30, 31]), (8, [2])] }
noncomputable def text_Name_B1 (L1 : Int → Int → List Int → Option ((Bool × Unit) × Unit)) (v2 : Int) (v3 : Int) (v4 : List Int) : Option ((Bool × Unit) × Unit) :=
 bif decide (v3 < v2) then
  bif decide (0 ≤ v3) && decide (v3 < (v4.length : Int)) then
   bif decide (0 ≤ v3) && decide (v3 < (v4.length : Int)) then
    bif decide (List.getD v4 v3.toNat 0 ≤ 32) then
     some ((false, ()), ())
    else
    bif decide (List.getD v4 v3.toNat 0 ≥ 127) then
     bif decide (List.getD v4 v3.toNat 0 ≤ 159) then
      some ((false, ()), ())
     else
      L1 v2 (IntKind.wrap .i64 (v3 + 1)) v4
    else
     L1 v2 (IntKind.wrap .i64 (v3 + 1)) v4
   else none
  else none
 else
 bif decide ((v4.length : Int) ≥ 1) then
  some ((decide ((v4.length : Int) ≤ 8), ()), ())
 else
  some ((false, ()), ())
noncomputable def text_Name_T (L1 : Int → Int → List Int → Option ((Bool × Unit) × Unit)) (s_0 : ByteArray) : Option ((Bool × Unit) × Unit) :=
 Option.bind (text_Letters s_0) fun (r1 : ((List Int) × Unit) × Unit) =>
 L1 (r1.1.1.length : Int) 0 r1.1.1
noncomputable def text_Name_L1 (n : Nat) : Nat → Int → Int → List Int → Option ((Bool × Unit) × Unit) := iter (fun _ _ _ => none) fun L => text_Name_B1 L
noncomputable def text_Name_X1 (n m : Nat) (v2 : Int) (v3 : Int) (v4 : List Int) : Option ((Bool × Unit) × Unit) :=
 atLoop text_Name_Γ tab (fiB [.val t9] text_Name_fi) n [.val t9] [⟨t4, [false], none⟩] Tryz.f27 [1, 1, 0, 1, 0] [] [3, 8, 9, 10] m
 ⟨[(3, SV.cv (CV.one (LV.ref (888888, 8)))), (8, SV.cv (CV.one (LV.ref (888888, 8)))), (9, SV.cv (CV.one (LV.pure t2 v2))), (10, SV.cv (CV.one (LV.pure t2 v3)))],
  [((888888, 8), Ob.row 3 t2 v4)]⟩
theorem text_Name_step1 (n m : Nat) (v2 : Int) (v3 : Int) (v4 : List Int) : text_Name_X1 n (m + 1) v2 v3 v4 = text_Name_B1 (text_Name_X1 n m) v2 v3 v4 := by kernel_rfl
theorem text_Name_start (n : Nat) (s_0 : ByteArray) : evFn text_Name_Γ tab text_Name_fi n [.val t9] [⟨t4, [false], none⟩] Tryz.f27 (s_0, ()) = text_Name_T (text_Name_X1 n n) s_0 := by kernel_rfl
theorem text_Name_XL1 (n : Nat) : ∀ m, text_Name_X1 n m = text_Name_L1 n m
 | 0 => rfl
 | m + 1 => by
  have ih := text_Name_XL1 n m
  funext v2 v3 v4
  rw [text_Name_step1, ih]
  rfl
noncomputable def text_Name_n (n : Nat) (s_0 : ByteArray) : Option ((Bool × Unit) × Unit) := text_Name_T (text_Name_L1 n n) s_0
noncomputable def text_Name (s_0 : ByteArray) : Option ((Bool × Unit) × Unit) := text_Name_n 1099511627776 s_0
theorem text_Name_eq (n : Nat) (s_0 : ByteArray) : evFn text_Name_Γ tab text_Name_fi n [.val t9] [⟨t4, [false], none⟩] Tryz.f27 (s_0, ()) = text_Name_n n s_0 := by
  rw [text_Name_start, text_Name_XL1 n n]
  rfl
noncomputable def text_Name_e : Ent := ⟨[.val t9], [⟨t4, [false], none⟩], fun x => text_Name x.1⟩
theorem text_Name_good : Good tab.ty Tryz.prog 27 text_Name_e := by
  refine fn_good (Γ := text_Name_Γ) (fi := text_Name_fi) (n := 1099511627776) follows (gcons text_Letters_good gnil) tabok Tryz.func27 (by kernel_rfl) (by kernel_rfl) (fun x r h => ?_)
  obtain ⟨s_0, _u⟩ := x
  exact (text_Name_eq 1099511627776 s_0).trans h
noncomputable def slices_Clone_Kid (s : List (Int × Int × Int)) : Option (((List (Int × Int × Int)) × Unit) × Unit) := bif Nat.ble s.length 1073741824 then some ((s, ()), ()) else none
theorem slices_Clone_Kid_raw (s : List (Int × Int × Int)) : evFn [] tab (fiOf Tryz.f68 []) 1 [.val t24] [⟨t24, [true], none⟩] Tryz.f68 (s, ()) = bif !(List.isEmpty s) then bif Nat.ble (0 + s.length) 1073741824 then some (([] ++ s, ()), ()) else none
 else bothEq (some (([], ()), ())) (bif Nat.ble (0 + s.length) 1073741824 then some (([] ++ s, ()), ()) else none) := by kernel_rfl
theorem slices_Clone_Kid_eq (s : List (Int × Int × Int)) : evFn [] tab (fiOf Tryz.f68 []) 1 [.val t24] [⟨t24, [true], none⟩] Tryz.f68 (s, ()) = slices_Clone_Kid s := by
  rw [slices_Clone_Kid_raw]
  cases s with
  | nil => exact bothEq_same _
  | cons x q => rw [Nat.zero_add]; rfl
noncomputable def slices_Clone_Kid_e : Ent := ⟨[.val t24], [⟨t24, [true], none⟩], fun x => slices_Clone_Kid x.1⟩
theorem slices_Clone_Kid_good : Good tab.ty Tryz.prog 68 slices_Clone_Kid_e := by
  refine fn_good (Γ := []) (fi := fiOf Tryz.f68 []) (n := 1) follows gnil tabok Tryz.func68 (by kernel_rfl) (by kernel_rfl) (fun x r h => ?_)
  obtain ⟨s, _u⟩ := x
  exact (slices_Clone_Kid_eq s).trans h
noncomputable def slices_Clone_Item (s : List (Int × ByteArray)) : Option (((List (Int × ByteArray)) × Unit) × Unit) := bif Nat.ble s.length 1073741824 then some ((s, ()), ()) else none
theorem slices_Clone_Item_raw (s : List (Int × ByteArray)) : evFn [] tab (fiOf Tryz.f69 []) 1 [.val t27] [⟨t27, [true], none⟩] Tryz.f69 (s, ()) = bif !(List.isEmpty s) then bif Nat.ble (0 + s.length) 1073741824 then some (([] ++ s, ()), ()) else none
 else bothEq (some (([], ()), ())) (bif Nat.ble (0 + s.length) 1073741824 then some (([] ++ s, ()), ()) else none) := by kernel_rfl
theorem slices_Clone_Item_eq (s : List (Int × ByteArray)) : evFn [] tab (fiOf Tryz.f69 []) 1 [.val t27] [⟨t27, [true], none⟩] Tryz.f69 (s, ()) = slices_Clone_Item s := by
  rw [slices_Clone_Item_raw]
  cases s with
  | nil => exact bothEq_same _
  | cons x q => rw [Nat.zero_add]; rfl
noncomputable def slices_Clone_Item_e : Ent := ⟨[.val t27], [⟨t27, [true], none⟩], fun x => slices_Clone_Item x.1⟩
theorem slices_Clone_Item_good : Good tab.ty Tryz.prog 69 slices_Clone_Item_e := by
  refine fn_good (Γ := []) (fi := fiOf Tryz.f69 []) (n := 1) follows gnil tabok Tryz.func69 (by kernel_rfl) (by kernel_rfl) (fun x r h => ?_)
  obtain ⟨s, _u⟩ := x
  exact (slices_Clone_Item_eq s).trans h
noncomputable def slices_Clone_Event (s : List (Int × Int × Int × ByteArray × Int)) : Option (((List (Int × Int × Int × ByteArray × Int)) × Unit) × Unit) := bif Nat.ble s.length 1073741824 then some ((s, ()), ()) else none
theorem slices_Clone_Event_raw (s : List (Int × Int × Int × ByteArray × Int)) : evFn [] tab (fiOf Tryz.f70 []) 1 [.val t28] [⟨t28, [true], none⟩] Tryz.f70 (s, ()) = bif !(List.isEmpty s) then bif Nat.ble (0 + s.length) 1073741824 then some (([] ++ s, ()), ()) else none
 else bothEq (some (([], ()), ())) (bif Nat.ble (0 + s.length) 1073741824 then some (([] ++ s, ()), ()) else none) := by kernel_rfl
theorem slices_Clone_Event_eq (s : List (Int × Int × Int × ByteArray × Int)) : evFn [] tab (fiOf Tryz.f70 []) 1 [.val t28] [⟨t28, [true], none⟩] Tryz.f70 (s, ()) = slices_Clone_Event s := by
  rw [slices_Clone_Event_raw]
  cases s with
  | nil => exact bothEq_same _
  | cons x q => rw [Nat.zero_add]; rfl
noncomputable def slices_Clone_Event_e : Ent := ⟨[.val t28], [⟨t28, [true], none⟩], fun x => slices_Clone_Event x.1⟩
theorem slices_Clone_Event_good : Good tab.ty Tryz.prog 70 slices_Clone_Event_e := by
  refine fn_good (Γ := []) (fi := fiOf Tryz.f70 []) (n := 1) follows gnil tabok Tryz.func70 (by kernel_rfl) (by kernel_rfl) (fun x r h => ?_)
  obtain ⟨s, _u⟩ := x
  exact (slices_Clone_Event_eq s).trans h
noncomputable def node_twin_Γ : Ctx := [(67, slices_Clone_int_e), (68, slices_Clone_Kid_e), (69, slices_Clone_Item_e), (70, slices_Clone_Event_e)]
def node_twin_fi : Fi := { keep := [], vty := [], vals := [], live := [(0, [1, 2]), (1, [1, 2]), (2, [1, 2]), (3, [2])] }
noncomputable def node_twin (n_0 : Bool × Int × ByteArray × (Int × Int × Int × Int × Int × Int × (List Int) × Int × Int × Int × Int × Int × List (Int × Int × Int)) × (Int × Int × (List (Int × ByteArray)) × (List (Int × ByteArray)) × (List (Int × Int × Int × ByteArray × Int)) × Int × Int) × Int) : Option (((Bool × Int × ByteArray × (Int × Int × Int × Int × Int × Int × (List Int) × Int × Int × Int × Int × Int × List (Int × Int × Int)) × (Int × Int × (List (Int × ByteArray)) × (List (Int × ByteArray)) × (List (Int × Int × Int × ByteArray × Int)) × Int × Int) × Int) × Unit) × Unit) :=
 Option.bind (slices_Clone_int n_0.2.2.2.1.2.2.2.2.2.2.1) fun (r1 : ((List Int) × Unit) × Unit) =>
 Option.bind (slices_Clone_Kid n_0.2.2.2.1.2.2.2.2.2.2.2.2.2.2.2.2) fun (r2 : ((List (Int × Int × Int)) × Unit) × Unit) =>
 Option.bind (slices_Clone_Item n_0.2.2.2.2.1.2.2.1) fun (r3 : ((List (Int × ByteArray)) × Unit) × Unit) =>
 Option.bind (slices_Clone_Item n_0.2.2.2.2.1.2.2.2.1) fun (r4 : ((List (Int × ByteArray)) × Unit) × Unit) =>
 Option.bind (slices_Clone_Event n_0.2.2.2.2.1.2.2.2.2.1) fun (r5 : ((List (Int × Int × Int × ByteArray × Int)) × Unit) × Unit) =>
 some (((n_0.1, n_0.2.1, n_0.2.2.1, (n_0.2.2.2.1.1, n_0.2.2.2.1.2.1, n_0.2.2.2.1.2.2.1, n_0.2.2.2.1.2.2.2.1, n_0.2.2.2.1.2.2.2.2.1, n_0.2.2.2.1.2.2.2.2.2.1, r1.1.1, n_0.2.2.2.1.2.2.2.2.2.2.2.1, n_0.2.2.2.1.2.2.2.2.2.2.2.2.1, n_0.2.2.2.1.2.2.2.2.2.2.2.2.2.1, n_0.2.2.2.1.2.2.2.2.2.2.2.2.2.2.1, n_0.2.2.2.1.2.2.2.2.2.2.2.2.2.2.2.1, r2.1.1), (n_0.2.2.2.2.1.1, n_0.2.2.2.2.1.2.1, r3.1.1, r4.1.1, r5.1.1, n_0.2.2.2.2.1.2.2.2.2.2), n_0.2.2.2.2.2), ()), ())
theorem node_twin_eq (n_0 : Bool × Int × ByteArray × (Int × Int × Int × Int × Int × Int × (List Int) × Int × Int × Int × Int × Int × List (Int × Int × Int)) × (Int × Int × (List (Int × ByteArray)) × (List (Int × ByteArray)) × (List (Int × Int × Int × ByteArray × Int)) × Int × Int) × Int) : evFn node_twin_Γ tab node_twin_fi 1 [.val t33] [⟨t33, [false, false, false, false, false, false, false, false, false, false, false, false, false, false, false, false, false, false, false, false, false, false, false, false], none⟩] Tryz.f28 (n_0, ()) = node_twin n_0 := by kernel_rfl
noncomputable def node_twin_e : Ent := ⟨[.val t33], [⟨t33, [false, false, false, false, false, false, false, false, false, false, false, false, false, false, false, false, false, false, false, false, false, false, false, false], none⟩], fun x => node_twin x.1⟩
theorem node_twin_good : Good tab.ty Tryz.prog 28 node_twin_e := by
  refine fn_good (Γ := node_twin_Γ) (fi := node_twin_fi) (n := 1) follows (gcons slices_Clone_int_good (gcons slices_Clone_Kid_good (gcons slices_Clone_Item_good (gcons slices_Clone_Event_good gnil)))) tabok Tryz.func28 (by kernel_rfl) (by kernel_rfl) (fun x r h => ?_)
  obtain ⟨n_0, _u⟩ := x
  exact (node_twin_eq n_0).trans h
noncomputable def tie_New_Γ : Ctx := []
def tie_New_fi : Fi := { keep := [], vty := [], vals := [], live := [(0, [0, 1, 2, 3, 8]), (1, [0, 2, 8, 9]), (2, [2, 8, 9, 16]), (3, [8, 9]), (4, [8])] }
noncomputable def tie_New (id_0 : Int) (inc_1 : Int) (now_2 : Int) (grand_3 : Int) : Option (((Int × Int × Int × Int × Int × Int × (List Int) × Int × Int × Int × Int × Int × List (Int × Int × Int)) × Unit) × Unit) :=
 bif id_0 == 1 then
  some (((id_0, inc_1, now_2, 0, 0, grand_3, [1], 0, now_2, 0, 0, 0, []), ()), ())
 else
  some (((id_0, inc_1, now_2, 0, 0, grand_3, [], 0, 0, 0, 0, 0, []), ()), ())
theorem tie_New_eq (id_0 : Int) (inc_1 : Int) (now_2 : Int) (grand_3 : Int) : evFn tie_New_Γ tab tie_New_fi 1 [.val t2, .val t2, .val t2, .val t2] [⟨t25, [false, false, false, false, false, false, true, false, false, false, false, false, true], none⟩] Tryz.f29 (id_0, inc_1, now_2, grand_3, ()) = tie_New id_0 inc_1 now_2 grand_3 := by kernel_rfl
noncomputable def tie_New_e : Ent := ⟨[.val t2, .val t2, .val t2, .val t2], [⟨t25, [false, false, false, false, false, false, true, false, false, false, false, false, true], none⟩], fun x => tie_New x.1 x.2.1 x.2.2.1 x.2.2.2.1⟩
theorem tie_New_good : Good tab.ty Tryz.prog 29 tie_New_e := by
  refine fn_good (Γ := tie_New_Γ) (fi := tie_New_fi) (n := 1) follows gnil tabok Tryz.func29 (by kernel_rfl) (by kernel_rfl) (fun x r h => ?_)
  obtain ⟨id_0, inc_1, now_2, grand_3, _u⟩ := x
  exact (tie_New_eq id_0 inc_1 now_2 grand_3).trans h
noncomputable def node_Join_Γ : Ctx := [(27, text_Name_e), (28, node_twin_e), (29, tie_New_e)]
def node_Join_fi : Fi := { keep := [], vty := [], vals := [], live := [(0, [1, 2, 3, 4, 8, 14, 15, 16, 19, 20, 23, 24, 27, 28, 29]), (1, [1, 2, 3, 4, 8, 30]), (2, [8, 9]), (3, [1, 2, 3, 8, 10]), (4, [8, 9])] }
noncomputable def node_Join_x (x : PDs [.val t33, .val t2, .val t9, .val t2]) : Option (RDs [⟨t33, [false, false, false, false, false, false, false, false, false, false, false, false, false, false, false, false, false, false, false, false, false, false, false, false], none⟩, ⟨t4, [false], none⟩] × ODs [.val t33, .val t2, .val t9, .val t2]) := evFn node_Join_Γ tab node_Join_fi 1099511627776 [.val t33, .val t2, .val t9, .val t2] [⟨t33, [false, false, false, false, false, false, false, false, false, false, false, false, false, false, false, false, false, false, false, false, false, false, false, false], none⟩, ⟨t4, [false], none⟩] Tryz.f7 x
noncomputable def node_Join (x0 : Bool × Int × ByteArray × (Int × Int × Int × Int × Int × Int × (List Int) × Int × Int × Int × Int × Int × List (Int × Int × Int)) × (Int × Int × (List (Int × ByteArray)) × (List (Int × ByteArray)) × (List (Int × Int × Int × ByteArray × Int)) × Int × Int) × Int) (x1 : Int) (x2 : ByteArray) (x3 : Int) : Option (((Bool × Int × ByteArray × (Int × Int × Int × Int × Int × Int × (List Int) × Int × Int × Int × Int × Int × List (Int × Int × Int)) × (Int × Int × (List (Int × ByteArray)) × (List (Int × ByteArray)) × (List (Int × Int × Int × ByteArray × Int)) × Int × Int) × Int) × Bool × Unit) × Unit) := node_Join_x (x0, x1, x2, x3, ())
noncomputable def node_Join_e : Ent := ⟨[.val t33, .val t2, .val t9, .val t2], [⟨t33, [false, false, false, false, false, false, false, false, false, false, false, false, false, false, false, false, false, false, false, false, false, false, false, false], none⟩, ⟨t4, [false], none⟩], fun x => node_Join x.1 x.2.1 x.2.2.1 x.2.2.2.1⟩
theorem node_Join_good : Good tab.ty Tryz.prog 7 node_Join_e := by
  refine fn_good (Γ := node_Join_Γ) (fi := node_Join_fi) (n := 1099511627776) follows (gcons text_Name_good (gcons node_twin_good (gcons tie_New_good gnil))) tabok Tryz.func7 (by kernel_rfl) (by kernel_rfl) (fun x r h => ?_)
  obtain ⟨x0, x1, x2, x3, _u⟩ := x
  exact h
noncomputable def world_New_Γ : Ctx := [(7, node_Join_e), (46, hier_New_e), (47, hier_Join_e)]
def world_New_fi : Fi := { keep := [], vty := [], vals := [], live := [(0, [0, 1, 4]), (1, [4, 5, 6]), (2, [4, 6, 14]), (3, [4, 5]), (4, [4]), (5, [4, 5]), (6, [4, 5])] }
noncomputable def world_New (d_0 : List (List Int)) (k_1 : Int) : Option ((((List (Bool × Int × ByteArray × (Int × Int × Int × Int × Int × Int × (List Int) × Int × Int × Int × Int × Int × List (Int × Int × Int)) × (Int × Int × (List (Int × ByteArray)) × (List (Int × ByteArray)) × (List (Int × Int × Int × ByteArray × Int)) × Int × Int) × Int)) × (List (Int × ByteArray × Bool)) × (List ByteArray) × Int × (List (List Int)) × List (List ((List Int) × Int))) × Bool × Unit) × Unit) :=
 Option.bind (hier_New d_0 k_1) fun (r1 : ((Int × (List (List Int)) × List (List ((List Int) × Int))) × Bool × Unit) × Unit) =>
 bif !r1.1.2.1 then
  some ((([], [], [], 0, [], []), false, ()), ())
 else
  Option.bind (hier_Join r1.1.1 1) fun (r2 : ((Int × (List (List Int)) × List (List ((List Int) × Int))) × Unit) × Unit) =>
  Option.bind (node_Join (false, 0, (⟨#[]⟩ : ByteArray), (0, 0, 0, 0, 0, 0, [], 0, 0, 0, 0, 0, []), (0, 0, [], [], [], 0, 0), 0) 1 (⟨#[114, 111, 111, 116]⟩ : ByteArray) 0) fun (r3 : ((Bool × Int × ByteArray × (Int × Int × Int × Int × Int × Int × (List Int) × Int × Int × Int × Int × Int × List (Int × Int × Int)) × (Int × Int × (List (Int × ByteArray)) × (List (Int × ByteArray)) × (List (Int × Int × Int × ByteArray × Int)) × Int × Int) × Int) × Bool × Unit) × Unit) =>
  some ((([r3.1.1, (false, 0, (⟨#[]⟩ : ByteArray), (0, 0, 0, 0, 0, 0, [], 0, 0, 0, 0, 0, []), (0, 0, [], [], [], 0, 0), 0), (false, 0, (⟨#[]⟩ : ByteArray), (0, 0, 0, 0, 0, 0, [], 0, 0, 0, 0, 0, []), (0, 0, [], [], [], 0, 0), 0), (false, 0, (⟨#[]⟩ : ByteArray), (0, 0, 0, 0, 0, 0, [], 0, 0, 0, 0, 0, []), (0, 0, [], [], [], 0, 0), 0), (false, 0, (⟨#[]⟩ : ByteArray), (0, 0, 0, 0, 0, 0, [], 0, 0, 0, 0, 0, []), (0, 0, [], [], [], 0, 0), 0), (false, 0, (⟨#[]⟩ : ByteArray), (0, 0, 0, 0, 0, 0, [], 0, 0, 0, 0, 0, []), (0, 0, [], [], [], 0, 0), 0), (false, 0, (⟨#[]⟩ : ByteArray), (0, 0, 0, 0, 0, 0, [], 0, 0, 0, 0, 0, []), (0, 0, [], [], [], 0, 0), 0), (false, 0, (⟨#[]⟩ : ByteArray), (0, 0, 0, 0, 0, 0, [], 0, 0, 0, 0, 0, []), (0, 0, [], [], [], 0, 0), 0)], [], [], r2.1.1), r3.1.2.1, ()), ())
theorem world_New_eq (d_0 : List (List Int)) (k_1 : Int) : evFn world_New_Γ tab world_New_fi 1 [.val t49, .val t2] [⟨t53, [true, true, true, false, false, false], none⟩, ⟨t4, [false], none⟩] Tryz.f13 (d_0, k_1, ()) = world_New d_0 k_1 := by kernel_rfl
noncomputable def world_New_e : Ent := ⟨[.val t49, .val t2], [⟨t53, [true, true, true, false, false, false], none⟩, ⟨t4, [false], none⟩], fun x => world_New x.1 x.2.1⟩
theorem world_New_good : Good tab.ty Tryz.prog 13 world_New_e := by
  refine fn_good (Γ := world_New_Γ) (fi := world_New_fi) (n := 1) follows (gcons node_Join_good (gcons hier_New_good (gcons hier_Join_good gnil))) tabok Tryz.func13 (by kernel_rfl) (by kernel_rfl) (fun x r h => ?_)
  obtain ⟨d_0, k_1, _u⟩ := x
  exact (world_New_eq d_0 k_1).trans h
noncomputable def slices_Clone_Node (s : List (Bool × Int × ByteArray × (Int × Int × Int × Int × Int × Int × (List Int) × Int × Int × Int × Int × Int × List (Int × Int × Int)) × (Int × Int × (List (Int × ByteArray)) × (List (Int × ByteArray)) × (List (Int × Int × Int × ByteArray × Int)) × Int × Int) × Int)) : Option (((List (Bool × Int × ByteArray × (Int × Int × Int × Int × Int × Int × (List Int) × Int × Int × Int × Int × Int × List (Int × Int × Int)) × (Int × Int × (List (Int × ByteArray)) × (List (Int × ByteArray)) × (List (Int × Int × Int × ByteArray × Int)) × Int × Int) × Int)) × Unit) × Unit) := bif Nat.ble s.length 1073741824 then some ((s, ()), ()) else none
theorem slices_Clone_Node_raw (s : List (Bool × Int × ByteArray × (Int × Int × Int × Int × Int × Int × (List Int) × Int × Int × Int × Int × Int × List (Int × Int × Int)) × (Int × Int × (List (Int × ByteArray)) × (List (Int × ByteArray)) × (List (Int × Int × Int × ByteArray × Int)) × Int × Int) × Int)) : evFn [] tab (fiOf Tryz.f125 []) 1 [.val t46] [⟨t46, [true], none⟩] Tryz.f125 (s, ()) = bif !(List.isEmpty s) then bif Nat.ble (0 + s.length) 1073741824 then some (([] ++ s, ()), ()) else none
 else bothEq (some (([], ()), ())) (bif Nat.ble (0 + s.length) 1073741824 then some (([] ++ s, ()), ()) else none) := by kernel_rfl
theorem slices_Clone_Node_eq (s : List (Bool × Int × ByteArray × (Int × Int × Int × Int × Int × Int × (List Int) × Int × Int × Int × Int × Int × List (Int × Int × Int)) × (Int × Int × (List (Int × ByteArray)) × (List (Int × ByteArray)) × (List (Int × Int × Int × ByteArray × Int)) × Int × Int) × Int)) : evFn [] tab (fiOf Tryz.f125 []) 1 [.val t46] [⟨t46, [true], none⟩] Tryz.f125 (s, ()) = slices_Clone_Node s := by
  rw [slices_Clone_Node_raw]
  cases s with
  | nil => exact bothEq_same _
  | cons x q => rw [Nat.zero_add]; rfl
noncomputable def slices_Clone_Node_e : Ent := ⟨[.val t46], [⟨t46, [true], none⟩], fun x => slices_Clone_Node x.1⟩
theorem slices_Clone_Node_good : Good tab.ty Tryz.prog 125 slices_Clone_Node_e := by
  refine fn_good (Γ := []) (fi := fiOf Tryz.f125 []) (n := 1) follows gnil tabok Tryz.func125 (by kernel_rfl) (by kernel_rfl) (fun x r h => ?_)
  obtain ⟨s, _u⟩ := x
  exact (slices_Clone_Node_eq s).trans h
noncomputable def slices_Clone_Gram (s : List (Int × ByteArray × Bool)) : Option (((List (Int × ByteArray × Bool)) × Unit) × Unit) := bif Nat.ble s.length 1073741824 then some ((s, ()), ()) else none
theorem slices_Clone_Gram_raw (s : List (Int × ByteArray × Bool)) : evFn [] tab (fiOf Tryz.f126 []) 1 [.val t47] [⟨t47, [true], none⟩] Tryz.f126 (s, ()) = bif !(List.isEmpty s) then bif Nat.ble (0 + s.length) 1073741824 then some (([] ++ s, ()), ()) else none
 else bothEq (some (([], ()), ())) (bif Nat.ble (0 + s.length) 1073741824 then some (([] ++ s, ()), ()) else none) := by kernel_rfl
theorem slices_Clone_Gram_eq (s : List (Int × ByteArray × Bool)) : evFn [] tab (fiOf Tryz.f126 []) 1 [.val t47] [⟨t47, [true], none⟩] Tryz.f126 (s, ()) = slices_Clone_Gram s := by
  rw [slices_Clone_Gram_raw]
  cases s with
  | nil => exact bothEq_same _
  | cons x q => rw [Nat.zero_add]; rfl
noncomputable def slices_Clone_Gram_e : Ent := ⟨[.val t47], [⟨t47, [true], none⟩], fun x => slices_Clone_Gram x.1⟩
theorem slices_Clone_Gram_good : Good tab.ty Tryz.prog 126 slices_Clone_Gram_e := by
  refine fn_good (Γ := []) (fi := fiOf Tryz.f126 []) (n := 1) follows gnil tabok Tryz.func126 (by kernel_rfl) (by kernel_rfl) (fun x r h => ?_)
  obtain ⟨s, _u⟩ := x
  exact (slices_Clone_Gram_eq s).trans h
noncomputable def slices_Clone_string (s : List ByteArray) : Option (((List ByteArray) × Unit) × Unit) := bif Nat.ble s.length 1073741824 then some ((s, ()), ()) else none
theorem slices_Clone_string_raw (s : List ByteArray) : evFn [] tab (fiOf Tryz.f127 []) 1 [.val t48] [⟨t48, [true], none⟩] Tryz.f127 (s, ()) = bif !(List.isEmpty s) then bif Nat.ble (0 + s.length) 1073741824 then some (([] ++ s, ()), ()) else none
 else bothEq (some (([], ()), ())) (bif Nat.ble (0 + s.length) 1073741824 then some (([] ++ s, ()), ()) else none) := by kernel_rfl
theorem slices_Clone_string_eq (s : List ByteArray) : evFn [] tab (fiOf Tryz.f127 []) 1 [.val t48] [⟨t48, [true], none⟩] Tryz.f127 (s, ()) = slices_Clone_string s := by
  rw [slices_Clone_string_raw]
  cases s with
  | nil => exact bothEq_same _
  | cons x q => rw [Nat.zero_add]; rfl
noncomputable def slices_Clone_string_e : Ent := ⟨[.val t48], [⟨t48, [true], none⟩], fun x => slices_Clone_string x.1⟩
theorem slices_Clone_string_good : Good tab.ty Tryz.prog 127 slices_Clone_string_e := by
  refine fn_good (Γ := []) (fi := fiOf Tryz.f127 []) (n := 1) follows gnil tabok Tryz.func127 (by kernel_rfl) (by kernel_rfl) (fun x r h => ?_)
  obtain ⟨s, _u⟩ := x
  exact (slices_Clone_string_eq s).trans h
noncomputable def world_tie_Γ : Ctx := [(67, slices_Clone_int_e), (68, slices_Clone_Kid_e)]
def world_tie_fi : Fi := { keep := [], vty := [], vals := [], live := [(0, [1, 2]), (1, [1, 2]), (2, [2])] }
noncomputable def world_tie (t_0 : Int × Int × Int × Int × Int × Int × (List Int) × Int × Int × Int × Int × Int × List (Int × Int × Int)) : Option (((Int × Int × Int × Int × Int × Int × (List Int) × Int × Int × Int × Int × Int × List (Int × Int × Int)) × Unit) × Unit) :=
 Option.bind (slices_Clone_int t_0.2.2.2.2.2.2.1) fun (r1 : ((List Int) × Unit) × Unit) =>
 Option.bind (slices_Clone_Kid t_0.2.2.2.2.2.2.2.2.2.2.2.2) fun (r2 : ((List (Int × Int × Int)) × Unit) × Unit) =>
 some (((t_0.1, t_0.2.1, t_0.2.2.1, t_0.2.2.2.1, t_0.2.2.2.2.1, t_0.2.2.2.2.2.1, r1.1.1, t_0.2.2.2.2.2.2.2.1, t_0.2.2.2.2.2.2.2.2.1, t_0.2.2.2.2.2.2.2.2.2.1, t_0.2.2.2.2.2.2.2.2.2.2.1, t_0.2.2.2.2.2.2.2.2.2.2.2.1, r2.1.1), ()), ())
theorem world_tie_eq (t_0 : Int × Int × Int × Int × Int × Int × (List Int) × Int × Int × Int × Int × Int × List (Int × Int × Int)) : evFn world_tie_Γ tab world_tie_fi 1 [.val t25] [⟨t25, [false, false, false, false, false, false, true, false, false, false, false, false, true], none⟩] Tryz.f128 (t_0, ()) = world_tie t_0 := by kernel_rfl
noncomputable def world_tie_e : Ent := ⟨[.val t25], [⟨t25, [false, false, false, false, false, false, true, false, false, false, false, false, true], none⟩], fun x => world_tie x.1⟩
theorem world_tie_good : Good tab.ty Tryz.prog 128 world_tie_e := by
  refine fn_good (Γ := world_tie_Γ) (fi := world_tie_fi) (n := 1) follows (gcons slices_Clone_int_good (gcons slices_Clone_Kid_good gnil)) tabok Tryz.func128 (by kernel_rfl) (by kernel_rfl) (fun x r h => ?_)
  obtain ⟨t_0, _u⟩ := x
  exact (world_tie_eq t_0).trans h
noncomputable def world_feed_Γ : Ctx := [(69, slices_Clone_Item_e), (70, slices_Clone_Event_e)]
def world_feed_fi : Fi := { keep := [], vty := [], vals := [], live := [(0, [1, 2]), (1, [1, 2]), (2, [2])] }
noncomputable def world_feed (f_0 : Int × Int × (List (Int × ByteArray)) × (List (Int × ByteArray)) × (List (Int × Int × Int × ByteArray × Int)) × Int × Int) : Option (((Int × Int × (List (Int × ByteArray)) × (List (Int × ByteArray)) × (List (Int × Int × Int × ByteArray × Int)) × Int × Int) × Unit) × Unit) :=
 Option.bind (slices_Clone_Item f_0.2.2.1) fun (r1 : ((List (Int × ByteArray)) × Unit) × Unit) =>
 Option.bind (slices_Clone_Item f_0.2.2.2.1) fun (r2 : ((List (Int × ByteArray)) × Unit) × Unit) =>
 Option.bind (slices_Clone_Event f_0.2.2.2.2.1) fun (r3 : ((List (Int × Int × Int × ByteArray × Int)) × Unit) × Unit) =>
 some (((f_0.1, f_0.2.1, r1.1.1, r2.1.1, r3.1.1, f_0.2.2.2.2.2), ()), ())
theorem world_feed_eq (f_0 : Int × Int × (List (Int × ByteArray)) × (List (Int × ByteArray)) × (List (Int × Int × Int × ByteArray × Int)) × Int × Int) : evFn world_feed_Γ tab world_feed_fi 1 [.val t31] [⟨t31, [false, false, true, true, true, false, false], none⟩] Tryz.f129 (f_0, ()) = world_feed f_0 := by kernel_rfl
noncomputable def world_feed_e : Ent := ⟨[.val t31], [⟨t31, [false, false, true, true, true, false, false], none⟩], fun x => world_feed x.1⟩
theorem world_feed_good : Good tab.ty Tryz.prog 129 world_feed_e := by
  refine fn_good (Γ := world_feed_Γ) (fi := world_feed_fi) (n := 1) follows (gcons slices_Clone_Item_good (gcons slices_Clone_Event_good gnil)) tabok Tryz.func129 (by kernel_rfl) (by kernel_rfl) (fun x r h => ?_)
  obtain ⟨f_0, _u⟩ := x
  exact (world_feed_eq f_0).trans h
noncomputable def world_dist_Γ : Ctx := [(67, slices_Clone_int_e), (190, slices_Clone_ints_e)]
def world_dist_fi : Fi := { keep := [], vty := [], vals := [], live := [(0, [0]), (1, [0, 3]), (2, [3, 8, 9, 10]), (3, [3, 8, 9, 10, 11]), (4, [3, 4, 5, 8, 9, 10]), (5, [3, 8, 9, 10]), (6, [3, 8, 9, 10]), (7, [2])] }
noncomputable def world_dist_B1 (L1 : List (List Int) → Int → Int → List (List Int) → Option (((List (List Int)) × Unit) × Unit)) (v2 : List (List Int)) (v3 : Int) (v4 : Int) (v5 : List (List Int)) : Option (((List (List Int)) × Unit) × Unit) :=
 bif decide (v4 < v3) then
  bif decide (0 ≤ v4) && decide (v4 < (v2.length : Int)) then
   Option.bind (slices_Clone_int (List.getD v2 v4.toNat [])) fun (r6 : ((List Int) × Unit) × Unit) =>
   bif decide (0 ≤ v4) && decide (v4 < (v5.length : Int)) then
    bif decide (0 ≤ v4) && decide (v4 < (v5.length : Int)) then
     L1 v2 v3 (IntKind.wrap .i64 (v4 + 1)) (List.set v5 v4.toNat r6.1.1)
    else none
   else none
  else none
 else
  some ((v5, ()), ())
noncomputable def world_dist_T (L1 : List (List Int) → Int → Int → List (List Int) → Option (((List (List Int)) × Unit) × Unit)) (d_0 : List (List Int)) : Option (((List (List Int)) × Unit) × Unit) :=
 Option.bind (slices_Clone_ints d_0) fun (r1 : ((List (List Int)) × Unit) × Unit) =>
 L1 d_0 (d_0.length : Int) 0 r1.1.1
noncomputable def world_dist_L1 (n : Nat) : Nat → List (List Int) → Int → Int → List (List Int) → Option (((List (List Int)) × Unit) × Unit) := iter (fun _ _ _ _ => none) fun L => world_dist_B1 L
noncomputable def world_dist_X1 (n m : Nat) (v2 : List (List Int)) (v3 : Int) (v4 : Int) (v5 : List (List Int)) : Option (((List (List Int)) × Unit) × Unit) :=
 atLoop world_dist_Γ tab (fiB [.val t49] world_dist_fi) n [.val t49] [⟨t49, [true], none⟩] Tryz.f130 [1, 1, 0, 1, 0] [] [3, 8, 9, 10] m
 ⟨[(3, SV.cv (CV.one (LV.ref (888888, 3)))), (8, SV.cv (CV.one (LV.pure t49 v2))), (9, SV.cv (CV.one (LV.pure t2 v3))), (10, SV.cv (CV.one (LV.pure t2 v4)))],
  [((888888, 3), Ob.row 23 t23 v5)]⟩
theorem world_dist_step1 (n m : Nat) (v2 : List (List Int)) (v3 : Int) (v4 : Int) (v5 : List (List Int)) : world_dist_X1 n (m + 1) v2 v3 v4 v5 = world_dist_B1 (world_dist_X1 n m) v2 v3 v4 v5 := by kernel_rfl
theorem world_dist_start (n : Nat) (d_0 : List (List Int)) : evFn world_dist_Γ tab world_dist_fi n [.val t49] [⟨t49, [true], none⟩] Tryz.f130 (d_0, ()) = world_dist_T (world_dist_X1 n n) d_0 := by kernel_rfl
theorem world_dist_XL1 (n : Nat) : ∀ m, world_dist_X1 n m = world_dist_L1 n m
 | 0 => rfl
 | m + 1 => by
  have ih := world_dist_XL1 n m
  funext v2 v3 v4 v5
  rw [world_dist_step1, ih]
  rfl
noncomputable def world_dist_n (n : Nat) (d_0 : List (List Int)) : Option (((List (List Int)) × Unit) × Unit) := world_dist_T (world_dist_L1 n n) d_0
noncomputable def world_dist (d_0 : List (List Int)) : Option (((List (List Int)) × Unit) × Unit) := world_dist_n 1099511627776 d_0
theorem world_dist_eq (n : Nat) (d_0 : List (List Int)) : evFn world_dist_Γ tab world_dist_fi n [.val t49] [⟨t49, [true], none⟩] Tryz.f130 (d_0, ()) = world_dist_n n d_0 := by
  rw [world_dist_start, world_dist_XL1 n n]
  rfl
noncomputable def world_dist_e : Ent := ⟨[.val t49], [⟨t49, [true], none⟩], fun x => world_dist x.1⟩
theorem world_dist_good : Good tab.ty Tryz.prog 130 world_dist_e := by
  refine fn_good (Γ := world_dist_Γ) (fi := world_dist_fi) (n := 1099511627776) follows (gcons slices_Clone_int_good (gcons slices_Clone_ints_good gnil)) tabok Tryz.func130 (by kernel_rfl) (by kernel_rfl) (fun x r h => ?_)
  obtain ⟨d_0, _u⟩ := x
  exact (world_dist_eq 1099511627776 d_0).trans h
noncomputable def world_twin_Γ : Ctx := [(67, slices_Clone_int_e), (125, slices_Clone_Node_e), (126, slices_Clone_Gram_e), (127, slices_Clone_string_e), (128, world_tie_e), (129, world_feed_e), (130, world_dist_e), (131, slices_Clone_Clusters_e), (132, slices_Clone_Cluster_e)]
def world_twin_fi : Fi := { keep := [], vty := [(6, 190), (7, 190), (68, 190), (70, 190), (77, 190), (89, 190)], vals := [], live := [(0, [1, 2]), (1, [1, 2]), (2, [1, 2, 23, 24, 25]), (3, [1, 2, 23, 24, 25, 26]), (4, [1, 2, 3, 4, 23, 24, 25]), (5, [1, 2, 23, 24, 25]), (6, [1, 2, 23, 24, 25]), (7, [1, 2]), (8, [1, 2, 61, 62, 63]), (9, [1, 2, 61, 62, 63, 64]), (10, [1, 2, 5, 6, 61, 62, 63]), (11, [1, 2, 5, 7, 61, 62, 63]), (12, [1, 2, 5, 7, 61, 62, 63, 70, 71, 72]), (13, [1, 2, 5, 7, 61, 62, 63, 70, 71, 72, 73]), (14, [1, 2, 5, 7, 8, 9, 61, 62, 63, 70, 71, 72]), (15, [1, 2, 5, 7, 61, 62, 63, 70, 71, 72]), (16, [1, 2, 5, 7, 61, 62, 63, 70, 71, 72]), (17, [1, 2, 61, 62, 63]), (18, [1, 2, 61, 62, 63]), (19, [2])] }
noncomputable def world_twin_x (x : PDs [.val t53]) : Option (RDs [⟨t53, [true, true, true, false, true, true], none⟩] × ODs [.val t53]) := evFn world_twin_Γ tab world_twin_fi 1099511627776 [.val t53] [⟨t53, [true, true, true, false, true, true], none⟩] Tryz.f49 x
noncomputable def world_twin (x0 : (List (Bool × Int × ByteArray × (Int × Int × Int × Int × Int × Int × (List Int) × Int × Int × Int × Int × Int × List (Int × Int × Int)) × (Int × Int × (List (Int × ByteArray)) × (List (Int × ByteArray)) × (List (Int × Int × Int × ByteArray × Int)) × Int × Int) × Int)) × (List (Int × ByteArray × Bool)) × (List ByteArray) × Int × (List (List Int)) × List (List ((List Int) × Int))) : Option ((((List (Bool × Int × ByteArray × (Int × Int × Int × Int × Int × Int × (List Int) × Int × Int × Int × Int × Int × List (Int × Int × Int)) × (Int × Int × (List (Int × ByteArray)) × (List (Int × ByteArray)) × (List (Int × Int × Int × ByteArray × Int)) × Int × Int) × Int)) × (List (Int × ByteArray × Bool)) × (List ByteArray) × Int × (List (List Int)) × List (List ((List Int) × Int))) × Unit) × Unit) := world_twin_x (x0, ())
noncomputable def world_twin_e : Ent := ⟨[.val t53], [⟨t53, [true, true, true, false, true, true], none⟩], fun x => world_twin x.1⟩
theorem world_twin_good : Good tab.ty Tryz.prog 49 world_twin_e := by
  refine fn_good (Γ := world_twin_Γ) (fi := world_twin_fi) (n := 1099511627776) follows (gcons slices_Clone_int_good (gcons slices_Clone_Node_good (gcons slices_Clone_Gram_good (gcons slices_Clone_string_good (gcons world_tie_good (gcons world_feed_good (gcons world_dist_good (gcons slices_Clone_Clusters_good (gcons slices_Clone_Cluster_good gnil))))))))) tabok Tryz.func49 (by kernel_rfl) (by kernel_rfl) (fun x r h => ?_)
  obtain ⟨x0, _u⟩ := x
  exact h
noncomputable def hier_Ask_Γ : Ctx := [(120, hier_find_e)]
def hier_Ask_fi : Fi := { keep := [], vty := [], vals := [], live := [(0, [1, 2]), (1, [1, 9, 10, 11]), (2, [1, 9, 10, 11, 12]), (3, [1, 6, 9, 10, 11]), (4, [1, 6, 7, 9, 10, 11]), (5, [1, 6, 7, 9, 10, 11, 19]), (6, [4]), (7, [1, 6, 7, 9, 10, 11, 26]), (8, [4]), (9, [1, 9, 10, 11]), (10, [4])] }
noncomputable def hier_Ask_B1 (L1 : Int → (List (List ((List Int) × Int))) → Int → Int → Option ((Int × Unit) × Unit)) (v1 : Int) (v2 : List (List ((List Int) × Int))) (v3 : Int) (v4 : Int) : Option ((Int × Unit) × Unit) :=
 bif decide (v4 < v3) then
  bif decide (0 ≤ v4) && decide (v4 < (v2.length : Int)) then
   Option.bind (hier_find (List.getD v2 v4.toNat []) v1) fun (r5 : (Int × Unit) × Unit) =>
   bif decide (r5.1.1 < 0) then
    some ((0, ()), ())
   else
   bif decide (0 ≤ r5.1.1) && decide (r5.1.1 < ((List.getD v2 v4.toNat []).length : Int)) then
    bif ((List.getD (List.getD v2 v4.toNat []) r5.1.1.toNat ([], 0)).2) != v1 then
     bif decide (0 ≤ r5.1.1) && decide (r5.1.1 < ((List.getD v2 v4.toNat []).length : Int)) then
      some (((List.getD (List.getD v2 v4.toNat []) r5.1.1.toNat ([], 0)).2, ()), ())
     else none
    else
     L1 v1 v2 v3 (IntKind.wrap .i64 (v4 + 1))
   else none
  else none
 else
  some ((0, ()), ())
noncomputable def hier_Ask_T (L1 : Int → (List (List ((List Int) × Int))) → Int → Int → Option ((Int × Unit) × Unit)) (h_0 : Int × (List (List Int)) × List (List ((List Int) × Int))) (id_1 : Int) : Option ((Int × Unit) × Unit) :=
 L1 id_1 h_0.2.2 (h_0.2.2.length : Int) 0
noncomputable def hier_Ask_L1 (n : Nat) : Nat → Int → (List (List ((List Int) × Int))) → Int → Int → Option ((Int × Unit) × Unit) := iter (fun _ _ _ _ => none) fun L => hier_Ask_B1 L
noncomputable def hier_Ask_X1 (n m : Nat) (v1 : Int) (v2 : List (List ((List Int) × Int))) (v3 : Int) (v4 : Int) : Option ((Int × Unit) × Unit) :=
 atLoop hier_Ask_Γ tab (fiB [.val t51, .val t2] hier_Ask_fi) n [.val t51, .val t2] [⟨t2, [false], none⟩] Tryz.f204 [1, 0, 1, 0] [] [1, 9, 10, 11] m
 ⟨[(1, SV.cv (CV.one (LV.pure t2 v1))), (9, SV.cv (CV.one (LV.pure t50 v2))), (10, SV.cv (CV.one (LV.pure t2 v3))), (11, SV.cv (CV.one (LV.pure t2 v4)))],
  []⟩
theorem hier_Ask_step1 (n m : Nat) (v1 : Int) (v2 : List (List ((List Int) × Int))) (v3 : Int) (v4 : Int) : hier_Ask_X1 n (m + 1) v1 v2 v3 v4 = hier_Ask_B1 (hier_Ask_X1 n m) v1 v2 v3 v4 := by kernel_rfl
theorem hier_Ask_start (n : Nat) (h_0 : Int × (List (List Int)) × List (List ((List Int) × Int))) (id_1 : Int) : evFn hier_Ask_Γ tab hier_Ask_fi n [.val t51, .val t2] [⟨t2, [false], none⟩] Tryz.f204 (h_0, id_1, ()) = hier_Ask_T (hier_Ask_X1 n n) h_0 id_1 := by kernel_rfl
theorem hier_Ask_XL1 (n : Nat) : ∀ m, hier_Ask_X1 n m = hier_Ask_L1 n m
 | 0 => rfl
 | m + 1 => by
  have ih := hier_Ask_XL1 n m
  funext v1 v2 v3 v4
  rw [hier_Ask_step1, ih]
  rfl
noncomputable def hier_Ask_n (n : Nat) (h_0 : Int × (List (List Int)) × List (List ((List Int) × Int))) (id_1 : Int) : Option ((Int × Unit) × Unit) := hier_Ask_T (hier_Ask_L1 n n) h_0 id_1
noncomputable def hier_Ask (h_0 : Int × (List (List Int)) × List (List ((List Int) × Int))) (id_1 : Int) : Option ((Int × Unit) × Unit) := hier_Ask_n 1099511627776 h_0 id_1
theorem hier_Ask_eq (n : Nat) (h_0 : Int × (List (List Int)) × List (List ((List Int) × Int))) (id_1 : Int) : evFn hier_Ask_Γ tab hier_Ask_fi n [.val t51, .val t2] [⟨t2, [false], none⟩] Tryz.f204 (h_0, id_1, ()) = hier_Ask_n n h_0 id_1 := by
  rw [hier_Ask_start, hier_Ask_XL1 n n]
  rfl
noncomputable def hier_Ask_e : Ent := ⟨[.val t51, .val t2], [⟨t2, [false], none⟩], fun x => hier_Ask x.1 x.2.1⟩
theorem hier_Ask_good : Good tab.ty Tryz.prog 204 hier_Ask_e := by
  refine fn_good (Γ := hier_Ask_Γ) (fi := hier_Ask_fi) (n := 1099511627776) follows (gcons hier_find_good gnil) tabok Tryz.func204 (by kernel_rfl) (by kernel_rfl) (fun x r h => ?_)
  obtain ⟨h_0, id_1, _u⟩ := x
  exact (hier_Ask_eq 1099511627776 h_0 id_1).trans h
noncomputable def world_machine_joins_Γ : Ctx := [(7, node_Join_e), (27, text_Name_e), (47, hier_Join_e), (204, hier_Ask_e)]
def world_machine_joins_fi : Fi := { keep := [], vty := [], vals := [], live := [(0, [0, 1, 2]), (1, [0, 1, 2, 7, 8]), (2, [0, 1, 2, 7, 8, 18]), (3, [0, 6]), (4, [0, 1, 2, 7, 22]), (5, [0, 6]), (6, [0, 1, 2, 7, 29]), (7, [0, 6]), (8, [0, 1, 2, 7, 9]), (9, [0, 7, 9, 10, 11]), (10, [0, 7, 9, 10, 55]), (11, [0, 6]), (12, [0]), (13, [0, 6])] }
noncomputable def world_machine_joins_x (x : PDs [.box 108 t107 [true, false, true, false, false, false], .val t2, .val t9]) : Option (RDs [⟨t20, [false], none⟩] × ODs [.box 108 t107 [true, false, true, false, false, false], .val t2, .val t9]) := evFn world_machine_joins_Γ tab world_machine_joins_fi 1099511627776 [.box 108 t107 [true, false, true, false, false, false], .val t2, .val t9] [⟨t20, [false], none⟩] Tryz.f133 x
noncomputable def world_machine_joins (x0 : ((List (Bool × Int × ByteArray × (Int × Int × Int × Int × Int × Int × (List Int) × Int × Int × Int × Int × Int × List (Int × Int × Int)) × (Int × Int × (List (Int × ByteArray)) × (List (Int × ByteArray)) × (List (Int × Int × Int × ByteArray × Int)) × Int × Int) × Int)) × (List (Int × ByteArray × Bool)) × (List ByteArray) × Int × (List (List Int)) × List (List ((List Int) × Int))) × Unit) (x1 : Int) (x2 : ByteArray) : Option ((IV × Unit) × ((((List (Bool × Int × ByteArray × (Int × Int × Int × Int × Int × Int × (List Int) × Int × Int × Int × Int × Int × List (Int × Int × Int)) × (Int × Int × (List (Int × ByteArray)) × (List (Int × ByteArray)) × (List (Int × Int × Int × ByteArray × Int)) × Int × Int) × Int)) × (List (Int × ByteArray × Bool)) × (List ByteArray) × Int × (List (List Int)) × List (List ((List Int) × Int))) × Unit) × Unit)) := world_machine_joins_x (x0, x1, x2, ())
noncomputable def world_machine_joins_e : Ent := ⟨[.box 108 t107 [true, false, true, false, false, false], .val t2, .val t9], [⟨t20, [false], none⟩], fun x => world_machine_joins x.1 x.2.1 x.2.2.1⟩
theorem world_machine_joins_good : Good tab.ty Tryz.prog 133 world_machine_joins_e := by
  refine fn_good (Γ := world_machine_joins_Γ) (fi := world_machine_joins_fi) (n := 1099511627776) follows (gcons node_Join_good (gcons text_Name_good (gcons hier_Join_good (gcons hier_Ask_good gnil)))) tabok Tryz.func133 (by kernel_rfl) (by kernel_rfl) (fun x r h => ?_)
  obtain ⟨x0, x1, x2, _u⟩ := x
  exact h
noncomputable def node_Crash_Γ : Ctx := [(28, node_twin_e)]
def node_Crash_fi : Fi := { keep := [], vty := [], vals := [], live := [(0, [1, 2]), (1, [1, 2, 5]), (2, [2]), (3, [2])] }
noncomputable def node_Crash (n_0 : Bool × Int × ByteArray × (Int × Int × Int × Int × Int × Int × (List Int) × Int × Int × Int × Int × Int × List (Int × Int × Int)) × (Int × Int × (List (Int × ByteArray)) × (List (Int × ByteArray)) × (List (Int × Int × Int × ByteArray × Int)) × Int × Int) × Int) : Option (((Bool × Int × ByteArray × (Int × Int × Int × Int × Int × Int × (List Int) × Int × Int × Int × Int × Int × List (Int × Int × Int)) × (Int × Int × (List (Int × ByteArray)) × (List (Int × ByteArray)) × (List (Int × Int × Int × ByteArray × Int)) × Int × Int) × Int) × Unit) × Unit) :=
 bif !n_0.1 then
  Option.bind (node_twin n_0) fun (r1 : ((Bool × Int × ByteArray × (Int × Int × Int × Int × Int × Int × (List Int) × Int × Int × Int × Int × Int × List (Int × Int × Int)) × (Int × Int × (List (Int × ByteArray)) × (List (Int × ByteArray)) × (List (Int × Int × Int × ByteArray × Int)) × Int × Int) × Int) × Unit) × Unit) =>
  some ((r1.1.1, ()), ())
 else
  some (((false, n_0.2.1, (⟨#[]⟩ : ByteArray), (0, 0, 0, 0, 0, 0, [], 0, 0, 0, 0, 0, []), (0, 0, [], [], [], 0, 0), n_0.2.2.2.2.2), ()), ())
theorem node_Crash_eq (n_0 : Bool × Int × ByteArray × (Int × Int × Int × Int × Int × Int × (List Int) × Int × Int × Int × Int × Int × List (Int × Int × Int)) × (Int × Int × (List (Int × ByteArray)) × (List (Int × ByteArray)) × (List (Int × Int × Int × ByteArray × Int)) × Int × Int) × Int) : evFn node_Crash_Γ tab node_Crash_fi 1 [.val t33] [⟨t33, [false, false, false, false, false, false, false, false, false, false, false, false, false, false, false, false, false, false, false, false, false, false, false, false], none⟩] Tryz.f26 (n_0, ()) = node_Crash n_0 := by kernel_rfl
noncomputable def node_Crash_e : Ent := ⟨[.val t33], [⟨t33, [false, false, false, false, false, false, false, false, false, false, false, false, false, false, false, false, false, false, false, false, false, false, false, false], none⟩], fun x => node_Crash x.1⟩
theorem node_Crash_good : Good tab.ty Tryz.prog 26 node_Crash_e := by
  refine fn_good (Γ := node_Crash_Γ) (fi := node_Crash_fi) (n := 1) follows (gcons node_twin_good gnil) tabok Tryz.func26 (by kernel_rfl) (by kernel_rfl) (fun x r h => ?_)
  obtain ⟨n_0, _u⟩ := x
  exact (node_Crash_eq n_0).trans h
noncomputable def tie_of_Γ : Ctx := [(67, slices_Clone_int_e), (68, slices_Clone_Kid_e)]
def tie_of_fi : Fi := { keep := [], vty := [], vals := [], live := [(0, [1]), (1, [1]), (2, [2])] }
noncomputable def tie_of (t_0 : Int × Int × Int × Int × Int × Int × (List Int) × Int × Int × Int × Int × Int × List (Int × Int × Int)) : Option ((((Int × Int × Int × Int × Int × Int × (List Int) × Int × Int × Int × Int × Int × List (Int × Int × Int)) × List (Int × Int × Int × Int × Int × Int × (List Int) × Int × Int × ByteArray)) × Unit) × Unit) :=
 Option.bind (slices_Clone_int t_0.2.2.2.2.2.2.1) fun (r1 : ((List Int) × Unit) × Unit) =>
 Option.bind (slices_Clone_Kid t_0.2.2.2.2.2.2.2.2.2.2.2.2) fun (r2 : ((List (Int × Int × Int)) × Unit) × Unit) =>
 some ((((t_0.1, t_0.2.1, t_0.2.2.1, t_0.2.2.2.1, t_0.2.2.2.2.1, t_0.2.2.2.2.2.1, r1.1.1, t_0.2.2.2.2.2.2.2.1, t_0.2.2.2.2.2.2.2.2.1, t_0.2.2.2.2.2.2.2.2.2.1, t_0.2.2.2.2.2.2.2.2.2.2.1, t_0.2.2.2.2.2.2.2.2.2.2.2.1, r2.1.1), []), ()), ())
theorem tie_of_eq (t_0 : Int × Int × Int × Int × Int × Int × (List Int) × Int × Int × Int × Int × Int × List (Int × Int × Int)) : evFn tie_of_Γ tab tie_of_fi 1 [.val t25] [⟨t142, [false, false, false, false, false, false, false, false, false, false, false, false, false, true], some 143⟩] Tryz.f71 (t_0, ()) = tie_of t_0 := by kernel_rfl
noncomputable def tie_of_e : Ent := ⟨[.val t25], [⟨t142, [false, false, false, false, false, false, false, false, false, false, false, false, false, true], some 143⟩], fun x => tie_of x.1⟩
theorem tie_of_good : Good tab.ty Tryz.prog 71 tie_of_e := by
  refine fn_good (Γ := tie_of_Γ) (fi := tie_of_fi) (n := 1) follows (gcons slices_Clone_int_good (gcons slices_Clone_Kid_good gnil)) tabok Tryz.func71 (by kernel_rfl) (by kernel_rfl) (fun x r h => ?_)
  obtain ⟨t_0, _u⟩ := x
  exact (tie_of_eq t_0).trans h
noncomputable def tie_node_tells_Γ : Ctx := [(67, slices_Clone_int_e)]
def tie_node_tells_fi : Fi := { keep := [], vty := [], vals := [], live := [(0, [0, 1, 8, 26, 27]), (1, [0, 8, 28]), (2, [0, 8]), (3, [0])] }
noncomputable def tie_node_tells (n_0 : (Int × Int × Int × Int × Int × Int × (List Int) × Int × Int × Int × Int × Int × List (Int × Int × Int)) × List (Int × Int × Int × Int × Int × Int × (List Int) × Int × Int × ByteArray)) (kind_1 : Int) (to_2 : Int) (lo_3 : Int) : Option (Unit × (((Int × Int × Int × Int × Int × Int × (List Int) × Int × Int × Int × Int × Int × List (Int × Int × Int)) × List (Int × Int × Int × Int × Int × Int × (List Int) × Int × Int × ByteArray)) × Unit)) :=
 bif kind_1 == 2 then
  Option.bind (slices_Clone_int n_0.1.2.2.2.2.2.2.1) fun (r1 : ((List Int) × Unit) × Unit) =>
  bif Nat.ble (n_0.2.length + 1) 1073741824 then
   some ((), ((n_0.1, n_0.2 ++ [(kind_1, n_0.1.1, to_2, n_0.1.2.1, n_0.1.2.2.2.2.2.2.2.1, IntKind.wrap .i64 (n_0.1.2.2.1 - n_0.1.2.2.2.2.2.2.2.2.1), r1.1.1, lo_3, 0, (⟨#[]⟩ : ByteArray))]), ()))
  else none
 else
 bif kind_1 == 5 then
  Option.bind (slices_Clone_int n_0.1.2.2.2.2.2.2.1) fun (r2 : ((List Int) × Unit) × Unit) =>
  bif Nat.ble (n_0.2.length + 1) 1073741824 then
   some ((), ((n_0.1, n_0.2 ++ [(kind_1, n_0.1.1, to_2, n_0.1.2.1, n_0.1.2.2.2.2.2.2.2.1, IntKind.wrap .i64 (n_0.1.2.2.1 - n_0.1.2.2.2.2.2.2.2.2.1), r2.1.1, lo_3, 0, (⟨#[]⟩ : ByteArray))]), ()))
  else none
 else
 bif Nat.ble (n_0.2.length + 1) 1073741824 then
  some ((), ((n_0.1, n_0.2 ++ [(kind_1, n_0.1.1, to_2, n_0.1.2.1, 0, 0, [], lo_3, 0, (⟨#[]⟩ : ByteArray))]), ()))
 else none
theorem tie_node_tells_eq (n_0 : (Int × Int × Int × Int × Int × Int × (List Int) × Int × Int × Int × Int × Int × List (Int × Int × Int)) × List (Int × Int × Int × Int × Int × Int × (List Int) × Int × Int × ByteArray)) (kind_1 : Int) (to_2 : Int) (lo_3 : Int) : evFn tie_node_tells_Γ tab tie_node_tells_fi 1 [.box 143 t142 [false, false, false, false, false, false, false, false, false, false, false, false, false, true], .val t2, .val t2, .val t2] [] Tryz.f163 (n_0, kind_1, to_2, lo_3, ()) = tie_node_tells n_0 kind_1 to_2 lo_3 := by kernel_rfl
noncomputable def tie_node_tells_e : Ent := ⟨[.box 143 t142 [false, false, false, false, false, false, false, false, false, false, false, false, false, true], .val t2, .val t2, .val t2], [], fun x => tie_node_tells x.1 x.2.1 x.2.2.1 x.2.2.2.1⟩
theorem tie_node_tells_good : Good tab.ty Tryz.prog 163 tie_node_tells_e := by
  refine fn_good (Γ := tie_node_tells_Γ) (fi := tie_node_tells_fi) (n := 1) follows (gcons slices_Clone_int_good gnil) tabok Tryz.func163 (by kernel_rfl) (by kernel_rfl) (fun x r h => ?_)
  obtain ⟨n_0, kind_1, to_2, lo_3, _u⟩ := x
  exact (tie_node_tells_eq n_0 kind_1 to_2 lo_3).trans h
noncomputable def tie_Leave_Γ : Ctx := [(71, tie_of_e), (163, tie_node_tells_e)]
def tie_Leave_fi : Fi := { keep := [], vty := [(2, 37)], vals := [], live := [(0, [1]), (1, [3]), (2, [3, 13]), (3, [3]), (4, [3, 25, 26, 27]), (5, [3, 25, 26, 27, 28]), (6, [3, 5, 25, 26, 27]), (7, [3, 25, 26, 27]), (8, [3, 25, 26, 27]), (9, [2])] }
noncomputable def tie_Leave_x (x : PDs [.val t25]) : Option (RDs [⟨t37, [true], none⟩] × ODs [.val t25]) := evFn tie_Leave_Γ tab tie_Leave_fi 1099511627776 [.val t25] [⟨t37, [true], none⟩] Tryz.f270 x
noncomputable def tie_Leave (x0 : Int × Int × Int × Int × Int × Int × (List Int) × Int × Int × Int × Int × Int × List (Int × Int × Int)) : Option (((List (Int × Int × Int × Int × Int × Int × (List Int) × Int × Int × ByteArray)) × Unit) × Unit) := tie_Leave_x (x0, ())
noncomputable def tie_Leave_e : Ent := ⟨[.val t25], [⟨t37, [true], none⟩], fun x => tie_Leave x.1⟩
theorem tie_Leave_good : Good tab.ty Tryz.prog 270 tie_Leave_e := by
  refine fn_good (Γ := tie_Leave_Γ) (fi := tie_Leave_fi) (n := 1099511627776) follows (gcons tie_of_good (gcons tie_node_tells_good gnil)) tabok Tryz.func270 (by kernel_rfl) (by kernel_rfl) (fun x r h => ?_)
  obtain ⟨x0, _u⟩ := x
  exact h
noncomputable def node_Off_Γ : Ctx := [(26, node_Crash_e), (28, node_twin_e), (270, tie_Leave_e)]
def node_Off_fi : Fi := { keep := [], vty := [], vals := [], live := [(0, [1, 2]), (1, [1, 2, 6]), (2, [2, 3]), (3, [2, 3])] }
noncomputable def node_Off (n_0 : Bool × Int × ByteArray × (Int × Int × Int × Int × Int × Int × (List Int) × Int × Int × Int × Int × Int × List (Int × Int × Int)) × (Int × Int × (List (Int × ByteArray)) × (List (Int × ByteArray)) × (List (Int × Int × Int × ByteArray × Int)) × Int × Int) × Int) : Option (((Bool × Int × ByteArray × (Int × Int × Int × Int × Int × Int × (List Int) × Int × Int × Int × Int × Int × List (Int × Int × Int)) × (Int × Int × (List (Int × ByteArray)) × (List (Int × ByteArray)) × (List (Int × Int × Int × ByteArray × Int)) × Int × Int) × Int) × (List (Int × Int × Int × Int × Int × Int × (List Int) × Int × Int × ByteArray)) × Unit) × Unit) :=
 bif !n_0.1 then
  Option.bind (node_twin n_0) fun (r1 : ((Bool × Int × ByteArray × (Int × Int × Int × Int × Int × Int × (List Int) × Int × Int × Int × Int × Int × List (Int × Int × Int)) × (Int × Int × (List (Int × ByteArray)) × (List (Int × ByteArray)) × (List (Int × Int × Int × ByteArray × Int)) × Int × Int) × Int) × Unit) × Unit) =>
  some ((r1.1.1, [], ()), ())
 else
  Option.bind (node_Crash n_0) fun (r2 : ((Bool × Int × ByteArray × (Int × Int × Int × Int × Int × Int × (List Int) × Int × Int × Int × Int × Int × List (Int × Int × Int)) × (Int × Int × (List (Int × ByteArray)) × (List (Int × ByteArray)) × (List (Int × Int × Int × ByteArray × Int)) × Int × Int) × Int) × Unit) × Unit) =>
  Option.bind (tie_Leave n_0.2.2.2.1) fun (r3 : ((List (Int × Int × Int × Int × Int × Int × (List Int) × Int × Int × ByteArray)) × Unit) × Unit) =>
  some ((r2.1.1, r3.1.1, ()), ())
theorem node_Off_eq (n_0 : Bool × Int × ByteArray × (Int × Int × Int × Int × Int × Int × (List Int) × Int × Int × Int × Int × Int × List (Int × Int × Int)) × (Int × Int × (List (Int × ByteArray)) × (List (Int × ByteArray)) × (List (Int × Int × Int × ByteArray × Int)) × Int × Int) × Int) : evFn node_Off_Γ tab node_Off_fi 1 [.val t33] [⟨t33, [false, false, false, false, false, false, false, false, false, false, false, false, false, false, false, false, false, false, false, false, false, false, false, false], none⟩, ⟨t37, [true], none⟩] Tryz.f205 (n_0, ()) = node_Off n_0 := by kernel_rfl
noncomputable def node_Off_e : Ent := ⟨[.val t33], [⟨t33, [false, false, false, false, false, false, false, false, false, false, false, false, false, false, false, false, false, false, false, false, false, false, false, false], none⟩, ⟨t37, [true], none⟩], fun x => node_Off x.1⟩
theorem node_Off_good : Good tab.ty Tryz.prog 205 node_Off_e := by
  refine fn_good (Γ := node_Off_Γ) (fi := node_Off_fi) (n := 1) follows (gcons node_Crash_good (gcons node_twin_good (gcons tie_Leave_good gnil))) tabok Tryz.func205 (by kernel_rfl) (by kernel_rfl) (fun x r h => ?_)
  obtain ⟨n_0, _u⟩ := x
  exact (node_Off_eq n_0).trans h
noncomputable def slices_Delete_Cluster_Γ : Ctx := [(328, markE)]
def slices_Delete_Cluster_fi : Fi := { keep := [], vty := [], vals := [], live := [(0, [0, 1, 2]), (1, [0, 1, 2]), (2, [0, 1, 2, 16]), (3, [6]), (4, [0, 1, 2, 7]), (5, [0, 7]), (6, [0]), (7, [6])], melt := [(6, 1000000)] }
noncomputable def slices_Delete_Cluster_c (c : Nat) (s_0 : List (Option ((List Int) × Int))) (i_1 : Int) (j_2 : Int) : Option (((List ((List Int) × Int)) × Unit) × Unit) :=
 bif ((decide (0 ≤ i_1) && decide (i_1 ≤ j_2)) && decide (j_2 ≤ ((s_0.length : Nat) : Int))) && decide (((s_0.length : Nat) : Int) ≤ ((((List.append s_0 (List.replicate c none)).length) - 0 : Nat) : Int)) then
  bif i_1 == j_2 then
   bif Nat.ble s_0.length ((List.append s_0 (List.replicate c none)).length) then
    Option.bind (allSome (List.take s_0.length (List.append s_0 (List.replicate c none)))) fun (z1 : List ((List Int) × Int)) =>
    some ((z1, ()), ())
   else none
  else
  bif decide (0 ≤ i_1) && decide (i_1 ≤ ((((List.append s_0 (List.replicate c none)).length) - 0 : Nat) : Int)) then
   bif (decide (0 ≤ j_2) && decide (j_2 ≤ ((s_0.length : Nat) : Int))) && decide (((s_0.length : Nat) : Int) ≤ ((((List.append s_0 (List.replicate c none)).length) - 0 : Nat) : Int)) then
    bif Nat.ble (0 + ((i_1 - 0).toNat)) ((List.append s_0 (List.replicate c none)).length) then
     bif Nat.ble ((0 + j_2.toNat) + ((((s_0.length : Nat) : Int) - j_2).toNat)) ((List.append s_0 (List.replicate c none)).length) then
      Option.bind (allSome (List.take ((((s_0.length : Nat) : Int) - j_2).toNat) (List.drop (0 + j_2.toNat) (List.append s_0 (List.replicate c none))))) fun (z2 : List ((List Int) × Int)) =>
      bif Nat.ble (((i_1 - 0).toNat) + z2.length) ((List.append s_0 (List.replicate c none)).length) then
       bif (decide (0 ≤ ((((i_1 - 0).toNat) + z2.length : Nat) : Int)) && decide (((((i_1 - 0).toNat) + z2.length : Nat) : Int) ≤ ((s_0.length : Nat) : Int))) && decide (((s_0.length : Nat) : Int) ≤ ((((writeAt (List.append s_0 (List.replicate c none)) ((i_1 - 0).toNat) z2).length) - 0 : Nat) : Int)) then
        bif Nat.ble ((0 + (((((i_1 - 0).toNat) + z2.length : Nat) : Int).toNat)) + ((((s_0.length : Nat) : Int) - ((((i_1 - 0).toNat) + z2.length : Nat) : Int)).toNat)) ((writeAt (List.append s_0 (List.replicate c none)) ((i_1 - 0).toNat) z2).length) then
         bif Nat.ble (((i_1 - 0).toNat) + z2.length) ((writeAt (writeAt (List.append s_0 (List.replicate c none)) ((i_1 - 0).toNat) z2) (0 + (((((i_1 - 0).toNat) + z2.length : Nat) : Int).toNat)) (List.replicate ((((s_0.length : Nat) : Int) - ((((i_1 - 0).toNat) + z2.length : Nat) : Int)).toNat) (([], 0) : (List Int) × Int))).length) then
          Option.bind (allSome (List.take (((i_1 - 0).toNat) + z2.length) (writeAt (writeAt (List.append s_0 (List.replicate c none)) ((i_1 - 0).toNat) z2) (0 + (((((i_1 - 0).toNat) + z2.length : Nat) : Int).toNat)) (List.replicate ((((s_0.length : Nat) : Int) - ((((i_1 - 0).toNat) + z2.length : Nat) : Int)).toNat) (([], 0) : (List Int) × Int))))) fun (z3 : List ((List Int) × Int)) =>
          some ((z3, ()), ())
         else none
        else none
       else none
      else
      bif Nat.ble (((i_1 - 0).toNat) + z2.length) 1073741824 then
       Option.bind (allSome (List.take ((i_1 - 0).toNat) (List.append s_0 (List.replicate c none)))) fun (z4 : List ((List Int) × Int)) =>
       bif (decide (0 ≤ (((z4 ++ z2).length : Nat) : Int)) && decide ((((z4 ++ z2).length : Nat) : Int) ≤ ((s_0.length : Nat) : Int))) && decide (((s_0.length : Nat) : Int) ≤ (((List.map some (z4 ++ z2)).length : Nat) : Int)) then
        bif Nat.ble ((0 + ((((z4 ++ z2).length : Nat) : Int).toNat)) + ((((s_0.length : Nat) : Int) - (((z4 ++ z2).length : Nat) : Int)).toNat)) ((List.map some (z4 ++ z2)).length) then
         none
        else none
       else none
      else none
     else none
    else none
   else none
  else none
 else none
theorem slices_Delete_Cluster_c_eq (c : Nat) (s_0 : List (Option ((List Int) × Int))) (i_1 : Int) (j_2 : Int) : evFn slices_Delete_Cluster_Γ tab { slices_Delete_Cluster_fi with cap := c } 1 [.ownh 207 t206, .val t2, .val t2] [⟨t190, [true], none⟩] Tryz.f328 (s_0, i_1, j_2, ()) = slices_Delete_Cluster_c c s_0 i_1 j_2 := by kernel_rfl
theorem slices_Delete_Cluster_c_is (c : Nat) (s_0 : List (Option ((List Int) × Int))) (i_1 : Int) (j_2 : Int) : slices_Delete_Cluster_c c s_0 i_1 j_2 = deleteHC (([], 0) : (List Int) × Int) c s_0 i_1 j_2 := by kernel_rfl
noncomputable def slices_Delete_Cluster (s_0 : List (Option ((List Int) × Int))) (i_1 : Int) (j_2 : Int) : Option (((List ((List Int) × Int)) × Unit) × Unit) := deleteHR s_0 i_1 j_2
noncomputable def slices_Delete_Cluster_e : Ent := ⟨[.ownh 207 t206, .val t2, .val t2], [⟨t190, [true], none⟩], fun x => slices_Delete_Cluster x.1 x.2.1 x.2.2.1⟩
theorem slices_Delete_Cluster_good : Good tab.ty Tryz.prog 328 slices_Delete_Cluster_e := by
  refine fn_goodC (Γ := slices_Delete_Cluster_Γ) (fi := slices_Delete_Cluster_fi) (n := 1) follows (gcons (gmark Tryz.func328 (by kernel_rfl) (by kernel_rfl)) gnil) tabok Tryz.func328 (by kernel_rfl) (by kernel_rfl) (fun c x r hc h => ?_)
  obtain ⟨s_0, i_1, j_2, _u⟩ := x
  exact (slices_Delete_Cluster_c_eq c s_0 i_1 j_2).trans ((slices_Delete_Cluster_c_is c s_0 i_1 j_2).trans (deleteH_law (([], 0) : (List Int) × Int) c s_0 i_1 j_2 r hc h))
noncomputable def clus_leaders_Γ : Ctx := []
def clus_leaders_fi : Fi := { keep := [], vty := [(4, 23)], vals := [], live := [(0, [0, 1, 4]), (1, [1, 4, 7, 8, 9]), (2, [1, 4, 7, 8, 9, 10]), (3, [1, 4, 5, 6, 7, 8, 9]), (4, [1, 4, 6, 7, 8, 9, 16]), (5, [1, 4, 7, 8, 9]), (6, [1, 4, 7, 8, 9]), (7, [4])] }
noncomputable def clus_leaders_B1 (L1 : Int → (List ((List Int) × Int)) → Int → Int → List Int → Option (((List Int) × Unit) × Unit)) (v1 : Int) (v2 : List ((List Int) × Int)) (v3 : Int) (v4 : Int) (v5 : List Int) : Option (((List Int) × Unit) × Unit) :=
 bif decide (v4 < v3) then
  bif decide (0 ≤ v4) && decide (v4 < (v2.length : Int)) then
   bif v4 != v1 then
    bif Nat.ble (v5.length + 1) 1073741824 then
     L1 v1 v2 v3 (IntKind.wrap .i64 (v4 + 1)) (v5 ++ [(List.getD v2 v4.toNat ([], 0)).2])
    else none
   else
    L1 v1 v2 v3 (IntKind.wrap .i64 (v4 + 1)) v5
  else none
 else
  some ((v5, ()), ())
noncomputable def clus_leaders_T (L1 : Int → (List ((List Int) × Int)) → Int → Int → List Int → Option (((List Int) × Unit) × Unit)) (cs_0 : List ((List Int) × Int)) (at_1 : Int) : Option (((List Int) × Unit) × Unit) :=
 L1 at_1 cs_0 (cs_0.length : Int) 0 []
noncomputable def clus_leaders_L1 (n : Nat) : Nat → Int → (List ((List Int) × Int)) → Int → Int → List Int → Option (((List Int) × Unit) × Unit) := iter (fun _ _ _ _ _ => none) fun L => clus_leaders_B1 L
noncomputable def clus_leaders_X1 (n m : Nat) (v1 : Int) (v2 : List ((List Int) × Int)) (v3 : Int) (v4 : Int) (v5 : List Int) : Option (((List Int) × Unit) × Unit) :=
 atLoop clus_leaders_Γ tab (fiB [.val t190, .val t2] clus_leaders_fi) n [.val t190, .val t2] [⟨t23, [true], none⟩] Tryz.f329 [1, 0, 1, 0] [] [1, 4, 7, 8, 9] m
 ⟨[(1, SV.cv (CV.one (LV.pure t2 v1))), (4, SV.cv (CV.one (LV.ref (888888, 4)))), (7, SV.cv (CV.one (LV.pure t190 v2))), (8, SV.cv (CV.one (LV.pure t2 v3))), (9, SV.cv (CV.one (LV.pure t2 v4)))],
  [((888888, 4), Ob.row 3 t2 v5)]⟩
theorem clus_leaders_step1 (n m : Nat) (v1 : Int) (v2 : List ((List Int) × Int)) (v3 : Int) (v4 : Int) (v5 : List Int) : clus_leaders_X1 n (m + 1) v1 v2 v3 v4 v5 = clus_leaders_B1 (clus_leaders_X1 n m) v1 v2 v3 v4 v5 := by kernel_rfl
theorem clus_leaders_start (n : Nat) (cs_0 : List ((List Int) × Int)) (at_1 : Int) : evFn clus_leaders_Γ tab clus_leaders_fi n [.val t190, .val t2] [⟨t23, [true], none⟩] Tryz.f329 (cs_0, at_1, ()) = clus_leaders_T (clus_leaders_X1 n n) cs_0 at_1 := by kernel_rfl
theorem clus_leaders_XL1 (n : Nat) : ∀ m, clus_leaders_X1 n m = clus_leaders_L1 n m
 | 0 => rfl
 | m + 1 => by
  have ih := clus_leaders_XL1 n m
  funext v1 v2 v3 v4 v5
  rw [clus_leaders_step1, ih]
  rfl
noncomputable def clus_leaders_n (n : Nat) (cs_0 : List ((List Int) × Int)) (at_1 : Int) : Option (((List Int) × Unit) × Unit) := clus_leaders_T (clus_leaders_L1 n n) cs_0 at_1
noncomputable def clus_leaders (cs_0 : List ((List Int) × Int)) (at_1 : Int) : Option (((List Int) × Unit) × Unit) := clus_leaders_n 1099511627776 cs_0 at_1
theorem clus_leaders_eq (n : Nat) (cs_0 : List ((List Int) × Int)) (at_1 : Int) : evFn clus_leaders_Γ tab clus_leaders_fi n [.val t190, .val t2] [⟨t23, [true], none⟩] Tryz.f329 (cs_0, at_1, ()) = clus_leaders_n n cs_0 at_1 := by
  rw [clus_leaders_start, clus_leaders_XL1 n n]
  rfl
noncomputable def clus_leaders_e : Ent := ⟨[.val t190, .val t2], [⟨t23, [true], none⟩], fun x => clus_leaders x.1 x.2.1⟩
theorem clus_leaders_good : Good tab.ty Tryz.prog 329 clus_leaders_e := by
  refine fn_good (Γ := clus_leaders_Γ) (fi := clus_leaders_fi) (n := 1099511627776) follows gnil tabok Tryz.func329 (by kernel_rfl) (by kernel_rfl) (fun x r h => ?_)
  obtain ⟨cs_0, at_1, _u⟩ := x
  exact (clus_leaders_eq 1099511627776 cs_0 at_1).trans h
noncomputable def clus_Leave_fn1_Γ : Ctx := []
def clus_Leave_fn1_fi : Fi := { keep := [], vty := [], vals := [], live := [(0, [0, 1]), (1, [3])] }
noncomputable def clus_Leave_fn1 (x_0 : Int) (x_1 : Int) : Option ((Bool × Unit) × Unit) :=
 some ((x_0 == x_1, ()), ())
theorem clus_Leave_fn1_eq (x_0 : Int) (x_1 : Int) : evFn clus_Leave_fn1_Γ tab clus_Leave_fn1_fi 1 [.val t2, .rbox t2] [⟨t4, [false], none⟩] Tryz.f327 (x_0, x_1, ()) = clus_Leave_fn1 x_0 x_1 := by kernel_rfl
noncomputable def clus_Leave_fn1_e : Ent := ⟨[.val t2, .rbox t2], [⟨t4, [false], none⟩], fun x => clus_Leave_fn1 x.1 x.2.1⟩
theorem clus_Leave_fn1_good : Good tab.ty Tryz.prog 327 clus_Leave_fn1_e := by
  refine fn_good (Γ := clus_Leave_fn1_Γ) (fi := clus_Leave_fn1_fi) (n := 1) follows gnil tabok Tryz.func327 (by kernel_rfl) (by kernel_rfl) (fun x r h => ?_)
  obtain ⟨x_0, x_1, _u⟩ := x
  exact (clus_Leave_fn1_eq x_0 x_1).trans h
noncomputable def clus_Leave_fn2_Γ : Ctx := []
def clus_Leave_fn2_fi : Fi := { keep := [], vty := [], vals := [], live := [(0, [1, 2]), (1, [3])] }
noncomputable def clus_Leave_fn2 (c_0 : (List Int) × Int) (x_1 : Int) : Option ((Bool × Unit) × Unit) :=
 some ((c_0.2 == x_1, ()), ())
theorem clus_Leave_fn2_eq (c_0 : (List Int) × Int) (x_1 : Int) : evFn clus_Leave_fn2_Γ tab clus_Leave_fn2_fi 1 [.val t206, .rbox t2] [⟨t4, [false], none⟩] Tryz.f330 (c_0, x_1, ()) = clus_Leave_fn2 c_0 x_1 := by kernel_rfl
noncomputable def clus_Leave_fn2_e : Ent := ⟨[.val t206, .rbox t2], [⟨t4, [false], none⟩], fun x => clus_Leave_fn2 x.1 x.2.1⟩
theorem clus_Leave_fn2_good : Good tab.ty Tryz.prog 330 clus_Leave_fn2_e := by
  refine fn_good (Γ := clus_Leave_fn2_Γ) (fi := clus_Leave_fn2_fi) (n := 1) follows gnil tabok Tryz.func330 (by kernel_rfl) (by kernel_rfl) (fun x r h => ?_)
  obtain ⟨c_0, x_1, _u⟩ := x
  exact (clus_Leave_fn2_eq c_0 x_1).trans h
noncomputable def clus_Leave_Γ : Ctx := [(199, clus_find_e), (326, slices_DeleteFunc_int_e), (328, slices_Delete_Cluster_e), (198, clus_Of_e), (329, clus_leaders_e), (202, mid_Near_e), (192, slices_IndexFunc_Cluster_e), (200, slices_Sort_int_e), (201, clus_cut_e), (327, clus_Leave_fn1_e), (330, clus_Leave_fn2_e)]
def clus_Leave_fi : Fi := { keep := [], vty := [(1, 190), (8, 190), (10, 23), (13, 23), (14, 190), (16, 190), (21, 190), (22, 190), (29, 23), (32, 190), (37, 190), (39, 49), (40, 23), (43, 23), (48, 190), (52, 190), (53, 49), (54, 190), (59, 190), (63, 190), (73, 190), (74, 23), (75, 190), (81, 23), (83, 190), (85, 49), (86, 23), (89, 190), (95, 49), (96, 190), (97, 190), (98, 23), (106, 190)], vals := [], live := [(0, [0, 1, 3, 6, 48, 49, 50, 69, 70, 71]), (1, [0, 1, 3, 6, 48, 49, 50, 69, 70, 71]), (2, [0, 1, 3, 6, 9, 48, 49, 50, 69, 70, 71]), (3, [0, 1, 3, 6, 9, 20, 48, 49, 50, 69, 70, 71]), (4, [8]), (5, [0, 1, 3, 9, 10, 48, 49, 50, 69, 70, 71]), (6, [0, 1, 3, 9, 10, 31, 48, 49, 50, 69, 70, 71]), (7, [8]), (8, [0, 1, 3, 9, 10, 48, 49, 50, 69, 70, 71]), (9, [0, 1, 3, 9, 10, 51, 69, 70, 71]), (10, [8]), (11, [0, 1, 3, 9, 10, 11, 69, 70, 71]), (12, [0, 1, 3, 9, 10, 12, 69, 70, 71]), (13, [0, 1, 3, 9, 10, 12, 72]), (14, [8]), (15, [0, 1, 3, 9, 12, 13]), (16, [0, 1, 3, 9, 12, 13]), (17, [0, 1, 3, 12, 13]), (18, [0, 1, 3, 13]), (19, [1]), (20, [8])] }
def clus_Leave_cfg : TakeCfg := { eT := 207, iT := 3, Tcs := 190, Tsl := 23, tD := t49, cs := 1, ix := 9, tA := 14, tB := 15, q1 := 22, q2 := 23, q3 := 24, q4 := 25, q5 := 26, ks := [3, 9], bx := some 6, ft := 197, id6 := 5 }
noncomputable def clus_Leave_c0 : Code := match Tryz.f271.body with
  | some c => c
  | none => .skip
noncomputable def clus_Leave_c1 : Code := seqR clus_Leave_c0
noncomputable def clus_Leave_c2 : Code := seqR clus_Leave_c1
noncomputable def clus_Leave_Bs : List Code := [seqL clus_Leave_c2, seqL (seqR clus_Leave_c2)]
noncomputable def clus_Leave_c3 : Code := seqR (seqR (clus_Leave_c2))
noncomputable def clus_Leave_x (x : PDs [.val t49, .val t190, .val t2, .val t2]) : Option (RDs [⟨t190, [false], none⟩] × ODs [.val t49, .val t190, .val t2, .val t2]) := evTake clus_Leave_Γ tab clus_Leave_fi 1099511627776 clus_Leave_cfg (seqL clus_Leave_c0) clus_Leave_Bs (regArr (seqL clus_Leave_c3)) (seqR clus_Leave_c3) [.val t49, .val t190, .val t2, .val t2] [⟨t190, [false], none⟩] Tryz.f271 x.1 x
noncomputable def clus_Leave (x0 : List (List Int)) (x1 : List ((List Int) × Int)) (x2 : Int) (x3 : Int) : Option (((List ((List Int) × Int)) × Unit) × Unit) := clus_Leave_x (x0, x1, x2, x3, ())
noncomputable def clus_Leave_e : Ent := ⟨[.val t49, .val t190, .val t2, .val t2], [⟨t190, [false], none⟩], fun x => clus_Leave x.1 x.2.1 x.2.2.1 x.2.2.2.1⟩
theorem clus_Leave_ops : TakeOps clus_Leave_cfg (opAt (regOps (seqL clus_Leave_c1)) 0) (opAt (regOps (seqL clus_Leave_c1)) 1) (opAt (regOps (seqL clus_Leave_c1)) 2) (opAt (regOps (seqL clus_Leave_c3)) 0) (opAt (regOps (seqL clus_Leave_c3)) 1) (opAt (regOps (seqL clus_Leave_c3)) 2) (opAt (regOps (seqL clus_Leave_c3)) 3) (opAt (regOps (seqL clus_Leave_c3)) 4) := ⟨⟨rfl, rfl, rfl⟩, ⟨rfl, rfl, rfl⟩, ⟨rfl, rfl, rfl⟩, ⟨rfl, rfl, rfl⟩, ⟨rfl, rfl, rfl⟩, ⟨rfl, rfl, rfl⟩, ⟨rfl, rfl, rfl⟩, ⟨rfl, rfl, rfl⟩⟩
theorem clus_Leave_good : Good tab.ty Tryz.prog 271 clus_Leave_e := by
  refine take_good (c := clus_Leave_cfg) (pr := [.val t190, .val t2, .val t2]) (rs := [⟨t190, [false], none⟩]) (Γ := clus_Leave_Γ) (fi := clus_Leave_fi) (n := 1099511627776) (id1 := 1) (r0 := seqL clus_Leave_c0) (Bs := clus_Leave_Bs) (ops1 := regArr (seqL clus_Leave_c1)) (ops6 := regArr (seqL clus_Leave_c3)) (rest := (regOps (seqL clus_Leave_c3)).drop 5) (tail := seqR clus_Leave_c3) follows (gcons clus_find_good (gcons slices_DeleteFunc_int_good (gcons slices_Delete_Cluster_good (gcons clus_Of_good (gcons clus_leaders_good (gcons mid_Near_good (gcons slices_IndexFunc_Cluster_good (gcons slices_Sort_int_good (gcons clus_cut_good (gcons clus_Leave_fn1_good (gcons clus_Leave_fn2_good gnil))))))))))) tabok clus_twin_ok Tryz.func271 (by kernel_rfl) (by kernel_rfl) (by kernel_rfl) (by kernel_rfl) clus_Leave_ops (by kernel_rfl) (by kernel_rfl) (fun x r h => ?_)
  obtain ⟨x0, x1, x2, x3, _u⟩ := x
  exact h
noncomputable def hier_Leave_Γ : Ctx := [(119, hier_copied_e), (120, hier_find_e), (121, hier_all_e), (122, hier_above_e), (271, clus_Leave_e)]
def hier_Leave_fi : Fi := { keep := [], vty := [], vals := [], live := [(0, [1, 2, 4]), (1, [1, 2, 4]), (2, [1, 2, 4, 11]), (3, [4]), (4, [4])] }
noncomputable def hier_Leave (h_0 : Int × (List (List Int)) × List (List ((List Int) × Int))) (id_1 : Int) : Option (((Int × (List (List Int)) × List (List ((List Int) × Int))) × Unit) × Unit) :=
 Option.bind (hier_copied h_0) fun (r1 : ((Int × (List (List Int)) × List (List ((List Int) × Int))) × Unit) × Unit) =>
 Option.bind (hier_all r1.1.1) fun (r2 : ((List ((List Int) × Int)) × Unit) × Unit) =>
 Option.bind (hier_find r2.1.1 id_1) fun (r3 : (Int × Unit) × Unit) =>
 bif decide (r3.1.1 < 0) then
  some ((r1.1.1, ()), ())
 else
  Option.bind (hier_all r1.1.1) fun (r4 : ((List ((List Int) × Int)) × Unit) × Unit) =>
  Option.bind (clus_Leave r1.1.1.2.1 r4.1.1 id_1 r1.1.1.1) fun (r5 : ((List ((List Int) × Int)) × Unit) × Unit) =>
  Option.bind (hier_above r1.1.1 r5.1.1) fun (r6 : ((Int × (List (List Int)) × List (List ((List Int) × Int))) × Unit) × Unit) =>
  some ((r6.1.1, ()), ())
theorem hier_Leave_eq (h_0 : Int × (List (List Int)) × List (List ((List Int) × Int))) (id_1 : Int) : evFn hier_Leave_Γ tab hier_Leave_fi 1 [.val t51, .val t2] [⟨t51, [false, false, false], none⟩] Tryz.f206 (h_0, id_1, ()) = hier_Leave h_0 id_1 := by kernel_rfl
noncomputable def hier_Leave_e : Ent := ⟨[.val t51, .val t2], [⟨t51, [false, false, false], none⟩], fun x => hier_Leave x.1 x.2.1⟩
theorem hier_Leave_good : Good tab.ty Tryz.prog 206 hier_Leave_e := by
  refine fn_good (Γ := hier_Leave_Γ) (fi := hier_Leave_fi) (n := 1) follows (gcons hier_copied_good (gcons hier_find_good (gcons hier_all_good (gcons hier_above_good (gcons clus_Leave_good gnil))))) tabok Tryz.func206 (by kernel_rfl) (by kernel_rfl) (fun x r h => ?_)
  obtain ⟨h_0, id_1, _u⟩ := x
  exact (hier_Leave_eq h_0 id_1).trans h
noncomputable def slices_ContainsFunc_int_Γ : Ctx := [(340, slices_IndexFunc_int_e)]
def slices_ContainsFunc_int_fi : Fi := { keep := [], vty := [], vals := [], live := [(0, [0, 1]), (1, [4])] }
noncomputable def slices_ContainsFunc_int (s_0 : List Int) (f_1 : (Int × Unit → Option (Bool × Unit))) : Option ((Bool × Unit) × Unit) :=
 Option.bind (slices_IndexFunc_int s_0 f_1) fun (r1 : (Int × Unit) × Unit) =>
 some ((decide (r1.1.1 ≥ 0), ()), ())
theorem slices_ContainsFunc_int_eq (s_0 : List Int) (f_1 : (Int × Unit → Option (Bool × Unit))) : evFn slices_ContainsFunc_int_Γ tab slices_ContainsFunc_int_fi 1 [.val t23, .fn [t2] [t4]] [⟨t4, [false], none⟩] Tryz.f301 (s_0, f_1, ()) = slices_ContainsFunc_int s_0 f_1 := by kernel_rfl
noncomputable def slices_ContainsFunc_int_e : Ent := ⟨[.val t23, .fn [t2] [t4]], [⟨t4, [false], none⟩], fun x => slices_ContainsFunc_int x.1 x.2.1⟩
theorem slices_ContainsFunc_int_good : Good tab.ty Tryz.prog 301 slices_ContainsFunc_int_e := by
  refine fn_good (Γ := slices_ContainsFunc_int_Γ) (fi := slices_ContainsFunc_int_fi) (n := 1) follows (gcons slices_IndexFunc_int_good gnil) tabok Tryz.func301 (by kernel_rfl) (by kernel_rfl) (fun x r h => ?_)
  obtain ⟨s_0, f_1, _u⟩ := x
  exact (slices_ContainsFunc_int_eq s_0 f_1).trans h
noncomputable def msg_from_fn1_Γ : Ctx := []
def msg_from_fn1_fi : Fi := { keep := [], vty := [], vals := [], live := [(0, [0, 1, 2, 9, 10, 11]), (1, [4])] }
noncomputable def msg_from_fn1 (v_0 : Int) (x_1 : Int) (x_2 : Int) : Option ((Bool × Unit) × Unit) :=
 bif decide (v_0 < x_1) then
  some ((true, ()), ())
 else
  some ((decide (v_0 > x_2), ()), ())
theorem msg_from_fn1_eq (v_0 : Int) (x_1 : Int) (x_2 : Int) : evFn msg_from_fn1_Γ tab msg_from_fn1_fi 1 [.val t2, .rbox t2, .rbox t2] [⟨t4, [false], none⟩] Tryz.f302 (v_0, x_1, x_2, ()) = msg_from_fn1 v_0 x_1 x_2 := by kernel_rfl
noncomputable def msg_from_fn1_e : Ent := ⟨[.val t2, .rbox t2, .rbox t2], [⟨t4, [false], none⟩], fun x => msg_from_fn1 x.1 x.2.1 x.2.2.1⟩
theorem msg_from_fn1_good : Good tab.ty Tryz.prog 302 msg_from_fn1_e := by
  refine fn_good (Γ := msg_from_fn1_Γ) (fi := msg_from_fn1_fi) (n := 1) follows gnil tabok Tryz.func302 (by kernel_rfl) (by kernel_rfl) (fun x r h => ?_)
  obtain ⟨v_0, x_1, x_2, _u⟩ := x
  exact (msg_from_fn1_eq v_0 x_1 x_2).trans h
noncomputable def msg_from_Γ : Ctx := [(301, slices_ContainsFunc_int_e), (302, msg_from_fn1_e)]
def msg_from_fi : Fi := { keep := [], vty := [], vals := [], live := [(0, [2, 3, 4]), (1, [6])] }
noncomputable def msg_from (lo_0 : Int) (hi_1 : Int) (l_2 : List Int) : Option ((Bool × Unit) × Unit) :=
 Option.bind (slices_ContainsFunc_int l_2 (fun x => (msg_from_fn1 x.1 lo_0 hi_1).bind fun r => some (r.1.1, ()))) fun (r1 : (Bool × Unit) × Unit) =>
 some ((!r1.1.1, ()), ())
theorem msg_from_eq (lo_0 : Int) (hi_1 : Int) (l_2 : List Int) : evFn msg_from_Γ tab msg_from_fi 1 [.val t2, .val t2, .val t23] [⟨t4, [false], none⟩] Tryz.f243 (lo_0, hi_1, l_2, ()) = msg_from lo_0 hi_1 l_2 := by kernel_rfl
noncomputable def msg_from_e : Ent := ⟨[.val t2, .val t2, .val t23], [⟨t4, [false], none⟩], fun x => msg_from x.1 x.2.1 x.2.2.1⟩
theorem msg_from_good : Good tab.ty Tryz.prog 243 msg_from_e := by
  refine fn_good (Γ := msg_from_Γ) (fi := msg_from_fi) (n := 1) follows (gcons slices_ContainsFunc_int_good (gcons msg_from_fn1_good gnil)) tabok Tryz.func243 (by kernel_rfl) (by kernel_rfl) (fun x r h => ?_)
  obtain ⟨lo_0, hi_1, l_2, _u⟩ := x
  exact (msg_from_eq lo_0 hi_1 l_2).trans h
noncomputable def msg_bare_Γ : Ctx := []
def msg_bare_fi : Fi := { keep := [], vty := [], vals := [], live := [(0, [1, 2]), (1, [2])] }
noncomputable def msg_bare (m_0 : Int × Int × Int × Int × Int × Int × (List Int) × Int × Int × ByteArray) : Option (((Int × Int × Int × Int × Int × Int × (List Int) × Int × Int × ByteArray) × Unit) × Unit) :=
 some (((m_0.1, m_0.2.1, m_0.2.2.1, m_0.2.2.2.1, 0, 0, [], 0, 0, (⟨#[]⟩ : ByteArray)), ()), ())
theorem msg_bare_eq (m_0 : Int × Int × Int × Int × Int × Int × (List Int) × Int × Int × ByteArray) : evFn msg_bare_Γ tab msg_bare_fi 1 [.val t40] [⟨t40, [false, false, false, false, false, false, true, false, false, false], none⟩] Tryz.f303 (m_0, ()) = msg_bare m_0 := by kernel_rfl
noncomputable def msg_bare_e : Ent := ⟨[.val t40], [⟨t40, [false, false, false, false, false, false, true, false, false, false], none⟩], fun x => msg_bare x.1⟩
theorem msg_bare_good : Good tab.ty Tryz.prog 303 msg_bare_e := by
  refine fn_good (Γ := msg_bare_Γ) (fi := msg_bare_fi) (n := 1) follows gnil tabok Tryz.func303 (by kernel_rfl) (by kernel_rfl) (fun x r h => ?_)
  obtain ⟨m_0, _u⟩ := x
  exact (msg_bare_eq m_0).trans h
noncomputable def path_walk_Γ : Ctx := [(194, slices_Contains_int_e)]
def path_walk_fi : Fi := { keep := [], vty := [], vals := [], live := [(0, [0, 9, 10, 11, 14, 15, 16, 17, 31, 32, 35, 36, 37, 38, 39]), (1, [0, 18, 31, 32, 35, 36, 37, 38, 39]), (2, [2]), (3, [0, 21, 22, 23, 31, 32, 35, 36, 37, 38, 39]), (4, [0, 21, 22, 23, 24, 31, 32, 35, 36, 37, 38, 39]), (5, [0, 3, 4, 21, 22, 23, 31, 32, 35, 36, 37, 38, 39]), (6, [0, 3, 21, 22, 23, 31, 32, 35, 36, 37, 38, 39, 40]), (7, [2]), (8, [0, 21, 22, 23, 31, 32, 35, 36, 37, 38, 39]), (9, [2])] }
noncomputable def path_walk_B1 (L1 : List Int → List Int → Int → Int → Option ((IV × Unit) × Unit)) (v1 : List Int) (v2 : List Int) (v3 : Int) (v4 : Int) : Option ((IV × Unit) × Unit) :=
 bif decide (v4 < v3) then
  bif decide (0 ≤ v4) && decide (v4 < (v2.length : Int)) then
   bif decide (List.getD v2 v4.toNat 0 < 1) then
    some ((IV.mk 303 [.int .i64 v4], ()), ())
   else
   bif decide (List.getD v2 v4.toNat 0 > 8) then
    some ((IV.mk 303 [.int .i64 v4], ()), ())
   else
   bif decide (0 ≤ v4) && decide (v4 ≤ (v1.length : Int)) then
    Option.bind (slices_Contains_int (List.drop 0 (List.take v4.toNat v1)) (List.getD v2 v4.toNat 0)) fun (r5 : (Bool × Unit) × Unit) =>
    bif r5.1.1 then
     some ((IV.mk 303 [.int .i64 v4], ()), ())
    else
     L1 v1 v2 v3 (IntKind.wrap .i64 (v4 + 1))
   else none
  else none
 else
  some ((IV.nil, ()), ())
noncomputable def path_walk_T (L1 : List Int → List Int → Int → Int → Option ((IV × Unit) × Unit)) (p_0 : List Int) : Option ((IV × Unit) × Unit) :=
 bif decide ((p_0.length : Int) < 1) then
  some ((IV.mk 303 [.int .i64 0], ()), ())
 else
 bif decide ((p_0.length : Int) > 10) then
  some ((IV.mk 303 [.int .i64 0], ()), ())
 else
 bif decide (0 < (p_0.length : Int)) then
  bif (List.getD p_0 0 0) != 1 then
   some ((IV.mk 303 [.int .i64 0], ()), ())
  else
   L1 p_0 p_0 (p_0.length : Int) 0
 else none
noncomputable def path_walk_L1 (n : Nat) : Nat → List Int → List Int → Int → Int → Option ((IV × Unit) × Unit) := iter (fun _ _ _ _ => none) fun L => path_walk_B1 L
noncomputable def path_walk_X1 (n m : Nat) (v1 : List Int) (v2 : List Int) (v3 : Int) (v4 : Int) : Option ((IV × Unit) × Unit) :=
 atLoop path_walk_Γ tab (fiB [.val t23] path_walk_fi) n [.val t23] [⟨t20, [false], none⟩] Tryz.f298 [1, 1, 0, 1, 0] [] [0, 21, 22, 23] m
 ⟨[(0, SV.cv (CV.one (LV.pure t23 v1))), (21, SV.cv (CV.one (LV.pure t23 v2))), (22, SV.cv (CV.one (LV.pure t2 v3))), (23, SV.cv (CV.one (LV.pure t2 v4)))],
  []⟩
theorem path_walk_step1 (n m : Nat) (v1 : List Int) (v2 : List Int) (v3 : Int) (v4 : Int) : path_walk_X1 n (m + 1) v1 v2 v3 v4 = path_walk_B1 (path_walk_X1 n m) v1 v2 v3 v4 := by kernel_rfl
theorem path_walk_start (n : Nat) (p_0 : List Int) : evFn path_walk_Γ tab path_walk_fi n [.val t23] [⟨t20, [false], none⟩] Tryz.f298 (p_0, ()) = path_walk_T (path_walk_X1 n n) p_0 := by kernel_rfl
theorem path_walk_XL1 (n : Nat) : ∀ m, path_walk_X1 n m = path_walk_L1 n m
 | 0 => rfl
 | m + 1 => by
  have ih := path_walk_XL1 n m
  funext v1 v2 v3 v4
  rw [path_walk_step1, ih]
  rfl
noncomputable def path_walk_n (n : Nat) (p_0 : List Int) : Option ((IV × Unit) × Unit) := path_walk_T (path_walk_L1 n n) p_0
noncomputable def path_walk (p_0 : List Int) : Option ((IV × Unit) × Unit) := path_walk_n 1099511627776 p_0
theorem path_walk_eq (n : Nat) (p_0 : List Int) : evFn path_walk_Γ tab path_walk_fi n [.val t23] [⟨t20, [false], none⟩] Tryz.f298 (p_0, ()) = path_walk_n n p_0 := by
  rw [path_walk_start, path_walk_XL1 n n]
  rfl
noncomputable def path_walk_e : Ent := ⟨[.val t23], [⟨t20, [false], none⟩], fun x => path_walk x.1⟩
theorem path_walk_good : Good tab.ty Tryz.prog 298 path_walk_e := by
  refine fn_good (Γ := path_walk_Γ) (fi := path_walk_fi) (n := 1099511627776) follows (gcons slices_Contains_int_good gnil) tabok Tryz.func298 (by kernel_rfl) (by kernel_rfl) (fun x r h => ?_)
  obtain ⟨p_0, _u⟩ := x
  exact (path_walk_eq 1099511627776 p_0).trans h
noncomputable def path_May_Γ : Ctx := [(298, path_walk_e)]
def path_May_fi : Fi := { keep := [], vty := [], vals := [], live := [(0, [0]), (1, [4]), (2, [2])] }
noncomputable def path_May (p_0 : List Int) : Option ((Bool × Unit) × Unit) :=
 Option.bind (path_walk p_0) fun (r1 : (IV × Unit) × Unit) =>
 some ((!(IV.is r1.1.1 303), ()), ())
theorem path_May_eq (p_0 : List Int) : evFn path_May_Γ tab path_May_fi 1 [.val t23] [⟨t4, [false], none⟩] Tryz.f234 (p_0, ()) = path_May p_0 := by kernel_rfl
noncomputable def path_May_e : Ent := ⟨[.val t23], [⟨t4, [false], none⟩], fun x => path_May x.1⟩
theorem path_May_good : Good tab.ty Tryz.prog 234 path_May_e := by
  refine fn_good (Γ := path_May_Γ) (fi := path_May_fi) (n := 1) follows (gcons path_walk_good gnil) tabok Tryz.func234 (by kernel_rfl) (by kernel_rfl) (fun x r h => ?_)
  obtain ⟨p_0, _u⟩ := x
  exact (path_May_eq p_0).trans h
noncomputable def slices_Equal_int_Γ : Ctx := []
def slices_Equal_int_fi : Fi := { keep := [], vty := [], vals := [], live := [(0, [0, 1]), (1, [0, 1, 10]), (2, [4]), (3, [0, 1, 12, 13]), (4, [0, 1, 12, 13, 14]), (5, [0, 1, 5, 12, 13]), (6, [0, 1, 12, 13, 24]), (7, [4]), (8, [0, 1, 12, 13]), (9, [4])] }
noncomputable def slices_Equal_int_B1 (L1 : List Int → List Int → Int → Int → Option ((Bool × Unit) × Unit)) (v1 : List Int) (v2 : List Int) (v3 : Int) (v4 : Int) : Option ((Bool × Unit) × Unit) :=
 bif decide (v4 < v3) then
  bif decide (0 ≤ v4) && decide (v4 < (v1.length : Int)) then
   bif decide (0 ≤ v4) && decide (v4 < (v2.length : Int)) then
    bif (List.getD v1 v4.toNat 0) != (List.getD v2 v4.toNat 0) then
     some ((false, ()), ())
    else
     L1 v1 v2 v3 (IntKind.wrap .i64 (v4 + 1))
   else none
  else none
 else
  some ((true, ()), ())
noncomputable def slices_Equal_int_T (L1 : List Int → List Int → Int → Int → Option ((Bool × Unit) × Unit)) (s1_0 : List Int) (s2_1 : List Int) : Option ((Bool × Unit) × Unit) :=
 bif (s1_0.length : Int) != (s2_1.length : Int) then
  some ((false, ()), ())
 else
  L1 s1_0 s2_1 (s1_0.length : Int) 0
noncomputable def slices_Equal_int_L1 (n : Nat) : Nat → List Int → List Int → Int → Int → Option ((Bool × Unit) × Unit) := iter (fun _ _ _ _ => none) fun L => slices_Equal_int_B1 L
noncomputable def slices_Equal_int_X1 (n m : Nat) (v1 : List Int) (v2 : List Int) (v3 : Int) (v4 : Int) : Option ((Bool × Unit) × Unit) :=
 atLoop slices_Equal_int_Γ tab (fiB [.val t23, .val t23] slices_Equal_int_fi) n [.val t23, .val t23] [⟨t4, [false], none⟩] Tryz.f114 [1, 1, 0, 1, 0] [] [0, 1, 12, 13] m
 ⟨[(0, SV.cv (CV.one (LV.pure t23 v1))), (1, SV.cv (CV.one (LV.pure t23 v2))), (12, SV.cv (CV.one (LV.pure t2 v3))), (13, SV.cv (CV.one (LV.pure t2 v4)))],
  []⟩
theorem slices_Equal_int_step1 (n m : Nat) (v1 : List Int) (v2 : List Int) (v3 : Int) (v4 : Int) : slices_Equal_int_X1 n (m + 1) v1 v2 v3 v4 = slices_Equal_int_B1 (slices_Equal_int_X1 n m) v1 v2 v3 v4 := by kernel_rfl
theorem slices_Equal_int_start (n : Nat) (s1_0 : List Int) (s2_1 : List Int) : evFn slices_Equal_int_Γ tab slices_Equal_int_fi n [.val t23, .val t23] [⟨t4, [false], none⟩] Tryz.f114 (s1_0, s2_1, ()) = slices_Equal_int_T (slices_Equal_int_X1 n n) s1_0 s2_1 := by kernel_rfl
theorem slices_Equal_int_XL1 (n : Nat) : ∀ m, slices_Equal_int_X1 n m = slices_Equal_int_L1 n m
 | 0 => rfl
 | m + 1 => by
  have ih := slices_Equal_int_XL1 n m
  funext v1 v2 v3 v4
  rw [slices_Equal_int_step1, ih]
  rfl
noncomputable def slices_Equal_int_n (n : Nat) (s1_0 : List Int) (s2_1 : List Int) : Option ((Bool × Unit) × Unit) := slices_Equal_int_T (slices_Equal_int_L1 n n) s1_0 s2_1
noncomputable def slices_Equal_int (s1_0 : List Int) (s2_1 : List Int) : Option ((Bool × Unit) × Unit) := slices_Equal_int_n 1099511627776 s1_0 s2_1
theorem slices_Equal_int_eq (n : Nat) (s1_0 : List Int) (s2_1 : List Int) : evFn slices_Equal_int_Γ tab slices_Equal_int_fi n [.val t23, .val t23] [⟨t4, [false], none⟩] Tryz.f114 (s1_0, s2_1, ()) = slices_Equal_int_n n s1_0 s2_1 := by
  rw [slices_Equal_int_start, slices_Equal_int_XL1 n n]
  rfl
noncomputable def slices_Equal_int_e : Ent := ⟨[.val t23, .val t23], [⟨t4, [false], none⟩], fun x => slices_Equal_int x.1 x.2.1⟩
theorem slices_Equal_int_good : Good tab.ty Tryz.prog 114 slices_Equal_int_e := by
  refine fn_good (Γ := slices_Equal_int_Γ) (fi := slices_Equal_int_fi) (n := 1099511627776) follows gnil tabok Tryz.func114 (by kernel_rfl) (by kernel_rfl) (fun x r h => ?_)
  obtain ⟨s1_0, s2_1, _u⟩ := x
  exact (slices_Equal_int_eq 1099511627776 s1_0 s2_1).trans h
noncomputable def msg_Same_Γ : Ctx := [(114, slices_Equal_int_e)]
def msg_Same_fi : Fi := { keep := [], vty := [], vals := [], live := [(0, [2, 3, 11, 12, 13, 14, 15, 18, 19, 20, 21, 22, 25, 26, 27, 28, 29, 32, 33, 34, 35, 36, 39, 40, 41, 42, 43, 46, 47, 48, 49, 50, 53, 54, 55, 56, 57, 60, 61, 62, 63, 64, 67, 68, 69, 70, 71]), (1, [4])] }
noncomputable def msg_Same (a_0 : Int × Int × Int × Int × Int × Int × (List Int) × Int × Int × ByteArray) (b_1 : Int × Int × Int × Int × Int × Int × (List Int) × Int × Int × ByteArray) : Option ((Bool × Unit) × Unit) :=
 bif a_0.1 == b_1.1 then
  bif a_0.2.1 == b_1.2.1 then
   bif a_0.2.2.1 == b_1.2.2.1 then
    bif a_0.2.2.2.1 == b_1.2.2.2.1 then
     bif a_0.2.2.2.2.1 == b_1.2.2.2.2.1 then
      bif a_0.2.2.2.2.2.1 == b_1.2.2.2.2.2.1 then
       Option.bind (slices_Equal_int a_0.2.2.2.2.2.2.1 b_1.2.2.2.2.2.2.1) fun (r1 : (Bool × Unit) × Unit) =>
       bif r1.1.1 then
        bif a_0.2.2.2.2.2.2.2.1 == b_1.2.2.2.2.2.2.2.1 then
         bif a_0.2.2.2.2.2.2.2.2.1 == b_1.2.2.2.2.2.2.2.2.1 then
          some ((strEq a_0.2.2.2.2.2.2.2.2.2 b_1.2.2.2.2.2.2.2.2.2, ()), ())
         else
          some ((false, ()), ())
        else
         some ((false, ()), ())
       else
        some ((false, ()), ())
      else
       some ((false, ()), ())
     else
      some ((false, ()), ())
    else
     some ((false, ()), ())
   else
    some ((false, ()), ())
  else
   some ((false, ()), ())
 else
  some ((false, ()), ())
theorem msg_Same_eq (a_0 : Int × Int × Int × Int × Int × Int × (List Int) × Int × Int × ByteArray) (b_1 : Int × Int × Int × Int × Int × Int × (List Int) × Int × Int × ByteArray) : evFn msg_Same_Γ tab msg_Same_fi 1 [.val t40, .val t40] [⟨t4, [false], none⟩] Tryz.f304 (a_0, b_1, ()) = msg_Same a_0 b_1 := by kernel_rfl
noncomputable def msg_Same_e : Ent := ⟨[.val t40, .val t40], [⟨t4, [false], none⟩], fun x => msg_Same x.1 x.2.1⟩
theorem msg_Same_good : Good tab.ty Tryz.prog 304 msg_Same_e := by
  refine fn_good (Γ := msg_Same_Γ) (fi := msg_Same_fi) (n := 1) follows (gcons slices_Equal_int_good gnil) tabok Tryz.func304 (by kernel_rfl) (by kernel_rfl) (fun x r h => ?_)
  obtain ⟨a_0, b_1, _u⟩ := x
  exact (msg_Same_eq a_0 b_1).trans h
noncomputable def msg_fields_Γ : Ctx := [(234, path_May_e), (243, msg_from_e), (303, msg_bare_e), (304, msg_Same_e)]
def msg_fields_fi : Fi := { keep := [], vty := [], vals := [], live := [(0, [1, 36, 37, 38, 41, 42, 43, 44, 45, 46, 49, 50, 51, 66, 67, 68, 69, 72, 73, 74, 91, 92, 93, 94, 95, 96, 99, 100, 101]), (1, [1, 3, 36, 37, 38, 41, 42, 43, 44, 45, 46, 49, 50, 51, 66, 67, 68, 69, 72, 73, 74, 91, 92, 93, 94, 95, 96, 99, 100, 101]), (2, [1, 3, 7, 36, 37, 38, 41, 42, 43, 44, 45, 46, 49, 50, 51, 66, 67, 68, 69, 72, 73, 74, 91, 92, 93, 94, 95, 96, 99, 100, 101]), (3, [1, 3, 7, 8, 36, 37, 38, 41, 42, 43, 44, 45, 46, 49, 50, 51, 66, 67, 68, 69, 72, 73, 74, 91, 92, 93, 94, 95, 96, 99, 100, 101]), (4, [1, 3, 7, 8, 36, 37, 38, 41, 42, 43, 44, 45, 46, 49, 50, 51, 66, 67, 68, 69, 72, 73, 74, 91, 92, 93, 94, 95, 96, 99, 100, 101]), (5, [1, 3, 36, 37, 38, 41, 42, 43, 44, 45, 46, 49, 50, 51]), (6, [1, 3, 22, 36, 37, 38, 41, 42, 43, 44, 45, 46, 49, 50, 51]), (7, [1, 3, 36, 37, 38, 41, 42, 43, 44, 45, 46, 49, 50, 51]), (8, [1, 3, 36, 37, 38, 41, 42, 43, 44, 45, 46, 49, 50, 51]), (9, [2]), (10, [1, 3, 7, 53, 66, 67, 68, 69, 72, 73, 74, 91, 92, 93, 94, 95, 96, 99, 100, 101]), (11, [1, 3, 66, 67, 68, 69, 72, 73, 74]), (12, [2]), (13, [1, 3, 7, 76, 91, 92, 93, 94, 95, 96, 99, 100, 101]), (14, [1, 3, 76, 91, 92, 93, 94, 95, 96, 99, 100, 101]), (15, [1, 3, 91, 92, 93, 94, 95, 96, 99, 100, 101]), (16, [2]), (17, [2])] }
noncomputable def msg_fields_x (x : PDs [.val t40]) : Option (RDs [⟨t4, [false], none⟩] × ODs [.val t40]) := evFn msg_fields_Γ tab msg_fields_fi 1099511627776 [.val t40] [⟨t4, [false], none⟩] Tryz.f244 x
noncomputable def msg_fields (x0 : Int × Int × Int × Int × Int × Int × (List Int) × Int × Int × ByteArray) : Option ((Bool × Unit) × Unit) := msg_fields_x (x0, ())
noncomputable def msg_fields_e : Ent := ⟨[.val t40], [⟨t4, [false], none⟩], fun x => msg_fields x.1⟩
theorem msg_fields_good : Good tab.ty Tryz.prog 244 msg_fields_e := by
  refine fn_good (Γ := msg_fields_Γ) (fi := msg_fields_fi) (n := 1099511627776) follows (gcons path_May_good (gcons msg_from_good (gcons msg_bare_good (gcons msg_Same_good gnil)))) tabok Tryz.func244 (by kernel_rfl) (by kernel_rfl) (fun x r h => ?_)
  obtain ⟨x0, _u⟩ := x
  exact h
noncomputable def msg_May_Γ : Ctx := [(243, msg_from_e), (244, msg_fields_e)]
def msg_May_fi : Fi := { keep := [], vty := [], vals := [], live := [(0, [1, 8, 9, 10, 11, 12, 13, 16, 17, 18, 19, 20, 23, 24, 25, 26, 29, 30]), (1, [2])] }
noncomputable def msg_May (m_0 : Int × Int × Int × Int × Int × Int × (List Int) × Int × Int × ByteArray) : Option ((Bool × Unit) × Unit) :=
 Option.bind (msg_from 1 9 [m_0.1]) fun (r1 : (Bool × Unit) × Unit) =>
 bif r1.1.1 then
  Option.bind (msg_from 1 8 [m_0.2.1, m_0.2.2.1]) fun (r2 : (Bool × Unit) × Unit) =>
  bif r2.1.1 then
   bif m_0.2.1 != m_0.2.2.1 then
    Option.bind (msg_from 1 1073741824 [m_0.2.2.2.1]) fun (r3 : (Bool × Unit) × Unit) =>
    bif r3.1.1 then
     Option.bind (msg_fields m_0) fun (r4 : (Bool × Unit) × Unit) =>
     some ((r4.1.1, ()), ())
    else
     some ((false, ()), ())
   else
    some ((false, ()), ())
  else
   some ((false, ()), ())
 else
  some ((false, ()), ())
theorem msg_May_eq (m_0 : Int × Int × Int × Int × Int × Int × (List Int) × Int × Int × ByteArray) : evFn msg_May_Γ tab msg_May_fi 1 [.val t40] [⟨t4, [false], none⟩] Tryz.f172 (m_0, ()) = msg_May m_0 := by kernel_rfl
noncomputable def msg_May_e : Ent := ⟨[.val t40], [⟨t4, [false], none⟩], fun x => msg_May x.1⟩
theorem msg_May_good : Good tab.ty Tryz.prog 172 msg_May_e := by
  refine fn_good (Γ := msg_May_Γ) (fi := msg_May_fi) (n := 1) follows (gcons msg_from_good (gcons msg_fields_good gnil)) tabok Tryz.func172 (by kernel_rfl) (by kernel_rfl) (fun x r h => ?_)
  obtain ⟨m_0, _u⟩ := x
  exact (msg_May_eq m_0).trans h
noncomputable def slices_Clone_byte (s : List Int) : Option (((List Int) × Unit) × Unit) := bif Nat.ble s.length 1073741824 then some ((s, ()), ()) else none
theorem slices_Clone_byte_raw (s : List Int) : evFn [] tab (fiOf Tryz.f245 []) 1 [.val t43] [⟨t43, [true], none⟩] Tryz.f245 (s, ()) = bif !(List.isEmpty s) then bif Nat.ble (0 + s.length) 1073741824 then some (([] ++ s, ()), ()) else none
 else bothEq (some (([], ()), ())) (bif Nat.ble (0 + s.length) 1073741824 then some (([] ++ s, ()), ()) else none) := by kernel_rfl
theorem slices_Clone_byte_eq (s : List Int) : evFn [] tab (fiOf Tryz.f245 []) 1 [.val t43] [⟨t43, [true], none⟩] Tryz.f245 (s, ()) = slices_Clone_byte s := by
  rw [slices_Clone_byte_raw]
  cases s with
  | nil => exact bothEq_same _
  | cons x q => rw [Nat.zero_add]; rfl
noncomputable def slices_Clone_byte_e : Ent := ⟨[.val t43], [⟨t43, [true], none⟩], fun x => slices_Clone_byte x.1⟩
theorem slices_Clone_byte_good : Good tab.ty Tryz.prog 245 slices_Clone_byte_e := by
  refine fn_good (Γ := []) (fi := fiOf Tryz.f245 []) (n := 1) follows gnil tabok Tryz.func245 (by kernel_rfl) (by kernel_rfl) (fun x r h => ?_)
  obtain ⟨s, _u⟩ := x
  exact (slices_Clone_byte_eq s).trans h
noncomputable def bits_Put_Γ : Ctx := [(245, slices_Clone_byte_e)]
def bits_Put_fi : Fi := { keep := [], vty := [], vals := [], live := [(0, [0, 1]), (1, [0, 1]), (2, [0, 5]), (3, [0, 5, 11]), (4, [0, 5]), (5, [0, 5]), (6, [4])] }
noncomputable def bits_Put_B1 (L1 : Int → List Int → Option (((List Int) × Unit) × Unit)) (v2 : Int) (v3 : List Int) : Option (((List Int) × Unit) × Unit) :=
 bif decide (v2 ≥ 128) then
  bif Nat.ble (v3.length + 1) 1073741824 then
   L1 (Int.fdiv v2 (2 ^ 7)) (v3 ++ [IntKind.wrap .u8 ((BitVec.ofInt 8 (IntKind.wrap .u8 v2) ||| BitVec.ofInt 8 128).toNat)])
  else none
 else
 bif Nat.ble (v3.length + 1) 1073741824 then
  some ((v3 ++ [IntKind.wrap .u8 v2], ()), ())
 else none
noncomputable def bits_Put_T (L1 : Int → List Int → Option (((List Int) × Unit) × Unit)) (b_0 : List Int) (v_1 : Int) : Option (((List Int) × Unit) × Unit) :=
 Option.bind (slices_Clone_byte b_0) fun (r1 : ((List Int) × Unit) × Unit) =>
 L1 (IntKind.wrap .u64 v_1) r1.1.1
noncomputable def bits_Put_L1 (n : Nat) : Nat → Int → List Int → Option (((List Int) × Unit) × Unit) := iter (fun _ _ => none) fun L => bits_Put_B1 L
noncomputable def bits_Put_X1 (n m : Nat) (v2 : Int) (v3 : List Int) : Option (((List Int) × Unit) × Unit) :=
 atLoop bits_Put_Γ tab (fiB [.val t43, .val t2] bits_Put_fi) n [.val t43, .val t2] [⟨t43, [true], none⟩] Tryz.f173 [1, 1, 1, 0, 0] [] [0, 5] m
 ⟨[(0, SV.cv (CV.one (LV.ref (888888, 0)))), (5, SV.cv (CV.one (LV.pure t12 v2)))],
  [((888888, 0), Ob.row 5 t5 v3)]⟩
theorem bits_Put_step1 (n m : Nat) (v2 : Int) (v3 : List Int) : bits_Put_X1 n (m + 1) v2 v3 = bits_Put_B1 (bits_Put_X1 n m) v2 v3 := by kernel_rfl
theorem bits_Put_start (n : Nat) (b_0 : List Int) (v_1 : Int) : evFn bits_Put_Γ tab bits_Put_fi n [.val t43, .val t2] [⟨t43, [true], none⟩] Tryz.f173 (b_0, v_1, ()) = bits_Put_T (bits_Put_X1 n n) b_0 v_1 := by kernel_rfl
theorem bits_Put_XL1 (n : Nat) : ∀ m, bits_Put_X1 n m = bits_Put_L1 n m
 | 0 => rfl
 | m + 1 => by
  have ih := bits_Put_XL1 n m
  funext v2 v3
  rw [bits_Put_step1, ih]
  rfl
noncomputable def bits_Put_n (n : Nat) (b_0 : List Int) (v_1 : Int) : Option (((List Int) × Unit) × Unit) := bits_Put_T (bits_Put_L1 n n) b_0 v_1
noncomputable def bits_Put (b_0 : List Int) (v_1 : Int) : Option (((List Int) × Unit) × Unit) := bits_Put_n 1099511627776 b_0 v_1
theorem bits_Put_eq (n : Nat) (b_0 : List Int) (v_1 : Int) : evFn bits_Put_Γ tab bits_Put_fi n [.val t43, .val t2] [⟨t43, [true], none⟩] Tryz.f173 (b_0, v_1, ()) = bits_Put_n n b_0 v_1 := by
  rw [bits_Put_start, bits_Put_XL1 n n]
  rfl
noncomputable def bits_Put_e : Ent := ⟨[.val t43, .val t2], [⟨t43, [true], none⟩], fun x => bits_Put x.1 x.2.1⟩
theorem bits_Put_good : Good tab.ty Tryz.prog 173 bits_Put_e := by
  refine fn_good (Γ := bits_Put_Γ) (fi := bits_Put_fi) (n := 1099511627776) follows (gcons slices_Clone_byte_good gnil) tabok Tryz.func173 (by kernel_rfl) (by kernel_rfl) (fun x r h => ?_)
  obtain ⟨b_0, v_1, _u⟩ := x
  exact (bits_Put_eq 1099511627776 b_0 v_1).trans h
noncomputable def bits_PutText_Γ : Ctx := [(173, bits_Put_e)]
def bits_PutText_fi : Fi := { keep := [], vty := [], vals := [], live := [(0, [0, 1]), (1, [4])] }
noncomputable def bits_PutText (b_0 : List Int) (s_1 : ByteArray) : Option (((List Int) × Unit) × Unit) :=
 Option.bind (bits_Put b_0 (s_1.size : Int)) fun (r1 : ((List Int) × Unit) × Unit) =>
 bif Nat.ble (r1.1.1.length + (s_1.data.toList.map fun b => (b.toNat : Int)).length) 1073741824 then
  some ((r1.1.1 ++ (s_1.data.toList.map fun b => (b.toNat : Int)), ()), ())
 else none
theorem bits_PutText_eq (b_0 : List Int) (s_1 : ByteArray) : evFn bits_PutText_Γ tab bits_PutText_fi 1 [.val t43, .val t9] [⟨t43, [true], none⟩] Tryz.f174 (b_0, s_1, ()) = bits_PutText b_0 s_1 := by kernel_rfl
noncomputable def bits_PutText_e : Ent := ⟨[.val t43, .val t9], [⟨t43, [true], none⟩], fun x => bits_PutText x.1 x.2.1⟩
theorem bits_PutText_good : Good tab.ty Tryz.prog 174 bits_PutText_e := by
  refine fn_good (Γ := bits_PutText_Γ) (fi := bits_PutText_fi) (n := 1) follows (gcons bits_Put_good gnil) tabok Tryz.func174 (by kernel_rfl) (by kernel_rfl) (fun x r h => ?_)
  obtain ⟨b_0, s_1, _u⟩ := x
  exact (bits_PutText_eq b_0 s_1).trans h
end Go.PE
