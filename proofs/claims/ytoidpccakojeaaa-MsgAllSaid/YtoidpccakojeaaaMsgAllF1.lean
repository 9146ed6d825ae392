/-
  Functions of the program, each as the evaluator answers it, and its contract.
  Conditions: none.
-/
import Derived.Test.YtoidpccakojeaaaMsgAllT
set_option linter.unusedVariables false
set_option maxRecDepth 100000
namespace Go.PE
open Go.Proofs

noncomputable def slices_IndexFunc_int_Γ : Ctx := []
def slices_IndexFunc_int_fi : Fi := { keep := [], vty := [], vals := [], live := [(0, [0, 1]), (1, [0, 1, 7, 8]), (2, [0, 1, 7, 8, 9]), (3, [0, 1, 5, 7, 8]), (4, [0, 1, 5, 7, 8, 16]), (5, [4]), (6, [0, 1, 7, 8]), (7, [4])] }
noncomputable def slices_IndexFunc_int_B1 (L1 : List Int → (Int × Unit → Option (Bool × Unit)) → Int → Int → Option ((Int × Unit) × Unit)) (v1 : List Int) (v2 : (Int × Unit → Option (Bool × Unit))) (v3 : Int) (v4 : Int) : Option ((Int × Unit) × Unit) :=
 bif decide (v4 < v3) then
  bif decide (0 ≤ v4) && decide (v4 < (v1.length : Int)) then
   Option.bind (v2 (List.getD v1 v4.toNat 0, ())) fun (r5 : Bool × Unit) =>
   bif r5.1 then
    some ((v4, ()), ())
   else
    L1 v1 v2 v3 (IntKind.wrap .i64 (v4 + 1))
  else none
 else
  some (((-1), ()), ())
noncomputable def slices_IndexFunc_int_T (L1 : List Int → (Int × Unit → Option (Bool × Unit)) → Int → Int → Option ((Int × Unit) × Unit)) (s_0 : List Int) (f_1 : (Int × Unit → Option (Bool × Unit))) : Option ((Int × Unit) × Unit) :=
 L1 s_0 f_1 (s_0.length : Int) 0
noncomputable def slices_IndexFunc_int_L1 (n : Nat) : Nat → List Int → (Int × Unit → Option (Bool × Unit)) → Int → Int → Option ((Int × Unit) × Unit) := iter (fun _ _ _ _ => none) fun L => slices_IndexFunc_int_B1 L
noncomputable def slices_IndexFunc_int_X1 (n m : Nat) (v1 : List Int) (v2 : (Int × Unit → Option (Bool × Unit))) (v3 : Int) (v4 : Int) : Option ((Int × Unit) × Unit) :=
 atLoop slices_IndexFunc_int_Γ tab (fiB [.val t33, .fn [t2] [t4]] slices_IndexFunc_int_fi) n [.val t33, .fn [t2] [t4]] [⟨t2, [false], none⟩] Try.f89 [1, 0, 1, 0] [] [0, 1, 7, 8] m
 ⟨[(0, SV.cv (CV.one (LV.pure t33 v1))), (1, SV.cv (CV.one (LV.clo [t2] [t4] v2))), (7, SV.cv (CV.one (LV.pure t2 v3))), (8, SV.cv (CV.one (LV.pure t2 v4)))],
  []⟩
theorem slices_IndexFunc_int_step1 (n m : Nat) (v1 : List Int) (v2 : (Int × Unit → Option (Bool × Unit))) (v3 : Int) (v4 : Int) : slices_IndexFunc_int_X1 n (m + 1) v1 v2 v3 v4 = slices_IndexFunc_int_B1 (slices_IndexFunc_int_X1 n m) v1 v2 v3 v4 := by kernel_rfl
theorem slices_IndexFunc_int_start (n : Nat) (s_0 : List Int) (f_1 : (Int × Unit → Option (Bool × Unit))) : evFn slices_IndexFunc_int_Γ tab slices_IndexFunc_int_fi n [.val t33, .fn [t2] [t4]] [⟨t2, [false], none⟩] Try.f89 (s_0, f_1, ()) = slices_IndexFunc_int_T (slices_IndexFunc_int_X1 n n) s_0 f_1 := by kernel_rfl
theorem slices_IndexFunc_int_XL1 (n : Nat) : ∀ m, slices_IndexFunc_int_X1 n m = slices_IndexFunc_int_L1 n m
 | 0 => rfl
 | m + 1 => by
  have ih := slices_IndexFunc_int_XL1 n m
  funext v1 v2 v3 v4
  rw [slices_IndexFunc_int_step1, ih]
  rfl
noncomputable def slices_IndexFunc_int_n (n : Nat) (s_0 : List Int) (f_1 : (Int × Unit → Option (Bool × Unit))) : Option ((Int × Unit) × Unit) := slices_IndexFunc_int_T (slices_IndexFunc_int_L1 n n) s_0 f_1
noncomputable def slices_IndexFunc_int (s_0 : List Int) (f_1 : (Int × Unit → Option (Bool × Unit))) : Option ((Int × Unit) × Unit) := slices_IndexFunc_int_n 1099511627776 s_0 f_1
theorem slices_IndexFunc_int_eq (n : Nat) (s_0 : List Int) (f_1 : (Int × Unit → Option (Bool × Unit))) : evFn slices_IndexFunc_int_Γ tab slices_IndexFunc_int_fi n [.val t33, .fn [t2] [t4]] [⟨t2, [false], none⟩] Try.f89 (s_0, f_1, ()) = slices_IndexFunc_int_n n s_0 f_1 := by
  rw [slices_IndexFunc_int_start, slices_IndexFunc_int_XL1 n n]
  rfl
noncomputable def slices_IndexFunc_int_e : Ent := ⟨[.val t33, .fn [t2] [t4]], [⟨t2, [false], none⟩], fun x => slices_IndexFunc_int x.1 x.2.1⟩
theorem slices_IndexFunc_int_good : Good tab.ty Try.prog 89 slices_IndexFunc_int_e := by
  refine fn_good (Γ := slices_IndexFunc_int_Γ) (fi := slices_IndexFunc_int_fi) (n := 1099511627776) follows gnil tabok Try.func89 (by kernel_rfl) (by kernel_rfl) (fun x r h => ?_)
  obtain ⟨s_0, f_1, _u⟩ := x
  exact (slices_IndexFunc_int_eq 1099511627776 s_0 f_1).trans h
noncomputable def slices_ContainsFunc_int_Γ : Ctx := [(89, slices_IndexFunc_int_e)]
def slices_ContainsFunc_int_fi : Fi := { keep := [], vty := [], vals := [], live := [(0, [0, 1]), (1, [4])] }
noncomputable def slices_ContainsFunc_int (s_0 : List Int) (f_1 : (Int × Unit → Option (Bool × Unit))) : Option ((Bool × Unit) × Unit) :=
 Option.bind (slices_IndexFunc_int s_0 f_1) fun (r1 : (Int × Unit) × Unit) =>
 some ((decide (r1.1.1 ≥ 0), ()), ())
theorem slices_ContainsFunc_int_eq (s_0 : List Int) (f_1 : (Int × Unit → Option (Bool × Unit))) : evFn slices_ContainsFunc_int_Γ tab slices_ContainsFunc_int_fi 1 [.val t33, .fn [t2] [t4]] [⟨t4, [false], none⟩] Try.f74 (s_0, f_1, ()) = slices_ContainsFunc_int s_0 f_1 := by kernel_rfl
noncomputable def slices_ContainsFunc_int_e : Ent := ⟨[.val t33, .fn [t2] [t4]], [⟨t4, [false], none⟩], fun x => slices_ContainsFunc_int x.1 x.2.1⟩
theorem slices_ContainsFunc_int_good : Good tab.ty Try.prog 74 slices_ContainsFunc_int_e := by
  refine fn_good (Γ := slices_ContainsFunc_int_Γ) (fi := slices_ContainsFunc_int_fi) (n := 1) follows (gcons slices_IndexFunc_int_good gnil) tabok Try.func74 (by kernel_rfl) (by kernel_rfl) (fun x r h => ?_)
  obtain ⟨s_0, f_1, _u⟩ := x
  exact (slices_ContainsFunc_int_eq s_0 f_1).trans h
noncomputable def msg_from_fn1_Γ : Ctx := []
def msg_from_fn1_fi : Fi := { keep := [], vty := [], vals := [], live := [(0, [0, 1, 2, 9, 10, 11]), (1, [4])] }
noncomputable def msg_from_fn1 (v_0 : Int) (x_1 : Int) (x_2 : Int) : Option ((Bool × Unit) × Unit) :=
 bif decide (v_0 < x_1) then
  some ((true, ()), ())
 else
  some ((decide (v_0 > x_2), ()), ())
theorem msg_from_fn1_eq (v_0 : Int) (x_1 : Int) (x_2 : Int) : evFn msg_from_fn1_Γ tab msg_from_fn1_fi 1 [.val t2, .rbox t2, .rbox t2] [⟨t4, [false], none⟩] Try.f75 (v_0, x_1, x_2, ()) = msg_from_fn1 v_0 x_1 x_2 := by kernel_rfl
noncomputable def msg_from_fn1_e : Ent := ⟨[.val t2, .rbox t2, .rbox t2], [⟨t4, [false], none⟩], fun x => msg_from_fn1 x.1 x.2.1 x.2.2.1⟩
theorem msg_from_fn1_good : Good tab.ty Try.prog 75 msg_from_fn1_e := by
  refine fn_good (Γ := msg_from_fn1_Γ) (fi := msg_from_fn1_fi) (n := 1) follows gnil tabok Try.func75 (by kernel_rfl) (by kernel_rfl) (fun x r h => ?_)
  obtain ⟨v_0, x_1, x_2, _u⟩ := x
  exact (msg_from_fn1_eq v_0 x_1 x_2).trans h
noncomputable def msg_from_Γ : Ctx := [(74, slices_ContainsFunc_int_e), (75, msg_from_fn1_e)]
def msg_from_fi : Fi := { keep := [], vty := [], vals := [], live := [(0, [2, 3, 4]), (1, [6])] }
noncomputable def msg_from (lo_0 : Int) (hi_1 : Int) (l_2 : List Int) : Option ((Bool × Unit) × Unit) :=
 Option.bind (slices_ContainsFunc_int l_2 (fun x => (msg_from_fn1 x.1 lo_0 hi_1).bind fun r => some (r.1.1, ()))) fun (r1 : (Bool × Unit) × Unit) =>
 some ((!r1.1.1, ()), ())
theorem msg_from_eq (lo_0 : Int) (hi_1 : Int) (l_2 : List Int) : evFn msg_from_Γ tab msg_from_fi 1 [.val t2, .val t2, .val t33] [⟨t4, [false], none⟩] Try.f57 (lo_0, hi_1, l_2, ()) = msg_from lo_0 hi_1 l_2 := by kernel_rfl
noncomputable def msg_from_e : Ent := ⟨[.val t2, .val t2, .val t33], [⟨t4, [false], none⟩], fun x => msg_from x.1 x.2.1 x.2.2.1⟩
theorem msg_from_good : Good tab.ty Try.prog 57 msg_from_e := by
  refine fn_good (Γ := msg_from_Γ) (fi := msg_from_fi) (n := 1) follows (gcons slices_ContainsFunc_int_good (gcons msg_from_fn1_good gnil)) tabok Try.func57 (by kernel_rfl) (by kernel_rfl) (fun x r h => ?_)
  obtain ⟨lo_0, hi_1, l_2, _u⟩ := x
  exact (msg_from_eq lo_0 hi_1 l_2).trans h
noncomputable def msg_bare_Γ : Ctx := []
def msg_bare_fi : Fi := { keep := [], vty := [], vals := [], live := [(0, [1, 2]), (1, [2])] }
noncomputable def msg_bare (m_0 : Int × Int × Int × Int × Int × Int × (List Int) × Int × Int × ByteArray) : Option (((Int × Int × Int × Int × Int × Int × (List Int) × Int × Int × ByteArray) × Unit) × Unit) :=
 some (((m_0.1, m_0.2.1, m_0.2.2.1, m_0.2.2.2.1, 0, 0, [], 0, 0, (⟨#[]⟩ : ByteArray)), ()), ())
theorem msg_bare_eq (m_0 : Int × Int × Int × Int × Int × Int × (List Int) × Int × Int × ByteArray) : evFn msg_bare_Γ tab msg_bare_fi 1 [.val t58] [⟨t58, [false, false, false, false, false, false, true, false, false, false], none⟩] Try.f76 (m_0, ()) = msg_bare m_0 := by kernel_rfl
noncomputable def msg_bare_e : Ent := ⟨[.val t58], [⟨t58, [false, false, false, false, false, false, true, false, false, false], none⟩], fun x => msg_bare x.1⟩
theorem msg_bare_good : Good tab.ty Try.prog 76 msg_bare_e := by
  refine fn_good (Γ := msg_bare_Γ) (fi := msg_bare_fi) (n := 1) follows gnil tabok Try.func76 (by kernel_rfl) (by kernel_rfl) (fun x r h => ?_)
  obtain ⟨m_0, _u⟩ := x
  exact (msg_bare_eq m_0).trans h
noncomputable def slices_Index_int_Γ : Ctx := []
def slices_Index_int_fi : Fi := { keep := [], vty := [], vals := [], live := [(0, [0, 1]), (1, [0, 1, 7, 8]), (2, [0, 1, 7, 8, 9]), (3, [0, 1, 5, 7, 8]), (4, [0, 1, 5, 7, 8, 16]), (5, [4]), (6, [0, 1, 7, 8]), (7, [4])] }
noncomputable def slices_Index_int_B1 (L1 : List Int → Int → Int → Int → Option ((Int × Unit) × Unit)) (v1 : List Int) (v2 : Int) (v3 : Int) (v4 : Int) : Option ((Int × Unit) × Unit) :=
 bif decide (v4 < v3) then
  bif decide (0 ≤ v4) && decide (v4 < (v1.length : Int)) then
   bif v2 == (List.getD v1 v4.toNat 0) then
    some ((v4, ()), ())
   else
    L1 v1 v2 v3 (IntKind.wrap .i64 (v4 + 1))
  else none
 else
  some (((-1), ()), ())
noncomputable def slices_Index_int_T (L1 : List Int → Int → Int → Int → Option ((Int × Unit) × Unit)) (s_0 : List Int) (v_1 : Int) : Option ((Int × Unit) × Unit) :=
 L1 s_0 v_1 (s_0.length : Int) 0
noncomputable def slices_Index_int_L1 (n : Nat) : Nat → List Int → Int → Int → Int → Option ((Int × Unit) × Unit) := iter (fun _ _ _ _ => none) fun L => slices_Index_int_B1 L
noncomputable def slices_Index_int_X1 (n m : Nat) (v1 : List Int) (v2 : Int) (v3 : Int) (v4 : Int) : Option ((Int × Unit) × Unit) :=
 atLoop slices_Index_int_Γ tab (fiB [.val t33, .val t2] slices_Index_int_fi) n [.val t33, .val t2] [⟨t2, [false], none⟩] Try.f101 [1, 0, 1, 0] [] [0, 1, 7, 8] m
 ⟨[(0, SV.cv (CV.one (LV.pure t33 v1))), (1, SV.cv (CV.one (LV.pure t2 v2))), (7, SV.cv (CV.one (LV.pure t2 v3))), (8, SV.cv (CV.one (LV.pure t2 v4)))],
  []⟩
theorem slices_Index_int_step1 (n m : Nat) (v1 : List Int) (v2 : Int) (v3 : Int) (v4 : Int) : slices_Index_int_X1 n (m + 1) v1 v2 v3 v4 = slices_Index_int_B1 (slices_Index_int_X1 n m) v1 v2 v3 v4 := by kernel_rfl
theorem slices_Index_int_start (n : Nat) (s_0 : List Int) (v_1 : Int) : evFn slices_Index_int_Γ tab slices_Index_int_fi n [.val t33, .val t2] [⟨t2, [false], none⟩] Try.f101 (s_0, v_1, ()) = slices_Index_int_T (slices_Index_int_X1 n n) s_0 v_1 := by kernel_rfl
theorem slices_Index_int_XL1 (n : Nat) : ∀ m, slices_Index_int_X1 n m = slices_Index_int_L1 n m
 | 0 => rfl
 | m + 1 => by
  have ih := slices_Index_int_XL1 n m
  funext v1 v2 v3 v4
  rw [slices_Index_int_step1, ih]
  rfl
noncomputable def slices_Index_int_n (n : Nat) (s_0 : List Int) (v_1 : Int) : Option ((Int × Unit) × Unit) := slices_Index_int_T (slices_Index_int_L1 n n) s_0 v_1
noncomputable def slices_Index_int (s_0 : List Int) (v_1 : Int) : Option ((Int × Unit) × Unit) := slices_Index_int_n 1099511627776 s_0 v_1
theorem slices_Index_int_eq (n : Nat) (s_0 : List Int) (v_1 : Int) : evFn slices_Index_int_Γ tab slices_Index_int_fi n [.val t33, .val t2] [⟨t2, [false], none⟩] Try.f101 (s_0, v_1, ()) = slices_Index_int_n n s_0 v_1 := by
  rw [slices_Index_int_start, slices_Index_int_XL1 n n]
  rfl
noncomputable def slices_Index_int_e : Ent := ⟨[.val t33, .val t2], [⟨t2, [false], none⟩], fun x => slices_Index_int x.1 x.2.1⟩
theorem slices_Index_int_good : Good tab.ty Try.prog 101 slices_Index_int_e := by
  refine fn_good (Γ := slices_Index_int_Γ) (fi := slices_Index_int_fi) (n := 1099511627776) follows gnil tabok Try.func101 (by kernel_rfl) (by kernel_rfl) (fun x r h => ?_)
  obtain ⟨s_0, v_1, _u⟩ := x
  exact (slices_Index_int_eq 1099511627776 s_0 v_1).trans h
noncomputable def slices_Contains_int_Γ : Ctx := [(101, slices_Index_int_e)]
def slices_Contains_int_fi : Fi := { keep := [], vty := [], vals := [], live := [(0, [0, 1]), (1, [4])] }
noncomputable def slices_Contains_int (s_0 : List Int) (v_1 : Int) : Option ((Bool × Unit) × Unit) :=
 Option.bind (slices_Index_int s_0 v_1) fun (r1 : (Int × Unit) × Unit) =>
 some ((decide (r1.1.1 ≥ 0), ()), ())
theorem slices_Contains_int_eq (s_0 : List Int) (v_1 : Int) : evFn slices_Contains_int_Γ tab slices_Contains_int_fi 1 [.val t33, .val t2] [⟨t4, [false], none⟩] Try.f97 (s_0, v_1, ()) = slices_Contains_int s_0 v_1 := by kernel_rfl
noncomputable def slices_Contains_int_e : Ent := ⟨[.val t33, .val t2], [⟨t4, [false], none⟩], fun x => slices_Contains_int x.1 x.2.1⟩
theorem slices_Contains_int_good : Good tab.ty Try.prog 97 slices_Contains_int_e := by
  refine fn_good (Γ := slices_Contains_int_Γ) (fi := slices_Contains_int_fi) (n := 1) follows (gcons slices_Index_int_good gnil) tabok Try.func97 (by kernel_rfl) (by kernel_rfl) (fun x r h => ?_)
  obtain ⟨s_0, v_1, _u⟩ := x
  exact (slices_Contains_int_eq s_0 v_1).trans h
noncomputable def path_walk_Γ : Ctx := [(97, slices_Contains_int_e)]
def path_walk_fi : Fi := { keep := [], vty := [], vals := [], live := [(0, [0, 9, 10, 11, 14, 15, 16, 17, 31, 32, 35, 36, 37, 38, 39]), (1, [0, 18, 31, 32, 35, 36, 37, 38, 39]), (2, [2]), (3, [0, 21, 22, 23, 31, 32, 35, 36, 37, 38, 39]), (4, [0, 21, 22, 23, 24, 31, 32, 35, 36, 37, 38, 39]), (5, [0, 3, 4, 21, 22, 23, 31, 32, 35, 36, 37, 38, 39]), (6, [0, 3, 21, 22, 23, 31, 32, 35, 36, 37, 38, 39, 40]), (7, [2]), (8, [0, 21, 22, 23, 31, 32, 35, 36, 37, 38, 39]), (9, [2])] }
noncomputable def path_walk_B1 (L1 : List Int → List Int → Int → Int → Option ((IV × Unit) × Unit)) (v1 : List Int) (v2 : List Int) (v3 : Int) (v4 : Int) : Option ((IV × Unit) × Unit) :=
 bif decide (v4 < v3) then
  bif decide (0 ≤ v4) && decide (v4 < (v2.length : Int)) then
   bif decide (List.getD v2 v4.toNat 0 < 1) then
    some ((IV.mk 150 [.int .i64 v4], ()), ())
   else
   bif decide (List.getD v2 v4.toNat 0 > 8) then
    some ((IV.mk 150 [.int .i64 v4], ()), ())
   else
   bif decide (0 ≤ v4) && decide (v4 ≤ (v1.length : Int)) then
    Option.bind (slices_Contains_int (List.drop 0 (List.take v4.toNat v1)) (List.getD v2 v4.toNat 0)) fun (r5 : (Bool × Unit) × Unit) =>
    bif r5.1.1 then
     some ((IV.mk 150 [.int .i64 v4], ()), ())
    else
     L1 v1 v2 v3 (IntKind.wrap .i64 (v4 + 1))
   else none
  else none
 else
  some ((IV.nil, ()), ())
noncomputable def path_walk_T (L1 : List Int → List Int → Int → Int → Option ((IV × Unit) × Unit)) (p_0 : List Int) : Option ((IV × Unit) × Unit) :=
 bif decide ((p_0.length : Int) < 1) then
  some ((IV.mk 150 [.int .i64 0], ()), ())
 else
 bif decide ((p_0.length : Int) > 10) then
  some ((IV.mk 150 [.int .i64 0], ()), ())
 else
 bif decide (0 < (p_0.length : Int)) then
  bif (List.getD p_0 0 0) != 1 then
   some ((IV.mk 150 [.int .i64 0], ()), ())
  else
   L1 p_0 p_0 (p_0.length : Int) 0
 else none
noncomputable def path_walk_L1 (n : Nat) : Nat → List Int → List Int → Int → Int → Option ((IV × Unit) × Unit) := iter (fun _ _ _ _ => none) fun L => path_walk_B1 L
noncomputable def path_walk_X1 (n m : Nat) (v1 : List Int) (v2 : List Int) (v3 : Int) (v4 : Int) : Option ((IV × Unit) × Unit) :=
 atLoop path_walk_Γ tab (fiB [.val t33] path_walk_fi) n [.val t33] [⟨t20, [false], none⟩] Try.f90 [1, 1, 0, 1, 0] [] [0, 21, 22, 23] m
 ⟨[(0, SV.cv (CV.one (LV.pure t33 v1))), (21, SV.cv (CV.one (LV.pure t33 v2))), (22, SV.cv (CV.one (LV.pure t2 v3))), (23, SV.cv (CV.one (LV.pure t2 v4)))],
  []⟩
theorem path_walk_step1 (n m : Nat) (v1 : List Int) (v2 : List Int) (v3 : Int) (v4 : Int) : path_walk_X1 n (m + 1) v1 v2 v3 v4 = path_walk_B1 (path_walk_X1 n m) v1 v2 v3 v4 := by kernel_rfl
theorem path_walk_start (n : Nat) (p_0 : List Int) : evFn path_walk_Γ tab path_walk_fi n [.val t33] [⟨t20, [false], none⟩] Try.f90 (p_0, ()) = path_walk_T (path_walk_X1 n n) p_0 := by kernel_rfl
theorem path_walk_XL1 (n : Nat) : ∀ m, path_walk_X1 n m = path_walk_L1 n m
 | 0 => rfl
 | m + 1 => by
  have ih := path_walk_XL1 n m
  funext v1 v2 v3 v4
  rw [path_walk_step1, ih]
  rfl
noncomputable def path_walk_n (n : Nat) (p_0 : List Int) : Option ((IV × Unit) × Unit) := path_walk_T (path_walk_L1 n n) p_0
noncomputable def path_walk (p_0 : List Int) : Option ((IV × Unit) × Unit) := path_walk_n 1099511627776 p_0
theorem path_walk_eq (n : Nat) (p_0 : List Int) : evFn path_walk_Γ tab path_walk_fi n [.val t33] [⟨t20, [false], none⟩] Try.f90 (p_0, ()) = path_walk_n n p_0 := by
  rw [path_walk_start, path_walk_XL1 n n]
  rfl
noncomputable def path_walk_e : Ent := ⟨[.val t33], [⟨t20, [false], none⟩], fun x => path_walk x.1⟩
theorem path_walk_good : Good tab.ty Try.prog 90 path_walk_e := by
  refine fn_good (Γ := path_walk_Γ) (fi := path_walk_fi) (n := 1099511627776) follows (gcons slices_Contains_int_good gnil) tabok Try.func90 (by kernel_rfl) (by kernel_rfl) (fun x r h => ?_)
  obtain ⟨p_0, _u⟩ := x
  exact (path_walk_eq 1099511627776 p_0).trans h
noncomputable def path_May_Γ : Ctx := [(90, path_walk_e)]
def path_May_fi : Fi := { keep := [], vty := [], vals := [], live := [(0, [0]), (1, [4]), (2, [2])] }
noncomputable def path_May (p_0 : List Int) : Option ((Bool × Unit) × Unit) :=
 Option.bind (path_walk p_0) fun (r1 : (IV × Unit) × Unit) =>
 some ((!(IV.is r1.1.1 150), ()), ())
theorem path_May_eq (p_0 : List Int) : evFn path_May_Γ tab path_May_fi 1 [.val t33] [⟨t4, [false], none⟩] Try.f77 (p_0, ()) = path_May p_0 := by kernel_rfl
noncomputable def path_May_e : Ent := ⟨[.val t33], [⟨t4, [false], none⟩], fun x => path_May x.1⟩
theorem path_May_good : Good tab.ty Try.prog 77 path_May_e := by
  refine fn_good (Γ := path_May_Γ) (fi := path_May_fi) (n := 1) follows (gcons path_walk_good gnil) tabok Try.func77 (by kernel_rfl) (by kernel_rfl) (fun x r h => ?_)
  obtain ⟨p_0, _u⟩ := x
  exact (path_May_eq p_0).trans h
noncomputable def slices_Equal_int_Γ : Ctx := []
def slices_Equal_int_fi : Fi := { keep := [], vty := [], vals := [], live := [(0, [0, 1]), (1, [0, 1, 10]), (2, [4]), (3, [0, 1, 12, 13]), (4, [0, 1, 12, 13, 14]), (5, [0, 1, 5, 12, 13]), (6, [0, 1, 12, 13, 24]), (7, [4]), (8, [0, 1, 12, 13]), (9, [4])] }
noncomputable def slices_Equal_int_B1 (L1 : List Int → List Int → Int → Int → Option ((Bool × Unit) × Unit)) (v1 : List Int) (v2 : List Int) (v3 : Int) (v4 : Int) : Option ((Bool × Unit) × Unit) :=
 bif decide (v4 < v3) then
  bif decide (0 ≤ v4) && decide (v4 < (v1.length : Int)) then
   bif decide (0 ≤ v4) && decide (v4 < (v2.length : Int)) then
    bif (List.getD v1 v4.toNat 0) != (List.getD v2 v4.toNat 0) then
     some ((false, ()), ())
    else
     L1 v1 v2 v3 (IntKind.wrap .i64 (v4 + 1))
   else none
  else none
 else
  some ((true, ()), ())
noncomputable def slices_Equal_int_T (L1 : List Int → List Int → Int → Int → Option ((Bool × Unit) × Unit)) (s1_0 : List Int) (s2_1 : List Int) : Option ((Bool × Unit) × Unit) :=
 bif (s1_0.length : Int) != (s2_1.length : Int) then
  some ((false, ()), ())
 else
  L1 s1_0 s2_1 (s1_0.length : Int) 0
noncomputable def slices_Equal_int_L1 (n : Nat) : Nat → List Int → List Int → Int → Int → Option ((Bool × Unit) × Unit) := iter (fun _ _ _ _ => none) fun L => slices_Equal_int_B1 L
noncomputable def slices_Equal_int_X1 (n m : Nat) (v1 : List Int) (v2 : List Int) (v3 : Int) (v4 : Int) : Option ((Bool × Unit) × Unit) :=
 atLoop slices_Equal_int_Γ tab (fiB [.val t33, .val t33] slices_Equal_int_fi) n [.val t33, .val t33] [⟨t4, [false], none⟩] Try.f64 [1, 1, 0, 1, 0] [] [0, 1, 12, 13] m
 ⟨[(0, SV.cv (CV.one (LV.pure t33 v1))), (1, SV.cv (CV.one (LV.pure t33 v2))), (12, SV.cv (CV.one (LV.pure t2 v3))), (13, SV.cv (CV.one (LV.pure t2 v4)))],
  []⟩
theorem slices_Equal_int_step1 (n m : Nat) (v1 : List Int) (v2 : List Int) (v3 : Int) (v4 : Int) : slices_Equal_int_X1 n (m + 1) v1 v2 v3 v4 = slices_Equal_int_B1 (slices_Equal_int_X1 n m) v1 v2 v3 v4 := by kernel_rfl
theorem slices_Equal_int_start (n : Nat) (s1_0 : List Int) (s2_1 : List Int) : evFn slices_Equal_int_Γ tab slices_Equal_int_fi n [.val t33, .val t33] [⟨t4, [false], none⟩] Try.f64 (s1_0, s2_1, ()) = slices_Equal_int_T (slices_Equal_int_X1 n n) s1_0 s2_1 := by kernel_rfl
theorem slices_Equal_int_XL1 (n : Nat) : ∀ m, slices_Equal_int_X1 n m = slices_Equal_int_L1 n m
 | 0 => rfl
 | m + 1 => by
  have ih := slices_Equal_int_XL1 n m
  funext v1 v2 v3 v4
  rw [slices_Equal_int_step1, ih]
  rfl
noncomputable def slices_Equal_int_n (n : Nat) (s1_0 : List Int) (s2_1 : List Int) : Option ((Bool × Unit) × Unit) := slices_Equal_int_T (slices_Equal_int_L1 n n) s1_0 s2_1
noncomputable def slices_Equal_int (s1_0 : List Int) (s2_1 : List Int) : Option ((Bool × Unit) × Unit) := slices_Equal_int_n 1099511627776 s1_0 s2_1
theorem slices_Equal_int_eq (n : Nat) (s1_0 : List Int) (s2_1 : List Int) : evFn slices_Equal_int_Γ tab slices_Equal_int_fi n [.val t33, .val t33] [⟨t4, [false], none⟩] Try.f64 (s1_0, s2_1, ()) = slices_Equal_int_n n s1_0 s2_1 := by
  rw [slices_Equal_int_start, slices_Equal_int_XL1 n n]
  rfl
noncomputable def slices_Equal_int_e : Ent := ⟨[.val t33, .val t33], [⟨t4, [false], none⟩], fun x => slices_Equal_int x.1 x.2.1⟩
theorem slices_Equal_int_good : Good tab.ty Try.prog 64 slices_Equal_int_e := by
  refine fn_good (Γ := slices_Equal_int_Γ) (fi := slices_Equal_int_fi) (n := 1099511627776) follows gnil tabok Try.func64 (by kernel_rfl) (by kernel_rfl) (fun x r h => ?_)
  obtain ⟨s1_0, s2_1, _u⟩ := x
  exact (slices_Equal_int_eq 1099511627776 s1_0 s2_1).trans h
noncomputable def msg_Same_Γ : Ctx := [(64, slices_Equal_int_e)]
def msg_Same_fi : Fi := { keep := [], vty := [], vals := [], live := [(0, [2, 3, 11, 12, 13, 14, 15, 18, 19, 20, 21, 22, 25, 26, 27, 28, 29, 32, 33, 34, 35, 36, 39, 40, 41, 42, 43, 46, 47, 48, 49, 50, 53, 54, 55, 56, 57, 60, 61, 62, 63, 64, 67, 68, 69, 70, 71]), (1, [4])] }
noncomputable def msg_Same (a_0 : Int × Int × Int × Int × Int × Int × (List Int) × Int × Int × ByteArray) (b_1 : Int × Int × Int × Int × Int × Int × (List Int) × Int × Int × ByteArray) : Option ((Bool × Unit) × Unit) :=
 bif a_0.1 == b_1.1 then
  bif a_0.2.1 == b_1.2.1 then
   bif a_0.2.2.1 == b_1.2.2.1 then
    bif a_0.2.2.2.1 == b_1.2.2.2.1 then
     bif a_0.2.2.2.2.1 == b_1.2.2.2.2.1 then
      bif a_0.2.2.2.2.2.1 == b_1.2.2.2.2.2.1 then
       Option.bind (slices_Equal_int a_0.2.2.2.2.2.2.1 b_1.2.2.2.2.2.2.1) fun (r1 : (Bool × Unit) × Unit) =>
       bif r1.1.1 then
        bif a_0.2.2.2.2.2.2.2.1 == b_1.2.2.2.2.2.2.2.1 then
         bif a_0.2.2.2.2.2.2.2.2.1 == b_1.2.2.2.2.2.2.2.2.1 then
          some ((strEq a_0.2.2.2.2.2.2.2.2.2 b_1.2.2.2.2.2.2.2.2.2, ()), ())
         else
          some ((false, ()), ())
        else
         some ((false, ()), ())
       else
        some ((false, ()), ())
      else
       some ((false, ()), ())
     else
      some ((false, ()), ())
    else
     some ((false, ()), ())
   else
    some ((false, ()), ())
  else
   some ((false, ()), ())
 else
  some ((false, ()), ())
theorem msg_Same_eq (a_0 : Int × Int × Int × Int × Int × Int × (List Int) × Int × Int × ByteArray) (b_1 : Int × Int × Int × Int × Int × Int × (List Int) × Int × Int × ByteArray) : evFn msg_Same_Γ tab msg_Same_fi 1 [.val t58, .val t58] [⟨t4, [false], none⟩] Try.f41 (a_0, b_1, ()) = msg_Same a_0 b_1 := by kernel_rfl
noncomputable def msg_Same_e : Ent := ⟨[.val t58, .val t58], [⟨t4, [false], none⟩], fun x => msg_Same x.1 x.2.1⟩
theorem msg_Same_good : Good tab.ty Try.prog 41 msg_Same_e := by
  refine fn_good (Γ := msg_Same_Γ) (fi := msg_Same_fi) (n := 1) follows (gcons slices_Equal_int_good gnil) tabok Try.func41 (by kernel_rfl) (by kernel_rfl) (fun x r h => ?_)
  obtain ⟨a_0, b_1, _u⟩ := x
  exact (msg_Same_eq a_0 b_1).trans h
noncomputable def msg_fields_Γ : Ctx := [(41, msg_Same_e), (57, msg_from_e), (76, msg_bare_e), (77, path_May_e)]
def msg_fields_fi : Fi := { keep := [], vty := [], vals := [], live := [(0, [1, 36, 37, 38, 41, 42, 43, 44, 45, 46, 49, 50, 51, 66, 67, 68, 69, 72, 73, 74, 91, 92, 93, 94, 95, 96, 99, 100, 101]), (1, [1, 3, 36, 37, 38, 41, 42, 43, 44, 45, 46, 49, 50, 51, 66, 67, 68, 69, 72, 73, 74, 91, 92, 93, 94, 95, 96, 99, 100, 101]), (2, [1, 3, 7, 36, 37, 38, 41, 42, 43, 44, 45, 46, 49, 50, 51, 66, 67, 68, 69, 72, 73, 74, 91, 92, 93, 94, 95, 96, 99, 100, 101]), (3, [1, 3, 7, 8, 36, 37, 38, 41, 42, 43, 44, 45, 46, 49, 50, 51, 66, 67, 68, 69, 72, 73, 74, 91, 92, 93, 94, 95, 96, 99, 100, 101]), (4, [1, 3, 7, 8, 36, 37, 38, 41, 42, 43, 44, 45, 46, 49, 50, 51, 66, 67, 68, 69, 72, 73, 74, 91, 92, 93, 94, 95, 96, 99, 100, 101]), (5, [1, 3, 36, 37, 38, 41, 42, 43, 44, 45, 46, 49, 50, 51]), (6, [1, 3, 22, 36, 37, 38, 41, 42, 43, 44, 45, 46, 49, 50, 51]), (7, [1, 3, 36, 37, 38, 41, 42, 43, 44, 45, 46, 49, 50, 51]), (8, [1, 3, 36, 37, 38, 41, 42, 43, 44, 45, 46, 49, 50, 51]), (9, [2]), (10, [1, 3, 7, 53, 66, 67, 68, 69, 72, 73, 74, 91, 92, 93, 94, 95, 96, 99, 100, 101]), (11, [1, 3, 66, 67, 68, 69, 72, 73, 74]), (12, [2]), (13, [1, 3, 7, 76, 91, 92, 93, 94, 95, 96, 99, 100, 101]), (14, [1, 3, 76, 91, 92, 93, 94, 95, 96, 99, 100, 101]), (15, [1, 3, 91, 92, 93, 94, 95, 96, 99, 100, 101]), (16, [2]), (17, [2])] }
noncomputable def msg_fields (m_0 : Int × Int × Int × Int × Int × Int × (List Int) × Int × Int × ByteArray) : Option ((Bool × Unit) × Unit) :=
 Option.bind (msg_bare m_0) fun (r1 : ((Int × Int × Int × Int × Int × Int × (List Int) × Int × Int × ByteArray) × Unit) × Unit) =>
 bif m_0.1 == 2 then
  bif m_0.1 == 2 then
   bif m_0.1 == 2 then
    Option.bind (msg_from 0 1073741824 [m_0.2.2.2.2.1, m_0.2.2.2.2.2.1]) fun (r2 : (Bool × Unit) × Unit) =>
    bif r2.1.1 then
     Option.bind (path_May m_0.2.2.2.2.2.2.1) fun (r3 : (Bool × Unit) × Unit) =>
     bif r3.1.1 then
      Option.bind (msg_from 0 1000000 [m_0.2.2.2.2.2.2.2.1, r1.1.1.2.2.2.2.2.2.2.2.1]) fun (r4 : (Bool × Unit) × Unit) =>
      bif r4.1.1 then
       Option.bind (msg_Same m_0 (r1.1.1.1, r1.1.1.2.1, r1.1.1.2.2.1, r1.1.1.2.2.2.1, m_0.2.2.2.2.1, m_0.2.2.2.2.2.1, m_0.2.2.2.2.2.2.1, m_0.2.2.2.2.2.2.2.1, r1.1.1.2.2.2.2.2.2.2.2)) fun (r5 : (Bool × Unit) × Unit) =>
       some ((r5.1.1, ()), ())
      else
       some ((false, ()), ())
     else
      some ((false, ()), ())
    else
     some ((false, ()), ())
   else
    Option.bind (msg_from 0 1073741824 [m_0.2.2.2.2.1, m_0.2.2.2.2.2.1]) fun (r6 : (Bool × Unit) × Unit) =>
    bif r6.1.1 then
     Option.bind (path_May m_0.2.2.2.2.2.2.1) fun (r7 : (Bool × Unit) × Unit) =>
     bif r7.1.1 then
      Option.bind (msg_from 0 1000000 [r1.1.1.2.2.2.2.2.2.2.1, m_0.2.2.2.2.2.2.2.2.1]) fun (r8 : (Bool × Unit) × Unit) =>
      bif r8.1.1 then
       Option.bind (msg_Same m_0 (r1.1.1.1, r1.1.1.2.1, r1.1.1.2.2.1, r1.1.1.2.2.2.1, m_0.2.2.2.2.1, m_0.2.2.2.2.2.1, m_0.2.2.2.2.2.2.1, r1.1.1.2.2.2.2.2.2.2.1, m_0.2.2.2.2.2.2.2.2.1, r1.1.1.2.2.2.2.2.2.2.2.2)) fun (r9 : (Bool × Unit) × Unit) =>
       some ((r9.1.1, ()), ())
      else
       some ((false, ()), ())
     else
      some ((false, ()), ())
    else
     some ((false, ()), ())
  else
  bif m_0.1 == 7 then
   Option.bind (msg_from 1 1000000 [m_0.2.2.2.2.2.2.2.1]) fun (r10 : (Bool × Unit) × Unit) =>
   bif r10.1.1 then
    bif decide ((m_0.2.2.2.2.2.2.2.2.2.size : Int) ≤ 12) then
     Option.bind (msg_Same m_0 (r1.1.1.1, r1.1.1.2.1, r1.1.1.2.2.1, r1.1.1.2.2.2.1, r1.1.1.2.2.2.2.1, r1.1.1.2.2.2.2.2.1, r1.1.1.2.2.2.2.2.2.1, m_0.2.2.2.2.2.2.2.1, r1.1.1.2.2.2.2.2.2.2.2.1, m_0.2.2.2.2.2.2.2.2.2)) fun (r11 : (Bool × Unit) × Unit) =>
     some ((r11.1.1, ()), ())
    else
     some ((false, ()), ())
   else
    some ((false, ()), ())
  else
  bif m_0.1 == 8 then
   bif m_0.1 == 8 then
    bif decide (m_0.2.2.2.2.2.2.2.1 ≤ m_0.2.2.2.2.2.2.2.2.1) then
     Option.bind (msg_from 1 1000000 [m_0.2.2.2.2.2.2.2.1, m_0.2.2.2.2.2.2.2.2.1]) fun (r12 : (Bool × Unit) × Unit) =>
     bif r12.1.1 then
      Option.bind (msg_Same m_0 (r1.1.1.1, r1.1.1.2.1, r1.1.1.2.2.1, r1.1.1.2.2.2.1, r1.1.1.2.2.2.2.1, r1.1.1.2.2.2.2.2.1, r1.1.1.2.2.2.2.2.2.1, m_0.2.2.2.2.2.2.2.1, m_0.2.2.2.2.2.2.2.2.1, r1.1.1.2.2.2.2.2.2.2.2.2)) fun (r13 : (Bool × Unit) × Unit) =>
      some ((r13.1.1, ()), ())
     else
      some ((false, ()), ())
    else
     some ((false, ()), ())
   else
    Option.bind (msg_Same m_0 r1.1.1) fun (r14 : (Bool × Unit) × Unit) =>
    some ((r14.1.1, ()), ())
  else
  bif m_0.1 == 9 then
   bif decide (m_0.2.2.2.2.2.2.2.1 ≤ m_0.2.2.2.2.2.2.2.2.1) then
    Option.bind (msg_from 1 1000000 [m_0.2.2.2.2.2.2.2.1, m_0.2.2.2.2.2.2.2.2.1]) fun (r15 : (Bool × Unit) × Unit) =>
    bif r15.1.1 then
     Option.bind (msg_Same m_0 (r1.1.1.1, r1.1.1.2.1, r1.1.1.2.2.1, r1.1.1.2.2.2.1, r1.1.1.2.2.2.2.1, r1.1.1.2.2.2.2.2.1, r1.1.1.2.2.2.2.2.2.1, m_0.2.2.2.2.2.2.2.1, m_0.2.2.2.2.2.2.2.2.1, r1.1.1.2.2.2.2.2.2.2.2.2)) fun (r16 : (Bool × Unit) × Unit) =>
     some ((r16.1.1, ()), ())
    else
     some ((false, ()), ())
   else
    some ((false, ()), ())
  else
   Option.bind (msg_Same m_0 r1.1.1) fun (r17 : (Bool × Unit) × Unit) =>
   some ((r17.1.1, ()), ())
 else
 bif m_0.1 == 5 then
  bif m_0.1 == 2 then
   Option.bind (msg_from 0 1073741824 [m_0.2.2.2.2.1, m_0.2.2.2.2.2.1]) fun (r18 : (Bool × Unit) × Unit) =>
   bif r18.1.1 then
    Option.bind (path_May m_0.2.2.2.2.2.2.1) fun (r19 : (Bool × Unit) × Unit) =>
    bif r19.1.1 then
     Option.bind (msg_from 0 1000000 [m_0.2.2.2.2.2.2.2.1, r1.1.1.2.2.2.2.2.2.2.2.1]) fun (r20 : (Bool × Unit) × Unit) =>
     bif r20.1.1 then
      Option.bind (msg_Same m_0 (r1.1.1.1, r1.1.1.2.1, r1.1.1.2.2.1, r1.1.1.2.2.2.1, m_0.2.2.2.2.1, m_0.2.2.2.2.2.1, m_0.2.2.2.2.2.2.1, m_0.2.2.2.2.2.2.2.1, r1.1.1.2.2.2.2.2.2.2.2)) fun (r21 : (Bool × Unit) × Unit) =>
      some ((r21.1.1, ()), ())
     else
      some ((false, ()), ())
    else
     some ((false, ()), ())
   else
    some ((false, ()), ())
  else
   Option.bind (msg_from 0 1073741824 [m_0.2.2.2.2.1, m_0.2.2.2.2.2.1]) fun (r22 : (Bool × Unit) × Unit) =>
   bif r22.1.1 then
    Option.bind (path_May m_0.2.2.2.2.2.2.1) fun (r23 : (Bool × Unit) × Unit) =>
    bif r23.1.1 then
     Option.bind (msg_from 0 1000000 [r1.1.1.2.2.2.2.2.2.2.1, m_0.2.2.2.2.2.2.2.2.1]) fun (r24 : (Bool × Unit) × Unit) =>
     bif r24.1.1 then
      Option.bind (msg_Same m_0 (r1.1.1.1, r1.1.1.2.1, r1.1.1.2.2.1, r1.1.1.2.2.2.1, m_0.2.2.2.2.1, m_0.2.2.2.2.2.1, m_0.2.2.2.2.2.2.1, r1.1.1.2.2.2.2.2.2.2.1, m_0.2.2.2.2.2.2.2.2.1, r1.1.1.2.2.2.2.2.2.2.2.2)) fun (r25 : (Bool × Unit) × Unit) =>
      some ((r25.1.1, ()), ())
     else
      some ((false, ()), ())
    else
     some ((false, ()), ())
   else
    some ((false, ()), ())
 else
 bif m_0.1 == 7 then
  Option.bind (msg_from 1 1000000 [m_0.2.2.2.2.2.2.2.1]) fun (r26 : (Bool × Unit) × Unit) =>
  bif r26.1.1 then
   bif decide ((m_0.2.2.2.2.2.2.2.2.2.size : Int) ≤ 12) then
    Option.bind (msg_Same m_0 (r1.1.1.1, r1.1.1.2.1, r1.1.1.2.2.1, r1.1.1.2.2.2.1, r1.1.1.2.2.2.2.1, r1.1.1.2.2.2.2.2.1, r1.1.1.2.2.2.2.2.2.1, m_0.2.2.2.2.2.2.2.1, r1.1.1.2.2.2.2.2.2.2.2.1, m_0.2.2.2.2.2.2.2.2.2)) fun (r27 : (Bool × Unit) × Unit) =>
    some ((r27.1.1, ()), ())
   else
    some ((false, ()), ())
  else
   some ((false, ()), ())
 else
 bif m_0.1 == 8 then
  bif m_0.1 == 8 then
   bif decide (m_0.2.2.2.2.2.2.2.1 ≤ m_0.2.2.2.2.2.2.2.2.1) then
    Option.bind (msg_from 1 1000000 [m_0.2.2.2.2.2.2.2.1, m_0.2.2.2.2.2.2.2.2.1]) fun (r28 : (Bool × Unit) × Unit) =>
    bif r28.1.1 then
     Option.bind (msg_Same m_0 (r1.1.1.1, r1.1.1.2.1, r1.1.1.2.2.1, r1.1.1.2.2.2.1, r1.1.1.2.2.2.2.1, r1.1.1.2.2.2.2.2.1, r1.1.1.2.2.2.2.2.2.1, m_0.2.2.2.2.2.2.2.1, m_0.2.2.2.2.2.2.2.2.1, r1.1.1.2.2.2.2.2.2.2.2.2)) fun (r29 : (Bool × Unit) × Unit) =>
     some ((r29.1.1, ()), ())
    else
     some ((false, ()), ())
   else
    some ((false, ()), ())
  else
   Option.bind (msg_Same m_0 r1.1.1) fun (r30 : (Bool × Unit) × Unit) =>
   some ((r30.1.1, ()), ())
 else
 bif m_0.1 == 9 then
  bif decide (m_0.2.2.2.2.2.2.2.1 ≤ m_0.2.2.2.2.2.2.2.2.1) then
   Option.bind (msg_from 1 1000000 [m_0.2.2.2.2.2.2.2.1, m_0.2.2.2.2.2.2.2.2.1]) fun (r31 : (Bool × Unit) × Unit) =>
   bif r31.1.1 then
    Option.bind (msg_Same m_0 (r1.1.1.1, r1.1.1.2.1, r1.1.1.2.2.1, r1.1.1.2.2.2.1, r1.1.1.2.2.2.2.1, r1.1.1.2.2.2.2.2.1, r1.1.1.2.2.2.2.2.2.1, m_0.2.2.2.2.2.2.2.1, m_0.2.2.2.2.2.2.2.2.1, r1.1.1.2.2.2.2.2.2.2.2.2)) fun (r32 : (Bool × Unit) × Unit) =>
    some ((r32.1.1, ()), ())
   else
    some ((false, ()), ())
  else
   some ((false, ()), ())
 else
  Option.bind (msg_Same m_0 r1.1.1) fun (r33 : (Bool × Unit) × Unit) =>
  some ((r33.1.1, ()), ())
theorem msg_fields_eq (m_0 : Int × Int × Int × Int × Int × Int × (List Int) × Int × Int × ByteArray) : evFn msg_fields_Γ tab msg_fields_fi 1 [.val t58] [⟨t4, [false], none⟩] Try.f58 (m_0, ()) = msg_fields m_0 := by kernel_rfl
noncomputable def msg_fields_e : Ent := ⟨[.val t58], [⟨t4, [false], none⟩], fun x => msg_fields x.1⟩
theorem msg_fields_good : Good tab.ty Try.prog 58 msg_fields_e := by
  refine fn_good (Γ := msg_fields_Γ) (fi := msg_fields_fi) (n := 1) follows (gcons msg_Same_good (gcons msg_from_good (gcons msg_bare_good (gcons path_May_good gnil)))) tabok Try.func58 (by kernel_rfl) (by kernel_rfl) (fun x r h => ?_)
  obtain ⟨m_0, _u⟩ := x
  exact (msg_fields_eq m_0).trans h
noncomputable def msg_May_Γ : Ctx := [(57, msg_from_e), (58, msg_fields_e)]
def msg_May_fi : Fi := { keep := [], vty := [], vals := [], live := [(0, [1, 8, 9, 10, 11, 12, 13, 16, 17, 18, 19, 20, 23, 24, 25, 26, 29, 30]), (1, [2])] }
noncomputable def msg_May (m_0 : Int × Int × Int × Int × Int × Int × (List Int) × Int × Int × ByteArray) : Option ((Bool × Unit) × Unit) :=
 Option.bind (msg_from 1 9 [m_0.1]) fun (r1 : (Bool × Unit) × Unit) =>
 bif r1.1.1 then
  Option.bind (msg_from 1 8 [m_0.2.1, m_0.2.2.1]) fun (r2 : (Bool × Unit) × Unit) =>
  bif r2.1.1 then
   bif m_0.2.1 != m_0.2.2.1 then
    Option.bind (msg_from 1 1073741824 [m_0.2.2.2.1]) fun (r3 : (Bool × Unit) × Unit) =>
    bif r3.1.1 then
     Option.bind (msg_fields m_0) fun (r4 : (Bool × Unit) × Unit) =>
     some ((r4.1.1, ()), ())
    else
     some ((false, ()), ())
   else
    some ((false, ()), ())
  else
   some ((false, ()), ())
 else
  some ((false, ()), ())
theorem msg_May_eq (m_0 : Int × Int × Int × Int × Int × Int × (List Int) × Int × Int × ByteArray) : evFn msg_May_Γ tab msg_May_fi 1 [.val t58] [⟨t4, [false], none⟩] Try.f37 (m_0, ()) = msg_May m_0 := by kernel_rfl
noncomputable def msg_May_e : Ent := ⟨[.val t58], [⟨t4, [false], none⟩], fun x => msg_May x.1⟩
theorem msg_May_good : Good tab.ty Try.prog 37 msg_May_e := by
  refine fn_good (Γ := msg_May_Γ) (fi := msg_May_fi) (n := 1) follows (gcons msg_from_good (gcons msg_fields_good gnil)) tabok Try.func37 (by kernel_rfl) (by kernel_rfl) (fun x r h => ?_)
  obtain ⟨m_0, _u⟩ := x
  exact (msg_May_eq m_0).trans h
noncomputable def slices_Clone_byte (s : List Int) : Option (((List Int) × Unit) × Unit) := bif Nat.ble s.length 1073741824 then some ((s, ()), ()) else none
theorem slices_Clone_byte_raw (s : List Int) : evFn [] tab (fiOf Try.f45 []) 1 [.val t23] [⟨t23, [true], none⟩] Try.f45 (s, ()) = bif !(List.isEmpty s) then bif Nat.ble (0 + s.length) 1073741824 then some (([] ++ s, ()), ()) else none
 else bothEq (some (([], ()), ())) (bif Nat.ble (0 + s.length) 1073741824 then some (([] ++ s, ()), ()) else none) := by kernel_rfl
theorem slices_Clone_byte_eq (s : List Int) : evFn [] tab (fiOf Try.f45 []) 1 [.val t23] [⟨t23, [true], none⟩] Try.f45 (s, ()) = slices_Clone_byte s := by
  rw [slices_Clone_byte_raw]
  cases s with
  | nil => exact bothEq_same _
  | cons x q => rw [Nat.zero_add]; rfl
noncomputable def slices_Clone_byte_e : Ent := ⟨[.val t23], [⟨t23, [true], none⟩], fun x => slices_Clone_byte x.1⟩
theorem slices_Clone_byte_good : Good tab.ty Try.prog 45 slices_Clone_byte_e := by
  refine fn_good (Γ := []) (fi := fiOf Try.f45 []) (n := 1) follows gnil tabok Try.func45 (by kernel_rfl) (by kernel_rfl) (fun x r h => ?_)
  obtain ⟨s, _u⟩ := x
  exact (slices_Clone_byte_eq s).trans h
noncomputable def bits_Put_Γ : Ctx := [(45, slices_Clone_byte_e)]
def bits_Put_fi : Fi := { keep := [], vty := [], vals := [], live := [(0, [0, 1]), (1, [0, 1]), (2, [0, 5]), (3, [0, 5, 11]), (4, [0, 5]), (5, [0, 5]), (6, [4])] }
noncomputable def bits_Put_B1 (L1 : Int → List Int → Option (((List Int) × Unit) × Unit)) (v2 : Int) (v3 : List Int) : Option (((List Int) × Unit) × Unit) :=
 bif decide (v2 ≥ 128) then
  bif Nat.ble (v3.length + 1) 1073741824 then
   L1 (Int.fdiv v2 (2 ^ 7)) (v3 ++ [IntKind.wrap .u8 ((BitVec.ofInt 8 (IntKind.wrap .u8 v2) ||| BitVec.ofInt 8 128).toNat)])
  else none
 else
 bif Nat.ble (v3.length + 1) 1073741824 then
  some ((v3 ++ [IntKind.wrap .u8 v2], ()), ())
 else none
noncomputable def bits_Put_T (L1 : Int → List Int → Option (((List Int) × Unit) × Unit)) (b_0 : List Int) (v_1 : Int) : Option (((List Int) × Unit) × Unit) :=
 Option.bind (slices_Clone_byte b_0) fun (r1 : ((List Int) × Unit) × Unit) =>
 L1 (IntKind.wrap .u64 v_1) r1.1.1
noncomputable def bits_Put_L1 (n : Nat) : Nat → Int → List Int → Option (((List Int) × Unit) × Unit) := iter (fun _ _ => none) fun L => bits_Put_B1 L
noncomputable def bits_Put_X1 (n m : Nat) (v2 : Int) (v3 : List Int) : Option (((List Int) × Unit) × Unit) :=
 atLoop bits_Put_Γ tab (fiB [.val t23, .val t2] bits_Put_fi) n [.val t23, .val t2] [⟨t23, [true], none⟩] Try.f17 [1, 1, 1, 0, 0] [] [0, 5] m
 ⟨[(0, SV.cv (CV.one (LV.ref (888888, 0)))), (5, SV.cv (CV.one (LV.pure t12 v2)))],
  [((888888, 0), Ob.row 5 t5 v3)]⟩
theorem bits_Put_step1 (n m : Nat) (v2 : Int) (v3 : List Int) : bits_Put_X1 n (m + 1) v2 v3 = bits_Put_B1 (bits_Put_X1 n m) v2 v3 := by kernel_rfl
theorem bits_Put_start (n : Nat) (b_0 : List Int) (v_1 : Int) : evFn bits_Put_Γ tab bits_Put_fi n [.val t23, .val t2] [⟨t23, [true], none⟩] Try.f17 (b_0, v_1, ()) = bits_Put_T (bits_Put_X1 n n) b_0 v_1 := by kernel_rfl
theorem bits_Put_XL1 (n : Nat) : ∀ m, bits_Put_X1 n m = bits_Put_L1 n m
 | 0 => rfl
 | m + 1 => by
  have ih := bits_Put_XL1 n m
  funext v2 v3
  rw [bits_Put_step1, ih]
  rfl
noncomputable def bits_Put_n (n : Nat) (b_0 : List Int) (v_1 : Int) : Option (((List Int) × Unit) × Unit) := bits_Put_T (bits_Put_L1 n n) b_0 v_1
noncomputable def bits_Put (b_0 : List Int) (v_1 : Int) : Option (((List Int) × Unit) × Unit) := bits_Put_n 1099511627776 b_0 v_1
theorem bits_Put_eq (n : Nat) (b_0 : List Int) (v_1 : Int) : evFn bits_Put_Γ tab bits_Put_fi n [.val t23, .val t2] [⟨t23, [true], none⟩] Try.f17 (b_0, v_1, ()) = bits_Put_n n b_0 v_1 := by
  rw [bits_Put_start, bits_Put_XL1 n n]
  rfl
noncomputable def bits_Put_e : Ent := ⟨[.val t23, .val t2], [⟨t23, [true], none⟩], fun x => bits_Put x.1 x.2.1⟩
theorem bits_Put_good : Good tab.ty Try.prog 17 bits_Put_e := by
  refine fn_good (Γ := bits_Put_Γ) (fi := bits_Put_fi) (n := 1099511627776) follows (gcons slices_Clone_byte_good gnil) tabok Try.func17 (by kernel_rfl) (by kernel_rfl) (fun x r h => ?_)
  obtain ⟨b_0, v_1, _u⟩ := x
  exact (bits_Put_eq 1099511627776 b_0 v_1).trans h
noncomputable def bits_PutText_Γ : Ctx := [(17, bits_Put_e)]
def bits_PutText_fi : Fi := { keep := [], vty := [], vals := [], live := [(0, [0, 1]), (1, [4])] }
noncomputable def bits_PutText (b_0 : List Int) (s_1 : ByteArray) : Option (((List Int) × Unit) × Unit) :=
 Option.bind (bits_Put b_0 (s_1.size : Int)) fun (r1 : ((List Int) × Unit) × Unit) =>
 bif Nat.ble (r1.1.1.length + (s_1.data.toList.map fun b => (b.toNat : Int)).length) 1073741824 then
  some ((r1.1.1 ++ (s_1.data.toList.map fun b => (b.toNat : Int)), ()), ())
 else none
theorem bits_PutText_eq (b_0 : List Int) (s_1 : ByteArray) : evFn bits_PutText_Γ tab bits_PutText_fi 1 [.val t23, .val t9] [⟨t23, [true], none⟩] Try.f19 (b_0, s_1, ()) = bits_PutText b_0 s_1 := by kernel_rfl
noncomputable def bits_PutText_e : Ent := ⟨[.val t23, .val t9], [⟨t23, [true], none⟩], fun x => bits_PutText x.1 x.2.1⟩
theorem bits_PutText_good : Good tab.ty Try.prog 19 bits_PutText_e := by
  refine fn_good (Γ := bits_PutText_Γ) (fi := bits_PutText_fi) (n := 1) follows (gcons bits_Put_good gnil) tabok Try.func19 (by kernel_rfl) (by kernel_rfl) (fun x r h => ?_)
  obtain ⟨b_0, s_1, _u⟩ := x
  exact (bits_PutText_eq b_0 s_1).trans h
noncomputable def crc_Sum_Γ : Ctx := []
def crc_Sum_fi : Fi := { keep := [], vty := [], vals := [], live := [(0, [0]), (1, [0, 3]), (2, [3, 7, 8, 9]), (3, [3, 7, 8, 9, 10]), (4, [3, 5, 7, 8, 9]), (5, [3, 7, 8, 9]), (6, [3, 7, 8, 9, 17]), (7, [3, 7, 8, 9, 17, 18]), (8, [3, 6, 7, 8, 9, 17]), (9, [3, 6, 7, 8, 9, 17]), (10, [3, 7, 8, 9, 17, 24]), (11, [3, 7, 8, 9, 17]), (12, [3, 7, 8, 9, 17]), (13, [3, 7, 8, 9]), (14, [2])] }
noncomputable def crc_Sum_B1 (L2 : Int → List Int → Int → Int → Int → Option ((Int × Unit) × Unit)) (v1 : Int) (v2 : List Int) (v3 : Int) (v4 : Int) : Option ((Int × Unit) × Unit) :=
 bif decide (v4 < v3) then
  bif decide (0 ≤ v4) && decide (v4 < (v2.length : Int)) then
   L2 (IntKind.wrap .u32 ((BitVec.ofInt 32 v1 ^^^ BitVec.ofInt 32 (IntKind.wrap .u32 (List.getD v2 v4.toNat 0))).toNat)) v2 v3 v4 0
  else none
 else
  some ((IntKind.wrap .u32 ((BitVec.ofInt 32 v1 ^^^ BitVec.ofInt 32 4294967295).toNat), ()), ())
noncomputable def crc_Sum_B2 (L2 : Int → List Int → Int → Int → Int → Option ((Int × Unit) × Unit)) (L1 : Int → List Int → Int → Int → Option ((Int × Unit) × Unit)) (v5 : Int) (v6 : List Int) (v7 : Int) (v8 : Int) (v9 : Int) : Option ((Int × Unit) × Unit) :=
 bif decide (v9 < 8) then
  bif (IntKind.wrap .u32 ((BitVec.ofInt 32 v5 &&& BitVec.ofInt 32 1).toNat)) == 1 then
   L2 (IntKind.wrap .u32 ((BitVec.ofInt 32 (Int.fdiv v5 (2 ^ 1)) ^^^ BitVec.ofInt 32 3988292384).toNat)) v6 v7 v8 (IntKind.wrap .i64 (v9 + 1))
  else
   L2 (Int.fdiv v5 (2 ^ 1)) v6 v7 v8 (IntKind.wrap .i64 (v9 + 1))
 else
  L1 v5 v6 v7 (IntKind.wrap .i64 (v8 + 1))
noncomputable def crc_Sum_T (L1 : Int → List Int → Int → Int → Option ((Int × Unit) × Unit)) (b_0 : List Int) : Option ((Int × Unit) × Unit) :=
 L1 4294967295 b_0 (b_0.length : Int) 0
noncomputable def crc_Sum_L2 (n : Nat) (m1 : Nat) (r1 : Int → List Int → Int → Int → Option ((Int × Unit) × Unit)) : Nat → Int → List Int → Int → Int → Int → Option ((Int × Unit) × Unit) := iter (fun _ _ _ _ _ => none) fun L => crc_Sum_B2 L r1
noncomputable def crc_Sum_L1 (n : Nat) : Nat → Int → List Int → Int → Int → Option ((Int × Unit) × Unit) := iterN (fun _ _ _ _ => none) fun m L => crc_Sum_B1 (crc_Sum_L2 n m L n)
noncomputable def crc_Sum_X1 (n m : Nat) (v1 : Int) (v2 : List Int) (v3 : Int) (v4 : Int) : Option ((Int × Unit) × Unit) :=
 atLoop crc_Sum_Γ tab (fiB [.val t23] crc_Sum_fi) n [.val t23] [⟨t22, [false], none⟩] Try.f62 [1, 1, 0, 1, 0] [] [3, 7, 8, 9] m
 ⟨[(3, SV.cv (CV.one (LV.pure t22 v1))), (7, SV.cv (CV.one (LV.pure t23 v2))), (8, SV.cv (CV.one (LV.pure t2 v3))), (9, SV.cv (CV.one (LV.pure t2 v4)))],
  []⟩
noncomputable def crc_Sum_X2 (n m1 m : Nat) (v5 : Int) (v6 : List Int) (v7 : Int) (v8 : Int) (v9 : Int) : Option ((Int × Unit) × Unit) :=
 atLoop crc_Sum_Γ tab (fiB [.val t23] crc_Sum_fi) n [.val t23] [⟨t22, [false], none⟩] Try.f62 [1, 1, 0, 1, 0, 0, 1, 1, 0, 0, 1, 1, 1, 0] [(m1, [3, 7, 8, 9])] [3, 7, 8, 9, 17] m
 ⟨[(3, SV.cv (CV.one (LV.pure t22 v5))), (7, SV.cv (CV.one (LV.pure t23 v6))), (8, SV.cv (CV.one (LV.pure t2 v7))), (9, SV.cv (CV.one (LV.pure t2 v8))), (17, SV.cv (CV.one (LV.pure t2 v9)))],
  []⟩
theorem crc_Sum_step1 (n m : Nat) (v1 : Int) (v2 : List Int) (v3 : Int) (v4 : Int) : crc_Sum_X1 n (m + 1) v1 v2 v3 v4 = crc_Sum_B1 (crc_Sum_X2 n m n) v1 v2 v3 v4 := by kernel_rfl
theorem crc_Sum_step2 (n m1 m : Nat) (v5 : Int) (v6 : List Int) (v7 : Int) (v8 : Int) (v9 : Int) : crc_Sum_X2 n m1 (m + 1) v5 v6 v7 v8 v9 = crc_Sum_B2 (crc_Sum_X2 n m1 m) (crc_Sum_X1 n m1) v5 v6 v7 v8 v9 := by kernel_rfl
theorem crc_Sum_start (n : Nat) (b_0 : List Int) : evFn crc_Sum_Γ tab crc_Sum_fi n [.val t23] [⟨t22, [false], none⟩] Try.f62 (b_0, ()) = crc_Sum_T (crc_Sum_X1 n n) b_0 := by kernel_rfl
theorem crc_Sum_XL2 (n : Nat) (m1 : Nat) (r1 : Int → List Int → Int → Int → Option ((Int × Unit) × Unit)) (h1 : crc_Sum_X1 n m1 = r1) : ∀ m, crc_Sum_X2 n m1 m = crc_Sum_L2 n m1 r1 m
 | 0 => rfl
 | m + 1 => by
  have ih := crc_Sum_XL2 n m1 r1 h1 m
  funext v5 v6 v7 v8 v9
  rw [crc_Sum_step2, ih, h1]
  rfl
theorem crc_Sum_XL1 (n : Nat) : ∀ m, crc_Sum_X1 n m = crc_Sum_L1 n m
 | 0 => rfl
 | m + 1 => by
  have ih := crc_Sum_XL1 n m
  funext v1 v2 v3 v4
  rw [crc_Sum_step1, crc_Sum_XL2 n m _ ih n]
  rfl
noncomputable def crc_Sum_n (n : Nat) (b_0 : List Int) : Option ((Int × Unit) × Unit) := crc_Sum_T (crc_Sum_L1 n n) b_0
noncomputable def crc_Sum (b_0 : List Int) : Option ((Int × Unit) × Unit) := crc_Sum_n 1099511627776 b_0
theorem crc_Sum_eq (n : Nat) (b_0 : List Int) : evFn crc_Sum_Γ tab crc_Sum_fi n [.val t23] [⟨t22, [false], none⟩] Try.f62 (b_0, ()) = crc_Sum_n n b_0 := by
  rw [crc_Sum_start, crc_Sum_XL1 n n]
  rfl
noncomputable def crc_Sum_e : Ent := ⟨[.val t23], [⟨t22, [false], none⟩], fun x => crc_Sum x.1⟩
theorem crc_Sum_good : Good tab.ty Try.prog 62 crc_Sum_e := by
  refine fn_good (Γ := crc_Sum_Γ) (fi := crc_Sum_fi) (n := 1099511627776) follows gnil tabok Try.func62 (by kernel_rfl) (by kernel_rfl) (fun x r h => ?_)
  obtain ⟨b_0, _u⟩ := x
  exact (crc_Sum_eq 1099511627776 b_0).trans h
noncomputable def msg_Put_Γ : Ctx := [(17, bits_Put_e), (19, bits_PutText_e), (37, msg_May_e), (62, crc_Sum_e)]
def msg_Put_fi : Fi := { keep := [], vty := [(4, 23)], vals := [], live := [(0, [1]), (1, [1, 10]), (2, [2]), (3, [1, 3]), (4, [1, 3]), (5, [1, 3, 4]), (6, [1, 4, 37, 38, 39]), (7, [1, 4, 37, 38, 39, 40]), (8, [1, 4, 6, 37, 38, 39]), (9, [1, 4, 37, 38, 39]), (10, [1, 4, 37, 38, 39]), (11, [4]), (12, [4, 7]), (13, [2])] }
noncomputable def msg_Put_B1 (L1 : Int → Int → Int → Int → Int → Int → Int → Int → List Int → Int → Int → ByteArray → List Int → List Int → Option (((List Int) × Unit) × Unit)) (v2 : Int) (v3 : Int) (v4 : Int) (v5 : Int) (v6 : Int) (v7 : Int) (v8 : Int) (v9 : Int) (v10 : List Int) (v11 : Int) (v12 : Int) (v13 : ByteArray) (v14 : List Int) (v15 : List Int) : Option (((List Int) × Unit) × Unit) :=
 bif decide (v3 < v2) then
  bif decide (0 ≤ v3) && decide (v3 < (v15.length : Int)) then
   bif decide (0 ≤ v3) && decide (v3 < (v15.length : Int)) then
    Option.bind (bits_Put v14 (List.getD v15 v3.toNat 0)) fun (r16 : ((List Int) × Unit) × Unit) =>
    L1 v2 (IntKind.wrap .i64 (v3 + 1)) v4 v5 v6 v7 v8 v9 v10 v11 v12 v13 r16.1.1 v15
   else none
  else none
 else
  Option.bind (bits_PutText v14 v13) fun (r17 : ((List Int) × Unit) × Unit) =>
  Option.bind (crc_Sum r17.1.1) fun (r18 : (Int × Unit) × Unit) =>
  bif Nat.ble (r17.1.1.length + 4) 1073741824 then
   some ((r17.1.1 ++ [IntKind.wrap .u8 (Int.fdiv r18.1.1 (2 ^ 24)), IntKind.wrap .u8 (Int.fdiv r18.1.1 (2 ^ 16)), IntKind.wrap .u8 (Int.fdiv r18.1.1 (2 ^ 8)), IntKind.wrap .u8 r18.1.1], ()), ())
  else none
noncomputable def msg_Put_T (L1 : Int → Int → Int → Int → Int → Int → Int → Int → List Int → Int → Int → ByteArray → List Int → List Int → Option (((List Int) × Unit) × Unit)) (m_0 : Int × Int × Int × Int × Int × Int × (List Int) × Int × Int × ByteArray) : Option (((List Int) × Unit) × Unit) :=
 Option.bind (msg_May m_0) fun (r1 : (Bool × Unit) × Unit) =>
 bif !r1.1.1 then
  some (([], ()), ())
 else
 bif Nat.ble (7 + m_0.2.2.2.2.2.2.1.length) 1073741824 then
  bif Nat.ble (([m_0.1, m_0.2.1, m_0.2.2.1, m_0.2.2.2.1, m_0.2.2.2.2.1, m_0.2.2.2.2.2.1, (m_0.2.2.2.2.2.2.1.length : Int)] ++ m_0.2.2.2.2.2.2.1).length + 2) 1073741824 then
   L1 ((([m_0.1, m_0.2.1, m_0.2.2.1, m_0.2.2.2.1, m_0.2.2.2.2.1, m_0.2.2.2.2.2.1, (m_0.2.2.2.2.2.2.1.length : Int)] ++ m_0.2.2.2.2.2.2.1) ++ [m_0.2.2.2.2.2.2.2.1, m_0.2.2.2.2.2.2.2.2.1]).length : Int) 0 m_0.1 m_0.2.1 m_0.2.2.1 m_0.2.2.2.1 m_0.2.2.2.2.1 m_0.2.2.2.2.2.1 m_0.2.2.2.2.2.2.1 m_0.2.2.2.2.2.2.2.1 m_0.2.2.2.2.2.2.2.2.1 m_0.2.2.2.2.2.2.2.2.2 [] (([m_0.1, m_0.2.1, m_0.2.2.1, m_0.2.2.2.1, m_0.2.2.2.2.1, m_0.2.2.2.2.2.1, (m_0.2.2.2.2.2.2.1.length : Int)] ++ m_0.2.2.2.2.2.2.1) ++ [m_0.2.2.2.2.2.2.2.1, m_0.2.2.2.2.2.2.2.2.1])
  else none
 else none
noncomputable def msg_Put_L1 (n : Nat) : Nat → Int → Int → Int → Int → Int → Int → Int → Int → List Int → Int → Int → ByteArray → List Int → List Int → Option (((List Int) × Unit) × Unit) := iter (fun _ _ _ _ _ _ _ _ _ _ _ _ _ _ => none) fun L => msg_Put_B1 L
noncomputable def msg_Put_X1 (n m : Nat) (v2 : Int) (v3 : Int) (v4 : Int) (v5 : Int) (v6 : Int) (v7 : Int) (v8 : Int) (v9 : Int) (v10 : List Int) (v11 : Int) (v12 : Int) (v13 : ByteArray) (v14 : List Int) (v15 : List Int) : Option (((List Int) × Unit) × Unit) :=
 atLoop msg_Put_Γ tab (fiB [.val t58] msg_Put_fi) n [.val t58] [⟨t23, [true], none⟩] Try.f39 [1, 1, 1, 1, 1, 0, 1, 0] [] [1, 4, 37, 38, 39] m
 ⟨[(1, SV.cv (CV.one (LV.ptr (1, 0) 0))), (4, SV.cv (CV.one (LV.ref (888888, 4)))), (37, SV.cv (CV.one (LV.ref (888888, 37)))), (38, SV.cv (CV.one (LV.pure t2 v2))), (39, SV.cv (CV.one (LV.pure t2 v3)))],
  [((1, 0), Ob.box 59 [LV.pure t2 v4, LV.pure t2 v5, LV.pure t2 v6, LV.pure t2 v7, LV.pure t2 v8, LV.pure t2 v9, LV.pure t33 v10, LV.pure t2 v11, LV.pure t2 v12, LV.pure t9 v13]), ((888888, 4), Ob.row 5 t5 v14), ((888888, 37), Ob.row 3 t2 v15)]⟩
theorem msg_Put_step1 (n m : Nat) (v2 : Int) (v3 : Int) (v4 : Int) (v5 : Int) (v6 : Int) (v7 : Int) (v8 : Int) (v9 : Int) (v10 : List Int) (v11 : Int) (v12 : Int) (v13 : ByteArray) (v14 : List Int) (v15 : List Int) : msg_Put_X1 n (m + 1) v2 v3 v4 v5 v6 v7 v8 v9 v10 v11 v12 v13 v14 v15 = msg_Put_B1 (msg_Put_X1 n m) v2 v3 v4 v5 v6 v7 v8 v9 v10 v11 v12 v13 v14 v15 := by kernel_rfl
theorem msg_Put_start (n : Nat) (m_0 : Int × Int × Int × Int × Int × Int × (List Int) × Int × Int × ByteArray) : evFn msg_Put_Γ tab msg_Put_fi n [.val t58] [⟨t23, [true], none⟩] Try.f39 (m_0, ()) = msg_Put_T (msg_Put_X1 n n) m_0 := by kernel_rfl
theorem msg_Put_XL1 (n : Nat) : ∀ m, msg_Put_X1 n m = msg_Put_L1 n m
 | 0 => rfl
 | m + 1 => by
  have ih := msg_Put_XL1 n m
  funext v2 v3 v4 v5 v6 v7 v8 v9 v10 v11 v12 v13 v14 v15
  rw [msg_Put_step1, ih]
  rfl
noncomputable def msg_Put_n (n : Nat) (m_0 : Int × Int × Int × Int × Int × Int × (List Int) × Int × Int × ByteArray) : Option (((List Int) × Unit) × Unit) := msg_Put_T (msg_Put_L1 n n) m_0
noncomputable def msg_Put (m_0 : Int × Int × Int × Int × Int × Int × (List Int) × Int × Int × ByteArray) : Option (((List Int) × Unit) × Unit) := msg_Put_n 1099511627776 m_0
theorem msg_Put_eq (n : Nat) (m_0 : Int × Int × Int × Int × Int × Int × (List Int) × Int × Int × ByteArray) : evFn msg_Put_Γ tab msg_Put_fi n [.val t58] [⟨t23, [true], none⟩] Try.f39 (m_0, ()) = msg_Put_n n m_0 := by
  rw [msg_Put_start, msg_Put_XL1 n n]
  rfl
noncomputable def msg_Put_e : Ent := ⟨[.val t58], [⟨t23, [true], none⟩], fun x => msg_Put x.1⟩
theorem msg_Put_good : Good tab.ty Try.prog 39 msg_Put_e := by
  refine fn_good (Γ := msg_Put_Γ) (fi := msg_Put_fi) (n := 1099511627776) follows (gcons bits_Put_good (gcons bits_PutText_good (gcons msg_May_good (gcons crc_Sum_good gnil)))) tabok Try.func39 (by kernel_rfl) (by kernel_rfl) (fun x r h => ?_)
  obtain ⟨m_0, _u⟩ := x
  exact (msg_Put_eq 1099511627776 m_0).trans h
noncomputable def bits_take_Γ : Ctx := []
def bits_take_fi : Fi := { keep := [], vty := [], vals := [], live := [(0, [0, 2, 3, 11, 12, 33, 34, 37, 38]), (1, [0, 2, 3, 11, 12, 13, 33, 34, 37, 38]), (2, [0, 2, 3, 5, 11, 12, 33, 34, 37, 38]), (3, [0, 2, 3, 5, 11, 12, 33, 34, 37, 38]), (4, [0, 2, 3, 5, 11, 12, 33, 34, 37, 38]), (5, [0, 2, 3, 5, 11, 12, 29, 33, 34, 37, 38]), (6, [2, 3, 39]), (7, [2, 3, 4]), (8, [2, 3, 4])] }
noncomputable def bits_take_B1 (L1 : List Int → Int → Int → Option ((Int × Int × IV × Unit) × Unit)) (v1 : List Int) (v2 : Int) (v3 : Int) : Option ((Int × Int × IV × Unit) × Unit) :=
 bif decide (v3 < (v1.length : Int)) then
  bif decide (v3 < 5) then
   bif decide (0 ≤ v3) && decide (v3 < (v1.length : Int)) then
    bif decide (0 ≤ IntKind.wrap .i64 (7 * v3)) then
     bif decide (List.getD v1 v3.toNat 0 ≥ 128) then
      L1 v1 (IntKind.wrap .i64 ((BitVec.ofInt 64 v2 ||| BitVec.ofInt 64 (IntKind.wrap .i64 ((IntKind.wrap .i64 (IntKind.wrap .u8 ((BitVec.ofInt 8 (List.getD v1 v3.toNat 0) &&& BitVec.ofInt 8 127).toNat))) * 2 ^ (min ((IntKind.wrap .i64 (7 * v3)).toNat) 64)))).toNat)) (IntKind.wrap .i64 (v3 + 1))
     else
     bif decide (IntKind.wrap .i64 (v3 + 1) > 1) then
      bif (List.getD v1 v3.toNat 0) == 0 then
       some ((0, 0, IV.mk 78 [], ()), ())
      else
      bif decide (IntKind.wrap .i64 ((BitVec.ofInt 64 v2 ||| BitVec.ofInt 64 (IntKind.wrap .i64 ((IntKind.wrap .i64 (IntKind.wrap .u8 ((BitVec.ofInt 8 (List.getD v1 v3.toNat 0) &&& BitVec.ofInt 8 127).toNat))) * 2 ^ (min ((IntKind.wrap .i64 (7 * v3)).toNat) 64)))).toNat) > 1073741824) then
       some ((0, 0, IV.mk 78 [], ()), ())
      else
       some ((IntKind.wrap .i64 ((BitVec.ofInt 64 v2 ||| BitVec.ofInt 64 (IntKind.wrap .i64 ((IntKind.wrap .i64 (IntKind.wrap .u8 ((BitVec.ofInt 8 (List.getD v1 v3.toNat 0) &&& BitVec.ofInt 8 127).toNat))) * 2 ^ (min ((IntKind.wrap .i64 (7 * v3)).toNat) 64)))).toNat), IntKind.wrap .i64 (v3 + 1), IV.nil, ()), ())
     else
     bif decide (IntKind.wrap .i64 ((BitVec.ofInt 64 v2 ||| BitVec.ofInt 64 (IntKind.wrap .i64 ((IntKind.wrap .i64 (IntKind.wrap .u8 ((BitVec.ofInt 8 (List.getD v1 v3.toNat 0) &&& BitVec.ofInt 8 127).toNat))) * 2 ^ (min ((IntKind.wrap .i64 (7 * v3)).toNat) 64)))).toNat) > 1073741824) then
      some ((0, 0, IV.mk 78 [], ()), ())
     else
      some ((IntKind.wrap .i64 ((BitVec.ofInt 64 v2 ||| BitVec.ofInt 64 (IntKind.wrap .i64 ((IntKind.wrap .i64 (IntKind.wrap .u8 ((BitVec.ofInt 8 (List.getD v1 v3.toNat 0) &&& BitVec.ofInt 8 127).toNat))) * 2 ^ (min ((IntKind.wrap .i64 (7 * v3)).toNat) 64)))).toNat), IntKind.wrap .i64 (v3 + 1), IV.nil, ()), ())
    else none
   else none
  else
   some ((0, 0, IV.mk 78 [], ()), ())
 else
  some ((0, 0, IV.mk 78 [], ()), ())
noncomputable def bits_take_T (L1 : List Int → Int → Int → Option ((Int × Int × IV × Unit) × Unit)) (b_0 : List Int) : Option ((Int × Int × IV × Unit) × Unit) :=
 L1 b_0 0 0
noncomputable def bits_take_L1 (n : Nat) : Nat → List Int → Int → Int → Option ((Int × Int × IV × Unit) × Unit) := iter (fun _ _ _ => none) fun L => bits_take_B1 L
noncomputable def bits_take_X1 (n m : Nat) (v1 : List Int) (v2 : Int) (v3 : Int) : Option ((Int × Int × IV × Unit) × Unit) :=
 atLoop bits_take_Γ tab (fiB [.val t23] bits_take_fi) n [.val t23] [⟨t2, [false], none⟩, ⟨t2, [false], none⟩, ⟨t20, [false], none⟩] Try.f46 [1, 0, 0] [] [0, 2, 3] m
 ⟨[(0, SV.cv (CV.one (LV.pure t23 v1))), (2, SV.cv (CV.one (LV.pure t2 v2))), (3, SV.cv (CV.one (LV.pure t2 v3)))],
  []⟩
theorem bits_take_step1 (n m : Nat) (v1 : List Int) (v2 : Int) (v3 : Int) : bits_take_X1 n (m + 1) v1 v2 v3 = bits_take_B1 (bits_take_X1 n m) v1 v2 v3 := by kernel_rfl
theorem bits_take_start (n : Nat) (b_0 : List Int) : evFn bits_take_Γ tab bits_take_fi n [.val t23] [⟨t2, [false], none⟩, ⟨t2, [false], none⟩, ⟨t20, [false], none⟩] Try.f46 (b_0, ()) = bits_take_T (bits_take_X1 n n) b_0 := by kernel_rfl
theorem bits_take_XL1 (n : Nat) : ∀ m, bits_take_X1 n m = bits_take_L1 n m
 | 0 => rfl
 | m + 1 => by
  have ih := bits_take_XL1 n m
  funext v1 v2 v3
  rw [bits_take_step1, ih]
  rfl
noncomputable def bits_take_n (n : Nat) (b_0 : List Int) : Option ((Int × Int × IV × Unit) × Unit) := bits_take_T (bits_take_L1 n n) b_0
noncomputable def bits_take (b_0 : List Int) : Option ((Int × Int × IV × Unit) × Unit) := bits_take_n 1099511627776 b_0
theorem bits_take_eq (n : Nat) (b_0 : List Int) : evFn bits_take_Γ tab bits_take_fi n [.val t23] [⟨t2, [false], none⟩, ⟨t2, [false], none⟩, ⟨t20, [false], none⟩] Try.f46 (b_0, ()) = bits_take_n n b_0 := by
  rw [bits_take_start, bits_take_XL1 n n]
  rfl
noncomputable def bits_take_e : Ent := ⟨[.val t23], [⟨t2, [false], none⟩, ⟨t2, [false], none⟩, ⟨t20, [false], none⟩], fun x => bits_take x.1⟩
theorem bits_take_good : Good tab.ty Try.prog 46 bits_take_e := by
  refine fn_good (Γ := bits_take_Γ) (fi := bits_take_fi) (n := 1099511627776) follows gnil tabok Try.func46 (by kernel_rfl) (by kernel_rfl) (fun x r h => ?_)
  obtain ⟨b_0, _u⟩ := x
  exact (bits_take_eq 1099511627776 b_0).trans h
noncomputable def bits_Take_Γ : Ctx := [(46, bits_take_e)]
def bits_Take_fi : Fi := { keep := [], vty := [], vals := [], live := [(0, [0]), (1, [2, 3, 5]), (2, [2, 3, 7]), (3, [2, 3, 4])] }
noncomputable def bits_Take (b_0 : List Int) : Option ((Int × Int × Bool × Unit) × Unit) :=
 Option.bind (bits_take b_0) fun (r1 : (Int × Int × IV × Unit) × Unit) =>
 some ((r1.1.1, r1.1.2.1, !(IV.is r1.1.2.2.1 78), ()), ())
theorem bits_Take_eq (b_0 : List Int) : evFn bits_Take_Γ tab bits_Take_fi 1 [.val t23] [⟨t2, [false], none⟩, ⟨t2, [false], none⟩, ⟨t4, [false], none⟩] Try.f21 (b_0, ()) = bits_Take b_0 := by kernel_rfl
noncomputable def bits_Take_e : Ent := ⟨[.val t23], [⟨t2, [false], none⟩, ⟨t2, [false], none⟩, ⟨t4, [false], none⟩], fun x => bits_Take x.1⟩
theorem bits_Take_good : Good tab.ty Try.prog 21 bits_Take_e := by
  refine fn_good (Γ := bits_Take_Γ) (fi := bits_Take_fi) (n := 1) follows (gcons bits_take_good gnil) tabok Try.func21 (by kernel_rfl) (by kernel_rfl) (fun x r h => ?_)
  obtain ⟨b_0, _u⟩ := x
  exact (bits_Take_eq b_0).trans h
noncomputable def msg_reader_num_Γ : Ctx := [(21, bits_Take_e)]
def msg_reader_num_fi : Fi := { keep := [], vty := [], vals := [], live := [(0, [0, 1]), (1, [0, 1, 12]), (2, [0, 4]), (3, [0, 1, 5, 6, 7]), (4, [0, 1, 5, 6, 23]), (5, [0, 5, 6]), (6, [0, 5]), (7, [0, 4])] }
noncomputable def msg_reader_num (r_0 : (List Int) × IV) (what_1 : ByteArray) : Option ((Int × Unit) × (((List Int) × IV) × Unit)) :=
 bif !(IV.isNil r_0.2) then
  some ((0, ()), (r_0, ()))
 else
  Option.bind (bits_Take r_0.1) fun (r1 : (Int × Int × Bool × Unit) × Unit) =>
  bif !r1.1.2.2.1 then
   bif (decide (0 ≤ r1.1.2.1) && decide (r1.1.2.1 ≤ (r_0.1.length : Int))) && decide ((r_0.1.length : Int) ≤ (r_0.1.length : Int)) then
    some ((r1.1.1, ()), ((List.drop r1.1.2.1.toNat (List.take ((r_0.1.length : Int).toNat) r_0.1), IV.mk 112 [.str what_1]), ()))
   else none
  else
  bif (decide (0 ≤ r1.1.2.1) && decide (r1.1.2.1 ≤ (r_0.1.length : Int))) && decide ((r_0.1.length : Int) ≤ (r_0.1.length : Int)) then
   some ((r1.1.1, ()), ((List.drop r1.1.2.1.toNat (List.take ((r_0.1.length : Int).toNat) r_0.1), r_0.2), ()))
  else none
theorem msg_reader_num_eq (r_0 : (List Int) × IV) (what_1 : ByteArray) : evFn msg_reader_num_Γ tab msg_reader_num_fi 1 [.box 109 t88 [false, false], .val t9] [⟨t2, [false], none⟩] Try.f79 (r_0, what_1, ()) = msg_reader_num r_0 what_1 := by kernel_rfl
noncomputable def msg_reader_num_e : Ent := ⟨[.box 109 t88 [false, false], .val t9], [⟨t2, [false], none⟩], fun x => msg_reader_num x.1 x.2.1⟩
theorem msg_reader_num_good : Good tab.ty Try.prog 79 msg_reader_num_e := by
  refine fn_good (Γ := msg_reader_num_Γ) (fi := msg_reader_num_fi) (n := 1) follows (gcons bits_Take_good gnil) tabok Try.func79 (by kernel_rfl) (by kernel_rfl) (fun x r h => ?_)
  obtain ⟨r_0, what_1, _u⟩ := x
  exact (msg_reader_num_eq r_0 what_1).trans h
noncomputable def bits_TakeText_Γ : Ctx := [(21, bits_Take_e)]
def bits_TakeText_fi : Fi := { keep := [], vty := [], vals := [], live := [(0, [0, 15, 16, 17, 18, 19, 20]), (1, [0, 3, 4, 5, 15, 16, 17, 18, 19, 20]), (2, [0, 3, 5, 21]), (3, [2, 3, 4]), (4, [2, 3, 4])] }
noncomputable def bits_TakeText (b_0 : List Int) : Option ((ByteArray × Int × Bool × Unit) × Unit) :=
 Option.bind (bits_Take b_0) fun (r1 : (Int × Int × Bool × Unit) × Unit) =>
 bif !r1.1.2.2.1 then
  some (((⟨#[]⟩ : ByteArray), 0, false, ()), ())
 else
 bif decide (r1.1.1 > IntKind.wrap .i64 ((b_0.length : Int) - r1.1.2.1)) then
  some (((⟨#[]⟩ : ByteArray), 0, false, ()), ())
 else
 bif (decide (0 ≤ r1.1.2.1) && decide (r1.1.2.1 ≤ IntKind.wrap .i64 (r1.1.2.1 + r1.1.1))) && decide (IntKind.wrap .i64 (r1.1.2.1 + r1.1.1) ≤ (b_0.length : Int)) then
  some ((bytesOf (List.drop r1.1.2.1.toNat (List.take ((IntKind.wrap .i64 (r1.1.2.1 + r1.1.1)).toNat) b_0)), IntKind.wrap .i64 (r1.1.2.1 + r1.1.1), true, ()), ())
 else none
theorem bits_TakeText_eq (b_0 : List Int) : evFn bits_TakeText_Γ tab bits_TakeText_fi 1 [.val t23] [⟨t9, [false], none⟩, ⟨t2, [false], none⟩, ⟨t4, [false], none⟩] Try.f23 (b_0, ()) = bits_TakeText b_0 := by kernel_rfl
noncomputable def bits_TakeText_e : Ent := ⟨[.val t23], [⟨t9, [false], none⟩, ⟨t2, [false], none⟩, ⟨t4, [false], none⟩], fun x => bits_TakeText x.1⟩
theorem bits_TakeText_good : Good tab.ty Try.prog 23 bits_TakeText_e := by
  refine fn_good (Γ := bits_TakeText_Γ) (fi := bits_TakeText_fi) (n := 1) follows (gcons bits_Take_good gnil) tabok Try.func23 (by kernel_rfl) (by kernel_rfl) (fun x r h => ?_)
  obtain ⟨b_0, _u⟩ := x
  exact (bits_TakeText_eq b_0).trans h
noncomputable def msg_reader_text_Γ : Ctx := [(23, bits_TakeText_e)]
def msg_reader_text_fi : Fi := { keep := [], vty := [], vals := [], live := [(0, [0, 1]), (1, [0, 1, 12]), (2, [0, 4]), (3, [0, 1, 5, 6, 7]), (4, [0, 1, 5, 6, 23]), (5, [0, 5, 6]), (6, [0, 5]), (7, [0, 4])] }
noncomputable def msg_reader_text (r_0 : (List Int) × IV) (what_1 : ByteArray) : Option ((ByteArray × Unit) × (((List Int) × IV) × Unit)) :=
 bif !(IV.isNil r_0.2) then
  some (((⟨#[]⟩ : ByteArray), ()), (r_0, ()))
 else
  Option.bind (bits_TakeText r_0.1) fun (r1 : (ByteArray × Int × Bool × Unit) × Unit) =>
  bif !r1.1.2.2.1 then
   bif (decide (0 ≤ r1.1.2.1) && decide (r1.1.2.1 ≤ (r_0.1.length : Int))) && decide ((r_0.1.length : Int) ≤ (r_0.1.length : Int)) then
    some ((r1.1.1, ()), ((List.drop r1.1.2.1.toNat (List.take ((r_0.1.length : Int).toNat) r_0.1), IV.mk 112 [.str what_1]), ()))
   else none
  else
  bif (decide (0 ≤ r1.1.2.1) && decide (r1.1.2.1 ≤ (r_0.1.length : Int))) && decide ((r_0.1.length : Int) ≤ (r_0.1.length : Int)) then
   some ((r1.1.1, ()), ((List.drop r1.1.2.1.toNat (List.take ((r_0.1.length : Int).toNat) r_0.1), r_0.2), ()))
  else none
theorem msg_reader_text_eq (r_0 : (List Int) × IV) (what_1 : ByteArray) : evFn msg_reader_text_Γ tab msg_reader_text_fi 1 [.box 109 t88 [false, false], .val t9] [⟨t9, [false], none⟩] Try.f80 (r_0, what_1, ()) = msg_reader_text r_0 what_1 := by kernel_rfl
noncomputable def msg_reader_text_e : Ent := ⟨[.box 109 t88 [false, false], .val t9], [⟨t9, [false], none⟩], fun x => msg_reader_text x.1 x.2.1⟩
theorem msg_reader_text_good : Good tab.ty Try.prog 80 msg_reader_text_e := by
  refine fn_good (Γ := msg_reader_text_Γ) (fi := msg_reader_text_fi) (n := 1) follows (gcons bits_TakeText_good gnil) tabok Try.func80 (by kernel_rfl) (by kernel_rfl) (fun x r h => ?_)
  obtain ⟨r_0, what_1, _u⟩ := x
  exact (msg_reader_text_eq r_0 what_1).trans h
noncomputable def msg_reader_msg_Γ : Ctx := [(79, msg_reader_num_e), (80, msg_reader_text_e)]
def msg_reader_msg_fi : Fi := { keep := [], vty := [], vals := [], live := [(0, [0, 2, 34, 35, 36, 37, 38]), (1, [0, 2, 34, 35, 36, 37, 38]), (2, [0, 2, 34, 35, 36, 37, 38]), (3, [0, 2, 3, 34, 35, 36, 37, 38]), (4, [0, 2, 3, 25, 34, 35, 36, 37, 38]), (5, [0, 2, 3, 34, 35, 36, 37, 38]), (6, [0, 2, 3, 34, 35, 36, 37, 38, 39]), (7, [0, 2, 3, 34, 35, 36, 37, 38]), (8, [0, 2, 3, 34, 35, 36, 37, 38]), (9, [0, 2]), (10, [0, 2]), (11, [0, 2])] }
noncomputable def msg_reader_msg_B1 (L1 : Int → List Int → IV → Int → Int → Int → Int → Int → Int → Int → Int → ByteArray → List Int → Option (((Int × Int × Int × Int × Int × Int × (List Int) × Int × Int × ByteArray) × Unit) × (((List Int) × IV) × Unit))) (v8 : Int) (v9 : List Int) (v10 : IV) (v11 : Int) (v12 : Int) (v13 : Int) (v14 : Int) (v15 : Int) (v16 : Int) (v17 : Int) (v18 : Int) (v19 : ByteArray) (v20 : List Int) : Option (((Int × Int × Int × Int × Int × Int × (List Int) × Int × Int × ByteArray) × Unit) × (((List Int) × IV) × Unit)) :=
 bif decide (v8 > 0) then
  bif IV.isNil v10 then
   Option.bind (msg_reader_num (v9, v10) (⟨#[115, 116, 101, 112]⟩ : ByteArray)) fun (r21 : (Int × Unit) × (((List Int) × IV) × Unit)) =>
   bif Nat.ble (v20.length + 1) 1073741824 then
    L1 (IntKind.wrap .i64 (v8 - 1)) r21.2.1.1 r21.2.1.2 v11 v12 v13 v14 v15 v16 v17 v18 v19 (v20 ++ [r21.1.1])
   else none
  else
   Option.bind (msg_reader_num (v9, v10) (⟨#[108, 111]⟩ : ByteArray)) fun (r22 : (Int × Unit) × (((List Int) × IV) × Unit)) =>
   Option.bind (msg_reader_num r22.2.1 (⟨#[104, 105]⟩ : ByteArray)) fun (r23 : (Int × Unit) × (((List Int) × IV) × Unit)) =>
   Option.bind (msg_reader_text r23.2.1 (⟨#[116, 101, 120, 116]⟩ : ByteArray)) fun (r24 : (ByteArray × Unit) × (((List Int) × IV) × Unit)) =>
   some (((v11, v12, v13, v14, v15, v16, v20, r22.1.1, r23.1.1, r24.1.1), ()), (r24.2.1, ()))
 else
  Option.bind (msg_reader_num (v9, v10) (⟨#[108, 111]⟩ : ByteArray)) fun (r25 : (Int × Unit) × (((List Int) × IV) × Unit)) =>
  Option.bind (msg_reader_num r25.2.1 (⟨#[104, 105]⟩ : ByteArray)) fun (r26 : (Int × Unit) × (((List Int) × IV) × Unit)) =>
  Option.bind (msg_reader_text r26.2.1 (⟨#[116, 101, 120, 116]⟩ : ByteArray)) fun (r27 : (ByteArray × Unit) × (((List Int) × IV) × Unit)) =>
  some (((v11, v12, v13, v14, v15, v16, v20, r25.1.1, r26.1.1, r27.1.1), ()), (r27.2.1, ()))
noncomputable def msg_reader_msg_B2 (L3 : Int → List Int → IV → Int → Int → Int → Int → Int → Int → Int → Int → ByteArray → List Int → Option (((Int × Int × Int × Int × Int × Int × (List Int) × Int × Int × ByteArray) × Unit) × (((List Int) × IV) × Unit))) (v28 : Int) (v29 : Bool) (v30 : List Int) (v31 : IV) (v32 : Int) (v33 : Int) (v34 : Int) (v35 : Int) (v36 : Int) (v37 : Int) (v38 : Int) (v39 : Int) (v40 : ByteArray) (v41 : List Int) : Option (((Int × Int × Int × Int × Int × Int × (List Int) × Int × Int × ByteArray) × Unit) × (((List Int) × IV) × Unit)) :=
 bif decide (v28 > 0) then
  bif IV.isNil v31 then
   Option.bind (msg_reader_num (v30, v31) (⟨#[115, 116, 101, 112]⟩ : ByteArray)) fun (r42 : (Int × Unit) × (((List Int) × IV) × Unit)) =>
   bif Nat.ble (v41.length + 1) 1073741824 then
    L3 (IntKind.wrap .i64 (v28 - 1)) r42.2.1.1 r42.2.1.2 v32 v33 v34 v35 v36 v37 v38 v39 v40 (v41 ++ [r42.1.1])
   else none
  else
   Option.bind (msg_reader_num (v30, v31) (⟨#[108, 111]⟩ : ByteArray)) fun (r63 : (Int × Unit) × (((List Int) × IV) × Unit)) =>
   Option.bind (msg_reader_num r63.2.1 (⟨#[104, 105]⟩ : ByteArray)) fun (r64 : (Int × Unit) × (((List Int) × IV) × Unit)) =>
   Option.bind (msg_reader_text r64.2.1 (⟨#[116, 101, 120, 116]⟩ : ByteArray)) fun (r65 : (ByteArray × Unit) × (((List Int) × IV) × Unit)) =>
   some (((v32, v33, v34, v35, v36, v37, v41, r63.1.1, r64.1.1, r65.1.1), ()), (r65.2.1, ()))
 else
  Option.bind (msg_reader_num (v30, v31) (⟨#[108, 111]⟩ : ByteArray)) fun (r66 : (Int × Unit) × (((List Int) × IV) × Unit)) =>
  Option.bind (msg_reader_num r66.2.1 (⟨#[104, 105]⟩ : ByteArray)) fun (r67 : (Int × Unit) × (((List Int) × IV) × Unit)) =>
  Option.bind (msg_reader_text r67.2.1 (⟨#[116, 101, 120, 116]⟩ : ByteArray)) fun (r68 : (ByteArray × Unit) × (((List Int) × IV) × Unit)) =>
  some (((v32, v33, v34, v35, v36, v37, v41, r66.1.1, r67.1.1, r68.1.1), ()), (r68.2.1, ()))
noncomputable def msg_reader_msg_B3 (L3 : Int → List Int → IV → Int → Int → Int → Int → Int → Int → Int → Int → ByteArray → List Int → Option (((Int × Int × Int × Int × Int × Int × (List Int) × Int × Int × ByteArray) × Unit) × (((List Int) × IV) × Unit))) (v43 : Int) (v44 : List Int) (v45 : IV) (v46 : Int) (v47 : Int) (v48 : Int) (v49 : Int) (v50 : Int) (v51 : Int) (v52 : Int) (v53 : Int) (v54 : ByteArray) (v55 : List Int) : Option (((Int × Int × Int × Int × Int × Int × (List Int) × Int × Int × ByteArray) × Unit) × (((List Int) × IV) × Unit)) :=
 bif decide (v43 > 0) then
  bif IV.isNil v45 then
   Option.bind (msg_reader_num (v44, v45) (⟨#[115, 116, 101, 112]⟩ : ByteArray)) fun (r56 : (Int × Unit) × (((List Int) × IV) × Unit)) =>
   bif Nat.ble (v55.length + 1) 1073741824 then
    L3 (IntKind.wrap .i64 (v43 - 1)) r56.2.1.1 r56.2.1.2 v46 v47 v48 v49 v50 v51 v52 v53 v54 (v55 ++ [r56.1.1])
   else none
  else
   Option.bind (msg_reader_num (v44, v45) (⟨#[108, 111]⟩ : ByteArray)) fun (r57 : (Int × Unit) × (((List Int) × IV) × Unit)) =>
   Option.bind (msg_reader_num r57.2.1 (⟨#[104, 105]⟩ : ByteArray)) fun (r58 : (Int × Unit) × (((List Int) × IV) × Unit)) =>
   Option.bind (msg_reader_text r58.2.1 (⟨#[116, 101, 120, 116]⟩ : ByteArray)) fun (r59 : (ByteArray × Unit) × (((List Int) × IV) × Unit)) =>
   some (((v46, v47, v48, v49, v50, v51, v55, r57.1.1, r58.1.1, r59.1.1), ()), (r59.2.1, ()))
 else
  Option.bind (msg_reader_num (v44, v45) (⟨#[108, 111]⟩ : ByteArray)) fun (r60 : (Int × Unit) × (((List Int) × IV) × Unit)) =>
  Option.bind (msg_reader_num r60.2.1 (⟨#[104, 105]⟩ : ByteArray)) fun (r61 : (Int × Unit) × (((List Int) × IV) × Unit)) =>
  Option.bind (msg_reader_text r61.2.1 (⟨#[116, 101, 120, 116]⟩ : ByteArray)) fun (r62 : (ByteArray × Unit) × (((List Int) × IV) × Unit)) =>
  some (((v46, v47, v48, v49, v50, v51, v55, r60.1.1, r61.1.1, r62.1.1), ()), (r62.2.1, ()))
noncomputable def msg_reader_msg_T (L1 : Int → List Int → IV → Int → Int → Int → Int → Int → Int → Int → Int → ByteArray → List Int → Option (((Int × Int × Int × Int × Int × Int × (List Int) × Int × Int × ByteArray) × Unit) × (((List Int) × IV) × Unit))) (L2 : Int → Bool → List Int → IV → Int → Int → Int → Int → Int → Int → Int → Int → ByteArray → List Int → Option (((Int × Int × Int × Int × Int × Int × (List Int) × Int × Int × ByteArray) × Unit) × (((List Int) × IV) × Unit))) (r_0 : (List Int) × IV) : Option (((Int × Int × Int × Int × Int × Int × (List Int) × Int × Int × ByteArray) × Unit) × (((List Int) × IV) × Unit)) :=
 Option.bind (msg_reader_num r_0 (⟨#[107, 105, 110, 100]⟩ : ByteArray)) fun (r1 : (Int × Unit) × (((List Int) × IV) × Unit)) =>
 Option.bind (msg_reader_num r1.2.1 (⟨#[102, 114, 111, 109]⟩ : ByteArray)) fun (r2 : (Int × Unit) × (((List Int) × IV) × Unit)) =>
 Option.bind (msg_reader_num r2.2.1 (⟨#[116, 111]⟩ : ByteArray)) fun (r3 : (Int × Unit) × (((List Int) × IV) × Unit)) =>
 Option.bind (msg_reader_num r3.2.1 (⟨#[105, 110, 99]⟩ : ByteArray)) fun (r4 : (Int × Unit) × (((List Int) × IV) × Unit)) =>
 Option.bind (msg_reader_num r4.2.1 (⟨#[101, 112, 111, 99, 104]⟩ : ByteArray)) fun (r5 : (Int × Unit) × (((List Int) × IV) × Unit)) =>
 Option.bind (msg_reader_num r5.2.1 (⟨#[97, 103, 101]⟩ : ByteArray)) fun (r6 : (Int × Unit) × (((List Int) × IV) × Unit)) =>
 Option.bind (msg_reader_num r6.2.1 (⟨#[119, 97, 121]⟩ : ByteArray)) fun (r7 : (Int × Unit) × (((List Int) × IV) × Unit)) =>
 bif decide (r7.1.1 > 64) then
  L1 r7.1.1 r7.2.1.1 (IV.mk 112 [.str (⟨#[119, 97, 121]⟩ : ByteArray)]) r1.1.1 r2.1.1 r3.1.1 r4.1.1 r5.1.1 r6.1.1 0 0 (⟨#[]⟩ : ByteArray) []
 else
  L2 r7.1.1 (decide (r7.1.1 > 64)) r7.2.1.1 r7.2.1.2 r1.1.1 r2.1.1 r3.1.1 r4.1.1 r5.1.1 r6.1.1 0 0 (⟨#[]⟩ : ByteArray) []
noncomputable def msg_reader_msg_L1 (n : Nat) : Nat → Int → List Int → IV → Int → Int → Int → Int → Int → Int → Int → Int → ByteArray → List Int → Option (((Int × Int × Int × Int × Int × Int × (List Int) × Int × Int × ByteArray) × Unit) × (((List Int) × IV) × Unit)) := iter (fun _ _ _ _ _ _ _ _ _ _ _ _ _ => none) fun L => msg_reader_msg_B1 L
noncomputable def msg_reader_msg_L3 (n : Nat) : Nat → Int → List Int → IV → Int → Int → Int → Int → Int → Int → Int → Int → ByteArray → List Int → Option (((Int × Int × Int × Int × Int × Int × (List Int) × Int × Int × ByteArray) × Unit) × (((List Int) × IV) × Unit)) := iter (fun _ _ _ _ _ _ _ _ _ _ _ _ _ => none) fun L => msg_reader_msg_B3 L
noncomputable def msg_reader_msg_L2 (n : Nat) : Nat → Int → Bool → List Int → IV → Int → Int → Int → Int → Int → Int → Int → Int → ByteArray → List Int → Option (((Int × Int × Int × Int × Int × Int × (List Int) × Int × Int × ByteArray) × Unit) × (((List Int) × IV) × Unit)) := iterN (fun _ _ _ _ _ _ _ _ _ _ _ _ _ _ => none) fun m L => msg_reader_msg_B2 (msg_reader_msg_L3 n m)
noncomputable def msg_reader_msg_X1 (n m : Nat) (v8 : Int) (v9 : List Int) (v10 : IV) (v11 : Int) (v12 : Int) (v13 : Int) (v14 : Int) (v15 : Int) (v16 : Int) (v17 : Int) (v18 : Int) (v19 : ByteArray) (v20 : List Int) : Option (((Int × Int × Int × Int × Int × Int × (List Int) × Int × Int × ByteArray) × Unit) × (((List Int) × IV) × Unit)) :=
 atLoop msg_reader_msg_Γ tab (fiB [.box 109 t88 [false, false]] msg_reader_msg_fi) n [.box 109 t88 [false, false]] [⟨t58, [false, false, false, false, false, false, true, false, false, false], none⟩] Try.f66 [1, 1, 1, 1, 1, 0, 0] [] [0, 2, 3] m
 ⟨[(0, SV.cv (CV.one (LV.ptr (0, 0) 0))), (2, SV.cv (CV.one (LV.ptr (2, 0) 0))), (3, SV.cv (CV.one (LV.pure t2 v8)))],
  [((0, 0), Ob.box 109 [LV.pure t23 v9, LV.pure t20 v10]), ((2, 0), Ob.box 59 [LV.pure t2 v11, LV.pure t2 v12, LV.pure t2 v13, LV.pure t2 v14, LV.pure t2 v15, LV.pure t2 v16, LV.ref (2, 7), LV.pure t2 v17, LV.pure t2 v18, LV.pure t9 v19]), ((2, 7), Ob.row 3 t2 v20)]⟩
noncomputable def msg_reader_msg_X2 (n m : Nat) (v28 : Int) (v29 : Bool) (v30 : List Int) (v31 : IV) (v32 : Int) (v33 : Int) (v34 : Int) (v35 : Int) (v36 : Int) (v37 : Int) (v38 : Int) (v39 : Int) (v40 : ByteArray) (v41 : List Int) : Option (((Int × Int × Int × Int × Int × Int × (List Int) × Int × Int × ByteArray) × Unit) × (((List Int) × IV) × Unit)) :=
 atLoop msg_reader_msg_Γ tab (fiB [.box 109 t88 [false, false]] msg_reader_msg_fi) n [.box 109 t88 [false, false]] [⟨t58, [false, false, false, false, false, false, true, false, false, false], none⟩] Try.f66 [1, 1, 1, 1, 1, 0, 0] [] [0, 2, 3, 25] m
 ⟨[(0, SV.cv (CV.one (LV.ptr (0, 0) 0))), (2, SV.cv (CV.one (LV.ptr (2, 0) 0))), (3, SV.cv (CV.one (LV.pure t2 v28))), (25, SV.cv (CV.one (LV.pure t4 v29)))],
  [((0, 0), Ob.box 109 [LV.pure t23 v30, LV.pure t20 v31]), ((2, 0), Ob.box 59 [LV.pure t2 v32, LV.pure t2 v33, LV.pure t2 v34, LV.pure t2 v35, LV.pure t2 v36, LV.pure t2 v37, LV.ref (2, 7), LV.pure t2 v38, LV.pure t2 v39, LV.pure t9 v40]), ((2, 7), Ob.row 3 t2 v41)]⟩
noncomputable def msg_reader_msg_X3 (n m : Nat) (v43 : Int) (v44 : List Int) (v45 : IV) (v46 : Int) (v47 : Int) (v48 : Int) (v49 : Int) (v50 : Int) (v51 : Int) (v52 : Int) (v53 : Int) (v54 : ByteArray) (v55 : List Int) : Option (((Int × Int × Int × Int × Int × Int × (List Int) × Int × Int × ByteArray) × Unit) × (((List Int) × IV) × Unit)) :=
 atLoop msg_reader_msg_Γ tab (fiB [.box 109 t88 [false, false]] msg_reader_msg_fi) n [.box 109 t88 [false, false]] [⟨t58, [false, false, false, false, false, false, true, false, false, false], none⟩] Try.f66 [1, 1, 1, 1, 1, 0, 0] [] [0, 2, 3, 25] m
 ⟨[(0, SV.cv (CV.one (LV.ptr (0, 0) 0))), (2, SV.cv (CV.one (LV.ptr (2, 0) 0))), (3, SV.cv (CV.one (LV.pure t2 v43)))],
  [((0, 0), Ob.box 109 [LV.pure t23 v44, LV.pure t20 v45]), ((2, 0), Ob.box 59 [LV.pure t2 v46, LV.pure t2 v47, LV.pure t2 v48, LV.pure t2 v49, LV.pure t2 v50, LV.pure t2 v51, LV.ref (2, 7), LV.pure t2 v52, LV.pure t2 v53, LV.pure t9 v54]), ((2, 7), Ob.row 3 t2 v55)]⟩
theorem msg_reader_msg_step1 (n m : Nat) (v8 : Int) (v9 : List Int) (v10 : IV) (v11 : Int) (v12 : Int) (v13 : Int) (v14 : Int) (v15 : Int) (v16 : Int) (v17 : Int) (v18 : Int) (v19 : ByteArray) (v20 : List Int) : msg_reader_msg_X1 n (m + 1) v8 v9 v10 v11 v12 v13 v14 v15 v16 v17 v18 v19 v20 = msg_reader_msg_B1 (msg_reader_msg_X1 n m) v8 v9 v10 v11 v12 v13 v14 v15 v16 v17 v18 v19 v20 := by kernel_rfl
theorem msg_reader_msg_step2 (n m : Nat) (v28 : Int) (v29 : Bool) (v30 : List Int) (v31 : IV) (v32 : Int) (v33 : Int) (v34 : Int) (v35 : Int) (v36 : Int) (v37 : Int) (v38 : Int) (v39 : Int) (v40 : ByteArray) (v41 : List Int) : msg_reader_msg_X2 n (m + 1) v28 v29 v30 v31 v32 v33 v34 v35 v36 v37 v38 v39 v40 v41 = msg_reader_msg_B2 (msg_reader_msg_X3 n m) v28 v29 v30 v31 v32 v33 v34 v35 v36 v37 v38 v39 v40 v41 := by kernel_rfl
theorem msg_reader_msg_step3 (n m : Nat) (v43 : Int) (v44 : List Int) (v45 : IV) (v46 : Int) (v47 : Int) (v48 : Int) (v49 : Int) (v50 : Int) (v51 : Int) (v52 : Int) (v53 : Int) (v54 : ByteArray) (v55 : List Int) : msg_reader_msg_X3 n (m + 1) v43 v44 v45 v46 v47 v48 v49 v50 v51 v52 v53 v54 v55 = msg_reader_msg_B3 (msg_reader_msg_X3 n m) v43 v44 v45 v46 v47 v48 v49 v50 v51 v52 v53 v54 v55 := by kernel_rfl
theorem msg_reader_msg_start (n : Nat) (r_0 : (List Int) × IV) : evFn msg_reader_msg_Γ tab msg_reader_msg_fi n [.box 109 t88 [false, false]] [⟨t58, [false, false, false, false, false, false, true, false, false, false], none⟩] Try.f66 (r_0, ()) = msg_reader_msg_T (msg_reader_msg_X1 n n) (msg_reader_msg_X2 n n) r_0 := by kernel_rfl
theorem msg_reader_msg_XL1 (n : Nat) : ∀ m, msg_reader_msg_X1 n m = msg_reader_msg_L1 n m
 | 0 => rfl
 | m + 1 => by
  have ih := msg_reader_msg_XL1 n m
  funext v8 v9 v10 v11 v12 v13 v14 v15 v16 v17 v18 v19 v20
  rw [msg_reader_msg_step1, ih]
  rfl
theorem msg_reader_msg_XL3 (n : Nat) : ∀ m, msg_reader_msg_X3 n m = msg_reader_msg_L3 n m
 | 0 => rfl
 | m + 1 => by
  have ih := msg_reader_msg_XL3 n m
  funext v43 v44 v45 v46 v47 v48 v49 v50 v51 v52 v53 v54 v55
  rw [msg_reader_msg_step3, ih]
  rfl
theorem msg_reader_msg_XL2 (n : Nat) : ∀ m, msg_reader_msg_X2 n m = msg_reader_msg_L2 n m
 | 0 => rfl
 | m + 1 => by
  have ih := msg_reader_msg_XL2 n m
  funext v28 v29 v30 v31 v32 v33 v34 v35 v36 v37 v38 v39 v40 v41
  rw [msg_reader_msg_step2, msg_reader_msg_XL3 n m]
  rfl
noncomputable def msg_reader_msg_n (n : Nat) (r_0 : (List Int) × IV) : Option (((Int × Int × Int × Int × Int × Int × (List Int) × Int × Int × ByteArray) × Unit) × (((List Int) × IV) × Unit)) := msg_reader_msg_T (msg_reader_msg_L1 n n) (msg_reader_msg_L2 n n) r_0
noncomputable def msg_reader_msg (r_0 : (List Int) × IV) : Option (((Int × Int × Int × Int × Int × Int × (List Int) × Int × Int × ByteArray) × Unit) × (((List Int) × IV) × Unit)) := msg_reader_msg_n 1099511627776 r_0
theorem msg_reader_msg_eq (n : Nat) (r_0 : (List Int) × IV) : evFn msg_reader_msg_Γ tab msg_reader_msg_fi n [.box 109 t88 [false, false]] [⟨t58, [false, false, false, false, false, false, true, false, false, false], none⟩] Try.f66 (r_0, ()) = msg_reader_msg_n n r_0 := by
  rw [msg_reader_msg_start, msg_reader_msg_XL1 n n, msg_reader_msg_XL2 n n]
  rfl
noncomputable def msg_reader_msg_e : Ent := ⟨[.box 109 t88 [false, false]], [⟨t58, [false, false, false, false, false, false, true, false, false, false], none⟩], fun x => msg_reader_msg x.1⟩
theorem msg_reader_msg_good : Good tab.ty Try.prog 66 msg_reader_msg_e := by
  refine fn_good (Γ := msg_reader_msg_Γ) (fi := msg_reader_msg_fi) (n := 1099511627776) follows (gcons msg_reader_num_good (gcons msg_reader_text_good gnil)) tabok Try.func66 (by kernel_rfl) (by kernel_rfl) (fun x r h => ?_)
  obtain ⟨r_0, _u⟩ := x
  exact (msg_reader_msg_eq 1099511627776 r_0).trans h
noncomputable def slices_Equal_byte_Γ : Ctx := []
def slices_Equal_byte_fi : Fi := { keep := [], vty := [], vals := [], live := [(0, [0, 1]), (1, [0, 1, 10]), (2, [4]), (3, [0, 1, 12, 13]), (4, [0, 1, 12, 13, 14]), (5, [0, 1, 5, 12, 13]), (6, [0, 1, 12, 13, 24]), (7, [4]), (8, [0, 1, 12, 13]), (9, [4])] }
noncomputable def slices_Equal_byte_B1 (L1 : List Int → List Int → Int → Int → Option ((Bool × Unit) × Unit)) (v1 : List Int) (v2 : List Int) (v3 : Int) (v4 : Int) : Option ((Bool × Unit) × Unit) :=
 bif decide (v4 < v3) then
  bif decide (0 ≤ v4) && decide (v4 < (v1.length : Int)) then
   bif decide (0 ≤ v4) && decide (v4 < (v2.length : Int)) then
    bif (List.getD v1 v4.toNat 0) != (List.getD v2 v4.toNat 0) then
     some ((false, ()), ())
    else
     L1 v1 v2 v3 (IntKind.wrap .i64 (v4 + 1))
   else none
  else none
 else
  some ((true, ()), ())
noncomputable def slices_Equal_byte_T (L1 : List Int → List Int → Int → Int → Option ((Bool × Unit) × Unit)) (s1_0 : List Int) (s2_1 : List Int) : Option ((Bool × Unit) × Unit) :=
 bif (s1_0.length : Int) != (s2_1.length : Int) then
  some ((false, ()), ())
 else
  L1 s1_0 s2_1 (s1_0.length : Int) 0
noncomputable def slices_Equal_byte_L1 (n : Nat) : Nat → List Int → List Int → Int → Int → Option ((Bool × Unit) × Unit) := iter (fun _ _ _ _ => none) fun L => slices_Equal_byte_B1 L
noncomputable def slices_Equal_byte_X1 (n m : Nat) (v1 : List Int) (v2 : List Int) (v3 : Int) (v4 : Int) : Option ((Bool × Unit) × Unit) :=
 atLoop slices_Equal_byte_Γ tab (fiB [.val t23, .val t23] slices_Equal_byte_fi) n [.val t23, .val t23] [⟨t4, [false], none⟩] Try.f67 [1, 1, 0, 1, 0] [] [0, 1, 12, 13] m
 ⟨[(0, SV.cv (CV.one (LV.pure t23 v1))), (1, SV.cv (CV.one (LV.pure t23 v2))), (12, SV.cv (CV.one (LV.pure t2 v3))), (13, SV.cv (CV.one (LV.pure t2 v4)))],
  []⟩
theorem slices_Equal_byte_step1 (n m : Nat) (v1 : List Int) (v2 : List Int) (v3 : Int) (v4 : Int) : slices_Equal_byte_X1 n (m + 1) v1 v2 v3 v4 = slices_Equal_byte_B1 (slices_Equal_byte_X1 n m) v1 v2 v3 v4 := by kernel_rfl
theorem slices_Equal_byte_start (n : Nat) (s1_0 : List Int) (s2_1 : List Int) : evFn slices_Equal_byte_Γ tab slices_Equal_byte_fi n [.val t23, .val t23] [⟨t4, [false], none⟩] Try.f67 (s1_0, s2_1, ()) = slices_Equal_byte_T (slices_Equal_byte_X1 n n) s1_0 s2_1 := by kernel_rfl
theorem slices_Equal_byte_XL1 (n : Nat) : ∀ m, slices_Equal_byte_X1 n m = slices_Equal_byte_L1 n m
 | 0 => rfl
 | m + 1 => by
  have ih := slices_Equal_byte_XL1 n m
  funext v1 v2 v3 v4
  rw [slices_Equal_byte_step1, ih]
  rfl
noncomputable def slices_Equal_byte_n (n : Nat) (s1_0 : List Int) (s2_1 : List Int) : Option ((Bool × Unit) × Unit) := slices_Equal_byte_T (slices_Equal_byte_L1 n n) s1_0 s2_1
noncomputable def slices_Equal_byte (s1_0 : List Int) (s2_1 : List Int) : Option ((Bool × Unit) × Unit) := slices_Equal_byte_n 1099511627776 s1_0 s2_1
theorem slices_Equal_byte_eq (n : Nat) (s1_0 : List Int) (s2_1 : List Int) : evFn slices_Equal_byte_Γ tab slices_Equal_byte_fi n [.val t23, .val t23] [⟨t4, [false], none⟩] Try.f67 (s1_0, s2_1, ()) = slices_Equal_byte_n n s1_0 s2_1 := by
  rw [slices_Equal_byte_start, slices_Equal_byte_XL1 n n]
  rfl
noncomputable def slices_Equal_byte_e : Ent := ⟨[.val t23, .val t23], [⟨t4, [false], none⟩], fun x => slices_Equal_byte x.1 x.2.1⟩
theorem slices_Equal_byte_good : Good tab.ty Try.prog 67 slices_Equal_byte_e := by
  refine fn_good (Γ := slices_Equal_byte_Γ) (fi := slices_Equal_byte_fi) (n := 1099511627776) follows gnil tabok Try.func67 (by kernel_rfl) (by kernel_rfl) (fun x r h => ?_)
  obtain ⟨s1_0, s2_1, _u⟩ := x
  exact (slices_Equal_byte_eq 1099511627776 s1_0 s2_1).trans h
noncomputable def msg_Take_Γ : Ctx := [(39, msg_Put_e), (66, msg_reader_msg_e), (67, slices_Equal_byte_e)]
def msg_Take_fi : Fi := { keep := [], vty := [], vals := [], live := [(0, [0, 2, 34, 35, 38, 39, 40, 41]), (1, [0, 2, 11, 34, 35, 38, 39, 40, 41]), (2, [2, 3]), (3, [0, 2, 4, 34, 35, 38, 39, 40, 41]), (4, [0, 2, 4, 5, 34, 35, 38, 39, 40, 41]), (5, [0, 2, 5, 7, 34, 35, 38, 39, 40, 41]), (6, [0, 2, 5, 7, 8, 34, 35, 38, 39, 40, 41]), (7, [2, 5, 42]), (8, [2, 3]), (9, [2, 3])] }
noncomputable def msg_Take_raw (bothEq : Option (((Int × Int × Int × Int × Int × Int × (List Int) × Int × Int × ByteArray) × Bool × Unit) × Unit) → Option (((Int × Int × Int × Int × Int × Int × (List Int) × Int × Int × ByteArray) × Bool × Unit) × Unit) → Option (((Int × Int × Int × Int × Int × Int × (List Int) × Int × Int × ByteArray) × Bool × Unit) × Unit)) (b_0 : List Int) : Option (((Int × Int × Int × Int × Int × Int × (List Int) × Int × Int × ByteArray) × Bool × Unit) × Unit) :=
 bif decide ((b_0.length : Int) < 4) then
  some (((0, 0, 0, 0, 0, 0, [], 0, 0, (⟨#[]⟩ : ByteArray)), false, ()), ())
 else
 bif decide (0 ≤ IntKind.wrap .i64 ((b_0.length : Int) - 4)) && decide (IntKind.wrap .i64 ((b_0.length : Int) - 4) ≤ (b_0.length : Int)) then
  Option.bind (msg_reader_msg (List.drop 0 (List.take ((IntKind.wrap .i64 ((b_0.length : Int) - 4)).toNat) b_0), IV.nil)) fun (r1 : ((Int × Int × Int × Int × Int × Int × (List Int) × Int × Int × ByteArray) × Unit) × (((List Int) × IV) × Unit)) =>
  Option.bind (msg_Put r1.1.1) fun (r2 : ((List Int) × Unit) × Unit) =>
  bif IV.is r1.2.1.2 112 then
   some (((0, 0, 0, 0, 0, 0, [], 0, 0, (⟨#[]⟩ : ByteArray)), false, ()), ())
  else
  bif !(List.isEmpty r2.1.1) then
   Option.bind (slices_Equal_byte r2.1.1 b_0) fun (r3 : (Bool × Unit) × Unit) =>
   bif !r3.1.1 then
    some (((0, 0, 0, 0, 0, 0, [], 0, 0, (⟨#[]⟩ : ByteArray)), false, ()), ())
   else
    some ((r1.1.1, true, ()), ())
  else
   bothEq (
    some (((0, 0, 0, 0, 0, 0, [], 0, 0, (⟨#[]⟩ : ByteArray)), false, ()), ())) (
    Option.bind (slices_Equal_byte r2.1.1 b_0) fun (r4 : (Bool × Unit) × Unit) =>
    bif !r4.1.1 then
     some (((0, 0, 0, 0, 0, 0, [], 0, 0, (⟨#[]⟩ : ByteArray)), false, ()), ())
    else
     some ((r1.1.1, true, ()), ()))
 else none
noncomputable def msg_Take (b_0 : List Int) : Option (((Int × Int × Int × Int × Int × Int × (List Int) × Int × Int × ByteArray) × Bool × Unit) × Unit) := msg_Take_raw (@bothDec _ (@instDecidableEqProd _ _ (@instDecidableEqProd _ _ (@instDecidableEqProd _ _ inferInstance (@instDecidableEqProd _ _ inferInstance (@instDecidableEqProd _ _ inferInstance (@instDecidableEqProd _ _ inferInstance (@instDecidableEqProd _ _ inferInstance (@instDecidableEqProd _ _ inferInstance (@instDecidableEqProd _ _ inferInstance (@instDecidableEqProd _ _ inferInstance (@instDecidableEqProd _ _ inferInstance inferInstance))))))))) (@instDecidableEqProd _ _ inferInstance inferInstance)) inferInstance)) b_0
theorem msg_Take_eq0 (b_0 : List Int) : evFn msg_Take_Γ tab msg_Take_fi 1 [.val t23] [⟨t58, [false, false, false, false, false, false, true, false, false, false], none⟩, ⟨t4, [false], none⟩] Try.f43 (b_0, ()) = msg_Take_raw bothEq b_0 := by kernel_rfl
theorem msg_Take_eq (b_0 : List Int) : evFn msg_Take_Γ tab msg_Take_fi 1 [.val t23] [⟨t58, [false, false, false, false, false, false, true, false, false, false], none⟩, ⟨t4, [false], none⟩] Try.f43 (b_0, ()) = msg_Take b_0 := (msg_Take_eq0 b_0).trans (congrArg (fun b => msg_Take_raw b b_0) (@bothEq_dec _ (@instDecidableEqProd _ _ (@instDecidableEqProd _ _ (@instDecidableEqProd _ _ inferInstance (@instDecidableEqProd _ _ inferInstance (@instDecidableEqProd _ _ inferInstance (@instDecidableEqProd _ _ inferInstance (@instDecidableEqProd _ _ inferInstance (@instDecidableEqProd _ _ inferInstance (@instDecidableEqProd _ _ inferInstance (@instDecidableEqProd _ _ inferInstance (@instDecidableEqProd _ _ inferInstance inferInstance))))))))) (@instDecidableEqProd _ _ inferInstance inferInstance)) inferInstance)))
noncomputable def msg_Take_e : Ent := ⟨[.val t23], [⟨t58, [false, false, false, false, false, false, true, false, false, false], none⟩, ⟨t4, [false], none⟩], fun x => msg_Take x.1⟩
theorem msg_Take_good : Good tab.ty Try.prog 43 msg_Take_e := by
  refine fn_good (Γ := msg_Take_Γ) (fi := msg_Take_fi) (n := 1) follows (gcons msg_Put_good (gcons msg_reader_msg_good (gcons slices_Equal_byte_good gnil))) tabok Try.func43 (by kernel_rfl) (by kernel_rfl) (fun x r h => ?_)
  obtain ⟨b_0, _u⟩ := x
  exact (msg_Take_eq b_0).trans h
noncomputable def pleachlaw12_begun_Γ : Ctx := [(37, msg_May_e), (39, msg_Put_e), (41, msg_Same_e), (43, msg_Take_e)]
def pleachlaw12_begun_fi : Fi := { keep := [], vty := [], vals := [], live := [(0, [22, 23, 24, 27, 28, 29, 32, 35, 36, 37, 40, 41]), (1, [1, 22, 23, 24, 27, 28, 29, 32, 35, 36, 37, 40, 41]), (2, [1, 2, 22, 23, 24, 27, 28, 29, 32, 35, 36, 37, 40, 41]), (3, [1, 2, 3, 4, 22, 23, 24, 27, 28, 29, 32, 35, 36, 37, 40, 41]), (4, [1, 2, 3, 4, 6, 22, 23, 24, 27, 28, 29, 32, 35, 36, 37, 40, 41]), (5, [0])] }
noncomputable def pleachlaw12_begun  : Option ((Bool × Unit) × Unit) :=
 Option.bind (msg_Put (7, 1, 2, 3, 0, 0, [], 4, 0, (⟨#[120]⟩ : ByteArray))) fun (r1 : ((List Int) × Unit) × Unit) =>
 Option.bind (msg_Take r1.1.1) fun (r2 : ((Int × Int × Int × Int × Int × Int × (List Int) × Int × Int × ByteArray) × Bool × Unit) × Unit) =>
 Option.bind (msg_Take []) fun (r3 : ((Int × Int × Int × Int × Int × Int × (List Int) × Int × Int × ByteArray) × Bool × Unit) × Unit) =>
 Option.bind (msg_May (7, 1, 2, 3, 0, 0, [], 4, 0, (⟨#[120]⟩ : ByteArray))) fun (r4 : (Bool × Unit) × Unit) =>
 bif r4.1.1 then
  Option.bind (msg_May (0, 0, 0, 0, 0, 0, [], 0, 0, (⟨#[]⟩ : ByteArray))) fun (r5 : (Bool × Unit) × Unit) =>
  bif !r5.1.1 then
   bif (r1.1.1.length : Int) == 15 then
    bif r2.1.2.1 then
     Option.bind (msg_Same r2.1.1 (7, 1, 2, 3, 0, 0, [], 4, 0, (⟨#[120]⟩ : ByteArray))) fun (r6 : (Bool × Unit) × Unit) =>
     bif r6.1.1 then
      some ((!r3.1.2.1, ()), ())
     else
      some ((false, ()), ())
    else
     some ((false, ()), ())
   else
    some ((false, ()), ())
  else
   some ((false, ()), ())
 else
  some ((false, ()), ())
theorem pleachlaw12_begun_eq  : evFn pleachlaw12_begun_Γ tab pleachlaw12_begun_fi 1 [] [⟨t4, [false], none⟩] Try.f34 () = pleachlaw12_begun  := by kernel_rfl
noncomputable def pleachlaw12_begun_e : Ent := ⟨[], [⟨t4, [false], none⟩], fun x => pleachlaw12_begun⟩
theorem pleachlaw12_begun_good : Good tab.ty Try.prog 34 pleachlaw12_begun_e := by
  refine fn_good (Γ := pleachlaw12_begun_Γ) (fi := pleachlaw12_begun_fi) (n := 1) follows (gcons msg_May_good (gcons msg_Put_good (gcons msg_Same_good (gcons msg_Take_good gnil)))) tabok Try.func34 (by kernel_rfl) (by kernel_rfl) (fun x r h => ?_)
  obtain _u := x
  exact (pleachlaw12_begun_eq ).trans h
noncomputable def pleachlaw12_Light_Γ : Ctx := []
def pleachlaw12_Light_fi : Fi := { keep := [], vty := [], vals := [], live := [(0, [1, 8, 9, 10, 11]), (1, [2])] }
noncomputable def pleachlaw12_Light (m_0 : Int × Int × Int × Int × Int × Int × (List Int) × Int × Int × ByteArray) : Option ((Bool × Unit) × Unit) :=
 bif decide ((m_0.2.2.2.2.2.2.1.length : Int) ≤ 12) then
  some ((decide ((m_0.2.2.2.2.2.2.2.2.2.size : Int) ≤ 30), ()), ())
 else
  some ((false, ()), ())
theorem pleachlaw12_Light_eq (m_0 : Int × Int × Int × Int × Int × Int × (List Int) × Int × Int × ByteArray) : evFn pleachlaw12_Light_Γ tab pleachlaw12_Light_fi 1 [.val t58] [⟨t4, [false], none⟩] Try.f35 (m_0, ()) = pleachlaw12_Light m_0 := by kernel_rfl
noncomputable def pleachlaw12_Light_e : Ent := ⟨[.val t58], [⟨t4, [false], none⟩], fun x => pleachlaw12_Light x.1⟩
theorem pleachlaw12_Light_good : Good tab.ty Try.prog 35 pleachlaw12_Light_e := by
  refine fn_good (Γ := pleachlaw12_Light_Γ) (fi := pleachlaw12_Light_fi) (n := 1) follows gnil tabok Try.func35 (by kernel_rfl) (by kernel_rfl) (fun x r h => ?_)
  obtain ⟨m_0, _u⟩ := x
  exact (pleachlaw12_Light_eq m_0).trans h
noncomputable def pleachmade_Made_Γ : Ctx := []
def pleachmade_Made_fi : Fi := { keep := [], vty := [], vals := [], live := [(0, [0]), (1, [2])] }
noncomputable def pleachmade_Made (l_0 : List Int) : Option ((((List Int) × Int) × Unit) × Unit) :=
 some (((l_0, 0), ()), ())
theorem pleachmade_Made_eq (l_0 : List Int) : evFn pleachmade_Made_Γ tab pleachmade_Made_fi 1 [.val t23] [⟨t80, [false, false], some 81⟩] Try.f26 (l_0, ()) = pleachmade_Made l_0 := by kernel_rfl
noncomputable def pleachmade_Made_e : Ent := ⟨[.val t23], [⟨t80, [false, false], some 81⟩], fun x => pleachmade_Made x.1⟩
theorem pleachmade_Made_good : Good tab.ty Try.prog 26 pleachmade_Made_e := by
  refine fn_good (Γ := pleachmade_Made_Γ) (fi := pleachmade_Made_fi) (n := 1) follows gnil tabok Try.func26 (by kernel_rfl) (by kernel_rfl) (fun x r h => ?_)
  obtain ⟨l_0, _u⟩ := x
  exact (pleachmade_Made_eq l_0).trans h
noncomputable def pleachmade_Picks_Num_Γ : Ctx := []
def pleachmade_Picks_Num_fi : Fi := { keep := [], vty := [], vals := [], live := [(0, [0, 1, 16, 17]), (1, [0, 1, 18]), (2, [0, 4]), (3, [0, 1]), (4, [0, 4])] }
noncomputable def pleachmade_Picks_Num (p_0 : (List Int) × Int) (m_1 : Int) : Option ((Int × Unit) × (((List Int) × Int) × Unit)) :=
 bif decide (p_0.2 ≥ (p_0.1.length : Int)) then
  some ((0, ()), (p_0, ()))
 else
 bif decide (m_1 < 1) then
  some ((0, ()), (p_0, ()))
 else
 bif decide (0 ≤ IntKind.wrap .i64 ((IntKind.wrap .i64 (p_0.2 + 1)) - 1)) && decide (IntKind.wrap .i64 ((IntKind.wrap .i64 (p_0.2 + 1)) - 1) < (p_0.1.length : Int)) then
  bif !(m_1 == 0) then
   some ((Int.tmod (IntKind.wrap .i64 (List.getD p_0.1 ((IntKind.wrap .i64 ((IntKind.wrap .i64 (p_0.2 + 1)) - 1)).toNat) 0)) m_1, ()), ((p_0.1, IntKind.wrap .i64 (p_0.2 + 1)), ()))
  else none
 else none
theorem pleachmade_Picks_Num_eq (p_0 : (List Int) × Int) (m_1 : Int) : evFn pleachmade_Picks_Num_Γ tab pleachmade_Picks_Num_fi 1 [.box 81 t80 [false, false], .val t2] [⟨t2, [false], none⟩] Try.f49 (p_0, m_1, ()) = pleachmade_Picks_Num p_0 m_1 := by kernel_rfl
noncomputable def pleachmade_Picks_Num_e : Ent := ⟨[.box 81 t80 [false, false], .val t2], [⟨t2, [false], none⟩], fun x => pleachmade_Picks_Num x.1 x.2.1⟩
theorem pleachmade_Picks_Num_good : Good tab.ty Try.prog 49 pleachmade_Picks_Num_e := by
  refine fn_good (Γ := pleachmade_Picks_Num_Γ) (fi := pleachmade_Picks_Num_fi) (n := 1) follows gnil tabok Try.func49 (by kernel_rfl) (by kernel_rfl) (fun x r h => ?_)
  obtain ⟨p_0, m_1, _u⟩ := x
  exact (pleachmade_Picks_Num_eq p_0 m_1).trans h
noncomputable def pleachref1_Has_Γ : Ctx := []
def pleachref1_Has_fi : Fi := { keep := [], vty := [], vals := [], live := [(0, [0, 1]), (1, [0, 1, 5]), (2, [0, 1, 5, 9]), (3, [0, 1, 5]), (4, [0, 1, 5, 17]), (5, [4]), (6, [4])] }
noncomputable def pleachref1_Has_B1 (L1 : List Int → Int → Int → Option ((Bool × Unit) × Unit)) (v1 : List Int) (v2 : Int) (v3 : Int) : Option ((Bool × Unit) × Unit) :=
 bif decide (v3 < (v1.length : Int)) then
  bif decide (0 ≤ v3) && decide (v3 < (v1.length : Int)) then
   bif (List.getD v1 v3.toNat 0) == v2 then
    some ((true, ()), ())
   else
    L1 v1 v2 (IntKind.wrap .i64 (v3 + 1))
  else none
 else
  some ((false, ()), ())
noncomputable def pleachref1_Has_T (L1 : List Int → Int → Int → Option ((Bool × Unit) × Unit)) (p_0 : List Int) (id_1 : Int) : Option ((Bool × Unit) × Unit) :=
 L1 p_0 id_1 0
noncomputable def pleachref1_Has_L1 (n : Nat) : Nat → List Int → Int → Int → Option ((Bool × Unit) × Unit) := iter (fun _ _ _ => none) fun L => pleachref1_Has_B1 L
noncomputable def pleachref1_Has_X1 (n m : Nat) (v1 : List Int) (v2 : Int) (v3 : Int) : Option ((Bool × Unit) × Unit) :=
 atLoop pleachref1_Has_Γ tab (fiB [.val t33, .val t2] pleachref1_Has_fi) n [.val t33, .val t2] [⟨t4, [false], none⟩] Try.f78 [1, 0, 1, 0] [] [0, 1, 5] m
 ⟨[(0, SV.cv (CV.one (LV.pure t33 v1))), (1, SV.cv (CV.one (LV.pure t2 v2))), (5, SV.cv (CV.one (LV.pure t2 v3)))],
  []⟩
theorem pleachref1_Has_step1 (n m : Nat) (v1 : List Int) (v2 : Int) (v3 : Int) : pleachref1_Has_X1 n (m + 1) v1 v2 v3 = pleachref1_Has_B1 (pleachref1_Has_X1 n m) v1 v2 v3 := by kernel_rfl
theorem pleachref1_Has_start (n : Nat) (p_0 : List Int) (id_1 : Int) : evFn pleachref1_Has_Γ tab pleachref1_Has_fi n [.val t33, .val t2] [⟨t4, [false], none⟩] Try.f78 (p_0, id_1, ()) = pleachref1_Has_T (pleachref1_Has_X1 n n) p_0 id_1 := by kernel_rfl
theorem pleachref1_Has_XL1 (n : Nat) : ∀ m, pleachref1_Has_X1 n m = pleachref1_Has_L1 n m
 | 0 => rfl
 | m + 1 => by
  have ih := pleachref1_Has_XL1 n m
  funext v1 v2 v3
  rw [pleachref1_Has_step1, ih]
  rfl
noncomputable def pleachref1_Has_n (n : Nat) (p_0 : List Int) (id_1 : Int) : Option ((Bool × Unit) × Unit) := pleachref1_Has_T (pleachref1_Has_L1 n n) p_0 id_1
noncomputable def pleachref1_Has (p_0 : List Int) (id_1 : Int) : Option ((Bool × Unit) × Unit) := pleachref1_Has_n 1099511627776 p_0 id_1
theorem pleachref1_Has_eq (n : Nat) (p_0 : List Int) (id_1 : Int) : evFn pleachref1_Has_Γ tab pleachref1_Has_fi n [.val t33, .val t2] [⟨t4, [false], none⟩] Try.f78 (p_0, id_1, ()) = pleachref1_Has_n n p_0 id_1 := by
  rw [pleachref1_Has_start, pleachref1_Has_XL1 n n]
  rfl
noncomputable def pleachref1_Has_e : Ent := ⟨[.val t33, .val t2], [⟨t4, [false], none⟩], fun x => pleachref1_Has x.1 x.2.1⟩
theorem pleachref1_Has_good : Good tab.ty Try.prog 78 pleachref1_Has_e := by
  refine fn_good (Γ := pleachref1_Has_Γ) (fi := pleachref1_Has_fi) (n := 1099511627776) follows gnil tabok Try.func78 (by kernel_rfl) (by kernel_rfl) (fun x r h => ?_)
  obtain ⟨p_0, id_1, _u⟩ := x
  exact (pleachref1_Has_eq 1099511627776 p_0 id_1).trans h
noncomputable def pleachref1_MayPath_Γ : Ctx := [(78, pleachref1_Has_e)]
def pleachref1_MayPath_fi : Fi := { keep := [], vty := [], vals := [], live := [(0, [0, 8, 9, 10, 13, 14, 15, 16, 30, 31, 32, 33, 34, 37, 38, 39, 40, 41, 42, 43, 44]), (1, [0, 17, 30, 31, 32, 33, 34, 37, 38, 39, 40, 41, 42, 43, 44]), (2, [2]), (3, [0, 3, 30, 31, 32, 33, 34, 37, 38, 39, 40, 41, 42, 43, 44]), (4, [0, 3, 21, 30, 31, 32, 33, 34, 37, 38, 39, 40, 41, 42, 43, 44]), (5, [0, 3, 30, 31, 32, 33, 34, 37, 38, 39, 40, 41, 42, 43, 44]), (6, [0, 3, 30, 31, 32, 33, 34, 37, 38, 39, 40, 41, 42, 43, 44, 45]), (7, [2]), (8, [2])] }
noncomputable def pleachref1_MayPath_B1 (L1 : List Int → Int → Option ((Bool × Unit) × Unit)) (v1 : List Int) (v2 : Int) : Option ((Bool × Unit) × Unit) :=
 bif decide (v2 < (v1.length : Int)) then
  bif decide (0 ≤ v2) && decide (v2 < (v1.length : Int)) then
   bif decide (List.getD v1 v2.toNat 0 < 1) then
    some ((false, ()), ())
   else
   bif decide (0 ≤ v2) && decide (v2 < (v1.length : Int)) then
    bif decide (List.getD v1 v2.toNat 0 > 8) then
     some ((false, ()), ())
    else
    bif decide (0 ≤ v2) && decide (v2 ≤ (v1.length : Int)) then
     bif decide (0 ≤ v2) && decide (v2 < (v1.length : Int)) then
      Option.bind (pleachref1_Has (List.drop 0 (List.take v2.toNat v1)) (List.getD v1 v2.toNat 0)) fun (r3 : (Bool × Unit) × Unit) =>
      bif r3.1.1 then
       some ((false, ()), ())
      else
       L1 v1 (IntKind.wrap .i64 (v2 + 1))
     else none
    else none
   else none
  else none
 else
  some ((true, ()), ())
noncomputable def pleachref1_MayPath_T (L1 : List Int → Int → Option ((Bool × Unit) × Unit)) (p_0 : List Int) : Option ((Bool × Unit) × Unit) :=
 bif decide ((p_0.length : Int) < 1) then
  some ((false, ()), ())
 else
 bif decide ((p_0.length : Int) > 10) then
  some ((false, ()), ())
 else
 bif decide (0 < (p_0.length : Int)) then
  bif (List.getD p_0 0 0) != 1 then
   some ((false, ()), ())
  else
   L1 p_0 0
 else none
noncomputable def pleachref1_MayPath_L1 (n : Nat) : Nat → List Int → Int → Option ((Bool × Unit) × Unit) := iter (fun _ _ => none) fun L => pleachref1_MayPath_B1 L
noncomputable def pleachref1_MayPath_X1 (n m : Nat) (v1 : List Int) (v2 : Int) : Option ((Bool × Unit) × Unit) :=
 atLoop pleachref1_MayPath_Γ tab (fiB [.val t33] pleachref1_MayPath_fi) n [.val t33] [⟨t4, [false], none⟩] Try.f59 [1, 1, 0, 1, 0] [] [0, 3] m
 ⟨[(0, SV.cv (CV.one (LV.pure t33 v1))), (3, SV.cv (CV.one (LV.pure t2 v2)))],
  []⟩
theorem pleachref1_MayPath_step1 (n m : Nat) (v1 : List Int) (v2 : Int) : pleachref1_MayPath_X1 n (m + 1) v1 v2 = pleachref1_MayPath_B1 (pleachref1_MayPath_X1 n m) v1 v2 := by kernel_rfl
theorem pleachref1_MayPath_start (n : Nat) (p_0 : List Int) : evFn pleachref1_MayPath_Γ tab pleachref1_MayPath_fi n [.val t33] [⟨t4, [false], none⟩] Try.f59 (p_0, ()) = pleachref1_MayPath_T (pleachref1_MayPath_X1 n n) p_0 := by kernel_rfl
theorem pleachref1_MayPath_XL1 (n : Nat) : ∀ m, pleachref1_MayPath_X1 n m = pleachref1_MayPath_L1 n m
 | 0 => rfl
 | m + 1 => by
  have ih := pleachref1_MayPath_XL1 n m
  funext v1 v2
  rw [pleachref1_MayPath_step1, ih]
  rfl
noncomputable def pleachref1_MayPath_n (n : Nat) (p_0 : List Int) : Option ((Bool × Unit) × Unit) := pleachref1_MayPath_T (pleachref1_MayPath_L1 n n) p_0
noncomputable def pleachref1_MayPath (p_0 : List Int) : Option ((Bool × Unit) × Unit) := pleachref1_MayPath_n 1099511627776 p_0
theorem pleachref1_MayPath_eq (n : Nat) (p_0 : List Int) : evFn pleachref1_MayPath_Γ tab pleachref1_MayPath_fi n [.val t33] [⟨t4, [false], none⟩] Try.f59 (p_0, ()) = pleachref1_MayPath_n n p_0 := by
  rw [pleachref1_MayPath_start, pleachref1_MayPath_XL1 n n]
  rfl
noncomputable def pleachref1_MayPath_e : Ent := ⟨[.val t33], [⟨t4, [false], none⟩], fun x => pleachref1_MayPath x.1⟩
theorem pleachref1_MayPath_good : Good tab.ty Try.prog 59 pleachref1_MayPath_e := by
  refine fn_good (Γ := pleachref1_MayPath_Γ) (fi := pleachref1_MayPath_fi) (n := 1099511627776) follows (gcons pleachref1_Has_good gnil) tabok Try.func59 (by kernel_rfl) (by kernel_rfl) (fun x r h => ?_)
  obtain ⟨p_0, _u⟩ := x
  exact (pleachref1_MayPath_eq 1099511627776 p_0).trans h
noncomputable def pleachref1_AddPath_Γ : Ctx := [(59, pleachref1_MayPath_e)]
def pleachref1_AddPath_fi : Fi := { keep := [], vty := [], vals := [], live := [(0, [0, 1]), (1, [6]), (2, [6, 15]), (3, [4, 5]), (4, [4, 5])] }
noncomputable def pleachref1_AddPath (p_0 : List Int) (id_1 : Int) : Option (((List Int) × Bool × Unit) × Unit) :=
 bif Nat.ble (0 + p_0.length) 1073741824 then
  bif Nat.ble (([] ++ p_0).length + 1) 1073741824 then
   Option.bind (pleachref1_MayPath (([] ++ p_0) ++ [id_1])) fun (r1 : (Bool × Unit) × Unit) =>
   bif !r1.1.1 then
    some (([], false, ()), ())
   else
    some ((([] ++ p_0) ++ [id_1], true, ()), ())
  else none
 else none
theorem pleachref1_AddPath_eq (p_0 : List Int) (id_1 : Int) : evFn pleachref1_AddPath_Γ tab pleachref1_AddPath_fi 1 [.val t33, .val t2] [⟨t33, [true], none⟩, ⟨t4, [false], none⟩] Try.f73 (p_0, id_1, ()) = pleachref1_AddPath p_0 id_1 := by kernel_rfl
noncomputable def pleachref1_AddPath_e : Ent := ⟨[.val t33, .val t2], [⟨t33, [true], none⟩, ⟨t4, [false], none⟩], fun x => pleachref1_AddPath x.1 x.2.1⟩
theorem pleachref1_AddPath_good : Good tab.ty Try.prog 73 pleachref1_AddPath_e := by
  refine fn_good (Γ := pleachref1_AddPath_Γ) (fi := pleachref1_AddPath_fi) (n := 1) follows (gcons pleachref1_MayPath_good gnil) tabok Try.func73 (by kernel_rfl) (by kernel_rfl) (fun x r h => ?_)
  obtain ⟨p_0, id_1, _u⟩ := x
  exact (pleachref1_AddPath_eq p_0 id_1).trans h
noncomputable def pleachmade_Picks_Path_Γ : Ctx := [(49, pleachmade_Picks_Num_e), (73, pleachref1_AddPath_e)]
def pleachmade_Picks_Path_fi : Fi := { keep := [], vty := [], vals := [], live := [(0, [0]), (1, [0, 3]), (2, [0, 3, 4]), (3, [0, 3, 4, 11]), (4, [0, 3, 4]), (5, [0, 3, 4, 5, 6]), (6, [0, 3, 4, 5, 22]), (7, [0, 3, 4]), (8, [0, 2])] }
noncomputable def pleachmade_Picks_Path_B1 (L1 : Int → List Int → Int → List Int → Option (((List Int) × Unit) × (((List Int) × Int) × Unit))) (v2 : Int) (v3 : List Int) (v4 : Int) (v5 : List Int) : Option (((List Int) × Unit) × (((List Int) × Int) × Unit)) :=
 bif decide (v2 > 0) then
  Option.bind (pleachmade_Picks_Num (v3, v4) 7) fun (r6 : (Int × Unit) × (((List Int) × Int) × Unit)) =>
  Option.bind (pleachref1_AddPath v5 (IntKind.wrap .i64 (2 + r6.1.1))) fun (r7 : ((List Int) × Bool × Unit) × Unit) =>
  bif r7.1.2.1 then
   L1 (IntKind.wrap .i64 (v2 - 1)) r6.2.1.1 r6.2.1.2 r7.1.1
  else
   L1 (IntKind.wrap .i64 (v2 - 1)) r6.2.1.1 r6.2.1.2 v5
 else
  some ((v5, ()), ((v3, v4), ()))
noncomputable def pleachmade_Picks_Path_T (L1 : Int → List Int → Int → List Int → Option (((List Int) × Unit) × (((List Int) × Int) × Unit))) (p_0 : (List Int) × Int) : Option (((List Int) × Unit) × (((List Int) × Int) × Unit)) :=
 Option.bind (pleachmade_Picks_Num p_0 4) fun (r1 : (Int × Unit) × (((List Int) × Int) × Unit)) =>
 L1 r1.1.1 r1.2.1.1 r1.2.1.2 [1]
noncomputable def pleachmade_Picks_Path_L1 (n : Nat) : Nat → Int → List Int → Int → List Int → Option (((List Int) × Unit) × (((List Int) × Int) × Unit)) := iter (fun _ _ _ _ => none) fun L => pleachmade_Picks_Path_B1 L
noncomputable def pleachmade_Picks_Path_X1 (n m : Nat) (v2 : Int) (v3 : List Int) (v4 : Int) (v5 : List Int) : Option (((List Int) × Unit) × (((List Int) × Int) × Unit)) :=
 atLoop pleachmade_Picks_Path_Γ tab (fiB [.box 81 t80 [false, false]] pleachmade_Picks_Path_fi) n [.box 81 t80 [false, false]] [⟨t33, [true], none⟩] Try.f56 [1, 1, 0, 1, 0] [] [0, 3, 4] m
 ⟨[(0, SV.cv (CV.one (LV.ptr (0, 0) 0))), (3, SV.cv (CV.one (LV.ref (888888, 3)))), (4, SV.cv (CV.one (LV.pure t2 v2)))],
  [((0, 0), Ob.box 81 [LV.pure t23 v3, LV.pure t2 v4]), ((888888, 3), Ob.row 3 t2 v5)]⟩
theorem pleachmade_Picks_Path_step1 (n m : Nat) (v2 : Int) (v3 : List Int) (v4 : Int) (v5 : List Int) : pleachmade_Picks_Path_X1 n (m + 1) v2 v3 v4 v5 = pleachmade_Picks_Path_B1 (pleachmade_Picks_Path_X1 n m) v2 v3 v4 v5 := by kernel_rfl
theorem pleachmade_Picks_Path_start (n : Nat) (p_0 : (List Int) × Int) : evFn pleachmade_Picks_Path_Γ tab pleachmade_Picks_Path_fi n [.box 81 t80 [false, false]] [⟨t33, [true], none⟩] Try.f56 (p_0, ()) = pleachmade_Picks_Path_T (pleachmade_Picks_Path_X1 n n) p_0 := by kernel_rfl
theorem pleachmade_Picks_Path_XL1 (n : Nat) : ∀ m, pleachmade_Picks_Path_X1 n m = pleachmade_Picks_Path_L1 n m
 | 0 => rfl
 | m + 1 => by
  have ih := pleachmade_Picks_Path_XL1 n m
  funext v2 v3 v4 v5
  rw [pleachmade_Picks_Path_step1, ih]
  rfl
noncomputable def pleachmade_Picks_Path_n (n : Nat) (p_0 : (List Int) × Int) : Option (((List Int) × Unit) × (((List Int) × Int) × Unit)) := pleachmade_Picks_Path_T (pleachmade_Picks_Path_L1 n n) p_0
noncomputable def pleachmade_Picks_Path (p_0 : (List Int) × Int) : Option (((List Int) × Unit) × (((List Int) × Int) × Unit)) := pleachmade_Picks_Path_n 1099511627776 p_0
theorem pleachmade_Picks_Path_eq (n : Nat) (p_0 : (List Int) × Int) : evFn pleachmade_Picks_Path_Γ tab pleachmade_Picks_Path_fi n [.box 81 t80 [false, false]] [⟨t33, [true], none⟩] Try.f56 (p_0, ()) = pleachmade_Picks_Path_n n p_0 := by
  rw [pleachmade_Picks_Path_start, pleachmade_Picks_Path_XL1 n n]
  rfl
noncomputable def pleachmade_Picks_Path_e : Ent := ⟨[.box 81 t80 [false, false]], [⟨t33, [true], none⟩], fun x => pleachmade_Picks_Path x.1⟩
theorem pleachmade_Picks_Path_good : Good tab.ty Try.prog 56 pleachmade_Picks_Path_e := by
  refine fn_good (Γ := pleachmade_Picks_Path_Γ) (fi := pleachmade_Picks_Path_fi) (n := 1099511627776) follows (gcons pleachmade_Picks_Num_good (gcons pleachref1_AddPath_good gnil)) tabok Try.func56 (by kernel_rfl) (by kernel_rfl) (fun x r h => ?_)
  obtain ⟨p_0, _u⟩ := x
  exact (pleachmade_Picks_Path_eq 1099511627776 p_0).trans h
noncomputable def pleachmade_Picks_Text_Γ : Ctx := [(49, pleachmade_Picks_Num_e)]
def pleachmade_Picks_Text_fi : Fi := { keep := [], vty := [], vals := [], live := [(0, [0]), (1, [0, 2])] }
noncomputable def pleachmade_Picks_Text (p_0 : (List Int) × Int) : Option ((ByteArray × Unit) × (((List Int) × Int) × Unit)) :=
 Option.bind (pleachmade_Picks_Num p_0 5) fun (r1 : (Int × Unit) × (((List Int) × Int) × Unit)) =>
 bif decide (0 ≤ r1.1.1) && decide (r1.1.1 < 5) then
  bif decide (0 ≤ r1.1.1) && decide (r1.1.1 < 5) then
   some ((List.getD [(⟨#[]⟩ : ByteArray), (⟨#[97]⟩ : ByteArray), (⟨#[98, 99]⟩ : ByteArray), (⟨#[104, 101, 108, 108, 111]⟩ : ByteArray), (⟨#[116, 119, 101, 108, 118, 101, 32, 98, 121, 116, 101, 115]⟩ : ByteArray)] r1.1.1.toNat (⟨#[]⟩ : ByteArray), ()), (r1.2.1, ()))
  else none
 else none
theorem pleachmade_Picks_Text_eq (p_0 : (List Int) × Int) : evFn pleachmade_Picks_Text_Γ tab pleachmade_Picks_Text_fi 1 [.box 81 t80 [false, false]] [⟨t9, [false], none⟩] Try.f50 (p_0, ()) = pleachmade_Picks_Text p_0 := by kernel_rfl
noncomputable def pleachmade_Picks_Text_e : Ent := ⟨[.box 81 t80 [false, false]], [⟨t9, [false], none⟩], fun x => pleachmade_Picks_Text x.1⟩
theorem pleachmade_Picks_Text_good : Good tab.ty Try.prog 50 pleachmade_Picks_Text_e := by
  refine fn_good (Γ := pleachmade_Picks_Text_Γ) (fi := pleachmade_Picks_Text_fi) (n := 1) follows (gcons pleachmade_Picks_Num_good gnil) tabok Try.func50 (by kernel_rfl) (by kernel_rfl) (fun x r h => ?_)
  obtain ⟨p_0, _u⟩ := x
  exact (pleachmade_Picks_Text_eq p_0).trans h
noncomputable def pleachmade_Picks_Msg_Γ : Ctx := [(49, pleachmade_Picks_Num_e), (50, pleachmade_Picks_Text_e), (56, pleachmade_Picks_Path_e)]
def pleachmade_Picks_Msg_fi : Fi := { keep := [], vty := [], vals := [], live := [(0, [0, 1, 4]), (1, [0, 1, 4, 5]), (2, [0, 1, 4, 5, 12]), (3, [0, 1, 4, 5]), (4, [0, 4, 6]), (5, [0, 4, 6, 26]), (6, [0, 4, 6, 26, 27]), (7, [0, 4, 6]), (8, [0, 4, 6, 26, 41]), (9, [0, 4, 6]), (10, [0, 4, 6, 26, 55]), (11, [0, 4, 6]), (12, [0, 4, 6, 26, 64]), (13, [0, 4, 6, 64]), (14, [0, 4, 6]), (15, [0, 4, 6]), (16, [0, 4])] }
noncomputable def pleachmade_Picks_Msg (p_0 : (List Int) × Int) (to_1 : Int) : Option (((Int × Int × Int × Int × Int × Int × (List Int) × Int × Int × ByteArray) × Unit) × (((List Int) × Int) × Unit)) :=
 Option.bind (pleachmade_Picks_Num p_0 8) fun (r1 : (Int × Unit) × (((List Int) × Int) × Unit)) =>
 bif (IntKind.wrap .i64 (1 + r1.1.1)) == to_1 then
  Option.bind (pleachmade_Picks_Num r1.2.1 9) fun (r2 : (Int × Unit) × (((List Int) × Int) × Unit)) =>
  Option.bind (pleachmade_Picks_Num r2.2.1 3) fun (r3 : (Int × Unit) × (((List Int) × Int) × Unit)) =>
  bif (IntKind.wrap .i64 (1 + r2.1.1)) == 2 then
   Option.bind (pleachmade_Picks_Num r3.2.1 20) fun (r4 : (Int × Unit) × (((List Int) × Int) × Unit)) =>
   Option.bind (pleachmade_Picks_Num r4.2.1 25) fun (r5 : (Int × Unit) × (((List Int) × Int) × Unit)) =>
   Option.bind (pleachmade_Picks_Path r5.2.1) fun (r6 : ((List Int) × Unit) × (((List Int) × Int) × Unit)) =>
   Option.bind (pleachmade_Picks_Num r6.2.1 9) fun (r7 : (Int × Unit) × (((List Int) × Int) × Unit)) =>
   some (((IntKind.wrap .i64 (1 + r2.1.1), IntKind.wrap .i64 (1 + (Int.tmod to_1 8)), to_1, IntKind.wrap .i64 (1 + r3.1.1), r4.1.1, r5.1.1, r6.1.1, r7.1.1, 0, (⟨#[]⟩ : ByteArray)), ()), (r7.2.1, ()))
  else
  bif (IntKind.wrap .i64 (1 + r2.1.1)) == 5 then
   Option.bind (pleachmade_Picks_Num r3.2.1 20) fun (r8 : (Int × Unit) × (((List Int) × Int) × Unit)) =>
   Option.bind (pleachmade_Picks_Num r8.2.1 25) fun (r9 : (Int × Unit) × (((List Int) × Int) × Unit)) =>
   Option.bind (pleachmade_Picks_Path r9.2.1) fun (r10 : ((List Int) × Unit) × (((List Int) × Int) × Unit)) =>
   Option.bind (pleachmade_Picks_Num r10.2.1 12) fun (r11 : (Int × Unit) × (((List Int) × Int) × Unit)) =>
   some (((IntKind.wrap .i64 (1 + r2.1.1), IntKind.wrap .i64 (1 + (Int.tmod to_1 8)), to_1, IntKind.wrap .i64 (1 + r3.1.1), r8.1.1, r9.1.1, r10.1.1, 0, r11.1.1, (⟨#[]⟩ : ByteArray)), ()), (r11.2.1, ()))
  else
  bif (IntKind.wrap .i64 (1 + r2.1.1)) == 7 then
   Option.bind (pleachmade_Picks_Num r3.2.1 12) fun (r12 : (Int × Unit) × (((List Int) × Int) × Unit)) =>
   Option.bind (pleachmade_Picks_Text r12.2.1) fun (r13 : (ByteArray × Unit) × (((List Int) × Int) × Unit)) =>
   some (((IntKind.wrap .i64 (1 + r2.1.1), IntKind.wrap .i64 (1 + (Int.tmod to_1 8)), to_1, IntKind.wrap .i64 (1 + r3.1.1), 0, 0, [], IntKind.wrap .i64 (1 + r12.1.1), 0, r13.1.1), ()), (r13.2.1, ()))
  else
  bif (IntKind.wrap .i64 (1 + r2.1.1)) == 8 then
   bif (IntKind.wrap .i64 (1 + r2.1.1)) == 8 then
    Option.bind (pleachmade_Picks_Num r3.2.1 9) fun (r14 : (Int × Unit) × (((List Int) × Int) × Unit)) =>
    Option.bind (pleachmade_Picks_Num r14.2.1 6) fun (r15 : (Int × Unit) × (((List Int) × Int) × Unit)) =>
    some (((IntKind.wrap .i64 (1 + r2.1.1), IntKind.wrap .i64 (1 + (Int.tmod to_1 8)), to_1, IntKind.wrap .i64 (1 + r3.1.1), 0, 0, [], IntKind.wrap .i64 (1 + r14.1.1), IntKind.wrap .i64 ((IntKind.wrap .i64 (1 + r14.1.1)) + r15.1.1), (⟨#[]⟩ : ByteArray)), ()), (r15.2.1, ()))
   else
    some (((IntKind.wrap .i64 (1 + r2.1.1), IntKind.wrap .i64 (1 + (Int.tmod to_1 8)), to_1, IntKind.wrap .i64 (1 + r3.1.1), 0, 0, [], 0, 0, (⟨#[]⟩ : ByteArray)), ()), (r3.2.1, ()))
  else
  bif (IntKind.wrap .i64 (1 + r2.1.1)) == 9 then
   Option.bind (pleachmade_Picks_Num r3.2.1 9) fun (r16 : (Int × Unit) × (((List Int) × Int) × Unit)) =>
   Option.bind (pleachmade_Picks_Num r16.2.1 6) fun (r17 : (Int × Unit) × (((List Int) × Int) × Unit)) =>
   some (((IntKind.wrap .i64 (1 + r2.1.1), IntKind.wrap .i64 (1 + (Int.tmod to_1 8)), to_1, IntKind.wrap .i64 (1 + r3.1.1), 0, 0, [], IntKind.wrap .i64 (1 + r16.1.1), IntKind.wrap .i64 ((IntKind.wrap .i64 (1 + r16.1.1)) + r17.1.1), (⟨#[]⟩ : ByteArray)), ()), (r17.2.1, ()))
  else
   some (((IntKind.wrap .i64 (1 + r2.1.1), IntKind.wrap .i64 (1 + (Int.tmod to_1 8)), to_1, IntKind.wrap .i64 (1 + r3.1.1), 0, 0, [], 0, 0, (⟨#[]⟩ : ByteArray)), ()), (r3.2.1, ()))
 else
  Option.bind (pleachmade_Picks_Num r1.2.1 9) fun (r18 : (Int × Unit) × (((List Int) × Int) × Unit)) =>
  Option.bind (pleachmade_Picks_Num r18.2.1 3) fun (r19 : (Int × Unit) × (((List Int) × Int) × Unit)) =>
  bif (IntKind.wrap .i64 (1 + r18.1.1)) == 2 then
   Option.bind (pleachmade_Picks_Num r19.2.1 20) fun (r20 : (Int × Unit) × (((List Int) × Int) × Unit)) =>
   Option.bind (pleachmade_Picks_Num r20.2.1 25) fun (r21 : (Int × Unit) × (((List Int) × Int) × Unit)) =>
   Option.bind (pleachmade_Picks_Path r21.2.1) fun (r22 : ((List Int) × Unit) × (((List Int) × Int) × Unit)) =>
   Option.bind (pleachmade_Picks_Num r22.2.1 9) fun (r23 : (Int × Unit) × (((List Int) × Int) × Unit)) =>
   some (((IntKind.wrap .i64 (1 + r18.1.1), IntKind.wrap .i64 (1 + r1.1.1), to_1, IntKind.wrap .i64 (1 + r19.1.1), r20.1.1, r21.1.1, r22.1.1, r23.1.1, 0, (⟨#[]⟩ : ByteArray)), ()), (r23.2.1, ()))
  else
  bif (IntKind.wrap .i64 (1 + r18.1.1)) == 5 then
   Option.bind (pleachmade_Picks_Num r19.2.1 20) fun (r24 : (Int × Unit) × (((List Int) × Int) × Unit)) =>
   Option.bind (pleachmade_Picks_Num r24.2.1 25) fun (r25 : (Int × Unit) × (((List Int) × Int) × Unit)) =>
   Option.bind (pleachmade_Picks_Path r25.2.1) fun (r26 : ((List Int) × Unit) × (((List Int) × Int) × Unit)) =>
   Option.bind (pleachmade_Picks_Num r26.2.1 12) fun (r27 : (Int × Unit) × (((List Int) × Int) × Unit)) =>
   some (((IntKind.wrap .i64 (1 + r18.1.1), IntKind.wrap .i64 (1 + r1.1.1), to_1, IntKind.wrap .i64 (1 + r19.1.1), r24.1.1, r25.1.1, r26.1.1, 0, r27.1.1, (⟨#[]⟩ : ByteArray)), ()), (r27.2.1, ()))
  else
  bif (IntKind.wrap .i64 (1 + r18.1.1)) == 7 then
   Option.bind (pleachmade_Picks_Num r19.2.1 12) fun (r28 : (Int × Unit) × (((List Int) × Int) × Unit)) =>
   Option.bind (pleachmade_Picks_Text r28.2.1) fun (r29 : (ByteArray × Unit) × (((List Int) × Int) × Unit)) =>
   some (((IntKind.wrap .i64 (1 + r18.1.1), IntKind.wrap .i64 (1 + r1.1.1), to_1, IntKind.wrap .i64 (1 + r19.1.1), 0, 0, [], IntKind.wrap .i64 (1 + r28.1.1), 0, r29.1.1), ()), (r29.2.1, ()))
  else
  bif (IntKind.wrap .i64 (1 + r18.1.1)) == 8 then
   bif (IntKind.wrap .i64 (1 + r18.1.1)) == 8 then
    Option.bind (pleachmade_Picks_Num r19.2.1 9) fun (r30 : (Int × Unit) × (((List Int) × Int) × Unit)) =>
    Option.bind (pleachmade_Picks_Num r30.2.1 6) fun (r31 : (Int × Unit) × (((List Int) × Int) × Unit)) =>
    some (((IntKind.wrap .i64 (1 + r18.1.1), IntKind.wrap .i64 (1 + r1.1.1), to_1, IntKind.wrap .i64 (1 + r19.1.1), 0, 0, [], IntKind.wrap .i64 (1 + r30.1.1), IntKind.wrap .i64 ((IntKind.wrap .i64 (1 + r30.1.1)) + r31.1.1), (⟨#[]⟩ : ByteArray)), ()), (r31.2.1, ()))
   else
    some (((IntKind.wrap .i64 (1 + r18.1.1), IntKind.wrap .i64 (1 + r1.1.1), to_1, IntKind.wrap .i64 (1 + r19.1.1), 0, 0, [], 0, 0, (⟨#[]⟩ : ByteArray)), ()), (r19.2.1, ()))
  else
  bif (IntKind.wrap .i64 (1 + r18.1.1)) == 9 then
   Option.bind (pleachmade_Picks_Num r19.2.1 9) fun (r32 : (Int × Unit) × (((List Int) × Int) × Unit)) =>
   Option.bind (pleachmade_Picks_Num r32.2.1 6) fun (r33 : (Int × Unit) × (((List Int) × Int) × Unit)) =>
   some (((IntKind.wrap .i64 (1 + r18.1.1), IntKind.wrap .i64 (1 + r1.1.1), to_1, IntKind.wrap .i64 (1 + r19.1.1), 0, 0, [], IntKind.wrap .i64 (1 + r32.1.1), IntKind.wrap .i64 ((IntKind.wrap .i64 (1 + r32.1.1)) + r33.1.1), (⟨#[]⟩ : ByteArray)), ()), (r33.2.1, ()))
  else
   some (((IntKind.wrap .i64 (1 + r18.1.1), IntKind.wrap .i64 (1 + r1.1.1), to_1, IntKind.wrap .i64 (1 + r19.1.1), 0, 0, [], 0, 0, (⟨#[]⟩ : ByteArray)), ()), (r19.2.1, ()))
theorem pleachmade_Picks_Msg_eq (p_0 : (List Int) × Int) (to_1 : Int) : evFn pleachmade_Picks_Msg_Γ tab pleachmade_Picks_Msg_fi 1 [.box 81 t80 [false, false], .val t2] [⟨t58, [false, false, false, false, false, false, true, false, false, false], none⟩] Try.f36 (p_0, to_1, ()) = pleachmade_Picks_Msg p_0 to_1 := by kernel_rfl
noncomputable def pleachmade_Picks_Msg_e : Ent := ⟨[.box 81 t80 [false, false], .val t2], [⟨t58, [false, false, false, false, false, false, true, false, false, false], none⟩], fun x => pleachmade_Picks_Msg x.1 x.2.1⟩
theorem pleachmade_Picks_Msg_good : Good tab.ty Try.prog 36 pleachmade_Picks_Msg_e := by
  refine fn_good (Γ := pleachmade_Picks_Msg_Γ) (fi := pleachmade_Picks_Msg_fi) (n := 1) follows (gcons pleachmade_Picks_Num_good (gcons pleachmade_Picks_Text_good (gcons pleachmade_Picks_Path_good gnil))) tabok Try.func36 (by kernel_rfl) (by kernel_rfl) (fun x r h => ?_)
  obtain ⟨p_0, to_1, _u⟩ := x
  exact (pleachmade_Picks_Msg_eq p_0 to_1).trans h
noncomputable def pleachref10_seq_Γ : Ctx := []
def pleachref10_seq_fi : Fi := { keep := [], vty := [], vals := [], live := [(0, [0, 6, 7]), (1, [2])] }
noncomputable def pleachref10_seq (n_0 : Int) : Option ((Bool × Unit) × Unit) :=
 bif decide (n_0 ≥ 0) then
  some ((decide (n_0 ≤ 1000000), ()), ())
 else
  some ((false, ()), ())
theorem pleachref10_seq_eq (n_0 : Int) : evFn pleachref10_seq_Γ tab pleachref10_seq_fi 1 [.val t2] [⟨t4, [false], none⟩] Try.f60 (n_0, ()) = pleachref10_seq n_0 := by kernel_rfl
noncomputable def pleachref10_seq_e : Ent := ⟨[.val t2], [⟨t4, [false], none⟩], fun x => pleachref10_seq x.1⟩
theorem pleachref10_seq_good : Good tab.ty Try.prog 60 pleachref10_seq_e := by
  refine fn_good (Γ := pleachref10_seq_Γ) (fi := pleachref10_seq_fi) (n := 1) follows gnil tabok Try.func60 (by kernel_rfl) (by kernel_rfl) (fun x r h => ?_)
  obtain ⟨n_0, _u⟩ := x
  exact (pleachref10_seq_eq n_0).trans h
noncomputable def pleachref1_MaySpan_Γ : Ctx := []
def pleachref1_MaySpan_fi : Fi := { keep := [], vty := [], vals := [], live := [(0, [1, 7, 8, 9, 10, 11, 14, 15, 16]), (1, [2])] }
noncomputable def pleachref1_MaySpan (s_0 : Int × Int) : Option ((Bool × Unit) × Unit) :=
 bif decide (s_0.1 ≥ 1) then
  bif decide (s_0.1 ≤ s_0.2) then
   some ((decide (s_0.2 ≤ 1000000), ()), ())
  else
   some ((false, ()), ())
 else
  some ((false, ()), ())
theorem pleachref1_MaySpan_eq (s_0 : Int × Int) : evFn pleachref1_MaySpan_Γ tab pleachref1_MaySpan_fi 1 [.val t103] [⟨t4, [false], none⟩] Try.f61 (s_0, ()) = pleachref1_MaySpan s_0 := by kernel_rfl
noncomputable def pleachref1_MaySpan_e : Ent := ⟨[.val t103], [⟨t4, [false], none⟩], fun x => pleachref1_MaySpan x.1⟩
theorem pleachref1_MaySpan_good : Good tab.ty Try.prog 61 pleachref1_MaySpan_e := by
  refine fn_good (Γ := pleachref1_MaySpan_Γ) (fi := pleachref1_MaySpan_fi) (n := 1) follows gnil tabok Try.func61 (by kernel_rfl) (by kernel_rfl) (fun x r h => ?_)
  obtain ⟨s_0, _u⟩ := x
  exact (pleachref1_MaySpan_eq s_0).trans h
noncomputable def pleachref1_SameInts_Γ : Ctx := []
def pleachref1_SameInts_fi : Fi := { keep := [], vty := [], vals := [], live := [(0, [0, 1]), (1, [0, 1, 10]), (2, [4]), (3, [0, 1, 5]), (4, [0, 1, 5, 14]), (5, [0, 1, 5]), (6, [0, 1, 5, 25]), (7, [4]), (8, [4])] }
noncomputable def pleachref1_SameInts_B1 (L1 : List Int → List Int → Int → Option ((Bool × Unit) × Unit)) (v1 : List Int) (v2 : List Int) (v3 : Int) : Option ((Bool × Unit) × Unit) :=
 bif decide (v3 < (v1.length : Int)) then
  bif decide (0 ≤ v3) && decide (v3 < (v1.length : Int)) then
   bif decide (0 ≤ v3) && decide (v3 < (v2.length : Int)) then
    bif (List.getD v1 v3.toNat 0) != (List.getD v2 v3.toNat 0) then
     some ((false, ()), ())
    else
     L1 v1 v2 (IntKind.wrap .i64 (v3 + 1))
   else none
  else none
 else
  some ((true, ()), ())
noncomputable def pleachref1_SameInts_T (L1 : List Int → List Int → Int → Option ((Bool × Unit) × Unit)) (a_0 : List Int) (b_1 : List Int) : Option ((Bool × Unit) × Unit) :=
 bif (a_0.length : Int) != (b_1.length : Int) then
  some ((false, ()), ())
 else
  L1 a_0 b_1 0
noncomputable def pleachref1_SameInts_L1 (n : Nat) : Nat → List Int → List Int → Int → Option ((Bool × Unit) × Unit) := iter (fun _ _ _ => none) fun L => pleachref1_SameInts_B1 L
noncomputable def pleachref1_SameInts_X1 (n m : Nat) (v1 : List Int) (v2 : List Int) (v3 : Int) : Option ((Bool × Unit) × Unit) :=
 atLoop pleachref1_SameInts_Γ tab (fiB [.val t33, .val t33] pleachref1_SameInts_fi) n [.val t33, .val t33] [⟨t4, [false], none⟩] Try.f65 [1, 1, 0, 1, 0] [] [0, 1, 5] m
 ⟨[(0, SV.cv (CV.one (LV.pure t33 v1))), (1, SV.cv (CV.one (LV.pure t33 v2))), (5, SV.cv (CV.one (LV.pure t2 v3)))],
  []⟩
theorem pleachref1_SameInts_step1 (n m : Nat) (v1 : List Int) (v2 : List Int) (v3 : Int) : pleachref1_SameInts_X1 n (m + 1) v1 v2 v3 = pleachref1_SameInts_B1 (pleachref1_SameInts_X1 n m) v1 v2 v3 := by kernel_rfl
theorem pleachref1_SameInts_start (n : Nat) (a_0 : List Int) (b_1 : List Int) : evFn pleachref1_SameInts_Γ tab pleachref1_SameInts_fi n [.val t33, .val t33] [⟨t4, [false], none⟩] Try.f65 (a_0, b_1, ()) = pleachref1_SameInts_T (pleachref1_SameInts_X1 n n) a_0 b_1 := by kernel_rfl
theorem pleachref1_SameInts_XL1 (n : Nat) : ∀ m, pleachref1_SameInts_X1 n m = pleachref1_SameInts_L1 n m
 | 0 => rfl
 | m + 1 => by
  have ih := pleachref1_SameInts_XL1 n m
  funext v1 v2 v3
  rw [pleachref1_SameInts_step1, ih]
  rfl
noncomputable def pleachref1_SameInts_n (n : Nat) (a_0 : List Int) (b_1 : List Int) : Option ((Bool × Unit) × Unit) := pleachref1_SameInts_T (pleachref1_SameInts_L1 n n) a_0 b_1
noncomputable def pleachref1_SameInts (a_0 : List Int) (b_1 : List Int) : Option ((Bool × Unit) × Unit) := pleachref1_SameInts_n 1099511627776 a_0 b_1
theorem pleachref1_SameInts_eq (n : Nat) (a_0 : List Int) (b_1 : List Int) : evFn pleachref1_SameInts_Γ tab pleachref1_SameInts_fi n [.val t33, .val t33] [⟨t4, [false], none⟩] Try.f65 (a_0, b_1, ()) = pleachref1_SameInts_n n a_0 b_1 := by
  rw [pleachref1_SameInts_start, pleachref1_SameInts_XL1 n n]
  rfl
noncomputable def pleachref1_SameInts_e : Ent := ⟨[.val t33, .val t33], [⟨t4, [false], none⟩], fun x => pleachref1_SameInts x.1 x.2.1⟩
theorem pleachref1_SameInts_good : Good tab.ty Try.prog 65 pleachref1_SameInts_e := by
  refine fn_good (Γ := pleachref1_SameInts_Γ) (fi := pleachref1_SameInts_fi) (n := 1099511627776) follows gnil tabok Try.func65 (by kernel_rfl) (by kernel_rfl) (fun x r h => ?_)
  obtain ⟨a_0, b_1, _u⟩ := x
  exact (pleachref1_SameInts_eq 1099511627776 a_0 b_1).trans h
noncomputable def pleachref10_SameMsg_Γ : Ctx := [(65, pleachref1_SameInts_e)]
def pleachref10_SameMsg_fi : Fi := { keep := [], vty := [], vals := [], live := [(0, [2, 3, 11, 12, 13, 14, 15, 18, 19, 20, 21, 22, 25, 26, 27, 28, 29, 32, 33, 34, 35, 36, 39, 40, 41, 42, 43, 46, 47, 48, 49, 50, 53, 54, 55, 56, 57, 60, 61, 62, 63, 64, 67, 68, 69, 70, 71]), (1, [4])] }
noncomputable def pleachref10_SameMsg (a_0 : Int × Int × Int × Int × Int × Int × (List Int) × Int × Int × ByteArray) (b_1 : Int × Int × Int × Int × Int × Int × (List Int) × Int × Int × ByteArray) : Option ((Bool × Unit) × Unit) :=
 bif a_0.1 == b_1.1 then
  bif a_0.2.1 == b_1.2.1 then
   bif a_0.2.2.1 == b_1.2.2.1 then
    bif a_0.2.2.2.1 == b_1.2.2.2.1 then
     bif a_0.2.2.2.2.1 == b_1.2.2.2.2.1 then
      bif a_0.2.2.2.2.2.1 == b_1.2.2.2.2.2.1 then
       bif a_0.2.2.2.2.2.2.2.1 == b_1.2.2.2.2.2.2.2.1 then
        bif a_0.2.2.2.2.2.2.2.2.1 == b_1.2.2.2.2.2.2.2.2.1 then
         bif strEq a_0.2.2.2.2.2.2.2.2.2 b_1.2.2.2.2.2.2.2.2.2 then
          Option.bind (pleachref1_SameInts a_0.2.2.2.2.2.2.1 b_1.2.2.2.2.2.2.1) fun (r1 : (Bool × Unit) × Unit) =>
          some ((r1.1.1, ()), ())
         else
          some ((false, ()), ())
        else
         some ((false, ()), ())
       else
        some ((false, ()), ())
      else
       some ((false, ()), ())
     else
      some ((false, ()), ())
    else
     some ((false, ()), ())
   else
    some ((false, ()), ())
  else
   some ((false, ()), ())
 else
  some ((false, ()), ())
theorem pleachref10_SameMsg_eq (a_0 : Int × Int × Int × Int × Int × Int × (List Int) × Int × Int × ByteArray) (b_1 : Int × Int × Int × Int × Int × Int × (List Int) × Int × Int × ByteArray) : evFn pleachref10_SameMsg_Γ tab pleachref10_SameMsg_fi 1 [.val t58, .val t58] [⟨t4, [false], none⟩] Try.f42 (a_0, b_1, ()) = pleachref10_SameMsg a_0 b_1 := by kernel_rfl
noncomputable def pleachref10_SameMsg_e : Ent := ⟨[.val t58, .val t58], [⟨t4, [false], none⟩], fun x => pleachref10_SameMsg x.1 x.2.1⟩
theorem pleachref10_SameMsg_good : Good tab.ty Try.prog 42 pleachref10_SameMsg_e := by
  refine fn_good (Γ := pleachref10_SameMsg_Γ) (fi := pleachref10_SameMsg_fi) (n := 1) follows (gcons pleachref1_SameInts_good gnil) tabok Try.func42 (by kernel_rfl) (by kernel_rfl) (fun x r h => ?_)
  obtain ⟨a_0, b_1, _u⟩ := x
  exact (pleachref10_SameMsg_eq a_0 b_1).trans h
noncomputable def pleachref10_MayMsg_Γ : Ctx := [(42, pleachref10_SameMsg_e), (59, pleachref1_MayPath_e), (60, pleachref10_seq_e), (61, pleachref1_MaySpan_e)]
def pleachref10_MayMsg_fi : Fi := { keep := [], vty := [], vals := [], live := [(0, [1, 9, 10, 11, 14, 15, 16, 19, 20, 21, 24, 25, 26, 29, 30, 31, 34, 35, 36, 37, 38, 41, 42, 43, 46, 47, 48, 77, 78, 79, 82, 83, 84, 87, 88, 89, 92, 93, 94, 104, 105, 106, 113, 114, 115, 129, 130, 131, 134, 135, 136, 137, 156, 157, 158]), (1, [1, 49, 77, 78, 79, 82, 83, 84, 87, 88, 89, 92, 93, 94, 104, 105, 106, 113, 114, 115, 129, 130, 131, 134, 135, 136, 137, 156, 157, 158]), (2, [2]), (3, [1, 3, 77, 78, 79, 82, 83, 84, 87, 88, 89, 92, 93, 94, 104, 105, 106, 113, 114, 115, 129, 130, 131, 134, 135, 136, 137, 156, 157, 158]), (4, [1, 3, 4, 77, 78, 79, 82, 83, 84, 87, 88, 89, 92, 93, 94, 104, 105, 106, 113, 114, 115, 129, 130, 131, 134, 135, 136, 137, 156, 157, 158]), (5, [1, 3, 4, 60, 77, 78, 79, 82, 83, 84, 87, 88, 89, 92, 93, 94, 104, 105, 106, 113, 114, 115, 129, 130, 131, 134, 135, 136, 137, 156, 157, 158]), (6, [1, 3, 4, 60, 61, 77, 78, 79, 82, 83, 84, 87, 88, 89, 92, 93, 94, 104, 105, 106, 113, 114, 115, 129, 130, 131, 134, 135, 136, 137, 156, 157, 158]), (7, [1, 3, 4, 60, 61, 77, 78, 79, 82, 83, 84, 87, 88, 89, 92, 93, 94, 104, 105, 106, 113, 114, 115, 129, 130, 131, 134, 135, 136, 137, 156, 157, 158]), (8, [1, 3, 77, 78, 79, 82, 83, 84, 87, 88, 89, 92, 93, 94, 104, 105, 106, 113, 114, 115, 156, 157, 158]), (9, [1, 3, 4, 104, 105, 106, 113, 114, 115, 156, 157, 158]), (10, [1, 3, 4, 98, 104, 105, 106, 113, 114, 115, 156, 157, 158]), (11, [1, 3, 4, 104, 105, 106, 156, 157, 158]), (12, [1, 3, 4, 156, 157, 158]), (13, [1, 3, 4, 113, 114, 115, 156, 157, 158]), (14, [1, 3, 4, 156, 157, 158]), (15, [1, 3, 4, 60, 117, 129, 130, 131, 134, 135, 136, 137, 156, 157, 158]), (16, [1, 3, 129, 130, 131, 134, 135, 136, 137, 156, 157, 158]), (17, [1, 3, 4, 156, 157, 158]), (18, [1, 3, 4, 60, 139, 156, 157, 158]), (19, [1, 3, 4, 139, 156, 157, 158]), (20, [1, 3, 156, 157, 158]), (21, [1, 3, 4, 156, 157, 158]), (22, [2])] }
noncomputable def pleachref10_MayMsg (arr_0 : Int × Int × Int × Int × Int × Int × (List Int) × Int × Int × ByteArray) : Option ((Bool × Unit) × Unit) :=
 bif decide (arr_0.1 < 1) then
  some ((false, ()), ())
 else
 bif decide (arr_0.1 > 9) then
  some ((false, ()), ())
 else
 bif decide (arr_0.2.1 < 1) then
  some ((false, ()), ())
 else
 bif decide (arr_0.2.1 > 8) then
  some ((false, ()), ())
 else
 bif decide (arr_0.2.2.1 < 1) then
  some ((false, ()), ())
 else
 bif decide (arr_0.2.2.1 > 8) then
  some ((false, ()), ())
 else
 bif arr_0.2.1 == arr_0.2.2.1 then
  some ((false, ()), ())
 else
 bif decide (arr_0.2.2.2.1 < 1) then
  some ((false, ()), ())
 else
 bif decide (arr_0.2.2.2.1 > 1073741824) then
  some ((false, ()), ())
 else
 bif arr_0.1 == 2 then
  bif arr_0.1 == 2 then
   bif decide (arr_0.2.2.2.2.1 ≥ 0) then
    bif decide (arr_0.2.2.2.2.1 ≤ 1073741824) then
     bif decide (arr_0.2.2.2.2.2.1 ≥ 0) then
      bif decide (arr_0.2.2.2.2.2.1 ≤ 1073741824) then
       Option.bind (pleachref1_MayPath arr_0.2.2.2.2.2.2.1) fun (r1 : (Bool × Unit) × Unit) =>
       bif arr_0.1 == 2 then
        bif r1.1.1 then
         Option.bind (pleachref10_seq arr_0.2.2.2.2.2.2.2.1) fun (r2 : (Bool × Unit) × Unit) =>
         bif r2.1.1 then
          Option.bind (pleachref10_SameMsg (arr_0.1, arr_0.2.1, arr_0.2.2.1, arr_0.2.2.2.1, arr_0.2.2.2.2.1, arr_0.2.2.2.2.2.1, arr_0.2.2.2.2.2.2.1, arr_0.2.2.2.2.2.2.2.1, 0, (⟨#[]⟩ : ByteArray)) arr_0) fun (r3 : (Bool × Unit) × Unit) =>
          some ((r3.1.1, ()), ())
         else
          some ((false, ()), ())
        else
         some ((false, ()), ())
       else
       bif r1.1.1 then
        Option.bind (pleachref10_seq arr_0.2.2.2.2.2.2.2.2.1) fun (r4 : (Bool × Unit) × Unit) =>
        bif r4.1.1 then
         Option.bind (pleachref10_SameMsg (arr_0.1, arr_0.2.1, arr_0.2.2.1, arr_0.2.2.2.1, arr_0.2.2.2.2.1, arr_0.2.2.2.2.2.1, arr_0.2.2.2.2.2.2.1, 0, arr_0.2.2.2.2.2.2.2.2.1, (⟨#[]⟩ : ByteArray)) arr_0) fun (r5 : (Bool × Unit) × Unit) =>
         some ((r5.1.1, ()), ())
        else
         some ((false, ()), ())
       else
        some ((false, ()), ())
      else
      bif arr_0.1 == 2 then
       some ((false, ()), ())
      else
       some ((false, ()), ())
     else
     bif arr_0.1 == 2 then
      some ((false, ()), ())
     else
      some ((false, ()), ())
    else
    bif arr_0.1 == 2 then
     some ((false, ()), ())
    else
     some ((false, ()), ())
   else
   bif arr_0.1 == 2 then
    some ((false, ()), ())
   else
    some ((false, ()), ())
  else
  bif arr_0.1 == 7 then
   bif decide (arr_0.2.2.2.2.2.2.2.1 ≥ 1) then
    Option.bind (pleachref10_seq arr_0.2.2.2.2.2.2.2.1) fun (r6 : (Bool × Unit) × Unit) =>
    bif r6.1.1 then
     bif decide ((arr_0.2.2.2.2.2.2.2.2.2.size : Int) ≤ 12) then
      Option.bind (pleachref10_SameMsg (arr_0.1, arr_0.2.1, arr_0.2.2.1, arr_0.2.2.2.1, 0, 0, [], arr_0.2.2.2.2.2.2.2.1, 0, arr_0.2.2.2.2.2.2.2.2.2) arr_0) fun (r7 : (Bool × Unit) × Unit) =>
      some ((r7.1.1, ()), ())
     else
      some ((false, ()), ())
    else
     some ((false, ()), ())
   else
    some ((false, ()), ())
  else
  bif arr_0.1 == 8 then
   bif arr_0.1 == 8 then
    Option.bind (pleachref1_MaySpan (arr_0.2.2.2.2.2.2.2.1, arr_0.2.2.2.2.2.2.2.2.1)) fun (r8 : (Bool × Unit) × Unit) =>
    bif r8.1.1 then
     Option.bind (pleachref10_SameMsg (arr_0.1, arr_0.2.1, arr_0.2.2.1, arr_0.2.2.2.1, 0, 0, [], arr_0.2.2.2.2.2.2.2.1, arr_0.2.2.2.2.2.2.2.2.1, (⟨#[]⟩ : ByteArray)) arr_0) fun (r9 : (Bool × Unit) × Unit) =>
     some ((r9.1.1, ()), ())
    else
     some ((false, ()), ())
   else
    Option.bind (pleachref10_SameMsg (arr_0.1, arr_0.2.1, arr_0.2.2.1, arr_0.2.2.2.1, 0, 0, [], 0, 0, (⟨#[]⟩ : ByteArray)) arr_0) fun (r10 : (Bool × Unit) × Unit) =>
    some ((r10.1.1, ()), ())
  else
  bif arr_0.1 == 9 then
   Option.bind (pleachref1_MaySpan (arr_0.2.2.2.2.2.2.2.1, arr_0.2.2.2.2.2.2.2.2.1)) fun (r11 : (Bool × Unit) × Unit) =>
   bif r11.1.1 then
    Option.bind (pleachref10_SameMsg (arr_0.1, arr_0.2.1, arr_0.2.2.1, arr_0.2.2.2.1, 0, 0, [], arr_0.2.2.2.2.2.2.2.1, arr_0.2.2.2.2.2.2.2.2.1, (⟨#[]⟩ : ByteArray)) arr_0) fun (r12 : (Bool × Unit) × Unit) =>
    some ((r12.1.1, ()), ())
   else
    some ((false, ()), ())
  else
   Option.bind (pleachref10_SameMsg (arr_0.1, arr_0.2.1, arr_0.2.2.1, arr_0.2.2.2.1, 0, 0, [], 0, 0, (⟨#[]⟩ : ByteArray)) arr_0) fun (r13 : (Bool × Unit) × Unit) =>
   some ((r13.1.1, ()), ())
 else
 bif arr_0.1 == 5 then
  bif decide (arr_0.2.2.2.2.1 ≥ 0) then
   bif decide (arr_0.2.2.2.2.1 ≤ 1073741824) then
    bif decide (arr_0.2.2.2.2.2.1 ≥ 0) then
     bif decide (arr_0.2.2.2.2.2.1 ≤ 1073741824) then
      Option.bind (pleachref1_MayPath arr_0.2.2.2.2.2.2.1) fun (r14 : (Bool × Unit) × Unit) =>
      bif arr_0.1 == 2 then
       bif r14.1.1 then
        Option.bind (pleachref10_seq arr_0.2.2.2.2.2.2.2.1) fun (r15 : (Bool × Unit) × Unit) =>
        bif r15.1.1 then
         Option.bind (pleachref10_SameMsg (arr_0.1, arr_0.2.1, arr_0.2.2.1, arr_0.2.2.2.1, arr_0.2.2.2.2.1, arr_0.2.2.2.2.2.1, arr_0.2.2.2.2.2.2.1, arr_0.2.2.2.2.2.2.2.1, 0, (⟨#[]⟩ : ByteArray)) arr_0) fun (r16 : (Bool × Unit) × Unit) =>
         some ((r16.1.1, ()), ())
        else
         some ((false, ()), ())
       else
        some ((false, ()), ())
      else
      bif r14.1.1 then
       Option.bind (pleachref10_seq arr_0.2.2.2.2.2.2.2.2.1) fun (r17 : (Bool × Unit) × Unit) =>
       bif r17.1.1 then
        Option.bind (pleachref10_SameMsg (arr_0.1, arr_0.2.1, arr_0.2.2.1, arr_0.2.2.2.1, arr_0.2.2.2.2.1, arr_0.2.2.2.2.2.1, arr_0.2.2.2.2.2.2.1, 0, arr_0.2.2.2.2.2.2.2.2.1, (⟨#[]⟩ : ByteArray)) arr_0) fun (r18 : (Bool × Unit) × Unit) =>
        some ((r18.1.1, ()), ())
       else
        some ((false, ()), ())
      else
       some ((false, ()), ())
     else
     bif arr_0.1 == 2 then
      some ((false, ()), ())
     else
      some ((false, ()), ())
    else
    bif arr_0.1 == 2 then
     some ((false, ()), ())
    else
     some ((false, ()), ())
   else
   bif arr_0.1 == 2 then
    some ((false, ()), ())
   else
    some ((false, ()), ())
  else
  bif arr_0.1 == 2 then
   some ((false, ()), ())
  else
   some ((false, ()), ())
 else
 bif arr_0.1 == 7 then
  bif decide (arr_0.2.2.2.2.2.2.2.1 ≥ 1) then
   Option.bind (pleachref10_seq arr_0.2.2.2.2.2.2.2.1) fun (r19 : (Bool × Unit) × Unit) =>
   bif r19.1.1 then
    bif decide ((arr_0.2.2.2.2.2.2.2.2.2.size : Int) ≤ 12) then
     Option.bind (pleachref10_SameMsg (arr_0.1, arr_0.2.1, arr_0.2.2.1, arr_0.2.2.2.1, 0, 0, [], arr_0.2.2.2.2.2.2.2.1, 0, arr_0.2.2.2.2.2.2.2.2.2) arr_0) fun (r20 : (Bool × Unit) × Unit) =>
     some ((r20.1.1, ()), ())
    else
     some ((false, ()), ())
   else
    some ((false, ()), ())
  else
   some ((false, ()), ())
 else
 bif arr_0.1 == 8 then
  bif arr_0.1 == 8 then
   Option.bind (pleachref1_MaySpan (arr_0.2.2.2.2.2.2.2.1, arr_0.2.2.2.2.2.2.2.2.1)) fun (r21 : (Bool × Unit) × Unit) =>
   bif r21.1.1 then
    Option.bind (pleachref10_SameMsg (arr_0.1, arr_0.2.1, arr_0.2.2.1, arr_0.2.2.2.1, 0, 0, [], arr_0.2.2.2.2.2.2.2.1, arr_0.2.2.2.2.2.2.2.2.1, (⟨#[]⟩ : ByteArray)) arr_0) fun (r22 : (Bool × Unit) × Unit) =>
    some ((r22.1.1, ()), ())
   else
    some ((false, ()), ())
  else
   Option.bind (pleachref10_SameMsg (arr_0.1, arr_0.2.1, arr_0.2.2.1, arr_0.2.2.2.1, 0, 0, [], 0, 0, (⟨#[]⟩ : ByteArray)) arr_0) fun (r23 : (Bool × Unit) × Unit) =>
   some ((r23.1.1, ()), ())
 else
 bif arr_0.1 == 9 then
  Option.bind (pleachref1_MaySpan (arr_0.2.2.2.2.2.2.2.1, arr_0.2.2.2.2.2.2.2.2.1)) fun (r24 : (Bool × Unit) × Unit) =>
  bif r24.1.1 then
   Option.bind (pleachref10_SameMsg (arr_0.1, arr_0.2.1, arr_0.2.2.1, arr_0.2.2.2.1, 0, 0, [], arr_0.2.2.2.2.2.2.2.1, arr_0.2.2.2.2.2.2.2.2.1, (⟨#[]⟩ : ByteArray)) arr_0) fun (r25 : (Bool × Unit) × Unit) =>
   some ((r25.1.1, ()), ())
  else
   some ((false, ()), ())
 else
  Option.bind (pleachref10_SameMsg (arr_0.1, arr_0.2.1, arr_0.2.2.1, arr_0.2.2.2.1, 0, 0, [], 0, 0, (⟨#[]⟩ : ByteArray)) arr_0) fun (r26 : (Bool × Unit) × Unit) =>
  some ((r26.1.1, ()), ())
theorem pleachref10_MayMsg_eq (arr_0 : Int × Int × Int × Int × Int × Int × (List Int) × Int × Int × ByteArray) : evFn pleachref10_MayMsg_Γ tab pleachref10_MayMsg_fi 1 [.val t58] [⟨t4, [false], none⟩] Try.f38 (arr_0, ()) = pleachref10_MayMsg arr_0 := by kernel_rfl
noncomputable def pleachref10_MayMsg_e : Ent := ⟨[.val t58], [⟨t4, [false], none⟩], fun x => pleachref10_MayMsg x.1⟩
theorem pleachref10_MayMsg_good : Good tab.ty Try.prog 38 pleachref10_MayMsg_e := by
  refine fn_good (Γ := pleachref10_MayMsg_Γ) (fi := pleachref10_MayMsg_fi) (n := 1) follows (gcons pleachref10_SameMsg_good (gcons pleachref1_MayPath_good (gcons pleachref10_seq_good (gcons pleachref1_MaySpan_good gnil)))) tabok Try.func38 (by kernel_rfl) (by kernel_rfl) (fun x r h => ?_)
  obtain ⟨arr_0, _u⟩ := x
  exact (pleachref10_MayMsg_eq arr_0).trans h
noncomputable def pleachref10_PutNum_Γ : Ctx := []
def pleachref10_PutNum_fi : Fi := { keep := [], vty := [], vals := [], live := [(0, [0, 1]), (1, [1, 5]), (2, [1, 5, 10]), (3, [1, 5]), (4, [4])] }
noncomputable def pleachref10_PutNum_B1 (L1 : Int → List Int → Option (((List Int) × Unit) × Unit)) (v1 : Int) (v2 : List Int) : Option (((List Int) × Unit) × Unit) :=
 bif decide (v1 ≥ 128) then
  bif Nat.ble (v2.length + 1) 1073741824 then
   L1 (IntKind.wrap .i64 (Int.tdiv v1 128)) (v2 ++ [IntKind.wrap .u8 (IntKind.wrap .i64 ((Int.tmod v1 128) + 128))])
  else none
 else
 bif Nat.ble (v2.length + 1) 1073741824 then
  some ((v2 ++ [IntKind.wrap .u8 v1], ()), ())
 else none
noncomputable def pleachref10_PutNum_T (L1 : Int → List Int → Option (((List Int) × Unit) × Unit)) (b_0 : List Int) (v_1 : Int) : Option (((List Int) × Unit) × Unit) :=
 bif Nat.ble (0 + b_0.length) 1073741824 then
  L1 v_1 ([] ++ b_0)
 else none
noncomputable def pleachref10_PutNum_L1 (n : Nat) : Nat → Int → List Int → Option (((List Int) × Unit) × Unit) := iter (fun _ _ => none) fun L => pleachref10_PutNum_B1 L
noncomputable def pleachref10_PutNum_X1 (n m : Nat) (v1 : Int) (v2 : List Int) : Option (((List Int) × Unit) × Unit) :=
 atLoop pleachref10_PutNum_Γ tab (fiB [.val t23, .val t2] pleachref10_PutNum_fi) n [.val t23, .val t2] [⟨t23, [true], none⟩] Try.f18 [1, 1, 0, 0] [] [1, 5] m
 ⟨[(1, SV.cv (CV.one (LV.pure t2 v1))), (5, SV.cv (CV.one (LV.ref (888888, 5))))],
  [((888888, 5), Ob.row 5 t5 v2)]⟩
theorem pleachref10_PutNum_step1 (n m : Nat) (v1 : Int) (v2 : List Int) : pleachref10_PutNum_X1 n (m + 1) v1 v2 = pleachref10_PutNum_B1 (pleachref10_PutNum_X1 n m) v1 v2 := by kernel_rfl
theorem pleachref10_PutNum_start (n : Nat) (b_0 : List Int) (v_1 : Int) : evFn pleachref10_PutNum_Γ tab pleachref10_PutNum_fi n [.val t23, .val t2] [⟨t23, [true], none⟩] Try.f18 (b_0, v_1, ()) = pleachref10_PutNum_T (pleachref10_PutNum_X1 n n) b_0 v_1 := by kernel_rfl
theorem pleachref10_PutNum_XL1 (n : Nat) : ∀ m, pleachref10_PutNum_X1 n m = pleachref10_PutNum_L1 n m
 | 0 => rfl
 | m + 1 => by
  have ih := pleachref10_PutNum_XL1 n m
  funext v1 v2
  rw [pleachref10_PutNum_step1, ih]
  rfl
noncomputable def pleachref10_PutNum_n (n : Nat) (b_0 : List Int) (v_1 : Int) : Option (((List Int) × Unit) × Unit) := pleachref10_PutNum_T (pleachref10_PutNum_L1 n n) b_0 v_1
noncomputable def pleachref10_PutNum (b_0 : List Int) (v_1 : Int) : Option (((List Int) × Unit) × Unit) := pleachref10_PutNum_n 1099511627776 b_0 v_1
theorem pleachref10_PutNum_eq (n : Nat) (b_0 : List Int) (v_1 : Int) : evFn pleachref10_PutNum_Γ tab pleachref10_PutNum_fi n [.val t23, .val t2] [⟨t23, [true], none⟩] Try.f18 (b_0, v_1, ()) = pleachref10_PutNum_n n b_0 v_1 := by
  rw [pleachref10_PutNum_start, pleachref10_PutNum_XL1 n n]
  rfl
noncomputable def pleachref10_PutNum_e : Ent := ⟨[.val t23, .val t2], [⟨t23, [true], none⟩], fun x => pleachref10_PutNum x.1 x.2.1⟩
theorem pleachref10_PutNum_good : Good tab.ty Try.prog 18 pleachref10_PutNum_e := by
  refine fn_good (Γ := pleachref10_PutNum_Γ) (fi := pleachref10_PutNum_fi) (n := 1099511627776) follows gnil tabok Try.func18 (by kernel_rfl) (by kernel_rfl) (fun x r h => ?_)
  obtain ⟨b_0, v_1, _u⟩ := x
  exact (pleachref10_PutNum_eq 1099511627776 b_0 v_1).trans h
noncomputable def pleachref10_PutText_Γ : Ctx := [(18, pleachref10_PutNum_e)]
def pleachref10_PutText_fi : Fi := { keep := [], vty := [], vals := [], live := [(0, [0, 1]), (1, [4])] }
noncomputable def pleachref10_PutText (b_0 : List Int) (s_1 : ByteArray) : Option (((List Int) × Unit) × Unit) :=
 Option.bind (pleachref10_PutNum b_0 (s_1.size : Int)) fun (r1 : ((List Int) × Unit) × Unit) =>
 bif Nat.ble (r1.1.1.length + (s_1.data.toList.map fun b => (b.toNat : Int)).length) 1073741824 then
  some ((r1.1.1 ++ (s_1.data.toList.map fun b => (b.toNat : Int)), ()), ())
 else none
theorem pleachref10_PutText_eq (b_0 : List Int) (s_1 : ByteArray) : evFn pleachref10_PutText_Γ tab pleachref10_PutText_fi 1 [.val t23, .val t9] [⟨t23, [true], none⟩] Try.f20 (b_0, s_1, ()) = pleachref10_PutText b_0 s_1 := by kernel_rfl
noncomputable def pleachref10_PutText_e : Ent := ⟨[.val t23, .val t9], [⟨t23, [true], none⟩], fun x => pleachref10_PutText x.1 x.2.1⟩
theorem pleachref10_PutText_good : Good tab.ty Try.prog 20 pleachref10_PutText_e := by
  refine fn_good (Γ := pleachref10_PutText_Γ) (fi := pleachref10_PutText_fi) (n := 1) follows (gcons pleachref10_PutNum_good gnil) tabok Try.func20 (by kernel_rfl) (by kernel_rfl) (fun x r h => ?_)
  obtain ⟨b_0, s_1, _u⟩ := x
  exact (pleachref10_PutText_eq b_0 s_1).trans h
noncomputable def pleachref10_Sum_Γ : Ctx := []
def pleachref10_Sum_fi : Fi := { keep := [], vty := [], vals := [], live := [(0, [0]), (1, [0, 3]), (2, [0, 3, 4]), (3, [0, 3, 4, 9]), (4, [0, 3, 4]), (5, [0, 3, 4]), (6, [0, 3, 4, 5]), (7, [0, 3, 4, 5, 20]), (8, [0, 3, 4, 5]), (9, [0, 3, 4, 5, 25]), (10, [0, 3, 4, 5]), (11, [0, 3, 4, 5]), (12, [2])] }
noncomputable def pleachref10_Sum_B1 (L2 : List Int → Int → Int → Int → Option ((Int × Unit) × Unit)) (v1 : List Int) (v2 : Int) (v3 : Int) : Option ((Int × Unit) × Unit) :=
 bif decide (v3 < (v1.length : Int)) then
  bif decide (0 ≤ v3) && decide (v3 < (v1.length : Int)) then
   L2 v1 (IntKind.wrap .u32 ((BitVec.ofInt 32 v2 ^^^ BitVec.ofInt 32 (IntKind.wrap .u32 (List.getD v1 v3.toNat 0))).toNat)) v3 0
  else none
 else
  some ((IntKind.wrap .u32 ((BitVec.ofInt 32 4294967295 ^^^ BitVec.ofInt 32 v2).toNat), ()), ())
noncomputable def pleachref10_Sum_B2 (L2 : List Int → Int → Int → Int → Option ((Int × Unit) × Unit)) (L1 : List Int → Int → Int → Option ((Int × Unit) × Unit)) (v4 : List Int) (v5 : Int) (v6 : Int) (v7 : Int) : Option ((Int × Unit) × Unit) :=
 bif decide (v7 < 8) then
  bif (Int.tmod v5 2) == 1 then
   L2 v4 (IntKind.wrap .u32 ((BitVec.ofInt 32 (IntKind.wrap .u32 (Int.tdiv v5 2)) ^^^ BitVec.ofInt 32 3988292384).toNat)) v6 (IntKind.wrap .i64 (v7 + 1))
  else
   L2 v4 (IntKind.wrap .u32 (Int.tdiv v5 2)) v6 (IntKind.wrap .i64 (v7 + 1))
 else
  L1 v4 v5 (IntKind.wrap .i64 (v6 + 1))
noncomputable def pleachref10_Sum_T (L1 : List Int → Int → Int → Option ((Int × Unit) × Unit)) (b_0 : List Int) : Option ((Int × Unit) × Unit) :=
 L1 b_0 4294967295 0
noncomputable def pleachref10_Sum_L2 (n : Nat) (m1 : Nat) (r1 : List Int → Int → Int → Option ((Int × Unit) × Unit)) : Nat → List Int → Int → Int → Int → Option ((Int × Unit) × Unit) := iter (fun _ _ _ _ => none) fun L => pleachref10_Sum_B2 L r1
noncomputable def pleachref10_Sum_L1 (n : Nat) : Nat → List Int → Int → Int → Option ((Int × Unit) × Unit) := iterN (fun _ _ _ => none) fun m L => pleachref10_Sum_B1 (pleachref10_Sum_L2 n m L n)
noncomputable def pleachref10_Sum_X1 (n m : Nat) (v1 : List Int) (v2 : Int) (v3 : Int) : Option ((Int × Unit) × Unit) :=
 atLoop pleachref10_Sum_Γ tab (fiB [.val t23] pleachref10_Sum_fi) n [.val t23] [⟨t22, [false], none⟩] Try.f63 [1, 1, 0, 1, 0] [] [0, 3, 4] m
 ⟨[(0, SV.cv (CV.one (LV.pure t23 v1))), (3, SV.cv (CV.one (LV.pure t22 v2))), (4, SV.cv (CV.one (LV.pure t2 v3)))],
  []⟩
noncomputable def pleachref10_Sum_X2 (n m1 m : Nat) (v4 : List Int) (v5 : Int) (v6 : Int) (v7 : Int) : Option ((Int × Unit) × Unit) :=
 atLoop pleachref10_Sum_Γ tab (fiB [.val t23] pleachref10_Sum_fi) n [.val t23] [⟨t22, [false], none⟩] Try.f63 [1, 1, 0, 1, 0, 0, 1, 0, 0, 1, 1, 0] [(m1, [0, 3, 4])] [0, 3, 4, 5] m
 ⟨[(0, SV.cv (CV.one (LV.pure t23 v4))), (3, SV.cv (CV.one (LV.pure t22 v5))), (4, SV.cv (CV.one (LV.pure t2 v6))), (5, SV.cv (CV.one (LV.pure t2 v7)))],
  []⟩
theorem pleachref10_Sum_step1 (n m : Nat) (v1 : List Int) (v2 : Int) (v3 : Int) : pleachref10_Sum_X1 n (m + 1) v1 v2 v3 = pleachref10_Sum_B1 (pleachref10_Sum_X2 n m n) v1 v2 v3 := by kernel_rfl
theorem pleachref10_Sum_step2 (n m1 m : Nat) (v4 : List Int) (v5 : Int) (v6 : Int) (v7 : Int) : pleachref10_Sum_X2 n m1 (m + 1) v4 v5 v6 v7 = pleachref10_Sum_B2 (pleachref10_Sum_X2 n m1 m) (pleachref10_Sum_X1 n m1) v4 v5 v6 v7 := by kernel_rfl
theorem pleachref10_Sum_start (n : Nat) (b_0 : List Int) : evFn pleachref10_Sum_Γ tab pleachref10_Sum_fi n [.val t23] [⟨t22, [false], none⟩] Try.f63 (b_0, ()) = pleachref10_Sum_T (pleachref10_Sum_X1 n n) b_0 := by kernel_rfl
theorem pleachref10_Sum_XL2 (n : Nat) (m1 : Nat) (r1 : List Int → Int → Int → Option ((Int × Unit) × Unit)) (h1 : pleachref10_Sum_X1 n m1 = r1) : ∀ m, pleachref10_Sum_X2 n m1 m = pleachref10_Sum_L2 n m1 r1 m
 | 0 => rfl
 | m + 1 => by
  have ih := pleachref10_Sum_XL2 n m1 r1 h1 m
  funext v4 v5 v6 v7
  rw [pleachref10_Sum_step2, ih, h1]
  rfl
theorem pleachref10_Sum_XL1 (n : Nat) : ∀ m, pleachref10_Sum_X1 n m = pleachref10_Sum_L1 n m
 | 0 => rfl
 | m + 1 => by
  have ih := pleachref10_Sum_XL1 n m
  funext v1 v2 v3
  rw [pleachref10_Sum_step1, pleachref10_Sum_XL2 n m _ ih n]
  rfl
noncomputable def pleachref10_Sum_n (n : Nat) (b_0 : List Int) : Option ((Int × Unit) × Unit) := pleachref10_Sum_T (pleachref10_Sum_L1 n n) b_0
noncomputable def pleachref10_Sum (b_0 : List Int) : Option ((Int × Unit) × Unit) := pleachref10_Sum_n 1099511627776 b_0
theorem pleachref10_Sum_eq (n : Nat) (b_0 : List Int) : evFn pleachref10_Sum_Γ tab pleachref10_Sum_fi n [.val t23] [⟨t22, [false], none⟩] Try.f63 (b_0, ()) = pleachref10_Sum_n n b_0 := by
  rw [pleachref10_Sum_start, pleachref10_Sum_XL1 n n]
  rfl
noncomputable def pleachref10_Sum_e : Ent := ⟨[.val t23], [⟨t22, [false], none⟩], fun x => pleachref10_Sum x.1⟩
theorem pleachref10_Sum_good : Good tab.ty Try.prog 63 pleachref10_Sum_e := by
  refine fn_good (Γ := pleachref10_Sum_Γ) (fi := pleachref10_Sum_fi) (n := 1099511627776) follows gnil tabok Try.func63 (by kernel_rfl) (by kernel_rfl) (fun x r h => ?_)
  obtain ⟨b_0, _u⟩ := x
  exact (pleachref10_Sum_eq 1099511627776 b_0).trans h
noncomputable def pleachref10_PutMsg_Γ : Ctx := [(18, pleachref10_PutNum_e), (20, pleachref10_PutText_e), (38, pleachref10_MayMsg_e), (63, pleachref10_Sum_e)]
def pleachref10_PutMsg_fi : Fi := { keep := [], vty := [(4, 23)], vals := [], live := [(0, [1]), (1, [1, 9]), (2, [2]), (3, [1, 3]), (4, [1, 3]), (5, [1, 3, 4]), (6, [1, 3, 4, 5]), (7, [1, 3, 4, 5, 39]), (8, [1, 3, 4, 5]), (9, [1, 3, 4, 5]), (10, [4]), (11, [4, 6]), (12, [2])] }
noncomputable def pleachref10_PutMsg_B1 (L1 : Int → Int → Int → Int → Int → Int → Int → List Int → Int → Int → ByteArray → List Int → List Int → Option (((List Int) × Unit) × Unit)) (v2 : Int) (v3 : Int) (v4 : Int) (v5 : Int) (v6 : Int) (v7 : Int) (v8 : Int) (v9 : List Int) (v10 : Int) (v11 : Int) (v12 : ByteArray) (v13 : List Int) (v14 : List Int) : Option (((List Int) × Unit) × Unit) :=
 bif decide (v2 < (v13.length : Int)) then
  bif decide (0 ≤ v2) && decide (v2 < (v13.length : Int)) then
   bif decide (0 ≤ v2) && decide (v2 < (v13.length : Int)) then
    Option.bind (pleachref10_PutNum v14 (List.getD v13 v2.toNat 0)) fun (r15 : ((List Int) × Unit) × Unit) =>
    L1 (IntKind.wrap .i64 (v2 + 1)) v3 v4 v5 v6 v7 v8 v9 v10 v11 v12 v13 r15.1.1
   else none
  else none
 else
  Option.bind (pleachref10_PutText v14 v12) fun (r16 : ((List Int) × Unit) × Unit) =>
  Option.bind (pleachref10_Sum r16.1.1) fun (r17 : (Int × Unit) × Unit) =>
  bif Nat.ble (r16.1.1.length + 4) 1073741824 then
   some ((r16.1.1 ++ [IntKind.wrap .u8 (Int.fdiv r17.1.1 (2 ^ 24)), IntKind.wrap .u8 (Int.fdiv r17.1.1 (2 ^ 16)), IntKind.wrap .u8 (Int.fdiv r17.1.1 (2 ^ 8)), IntKind.wrap .u8 r17.1.1], ()), ())
  else none
noncomputable def pleachref10_PutMsg_T (L1 : Int → Int → Int → Int → Int → Int → Int → List Int → Int → Int → ByteArray → List Int → List Int → Option (((List Int) × Unit) × Unit)) (m_0 : Int × Int × Int × Int × Int × Int × (List Int) × Int × Int × ByteArray) : Option (((List Int) × Unit) × Unit) :=
 Option.bind (pleachref10_MayMsg m_0) fun (r1 : (Bool × Unit) × Unit) =>
 bif !r1.1.1 then
  some (([], ()), ())
 else
 bif Nat.ble (7 + m_0.2.2.2.2.2.2.1.length) 1073741824 then
  bif Nat.ble (([m_0.1, m_0.2.1, m_0.2.2.1, m_0.2.2.2.1, m_0.2.2.2.2.1, m_0.2.2.2.2.2.1, (m_0.2.2.2.2.2.2.1.length : Int)] ++ m_0.2.2.2.2.2.2.1).length + 2) 1073741824 then
   L1 0 m_0.1 m_0.2.1 m_0.2.2.1 m_0.2.2.2.1 m_0.2.2.2.2.1 m_0.2.2.2.2.2.1 m_0.2.2.2.2.2.2.1 m_0.2.2.2.2.2.2.2.1 m_0.2.2.2.2.2.2.2.2.1 m_0.2.2.2.2.2.2.2.2.2 (([m_0.1, m_0.2.1, m_0.2.2.1, m_0.2.2.2.1, m_0.2.2.2.2.1, m_0.2.2.2.2.2.1, (m_0.2.2.2.2.2.2.1.length : Int)] ++ m_0.2.2.2.2.2.2.1) ++ [m_0.2.2.2.2.2.2.2.1, m_0.2.2.2.2.2.2.2.2.1]) []
  else none
 else none
noncomputable def pleachref10_PutMsg_L1 (n : Nat) : Nat → Int → Int → Int → Int → Int → Int → Int → List Int → Int → Int → ByteArray → List Int → List Int → Option (((List Int) × Unit) × Unit) := iter (fun _ _ _ _ _ _ _ _ _ _ _ _ _ => none) fun L => pleachref10_PutMsg_B1 L
noncomputable def pleachref10_PutMsg_X1 (n m : Nat) (v2 : Int) (v3 : Int) (v4 : Int) (v5 : Int) (v6 : Int) (v7 : Int) (v8 : Int) (v9 : List Int) (v10 : Int) (v11 : Int) (v12 : ByteArray) (v13 : List Int) (v14 : List Int) : Option (((List Int) × Unit) × Unit) :=
 atLoop pleachref10_PutMsg_Γ tab (fiB [.val t58] pleachref10_PutMsg_fi) n [.val t58] [⟨t23, [true], none⟩] Try.f40 [1, 1, 1, 1, 1, 0, 1, 0] [] [1, 3, 4, 5] m
 ⟨[(1, SV.cv (CV.one (LV.ptr (1, 0) 0))), (3, SV.cv (CV.one (LV.ref (888888, 3)))), (4, SV.cv (CV.one (LV.ref (888888, 4)))), (5, SV.cv (CV.one (LV.pure t2 v2)))],
  [((1, 0), Ob.box 59 [LV.pure t2 v3, LV.pure t2 v4, LV.pure t2 v5, LV.pure t2 v6, LV.pure t2 v7, LV.pure t2 v8, LV.pure t33 v9, LV.pure t2 v10, LV.pure t2 v11, LV.pure t9 v12]), ((888888, 3), Ob.row 3 t2 v13), ((888888, 4), Ob.row 5 t5 v14)]⟩
theorem pleachref10_PutMsg_step1 (n m : Nat) (v2 : Int) (v3 : Int) (v4 : Int) (v5 : Int) (v6 : Int) (v7 : Int) (v8 : Int) (v9 : List Int) (v10 : Int) (v11 : Int) (v12 : ByteArray) (v13 : List Int) (v14 : List Int) : pleachref10_PutMsg_X1 n (m + 1) v2 v3 v4 v5 v6 v7 v8 v9 v10 v11 v12 v13 v14 = pleachref10_PutMsg_B1 (pleachref10_PutMsg_X1 n m) v2 v3 v4 v5 v6 v7 v8 v9 v10 v11 v12 v13 v14 := by kernel_rfl
theorem pleachref10_PutMsg_start (n : Nat) (m_0 : Int × Int × Int × Int × Int × Int × (List Int) × Int × Int × ByteArray) : evFn pleachref10_PutMsg_Γ tab pleachref10_PutMsg_fi n [.val t58] [⟨t23, [true], none⟩] Try.f40 (m_0, ()) = pleachref10_PutMsg_T (pleachref10_PutMsg_X1 n n) m_0 := by kernel_rfl
theorem pleachref10_PutMsg_XL1 (n : Nat) : ∀ m, pleachref10_PutMsg_X1 n m = pleachref10_PutMsg_L1 n m
 | 0 => rfl
 | m + 1 => by
  have ih := pleachref10_PutMsg_XL1 n m
  funext v2 v3 v4 v5 v6 v7 v8 v9 v10 v11 v12 v13 v14
  rw [pleachref10_PutMsg_step1, ih]
  rfl
noncomputable def pleachref10_PutMsg_n (n : Nat) (m_0 : Int × Int × Int × Int × Int × Int × (List Int) × Int × Int × ByteArray) : Option (((List Int) × Unit) × Unit) := pleachref10_PutMsg_T (pleachref10_PutMsg_L1 n n) m_0
noncomputable def pleachref10_PutMsg (m_0 : Int × Int × Int × Int × Int × Int × (List Int) × Int × Int × ByteArray) : Option (((List Int) × Unit) × Unit) := pleachref10_PutMsg_n 1099511627776 m_0
theorem pleachref10_PutMsg_eq (n : Nat) (m_0 : Int × Int × Int × Int × Int × Int × (List Int) × Int × Int × ByteArray) : evFn pleachref10_PutMsg_Γ tab pleachref10_PutMsg_fi n [.val t58] [⟨t23, [true], none⟩] Try.f40 (m_0, ()) = pleachref10_PutMsg_n n m_0 := by
  rw [pleachref10_PutMsg_start, pleachref10_PutMsg_XL1 n n]
  rfl
noncomputable def pleachref10_PutMsg_e : Ent := ⟨[.val t58], [⟨t23, [true], none⟩], fun x => pleachref10_PutMsg x.1⟩
theorem pleachref10_PutMsg_good : Good tab.ty Try.prog 40 pleachref10_PutMsg_e := by
  refine fn_good (Γ := pleachref10_PutMsg_Γ) (fi := pleachref10_PutMsg_fi) (n := 1099511627776) follows (gcons pleachref10_PutNum_good (gcons pleachref10_PutText_good (gcons pleachref10_MayMsg_good (gcons pleachref10_Sum_good gnil)))) tabok Try.func40 (by kernel_rfl) (by kernel_rfl) (fun x r h => ?_)
  obtain ⟨m_0, _u⟩ := x
  exact (pleachref10_PutMsg_eq 1099511627776 m_0).trans h
noncomputable def pleachref10_TakeNum_Γ : Ctx := []
def pleachref10_TakeNum_fi : Fi := { keep := [], vty := [], vals := [], live := [(0, [0, 13, 14, 38, 39, 40, 41, 42, 45, 46]), (1, [0, 5, 6, 13, 14, 38, 39, 40, 41, 42, 45, 46]), (2, [0, 5, 6, 7, 13, 14, 38, 39, 40, 41, 42, 45, 46]), (3, [0, 5, 6, 7, 13, 14, 15, 38, 39, 40, 41, 42, 45, 46]), (4, [0, 5, 6, 7, 13, 14, 38, 39, 40, 41, 42, 45, 46]), (5, [0, 5, 6, 7, 13, 14, 38, 39, 40, 41, 42, 45, 46]), (6, [0, 5, 6, 7, 13, 14, 38, 39, 40, 41, 42, 45, 46]), (7, [0, 5, 6, 7, 13, 14, 34, 38, 39, 40, 41, 42, 45, 46]), (8, [5, 7, 47]), (9, [2, 3, 4]), (10, [2, 3, 4]), (11, [2, 3, 4])] }
noncomputable def pleachref10_TakeNum_B1 (L1 : List Int → Int → Int → Int → Option ((Int × Int × Bool × Unit) × Unit)) (v1 : List Int) (v2 : Int) (v3 : Int) (v4 : Int) : Option ((Int × Int × Bool × Unit) × Unit) :=
 bif decide (v4 < (v1.length : Int)) then
  bif decide (v4 < 5) then
   bif decide (0 ≤ v4) && decide (v4 < (v1.length : Int)) then
    bif decide (0 ≤ v4) && decide (v4 < (v1.length : Int)) then
     bif decide (List.getD v1 v4.toNat 0 < 128) then
      bif decide (v4 > 0) then
       bif decide (0 ≤ v4) && decide (v4 < (v1.length : Int)) then
        bif (List.getD v1 v4.toNat 0) == 0 then
         some ((0, 0, false, ()), ())
        else
        bif decide (IntKind.wrap .i64 (v2 + (IntKind.wrap .i64 ((IntKind.wrap .i64 (Int.tmod (List.getD v1 v4.toNat 0) 128)) * v3))) > 1073741824) then
         some ((0, 0, false, ()), ())
        else
         some ((IntKind.wrap .i64 (v2 + (IntKind.wrap .i64 ((IntKind.wrap .i64 (Int.tmod (List.getD v1 v4.toNat 0) 128)) * v3))), IntKind.wrap .i64 (v4 + 1), true, ()), ())
       else none
      else
      bif decide (IntKind.wrap .i64 (v2 + (IntKind.wrap .i64 ((IntKind.wrap .i64 (Int.tmod (List.getD v1 v4.toNat 0) 128)) * v3))) > 1073741824) then
       some ((0, 0, false, ()), ())
      else
       some ((IntKind.wrap .i64 (v2 + (IntKind.wrap .i64 ((IntKind.wrap .i64 (Int.tmod (List.getD v1 v4.toNat 0) 128)) * v3))), IntKind.wrap .i64 (v4 + 1), true, ()), ())
     else
      L1 v1 (IntKind.wrap .i64 (v2 + (IntKind.wrap .i64 ((IntKind.wrap .i64 (Int.tmod (List.getD v1 v4.toNat 0) 128)) * v3)))) (IntKind.wrap .i64 (v3 * 128)) (IntKind.wrap .i64 (v4 + 1))
    else none
   else none
  else
   some ((0, 0, false, ()), ())
 else
  some ((0, 0, false, ()), ())
noncomputable def pleachref10_TakeNum_T (L1 : List Int → Int → Int → Int → Option ((Int × Int × Bool × Unit) × Unit)) (b_0 : List Int) : Option ((Int × Int × Bool × Unit) × Unit) :=
 L1 b_0 0 1 0
noncomputable def pleachref10_TakeNum_L1 (n : Nat) : Nat → List Int → Int → Int → Int → Option ((Int × Int × Bool × Unit) × Unit) := iter (fun _ _ _ _ => none) fun L => pleachref10_TakeNum_B1 L
noncomputable def pleachref10_TakeNum_X1 (n m : Nat) (v1 : List Int) (v2 : Int) (v3 : Int) (v4 : Int) : Option ((Int × Int × Bool × Unit) × Unit) :=
 atLoop pleachref10_TakeNum_Γ tab (fiB [.val t23] pleachref10_TakeNum_fi) n [.val t23] [⟨t2, [false], none⟩, ⟨t2, [false], none⟩, ⟨t4, [false], none⟩] Try.f22 [1, 1, 0, 1, 0] [] [0, 5, 6, 7] m
 ⟨[(0, SV.cv (CV.one (LV.pure t23 v1))), (5, SV.cv (CV.one (LV.pure t2 v2))), (6, SV.cv (CV.one (LV.pure t2 v3))), (7, SV.cv (CV.one (LV.pure t2 v4)))],
  []⟩
theorem pleachref10_TakeNum_step1 (n m : Nat) (v1 : List Int) (v2 : Int) (v3 : Int) (v4 : Int) : pleachref10_TakeNum_X1 n (m + 1) v1 v2 v3 v4 = pleachref10_TakeNum_B1 (pleachref10_TakeNum_X1 n m) v1 v2 v3 v4 := by kernel_rfl
theorem pleachref10_TakeNum_start (n : Nat) (b_0 : List Int) : evFn pleachref10_TakeNum_Γ tab pleachref10_TakeNum_fi n [.val t23] [⟨t2, [false], none⟩, ⟨t2, [false], none⟩, ⟨t4, [false], none⟩] Try.f22 (b_0, ()) = pleachref10_TakeNum_T (pleachref10_TakeNum_X1 n n) b_0 := by kernel_rfl
theorem pleachref10_TakeNum_XL1 (n : Nat) : ∀ m, pleachref10_TakeNum_X1 n m = pleachref10_TakeNum_L1 n m
 | 0 => rfl
 | m + 1 => by
  have ih := pleachref10_TakeNum_XL1 n m
  funext v1 v2 v3 v4
  rw [pleachref10_TakeNum_step1, ih]
  rfl
noncomputable def pleachref10_TakeNum_n (n : Nat) (b_0 : List Int) : Option ((Int × Int × Bool × Unit) × Unit) := pleachref10_TakeNum_T (pleachref10_TakeNum_L1 n n) b_0
noncomputable def pleachref10_TakeNum (b_0 : List Int) : Option ((Int × Int × Bool × Unit) × Unit) := pleachref10_TakeNum_n 1099511627776 b_0
theorem pleachref10_TakeNum_eq (n : Nat) (b_0 : List Int) : evFn pleachref10_TakeNum_Γ tab pleachref10_TakeNum_fi n [.val t23] [⟨t2, [false], none⟩, ⟨t2, [false], none⟩, ⟨t4, [false], none⟩] Try.f22 (b_0, ()) = pleachref10_TakeNum_n n b_0 := by
  rw [pleachref10_TakeNum_start, pleachref10_TakeNum_XL1 n n]
  rfl
noncomputable def pleachref10_TakeNum_e : Ent := ⟨[.val t23], [⟨t2, [false], none⟩, ⟨t2, [false], none⟩, ⟨t4, [false], none⟩], fun x => pleachref10_TakeNum x.1⟩
theorem pleachref10_TakeNum_good : Good tab.ty Try.prog 22 pleachref10_TakeNum_e := by
  refine fn_good (Γ := pleachref10_TakeNum_Γ) (fi := pleachref10_TakeNum_fi) (n := 1099511627776) follows gnil tabok Try.func22 (by kernel_rfl) (by kernel_rfl) (fun x r h => ?_)
  obtain ⟨b_0, _u⟩ := x
  exact (pleachref10_TakeNum_eq 1099511627776 b_0).trans h
noncomputable def pleachref10_reader_num_Γ : Ctx := [(22, pleachref10_TakeNum_e)]
def pleachref10_reader_num_fi : Fi := { keep := [], vty := [], vals := [], live := [(0, [0]), (1, [0, 3, 4, 5]), (2, [0, 3, 4, 16]), (3, [0, 3, 4]), (4, [0, 3, 4, 23]), (5, [0, 2]), (6, [0, 3]), (7, [0, 2])] }
noncomputable def pleachref10_reader_num (r_0 : (List Int) × Bool) : Option ((Int × Unit) × (((List Int) × Bool) × Unit)) :=
 Option.bind (pleachref10_TakeNum r_0.1) fun (r1 : (Int × Int × Bool × Unit) × Unit) =>
 bif !r1.1.2.2.1 then
  some ((0, ()), ((r_0.1, true), ()))
 else
 bif r_0.2 then
  some ((0, ()), (r_0, ()))
 else
 bif (decide (0 ≤ r1.1.2.1) && decide (r1.1.2.1 ≤ (r_0.1.length : Int))) && decide ((r_0.1.length : Int) ≤ (r_0.1.length : Int)) then
  some ((r1.1.1, ()), ((List.drop r1.1.2.1.toNat (List.take ((r_0.1.length : Int).toNat) r_0.1), r_0.2), ()))
 else none
theorem pleachref10_reader_num_eq (r_0 : (List Int) × Bool) : evFn pleachref10_reader_num_Γ tab pleachref10_reader_num_fi 1 [.box 95 t94 [false, false]] [⟨t2, [false], none⟩] Try.f52 (r_0, ()) = pleachref10_reader_num r_0 := by kernel_rfl
noncomputable def pleachref10_reader_num_e : Ent := ⟨[.box 95 t94 [false, false]], [⟨t2, [false], none⟩], fun x => pleachref10_reader_num x.1⟩
theorem pleachref10_reader_num_good : Good tab.ty Try.prog 52 pleachref10_reader_num_e := by
  refine fn_good (Γ := pleachref10_reader_num_Γ) (fi := pleachref10_reader_num_fi) (n := 1) follows (gcons pleachref10_TakeNum_good gnil) tabok Try.func52 (by kernel_rfl) (by kernel_rfl) (fun x r h => ?_)
  obtain ⟨r_0, _u⟩ := x
  exact (pleachref10_reader_num_eq r_0).trans h
noncomputable def pleachref10_TakeText_Γ : Ctx := [(22, pleachref10_TakeNum_e)]
def pleachref10_TakeText_fi : Fi := { keep := [], vty := [], vals := [], live := [(0, [0, 17, 18, 19, 20, 21, 22]), (1, [0, 5, 6, 7, 17, 18, 19, 20, 21, 22]), (2, [0, 5, 6, 23]), (3, [2, 3, 4]), (4, [2, 3, 4])] }
noncomputable def pleachref10_TakeText (b_0 : List Int) : Option ((ByteArray × Int × Bool × Unit) × Unit) :=
 Option.bind (pleachref10_TakeNum b_0) fun (r1 : (Int × Int × Bool × Unit) × Unit) =>
 bif !r1.1.2.2.1 then
  some (((⟨#[]⟩ : ByteArray), 0, false, ()), ())
 else
 bif decide (r1.1.1 > IntKind.wrap .i64 ((b_0.length : Int) - r1.1.2.1)) then
  some (((⟨#[]⟩ : ByteArray), 0, false, ()), ())
 else
 bif (decide (0 ≤ r1.1.2.1) && decide (r1.1.2.1 ≤ IntKind.wrap .i64 (r1.1.2.1 + r1.1.1))) && decide (IntKind.wrap .i64 (r1.1.2.1 + r1.1.1) ≤ (b_0.length : Int)) then
  some ((bytesOf (List.drop r1.1.2.1.toNat (List.take ((IntKind.wrap .i64 (r1.1.2.1 + r1.1.1)).toNat) b_0)), IntKind.wrap .i64 (r1.1.2.1 + r1.1.1), true, ()), ())
 else none
theorem pleachref10_TakeText_eq (b_0 : List Int) : evFn pleachref10_TakeText_Γ tab pleachref10_TakeText_fi 1 [.val t23] [⟨t9, [false], none⟩, ⟨t2, [false], none⟩, ⟨t4, [false], none⟩] Try.f24 (b_0, ()) = pleachref10_TakeText b_0 := by kernel_rfl
noncomputable def pleachref10_TakeText_e : Ent := ⟨[.val t23], [⟨t9, [false], none⟩, ⟨t2, [false], none⟩, ⟨t4, [false], none⟩], fun x => pleachref10_TakeText x.1⟩
theorem pleachref10_TakeText_good : Good tab.ty Try.prog 24 pleachref10_TakeText_e := by
  refine fn_good (Γ := pleachref10_TakeText_Γ) (fi := pleachref10_TakeText_fi) (n := 1) follows (gcons pleachref10_TakeNum_good gnil) tabok Try.func24 (by kernel_rfl) (by kernel_rfl) (fun x r h => ?_)
  obtain ⟨b_0, _u⟩ := x
  exact (pleachref10_TakeText_eq b_0).trans h
noncomputable def pleachref10_reader_text_Γ : Ctx := [(24, pleachref10_TakeText_e)]
def pleachref10_reader_text_fi : Fi := { keep := [], vty := [], vals := [], live := [(0, [0]), (1, [0, 3, 4, 5]), (2, [0, 3, 4, 16]), (3, [0, 3, 4]), (4, [0, 3, 4, 23]), (5, [0, 2]), (6, [0, 3]), (7, [0, 2])] }
noncomputable def pleachref10_reader_text (r_0 : (List Int) × Bool) : Option ((ByteArray × Unit) × (((List Int) × Bool) × Unit)) :=
 Option.bind (pleachref10_TakeText r_0.1) fun (r1 : (ByteArray × Int × Bool × Unit) × Unit) =>
 bif !r1.1.2.2.1 then
  some (((⟨#[]⟩ : ByteArray), ()), ((r_0.1, true), ()))
 else
 bif r_0.2 then
  some (((⟨#[]⟩ : ByteArray), ()), (r_0, ()))
 else
 bif (decide (0 ≤ r1.1.2.1) && decide (r1.1.2.1 ≤ (r_0.1.length : Int))) && decide ((r_0.1.length : Int) ≤ (r_0.1.length : Int)) then
  some ((r1.1.1, ()), ((List.drop r1.1.2.1.toNat (List.take ((r_0.1.length : Int).toNat) r_0.1), r_0.2), ()))
 else none
theorem pleachref10_reader_text_eq (r_0 : (List Int) × Bool) : evFn pleachref10_reader_text_Γ tab pleachref10_reader_text_fi 1 [.box 95 t94 [false, false]] [⟨t9, [false], none⟩] Try.f53 (r_0, ()) = pleachref10_reader_text r_0 := by kernel_rfl
noncomputable def pleachref10_reader_text_e : Ent := ⟨[.box 95 t94 [false, false]], [⟨t9, [false], none⟩], fun x => pleachref10_reader_text x.1⟩
theorem pleachref10_reader_text_good : Good tab.ty Try.prog 53 pleachref10_reader_text_e := by
  refine fn_good (Γ := pleachref10_reader_text_Γ) (fi := pleachref10_reader_text_fi) (n := 1) follows (gcons pleachref10_TakeText_good gnil) tabok Try.func53 (by kernel_rfl) (by kernel_rfl) (fun x r h => ?_)
  obtain ⟨r_0, _u⟩ := x
  exact (pleachref10_reader_text_eq r_0).trans h
noncomputable def pleachref10_TakeMsg_Γ : Ctx := [(40, pleachref10_PutMsg_e), (52, pleachref10_reader_num_e), (53, pleachref10_reader_text_e)]
def pleachref10_TakeMsg_fi : Fi := { keep := [], vty := [], vals := [], live := [(0, [0, 2, 41, 42, 43, 44, 45, 70, 71, 72, 73, 74, 75]), (1, [0, 2, 9, 41, 42, 43, 44, 45, 70, 71, 72, 73, 74, 75]), (2, [2, 3]), (3, [0, 2, 4, 41, 42, 43, 44, 45, 70, 71, 72, 73, 74, 75]), (4, [0, 2, 4, 5, 41, 42, 43, 44, 45, 70, 71, 72, 73, 74, 75]), (5, [0, 2, 4, 5, 41, 42, 43, 44, 45, 70, 71, 72, 73, 74, 75]), (6, [0, 2, 4, 5, 41, 42, 43, 44, 45, 70, 71, 72, 73, 74, 75]), (7, [0, 2, 4, 5, 41, 42, 43, 44, 45, 70, 71, 72, 73, 74, 75]), (8, [0, 2, 4, 5, 41, 42, 43, 44, 45, 70, 71, 72, 73, 74, 75]), (9, [0, 2, 4, 5, 41, 42, 43, 44, 45, 70, 71, 72, 73, 74, 75]), (10, [0, 2, 4, 5, 6, 41, 42, 43, 44, 45, 70, 71, 72, 73, 74, 75]), (11, [0, 2, 4, 5, 6, 41, 42, 43, 44, 45, 46, 70, 71, 72, 73, 74, 75]), (12, [0, 2, 4, 5, 6, 41, 42, 43, 44, 45, 70, 71, 72, 73, 74, 75]), (13, [0, 2, 4, 5, 6, 41, 42, 43, 44, 45, 70, 71, 72, 73, 74, 75]), (14, [0, 2, 4, 5, 70, 71, 72, 73, 74, 75]), (15, [0, 2, 4, 5, 70, 71, 72, 73, 74, 75]), (16, [0, 2, 4, 5, 70, 71, 72, 73, 74, 75]), (17, [2, 5, 76]), (18, [2, 3]), (19, [2, 3])] }
noncomputable def pleachref10_TakeMsg_B1 (L1 : List Int → Int → Int → Int → Int → Int → Int → Int → Int → Int → ByteArray → List Int → List Int → Bool → Int → Int → Int → Int → Int → Int → Int → Int → ByteArray → List Int → Option (((Int × Int × Int × Int × Int × Int × (List Int) × Int × Int × ByteArray) × Bool × Unit) × Unit)) (v8 : List Int) (v9 : Int) (v10 : Int) (v11 : Int) (v12 : Int) (v13 : Int) (v14 : Int) (v15 : Int) (v16 : Int) (v17 : Int) (v18 : ByteArray) (v19 : List Int) (v20 : List Int) (v21 : Bool) (v22 : Int) (v23 : Int) (v24 : Int) (v25 : Int) (v26 : Int) (v27 : Int) (v28 : Int) (v29 : Int) (v30 : ByteArray) (v31 : List Int) : Option (((Int × Int × Int × Int × Int × Int × (List Int) × Int × Int × ByteArray) × Bool × Unit) × Unit) :=
 bif decide (v9 > 0) then
  bif !v21 then
   Option.bind (pleachref10_reader_num (v20, v21)) fun (r32 : (Int × Unit) × (((List Int) × Bool) × Unit)) =>
   bif Nat.ble (v31.length + 1) 1073741824 then
    L1 v8 (IntKind.wrap .i64 (v9 - 1)) v10 v11 v12 v13 v14 v15 v16 v17 v18 v19 r32.2.1.1 r32.2.1.2 v22 v23 v24 v25 v26 v27 v28 v29 v30 (v31 ++ [r32.1.1])
   else none
  else
   Option.bind (pleachref10_reader_num (v20, v21)) fun (r33 : (Int × Unit) × (((List Int) × Bool) × Unit)) =>
   Option.bind (pleachref10_reader_num r33.2.1) fun (r34 : (Int × Unit) × (((List Int) × Bool) × Unit)) =>
   Option.bind (pleachref10_reader_text r34.2.1) fun (r35 : (ByteArray × Unit) × (((List Int) × Bool) × Unit)) =>
   bif r35.2.1.2 then
    some (((0, 0, 0, 0, 0, 0, [], 0, 0, (⟨#[]⟩ : ByteArray)), false, ()), ())
   else
    Option.bind (pleachref10_PutMsg (v22, v23, v24, v25, v26, v27, v31, r33.1.1, r34.1.1, r35.1.1)) fun (r36 : ((List Int) × Unit) × Unit) =>
    bif !(strEq (bytesOf r36.1.1) (bytesOf v8)) then
     some (((0, 0, 0, 0, 0, 0, [], 0, 0, (⟨#[]⟩ : ByteArray)), false, ()), ())
    else
     some (((v22, v23, v24, v25, v26, v27, v31, r33.1.1, r34.1.1, r35.1.1), true, ()), ())
 else
  Option.bind (pleachref10_reader_num (v20, v21)) fun (r37 : (Int × Unit) × (((List Int) × Bool) × Unit)) =>
  Option.bind (pleachref10_reader_num r37.2.1) fun (r38 : (Int × Unit) × (((List Int) × Bool) × Unit)) =>
  Option.bind (pleachref10_reader_text r38.2.1) fun (r39 : (ByteArray × Unit) × (((List Int) × Bool) × Unit)) =>
  bif r39.2.1.2 then
   some (((0, 0, 0, 0, 0, 0, [], 0, 0, (⟨#[]⟩ : ByteArray)), false, ()), ())
  else
   Option.bind (pleachref10_PutMsg (v22, v23, v24, v25, v26, v27, v31, r37.1.1, r38.1.1, r39.1.1)) fun (r40 : ((List Int) × Unit) × Unit) =>
   bif !(strEq (bytesOf r40.1.1) (bytesOf v8)) then
    some (((0, 0, 0, 0, 0, 0, [], 0, 0, (⟨#[]⟩ : ByteArray)), false, ()), ())
   else
    some (((v22, v23, v24, v25, v26, v27, v31, r37.1.1, r38.1.1, r39.1.1), true, ()), ())
noncomputable def pleachref10_TakeMsg_T (L1 : List Int → Int → Int → Int → Int → Int → Int → Int → Int → Int → ByteArray → List Int → List Int → Bool → Int → Int → Int → Int → Int → Int → Int → Int → ByteArray → List Int → Option (((Int × Int × Int × Int × Int × Int × (List Int) × Int × Int × ByteArray) × Bool × Unit) × Unit)) (b_0 : List Int) : Option (((Int × Int × Int × Int × Int × Int × (List Int) × Int × Int × ByteArray) × Bool × Unit) × Unit) :=
 bif decide ((b_0.length : Int) < 4) then
  some (((0, 0, 0, 0, 0, 0, [], 0, 0, (⟨#[]⟩ : ByteArray)), false, ()), ())
 else
 bif decide (0 ≤ IntKind.wrap .i64 ((b_0.length : Int) - 4)) && decide (IntKind.wrap .i64 ((b_0.length : Int) - 4) ≤ (b_0.length : Int)) then
  Option.bind (pleachref10_reader_num (List.drop 0 (List.take ((IntKind.wrap .i64 ((b_0.length : Int) - 4)).toNat) b_0), false)) fun (r1 : (Int × Unit) × (((List Int) × Bool) × Unit)) =>
  Option.bind (pleachref10_reader_num r1.2.1) fun (r2 : (Int × Unit) × (((List Int) × Bool) × Unit)) =>
  Option.bind (pleachref10_reader_num r2.2.1) fun (r3 : (Int × Unit) × (((List Int) × Bool) × Unit)) =>
  Option.bind (pleachref10_reader_num r3.2.1) fun (r4 : (Int × Unit) × (((List Int) × Bool) × Unit)) =>
  Option.bind (pleachref10_reader_num r4.2.1) fun (r5 : (Int × Unit) × (((List Int) × Bool) × Unit)) =>
  Option.bind (pleachref10_reader_num r5.2.1) fun (r6 : (Int × Unit) × (((List Int) × Bool) × Unit)) =>
  Option.bind (pleachref10_reader_num r6.2.1) fun (r7 : (Int × Unit) × (((List Int) × Bool) × Unit)) =>
  L1 b_0 r7.1.1 0 0 0 0 0 0 0 0 (⟨#[]⟩ : ByteArray) [] r7.2.1.1 r7.2.1.2 r1.1.1 r2.1.1 r3.1.1 r4.1.1 r5.1.1 r6.1.1 0 0 (⟨#[]⟩ : ByteArray) []
 else none
noncomputable def pleachref10_TakeMsg_L1 (n : Nat) : Nat → List Int → Int → Int → Int → Int → Int → Int → Int → Int → Int → ByteArray → List Int → List Int → Bool → Int → Int → Int → Int → Int → Int → Int → Int → ByteArray → List Int → Option (((Int × Int × Int × Int × Int × Int × (List Int) × Int × Int × ByteArray) × Bool × Unit) × Unit) := iter (fun _ _ _ _ _ _ _ _ _ _ _ _ _ _ _ _ _ _ _ _ _ _ _ _ => none) fun L => pleachref10_TakeMsg_B1 L
noncomputable def pleachref10_TakeMsg_X1 (n m : Nat) (v8 : List Int) (v9 : Int) (v10 : Int) (v11 : Int) (v12 : Int) (v13 : Int) (v14 : Int) (v15 : Int) (v16 : Int) (v17 : Int) (v18 : ByteArray) (v19 : List Int) (v20 : List Int) (v21 : Bool) (v22 : Int) (v23 : Int) (v24 : Int) (v25 : Int) (v26 : Int) (v27 : Int) (v28 : Int) (v29 : Int) (v30 : ByteArray) (v31 : List Int) : Option (((Int × Int × Int × Int × Int × Int × (List Int) × Int × Int × ByteArray) × Bool × Unit) × Unit) :=
 atLoop pleachref10_TakeMsg_Γ tab (fiB [.val t23] pleachref10_TakeMsg_fi) n [.val t23] [⟨t58, [false, false, false, false, false, false, true, false, false, false], none⟩, ⟨t4, [false], none⟩] Try.f44 [1, 1, 1, 1, 1, 1, 1, 1, 1, 0, 1, 0] [] [0, 2, 4, 5, 6] m
 ⟨[(0, SV.cv (CV.one (LV.pure t23 v8))), (2, SV.cv (CV.one (LV.ptr (2, 0) 0))), (4, SV.cv (CV.one (LV.ptr (17, 0) 0))), (5, SV.cv (CV.one (LV.ptr (5, 0) 0))), (6, SV.cv (CV.one (LV.pure t2 v9)))],
  [((2, 0), Ob.box 59 [LV.pure t2 v10, LV.pure t2 v11, LV.pure t2 v12, LV.pure t2 v13, LV.pure t2 v14, LV.pure t2 v15, LV.ref (2, 7), LV.pure t2 v16, LV.pure t2 v17, LV.pure t9 v18]), ((2, 7), Ob.row 3 t2 v19), ((17, 0), Ob.box 95 [LV.pure t23 v20, LV.pure t4 v21]), ((5, 0), Ob.box 59 [LV.pure t2 v22, LV.pure t2 v23, LV.pure t2 v24, LV.pure t2 v25, LV.pure t2 v26, LV.pure t2 v27, LV.ref (5, 7), LV.pure t2 v28, LV.pure t2 v29, LV.pure t9 v30]), ((5, 7), Ob.row 3 t2 v31)]⟩
theorem pleachref10_TakeMsg_step1 (n m : Nat) (v8 : List Int) (v9 : Int) (v10 : Int) (v11 : Int) (v12 : Int) (v13 : Int) (v14 : Int) (v15 : Int) (v16 : Int) (v17 : Int) (v18 : ByteArray) (v19 : List Int) (v20 : List Int) (v21 : Bool) (v22 : Int) (v23 : Int) (v24 : Int) (v25 : Int) (v26 : Int) (v27 : Int) (v28 : Int) (v29 : Int) (v30 : ByteArray) (v31 : List Int) : pleachref10_TakeMsg_X1 n (m + 1) v8 v9 v10 v11 v12 v13 v14 v15 v16 v17 v18 v19 v20 v21 v22 v23 v24 v25 v26 v27 v28 v29 v30 v31 = pleachref10_TakeMsg_B1 (pleachref10_TakeMsg_X1 n m) v8 v9 v10 v11 v12 v13 v14 v15 v16 v17 v18 v19 v20 v21 v22 v23 v24 v25 v26 v27 v28 v29 v30 v31 := by kernel_rfl
theorem pleachref10_TakeMsg_start (n : Nat) (b_0 : List Int) : evFn pleachref10_TakeMsg_Γ tab pleachref10_TakeMsg_fi n [.val t23] [⟨t58, [false, false, false, false, false, false, true, false, false, false], none⟩, ⟨t4, [false], none⟩] Try.f44 (b_0, ()) = pleachref10_TakeMsg_T (pleachref10_TakeMsg_X1 n n) b_0 := by kernel_rfl
theorem pleachref10_TakeMsg_XL1 (n : Nat) : ∀ m, pleachref10_TakeMsg_X1 n m = pleachref10_TakeMsg_L1 n m
 | 0 => rfl
 | m + 1 => by
  have ih := pleachref10_TakeMsg_XL1 n m
  funext v8 v9 v10 v11 v12 v13 v14 v15 v16 v17 v18 v19 v20 v21 v22 v23 v24 v25 v26 v27 v28 v29 v30 v31
  rw [pleachref10_TakeMsg_step1, ih]
  rfl
noncomputable def pleachref10_TakeMsg_n (n : Nat) (b_0 : List Int) : Option (((Int × Int × Int × Int × Int × Int × (List Int) × Int × Int × ByteArray) × Bool × Unit) × Unit) := pleachref10_TakeMsg_T (pleachref10_TakeMsg_L1 n n) b_0
noncomputable def pleachref10_TakeMsg (b_0 : List Int) : Option (((Int × Int × Int × Int × Int × Int × (List Int) × Int × Int × ByteArray) × Bool × Unit) × Unit) := pleachref10_TakeMsg_n 1099511627776 b_0
theorem pleachref10_TakeMsg_eq (n : Nat) (b_0 : List Int) : evFn pleachref10_TakeMsg_Γ tab pleachref10_TakeMsg_fi n [.val t23] [⟨t58, [false, false, false, false, false, false, true, false, false, false], none⟩, ⟨t4, [false], none⟩] Try.f44 (b_0, ()) = pleachref10_TakeMsg_n n b_0 := by
  rw [pleachref10_TakeMsg_start, pleachref10_TakeMsg_XL1 n n]
  rfl
noncomputable def pleachref10_TakeMsg_e : Ent := ⟨[.val t23], [⟨t58, [false, false, false, false, false, false, true, false, false, false], none⟩, ⟨t4, [false], none⟩], fun x => pleachref10_TakeMsg x.1⟩
theorem pleachref10_TakeMsg_good : Good tab.ty Try.prog 44 pleachref10_TakeMsg_e := by
  refine fn_good (Γ := pleachref10_TakeMsg_Γ) (fi := pleachref10_TakeMsg_fi) (n := 1099511627776) follows (gcons pleachref10_PutMsg_good (gcons pleachref10_reader_num_good (gcons pleachref10_reader_text_good gnil))) tabok Try.func44 (by kernel_rfl) (by kernel_rfl) (fun x r h => ?_)
  obtain ⟨b_0, _u⟩ := x
  exact (pleachref10_TakeMsg_eq 1099511627776 b_0).trans h
noncomputable def pleachlaw12_MsgAll_Γ : Ctx := [(26, pleachmade_Made_e), (34, pleachlaw12_begun_e), (35, pleachlaw12_Light_e), (36, pleachmade_Picks_Msg_e), (37, msg_May_e), (38, pleachref10_MayMsg_e), (39, msg_Put_e), (40, pleachref10_PutMsg_e), (41, msg_Same_e), (42, pleachref10_SameMsg_e), (43, msg_Take_e), (44, pleachref10_TakeMsg_e)]
def pleachlaw12_MsgAll_fi : Fi := { keep := [], vty := [], vals := [], live := [(0, [1, 2, 3, 21, 22, 23, 26, 27, 28, 54, 55, 56, 57, 58, 59, 60, 61, 62, 63, 64, 65, 66, 105, 106, 107, 110, 111, 112, 113]), (1, [1, 2, 3, 16, 21, 22, 23, 26, 27, 28, 54, 55, 56, 57, 58, 59, 60, 61, 62, 63, 64, 65, 66, 105, 106, 107, 110, 111, 112, 113]), (2, [6]), (3, [1, 2, 3, 29, 54, 55, 56, 57, 58, 59, 60, 61, 62, 63, 64, 65, 66, 105, 106, 107, 110, 111, 112, 113]), (4, [6]), (5, [2, 3, 7, 54, 55, 56, 57, 58, 59, 60, 61, 62, 63, 64, 65, 66, 105, 106, 107, 110, 111, 112, 113]), (6, [2, 8, 54, 55, 56, 57, 58, 59, 60, 61, 62, 63, 64, 65, 66, 105, 106, 107, 110, 111, 112, 113]), (7, [2, 8, 9, 54, 55, 56, 57, 58, 59, 60, 61, 62, 63, 64, 65, 66, 105, 106, 107, 110, 111, 112, 113]), (8, [2, 8, 9, 39, 54, 55, 56, 57, 58, 59, 60, 61, 62, 63, 64, 65, 66, 105, 106, 107, 110, 111, 112, 113]), (9, [2, 8, 9, 54, 55, 56, 57, 58, 59, 60, 61, 62, 63, 64, 65, 66, 105, 106, 107, 110, 111, 112, 113]), (10, [2, 8, 9, 54, 55, 56, 57, 58, 59, 60, 61, 62, 63, 64, 65, 66, 67, 105, 106, 107, 110, 111, 112, 113]), (11, [6]), (12, [2, 8, 9, 10, 54, 55, 56, 57, 58, 59, 60, 61, 62, 63, 64, 65, 66, 105, 106, 107, 110, 111, 112, 113]), (13, [2, 8, 9, 10, 54, 55, 56, 57, 58, 59, 60, 61, 62, 63, 64, 65, 66, 69, 105, 106, 107, 110, 111, 112, 113]), (14, [2, 8, 9, 10, 54, 55, 56, 57, 58, 59, 60, 61, 62, 63, 64, 65, 66, 105, 106, 107, 110, 111, 112, 113]), (15, [2, 8, 9, 10, 54, 55, 56, 57, 58, 59, 60, 61, 62, 63, 64, 65, 66, 90, 105, 106, 107, 110, 111, 112, 113]), (16, [6]), (17, [2, 8, 11, 12, 105, 106, 107, 110, 111, 112, 113]), (18, [8, 11, 12, 13, 14, 105, 106, 107, 110, 111, 112, 113]), (19, [6])] }
noncomputable def pleachlaw12_MsgAll_B1 (L2 : List Int → Int → Int → Int → Int → Int → Int → Int → Int → Int → Int → List Int → Int → Int → ByteArray → ByteArray → Int → Int → Int → Int → Int → Int → Int → Int → List Int → Int → Int → ByteArray → ByteArray → Bool → List Int → (List (Int × Int × Int × Int × Int × Int × (List Int) × Int × Int × ByteArray)) → List Int → Option ((Bool × Unit) × Unit)) (v6 : List Int) (v7 : Int) (v8 : List (Int × Int × Int × Int × Int × Int × (List Int) × Int × Int × ByteArray)) : Option ((Bool × Unit) × Unit) :=
 bif decide (v7 < 3) then
  bif decide (0 ≤ v7) && decide (v7 < (v8.length : Int)) then
   bif decide (0 ≤ v7) && decide (v7 < (v8.length : Int)) then
    Option.bind (msg_May ((List.getD v8 v7.toNat (0, 0, 0, 0, 0, 0, [], 0, 0, (⟨#[]⟩ : ByteArray))).1, ((List.getD v8 v7.toNat (0, 0, 0, 0, 0, 0, [], 0, 0, (⟨#[]⟩ : ByteArray))).2).1, (((List.getD v8 v7.toNat (0, 0, 0, 0, 0, 0, [], 0, 0, (⟨#[]⟩ : ByteArray))).2).2).1, ((((List.getD v8 v7.toNat (0, 0, 0, 0, 0, 0, [], 0, 0, (⟨#[]⟩ : ByteArray))).2).2).2).1, (((((List.getD v8 v7.toNat (0, 0, 0, 0, 0, 0, [], 0, 0, (⟨#[]⟩ : ByteArray))).2).2).2).2).1, ((((((List.getD v8 v7.toNat (0, 0, 0, 0, 0, 0, [], 0, 0, (⟨#[]⟩ : ByteArray))).2).2).2).2).2).1, (((((((List.getD v8 v7.toNat (0, 0, 0, 0, 0, 0, [], 0, 0, (⟨#[]⟩ : ByteArray))).2).2).2).2).2).2).1, ((((((((List.getD v8 v7.toNat (0, 0, 0, 0, 0, 0, [], 0, 0, (⟨#[]⟩ : ByteArray))).2).2).2).2).2).2).2).1, (((((((((List.getD v8 v7.toNat (0, 0, 0, 0, 0, 0, [], 0, 0, (⟨#[]⟩ : ByteArray))).2).2).2).2).2).2).2).2))) fun (r9 : (Bool × Unit) × Unit) =>
    bif decide (0 ≤ v7) && decide (v7 < (v8.length : Int)) then
     bif decide (0 ≤ v7) && decide (v7 < (v8.length : Int)) then
      Option.bind (pleachref10_MayMsg ((List.getD v8 v7.toNat (0, 0, 0, 0, 0, 0, [], 0, 0, (⟨#[]⟩ : ByteArray))).1, ((List.getD v8 v7.toNat (0, 0, 0, 0, 0, 0, [], 0, 0, (⟨#[]⟩ : ByteArray))).2).1, (((List.getD v8 v7.toNat (0, 0, 0, 0, 0, 0, [], 0, 0, (⟨#[]⟩ : ByteArray))).2).2).1, ((((List.getD v8 v7.toNat (0, 0, 0, 0, 0, 0, [], 0, 0, (⟨#[]⟩ : ByteArray))).2).2).2).1, (((((List.getD v8 v7.toNat (0, 0, 0, 0, 0, 0, [], 0, 0, (⟨#[]⟩ : ByteArray))).2).2).2).2).1, ((((((List.getD v8 v7.toNat (0, 0, 0, 0, 0, 0, [], 0, 0, (⟨#[]⟩ : ByteArray))).2).2).2).2).2).1, (((((((List.getD v8 v7.toNat (0, 0, 0, 0, 0, 0, [], 0, 0, (⟨#[]⟩ : ByteArray))).2).2).2).2).2).2).1, ((((((((List.getD v8 v7.toNat (0, 0, 0, 0, 0, 0, [], 0, 0, (⟨#[]⟩ : ByteArray))).2).2).2).2).2).2).2).1, (((((((((List.getD v8 v7.toNat (0, 0, 0, 0, 0, 0, [], 0, 0, (⟨#[]⟩ : ByteArray))).2).2).2).2).2).2).2).2))) fun (r10 : (Bool × Unit) × Unit) =>
      bif !(r9.1.1 == r10.1.1) then
       some ((false, ()), ())
      else
      bif decide (0 ≤ v7) && decide (v7 < (v8.length : Int)) then
       bif decide (0 ≤ v7) && decide (v7 < (v8.length : Int)) then
        Option.bind (msg_Put ((List.getD v8 v7.toNat (0, 0, 0, 0, 0, 0, [], 0, 0, (⟨#[]⟩ : ByteArray))).1, ((List.getD v8 v7.toNat (0, 0, 0, 0, 0, 0, [], 0, 0, (⟨#[]⟩ : ByteArray))).2).1, (((List.getD v8 v7.toNat (0, 0, 0, 0, 0, 0, [], 0, 0, (⟨#[]⟩ : ByteArray))).2).2).1, ((((List.getD v8 v7.toNat (0, 0, 0, 0, 0, 0, [], 0, 0, (⟨#[]⟩ : ByteArray))).2).2).2).1, (((((List.getD v8 v7.toNat (0, 0, 0, 0, 0, 0, [], 0, 0, (⟨#[]⟩ : ByteArray))).2).2).2).2).1, ((((((List.getD v8 v7.toNat (0, 0, 0, 0, 0, 0, [], 0, 0, (⟨#[]⟩ : ByteArray))).2).2).2).2).2).1, (((((((List.getD v8 v7.toNat (0, 0, 0, 0, 0, 0, [], 0, 0, (⟨#[]⟩ : ByteArray))).2).2).2).2).2).2).1, ((((((((List.getD v8 v7.toNat (0, 0, 0, 0, 0, 0, [], 0, 0, (⟨#[]⟩ : ByteArray))).2).2).2).2).2).2).2).1, (((((((((List.getD v8 v7.toNat (0, 0, 0, 0, 0, 0, [], 0, 0, (⟨#[]⟩ : ByteArray))).2).2).2).2).2).2).2).2))) fun (r11 : ((List Int) × Unit) × Unit) =>
        bif decide (0 ≤ v7) && decide (v7 < (v8.length : Int)) then
         bif decide (0 ≤ v7) && decide (v7 < (v8.length : Int)) then
          Option.bind (pleachref10_PutMsg ((List.getD v8 v7.toNat (0, 0, 0, 0, 0, 0, [], 0, 0, (⟨#[]⟩ : ByteArray))).1, ((List.getD v8 v7.toNat (0, 0, 0, 0, 0, 0, [], 0, 0, (⟨#[]⟩ : ByteArray))).2).1, (((List.getD v8 v7.toNat (0, 0, 0, 0, 0, 0, [], 0, 0, (⟨#[]⟩ : ByteArray))).2).2).1, ((((List.getD v8 v7.toNat (0, 0, 0, 0, 0, 0, [], 0, 0, (⟨#[]⟩ : ByteArray))).2).2).2).1, (((((List.getD v8 v7.toNat (0, 0, 0, 0, 0, 0, [], 0, 0, (⟨#[]⟩ : ByteArray))).2).2).2).2).1, ((((((List.getD v8 v7.toNat (0, 0, 0, 0, 0, 0, [], 0, 0, (⟨#[]⟩ : ByteArray))).2).2).2).2).2).1, (((((((List.getD v8 v7.toNat (0, 0, 0, 0, 0, 0, [], 0, 0, (⟨#[]⟩ : ByteArray))).2).2).2).2).2).2).1, ((((((((List.getD v8 v7.toNat (0, 0, 0, 0, 0, 0, [], 0, 0, (⟨#[]⟩ : ByteArray))).2).2).2).2).2).2).2).1, (((((((((List.getD v8 v7.toNat (0, 0, 0, 0, 0, 0, [], 0, 0, (⟨#[]⟩ : ByteArray))).2).2).2).2).2).2).2).2))) fun (r12 : ((List Int) × Unit) × Unit) =>
          bif !(strEq (bytesOf r11.1.1) (bytesOf r12.1.1)) then
           some ((false, ()), ())
          else
           L2 v6 v7 0 v7 v7 ((List.getD v8 v7.toNat (0, 0, 0, 0, 0, 0, [], 0, 0, (⟨#[]⟩ : ByteArray))).1) (((List.getD v8 v7.toNat (0, 0, 0, 0, 0, 0, [], 0, 0, (⟨#[]⟩ : ByteArray))).2).1) ((((List.getD v8 v7.toNat (0, 0, 0, 0, 0, 0, [], 0, 0, (⟨#[]⟩ : ByteArray))).2).2).1) (((((List.getD v8 v7.toNat (0, 0, 0, 0, 0, 0, [], 0, 0, (⟨#[]⟩ : ByteArray))).2).2).2).1) ((((((List.getD v8 v7.toNat (0, 0, 0, 0, 0, 0, [], 0, 0, (⟨#[]⟩ : ByteArray))).2).2).2).2).1) (((((((List.getD v8 v7.toNat (0, 0, 0, 0, 0, 0, [], 0, 0, (⟨#[]⟩ : ByteArray))).2).2).2).2).2).1) ((((((((List.getD v8 v7.toNat (0, 0, 0, 0, 0, 0, [], 0, 0, (⟨#[]⟩ : ByteArray))).2).2).2).2).2).2).1) (((((((((List.getD v8 v7.toNat (0, 0, 0, 0, 0, 0, [], 0, 0, (⟨#[]⟩ : ByteArray))).2).2).2).2).2).2).2).1) ((((((((((List.getD v8 v7.toNat (0, 0, 0, 0, 0, 0, [], 0, 0, (⟨#[]⟩ : ByteArray))).2).2).2).2).2).2).2).2).1) ((((((((((List.getD v8 v7.toNat (0, 0, 0, 0, 0, 0, [], 0, 0, (⟨#[]⟩ : ByteArray))).2).2).2).2).2).2).2).2).2) (bytesOf r11.1.1) v7 v7 ((List.getD v8 v7.toNat (0, 0, 0, 0, 0, 0, [], 0, 0, (⟨#[]⟩ : ByteArray))).1) (((List.getD v8 v7.toNat (0, 0, 0, 0, 0, 0, [], 0, 0, (⟨#[]⟩ : ByteArray))).2).1) ((((List.getD v8 v7.toNat (0, 0, 0, 0, 0, 0, [], 0, 0, (⟨#[]⟩ : ByteArray))).2).2).1) (((((List.getD v8 v7.toNat (0, 0, 0, 0, 0, 0, [], 0, 0, (⟨#[]⟩ : ByteArray))).2).2).2).1) ((((((List.getD v8 v7.toNat (0, 0, 0, 0, 0, 0, [], 0, 0, (⟨#[]⟩ : ByteArray))).2).2).2).2).1) (((((((List.getD v8 v7.toNat (0, 0, 0, 0, 0, 0, [], 0, 0, (⟨#[]⟩ : ByteArray))).2).2).2).2).2).1) ((((((((List.getD v8 v7.toNat (0, 0, 0, 0, 0, 0, [], 0, 0, (⟨#[]⟩ : ByteArray))).2).2).2).2).2).2).1) (((((((((List.getD v8 v7.toNat (0, 0, 0, 0, 0, 0, [], 0, 0, (⟨#[]⟩ : ByteArray))).2).2).2).2).2).2).2).1) ((((((((((List.getD v8 v7.toNat (0, 0, 0, 0, 0, 0, [], 0, 0, (⟨#[]⟩ : ByteArray))).2).2).2).2).2).2).2).2).1) ((((((((((List.getD v8 v7.toNat (0, 0, 0, 0, 0, 0, [], 0, 0, (⟨#[]⟩ : ByteArray))).2).2).2).2).2).2).2).2).2) (bytesOf r12.1.1) (!(strEq (bytesOf r11.1.1) (bytesOf r12.1.1))) r11.1.1 v8 r12.1.1
         else none
        else none
       else none
      else none
     else none
    else none
   else none
  else none
 else
  Option.bind (msg_Take v6) fun (r48 : ((Int × Int × Int × Int × Int × Int × (List Int) × Int × Int × ByteArray) × Bool × Unit) × Unit) =>
  Option.bind (pleachref10_TakeMsg v6) fun (r49 : ((Int × Int × Int × Int × Int × Int × (List Int) × Int × Int × ByteArray) × Bool × Unit) × Unit) =>
  bif r48.1.2.1 == r49.1.2.1 then
   Option.bind (pleachref10_SameMsg r48.1.1 r49.1.1) fun (r50 : (Bool × Unit) × Unit) =>
   bif r50.1.1 then
    bif decide (1 < (v8.length : Int)) then
     bif decide (1 < (v8.length : Int)) then
      Option.bind (msg_May ((List.getD v8 1 (0, 0, 0, 0, 0, 0, [], 0, 0, (⟨#[]⟩ : ByteArray))).1, ((List.getD v8 1 (0, 0, 0, 0, 0, 0, [], 0, 0, (⟨#[]⟩ : ByteArray))).2).1, (((List.getD v8 1 (0, 0, 0, 0, 0, 0, [], 0, 0, (⟨#[]⟩ : ByteArray))).2).2).1, ((((List.getD v8 1 (0, 0, 0, 0, 0, 0, [], 0, 0, (⟨#[]⟩ : ByteArray))).2).2).2).1, (((((List.getD v8 1 (0, 0, 0, 0, 0, 0, [], 0, 0, (⟨#[]⟩ : ByteArray))).2).2).2).2).1, ((((((List.getD v8 1 (0, 0, 0, 0, 0, 0, [], 0, 0, (⟨#[]⟩ : ByteArray))).2).2).2).2).2).1, (((((((List.getD v8 1 (0, 0, 0, 0, 0, 0, [], 0, 0, (⟨#[]⟩ : ByteArray))).2).2).2).2).2).2).1, ((((((((List.getD v8 1 (0, 0, 0, 0, 0, 0, [], 0, 0, (⟨#[]⟩ : ByteArray))).2).2).2).2).2).2).2).1, (((((((((List.getD v8 1 (0, 0, 0, 0, 0, 0, [], 0, 0, (⟨#[]⟩ : ByteArray))).2).2).2).2).2).2).2).2))) fun (r51 : (Bool × Unit) × Unit) =>
      some ((r51.1.1, ()), ())
     else none
    else none
   else
    some ((false, ()), ())
  else
   some ((false, ()), ())
noncomputable def pleachlaw12_MsgAll_B2 (L2 : List Int → Int → Int → Int → Int → Int → Int → Int → Int → Int → Int → List Int → Int → Int → ByteArray → ByteArray → Int → Int → Int → Int → Int → Int → Int → Int → List Int → Int → Int → ByteArray → ByteArray → Bool → List Int → (List (Int × Int × Int × Int × Int × Int × (List Int) × Int × Int × ByteArray)) → List Int → Option ((Bool × Unit) × Unit)) (L1 : List Int → Int → (List (Int × Int × Int × Int × Int × Int × (List Int) × Int × Int × ByteArray)) → Option ((Bool × Unit) × Unit)) (v13 : List Int) (v14 : Int) (v15 : Int) (v16 : Int) (v17 : Int) (v18 : Int) (v19 : Int) (v20 : Int) (v21 : Int) (v22 : Int) (v23 : Int) (v24 : List Int) (v25 : Int) (v26 : Int) (v27 : ByteArray) (v28 : ByteArray) (v29 : Int) (v30 : Int) (v31 : Int) (v32 : Int) (v33 : Int) (v34 : Int) (v35 : Int) (v36 : Int) (v37 : List Int) (v38 : Int) (v39 : Int) (v40 : ByteArray) (v41 : ByteArray) (v42 : Bool) (v43 : List Int) (v44 : List (Int × Int × Int × Int × Int × Int × (List Int) × Int × Int × ByteArray)) (v45 : List Int) : Option ((Bool × Unit) × Unit) :=
 bif decide (v15 < 3) then
  bif decide (0 ≤ v14) && decide (v14 < (v44.length : Int)) then
   bif decide (0 ≤ v14) && decide (v14 < (v44.length : Int)) then
    bif decide (0 ≤ v15) && decide (v15 < (v44.length : Int)) then
     bif decide (0 ≤ v15) && decide (v15 < (v44.length : Int)) then
      Option.bind (msg_Same ((List.getD v44 v14.toNat (0, 0, 0, 0, 0, 0, [], 0, 0, (⟨#[]⟩ : ByteArray))).1, ((List.getD v44 v14.toNat (0, 0, 0, 0, 0, 0, [], 0, 0, (⟨#[]⟩ : ByteArray))).2).1, (((List.getD v44 v14.toNat (0, 0, 0, 0, 0, 0, [], 0, 0, (⟨#[]⟩ : ByteArray))).2).2).1, ((((List.getD v44 v14.toNat (0, 0, 0, 0, 0, 0, [], 0, 0, (⟨#[]⟩ : ByteArray))).2).2).2).1, (((((List.getD v44 v14.toNat (0, 0, 0, 0, 0, 0, [], 0, 0, (⟨#[]⟩ : ByteArray))).2).2).2).2).1, ((((((List.getD v44 v14.toNat (0, 0, 0, 0, 0, 0, [], 0, 0, (⟨#[]⟩ : ByteArray))).2).2).2).2).2).1, (((((((List.getD v44 v14.toNat (0, 0, 0, 0, 0, 0, [], 0, 0, (⟨#[]⟩ : ByteArray))).2).2).2).2).2).2).1, ((((((((List.getD v44 v14.toNat (0, 0, 0, 0, 0, 0, [], 0, 0, (⟨#[]⟩ : ByteArray))).2).2).2).2).2).2).2).1, (((((((((List.getD v44 v14.toNat (0, 0, 0, 0, 0, 0, [], 0, 0, (⟨#[]⟩ : ByteArray))).2).2).2).2).2).2).2).2)) ((List.getD v44 v15.toNat (0, 0, 0, 0, 0, 0, [], 0, 0, (⟨#[]⟩ : ByteArray))).1, ((List.getD v44 v15.toNat (0, 0, 0, 0, 0, 0, [], 0, 0, (⟨#[]⟩ : ByteArray))).2).1, (((List.getD v44 v15.toNat (0, 0, 0, 0, 0, 0, [], 0, 0, (⟨#[]⟩ : ByteArray))).2).2).1, ((((List.getD v44 v15.toNat (0, 0, 0, 0, 0, 0, [], 0, 0, (⟨#[]⟩ : ByteArray))).2).2).2).1, (((((List.getD v44 v15.toNat (0, 0, 0, 0, 0, 0, [], 0, 0, (⟨#[]⟩ : ByteArray))).2).2).2).2).1, ((((((List.getD v44 v15.toNat (0, 0, 0, 0, 0, 0, [], 0, 0, (⟨#[]⟩ : ByteArray))).2).2).2).2).2).1, (((((((List.getD v44 v15.toNat (0, 0, 0, 0, 0, 0, [], 0, 0, (⟨#[]⟩ : ByteArray))).2).2).2).2).2).2).1, ((((((((List.getD v44 v15.toNat (0, 0, 0, 0, 0, 0, [], 0, 0, (⟨#[]⟩ : ByteArray))).2).2).2).2).2).2).2).1, (((((((((List.getD v44 v15.toNat (0, 0, 0, 0, 0, 0, [], 0, 0, (⟨#[]⟩ : ByteArray))).2).2).2).2).2).2).2).2))) fun (r46 : (Bool × Unit) × Unit) =>
      bif decide (0 ≤ v14) && decide (v14 < (v44.length : Int)) then
       bif decide (0 ≤ v14) && decide (v14 < (v44.length : Int)) then
        bif decide (0 ≤ v15) && decide (v15 < (v44.length : Int)) then
         bif decide (0 ≤ v15) && decide (v15 < (v44.length : Int)) then
          Option.bind (pleachref10_SameMsg ((List.getD v44 v14.toNat (0, 0, 0, 0, 0, 0, [], 0, 0, (⟨#[]⟩ : ByteArray))).1, ((List.getD v44 v14.toNat (0, 0, 0, 0, 0, 0, [], 0, 0, (⟨#[]⟩ : ByteArray))).2).1, (((List.getD v44 v14.toNat (0, 0, 0, 0, 0, 0, [], 0, 0, (⟨#[]⟩ : ByteArray))).2).2).1, ((((List.getD v44 v14.toNat (0, 0, 0, 0, 0, 0, [], 0, 0, (⟨#[]⟩ : ByteArray))).2).2).2).1, (((((List.getD v44 v14.toNat (0, 0, 0, 0, 0, 0, [], 0, 0, (⟨#[]⟩ : ByteArray))).2).2).2).2).1, ((((((List.getD v44 v14.toNat (0, 0, 0, 0, 0, 0, [], 0, 0, (⟨#[]⟩ : ByteArray))).2).2).2).2).2).1, (((((((List.getD v44 v14.toNat (0, 0, 0, 0, 0, 0, [], 0, 0, (⟨#[]⟩ : ByteArray))).2).2).2).2).2).2).1, ((((((((List.getD v44 v14.toNat (0, 0, 0, 0, 0, 0, [], 0, 0, (⟨#[]⟩ : ByteArray))).2).2).2).2).2).2).2).1, (((((((((List.getD v44 v14.toNat (0, 0, 0, 0, 0, 0, [], 0, 0, (⟨#[]⟩ : ByteArray))).2).2).2).2).2).2).2).2)) ((List.getD v44 v15.toNat (0, 0, 0, 0, 0, 0, [], 0, 0, (⟨#[]⟩ : ByteArray))).1, ((List.getD v44 v15.toNat (0, 0, 0, 0, 0, 0, [], 0, 0, (⟨#[]⟩ : ByteArray))).2).1, (((List.getD v44 v15.toNat (0, 0, 0, 0, 0, 0, [], 0, 0, (⟨#[]⟩ : ByteArray))).2).2).1, ((((List.getD v44 v15.toNat (0, 0, 0, 0, 0, 0, [], 0, 0, (⟨#[]⟩ : ByteArray))).2).2).2).1, (((((List.getD v44 v15.toNat (0, 0, 0, 0, 0, 0, [], 0, 0, (⟨#[]⟩ : ByteArray))).2).2).2).2).1, ((((((List.getD v44 v15.toNat (0, 0, 0, 0, 0, 0, [], 0, 0, (⟨#[]⟩ : ByteArray))).2).2).2).2).2).1, (((((((List.getD v44 v15.toNat (0, 0, 0, 0, 0, 0, [], 0, 0, (⟨#[]⟩ : ByteArray))).2).2).2).2).2).2).1, ((((((((List.getD v44 v15.toNat (0, 0, 0, 0, 0, 0, [], 0, 0, (⟨#[]⟩ : ByteArray))).2).2).2).2).2).2).2).1, (((((((((List.getD v44 v15.toNat (0, 0, 0, 0, 0, 0, [], 0, 0, (⟨#[]⟩ : ByteArray))).2).2).2).2).2).2).2).2))) fun (r47 : (Bool × Unit) × Unit) =>
          bif !(r46.1.1 == r47.1.1) then
           some ((false, ()), ())
          else
           L2 v13 v14 (IntKind.wrap .i64 (v15 + 1)) v16 v17 v18 v19 v20 v21 v22 v23 v24 v25 v26 v27 v28 v29 v30 v31 v32 v33 v34 v35 v36 v37 v38 v39 v40 v41 v42 v43 v44 v45
         else none
        else none
       else none
      else none
     else none
    else none
   else none
  else none
 else
  L1 v13 (IntKind.wrap .i64 (v14 + 1)) v44
noncomputable def pleachlaw12_MsgAll_T (L1 : List Int → Int → (List (Int × Int × Int × Int × Int × Int × (List Int) × Int × Int × ByteArray)) → Option ((Bool × Unit) × Unit)) (wild_0 : Int × Int × Int × Int × Int × Int × (List Int) × Int × Int × ByteArray) (picks_1 : List Int) (b_2 : List Int) : Option ((Bool × Unit) × Unit) :=
 Option.bind (pleachlaw12_begun) fun (r1 : (Bool × Unit) × Unit) =>
 bif !r1.1.1 then
  some ((false, ()), ())
 else
  Option.bind (pleachlaw12_Light wild_0) fun (r2 : (Bool × Unit) × Unit) =>
  bif !r2.1.1 then
   some ((true, ()), ())
  else
  bif decide ((picks_1.length : Int) > 30) then
   some ((true, ()), ())
  else
  bif decide ((b_2.length : Int) > 60) then
   some ((true, ()), ())
  else
   Option.bind (pleachmade_Made picks_1) fun (r3 : (((List Int) × Int) × Unit) × Unit) =>
   Option.bind (pleachmade_Picks_Msg r3.1.1 2) fun (r4 : ((Int × Int × Int × Int × Int × Int × (List Int) × Int × Int × ByteArray) × Unit) × (((List Int) × Int) × Unit)) =>
   Option.bind (pleachmade_Picks_Msg r4.2.1 3) fun (r5 : ((Int × Int × Int × Int × Int × Int × (List Int) × Int × Int × ByteArray) × Unit) × (((List Int) × Int) × Unit)) =>
   L1 b_2 0 [wild_0, r4.1.1, r5.1.1]
noncomputable def pleachlaw12_MsgAll_L2 (n : Nat) (m1 : Nat) (r1 : List Int → Int → (List (Int × Int × Int × Int × Int × Int × (List Int) × Int × Int × ByteArray)) → Option ((Bool × Unit) × Unit)) : Nat → List Int → Int → Int → Int → Int → Int → Int → Int → Int → Int → Int → List Int → Int → Int → ByteArray → ByteArray → Int → Int → Int → Int → Int → Int → Int → Int → List Int → Int → Int → ByteArray → ByteArray → Bool → List Int → (List (Int × Int × Int × Int × Int × Int × (List Int) × Int × Int × ByteArray)) → List Int → Option ((Bool × Unit) × Unit) := iter (fun _ _ _ _ _ _ _ _ _ _ _ _ _ _ _ _ _ _ _ _ _ _ _ _ _ _ _ _ _ _ _ _ _ => none) fun L => pleachlaw12_MsgAll_B2 L r1
noncomputable def pleachlaw12_MsgAll_L1 (n : Nat) : Nat → List Int → Int → (List (Int × Int × Int × Int × Int × Int × (List Int) × Int × Int × ByteArray)) → Option ((Bool × Unit) × Unit) := iterN (fun _ _ _ => none) fun m L => pleachlaw12_MsgAll_B1 (pleachlaw12_MsgAll_L2 n m L n)
noncomputable def pleachlaw12_MsgAll_X1 (n m : Nat) (v6 : List Int) (v7 : Int) (v8 : List (Int × Int × Int × Int × Int × Int × (List Int) × Int × Int × ByteArray)) : Option ((Bool × Unit) × Unit) :=
 atLoop pleachlaw12_MsgAll_Γ tab (fiB [.val t58, .val t23, .val t23] pleachlaw12_MsgAll_fi) n [.val t58, .val t23, .val t23] [⟨t4, [false], none⟩] Try.f11 [1, 1, 1, 1, 1, 0, 1, 0] [] [2, 8, 9] m
 ⟨[(2, SV.cv (CV.one (LV.pure t23 v6))), (8, SV.cv (CV.one (LV.ref (888888, 8)))), (9, SV.cv (CV.one (LV.pure t2 v7)))],
  [((888888, 8), Ob.row 59 t58 v8)]⟩
noncomputable def pleachlaw12_MsgAll_X2 (n m1 m : Nat) (v13 : List Int) (v14 : Int) (v15 : Int) (v16 : Int) (v17 : Int) (v18 : Int) (v19 : Int) (v20 : Int) (v21 : Int) (v22 : Int) (v23 : Int) (v24 : List Int) (v25 : Int) (v26 : Int) (v27 : ByteArray) (v28 : ByteArray) (v29 : Int) (v30 : Int) (v31 : Int) (v32 : Int) (v33 : Int) (v34 : Int) (v35 : Int) (v36 : Int) (v37 : List Int) (v38 : Int) (v39 : Int) (v40 : ByteArray) (v41 : ByteArray) (v42 : Bool) (v43 : List Int) (v44 : List (Int × Int × Int × Int × Int × Int × (List Int) × Int × Int × ByteArray)) (v45 : List Int) : Option ((Bool × Unit) × Unit) :=
 atLoop pleachlaw12_MsgAll_Γ tab (fiB [.val t58, .val t23, .val t23] pleachlaw12_MsgAll_fi) n [.val t58, .val t23, .val t23] [⟨t4, [false], none⟩] Try.f11 [1, 1, 1, 1, 1, 0, 1, 0, 0, 1, 0, 0, 1, 1, 0] [(m1, [2, 8, 9])] [2, 8, 9, 10, 54, 55, 56, 57, 58, 59, 60, 61, 62, 63, 64, 65, 66] m
 ⟨[(2, SV.cv (CV.one (LV.pure t23 v13))), (8, SV.cv (CV.one (LV.ref (888888, 60)))), (9, SV.cv (CV.one (LV.pure t2 v14))), (10, SV.cv (CV.one (LV.pure t2 v15))), (54, SV.cv (CV.one (LV.ref (888888, 60)))), (55, SV.cv (CV.one (LV.pure t2 v16))), (56, SV.ap (888888, 60) v17 0 10), (57, SV.cv (CV.agg [LV.pure t2 v18, LV.pure t2 v19, LV.pure t2 v20, LV.pure t2 v21, LV.pure t2 v22, LV.pure t2 v23, LV.pure t33 v24, LV.pure t2 v25, LV.pure t2 v26, LV.pure t9 v27])), (58, SV.cv (CV.one (LV.ref (888888, 58)))), (59, SV.cv (CV.one (LV.pure t9 v28))), (60, SV.cv (CV.one (LV.ref (888888, 60)))), (61, SV.cv (CV.one (LV.pure t2 v29))), (62, SV.ap (888888, 60) v30 0 10), (63, SV.cv (CV.agg [LV.pure t2 v31, LV.pure t2 v32, LV.pure t2 v33, LV.pure t2 v34, LV.pure t2 v35, LV.pure t2 v36, LV.pure t33 v37, LV.pure t2 v38, LV.pure t2 v39, LV.pure t9 v40])), (64, SV.cv (CV.one (LV.ref (888888, 64)))), (65, SV.cv (CV.one (LV.pure t9 v41))), (66, SV.cv (CV.one (LV.pure t4 v42)))],
  [((888888, 58), Ob.row 5 t5 v43), ((888888, 60), Ob.row 59 t58 v44), ((888888, 64), Ob.row 5 t5 v45)]⟩
theorem pleachlaw12_MsgAll_step1 (n m : Nat) (v6 : List Int) (v7 : Int) (v8 : List (Int × Int × Int × Int × Int × Int × (List Int) × Int × Int × ByteArray)) : pleachlaw12_MsgAll_X1 n (m + 1) v6 v7 v8 = pleachlaw12_MsgAll_B1 (pleachlaw12_MsgAll_X2 n m n) v6 v7 v8 := by kernel_rfl
theorem pleachlaw12_MsgAll_step2 (n m1 m : Nat) (v13 : List Int) (v14 : Int) (v15 : Int) (v16 : Int) (v17 : Int) (v18 : Int) (v19 : Int) (v20 : Int) (v21 : Int) (v22 : Int) (v23 : Int) (v24 : List Int) (v25 : Int) (v26 : Int) (v27 : ByteArray) (v28 : ByteArray) (v29 : Int) (v30 : Int) (v31 : Int) (v32 : Int) (v33 : Int) (v34 : Int) (v35 : Int) (v36 : Int) (v37 : List Int) (v38 : Int) (v39 : Int) (v40 : ByteArray) (v41 : ByteArray) (v42 : Bool) (v43 : List Int) (v44 : List (Int × Int × Int × Int × Int × Int × (List Int) × Int × Int × ByteArray)) (v45 : List Int) : pleachlaw12_MsgAll_X2 n m1 (m + 1) v13 v14 v15 v16 v17 v18 v19 v20 v21 v22 v23 v24 v25 v26 v27 v28 v29 v30 v31 v32 v33 v34 v35 v36 v37 v38 v39 v40 v41 v42 v43 v44 v45 = pleachlaw12_MsgAll_B2 (pleachlaw12_MsgAll_X2 n m1 m) (pleachlaw12_MsgAll_X1 n m1) v13 v14 v15 v16 v17 v18 v19 v20 v21 v22 v23 v24 v25 v26 v27 v28 v29 v30 v31 v32 v33 v34 v35 v36 v37 v38 v39 v40 v41 v42 v43 v44 v45 := by kernel_rfl
theorem pleachlaw12_MsgAll_start (n : Nat) (wild_0 : Int × Int × Int × Int × Int × Int × (List Int) × Int × Int × ByteArray) (picks_1 : List Int) (b_2 : List Int) : evFn pleachlaw12_MsgAll_Γ tab pleachlaw12_MsgAll_fi n [.val t58, .val t23, .val t23] [⟨t4, [false], none⟩] Try.f11 (wild_0, picks_1, b_2, ()) = pleachlaw12_MsgAll_T (pleachlaw12_MsgAll_X1 n n) wild_0 picks_1 b_2 := by kernel_rfl
theorem pleachlaw12_MsgAll_XL2 (n : Nat) (m1 : Nat) (r1 : List Int → Int → (List (Int × Int × Int × Int × Int × Int × (List Int) × Int × Int × ByteArray)) → Option ((Bool × Unit) × Unit)) (h1 : pleachlaw12_MsgAll_X1 n m1 = r1) : ∀ m, pleachlaw12_MsgAll_X2 n m1 m = pleachlaw12_MsgAll_L2 n m1 r1 m
 | 0 => rfl
 | m + 1 => by
  have ih := pleachlaw12_MsgAll_XL2 n m1 r1 h1 m
  funext v13 v14 v15 v16 v17 v18 v19 v20 v21 v22 v23 v24 v25 v26 v27 v28 v29 v30 v31 v32 v33 v34 v35 v36 v37 v38 v39 v40 v41 v42 v43 v44 v45
  rw [pleachlaw12_MsgAll_step2, ih, h1]
  rfl
theorem pleachlaw12_MsgAll_XL1 (n : Nat) : ∀ m, pleachlaw12_MsgAll_X1 n m = pleachlaw12_MsgAll_L1 n m
 | 0 => rfl
 | m + 1 => by
  have ih := pleachlaw12_MsgAll_XL1 n m
  funext v6 v7 v8
  rw [pleachlaw12_MsgAll_step1, pleachlaw12_MsgAll_XL2 n m _ ih n]
  rfl
noncomputable def pleachlaw12_MsgAll_n (n : Nat) (wild_0 : Int × Int × Int × Int × Int × Int × (List Int) × Int × Int × ByteArray) (picks_1 : List Int) (b_2 : List Int) : Option ((Bool × Unit) × Unit) := pleachlaw12_MsgAll_T (pleachlaw12_MsgAll_L1 n n) wild_0 picks_1 b_2
noncomputable def pleachlaw12_MsgAll (wild_0 : Int × Int × Int × Int × Int × Int × (List Int) × Int × Int × ByteArray) (picks_1 : List Int) (b_2 : List Int) : Option ((Bool × Unit) × Unit) := pleachlaw12_MsgAll_n 1099511627776 wild_0 picks_1 b_2
theorem pleachlaw12_MsgAll_eq (n : Nat) (wild_0 : Int × Int × Int × Int × Int × Int × (List Int) × Int × Int × ByteArray) (picks_1 : List Int) (b_2 : List Int) : evFn pleachlaw12_MsgAll_Γ tab pleachlaw12_MsgAll_fi n [.val t58, .val t23, .val t23] [⟨t4, [false], none⟩] Try.f11 (wild_0, picks_1, b_2, ()) = pleachlaw12_MsgAll_n n wild_0 picks_1 b_2 := by
  rw [pleachlaw12_MsgAll_start, pleachlaw12_MsgAll_XL1 n n]
  rfl
noncomputable def pleachlaw12_MsgAll_e : Ent := ⟨[.val t58, .val t23, .val t23], [⟨t4, [false], none⟩], fun x => pleachlaw12_MsgAll x.1 x.2.1 x.2.2.1⟩
theorem pleachlaw12_MsgAll_good : Good tab.ty Try.prog 11 pleachlaw12_MsgAll_e := by
  refine fn_good (Γ := pleachlaw12_MsgAll_Γ) (fi := pleachlaw12_MsgAll_fi) (n := 1099511627776) follows (gcons pleachmade_Made_good (gcons pleachlaw12_begun_good (gcons pleachlaw12_Light_good (gcons pleachmade_Picks_Msg_good (gcons msg_May_good (gcons pleachref10_MayMsg_good (gcons msg_Put_good (gcons pleachref10_PutMsg_good (gcons msg_Same_good (gcons pleachref10_SameMsg_good (gcons msg_Take_good (gcons pleachref10_TakeMsg_good gnil)))))))))))) tabok Try.func11 (by kernel_rfl) (by kernel_rfl) (fun x r h => ?_)
  obtain ⟨wild_0, picks_1, b_2, _u⟩ := x
  exact (pleachlaw12_MsgAll_eq 1099511627776 wild_0 picks_1 b_2).trans h
noncomputable def pleachlaw12_MsgBack_Γ : Ctx := [(26, pleachmade_Made_e), (34, pleachlaw12_begun_e), (36, pleachmade_Picks_Msg_e), (39, msg_Put_e), (42, pleachref10_SameMsg_e), (43, msg_Take_e)]
def pleachlaw12_MsgBack_fi : Fi := { keep := [], vty := [], vals := [], live := [(0, [0, 1, 2, 3, 62, 63, 64, 65, 68, 71]), (1, [0, 1, 2, 3, 21, 62, 63, 64, 65, 68, 71]), (2, [8]), (3, [0, 1, 2, 3, 24, 62, 63, 64, 65, 68, 71]), (4, [8]), (5, [1, 2, 3, 9, 62, 63, 64, 65, 68, 71]), (6, [1, 2, 3, 9, 10, 62, 63, 64, 65, 68, 71]), (7, [1, 2, 3, 9, 10, 32, 62, 63, 64, 65, 68, 71]), (8, [8]), (9, [1, 2, 3, 9, 10, 11, 12, 62, 63, 64, 65, 68, 71]), (10, [1, 2, 3, 9, 10, 11, 12, 14, 62, 63, 64, 65, 68, 71]), (11, [1, 2, 9, 10, 11, 12, 14, 16, 62, 63, 64, 65, 68, 71]), (12, [1, 2, 10, 72]), (13, [8]), (14, [1, 2, 10, 74]), (15, [8]), (16, [1, 2, 10, 17]), (17, [17]), (18, [19]), (19, [8])] }
noncomputable def pleachlaw12_MsgBack (picks_0 : List Int) (at_1 : Int) (by_2 : Int) (more_3 : Int) : Option ((Bool × Unit) × Unit) :=
 Option.bind (pleachlaw12_begun) fun (r1 : (Bool × Unit) × Unit) =>
 bif !r1.1.1 then
  some ((false, ()), ())
 else
 bif decide ((picks_0.length : Int) > 15) then
  some ((true, ()), ())
 else
  Option.bind (pleachmade_Made picks_0) fun (r2 : (((List Int) × Int) × Unit) × Unit) =>
  Option.bind (pleachmade_Picks_Msg r2.1.1 4) fun (r3 : ((Int × Int × Int × Int × Int × Int × (List Int) × Int × Int × ByteArray) × Unit) × (((List Int) × Int) × Unit)) =>
  Option.bind (msg_Put r3.1.1) fun (r4 : ((List Int) × Unit) × Unit) =>
  bif decide ((r4.1.1.length : Int) < 8) then
   some ((false, ()), ())
  else
   Option.bind (msg_Take r4.1.1) fun (r5 : ((Int × Int × Int × Int × Int × Int × (List Int) × Int × Int × ByteArray) × Bool × Unit) × Unit) =>
   bif !((r4.1.1.length : Int) == 0) then
    bif decide (0 ≤ Int.tmod (IntKind.wrap .i64 at_1) (r4.1.1.length : Int)) && decide (Int.tmod (IntKind.wrap .i64 at_1) (r4.1.1.length : Int) ≤ (r4.1.1.length : Int)) then
     Option.bind (msg_Take (List.drop 0 (List.take ((Int.tmod (IntKind.wrap .i64 at_1) (r4.1.1.length : Int)).toNat) r4.1.1))) fun (r6 : ((Int × Int × Int × Int × Int × Int × (List Int) × Int × Int × ByteArray) × Bool × Unit) × Unit) =>
     bif Nat.ble (0 + r4.1.1.length) 1073741824 then
      bif Nat.ble (([] ++ r4.1.1).length + 1) 1073741824 then
       Option.bind (msg_Take (([] ++ r4.1.1) ++ [more_3])) fun (r7 : ((Int × Int × Int × Int × Int × Int × (List Int) × Int × Int × ByteArray) × Bool × Unit) × Unit) =>
       bif !r5.1.2.1 then
        some ((false, ()), ())
       else
        Option.bind (pleachref10_SameMsg r5.1.1 r3.1.1) fun (r8 : (Bool × Unit) × Unit) =>
        bif !r8.1.1 then
         some ((false, ()), ())
        else
        bif r6.1.2.1 then
         some ((false, ()), ())
        else
        bif r7.1.2.1 then
         some ((false, ()), ())
        else
        bif by_2 == 0 then
         some ((true, ()), ())
        else
        bif Nat.ble (0 + r4.1.1.length) 1073741824 then
         bif !((r4.1.1.length : Int) == 0) then
          bif decide (0 ≤ Int.tmod (IntKind.wrap .i64 at_1) (r4.1.1.length : Int)) && decide (Int.tmod (IntKind.wrap .i64 at_1) (r4.1.1.length : Int) < (([] ++ r4.1.1).length : Int)) then
           bif decide (0 ≤ Int.tmod (IntKind.wrap .i64 at_1) (r4.1.1.length : Int)) && decide (Int.tmod (IntKind.wrap .i64 at_1) (r4.1.1.length : Int) < (([] ++ r4.1.1).length : Int)) then
            bif decide (0 ≤ Int.tmod (IntKind.wrap .i64 at_1) (r4.1.1.length : Int)) && decide (Int.tmod (IntKind.wrap .i64 at_1) (r4.1.1.length : Int) < (([] ++ r4.1.1).length : Int)) then
            bif decide (0 ≤ Int.tmod (IntKind.wrap .i64 at_1) (r4.1.1.length : Int)) && decide (Int.tmod (IntKind.wrap .i64 at_1) (r4.1.1.length : Int) < (([] ++ r4.1.1).length : Int)) then
            Option.bind (msg_Take (List.set ([] ++ r4.1.1) ((Int.tmod (IntKind.wrap .i64 at_1) (r4.1.1.length : Int)).toNat) (IntKind.wrap .u8 ((BitVec.ofInt 8 (List.getD ([] ++ r4.1.1) ((Int.tmod (IntKind.wrap .i64 at_1) (r4.1.1.length : Int)).toNat) 0) ^^^ BitVec.ofInt 8 by_2).toNat)))) fun (r9 : ((Int × Int × Int × Int × Int × Int × (List Int) × Int × Int × ByteArray) × Bool × Unit) × Unit) =>
            some ((!r9.1.2.1, ()), ())
            else none
            else none
           else none
          else none
         else none
        else none
      else none
     else none
    else none
   else none
theorem pleachlaw12_MsgBack_eq (picks_0 : List Int) (at_1 : Int) (by_2 : Int) (more_3 : Int) : evFn pleachlaw12_MsgBack_Γ tab pleachlaw12_MsgBack_fi 1 [.val t23, .val t54, .val t5, .val t5] [⟨t4, [false], none⟩] Try.f12 (picks_0, at_1, by_2, more_3, ()) = pleachlaw12_MsgBack picks_0 at_1 by_2 more_3 := by kernel_rfl
noncomputable def pleachlaw12_MsgBack_e : Ent := ⟨[.val t23, .val t54, .val t5, .val t5], [⟨t4, [false], none⟩], fun x => pleachlaw12_MsgBack x.1 x.2.1 x.2.2.1 x.2.2.2.1⟩
theorem pleachlaw12_MsgBack_good : Good tab.ty Try.prog 12 pleachlaw12_MsgBack_e := by
  refine fn_good (Γ := pleachlaw12_MsgBack_Γ) (fi := pleachlaw12_MsgBack_fi) (n := 1) follows (gcons pleachmade_Made_good (gcons pleachlaw12_begun_good (gcons pleachmade_Picks_Msg_good (gcons msg_Put_good (gcons pleachref10_SameMsg_good (gcons msg_Take_good gnil)))))) tabok Try.func12 (by kernel_rfl) (by kernel_rfl) (fun x r h => ?_)
  obtain ⟨picks_0, at_1, by_2, more_3, _u⟩ := x
  exact (pleachlaw12_MsgBack_eq picks_0 at_1 by_2 more_3).trans h
noncomputable def pleachlaw12_MsgApart_Γ : Ctx := [(26, pleachmade_Made_e), (34, pleachlaw12_begun_e), (36, pleachmade_Picks_Msg_e), (39, msg_Put_e), (41, msg_Same_e)]
def pleachlaw12_MsgApart_fi : Fi := { keep := [], vty := [], vals := [], live := [(0, [0, 1, 13, 14, 15, 35, 36, 37]), (1, [0, 1, 8, 13, 14, 15, 35, 36, 37]), (2, [4]), (3, [0, 1, 16, 35, 36, 37]), (4, [4]), (5, [5, 6, 35, 36, 37]), (6, [4])] }
noncomputable def pleachlaw12_MsgApart (a_0 : List Int) (b_1 : List Int) : Option ((Bool × Unit) × Unit) :=
 Option.bind (pleachlaw12_begun) fun (r1 : (Bool × Unit) × Unit) =>
 bif !r1.1.1 then
  some ((false, ()), ())
 else
 bif decide ((a_0.length : Int) > 15) then
  some ((true, ()), ())
 else
 bif decide ((b_1.length : Int) > 15) then
  some ((true, ()), ())
 else
  Option.bind (pleachmade_Made a_0) fun (r2 : (((List Int) × Int) × Unit) × Unit) =>
  Option.bind (pleachmade_Picks_Msg r2.1.1 2) fun (r3 : ((Int × Int × Int × Int × Int × Int × (List Int) × Int × Int × ByteArray) × Unit) × (((List Int) × Int) × Unit)) =>
  Option.bind (pleachmade_Made b_1) fun (r4 : (((List Int) × Int) × Unit) × Unit) =>
  Option.bind (pleachmade_Picks_Msg r4.1.1 2) fun (r5 : ((Int × Int × Int × Int × Int × Int × (List Int) × Int × Int × ByteArray) × Unit) × (((List Int) × Int) × Unit)) =>
  Option.bind (msg_Put r3.1.1) fun (r6 : ((List Int) × Unit) × Unit) =>
  Option.bind (msg_Put r5.1.1) fun (r7 : ((List Int) × Unit) × Unit) =>
  Option.bind (msg_Same r3.1.1 r5.1.1) fun (r8 : (Bool × Unit) × Unit) =>
  bif (strEq (bytesOf r6.1.1) (bytesOf r7.1.1)) == r8.1.1 then
   Option.bind (msg_Same r3.1.1 r3.1.1) fun (r9 : (Bool × Unit) × Unit) =>
   some ((r9.1.1, ()), ())
  else
   some ((false, ()), ())
theorem pleachlaw12_MsgApart_eq (a_0 : List Int) (b_1 : List Int) : evFn pleachlaw12_MsgApart_Γ tab pleachlaw12_MsgApart_fi 1 [.val t23, .val t23] [⟨t4, [false], none⟩] Try.f14 (a_0, b_1, ()) = pleachlaw12_MsgApart a_0 b_1 := by kernel_rfl
noncomputable def pleachlaw12_MsgApart_e : Ent := ⟨[.val t23, .val t23], [⟨t4, [false], none⟩], fun x => pleachlaw12_MsgApart x.1 x.2.1⟩
theorem pleachlaw12_MsgApart_good : Good tab.ty Try.prog 14 pleachlaw12_MsgApart_e := by
  refine fn_good (Γ := pleachlaw12_MsgApart_Γ) (fi := pleachlaw12_MsgApart_fi) (n := 1) follows (gcons pleachmade_Made_good (gcons pleachlaw12_begun_good (gcons pleachmade_Picks_Msg_good (gcons msg_Put_good (gcons msg_Same_good gnil))))) tabok Try.func14 (by kernel_rfl) (by kernel_rfl) (fun x r h => ?_)
  obtain ⟨a_0, b_1, _u⟩ := x
  exact (pleachlaw12_MsgApart_eq a_0 b_1).trans h
noncomputable def pleachlaw12_MsgSmall_Γ : Ctx := [(26, pleachmade_Made_e), (34, pleachlaw12_begun_e), (36, pleachmade_Picks_Msg_e), (39, msg_Put_e)]
def pleachlaw12_MsgSmall_fi : Fi := { keep := [], vty := [], vals := [], live := [(0, [0, 27, 28]), (1, [0, 6, 27, 28]), (2, [2]), (3, [0, 9, 27, 28]), (4, [2]), (5, [3, 27, 28]), (6, [3, 4, 27, 28]), (7, [2])] }
noncomputable def pleachlaw12_MsgSmall (picks_0 : List Int) : Option ((Bool × Unit) × Unit) :=
 Option.bind (pleachlaw12_begun) fun (r1 : (Bool × Unit) × Unit) =>
 bif !r1.1.1 then
  some ((false, ()), ())
 else
 bif decide ((picks_0.length : Int) > 15) then
  some ((true, ()), ())
 else
  Option.bind (pleachmade_Made picks_0) fun (r2 : (((List Int) × Int) × Unit) × Unit) =>
  Option.bind (pleachmade_Picks_Msg r2.1.1 5) fun (r3 : ((Int × Int × Int × Int × Int × Int × (List Int) × Int × Int × ByteArray) × Unit) × (((List Int) × Int) × Unit)) =>
  Option.bind (msg_Put r3.1.1) fun (r4 : ((List Int) × Unit) × Unit) =>
  bif (r4.1.1.length : Int) == (IntKind.wrap .i64 ((IntKind.wrap .i64 (14 + (r3.1.1.2.2.2.2.2.2.1.length : Int))) + (r3.1.1.2.2.2.2.2.2.2.2.2.size : Int))) then
   some ((decide ((r4.1.1.length : Int) ≤ 36), ()), ())
  else
   some ((false, ()), ())
theorem pleachlaw12_MsgSmall_eq (picks_0 : List Int) : evFn pleachlaw12_MsgSmall_Γ tab pleachlaw12_MsgSmall_fi 1 [.val t23] [⟨t4, [false], none⟩] Try.f15 (picks_0, ()) = pleachlaw12_MsgSmall picks_0 := by kernel_rfl
noncomputable def pleachlaw12_MsgSmall_e : Ent := ⟨[.val t23], [⟨t4, [false], none⟩], fun x => pleachlaw12_MsgSmall x.1⟩
theorem pleachlaw12_MsgSmall_good : Good tab.ty Try.prog 15 pleachlaw12_MsgSmall_e := by
  refine fn_good (Γ := pleachlaw12_MsgSmall_Γ) (fi := pleachlaw12_MsgSmall_fi) (n := 1) follows (gcons pleachmade_Made_good (gcons pleachlaw12_begun_good (gcons pleachmade_Picks_Msg_good (gcons msg_Put_good gnil)))) tabok Try.func15 (by kernel_rfl) (by kernel_rfl) (fun x r h => ?_)
  obtain ⟨picks_0, _u⟩ := x
  exact (pleachlaw12_MsgSmall_eq picks_0).trans h
end Go.PE
