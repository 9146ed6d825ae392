/-
  Functions of the program, each as the evaluator answers it, and its contract.
  Conditions: none.
-/
import Derived.Test.YtkkpafhoiofaiaaGreatTruthFormsF1
set_option linter.unusedVariables false
set_option maxRecDepth 100000
namespace Go.PE
open Go.Proofs

noncomputable def pleachref13_Wants_Γ : Ctx := [(136, pleachref13_First_e)]
def pleachref13_Wants_fi : Fi := { keep := [], vty := [], vals := [], live := [(0, [1, 2, 19, 20, 21, 22]), (1, [1, 2, 4, 19, 20, 21, 22]), (2, [1, 2, 4, 10, 19, 20, 21, 22]), (3, [1, 2, 4, 19, 20, 21, 22]), (4, [1, 2, 4, 23]), (5, [2, 3]), (6, [2, 3])] }
noncomputable def pleachref13_Wants (f_0 : Int × Int × (List (Int × ByteArray)) × (List (Int × ByteArray)) × (List (Int × Int × Int × ByteArray × Int)) × Int × Int) : Option (((Int × Int) × Bool × Unit) × Unit) :=
 bif decide ((f_0.2.2.2.1.length : Int) > 0) then
  Option.bind (pleachref13_First f_0.2.2.2.1) fun (r1 : (Int × Unit) × Unit) =>
  bif f_0.1 == 0 then
   some (((0, 0), false, ()), ())
  else
  bif decide (IntKind.wrap .i64 (r1.1.1 - 1) < f_0.1) then
   some (((0, 0), false, ()), ())
  else
   some (((f_0.1, IntKind.wrap .i64 (r1.1.1 - 1)), true, ()), ())
 else
 bif f_0.1 == 0 then
  some (((0, 0), false, ()), ())
 else
 bif decide (f_0.2.1 < f_0.1) then
  some (((0, 0), false, ()), ())
 else
  some (((f_0.1, f_0.2.1), true, ()), ())
theorem pleachref13_Wants_eq (f_0 : Int × Int × (List (Int × ByteArray)) × (List (Int × ByteArray)) × (List (Int × Int × Int × ByteArray × Int)) × Int × Int) : evFn pleachref13_Wants_Γ tab pleachref13_Wants_fi 1 [.val t45] [⟨t43, [false, false], none⟩, ⟨t4, [false], none⟩] Tryz.f115 (f_0, ()) = pleachref13_Wants f_0 := by kernel_rfl
noncomputable def pleachref13_Wants_e : Ent := ⟨[.val t45], [⟨t43, [false, false], none⟩, ⟨t4, [false], none⟩], fun x => pleachref13_Wants x.1⟩
theorem pleachref13_Wants_good : Good tab.ty Tryz.prog 115 pleachref13_Wants_e := by
  refine fn_good (Γ := pleachref13_Wants_Γ) (fi := pleachref13_Wants_fi) (n := 1) follows (gcons pleachref13_First_good gnil) tabok Tryz.func115 (by kernel_rfl) (by kernel_rfl) (fun x r h => ?_)
  obtain ⟨f_0, _u⟩ := x
  exact (pleachref13_Wants_eq f_0).trans h
noncomputable def pleachref1_Now_Γ : Ctx := []
def pleachref1_Now_fi : Fi := { keep := [], vty := [], vals := [], live := [(0, [1, 2, 9, 10, 11, 12]), (1, [4])] }
noncomputable def pleachref1_Now (a_0 : Int × Int) (now_1 : Int) : Option ((Bool × Unit) × Unit) :=
 bif a_0.1 == 0 then
  some ((true, ()), ())
 else
  some ((decide (now_1 ≥ a_0.2), ()), ())
theorem pleachref1_Now_eq (a_0 : Int × Int) (now_1 : Int) : evFn pleachref1_Now_Γ tab pleachref1_Now_fi 1 [.val t43, .val t2] [⟨t4, [false], none⟩] Tryz.f116 (a_0, now_1, ()) = pleachref1_Now a_0 now_1 := by kernel_rfl
noncomputable def pleachref1_Now_e : Ent := ⟨[.val t43, .val t2], [⟨t4, [false], none⟩], fun x => pleachref1_Now x.1 x.2.1⟩
theorem pleachref1_Now_good : Good tab.ty Tryz.prog 116 pleachref1_Now_e := by
  refine fn_good (Γ := pleachref1_Now_Γ) (fi := pleachref1_Now_fi) (n := 1) follows gnil tabok Tryz.func116 (by kernel_rfl) (by kernel_rfl) (fun x r h => ?_)
  obtain ⟨a_0, now_1, _u⟩ := x
  exact (pleachref1_Now_eq a_0 now_1).trans h
noncomputable def pleachref13_Skip_Γ : Ctx := []
def pleachref13_Skip_fi : Fi := { keep := [], vty := [], vals := [], live := [(0, [0, 1, 2, 3]), (1, [8])] }
noncomputable def pleachref13_Skip (l_0 : List (Int × Int × Int × ByteArray × Int)) (lo_1 : Int) (hi_2 : Int) (why_3 : Int) : Option (((List (Int × Int × Int × ByteArray × Int)) × Unit) × Unit) :=
 bif Nat.ble (0 + l_0.length) 1073741824 then
  bif Nat.ble (([] ++ l_0).length + 1) 1073741824 then
   some ((([] ++ l_0) ++ [(2, lo_1, hi_2, (⟨#[]⟩ : ByteArray), why_3)], ()), ())
  else none
 else none
theorem pleachref13_Skip_eq (l_0 : List (Int × Int × Int × ByteArray × Int)) (lo_1 : Int) (hi_2 : Int) (why_3 : Int) : evFn pleachref13_Skip_Γ tab pleachref13_Skip_fi 1 [.val t42, .val t2, .val t2, .val t2] [⟨t42, [true], none⟩] Tryz.f137 (l_0, lo_1, hi_2, why_3, ()) = pleachref13_Skip l_0 lo_1 hi_2 why_3 := by kernel_rfl
noncomputable def pleachref13_Skip_e : Ent := ⟨[.val t42, .val t2, .val t2, .val t2], [⟨t42, [true], none⟩], fun x => pleachref13_Skip x.1 x.2.1 x.2.2.1 x.2.2.2.1⟩
theorem pleachref13_Skip_good : Good tab.ty Tryz.prog 137 pleachref13_Skip_e := by
  refine fn_good (Γ := pleachref13_Skip_Γ) (fi := pleachref13_Skip_fi) (n := 1) follows gnil tabok Tryz.func137 (by kernel_rfl) (by kernel_rfl) (fun x r h => ?_)
  obtain ⟨l_0, lo_1, hi_2, why_3, _u⟩ := x
  exact (pleachref13_Skip_eq l_0 lo_1 hi_2 why_3).trans h
noncomputable def pleachref13_TakeWin_Γ : Ctx := []
def pleachref13_TakeWin_fi : Fi := { keep := [], vty := [], vals := [], live := [(0, [0, 1, 5, 11, 12, 13, 14, 15, 16]), (1, [0, 5, 17]), (2, [4, 5, 6]), (3, [4, 5, 6])] }
noncomputable def pleachref13_TakeWin (l_0 : List (Int × ByteArray)) (next_1 : Int) : Option (((List (Int × ByteArray)) × (Int × ByteArray) × Bool × Unit) × Unit) :=
 bif (l_0.length : Int) == 0 then
  some ((l_0, (0, (⟨#[]⟩ : ByteArray)), false, ()), ())
 else
 bif decide (0 < (l_0.length : Int)) then
  bif ((List.getD l_0 0 (0, (⟨#[]⟩ : ByteArray))).1) != next_1 then
   some ((l_0, (0, (⟨#[]⟩ : ByteArray)), false, ()), ())
  else
  bif decide (1 ≤ (l_0.length : Int)) && decide ((l_0.length : Int) ≤ (l_0.length : Int)) then
   bif Nat.ble (0 + (List.drop 1 (List.take ((l_0.length : Int).toNat) l_0)).length) 1073741824 then
    bif decide (0 < (l_0.length : Int)) then
     some (([] ++ (List.drop 1 (List.take ((l_0.length : Int).toNat) l_0)), (List.getD l_0 0 (0, (⟨#[]⟩ : ByteArray))), true, ()), ())
    else none
   else none
  else none
 else none
theorem pleachref13_TakeWin_eq (l_0 : List (Int × ByteArray)) (next_1 : Int) : evFn pleachref13_TakeWin_Γ tab pleachref13_TakeWin_fi 1 [.val t41, .val t2] [⟨t41, [false], none⟩, ⟨t152, [false, false], none⟩, ⟨t4, [false], none⟩] Tryz.f138 (l_0, next_1, ()) = pleachref13_TakeWin l_0 next_1 := by kernel_rfl
noncomputable def pleachref13_TakeWin_e : Ent := ⟨[.val t41, .val t2], [⟨t41, [false], none⟩, ⟨t152, [false, false], none⟩, ⟨t4, [false], none⟩], fun x => pleachref13_TakeWin x.1 x.2.1⟩
theorem pleachref13_TakeWin_good : Good tab.ty Tryz.prog 138 pleachref13_TakeWin_e := by
  refine fn_good (Γ := pleachref13_TakeWin_Γ) (fi := pleachref13_TakeWin_fi) (n := 1) follows gnil tabok Tryz.func138 (by kernel_rfl) (by kernel_rfl) (fun x r h => ?_)
  obtain ⟨l_0, next_1, _u⟩ := x
  exact (pleachref13_TakeWin_eq l_0 next_1).trans h
noncomputable def pleachref13_Tell_Γ : Ctx := []
def pleachref13_Tell_fi : Fi := { keep := [], vty := [], vals := [], live := [(0, [0, 1, 2]), (1, [6])] }
noncomputable def pleachref13_Tell (l_0 : List (Int × Int × Int × ByteArray × Int)) (seq_1 : Int) (text_2 : ByteArray) : Option (((List (Int × Int × Int × ByteArray × Int)) × Unit) × Unit) :=
 bif Nat.ble (0 + l_0.length) 1073741824 then
  bif Nat.ble (([] ++ l_0).length + 1) 1073741824 then
   some ((([] ++ l_0) ++ [(1, seq_1, seq_1, text_2, 0)], ()), ())
  else none
 else none
theorem pleachref13_Tell_eq (l_0 : List (Int × Int × Int × ByteArray × Int)) (seq_1 : Int) (text_2 : ByteArray) : evFn pleachref13_Tell_Γ tab pleachref13_Tell_fi 1 [.val t42, .val t2, .val t9] [⟨t42, [true], none⟩] Tryz.f92 (l_0, seq_1, text_2, ()) = pleachref13_Tell l_0 seq_1 text_2 := by kernel_rfl
noncomputable def pleachref13_Tell_e : Ent := ⟨[.val t42, .val t2, .val t9], [⟨t42, [true], none⟩], fun x => pleachref13_Tell x.1 x.2.1 x.2.2.1⟩
theorem pleachref13_Tell_good : Good tab.ty Tryz.prog 92 pleachref13_Tell_e := by
  refine fn_good (Γ := pleachref13_Tell_Γ) (fi := pleachref13_Tell_fi) (n := 1) follows gnil tabok Tryz.func92 (by kernel_rfl) (by kernel_rfl) (fun x r h => ?_)
  obtain ⟨l_0, seq_1, text_2, _u⟩ := x
  exact (pleachref13_Tell_eq l_0 seq_1 text_2).trans h
noncomputable def pleachref13_AddRing_Γ : Ctx := []
def pleachref13_AddRing_fi : Fi := { keep := [], vty := [], vals := [], live := [(0, [0, 3, 13, 14, 15, 16, 17, 18, 19, 20, 21, 22]), (1, [0, 3, 5, 13, 14, 15, 16, 17, 18, 19, 20, 21, 22]), (2, [3, 5, 23]), (3, [4]), (4, [5]), (5, [5, 31]), (6, [5]), (7, [4])] }
noncomputable def pleachref13_AddRing (l_0 : List (Int × ByteArray)) (i_1 : Int × ByteArray) : Option (((List (Int × ByteArray)) × Unit) × Unit) :=
 bif Nat.ble (0 + l_0.length) 1073741824 then
  bif decide ((l_0.length : Int) > 0) then
   bif decide (0 ≤ IntKind.wrap .i64 ((l_0.length : Int) - 1)) && decide (IntKind.wrap .i64 ((l_0.length : Int) - 1) < (l_0.length : Int)) then
    bif decide ((List.getD l_0 ((IntKind.wrap .i64 ((l_0.length : Int) - 1)).toNat) (0, (⟨#[]⟩ : ByteArray))).1 ≥ i_1.1) then
     some (([] ++ l_0, ()), ())
    else
    bif Nat.ble (([] ++ l_0).length + 1) 1073741824 then
     bif decide (((([] ++ l_0) ++ [i_1]).length : Int) > 6) then
      bif decide (1 ≤ ((([] ++ l_0) ++ [i_1]).length : Int)) && decide (((([] ++ l_0) ++ [i_1]).length : Int) ≤ ((([] ++ l_0) ++ [i_1]).length : Int)) then
       some ((List.drop 1 (List.take (((([] ++ l_0) ++ [i_1]).length : Int).toNat) (([] ++ l_0) ++ [i_1])), ()), ())
      else none
     else
      some ((([] ++ l_0) ++ [i_1], ()), ())
    else none
   else none
  else
  bif Nat.ble (([] ++ l_0).length + 1) 1073741824 then
   bif decide (((([] ++ l_0) ++ [i_1]).length : Int) > 6) then
    bif decide (1 ≤ ((([] ++ l_0) ++ [i_1]).length : Int)) && decide (((([] ++ l_0) ++ [i_1]).length : Int) ≤ ((([] ++ l_0) ++ [i_1]).length : Int)) then
     some ((List.drop 1 (List.take (((([] ++ l_0) ++ [i_1]).length : Int).toNat) (([] ++ l_0) ++ [i_1])), ()), ())
    else none
   else
    some ((([] ++ l_0) ++ [i_1], ()), ())
  else none
 else none
theorem pleachref13_AddRing_eq (l_0 : List (Int × ByteArray)) (i_1 : Int × ByteArray) : evFn pleachref13_AddRing_Γ tab pleachref13_AddRing_fi 1 [.val t41, .val t152] [⟨t41, [false], none⟩] Tryz.f93 (l_0, i_1, ()) = pleachref13_AddRing l_0 i_1 := by kernel_rfl
noncomputable def pleachref13_AddRing_e : Ent := ⟨[.val t41, .val t152], [⟨t41, [false], none⟩], fun x => pleachref13_AddRing x.1 x.2.1⟩
theorem pleachref13_AddRing_good : Good tab.ty Tryz.prog 93 pleachref13_AddRing_e := by
  refine fn_good (Γ := pleachref13_AddRing_Γ) (fi := pleachref13_AddRing_fi) (n := 1) follows gnil tabok Tryz.func93 (by kernel_rfl) (by kernel_rfl) (fun x r h => ?_)
  obtain ⟨l_0, i_1, _u⟩ := x
  exact (pleachref13_AddRing_eq l_0 i_1).trans h
noncomputable def pleachref13_Goes_Γ : Ctx := [(92, pleachref13_Tell_e), (93, pleachref13_AddRing_e), (138, pleachref13_TakeWin_e)]
def pleachref13_Goes_fi : Fi := { keep := [], vty := [(4, 41)], vals := [], live := [(0, [1, 2]), (1, [1, 2, 4]), (2, [1, 2, 4, 5, 6, 7]), (3, [1, 2, 4, 5, 6, 18]), (4, [2, 3]), (5, [1, 2, 4, 6]), (6, [1, 2, 4, 6]), (7, [1, 2, 4])] }
noncomputable def pleachref13_Goes_B1 (L2 : Int → Int → (List (Int × ByteArray)) → (List (Int × ByteArray)) → Int → Int → (List (Int × Int × Int × ByteArray × Int)) → Int → Int → Int → Int → (List (Int × ByteArray)) → (List (Int × ByteArray)) → (List (Int × Int × Int × ByteArray × Int)) → (List (Int × ByteArray)) → Option (((Int × Int × (List (Int × ByteArray)) × (List (Int × ByteArray)) × (List (Int × Int × Int × ByteArray × Int)) × Int × Int) × (List (Int × ByteArray)) × Unit) × Unit)) (v1 : Int) (v2 : Int) (v3 : List (Int × ByteArray)) (v4 : List (Int × ByteArray)) (v5 : List (Int × Int × Int × ByteArray × Int)) (v6 : Int) (v7 : Int) (v8 : Int) (v9 : Int) (v10 : Int) (v11 : Int) (v12 : List (Int × ByteArray)) (v13 : List (Int × ByteArray)) (v14 : List (Int × Int × Int × ByteArray × Int)) (v15 : List (Int × ByteArray)) : Option (((Int × Int × (List (Int × ByteArray)) × (List (Int × ByteArray)) × (List (Int × Int × Int × ByteArray × Int)) × Int × Int) × (List (Int × ByteArray)) × Unit) × Unit) :=
 Option.bind (pleachref13_TakeWin v4 v1) fun (r16 : ((List (Int × ByteArray)) × (Int × ByteArray) × Bool × Unit) × Unit) =>
 bif !r16.1.2.2.1 then
  some (((v1, v2, v3, v4, v5, v6, v7), v15, ()), ())
 else
  Option.bind (pleachref13_Tell v5 r16.1.2.1.1 r16.1.2.1.2) fun (r17 : ((List (Int × Int × Int × ByteArray × Int)) × Unit) × Unit) =>
  Option.bind (pleachref13_AddRing v3 r16.1.2.1) fun (r18 : ((List (Int × ByteArray)) × Unit) × Unit) =>
  bif Nat.ble (v15.length + 1) 1073741824 then
   L2 (IntKind.wrap .i64 (v1 + 1)) v2 r18.1.1 r16.1.1 0 0 r17.1.1 v8 v9 v10 v11 v12 v13 v14 (v15 ++ [r16.1.2.1])
  else none
noncomputable def pleachref13_Goes_B2 (L2 : Int → Int → (List (Int × ByteArray)) → (List (Int × ByteArray)) → Int → Int → (List (Int × Int × Int × ByteArray × Int)) → Int → Int → Int → Int → (List (Int × ByteArray)) → (List (Int × ByteArray)) → (List (Int × Int × Int × ByteArray × Int)) → (List (Int × ByteArray)) → Option (((Int × Int × (List (Int × ByteArray)) × (List (Int × ByteArray)) × (List (Int × Int × Int × ByteArray × Int)) × Int × Int) × (List (Int × ByteArray)) × Unit) × Unit)) (v19 : Int) (v20 : Int) (v21 : List (Int × ByteArray)) (v22 : List (Int × ByteArray)) (v23 : Int) (v24 : Int) (v25 : List (Int × Int × Int × ByteArray × Int)) (v26 : Int) (v27 : Int) (v28 : Int) (v29 : Int) (v30 : List (Int × ByteArray)) (v31 : List (Int × ByteArray)) (v32 : List (Int × Int × Int × ByteArray × Int)) (v33 : List (Int × ByteArray)) : Option (((Int × Int × (List (Int × ByteArray)) × (List (Int × ByteArray)) × (List (Int × Int × Int × ByteArray × Int)) × Int × Int) × (List (Int × ByteArray)) × Unit) × Unit) :=
 Option.bind (pleachref13_TakeWin v22 v19) fun (r34 : ((List (Int × ByteArray)) × (Int × ByteArray) × Bool × Unit) × Unit) =>
 bif !r34.1.2.2.1 then
  some (((v19, v20, v21, v22, v25, v23, v24), v33, ()), ())
 else
  Option.bind (pleachref13_Tell v25 r34.1.2.1.1 r34.1.2.1.2) fun (r35 : ((List (Int × Int × Int × ByteArray × Int)) × Unit) × Unit) =>
  Option.bind (pleachref13_AddRing v21 r34.1.2.1) fun (r36 : ((List (Int × ByteArray)) × Unit) × Unit) =>
  bif Nat.ble (v33.length + 1) 1073741824 then
   L2 (IntKind.wrap .i64 (v19 + 1)) v20 r36.1.1 r34.1.1 0 0 r35.1.1 v26 v27 v28 v29 v30 v31 v32 (v33 ++ [r34.1.2.1])
  else none
noncomputable def pleachref13_Goes_T (L1 : Int → Int → (List (Int × ByteArray)) → (List (Int × ByteArray)) → (List (Int × Int × Int × ByteArray × Int)) → Int → Int → Int → Int → Int → Int → (List (Int × ByteArray)) → (List (Int × ByteArray)) → (List (Int × Int × Int × ByteArray × Int)) → (List (Int × ByteArray)) → Option (((Int × Int × (List (Int × ByteArray)) × (List (Int × ByteArray)) × (List (Int × Int × Int × ByteArray × Int)) × Int × Int) × (List (Int × ByteArray)) × Unit) × Unit)) (f_0 : Int × Int × (List (Int × ByteArray)) × (List (Int × ByteArray)) × (List (Int × Int × Int × ByteArray × Int)) × Int × Int) : Option (((Int × Int × (List (Int × ByteArray)) × (List (Int × ByteArray)) × (List (Int × Int × Int × ByteArray × Int)) × Int × Int) × (List (Int × ByteArray)) × Unit) × Unit) :=
 L1 f_0.1 f_0.2.1 f_0.2.2.1 f_0.2.2.2.1 f_0.2.2.2.2.1 f_0.2.2.2.2.2.1 f_0.2.2.2.2.2.2 0 0 0 0 [] [] [] []
noncomputable def pleachref13_Goes_L2 (n : Nat) : Nat → Int → Int → (List (Int × ByteArray)) → (List (Int × ByteArray)) → Int → Int → (List (Int × Int × Int × ByteArray × Int)) → Int → Int → Int → Int → (List (Int × ByteArray)) → (List (Int × ByteArray)) → (List (Int × Int × Int × ByteArray × Int)) → (List (Int × ByteArray)) → Option (((Int × Int × (List (Int × ByteArray)) × (List (Int × ByteArray)) × (List (Int × Int × Int × ByteArray × Int)) × Int × Int) × (List (Int × ByteArray)) × Unit) × Unit) := iter (fun _ _ _ _ _ _ _ _ _ _ _ _ _ _ _ => none) fun L => pleachref13_Goes_B2 L
noncomputable def pleachref13_Goes_L1 (n : Nat) : Nat → Int → Int → (List (Int × ByteArray)) → (List (Int × ByteArray)) → (List (Int × Int × Int × ByteArray × Int)) → Int → Int → Int → Int → Int → Int → (List (Int × ByteArray)) → (List (Int × ByteArray)) → (List (Int × Int × Int × ByteArray × Int)) → (List (Int × ByteArray)) → Option (((Int × Int × (List (Int × ByteArray)) × (List (Int × ByteArray)) × (List (Int × Int × Int × ByteArray × Int)) × Int × Int) × (List (Int × ByteArray)) × Unit) × Unit) := iterN (fun _ _ _ _ _ _ _ _ _ _ _ _ _ _ _ => none) fun m L => pleachref13_Goes_B1 (pleachref13_Goes_L2 n m)
noncomputable def pleachref13_Goes_X1 (n m : Nat) (v1 : Int) (v2 : Int) (v3 : List (Int × ByteArray)) (v4 : List (Int × ByteArray)) (v5 : List (Int × Int × Int × ByteArray × Int)) (v6 : Int) (v7 : Int) (v8 : Int) (v9 : Int) (v10 : Int) (v11 : Int) (v12 : List (Int × ByteArray)) (v13 : List (Int × ByteArray)) (v14 : List (Int × Int × Int × ByteArray × Int)) (v15 : List (Int × ByteArray)) : Option (((Int × Int × (List (Int × ByteArray)) × (List (Int × ByteArray)) × (List (Int × Int × Int × ByteArray × Int)) × Int × Int) × (List (Int × ByteArray)) × Unit) × Unit) :=
 atLoop pleachref13_Goes_Γ tab (fiB [.val t45] pleachref13_Goes_fi) n [.val t45] [⟨t45, [false, false, false, false, false, false, false], none⟩, ⟨t41, [true], none⟩] Tryz.f118 [1, 1, 0] [] [1, 2, 4] m
 ⟨[(1, SV.cv (CV.one (LV.ptr (1, 0) 0))), (2, SV.cv (CV.one (LV.ptr (2, 0) 0))), (4, SV.cv (CV.one (LV.ref (888888, 4))))],
  [((1, 0), Ob.box 46 [LV.pure t2 v1, LV.pure t2 v2, LV.pure t41 v3, LV.pure t41 v4, LV.pure t42 v5, LV.pure t2 v6, LV.pure t2 v7]), ((2, 0), Ob.box 46 [LV.pure t2 v8, LV.pure t2 v9, LV.ref (2, 3), LV.ref (2, 4), LV.ref (2, 5), LV.pure t2 v10, LV.pure t2 v11]), ((2, 3), Ob.row 153 t152 v12), ((2, 4), Ob.row 153 t152 v13), ((2, 5), Ob.row 50 t49 v14), ((888888, 4), Ob.row 153 t152 v15)]⟩
noncomputable def pleachref13_Goes_X2 (n m : Nat) (v19 : Int) (v20 : Int) (v21 : List (Int × ByteArray)) (v22 : List (Int × ByteArray)) (v23 : Int) (v24 : Int) (v25 : List (Int × Int × Int × ByteArray × Int)) (v26 : Int) (v27 : Int) (v28 : Int) (v29 : Int) (v30 : List (Int × ByteArray)) (v31 : List (Int × ByteArray)) (v32 : List (Int × Int × Int × ByteArray × Int)) (v33 : List (Int × ByteArray)) : Option (((Int × Int × (List (Int × ByteArray)) × (List (Int × ByteArray)) × (List (Int × Int × Int × ByteArray × Int)) × Int × Int) × (List (Int × ByteArray)) × Unit) × Unit) :=
 atLoop pleachref13_Goes_Γ tab (fiB [.val t45] pleachref13_Goes_fi) n [.val t45] [⟨t45, [false, false, false, false, false, false, false], none⟩, ⟨t41, [true], none⟩] Tryz.f118 [1, 1, 0] [] [1, 2, 4] m
 ⟨[(1, SV.cv (CV.one (LV.ptr (1, 0) 0))), (2, SV.cv (CV.one (LV.ptr (2, 0) 0))), (4, SV.cv (CV.one (LV.ref (888888, 4))))],
  [((1, 0), Ob.box 46 [LV.pure t2 v19, LV.pure t2 v20, LV.pure t41 v21, LV.pure t41 v22, LV.ref (1, 5), LV.pure t2 v23, LV.pure t2 v24]), ((1, 5), Ob.row 50 t49 v25), ((2, 0), Ob.box 46 [LV.pure t2 v26, LV.pure t2 v27, LV.ref (2, 3), LV.ref (2, 4), LV.ref (2, 5), LV.pure t2 v28, LV.pure t2 v29]), ((2, 3), Ob.row 153 t152 v30), ((2, 4), Ob.row 153 t152 v31), ((2, 5), Ob.row 50 t49 v32), ((888888, 4), Ob.row 153 t152 v33)]⟩
theorem pleachref13_Goes_step1 (n m : Nat) (v1 : Int) (v2 : Int) (v3 : List (Int × ByteArray)) (v4 : List (Int × ByteArray)) (v5 : List (Int × Int × Int × ByteArray × Int)) (v6 : Int) (v7 : Int) (v8 : Int) (v9 : Int) (v10 : Int) (v11 : Int) (v12 : List (Int × ByteArray)) (v13 : List (Int × ByteArray)) (v14 : List (Int × Int × Int × ByteArray × Int)) (v15 : List (Int × ByteArray)) : pleachref13_Goes_X1 n (m + 1) v1 v2 v3 v4 v5 v6 v7 v8 v9 v10 v11 v12 v13 v14 v15 = pleachref13_Goes_B1 (pleachref13_Goes_X2 n m) v1 v2 v3 v4 v5 v6 v7 v8 v9 v10 v11 v12 v13 v14 v15 := by kernel_rfl
theorem pleachref13_Goes_step2 (n m : Nat) (v19 : Int) (v20 : Int) (v21 : List (Int × ByteArray)) (v22 : List (Int × ByteArray)) (v23 : Int) (v24 : Int) (v25 : List (Int × Int × Int × ByteArray × Int)) (v26 : Int) (v27 : Int) (v28 : Int) (v29 : Int) (v30 : List (Int × ByteArray)) (v31 : List (Int × ByteArray)) (v32 : List (Int × Int × Int × ByteArray × Int)) (v33 : List (Int × ByteArray)) : pleachref13_Goes_X2 n (m + 1) v19 v20 v21 v22 v23 v24 v25 v26 v27 v28 v29 v30 v31 v32 v33 = pleachref13_Goes_B2 (pleachref13_Goes_X2 n m) v19 v20 v21 v22 v23 v24 v25 v26 v27 v28 v29 v30 v31 v32 v33 := by kernel_rfl
theorem pleachref13_Goes_start (n : Nat) (f_0 : Int × Int × (List (Int × ByteArray)) × (List (Int × ByteArray)) × (List (Int × Int × Int × ByteArray × Int)) × Int × Int) : evFn pleachref13_Goes_Γ tab pleachref13_Goes_fi n [.val t45] [⟨t45, [false, false, false, false, false, false, false], none⟩, ⟨t41, [true], none⟩] Tryz.f118 (f_0, ()) = pleachref13_Goes_T (pleachref13_Goes_X1 n n) f_0 := by kernel_rfl
theorem pleachref13_Goes_XL2 (n : Nat) : ∀ m, pleachref13_Goes_X2 n m = pleachref13_Goes_L2 n m
 | 0 => rfl
 | m + 1 => by
  have ih := pleachref13_Goes_XL2 n m
  funext v19 v20 v21 v22 v23 v24 v25 v26 v27 v28 v29 v30 v31 v32 v33
  rw [pleachref13_Goes_step2, ih]
  rfl
theorem pleachref13_Goes_XL1 (n : Nat) : ∀ m, pleachref13_Goes_X1 n m = pleachref13_Goes_L1 n m
 | 0 => rfl
 | m + 1 => by
  have ih := pleachref13_Goes_XL1 n m
  funext v1 v2 v3 v4 v5 v6 v7 v8 v9 v10 v11 v12 v13 v14 v15
  rw [pleachref13_Goes_step1, pleachref13_Goes_XL2 n m]
  rfl
noncomputable def pleachref13_Goes_n (n : Nat) (f_0 : Int × Int × (List (Int × ByteArray)) × (List (Int × ByteArray)) × (List (Int × Int × Int × ByteArray × Int)) × Int × Int) : Option (((Int × Int × (List (Int × ByteArray)) × (List (Int × ByteArray)) × (List (Int × Int × Int × ByteArray × Int)) × Int × Int) × (List (Int × ByteArray)) × Unit) × Unit) := pleachref13_Goes_T (pleachref13_Goes_L1 n n) f_0
noncomputable def pleachref13_Goes (f_0 : Int × Int × (List (Int × ByteArray)) × (List (Int × ByteArray)) × (List (Int × Int × Int × ByteArray × Int)) × Int × Int) : Option (((Int × Int × (List (Int × ByteArray)) × (List (Int × ByteArray)) × (List (Int × Int × Int × ByteArray × Int)) × Int × Int) × (List (Int × ByteArray)) × Unit) × Unit) := pleachref13_Goes_n 1099511627776 f_0
theorem pleachref13_Goes_eq (n : Nat) (f_0 : Int × Int × (List (Int × ByteArray)) × (List (Int × ByteArray)) × (List (Int × Int × Int × ByteArray × Int)) × Int × Int) : evFn pleachref13_Goes_Γ tab pleachref13_Goes_fi n [.val t45] [⟨t45, [false, false, false, false, false, false, false], none⟩, ⟨t41, [true], none⟩] Tryz.f118 (f_0, ()) = pleachref13_Goes_n n f_0 := by
  rw [pleachref13_Goes_start, pleachref13_Goes_XL1 n n]
  rfl
noncomputable def pleachref13_Goes_e : Ent := ⟨[.val t45], [⟨t45, [false, false, false, false, false, false, false], none⟩, ⟨t41, [true], none⟩], fun x => pleachref13_Goes x.1⟩
theorem pleachref13_Goes_good : Good tab.ty Tryz.prog 118 pleachref13_Goes_e := by
  refine fn_good (Γ := pleachref13_Goes_Γ) (fi := pleachref13_Goes_fi) (n := 1099511627776) follows (gcons pleachref13_Tell_good (gcons pleachref13_AddRing_good (gcons pleachref13_TakeWin_good gnil))) tabok Tryz.func118 (by kernel_rfl) (by kernel_rfl) (fun x r h => ?_)
  obtain ⟨f_0, _u⟩ := x
  exact (pleachref13_Goes_eq 1099511627776 f_0).trans h
noncomputable def pleachref13_Skips_Γ : Ctx := [(118, pleachref13_Goes_e), (136, pleachref13_First_e), (137, pleachref13_Skip_e)]
def pleachref13_Skips_fi : Fi := { keep := [], vty := [(8, 56)], vals := [(3, 5)], live := [(0, [1, 2, 3, 6, 14, 15, 30, 31, 32, 33, 34]), (1, [1, 2, 3, 6, 8, 14, 15, 30, 31, 32, 33, 34]), (2, [1, 2, 3, 6, 8, 16, 30, 31, 32, 33, 34]), (3, [6, 7]), (4, [1, 2, 3, 6, 8, 21, 30, 31, 32, 33, 34]), (5, [1, 2, 3, 6, 8, 30, 31, 32, 33, 34]), (6, [1, 2, 3, 6, 8, 9, 30, 31, 32, 33, 34]), (7, [1, 2, 3, 6, 8, 9, 30, 31, 32, 33, 34, 35]), (8, [1, 2, 3, 6, 8, 9, 30, 31, 32, 33, 34]), (9, [1, 2, 3, 6, 8, 9, 30, 31, 32, 33, 34, 43]), (10, [1, 2, 3, 6, 8, 9, 30, 31, 32, 33, 34]), (11, [1, 2, 3, 6, 8, 9, 30, 31, 32, 33, 34]), (12, [1, 2, 3, 6, 8, 30, 31, 32, 33, 34]), (13, [1, 2, 3, 6, 8, 30, 31, 32, 33, 34, 65]), (14, [1, 2, 3, 6, 8, 30, 31, 32, 33, 34]), (15, [6, 7])] }
noncomputable def pleachref13_Skips_B1 (L2 : Int → Int → Int → Int → (List (Int × ByteArray)) → (List (Int × ByteArray)) → (List (Int × Int × Int × ByteArray × Int)) → Int → Int → Int → Int → Int → Int → (List (Int × ByteArray)) → (List (Int × ByteArray)) → (List (Int × Int × Int × ByteArray × Int)) → (List (Int × Int)) → Option (((Int × Int × (List (Int × ByteArray)) × (List (Int × ByteArray)) × (List (Int × Int × Int × ByteArray × Int)) × Int × Int) × (List (Int × Int)) × Unit) × Unit)) (v1 : Int) (v2 : Int) (v3 : Bool) (v4 : Int) (v5 : Int) (v6 : List (Int × ByteArray)) (v7 : List (Int × ByteArray)) (v8 : List (Int × Int × Int × ByteArray × Int)) (v9 : Int) (v10 : Int) (v11 : Int) (v12 : Int) (v13 : Int) (v14 : Int) (v15 : List (Int × ByteArray)) (v16 : List (Int × ByteArray)) (v17 : List (Int × Int × Int × ByteArray × Int)) (v18 : List (Int × Int)) : Option (((Int × Int × (List (Int × ByteArray)) × (List (Int × ByteArray)) × (List (Int × Int × Int × ByteArray × Int)) × Int × Int) × (List (Int × Int)) × Unit) × Unit) :=
 bif decide (v4 ≤ v1) then
  bif decide ((v7.length : Int) > 0) then
   Option.bind (pleachref13_First v7) fun (r19 : (Int × Unit) × Unit) =>
   bif decide (r19.1.1 ≤ v1) then
    Option.bind (pleachref13_First v7) fun (r20 : (Int × Unit) × Unit) =>
    bif decide (IntKind.wrap .i64 (r20.1.1 - 1) ≥ v4) then
     Option.bind (pleachref13_Skip v8 v4 (IntKind.wrap .i64 (r20.1.1 - 1)) v2) fun (r21 : ((List (Int × Int × Int × ByteArray × Int)) × Unit) × Unit) =>
     bif Nat.ble (v18.length + 1) 1073741824 then
      bif decide (IntKind.wrap .i64 ((IntKind.wrap .i64 (r20.1.1 - 1)) + 1) ≤ v1) then
       Option.bind (pleachref13_Goes (IntKind.wrap .i64 ((IntKind.wrap .i64 (r20.1.1 - 1)) + 1), v5, v6, v7, r21.1.1, 0, 0)) fun (r22 : ((Int × Int × (List (Int × ByteArray)) × (List (Int × ByteArray)) × (List (Int × Int × Int × ByteArray × Int)) × Int × Int) × (List (Int × ByteArray)) × Unit) × Unit) =>
       L2 v1 v2 r22.1.1.1 r22.1.1.2.1 r22.1.1.2.2.1 r22.1.1.2.2.2.1 r22.1.1.2.2.2.2.1 r22.1.1.2.2.2.2.2.1 r22.1.1.2.2.2.2.2.2 v11 v12 v13 v14 v15 v16 v17 (v18 ++ [(v4, IntKind.wrap .i64 (r20.1.1 - 1))])
      else
       L2 v1 v2 (IntKind.wrap .i64 ((IntKind.wrap .i64 (r20.1.1 - 1)) + 1)) v5 v6 v7 r21.1.1 0 0 v11 v12 v13 v14 v15 v16 v17 (v18 ++ [(v4, IntKind.wrap .i64 (r20.1.1 - 1))])
     else none
    else
    bif decide (v4 ≤ v1) then
     Option.bind (pleachref13_Goes (v4, v5, v6, v7, v8, 0, 0)) fun (r51 : ((Int × Int × (List (Int × ByteArray)) × (List (Int × ByteArray)) × (List (Int × Int × Int × ByteArray × Int)) × Int × Int) × (List (Int × ByteArray)) × Unit) × Unit) =>
     L2 v1 v2 r51.1.1.1 r51.1.1.2.1 r51.1.1.2.2.1 r51.1.1.2.2.2.1 r51.1.1.2.2.2.2.1 r51.1.1.2.2.2.2.2.1 r51.1.1.2.2.2.2.2.2 v11 v12 v13 v14 v15 v16 v17 v18
    else
     L2 v1 v2 v4 v5 v6 v7 v8 0 0 v11 v12 v13 v14 v15 v16 v17 v18
   else
   bif decide (v1 ≥ v4) then
    Option.bind (pleachref13_Skip v8 v4 v1 v2) fun (r52 : ((List (Int × Int × Int × ByteArray × Int)) × Unit) × Unit) =>
    bif Nat.ble (v18.length + 1) 1073741824 then
     bif decide (IntKind.wrap .i64 (v1 + 1) ≤ v1) then
      Option.bind (pleachref13_Goes (IntKind.wrap .i64 (v1 + 1), v5, v6, v7, r52.1.1, 0, 0)) fun (r53 : ((Int × Int × (List (Int × ByteArray)) × (List (Int × ByteArray)) × (List (Int × Int × Int × ByteArray × Int)) × Int × Int) × (List (Int × ByteArray)) × Unit) × Unit) =>
      L2 v1 v2 r53.1.1.1 r53.1.1.2.1 r53.1.1.2.2.1 r53.1.1.2.2.2.1 r53.1.1.2.2.2.2.1 r53.1.1.2.2.2.2.2.1 r53.1.1.2.2.2.2.2.2 v11 v12 v13 v14 v15 v16 v17 (v18 ++ [(v4, v1)])
     else
      L2 v1 v2 (IntKind.wrap .i64 (v1 + 1)) v5 v6 v7 r52.1.1 0 0 v11 v12 v13 v14 v15 v16 v17 (v18 ++ [(v4, v1)])
    else none
   else
   bif decide (v4 ≤ v1) then
    Option.bind (pleachref13_Goes (v4, v5, v6, v7, v8, 0, 0)) fun (r54 : ((Int × Int × (List (Int × ByteArray)) × (List (Int × ByteArray)) × (List (Int × Int × Int × ByteArray × Int)) × Int × Int) × (List (Int × ByteArray)) × Unit) × Unit) =>
    L2 v1 v2 r54.1.1.1 r54.1.1.2.1 r54.1.1.2.2.1 r54.1.1.2.2.2.1 r54.1.1.2.2.2.2.1 r54.1.1.2.2.2.2.2.1 r54.1.1.2.2.2.2.2.2 v11 v12 v13 v14 v15 v16 v17 v18
   else
    L2 v1 v2 v4 v5 v6 v7 v8 0 0 v11 v12 v13 v14 v15 v16 v17 v18
  else
  bif decide (v1 ≥ v4) then
   Option.bind (pleachref13_Skip v8 v4 v1 v2) fun (r55 : ((List (Int × Int × Int × ByteArray × Int)) × Unit) × Unit) =>
   bif Nat.ble (v18.length + 1) 1073741824 then
    bif decide (IntKind.wrap .i64 (v1 + 1) ≤ v1) then
     Option.bind (pleachref13_Goes (IntKind.wrap .i64 (v1 + 1), v5, v6, v7, r55.1.1, 0, 0)) fun (r56 : ((Int × Int × (List (Int × ByteArray)) × (List (Int × ByteArray)) × (List (Int × Int × Int × ByteArray × Int)) × Int × Int) × (List (Int × ByteArray)) × Unit) × Unit) =>
     L2 v1 v2 r56.1.1.1 r56.1.1.2.1 r56.1.1.2.2.1 r56.1.1.2.2.2.1 r56.1.1.2.2.2.2.1 r56.1.1.2.2.2.2.2.1 r56.1.1.2.2.2.2.2.2 v11 v12 v13 v14 v15 v16 v17 (v18 ++ [(v4, v1)])
    else
     L2 v1 v2 (IntKind.wrap .i64 (v1 + 1)) v5 v6 v7 r55.1.1 0 0 v11 v12 v13 v14 v15 v16 v17 (v18 ++ [(v4, v1)])
   else none
  else
  bif decide (v4 ≤ v1) then
   Option.bind (pleachref13_Goes (v4, v5, v6, v7, v8, 0, 0)) fun (r57 : ((Int × Int × (List (Int × ByteArray)) × (List (Int × ByteArray)) × (List (Int × Int × Int × ByteArray × Int)) × Int × Int) × (List (Int × ByteArray)) × Unit) × Unit) =>
   L2 v1 v2 r57.1.1.1 r57.1.1.2.1 r57.1.1.2.2.1 r57.1.1.2.2.2.1 r57.1.1.2.2.2.2.1 r57.1.1.2.2.2.2.2.1 r57.1.1.2.2.2.2.2.2 v11 v12 v13 v14 v15 v16 v17 v18
  else
   L2 v1 v2 v4 v5 v6 v7 v8 0 0 v11 v12 v13 v14 v15 v16 v17 v18
 else
  some (((v4, v5, v6, v7, v8, v9, v10), v18, ()), ())
noncomputable def pleachref13_Skips_B2 (L2 : Int → Int → Int → Int → (List (Int × ByteArray)) → (List (Int × ByteArray)) → (List (Int × Int × Int × ByteArray × Int)) → Int → Int → Int → Int → Int → Int → (List (Int × ByteArray)) → (List (Int × ByteArray)) → (List (Int × Int × Int × ByteArray × Int)) → (List (Int × Int)) → Option (((Int × Int × (List (Int × ByteArray)) × (List (Int × ByteArray)) × (List (Int × Int × Int × ByteArray × Int)) × Int × Int) × (List (Int × Int)) × Unit) × Unit)) (v23 : Int) (v24 : Int) (v25 : Int) (v26 : Int) (v27 : List (Int × ByteArray)) (v28 : List (Int × ByteArray)) (v29 : List (Int × Int × Int × ByteArray × Int)) (v30 : Int) (v31 : Int) (v32 : Int) (v33 : Int) (v34 : Int) (v35 : Int) (v36 : List (Int × ByteArray)) (v37 : List (Int × ByteArray)) (v38 : List (Int × Int × Int × ByteArray × Int)) (v39 : List (Int × Int)) : Option (((Int × Int × (List (Int × ByteArray)) × (List (Int × ByteArray)) × (List (Int × Int × Int × ByteArray × Int)) × Int × Int) × (List (Int × Int)) × Unit) × Unit) :=
 bif decide (v25 ≤ v23) then
  bif decide ((v28.length : Int) > 0) then
   Option.bind (pleachref13_First v28) fun (r40 : (Int × Unit) × Unit) =>
   bif decide (r40.1.1 ≤ v23) then
    Option.bind (pleachref13_First v28) fun (r41 : (Int × Unit) × Unit) =>
    bif decide (IntKind.wrap .i64 (r41.1.1 - 1) ≥ v25) then
     Option.bind (pleachref13_Skip v29 v25 (IntKind.wrap .i64 (r41.1.1 - 1)) v24) fun (r42 : ((List (Int × Int × Int × ByteArray × Int)) × Unit) × Unit) =>
     bif Nat.ble (v39.length + 1) 1073741824 then
      bif decide (IntKind.wrap .i64 ((IntKind.wrap .i64 (r41.1.1 - 1)) + 1) ≤ v23) then
       Option.bind (pleachref13_Goes (IntKind.wrap .i64 ((IntKind.wrap .i64 (r41.1.1 - 1)) + 1), v26, v27, v28, r42.1.1, 0, 0)) fun (r43 : ((Int × Int × (List (Int × ByteArray)) × (List (Int × ByteArray)) × (List (Int × Int × Int × ByteArray × Int)) × Int × Int) × (List (Int × ByteArray)) × Unit) × Unit) =>
       L2 v23 v24 r43.1.1.1 r43.1.1.2.1 r43.1.1.2.2.1 r43.1.1.2.2.2.1 r43.1.1.2.2.2.2.1 r43.1.1.2.2.2.2.2.1 r43.1.1.2.2.2.2.2.2 v32 v33 v34 v35 v36 v37 v38 (v39 ++ [(v25, IntKind.wrap .i64 (r41.1.1 - 1))])
      else
       L2 v23 v24 (IntKind.wrap .i64 ((IntKind.wrap .i64 (r41.1.1 - 1)) + 1)) v26 v27 v28 r42.1.1 0 0 v32 v33 v34 v35 v36 v37 v38 (v39 ++ [(v25, IntKind.wrap .i64 (r41.1.1 - 1))])
     else none
    else
    bif decide (v25 ≤ v23) then
     Option.bind (pleachref13_Goes (v25, v26, v27, v28, v29, 0, 0)) fun (r44 : ((Int × Int × (List (Int × ByteArray)) × (List (Int × ByteArray)) × (List (Int × Int × Int × ByteArray × Int)) × Int × Int) × (List (Int × ByteArray)) × Unit) × Unit) =>
     L2 v23 v24 r44.1.1.1 r44.1.1.2.1 r44.1.1.2.2.1 r44.1.1.2.2.2.1 r44.1.1.2.2.2.2.1 r44.1.1.2.2.2.2.2.1 r44.1.1.2.2.2.2.2.2 v32 v33 v34 v35 v36 v37 v38 v39
    else
     L2 v23 v24 v25 v26 v27 v28 v29 0 0 v32 v33 v34 v35 v36 v37 v38 v39
   else
   bif decide (v23 ≥ v25) then
    Option.bind (pleachref13_Skip v29 v25 v23 v24) fun (r45 : ((List (Int × Int × Int × ByteArray × Int)) × Unit) × Unit) =>
    bif Nat.ble (v39.length + 1) 1073741824 then
     bif decide (IntKind.wrap .i64 (v23 + 1) ≤ v23) then
      Option.bind (pleachref13_Goes (IntKind.wrap .i64 (v23 + 1), v26, v27, v28, r45.1.1, 0, 0)) fun (r46 : ((Int × Int × (List (Int × ByteArray)) × (List (Int × ByteArray)) × (List (Int × Int × Int × ByteArray × Int)) × Int × Int) × (List (Int × ByteArray)) × Unit) × Unit) =>
      L2 v23 v24 r46.1.1.1 r46.1.1.2.1 r46.1.1.2.2.1 r46.1.1.2.2.2.1 r46.1.1.2.2.2.2.1 r46.1.1.2.2.2.2.2.1 r46.1.1.2.2.2.2.2.2 v32 v33 v34 v35 v36 v37 v38 (v39 ++ [(v25, v23)])
     else
      L2 v23 v24 (IntKind.wrap .i64 (v23 + 1)) v26 v27 v28 r45.1.1 0 0 v32 v33 v34 v35 v36 v37 v38 (v39 ++ [(v25, v23)])
    else none
   else
   bif decide (v25 ≤ v23) then
    Option.bind (pleachref13_Goes (v25, v26, v27, v28, v29, 0, 0)) fun (r47 : ((Int × Int × (List (Int × ByteArray)) × (List (Int × ByteArray)) × (List (Int × Int × Int × ByteArray × Int)) × Int × Int) × (List (Int × ByteArray)) × Unit) × Unit) =>
    L2 v23 v24 r47.1.1.1 r47.1.1.2.1 r47.1.1.2.2.1 r47.1.1.2.2.2.1 r47.1.1.2.2.2.2.1 r47.1.1.2.2.2.2.2.1 r47.1.1.2.2.2.2.2.2 v32 v33 v34 v35 v36 v37 v38 v39
   else
    L2 v23 v24 v25 v26 v27 v28 v29 0 0 v32 v33 v34 v35 v36 v37 v38 v39
  else
  bif decide (v23 ≥ v25) then
   Option.bind (pleachref13_Skip v29 v25 v23 v24) fun (r48 : ((List (Int × Int × Int × ByteArray × Int)) × Unit) × Unit) =>
   bif Nat.ble (v39.length + 1) 1073741824 then
    bif decide (IntKind.wrap .i64 (v23 + 1) ≤ v23) then
     Option.bind (pleachref13_Goes (IntKind.wrap .i64 (v23 + 1), v26, v27, v28, r48.1.1, 0, 0)) fun (r49 : ((Int × Int × (List (Int × ByteArray)) × (List (Int × ByteArray)) × (List (Int × Int × Int × ByteArray × Int)) × Int × Int) × (List (Int × ByteArray)) × Unit) × Unit) =>
     L2 v23 v24 r49.1.1.1 r49.1.1.2.1 r49.1.1.2.2.1 r49.1.1.2.2.2.1 r49.1.1.2.2.2.2.1 r49.1.1.2.2.2.2.2.1 r49.1.1.2.2.2.2.2.2 v32 v33 v34 v35 v36 v37 v38 (v39 ++ [(v25, v23)])
    else
     L2 v23 v24 (IntKind.wrap .i64 (v23 + 1)) v26 v27 v28 r48.1.1 0 0 v32 v33 v34 v35 v36 v37 v38 (v39 ++ [(v25, v23)])
   else none
  else
  bif decide (v25 ≤ v23) then
   Option.bind (pleachref13_Goes (v25, v26, v27, v28, v29, 0, 0)) fun (r50 : ((Int × Int × (List (Int × ByteArray)) × (List (Int × ByteArray)) × (List (Int × Int × Int × ByteArray × Int)) × Int × Int) × (List (Int × ByteArray)) × Unit) × Unit) =>
   L2 v23 v24 r50.1.1.1 r50.1.1.2.1 r50.1.1.2.2.1 r50.1.1.2.2.2.1 r50.1.1.2.2.2.2.1 r50.1.1.2.2.2.2.2.1 r50.1.1.2.2.2.2.2.2 v32 v33 v34 v35 v36 v37 v38 v39
  else
   L2 v23 v24 v25 v26 v27 v28 v29 0 0 v32 v33 v34 v35 v36 v37 v38 v39
 else
  some (((v25, v26, v27, v28, v29, v30, v31), v39, ()), ())
noncomputable def pleachref13_Skips_T (L1 : Int → Int → Bool → Int → Int → (List (Int × ByteArray)) → (List (Int × ByteArray)) → (List (Int × Int × Int × ByteArray × Int)) → Int → Int → Int → Int → Int → Int → (List (Int × ByteArray)) → (List (Int × ByteArray)) → (List (Int × Int × Int × ByteArray × Int)) → (List (Int × Int)) → Option (((Int × Int × (List (Int × ByteArray)) × (List (Int × ByteArray)) × (List (Int × Int × Int × ByteArray × Int)) × Int × Int) × (List (Int × Int)) × Unit) × Unit)) (f_0 : Int × Int × (List (Int × ByteArray)) × (List (Int × ByteArray)) × (List (Int × Int × Int × ByteArray × Int)) × Int × Int) (hi_1 : Int) (why_2 : Int) : Option (((Int × Int × (List (Int × ByteArray)) × (List (Int × ByteArray)) × (List (Int × Int × Int × ByteArray × Int)) × Int × Int) × (List (Int × Int)) × Unit) × Unit) :=
 bif decide (f_0.1 < 1) then
  some ((f_0, [], ()), ())
 else
 bif decide (hi_1 > 1000000) then
  some ((f_0, [], ()), ())
 else
  L1 hi_1 why_2 (decide (hi_1 > 1000000)) f_0.1 f_0.2.1 f_0.2.2.1 f_0.2.2.2.1 f_0.2.2.2.2.1 f_0.2.2.2.2.2.1 f_0.2.2.2.2.2.2 0 0 0 0 [] [] [] []
noncomputable def pleachref13_Skips_L2 (n : Nat) : Nat → Int → Int → Int → Int → (List (Int × ByteArray)) → (List (Int × ByteArray)) → (List (Int × Int × Int × ByteArray × Int)) → Int → Int → Int → Int → Int → Int → (List (Int × ByteArray)) → (List (Int × ByteArray)) → (List (Int × Int × Int × ByteArray × Int)) → (List (Int × Int)) → Option (((Int × Int × (List (Int × ByteArray)) × (List (Int × ByteArray)) × (List (Int × Int × Int × ByteArray × Int)) × Int × Int) × (List (Int × Int)) × Unit) × Unit) := iter (fun _ _ _ _ _ _ _ _ _ _ _ _ _ _ _ _ _ => none) fun L => pleachref13_Skips_B2 L
noncomputable def pleachref13_Skips_L1 (n : Nat) : Nat → Int → Int → Bool → Int → Int → (List (Int × ByteArray)) → (List (Int × ByteArray)) → (List (Int × Int × Int × ByteArray × Int)) → Int → Int → Int → Int → Int → Int → (List (Int × ByteArray)) → (List (Int × ByteArray)) → (List (Int × Int × Int × ByteArray × Int)) → (List (Int × Int)) → Option (((Int × Int × (List (Int × ByteArray)) × (List (Int × ByteArray)) × (List (Int × Int × Int × ByteArray × Int)) × Int × Int) × (List (Int × Int)) × Unit) × Unit) := iterN (fun _ _ _ _ _ _ _ _ _ _ _ _ _ _ _ _ _ _ => none) fun m L => pleachref13_Skips_B1 (pleachref13_Skips_L2 n m)
noncomputable def pleachref13_Skips_X1 (n m : Nat) (v1 : Int) (v2 : Int) (v3 : Bool) (v4 : Int) (v5 : Int) (v6 : List (Int × ByteArray)) (v7 : List (Int × ByteArray)) (v8 : List (Int × Int × Int × ByteArray × Int)) (v9 : Int) (v10 : Int) (v11 : Int) (v12 : Int) (v13 : Int) (v14 : Int) (v15 : List (Int × ByteArray)) (v16 : List (Int × ByteArray)) (v17 : List (Int × Int × Int × ByteArray × Int)) (v18 : List (Int × Int)) : Option (((Int × Int × (List (Int × ByteArray)) × (List (Int × ByteArray)) × (List (Int × Int × Int × ByteArray × Int)) × Int × Int) × (List (Int × Int)) × Unit) × Unit) :=
 atLoop pleachref13_Skips_Γ tab (fiB [.val t45, .val t2, .val t2] pleachref13_Skips_fi) n [.val t45, .val t2, .val t2] [⟨t45, [false, false, false, false, false, false, false], none⟩, ⟨t56, [true], none⟩] Tryz.f117 [1, 1, 1, 0, 0] [] [1, 2, 3, 6, 8, 16] m
 ⟨[(1, SV.cv (CV.one (LV.pure t2 v1))), (2, SV.cv (CV.one (LV.pure t2 v2))), (3, SV.cv (CV.one (LV.ptr (3, 0) 0))), (6, SV.cv (CV.one (LV.ptr (6, 0) 0))), (8, SV.cv (CV.one (LV.ref (888888, 8)))), (16, SV.cv (CV.one (LV.pure t4 v3)))],
  [((3, 0), Ob.box 46 [LV.pure t2 v4, LV.pure t2 v5, LV.pure t41 v6, LV.pure t41 v7, LV.pure t42 v8, LV.pure t2 v9, LV.pure t2 v10]), ((6, 0), Ob.box 46 [LV.pure t2 v11, LV.pure t2 v12, LV.ref (6, 3), LV.ref (6, 4), LV.ref (6, 5), LV.pure t2 v13, LV.pure t2 v14]), ((6, 3), Ob.row 153 t152 v15), ((6, 4), Ob.row 153 t152 v16), ((6, 5), Ob.row 50 t49 v17), ((888888, 8), Ob.row 63 t43 v18)]⟩
noncomputable def pleachref13_Skips_X2 (n m : Nat) (v23 : Int) (v24 : Int) (v25 : Int) (v26 : Int) (v27 : List (Int × ByteArray)) (v28 : List (Int × ByteArray)) (v29 : List (Int × Int × Int × ByteArray × Int)) (v30 : Int) (v31 : Int) (v32 : Int) (v33 : Int) (v34 : Int) (v35 : Int) (v36 : List (Int × ByteArray)) (v37 : List (Int × ByteArray)) (v38 : List (Int × Int × Int × ByteArray × Int)) (v39 : List (Int × Int)) : Option (((Int × Int × (List (Int × ByteArray)) × (List (Int × ByteArray)) × (List (Int × Int × Int × ByteArray × Int)) × Int × Int) × (List (Int × Int)) × Unit) × Unit) :=
 atLoop pleachref13_Skips_Γ tab (fiB [.val t45, .val t2, .val t2] pleachref13_Skips_fi) n [.val t45, .val t2, .val t2] [⟨t45, [false, false, false, false, false, false, false], none⟩, ⟨t56, [true], none⟩] Tryz.f117 [1, 1, 1, 0, 0] [] [1, 2, 3, 6, 8, 16] m
 ⟨[(1, SV.cv (CV.one (LV.pure t2 v23))), (2, SV.cv (CV.one (LV.pure t2 v24))), (3, SV.cv (CV.one (LV.ptr (3, 0) 0))), (6, SV.cv (CV.one (LV.ptr (6, 0) 0))), (8, SV.cv (CV.one (LV.ref (888888, 8))))],
  [((3, 0), Ob.box 46 [LV.pure t2 v25, LV.pure t2 v26, LV.pure t41 v27, LV.pure t41 v28, LV.pure t42 v29, LV.pure t2 v30, LV.pure t2 v31]), ((6, 0), Ob.box 46 [LV.pure t2 v32, LV.pure t2 v33, LV.ref (6, 3), LV.ref (6, 4), LV.ref (6, 5), LV.pure t2 v34, LV.pure t2 v35]), ((6, 3), Ob.row 153 t152 v36), ((6, 4), Ob.row 153 t152 v37), ((6, 5), Ob.row 50 t49 v38), ((888888, 8), Ob.row 63 t43 v39)]⟩
theorem pleachref13_Skips_step1 (n m : Nat) (v1 : Int) (v2 : Int) (v3 : Bool) (v4 : Int) (v5 : Int) (v6 : List (Int × ByteArray)) (v7 : List (Int × ByteArray)) (v8 : List (Int × Int × Int × ByteArray × Int)) (v9 : Int) (v10 : Int) (v11 : Int) (v12 : Int) (v13 : Int) (v14 : Int) (v15 : List (Int × ByteArray)) (v16 : List (Int × ByteArray)) (v17 : List (Int × Int × Int × ByteArray × Int)) (v18 : List (Int × Int)) : pleachref13_Skips_X1 n (m + 1) v1 v2 v3 v4 v5 v6 v7 v8 v9 v10 v11 v12 v13 v14 v15 v16 v17 v18 = pleachref13_Skips_B1 (pleachref13_Skips_X2 n m) v1 v2 v3 v4 v5 v6 v7 v8 v9 v10 v11 v12 v13 v14 v15 v16 v17 v18 := by kernel_rfl
theorem pleachref13_Skips_step2 (n m : Nat) (v23 : Int) (v24 : Int) (v25 : Int) (v26 : Int) (v27 : List (Int × ByteArray)) (v28 : List (Int × ByteArray)) (v29 : List (Int × Int × Int × ByteArray × Int)) (v30 : Int) (v31 : Int) (v32 : Int) (v33 : Int) (v34 : Int) (v35 : Int) (v36 : List (Int × ByteArray)) (v37 : List (Int × ByteArray)) (v38 : List (Int × Int × Int × ByteArray × Int)) (v39 : List (Int × Int)) : pleachref13_Skips_X2 n (m + 1) v23 v24 v25 v26 v27 v28 v29 v30 v31 v32 v33 v34 v35 v36 v37 v38 v39 = pleachref13_Skips_B2 (pleachref13_Skips_X2 n m) v23 v24 v25 v26 v27 v28 v29 v30 v31 v32 v33 v34 v35 v36 v37 v38 v39 := by kernel_rfl
theorem pleachref13_Skips_start (n : Nat) (f_0 : Int × Int × (List (Int × ByteArray)) × (List (Int × ByteArray)) × (List (Int × Int × Int × ByteArray × Int)) × Int × Int) (hi_1 : Int) (why_2 : Int) : evFn pleachref13_Skips_Γ tab pleachref13_Skips_fi n [.val t45, .val t2, .val t2] [⟨t45, [false, false, false, false, false, false, false], none⟩, ⟨t56, [true], none⟩] Tryz.f117 (f_0, hi_1, why_2, ()) = pleachref13_Skips_T (pleachref13_Skips_X1 n n) f_0 hi_1 why_2 := by kernel_rfl
theorem pleachref13_Skips_XL2 (n : Nat) : ∀ m, pleachref13_Skips_X2 n m = pleachref13_Skips_L2 n m
 | 0 => rfl
 | m + 1 => by
  have ih := pleachref13_Skips_XL2 n m
  funext v23 v24 v25 v26 v27 v28 v29 v30 v31 v32 v33 v34 v35 v36 v37 v38 v39
  rw [pleachref13_Skips_step2, ih]
  rfl
theorem pleachref13_Skips_XL1 (n : Nat) : ∀ m, pleachref13_Skips_X1 n m = pleachref13_Skips_L1 n m
 | 0 => rfl
 | m + 1 => by
  have ih := pleachref13_Skips_XL1 n m
  funext v1 v2 v3 v4 v5 v6 v7 v8 v9 v10 v11 v12 v13 v14 v15 v16 v17 v18
  rw [pleachref13_Skips_step1, pleachref13_Skips_XL2 n m]
  rfl
noncomputable def pleachref13_Skips_n (n : Nat) (f_0 : Int × Int × (List (Int × ByteArray)) × (List (Int × ByteArray)) × (List (Int × Int × Int × ByteArray × Int)) × Int × Int) (hi_1 : Int) (why_2 : Int) : Option (((Int × Int × (List (Int × ByteArray)) × (List (Int × ByteArray)) × (List (Int × Int × Int × ByteArray × Int)) × Int × Int) × (List (Int × Int)) × Unit) × Unit) := pleachref13_Skips_T (pleachref13_Skips_L1 n n) f_0 hi_1 why_2
noncomputable def pleachref13_Skips (f_0 : Int × Int × (List (Int × ByteArray)) × (List (Int × ByteArray)) × (List (Int × Int × Int × ByteArray × Int)) × Int × Int) (hi_1 : Int) (why_2 : Int) : Option (((Int × Int × (List (Int × ByteArray)) × (List (Int × ByteArray)) × (List (Int × Int × Int × ByteArray × Int)) × Int × Int) × (List (Int × Int)) × Unit) × Unit) := pleachref13_Skips_n 1099511627776 f_0 hi_1 why_2
theorem pleachref13_Skips_eq (n : Nat) (f_0 : Int × Int × (List (Int × ByteArray)) × (List (Int × ByteArray)) × (List (Int × Int × Int × ByteArray × Int)) × Int × Int) (hi_1 : Int) (why_2 : Int) : evFn pleachref13_Skips_Γ tab pleachref13_Skips_fi n [.val t45, .val t2, .val t2] [⟨t45, [false, false, false, false, false, false, false], none⟩, ⟨t56, [true], none⟩] Tryz.f117 (f_0, hi_1, why_2, ()) = pleachref13_Skips_n n f_0 hi_1 why_2 := by
  rw [pleachref13_Skips_start, pleachref13_Skips_XL1 n n]
  rfl
noncomputable def pleachref13_Skips_e : Ent := ⟨[.val t45, .val t2, .val t2], [⟨t45, [false, false, false, false, false, false, false], none⟩, ⟨t56, [true], none⟩], fun x => pleachref13_Skips x.1 x.2.1 x.2.2.1⟩
theorem pleachref13_Skips_good : Good tab.ty Tryz.prog 117 pleachref13_Skips_e := by
  refine fn_good (Γ := pleachref13_Skips_Γ) (fi := pleachref13_Skips_fi) (n := 1099511627776) follows (gcons pleachref13_Goes_good (gcons pleachref13_First_good (gcons pleachref13_Skip_good gnil))) tabok Tryz.func117 (by kernel_rfl) (by kernel_rfl) (fun x r h => ?_)
  obtain ⟨f_0, hi_1, why_2, _u⟩ := x
  exact (pleachref13_Skips_eq 1099511627776 f_0 hi_1 why_2).trans h
noncomputable def pleachref1_Tried_Γ : Ctx := []
def pleachref1_Tried_fi : Fi := { keep := [], vty := [], vals := [], live := [(0, [1, 2, 4, 12, 13]), (1, [1, 2, 4, 5, 12, 13]), (2, [1, 2, 4, 5, 6, 12, 13]), (3, [1, 2, 4, 5, 6, 12, 13, 14]), (4, [1, 2, 4, 5, 6, 12, 13]), (5, [1, 2, 4, 5, 6, 12, 13]), (6, [4])] }
noncomputable def pleachref1_Tried_B1 (L1 : Int → Int → Int → Int → Int → Int → Int → Option (((Int × Int) × Unit) × Unit)) (v1 : Int) (v2 : Int) (v3 : Int) (v4 : Int) (v5 : Int) (v6 : Int) (v7 : Int) : Option (((Int × Int) × Unit) × Unit) :=
 bif decide (v3 < v4) then
  bif decide (v3 < 3) then
   L1 v1 (IntKind.wrap .i64 (v2 * 2)) (IntKind.wrap .i64 (v3 + 1)) v4 v5 v6 v7
  else
   some (((IntKind.wrap .i64 (v4 + 1), IntKind.wrap .i64 (v1 + v2)), ()), ())
 else
  some (((IntKind.wrap .i64 (v4 + 1), IntKind.wrap .i64 (v1 + v2)), ()), ())
noncomputable def pleachref1_Tried_T (L1 : Int → Int → Int → Int → Int → Int → Int → Option (((Int × Int) × Unit) × Unit)) (a_0 : Int × Int) (now_1 : Int) : Option (((Int × Int) × Unit) × Unit) :=
 L1 now_1 2 0 a_0.1 a_0.2 0 0
noncomputable def pleachref1_Tried_L1 (n : Nat) : Nat → Int → Int → Int → Int → Int → Int → Int → Option (((Int × Int) × Unit) × Unit) := iter (fun _ _ _ _ _ _ _ => none) fun L => pleachref1_Tried_B1 L
noncomputable def pleachref1_Tried_X1 (n m : Nat) (v1 : Int) (v2 : Int) (v3 : Int) (v4 : Int) (v5 : Int) (v6 : Int) (v7 : Int) : Option (((Int × Int) × Unit) × Unit) :=
 atLoop pleachref1_Tried_Γ tab (fiB [.val t43, .val t2] pleachref1_Tried_fi) n [.val t43, .val t2] [⟨t43, [false, false], none⟩] Tryz.f119 [1, 1, 0, 1, 0] [] [1, 2, 4, 5, 6] m
 ⟨[(1, SV.cv (CV.one (LV.pure t2 v1))), (2, SV.cv (CV.one (LV.ptr (2, 0) 0))), (4, SV.cv (CV.one (LV.ptr (4, 0) 0))), (5, SV.cv (CV.one (LV.pure t2 v2))), (6, SV.cv (CV.one (LV.pure t2 v3)))],
  [((2, 0), Ob.box 44 [LV.pure t2 v4, LV.pure t2 v5]), ((4, 0), Ob.box 44 [LV.pure t2 v6, LV.pure t2 v7])]⟩
theorem pleachref1_Tried_step1 (n m : Nat) (v1 : Int) (v2 : Int) (v3 : Int) (v4 : Int) (v5 : Int) (v6 : Int) (v7 : Int) : pleachref1_Tried_X1 n (m + 1) v1 v2 v3 v4 v5 v6 v7 = pleachref1_Tried_B1 (pleachref1_Tried_X1 n m) v1 v2 v3 v4 v5 v6 v7 := by kernel_rfl
theorem pleachref1_Tried_start (n : Nat) (a_0 : Int × Int) (now_1 : Int) : evFn pleachref1_Tried_Γ tab pleachref1_Tried_fi n [.val t43, .val t2] [⟨t43, [false, false], none⟩] Tryz.f119 (a_0, now_1, ()) = pleachref1_Tried_T (pleachref1_Tried_X1 n n) a_0 now_1 := by kernel_rfl
theorem pleachref1_Tried_XL1 (n : Nat) : ∀ m, pleachref1_Tried_X1 n m = pleachref1_Tried_L1 n m
 | 0 => rfl
 | m + 1 => by
  have ih := pleachref1_Tried_XL1 n m
  funext v1 v2 v3 v4 v5 v6 v7
  rw [pleachref1_Tried_step1, ih]
  rfl
noncomputable def pleachref1_Tried_n (n : Nat) (a_0 : Int × Int) (now_1 : Int) : Option (((Int × Int) × Unit) × Unit) := pleachref1_Tried_T (pleachref1_Tried_L1 n n) a_0 now_1
noncomputable def pleachref1_Tried (a_0 : Int × Int) (now_1 : Int) : Option (((Int × Int) × Unit) × Unit) := pleachref1_Tried_n 1099511627776 a_0 now_1
theorem pleachref1_Tried_eq (n : Nat) (a_0 : Int × Int) (now_1 : Int) : evFn pleachref1_Tried_Γ tab pleachref1_Tried_fi n [.val t43, .val t2] [⟨t43, [false, false], none⟩] Tryz.f119 (a_0, now_1, ()) = pleachref1_Tried_n n a_0 now_1 := by
  rw [pleachref1_Tried_start, pleachref1_Tried_XL1 n n]
  rfl
noncomputable def pleachref1_Tried_e : Ent := ⟨[.val t43, .val t2], [⟨t43, [false, false], none⟩], fun x => pleachref1_Tried x.1 x.2.1⟩
theorem pleachref1_Tried_good : Good tab.ty Tryz.prog 119 pleachref1_Tried_e := by
  refine fn_good (Γ := pleachref1_Tried_Γ) (fi := pleachref1_Tried_fi) (n := 1099511627776) follows gnil tabok Tryz.func119 (by kernel_rfl) (by kernel_rfl) (fun x r h => ?_)
  obtain ⟨a_0, now_1, _u⟩ := x
  exact (pleachref1_Tried_eq 1099511627776 a_0 now_1).trans h
noncomputable def pleachref13_Tick_Γ : Ctx := [(115, pleachref13_Wants_e), (116, pleachref1_Now_e), (117, pleachref13_Skips_e), (118, pleachref13_Goes_e), (119, pleachref1_Tried_e)]
def pleachref13_Tick_fi : Fi := { keep := [], vty := [], vals := [], live := [(0, [1, 2, 4, 5, 17, 18, 19, 20, 21]), (1, [1, 2, 4, 5, 7, 8, 17, 18, 19, 20, 21]), (2, [1, 2, 4, 5, 7, 22]), (3, [4, 5, 6]), (4, [1, 2, 4, 5, 7, 28]), (5, [2, 4, 5]), (6, [2, 4, 5]), (7, [4, 5, 6]), (8, [2, 4, 5, 7]), (9, [4, 5, 6])] }
noncomputable def pleachref13_Tick (f_0 : Int × Int × (List (Int × ByteArray)) × (List (Int × ByteArray)) × (List (Int × Int × Int × ByteArray × Int)) × Int × Int) (now_1 : Int) : Option (((Int × Int × (List (Int × ByteArray)) × (List (Int × ByteArray)) × (List (Int × Int × Int × ByteArray × Int)) × Int × Int) × (Int × Int) × Bool × Unit) × Unit) :=
 Option.bind (pleachref13_Wants f_0) fun (r1 : ((Int × Int) × Bool × Unit) × Unit) =>
 bif !r1.1.2.1 then
  some ((f_0, (0, 0), false, ()), ())
 else
  Option.bind (pleachref1_Now f_0.2.2.2.2.2 now_1) fun (r2 : (Bool × Unit) × Unit) =>
  bif !r2.1.1 then
   some ((f_0, (0, 0), false, ()), ())
  else
  bif decide (f_0.2.2.2.2.2.1 ≥ 3) then
   Option.bind (pleachref13_Skips f_0 r1.1.1.2 2) fun (r3 : ((Int × Int × (List (Int × ByteArray)) × (List (Int × ByteArray)) × (List (Int × Int × Int × ByteArray × Int)) × Int × Int) × (List (Int × Int)) × Unit) × Unit) =>
   Option.bind (pleachref13_Goes r3.1.1) fun (r4 : ((Int × Int × (List (Int × ByteArray)) × (List (Int × ByteArray)) × (List (Int × Int × Int × ByteArray × Int)) × Int × Int) × (List (Int × ByteArray)) × Unit) × Unit) =>
   some ((r4.1.1, (0, 0), false, ()), ())
  else
   Option.bind (pleachref1_Tried f_0.2.2.2.2.2 now_1) fun (r5 : ((Int × Int) × Unit) × Unit) =>
   some (((f_0.1, f_0.2.1, f_0.2.2.1, f_0.2.2.2.1, f_0.2.2.2.2.1, r5.1.1), r1.1.1, true, ()), ())
theorem pleachref13_Tick_eq (f_0 : Int × Int × (List (Int × ByteArray)) × (List (Int × ByteArray)) × (List (Int × Int × Int × ByteArray × Int)) × Int × Int) (now_1 : Int) : evFn pleachref13_Tick_Γ tab pleachref13_Tick_fi 1 [.val t45, .val t2] [⟨t45, [false, false, false, false, false, false, false], none⟩, ⟨t43, [false, false], none⟩, ⟨t4, [false], none⟩] Tryz.f88 (f_0, now_1, ()) = pleachref13_Tick f_0 now_1 := by kernel_rfl
noncomputable def pleachref13_Tick_e : Ent := ⟨[.val t45, .val t2], [⟨t45, [false, false, false, false, false, false, false], none⟩, ⟨t43, [false, false], none⟩, ⟨t4, [false], none⟩], fun x => pleachref13_Tick x.1 x.2.1⟩
theorem pleachref13_Tick_good : Good tab.ty Tryz.prog 88 pleachref13_Tick_e := by
  refine fn_good (Γ := pleachref13_Tick_Γ) (fi := pleachref13_Tick_fi) (n := 1) follows (gcons pleachref13_Wants_good (gcons pleachref1_Now_good (gcons pleachref13_Skips_good (gcons pleachref13_Goes_good (gcons pleachref1_Tried_good gnil))))) tabok Tryz.func88 (by kernel_rfl) (by kernel_rfl) (fun x r h => ?_)
  obtain ⟨f_0, now_1, _u⟩ := x
  exact (pleachref13_Tick_eq f_0 now_1).trans h
noncomputable def pleachref19_down_Γ : Ctx := [(89, pleachref19_says_e)]
def pleachref19_down_fi : Fi := { keep := [], vty := [(5, 89)], vals := [], live := [(0, [1, 2]), (1, [1, 2, 5]), (2, [1, 2, 5, 6]), (3, [1, 2, 5, 6, 12]), (4, [1, 2, 5, 6]), (5, [1, 2, 5, 6, 7]), (6, [1, 2, 5, 6, 7, 19]), (7, [1, 2, 5, 6, 7]), (8, [1, 2, 5, 6, 7, 8]), (9, [1, 2, 5, 6, 7, 8]), (10, [1, 2, 5, 6, 7, 8, 47]), (11, [1, 2, 5, 6, 7, 8]), (12, [1, 2, 5, 6, 7, 8]), (13, [1, 2, 5, 6, 7]), (14, [4])] }
noncomputable def pleachref19_down_B1 (L2 : (List (Int × Int × Int × ByteArray × Int)) → Int → Int → Int → Int → Int → Int → Int → Int → List Int → Int → Int → Int → Int → Int → (List (Int × Int × Int)) → (List (Int × Int × Int × Int × Int × Int × (List Int) × Int × Int × ByteArray)) → Option (((List (Int × Int × Int × Int × Int × Int × (List Int) × Int × Int × ByteArray)) × Unit) × Unit)) (v1 : List (Int × Int × Int × ByteArray × Int)) (v2 : Int) (v3 : Int) (v4 : Int) (v5 : Int) (v6 : Int) (v7 : Int) (v8 : Int) (v9 : List Int) (v10 : Int) (v11 : Int) (v12 : Int) (v13 : Int) (v14 : Int) (v15 : List (Int × Int × Int)) (v16 : List (Int × Int × Int × Int × Int × Int × (List Int) × Int × Int × ByteArray)) : Option (((List (Int × Int × Int × Int × Int × Int × (List Int) × Int × Int × ByteArray)) × Unit) × Unit) :=
 bif decide (v2 < (v1.length : Int)) then
  L2 v1 v2 0 v3 v4 v5 v6 v7 v8 v9 v10 v11 v12 v13 v14 v15 v16
 else
  some ((v16, ()), ())
noncomputable def pleachref19_down_B2 (L2 : (List (Int × Int × Int × ByteArray × Int)) → Int → Int → Int → Int → Int → Int → Int → Int → List Int → Int → Int → Int → Int → Int → (List (Int × Int × Int)) → (List (Int × Int × Int × Int × Int × Int × (List Int) × Int × Int × ByteArray)) → Option (((List (Int × Int × Int × Int × Int × Int × (List Int) × Int × Int × ByteArray)) × Unit) × Unit)) (L1 : (List (Int × Int × Int × ByteArray × Int)) → Int → Int → Int → Int → Int → Int → Int → List Int → Int → Int → Int → Int → Int → (List (Int × Int × Int)) → (List (Int × Int × Int × Int × Int × Int × (List Int) × Int × Int × ByteArray)) → Option (((List (Int × Int × Int × Int × Int × Int × (List Int) × Int × Int × ByteArray)) × Unit) × Unit)) (v17 : List (Int × Int × Int × ByteArray × Int)) (v18 : Int) (v19 : Int) (v20 : Int) (v21 : Int) (v22 : Int) (v23 : Int) (v24 : Int) (v25 : Int) (v26 : List Int) (v27 : Int) (v28 : Int) (v29 : Int) (v30 : Int) (v31 : Int) (v32 : List (Int × Int × Int)) (v33 : List (Int × Int × Int × Int × Int × Int × (List Int) × Int × Int × ByteArray)) : Option (((List (Int × Int × Int × Int × Int × Int × (List Int) × Int × Int × ByteArray)) × Unit) × Unit) :=
 bif decide (v19 < (v32.length : Int)) then
  bif decide (0 ≤ v19) && decide (v19 < (v32.length : Int)) then
   Option.bind (pleachref19_says (v20, v21, v22, v23, v24, v25, v26, v27, v28, v29, v30, v31, v32) 7 ((List.getD v32 v19.toNat (0, 0, 0)).1)) fun (r34 : ((Int × Int × Int × Int × Int × Int × (List Int) × Int × Int × ByteArray) × Unit) × Unit) =>
   bif decide (0 ≤ v18) && decide (v18 < (v17.length : Int)) then
    bif decide (0 ≤ v18) && decide (v18 < (v17.length : Int)) then
     bif decide (0 ≤ v18) && decide (v18 < (v17.length : Int)) then
      bif ((List.getD v17 v18.toNat (0, 0, 0, (⟨#[]⟩ : ByteArray), 0)).1) == 2 then
       bif decide (0 ≤ v19) && decide (v19 < (v32.length : Int)) then
        Option.bind (pleachref19_says (v20, v21, v22, v23, v24, v25, v26, v27, v28, v29, v30, v31, v32) 9 ((List.getD v32 v19.toNat (0, 0, 0)).1)) fun (r35 : ((Int × Int × Int × Int × Int × Int × (List Int) × Int × Int × ByteArray) × Unit) × Unit) =>
        bif decide (0 ≤ v18) && decide (v18 < (v17.length : Int)) then
         bif decide (0 ≤ v18) && decide (v18 < (v17.length : Int)) then
          bif Nat.ble (v33.length + 1) 1073741824 then
           L2 v17 v18 (IntKind.wrap .i64 (v19 + 1)) v20 v21 v22 v23 v24 v25 v26 v27 v28 v29 v30 v31 v32 (v33 ++ [(r35.1.1.1, r35.1.1.2.1, r35.1.1.2.2.1, r35.1.1.2.2.2.1, r35.1.1.2.2.2.2.1, r35.1.1.2.2.2.2.2.1, r35.1.1.2.2.2.2.2.2.1, ((List.getD v17 v18.toNat (0, 0, 0, (⟨#[]⟩ : ByteArray), 0)).2).1, (((List.getD v17 v18.toNat (0, 0, 0, (⟨#[]⟩ : ByteArray), 0)).2).2).1, r35.1.1.2.2.2.2.2.2.2.2.2)])
          else none
         else none
        else none
       else none
      else
      bif Nat.ble (v33.length + 1) 1073741824 then
       L2 v17 v18 (IntKind.wrap .i64 (v19 + 1)) v20 v21 v22 v23 v24 v25 v26 v27 v28 v29 v30 v31 v32 (v33 ++ [(r34.1.1.1, r34.1.1.2.1, r34.1.1.2.2.1, r34.1.1.2.2.2.1, r34.1.1.2.2.2.2.1, r34.1.1.2.2.2.2.2.1, r34.1.1.2.2.2.2.2.2.1, ((List.getD v17 v18.toNat (0, 0, 0, (⟨#[]⟩ : ByteArray), 0)).2).1, r34.1.1.2.2.2.2.2.2.2.2.1, ((((List.getD v17 v18.toNat (0, 0, 0, (⟨#[]⟩ : ByteArray), 0)).2).2).2).1)])
      else none
     else none
    else none
   else none
  else none
 else
  L1 v17 (IntKind.wrap .i64 (v18 + 1)) v20 v21 v22 v23 v24 v25 v26 v27 v28 v29 v30 v31 v32 v33
noncomputable def pleachref19_down_T (L1 : (List (Int × Int × Int × ByteArray × Int)) → Int → Int → Int → Int → Int → Int → Int → List Int → Int → Int → Int → Int → Int → (List (Int × Int × Int)) → (List (Int × Int × Int × Int × Int × Int × (List Int) × Int × Int × ByteArray)) → Option (((List (Int × Int × Int × Int × Int × Int × (List Int) × Int × Int × ByteArray)) × Unit) × Unit)) (t_0 : Int × Int × Int × Int × Int × Int × (List Int) × Int × Int × Int × Int × Int × List (Int × Int × Int)) (l_1 : List (Int × Int × Int × ByteArray × Int)) : Option (((List (Int × Int × Int × Int × Int × Int × (List Int) × Int × Int × ByteArray)) × Unit) × Unit) :=
 L1 l_1 0 t_0.1 t_0.2.1 t_0.2.2.1 t_0.2.2.2.1 t_0.2.2.2.2.1 t_0.2.2.2.2.2.1 t_0.2.2.2.2.2.2.1 t_0.2.2.2.2.2.2.2.1 t_0.2.2.2.2.2.2.2.2.1 t_0.2.2.2.2.2.2.2.2.2.1 t_0.2.2.2.2.2.2.2.2.2.2.1 t_0.2.2.2.2.2.2.2.2.2.2.2.1 t_0.2.2.2.2.2.2.2.2.2.2.2.2 []
noncomputable def pleachref19_down_L2 (n : Nat) (m1 : Nat) (r1 : (List (Int × Int × Int × ByteArray × Int)) → Int → Int → Int → Int → Int → Int → Int → List Int → Int → Int → Int → Int → Int → (List (Int × Int × Int)) → (List (Int × Int × Int × Int × Int × Int × (List Int) × Int × Int × ByteArray)) → Option (((List (Int × Int × Int × Int × Int × Int × (List Int) × Int × Int × ByteArray)) × Unit) × Unit)) : Nat → (List (Int × Int × Int × ByteArray × Int)) → Int → Int → Int → Int → Int → Int → Int → Int → List Int → Int → Int → Int → Int → Int → (List (Int × Int × Int)) → (List (Int × Int × Int × Int × Int × Int × (List Int) × Int × Int × ByteArray)) → Option (((List (Int × Int × Int × Int × Int × Int × (List Int) × Int × Int × ByteArray)) × Unit) × Unit) := iter (fun _ _ _ _ _ _ _ _ _ _ _ _ _ _ _ _ _ => none) fun L => pleachref19_down_B2 L r1
noncomputable def pleachref19_down_L1 (n : Nat) : Nat → (List (Int × Int × Int × ByteArray × Int)) → Int → Int → Int → Int → Int → Int → Int → List Int → Int → Int → Int → Int → Int → (List (Int × Int × Int)) → (List (Int × Int × Int × Int × Int × Int × (List Int) × Int × Int × ByteArray)) → Option (((List (Int × Int × Int × Int × Int × Int × (List Int) × Int × Int × ByteArray)) × Unit) × Unit) := iterN (fun _ _ _ _ _ _ _ _ _ _ _ _ _ _ _ _ => none) fun m L => pleachref19_down_B1 (pleachref19_down_L2 n m L n)
noncomputable def pleachref19_down_X1 (n m : Nat) (v1 : List (Int × Int × Int × ByteArray × Int)) (v2 : Int) (v3 : Int) (v4 : Int) (v5 : Int) (v6 : Int) (v7 : Int) (v8 : Int) (v9 : List Int) (v10 : Int) (v11 : Int) (v12 : Int) (v13 : Int) (v14 : Int) (v15 : List (Int × Int × Int)) (v16 : List (Int × Int × Int × Int × Int × Int × (List Int) × Int × Int × ByteArray)) : Option (((List (Int × Int × Int × Int × Int × Int × (List Int) × Int × Int × ByteArray)) × Unit) × Unit) :=
 atLoop pleachref19_down_Γ tab (fiB [.val t39, .val t42] pleachref19_down_fi) n [.val t39, .val t42] [⟨t89, [true], none⟩] Tryz.f71 [1, 1, 0, 1, 0] [] [1, 2, 5, 6] m
 ⟨[(1, SV.cv (CV.one (LV.pure t42 v1))), (2, SV.cv (CV.one (LV.ptr (2, 0) 0))), (5, SV.cv (CV.one (LV.ref (888888, 5)))), (6, SV.cv (CV.one (LV.pure t2 v2)))],
  [((2, 0), Ob.box 40 [LV.pure t2 v3, LV.pure t2 v4, LV.pure t2 v5, LV.pure t2 v6, LV.pure t2 v7, LV.pure t2 v8, LV.pure t37 v9, LV.pure t2 v10, LV.pure t2 v11, LV.pure t2 v12, LV.pure t2 v13, LV.pure t2 v14, LV.pure t38 v15]), ((888888, 5), Ob.row 131 t130 v16)]⟩
noncomputable def pleachref19_down_X2 (n m1 m : Nat) (v17 : List (Int × Int × Int × ByteArray × Int)) (v18 : Int) (v19 : Int) (v20 : Int) (v21 : Int) (v22 : Int) (v23 : Int) (v24 : Int) (v25 : Int) (v26 : List Int) (v27 : Int) (v28 : Int) (v29 : Int) (v30 : Int) (v31 : Int) (v32 : List (Int × Int × Int)) (v33 : List (Int × Int × Int × Int × Int × Int × (List Int) × Int × Int × ByteArray)) : Option (((List (Int × Int × Int × Int × Int × Int × (List Int) × Int × Int × ByteArray)) × Unit) × Unit) :=
 atLoop pleachref19_down_Γ tab (fiB [.val t39, .val t42] pleachref19_down_fi) n [.val t39, .val t42] [⟨t89, [true], none⟩] Tryz.f71 [1, 1, 0, 1, 0, 0, 1, 0, 0, 1, 0] [(m1, [1, 2, 5, 6])] [1, 2, 5, 6, 7] m
 ⟨[(1, SV.cv (CV.one (LV.pure t42 v17))), (2, SV.cv (CV.one (LV.ptr (2, 0) 0))), (5, SV.cv (CV.one (LV.ref (888888, 5)))), (6, SV.cv (CV.one (LV.pure t2 v18))), (7, SV.cv (CV.one (LV.pure t2 v19)))],
  [((2, 0), Ob.box 40 [LV.pure t2 v20, LV.pure t2 v21, LV.pure t2 v22, LV.pure t2 v23, LV.pure t2 v24, LV.pure t2 v25, LV.pure t37 v26, LV.pure t2 v27, LV.pure t2 v28, LV.pure t2 v29, LV.pure t2 v30, LV.pure t2 v31, LV.pure t38 v32]), ((888888, 5), Ob.row 131 t130 v33)]⟩
theorem pleachref19_down_step1 (n m : Nat) (v1 : List (Int × Int × Int × ByteArray × Int)) (v2 : Int) (v3 : Int) (v4 : Int) (v5 : Int) (v6 : Int) (v7 : Int) (v8 : Int) (v9 : List Int) (v10 : Int) (v11 : Int) (v12 : Int) (v13 : Int) (v14 : Int) (v15 : List (Int × Int × Int)) (v16 : List (Int × Int × Int × Int × Int × Int × (List Int) × Int × Int × ByteArray)) : pleachref19_down_X1 n (m + 1) v1 v2 v3 v4 v5 v6 v7 v8 v9 v10 v11 v12 v13 v14 v15 v16 = pleachref19_down_B1 (pleachref19_down_X2 n m n) v1 v2 v3 v4 v5 v6 v7 v8 v9 v10 v11 v12 v13 v14 v15 v16 := by kernel_rfl
theorem pleachref19_down_step2 (n m1 m : Nat) (v17 : List (Int × Int × Int × ByteArray × Int)) (v18 : Int) (v19 : Int) (v20 : Int) (v21 : Int) (v22 : Int) (v23 : Int) (v24 : Int) (v25 : Int) (v26 : List Int) (v27 : Int) (v28 : Int) (v29 : Int) (v30 : Int) (v31 : Int) (v32 : List (Int × Int × Int)) (v33 : List (Int × Int × Int × Int × Int × Int × (List Int) × Int × Int × ByteArray)) : pleachref19_down_X2 n m1 (m + 1) v17 v18 v19 v20 v21 v22 v23 v24 v25 v26 v27 v28 v29 v30 v31 v32 v33 = pleachref19_down_B2 (pleachref19_down_X2 n m1 m) (pleachref19_down_X1 n m1) v17 v18 v19 v20 v21 v22 v23 v24 v25 v26 v27 v28 v29 v30 v31 v32 v33 := by kernel_rfl
theorem pleachref19_down_start (n : Nat) (t_0 : Int × Int × Int × Int × Int × Int × (List Int) × Int × Int × Int × Int × Int × List (Int × Int × Int)) (l_1 : List (Int × Int × Int × ByteArray × Int)) : evFn pleachref19_down_Γ tab pleachref19_down_fi n [.val t39, .val t42] [⟨t89, [true], none⟩] Tryz.f71 (t_0, l_1, ()) = pleachref19_down_T (pleachref19_down_X1 n n) t_0 l_1 := by kernel_rfl
theorem pleachref19_down_XL2 (n : Nat) (m1 : Nat) (r1 : (List (Int × Int × Int × ByteArray × Int)) → Int → Int → Int → Int → Int → Int → Int → List Int → Int → Int → Int → Int → Int → (List (Int × Int × Int)) → (List (Int × Int × Int × Int × Int × Int × (List Int) × Int × Int × ByteArray)) → Option (((List (Int × Int × Int × Int × Int × Int × (List Int) × Int × Int × ByteArray)) × Unit) × Unit)) (h1 : pleachref19_down_X1 n m1 = r1) : ∀ m, pleachref19_down_X2 n m1 m = pleachref19_down_L2 n m1 r1 m
 | 0 => rfl
 | m + 1 => by
  have ih := pleachref19_down_XL2 n m1 r1 h1 m
  funext v17 v18 v19 v20 v21 v22 v23 v24 v25 v26 v27 v28 v29 v30 v31 v32 v33
  rw [pleachref19_down_step2, ih, h1]
  rfl
theorem pleachref19_down_XL1 (n : Nat) : ∀ m, pleachref19_down_X1 n m = pleachref19_down_L1 n m
 | 0 => rfl
 | m + 1 => by
  have ih := pleachref19_down_XL1 n m
  funext v1 v2 v3 v4 v5 v6 v7 v8 v9 v10 v11 v12 v13 v14 v15 v16
  rw [pleachref19_down_step1, pleachref19_down_XL2 n m _ ih n]
  rfl
noncomputable def pleachref19_down_n (n : Nat) (t_0 : Int × Int × Int × Int × Int × Int × (List Int) × Int × Int × Int × Int × Int × List (Int × Int × Int)) (l_1 : List (Int × Int × Int × ByteArray × Int)) : Option (((List (Int × Int × Int × Int × Int × Int × (List Int) × Int × Int × ByteArray)) × Unit) × Unit) := pleachref19_down_T (pleachref19_down_L1 n n) t_0 l_1
noncomputable def pleachref19_down (t_0 : Int × Int × Int × Int × Int × Int × (List Int) × Int × Int × Int × Int × Int × List (Int × Int × Int)) (l_1 : List (Int × Int × Int × ByteArray × Int)) : Option (((List (Int × Int × Int × Int × Int × Int × (List Int) × Int × Int × ByteArray)) × Unit) × Unit) := pleachref19_down_n 1099511627776 t_0 l_1
theorem pleachref19_down_eq (n : Nat) (t_0 : Int × Int × Int × Int × Int × Int × (List Int) × Int × Int × Int × Int × Int × List (Int × Int × Int)) (l_1 : List (Int × Int × Int × ByteArray × Int)) : evFn pleachref19_down_Γ tab pleachref19_down_fi n [.val t39, .val t42] [⟨t89, [true], none⟩] Tryz.f71 (t_0, l_1, ()) = pleachref19_down_n n t_0 l_1 := by
  rw [pleachref19_down_start, pleachref19_down_XL1 n n]
  rfl
noncomputable def pleachref19_down_e : Ent := ⟨[.val t39, .val t42], [⟨t89, [true], none⟩], fun x => pleachref19_down x.1 x.2.1⟩
theorem pleachref19_down_good : Good tab.ty Tryz.prog 71 pleachref19_down_e := by
  refine fn_good (Γ := pleachref19_down_Γ) (fi := pleachref19_down_fi) (n := 1099511627776) follows (gcons pleachref19_says_good gnil) tabok Tryz.func71 (by kernel_rfl) (by kernel_rfl) (fun x r h => ?_)
  obtain ⟨t_0, l_1, _u⟩ := x
  exact (pleachref19_down_eq 1099511627776 t_0 l_1).trans h
noncomputable def pleachref19_TickNode_Γ : Ctx := [(71, pleachref19_down_e), (87, pleachref19_Tick_e), (88, pleachref13_Tick_e), (89, pleachref19_says_e)]
def pleachref19_TickNode_fi : Fi := { keep := [], vty := [(6, 89)], vals := [], live := [(0, [1, 2]), (1, [1, 2, 16]), (2, [2, 3]), (3, [1, 2, 4, 5]), (4, [1, 2, 4, 5, 6]), (5, [1, 2, 4, 5, 6, 7]), (6, [1, 2, 4, 5, 6, 7, 27]), (7, [1, 2, 4, 5, 6, 7]), (8, [1, 2, 4, 5, 6, 7, 8]), (9, [1, 2, 4, 5, 6, 7, 8, 36]), (10, [1, 2, 4, 5, 6, 7, 8]), (11, [1, 2, 4, 5, 6, 7]), (12, [1, 2, 4, 6]), (13, [1, 2, 4, 6, 51]), (14, [2, 3]), (15, [1, 2, 4, 6, 9, 10, 11]), (16, [1, 2, 4, 6, 9, 10, 63]), (17, [1, 2, 4, 6, 9, 10, 12]), (18, [1, 2, 4, 6, 9, 12]), (19, [1, 2, 4, 6, 9]), (20, [1, 2, 4, 6, 9, 13]), (21, [1, 2, 4, 6, 9, 13]), (22, [2, 3])] }
noncomputable def pleachref19_TickNode_B1 (L1 : Int → Bool → Int → ByteArray → Int → Int → Int → Int → Int → Int → List Int → Int → Int → Int → Int → Int → (List (Int × Int × Int)) → Int → Int → (List (Int × ByteArray)) → (List (Int × ByteArray)) → (List (Int × Int × Int × ByteArray × Int)) → Int → Int → Int → Int → ByteArray → Int → Int → Int → Int → Int → Int → Int → Int → Int → Int → Int → Int → Int → Int → Int → Int → List Int → (List (Int × Int × Int)) → (List (Int × ByteArray)) → (List (Int × ByteArray)) → (List (Int × Int × Int × ByteArray × Int)) → Int → Int → Int → Int → Int → Int → List Int → Int → Int → Int → Int → Int → (List (Int × Int × Int)) → (List (Int × Int × Int × Int × Int × Int × (List Int) × Int × Int × ByteArray)) → (List (Int × Int × Int × Int × Int × Int × (List Int) × Int × Int × ByteArray)) → Option (((Bool × Int × ByteArray × (Int × Int × Int × Int × Int × Int × (List Int) × Int × Int × Int × Int × Int × List (Int × Int × Int)) × (Int × Int × (List (Int × ByteArray)) × (List (Int × ByteArray)) × (List (Int × Int × Int × ByteArray × Int)) × Int × Int) × Int) × (List (Int × Int × Int × Int × Int × Int × (List Int) × Int × Int × ByteArray)) × Unit) × Unit)) (v2 : Int) (v3 : Bool) (v4 : Int) (v5 : ByteArray) (v6 : Int) (v7 : Int) (v8 : Int) (v9 : Int) (v10 : Int) (v11 : Int) (v12 : List Int) (v13 : Int) (v14 : Int) (v15 : Int) (v16 : Int) (v17 : Int) (v18 : List (Int × Int × Int)) (v19 : Int) (v20 : Int) (v21 : List (Int × ByteArray)) (v22 : List (Int × ByteArray)) (v23 : List (Int × Int × Int × ByteArray × Int)) (v24 : Int) (v25 : Int) (v26 : Int) (v27 : Int) (v28 : ByteArray) (v29 : Int) (v30 : Int) (v31 : Int) (v32 : Int) (v33 : Int) (v34 : Int) (v35 : Int) (v36 : Int) (v37 : Int) (v38 : Int) (v39 : Int) (v40 : Int) (v41 : Int) (v42 : Int) (v43 : Int) (v44 : Int) (v45 : List Int) (v46 : List (Int × Int × Int)) (v47 : List (Int × ByteArray)) (v48 : List (Int × ByteArray)) (v49 : List (Int × Int × Int × ByteArray × Int)) (v50 : Int) (v51 : Int) (v52 : Int) (v53 : Int) (v54 : Int) (v55 : Int) (v56 : List Int) (v57 : Int) (v58 : Int) (v59 : Int) (v60 : Int) (v61 : Int) (v62 : List (Int × Int × Int)) (v63 : List (Int × Int × Int × Int × Int × Int × (List Int) × Int × Int × ByteArray)) (v64 : List (Int × Int × Int × Int × Int × Int × (List Int) × Int × Int × ByteArray)) : Option (((Bool × Int × ByteArray × (Int × Int × Int × Int × Int × Int × (List Int) × Int × Int × Int × Int × Int × List (Int × Int × Int)) × (Int × Int × (List (Int × ByteArray)) × (List (Int × ByteArray)) × (List (Int × Int × Int × ByteArray × Int)) × Int × Int) × Int) × (List (Int × Int × Int × Int × Int × Int × (List Int) × Int × Int × ByteArray)) × Unit) × Unit) :=
 bif decide (v2 < (v63.length : Int)) then
  bif decide (0 ≤ v2) && decide (v2 < (v63.length : Int)) then
   bif decide (0 ≤ v2) && decide (v2 < (v63.length : Int)) then
    bif ((List.getD v63 v2.toNat (0, 0, 0, 0, 0, 0, [], 0, 0, (⟨#[]⟩ : ByteArray))).1) == 5 then
     bif Nat.ble (v64.length + 1) 1073741824 then
      L1 (IntKind.wrap .i64 (v2 + 1)) v3 v4 v5 v6 v7 v8 v9 v10 v11 v12 v13 v14 v15 v16 v17 v18 v19 v20 v21 v22 v23 v24 v25 v26 v27 v28 v29 v30 v31 v32 v33 v34 v35 v36 v37 v38 v39 v40 v41 v42 v43 v44 v45 v46 v47 v48 v49 v50 v51 v52 v53 v54 v55 v56 v57 v58 v59 v60 v61 v62 v63 (v64 ++ [((List.getD v63 v2.toNat (0, 0, 0, 0, 0, 0, [], 0, 0, (⟨#[]⟩ : ByteArray))).1, ((List.getD v63 v2.toNat (0, 0, 0, 0, 0, 0, [], 0, 0, (⟨#[]⟩ : ByteArray))).2).1, (((List.getD v63 v2.toNat (0, 0, 0, 0, 0, 0, [], 0, 0, (⟨#[]⟩ : ByteArray))).2).2).1, ((((List.getD v63 v2.toNat (0, 0, 0, 0, 0, 0, [], 0, 0, (⟨#[]⟩ : ByteArray))).2).2).2).1, (((((List.getD v63 v2.toNat (0, 0, 0, 0, 0, 0, [], 0, 0, (⟨#[]⟩ : ByteArray))).2).2).2).2).1, ((((((List.getD v63 v2.toNat (0, 0, 0, 0, 0, 0, [], 0, 0, (⟨#[]⟩ : ByteArray))).2).2).2).2).2).1, (((((((List.getD v63 v2.toNat (0, 0, 0, 0, 0, 0, [], 0, 0, (⟨#[]⟩ : ByteArray))).2).2).2).2).2).2).1, ((((((((List.getD v63 v2.toNat (0, 0, 0, 0, 0, 0, [], 0, 0, (⟨#[]⟩ : ByteArray))).2).2).2).2).2).2).2).1, if 0 > IntKind.wrap .i64 (v19 - 1) then 0 else IntKind.wrap .i64 (v19 - 1), (((((((((List.getD v63 v2.toNat (0, 0, 0, 0, 0, 0, [], 0, 0, (⟨#[]⟩ : ByteArray))).2).2).2).2).2).2).2).2).2)])
     else none
    else
    bif Nat.ble (v64.length + 1) 1073741824 then
     L1 (IntKind.wrap .i64 (v2 + 1)) v3 v4 v5 v6 v7 v8 v9 v10 v11 v12 v13 v14 v15 v16 v17 v18 v19 v20 v21 v22 v23 v24 v25 v26 v27 v28 v29 v30 v31 v32 v33 v34 v35 v36 v37 v38 v39 v40 v41 v42 v43 v44 v45 v46 v47 v48 v49 v50 v51 v52 v53 v54 v55 v56 v57 v58 v59 v60 v61 v62 v63 (v64 ++ [((List.getD v63 v2.toNat (0, 0, 0, 0, 0, 0, [], 0, 0, (⟨#[]⟩ : ByteArray))).1, ((List.getD v63 v2.toNat (0, 0, 0, 0, 0, 0, [], 0, 0, (⟨#[]⟩ : ByteArray))).2).1, (((List.getD v63 v2.toNat (0, 0, 0, 0, 0, 0, [], 0, 0, (⟨#[]⟩ : ByteArray))).2).2).1, ((((List.getD v63 v2.toNat (0, 0, 0, 0, 0, 0, [], 0, 0, (⟨#[]⟩ : ByteArray))).2).2).2).1, (((((List.getD v63 v2.toNat (0, 0, 0, 0, 0, 0, [], 0, 0, (⟨#[]⟩ : ByteArray))).2).2).2).2).1, ((((((List.getD v63 v2.toNat (0, 0, 0, 0, 0, 0, [], 0, 0, (⟨#[]⟩ : ByteArray))).2).2).2).2).2).1, (((((((List.getD v63 v2.toNat (0, 0, 0, 0, 0, 0, [], 0, 0, (⟨#[]⟩ : ByteArray))).2).2).2).2).2).2).1, ((((((((List.getD v63 v2.toNat (0, 0, 0, 0, 0, 0, [], 0, 0, (⟨#[]⟩ : ByteArray))).2).2).2).2).2).2).2).1, (((((((((List.getD v63 v2.toNat (0, 0, 0, 0, 0, 0, [], 0, 0, (⟨#[]⟩ : ByteArray))).2).2).2).2).2).2).2).2))])
    else none
   else none
  else none
 else
 bif v53 == 0 then
  some (((v3, v4, v5, (v50, v51, v52, v53, v54, v55, v56, v57, v58, v59, v60, v61, v62), (v19, v20, v21, v22, v23, v24, v25), v26), v64, ()), ())
 else
  Option.bind (pleachref13_Tick (v19, v20, v21, v22, v23, v24, v25) v52) fun (r65 : ((Int × Int × (List (Int × ByteArray)) × (List (Int × ByteArray)) × (List (Int × Int × Int × ByteArray × Int)) × Int × Int) × (Int × Int) × Bool × Unit) × Unit) =>
  bif r65.1.2.2.1 then
   Option.bind (pleachref19_says (v50, v51, v52, v53, v54, v55, v56, v57, v58, v59, v60, v61, v62) 8 v53) fun (r66 : ((Int × Int × Int × Int × Int × Int × (List Int) × Int × Int × ByteArray) × Unit) × Unit) =>
   bif Nat.ble (v64.length + 1) 1073741824 then
    bif (decide (0 ≤ (v23.length : Int)) && decide ((v23.length : Int) ≤ (r65.1.1.2.2.2.2.1.length : Int))) && decide ((r65.1.1.2.2.2.2.1.length : Int) ≤ (r65.1.1.2.2.2.2.1.length : Int)) then
     Option.bind (pleachref19_down (v50, v51, v52, v53, v54, v55, v56, v57, v58, v59, v60, v61, v62) (List.drop ((v23.length : Int).toNat) (List.take ((r65.1.1.2.2.2.2.1.length : Int).toNat) r65.1.1.2.2.2.2.1))) fun (r67 : ((List (Int × Int × Int × Int × Int × Int × (List Int) × Int × Int × ByteArray)) × Unit) × Unit) =>
     bif Nat.ble ((v64 ++ [(r66.1.1.1, r66.1.1.2.1, r66.1.1.2.2.1, r66.1.1.2.2.2.1, r66.1.1.2.2.2.2.1, r66.1.1.2.2.2.2.2.1, r66.1.1.2.2.2.2.2.2.1, r65.1.2.1.1, r65.1.2.1.2, r66.1.1.2.2.2.2.2.2.2.2.2)]).length + r67.1.1.length) 1073741824 then
      some (((v3, v4, v5, (v50, v51, v52, v53, v54, v55, v56, v57, v58, v59, v60, v61, v62), r65.1.1, v26), (v64 ++ [(r66.1.1.1, r66.1.1.2.1, r66.1.1.2.2.1, r66.1.1.2.2.2.1, r66.1.1.2.2.2.2.1, r66.1.1.2.2.2.2.2.1, r66.1.1.2.2.2.2.2.2.1, r65.1.2.1.1, r65.1.2.1.2, r66.1.1.2.2.2.2.2.2.2.2.2)]) ++ r67.1.1, ()), ())
     else none
    else none
   else none
  else
  bif (decide (0 ≤ (v23.length : Int)) && decide ((v23.length : Int) ≤ (r65.1.1.2.2.2.2.1.length : Int))) && decide ((r65.1.1.2.2.2.2.1.length : Int) ≤ (r65.1.1.2.2.2.2.1.length : Int)) then
   Option.bind (pleachref19_down (v50, v51, v52, v53, v54, v55, v56, v57, v58, v59, v60, v61, v62) (List.drop ((v23.length : Int).toNat) (List.take ((r65.1.1.2.2.2.2.1.length : Int).toNat) r65.1.1.2.2.2.2.1))) fun (r68 : ((List (Int × Int × Int × Int × Int × Int × (List Int) × Int × Int × ByteArray)) × Unit) × Unit) =>
   bif Nat.ble (v64.length + r68.1.1.length) 1073741824 then
    some (((v3, v4, v5, (v50, v51, v52, v53, v54, v55, v56, v57, v58, v59, v60, v61, v62), r65.1.1, v26), v64 ++ r68.1.1, ()), ())
   else none
  else none
noncomputable def pleachref19_TickNode_T (L1 : Int → Bool → Int → ByteArray → Int → Int → Int → Int → Int → Int → List Int → Int → Int → Int → Int → Int → (List (Int × Int × Int)) → Int → Int → (List (Int × ByteArray)) → (List (Int × ByteArray)) → (List (Int × Int × Int × ByteArray × Int)) → Int → Int → Int → Int → ByteArray → Int → Int → Int → Int → Int → Int → Int → Int → Int → Int → Int → Int → Int → Int → Int → Int → List Int → (List (Int × Int × Int)) → (List (Int × ByteArray)) → (List (Int × ByteArray)) → (List (Int × Int × Int × ByteArray × Int)) → Int → Int → Int → Int → Int → Int → List Int → Int → Int → Int → Int → Int → (List (Int × Int × Int)) → (List (Int × Int × Int × Int × Int × Int × (List Int) × Int × Int × ByteArray)) → (List (Int × Int × Int × Int × Int × Int × (List Int) × Int × Int × ByteArray)) → Option (((Bool × Int × ByteArray × (Int × Int × Int × Int × Int × Int × (List Int) × Int × Int × Int × Int × Int × List (Int × Int × Int)) × (Int × Int × (List (Int × ByteArray)) × (List (Int × ByteArray)) × (List (Int × Int × Int × ByteArray × Int)) × Int × Int) × Int) × (List (Int × Int × Int × Int × Int × Int × (List Int) × Int × Int × ByteArray)) × Unit) × Unit)) (n_0 : Bool × Int × ByteArray × (Int × Int × Int × Int × Int × Int × (List Int) × Int × Int × Int × Int × Int × List (Int × Int × Int)) × (Int × Int × (List (Int × ByteArray)) × (List (Int × ByteArray)) × (List (Int × Int × Int × ByteArray × Int)) × Int × Int) × Int) : Option (((Bool × Int × ByteArray × (Int × Int × Int × Int × Int × Int × (List Int) × Int × Int × Int × Int × Int × List (Int × Int × Int)) × (Int × Int × (List (Int × ByteArray)) × (List (Int × ByteArray)) × (List (Int × Int × Int × ByteArray × Int)) × Int × Int) × Int) × (List (Int × Int × Int × Int × Int × Int × (List Int) × Int × Int × ByteArray)) × Unit) × Unit) :=
 bif !n_0.1 then
  some ((n_0, [], ()), ())
 else
  Option.bind (pleachref19_Tick n_0.2.2.2.1) fun (r1 : ((Int × Int × Int × Int × Int × Int × (List Int) × Int × Int × Int × Int × Int × List (Int × Int × Int)) × (List (Int × Int × Int × Int × Int × Int × (List Int) × Int × Int × ByteArray)) × Unit) × Unit) =>
  L1 0 n_0.1 n_0.2.1 n_0.2.2.1 n_0.2.2.2.1.1 n_0.2.2.2.1.2.1 n_0.2.2.2.1.2.2.1 n_0.2.2.2.1.2.2.2.1 n_0.2.2.2.1.2.2.2.2.1 n_0.2.2.2.1.2.2.2.2.2.1 n_0.2.2.2.1.2.2.2.2.2.2.1 n_0.2.2.2.1.2.2.2.2.2.2.2.1 n_0.2.2.2.1.2.2.2.2.2.2.2.2.1 n_0.2.2.2.1.2.2.2.2.2.2.2.2.2.1 n_0.2.2.2.1.2.2.2.2.2.2.2.2.2.2.1 n_0.2.2.2.1.2.2.2.2.2.2.2.2.2.2.2.1 n_0.2.2.2.1.2.2.2.2.2.2.2.2.2.2.2.2 n_0.2.2.2.2.1.1 n_0.2.2.2.2.1.2.1 n_0.2.2.2.2.1.2.2.1 n_0.2.2.2.2.1.2.2.2.1 n_0.2.2.2.2.1.2.2.2.2.1 n_0.2.2.2.2.1.2.2.2.2.2.1 n_0.2.2.2.2.1.2.2.2.2.2.2 n_0.2.2.2.2.2 0 (⟨#[]⟩ : ByteArray) 0 0 0 0 0 0 0 0 0 0 0 0 0 0 0 0 [] [] [] [] [] r1.1.1.1 r1.1.1.2.1 r1.1.1.2.2.1 r1.1.1.2.2.2.1 r1.1.1.2.2.2.2.1 r1.1.1.2.2.2.2.2.1 r1.1.1.2.2.2.2.2.2.1 r1.1.1.2.2.2.2.2.2.2.1 r1.1.1.2.2.2.2.2.2.2.2.1 r1.1.1.2.2.2.2.2.2.2.2.2.1 r1.1.1.2.2.2.2.2.2.2.2.2.2.1 r1.1.1.2.2.2.2.2.2.2.2.2.2.2.1 r1.1.1.2.2.2.2.2.2.2.2.2.2.2.2 r1.1.2.1 []
noncomputable def pleachref19_TickNode_L1 (n : Nat) : Nat → Int → Bool → Int → ByteArray → Int → Int → Int → Int → Int → Int → List Int → Int → Int → Int → Int → Int → (List (Int × Int × Int)) → Int → Int → (List (Int × ByteArray)) → (List (Int × ByteArray)) → (List (Int × Int × Int × ByteArray × Int)) → Int → Int → Int → Int → ByteArray → Int → Int → Int → Int → Int → Int → Int → Int → Int → Int → Int → Int → Int → Int → Int → Int → List Int → (List (Int × Int × Int)) → (List (Int × ByteArray)) → (List (Int × ByteArray)) → (List (Int × Int × Int × ByteArray × Int)) → Int → Int → Int → Int → Int → Int → List Int → Int → Int → Int → Int → Int → (List (Int × Int × Int)) → (List (Int × Int × Int × Int × Int × Int × (List Int) × Int × Int × ByteArray)) → (List (Int × Int × Int × Int × Int × Int × (List Int) × Int × Int × ByteArray)) → Option (((Bool × Int × ByteArray × (Int × Int × Int × Int × Int × Int × (List Int) × Int × Int × Int × Int × Int × List (Int × Int × Int)) × (Int × Int × (List (Int × ByteArray)) × (List (Int × ByteArray)) × (List (Int × Int × Int × ByteArray × Int)) × Int × Int) × Int) × (List (Int × Int × Int × Int × Int × Int × (List Int) × Int × Int × ByteArray)) × Unit) × Unit) := iter (fun _ _ _ _ _ _ _ _ _ _ _ _ _ _ _ _ _ _ _ _ _ _ _ _ _ _ _ _ _ _ _ _ _ _ _ _ _ _ _ _ _ _ _ _ _ _ _ _ _ _ _ _ _ _ _ _ _ _ _ _ _ _ _ => none) fun L => pleachref19_TickNode_B1 L
noncomputable def pleachref19_TickNode_X1 (n m : Nat) (v2 : Int) (v3 : Bool) (v4 : Int) (v5 : ByteArray) (v6 : Int) (v7 : Int) (v8 : Int) (v9 : Int) (v10 : Int) (v11 : Int) (v12 : List Int) (v13 : Int) (v14 : Int) (v15 : Int) (v16 : Int) (v17 : Int) (v18 : List (Int × Int × Int)) (v19 : Int) (v20 : Int) (v21 : List (Int × ByteArray)) (v22 : List (Int × ByteArray)) (v23 : List (Int × Int × Int × ByteArray × Int)) (v24 : Int) (v25 : Int) (v26 : Int) (v27 : Int) (v28 : ByteArray) (v29 : Int) (v30 : Int) (v31 : Int) (v32 : Int) (v33 : Int) (v34 : Int) (v35 : Int) (v36 : Int) (v37 : Int) (v38 : Int) (v39 : Int) (v40 : Int) (v41 : Int) (v42 : Int) (v43 : Int) (v44 : Int) (v45 : List Int) (v46 : List (Int × Int × Int)) (v47 : List (Int × ByteArray)) (v48 : List (Int × ByteArray)) (v49 : List (Int × Int × Int × ByteArray × Int)) (v50 : Int) (v51 : Int) (v52 : Int) (v53 : Int) (v54 : Int) (v55 : Int) (v56 : List Int) (v57 : Int) (v58 : Int) (v59 : Int) (v60 : Int) (v61 : Int) (v62 : List (Int × Int × Int)) (v63 : List (Int × Int × Int × Int × Int × Int × (List Int) × Int × Int × ByteArray)) (v64 : List (Int × Int × Int × Int × Int × Int × (List Int) × Int × Int × ByteArray)) : Option (((Bool × Int × ByteArray × (Int × Int × Int × Int × Int × Int × (List Int) × Int × Int × Int × Int × Int × List (Int × Int × Int)) × (Int × Int × (List (Int × ByteArray)) × (List (Int × ByteArray)) × (List (Int × Int × Int × ByteArray × Int)) × Int × Int) × Int) × (List (Int × Int × Int × Int × Int × Int × (List Int) × Int × Int × ByteArray)) × Unit) × Unit) :=
 atLoop pleachref19_TickNode_Γ tab (fiB [.val t47] pleachref19_TickNode_fi) n [.val t47] [⟨t47, [false, false, false, false, false, false, false, false, false, false, false, false, false, false, false, false, false, false, false, false, false, false, false, false], none⟩, ⟨t89, [true], none⟩] Tryz.f66 [1, 1, 1, 1, 0, 1, 0] [] [1, 2, 4, 5, 6, 7] m
 ⟨[(1, SV.cv (CV.one (LV.ptr (1, 0) 0))), (2, SV.cv (CV.one (LV.ptr (2, 0) 0))), (4, SV.cv (CV.one (LV.ptr (4, 0) 0))), (5, SV.cv (CV.one (LV.ref (888888, 5)))), (6, SV.cv (CV.one (LV.ref (888888, 6)))), (7, SV.cv (CV.one (LV.pure t2 v2)))],
  [((1, 0), Ob.box 48 [LV.pure t4 v3, LV.pure t2 v4, LV.pure t9 v5, LV.pure t2 v6, LV.pure t2 v7, LV.pure t2 v8, LV.pure t2 v9, LV.pure t2 v10, LV.pure t2 v11, LV.pure t37 v12, LV.pure t2 v13, LV.pure t2 v14, LV.pure t2 v15, LV.pure t2 v16, LV.pure t2 v17, LV.pure t38 v18, LV.pure t2 v19, LV.pure t2 v20, LV.pure t41 v21, LV.pure t41 v22, LV.pure t42 v23, LV.pure t2 v24, LV.pure t2 v25, LV.pure t2 v26]), ((2, 0), Ob.box 48 [LV.lit false, LV.pure t2 v27, LV.pure t9 v28, LV.pure t2 v29, LV.pure t2 v30, LV.pure t2 v31, LV.pure t2 v32, LV.pure t2 v33, LV.pure t2 v34, LV.ref (2, 10), LV.pure t2 v35, LV.pure t2 v36, LV.pure t2 v37, LV.pure t2 v38, LV.pure t2 v39, LV.ref (2, 16), LV.pure t2 v40, LV.pure t2 v41, LV.ref (2, 19), LV.ref (2, 20), LV.ref (2, 21), LV.pure t2 v42, LV.pure t2 v43, LV.pure t2 v44]), ((2, 10), Ob.row 3 t2 v45), ((2, 16), Ob.row 155 t154 v46), ((2, 19), Ob.row 153 t152 v47), ((2, 20), Ob.row 153 t152 v48), ((2, 21), Ob.row 50 t49 v49), ((4, 0), Ob.box 40 [LV.pure t2 v50, LV.pure t2 v51, LV.pure t2 v52, LV.pure t2 v53, LV.pure t2 v54, LV.pure t2 v55, LV.pure t37 v56, LV.pure t2 v57, LV.pure t2 v58, LV.pure t2 v59, LV.pure t2 v60, LV.pure t2 v61, LV.pure t38 v62]), ((888888, 5), Ob.row 131 t130 v63), ((888888, 6), Ob.row 131 t130 v64)]⟩
theorem pleachref19_TickNode_step1 (n m : Nat) (v2 : Int) (v3 : Bool) (v4 : Int) (v5 : ByteArray) (v6 : Int) (v7 : Int) (v8 : Int) (v9 : Int) (v10 : Int) (v11 : Int) (v12 : List Int) (v13 : Int) (v14 : Int) (v15 : Int) (v16 : Int) (v17 : Int) (v18 : List (Int × Int × Int)) (v19 : Int) (v20 : Int) (v21 : List (Int × ByteArray)) (v22 : List (Int × ByteArray)) (v23 : List (Int × Int × Int × ByteArray × Int)) (v24 : Int) (v25 : Int) (v26 : Int) (v27 : Int) (v28 : ByteArray) (v29 : Int) (v30 : Int) (v31 : Int) (v32 : Int) (v33 : Int) (v34 : Int) (v35 : Int) (v36 : Int) (v37 : Int) (v38 : Int) (v39 : Int) (v40 : Int) (v41 : Int) (v42 : Int) (v43 : Int) (v44 : Int) (v45 : List Int) (v46 : List (Int × Int × Int)) (v47 : List (Int × ByteArray)) (v48 : List (Int × ByteArray)) (v49 : List (Int × Int × Int × ByteArray × Int)) (v50 : Int) (v51 : Int) (v52 : Int) (v53 : Int) (v54 : Int) (v55 : Int) (v56 : List Int) (v57 : Int) (v58 : Int) (v59 : Int) (v60 : Int) (v61 : Int) (v62 : List (Int × Int × Int)) (v63 : List (Int × Int × Int × Int × Int × Int × (List Int) × Int × Int × ByteArray)) (v64 : List (Int × Int × Int × Int × Int × Int × (List Int) × Int × Int × ByteArray)) : pleachref19_TickNode_X1 n (m + 1) v2 v3 v4 v5 v6 v7 v8 v9 v10 v11 v12 v13 v14 v15 v16 v17 v18 v19 v20 v21 v22 v23 v24 v25 v26 v27 v28 v29 v30 v31 v32 v33 v34 v35 v36 v37 v38 v39 v40 v41 v42 v43 v44 v45 v46 v47 v48 v49 v50 v51 v52 v53 v54 v55 v56 v57 v58 v59 v60 v61 v62 v63 v64 = pleachref19_TickNode_B1 (pleachref19_TickNode_X1 n m) v2 v3 v4 v5 v6 v7 v8 v9 v10 v11 v12 v13 v14 v15 v16 v17 v18 v19 v20 v21 v22 v23 v24 v25 v26 v27 v28 v29 v30 v31 v32 v33 v34 v35 v36 v37 v38 v39 v40 v41 v42 v43 v44 v45 v46 v47 v48 v49 v50 v51 v52 v53 v54 v55 v56 v57 v58 v59 v60 v61 v62 v63 v64 := by kernel_rfl
theorem pleachref19_TickNode_start (n : Nat) (n_0 : Bool × Int × ByteArray × (Int × Int × Int × Int × Int × Int × (List Int) × Int × Int × Int × Int × Int × List (Int × Int × Int)) × (Int × Int × (List (Int × ByteArray)) × (List (Int × ByteArray)) × (List (Int × Int × Int × ByteArray × Int)) × Int × Int) × Int) : evFn pleachref19_TickNode_Γ tab pleachref19_TickNode_fi n [.val t47] [⟨t47, [false, false, false, false, false, false, false, false, false, false, false, false, false, false, false, false, false, false, false, false, false, false, false, false], none⟩, ⟨t89, [true], none⟩] Tryz.f66 (n_0, ()) = pleachref19_TickNode_T (pleachref19_TickNode_X1 n n) n_0 := by kernel_rfl
theorem pleachref19_TickNode_XL1 (n : Nat) : ∀ m, pleachref19_TickNode_X1 n m = pleachref19_TickNode_L1 n m
 | 0 => rfl
 | m + 1 => by
  have ih := pleachref19_TickNode_XL1 n m
  funext v2 v3 v4 v5 v6 v7 v8 v9 v10 v11 v12 v13 v14 v15 v16 v17 v18 v19 v20 v21 v22 v23 v24 v25 v26 v27 v28 v29 v30 v31 v32 v33 v34 v35 v36 v37 v38 v39 v40 v41 v42 v43 v44 v45 v46 v47 v48 v49 v50 v51 v52 v53 v54 v55 v56 v57 v58 v59 v60 v61 v62 v63 v64
  rw [pleachref19_TickNode_step1, ih]
  rfl
noncomputable def pleachref19_TickNode_n (n : Nat) (n_0 : Bool × Int × ByteArray × (Int × Int × Int × Int × Int × Int × (List Int) × Int × Int × Int × Int × Int × List (Int × Int × Int)) × (Int × Int × (List (Int × ByteArray)) × (List (Int × ByteArray)) × (List (Int × Int × Int × ByteArray × Int)) × Int × Int) × Int) : Option (((Bool × Int × ByteArray × (Int × Int × Int × Int × Int × Int × (List Int) × Int × Int × Int × Int × Int × List (Int × Int × Int)) × (Int × Int × (List (Int × ByteArray)) × (List (Int × ByteArray)) × (List (Int × Int × Int × ByteArray × Int)) × Int × Int) × Int) × (List (Int × Int × Int × Int × Int × Int × (List Int) × Int × Int × ByteArray)) × Unit) × Unit) := pleachref19_TickNode_T (pleachref19_TickNode_L1 n n) n_0
noncomputable def pleachref19_TickNode (n_0 : Bool × Int × ByteArray × (Int × Int × Int × Int × Int × Int × (List Int) × Int × Int × Int × Int × Int × List (Int × Int × Int)) × (Int × Int × (List (Int × ByteArray)) × (List (Int × ByteArray)) × (List (Int × Int × Int × ByteArray × Int)) × Int × Int) × Int) : Option (((Bool × Int × ByteArray × (Int × Int × Int × Int × Int × Int × (List Int) × Int × Int × Int × Int × Int × List (Int × Int × Int)) × (Int × Int × (List (Int × ByteArray)) × (List (Int × ByteArray)) × (List (Int × Int × Int × ByteArray × Int)) × Int × Int) × Int) × (List (Int × Int × Int × Int × Int × Int × (List Int) × Int × Int × ByteArray)) × Unit) × Unit) := pleachref19_TickNode_n 1099511627776 n_0
theorem pleachref19_TickNode_eq (n : Nat) (n_0 : Bool × Int × ByteArray × (Int × Int × Int × Int × Int × Int × (List Int) × Int × Int × Int × Int × Int × List (Int × Int × Int)) × (Int × Int × (List (Int × ByteArray)) × (List (Int × ByteArray)) × (List (Int × Int × Int × ByteArray × Int)) × Int × Int) × Int) : evFn pleachref19_TickNode_Γ tab pleachref19_TickNode_fi n [.val t47] [⟨t47, [false, false, false, false, false, false, false, false, false, false, false, false, false, false, false, false, false, false, false, false, false, false, false, false], none⟩, ⟨t89, [true], none⟩] Tryz.f66 (n_0, ()) = pleachref19_TickNode_n n n_0 := by
  rw [pleachref19_TickNode_start, pleachref19_TickNode_XL1 n n]
  rfl
noncomputable def pleachref19_TickNode_e : Ent := ⟨[.val t47], [⟨t47, [false, false, false, false, false, false, false, false, false, false, false, false, false, false, false, false, false, false, false, false, false, false, false, false], none⟩, ⟨t89, [true], none⟩], fun x => pleachref19_TickNode x.1⟩
theorem pleachref19_TickNode_good : Good tab.ty Tryz.prog 66 pleachref19_TickNode_e := by
  refine fn_good (Γ := pleachref19_TickNode_Γ) (fi := pleachref19_TickNode_fi) (n := 1099511627776) follows (gcons pleachref19_down_good (gcons pleachref19_Tick_good (gcons pleachref13_Tick_good (gcons pleachref19_says_good gnil)))) tabok Tryz.func66 (by kernel_rfl) (by kernel_rfl) (fun x r h => ?_)
  obtain ⟨n_0, _u⟩ := x
  exact (pleachref19_TickNode_eq 1099511627776 n_0).trans h
noncomputable def pleachref19_Crash_Γ : Ctx := []
def pleachref19_Crash_fi : Fi := { keep := [], vty := [], vals := [], live := [(0, [1, 2]), (1, [1, 2, 5]), (2, [2]), (3, [2])] }
noncomputable def pleachref19_Crash (n_0 : Bool × Int × ByteArray × (Int × Int × Int × Int × Int × Int × (List Int) × Int × Int × Int × Int × Int × List (Int × Int × Int)) × (Int × Int × (List (Int × ByteArray)) × (List (Int × ByteArray)) × (List (Int × Int × Int × ByteArray × Int)) × Int × Int) × Int) : Option (((Bool × Int × ByteArray × (Int × Int × Int × Int × Int × Int × (List Int) × Int × Int × Int × Int × Int × List (Int × Int × Int)) × (Int × Int × (List (Int × ByteArray)) × (List (Int × ByteArray)) × (List (Int × Int × Int × ByteArray × Int)) × Int × Int) × Int) × Unit) × Unit) :=
 bif !n_0.1 then
  some ((n_0, ()), ())
 else
  some (((false, n_0.2.1, (⟨#[]⟩ : ByteArray), (0, 0, 0, 0, 0, 0, [], 0, 0, 0, 0, 0, []), (0, 0, [], [], [], 0, 0), n_0.2.2.2.2.2), ()), ())
theorem pleachref19_Crash_eq (n_0 : Bool × Int × ByteArray × (Int × Int × Int × Int × Int × Int × (List Int) × Int × Int × Int × Int × Int × List (Int × Int × Int)) × (Int × Int × (List (Int × ByteArray)) × (List (Int × ByteArray)) × (List (Int × Int × Int × ByteArray × Int)) × Int × Int) × Int) : evFn pleachref19_Crash_Γ tab pleachref19_Crash_fi 1 [.val t47] [⟨t47, [false, false, false, false, false, false, false, false, false, false, false, false, false, false, false, false, false, false, false, false, false, false, false, false], none⟩] Tryz.f67 (n_0, ()) = pleachref19_Crash n_0 := by kernel_rfl
noncomputable def pleachref19_Crash_e : Ent := ⟨[.val t47], [⟨t47, [false, false, false, false, false, false, false, false, false, false, false, false, false, false, false, false, false, false, false, false, false, false, false, false], none⟩], fun x => pleachref19_Crash x.1⟩
theorem pleachref19_Crash_good : Good tab.ty Tryz.prog 67 pleachref19_Crash_e := by
  refine fn_good (Γ := pleachref19_Crash_Γ) (fi := pleachref19_Crash_fi) (n := 1) follows gnil tabok Tryz.func67 (by kernel_rfl) (by kernel_rfl) (fun x r h => ?_)
  obtain ⟨n_0, _u⟩ := x
  exact (pleachref19_Crash_eq n_0).trans h
noncomputable def pleachref19_Leave_Γ : Ctx := [(89, pleachref19_says_e)]
def pleachref19_Leave_fi : Fi := { keep := [], vty := [(3, 89)], vals := [], live := [(0, [1]), (1, [1, 3]), (2, [1, 3, 7]), (3, [1, 3]), (4, [1, 3, 4]), (5, [1, 3, 4, 19]), (6, [1, 3, 4]), (7, [1, 3, 4]), (8, [2])] }
noncomputable def pleachref19_Leave_B1 (L1 : Int → Int → Int → Int → Int → Int → Int → List Int → Int → Int → Int → Int → Int → (List (Int × Int × Int)) → (List (Int × Int × Int × Int × Int × Int × (List Int) × Int × Int × ByteArray)) → Option (((List (Int × Int × Int × Int × Int × Int × (List Int) × Int × Int × ByteArray)) × Unit) × Unit)) (v2 : Int) (v3 : Int) (v4 : Int) (v5 : Int) (v6 : Int) (v7 : Int) (v8 : Int) (v9 : List Int) (v10 : Int) (v11 : Int) (v12 : Int) (v13 : Int) (v14 : Int) (v15 : List (Int × Int × Int)) (v16 : List (Int × Int × Int × Int × Int × Int × (List Int) × Int × Int × ByteArray)) : Option (((List (Int × Int × Int × Int × Int × Int × (List Int) × Int × Int × ByteArray)) × Unit) × Unit) :=
 bif decide (v2 < (v15.length : Int)) then
  bif decide (0 ≤ v2) && decide (v2 < (v15.length : Int)) then
   Option.bind (pleachref19_says (v3, v4, v5, v6, v7, v8, v9, v10, v11, v12, v13, v14, v15) 3 ((List.getD v15 v2.toNat (0, 0, 0)).1)) fun (r17 : ((Int × Int × Int × Int × Int × Int × (List Int) × Int × Int × ByteArray) × Unit) × Unit) =>
   bif Nat.ble (v16.length + 1) 1073741824 then
    L1 (IntKind.wrap .i64 (v2 + 1)) v3 v4 v5 v6 v7 v8 v9 v10 v11 v12 v13 v14 v15 (v16 ++ [r17.1.1])
   else none
  else none
 else
  some ((v16, ()), ())
noncomputable def pleachref19_Leave_T (L1 : Int → Int → Int → Int → Int → Int → Int → List Int → Int → Int → Int → Int → Int → (List (Int × Int × Int)) → (List (Int × Int × Int × Int × Int × Int × (List Int) × Int × Int × ByteArray)) → Option (((List (Int × Int × Int × Int × Int × Int × (List Int) × Int × Int × ByteArray)) × Unit) × Unit)) (t_0 : Int × Int × Int × Int × Int × Int × (List Int) × Int × Int × Int × Int × Int × List (Int × Int × Int)) : Option (((List (Int × Int × Int × Int × Int × Int × (List Int) × Int × Int × ByteArray)) × Unit) × Unit) :=
 bif t_0.2.2.2.1 != 0 then
  Option.bind (pleachref19_says t_0 6 t_0.2.2.2.1) fun (r1 : ((Int × Int × Int × Int × Int × Int × (List Int) × Int × Int × ByteArray) × Unit) × Unit) =>
  L1 0 t_0.1 t_0.2.1 t_0.2.2.1 t_0.2.2.2.1 t_0.2.2.2.2.1 t_0.2.2.2.2.2.1 t_0.2.2.2.2.2.2.1 t_0.2.2.2.2.2.2.2.1 t_0.2.2.2.2.2.2.2.2.1 t_0.2.2.2.2.2.2.2.2.2.1 t_0.2.2.2.2.2.2.2.2.2.2.1 t_0.2.2.2.2.2.2.2.2.2.2.2.1 t_0.2.2.2.2.2.2.2.2.2.2.2.2 [r1.1.1]
 else
  L1 0 t_0.1 t_0.2.1 t_0.2.2.1 t_0.2.2.2.1 t_0.2.2.2.2.1 t_0.2.2.2.2.2.1 t_0.2.2.2.2.2.2.1 t_0.2.2.2.2.2.2.2.1 t_0.2.2.2.2.2.2.2.2.1 t_0.2.2.2.2.2.2.2.2.2.1 t_0.2.2.2.2.2.2.2.2.2.2.1 t_0.2.2.2.2.2.2.2.2.2.2.2.1 t_0.2.2.2.2.2.2.2.2.2.2.2.2 []
noncomputable def pleachref19_Leave_L1 (n : Nat) : Nat → Int → Int → Int → Int → Int → Int → Int → List Int → Int → Int → Int → Int → Int → (List (Int × Int × Int)) → (List (Int × Int × Int × Int × Int × Int × (List Int) × Int × Int × ByteArray)) → Option (((List (Int × Int × Int × Int × Int × Int × (List Int) × Int × Int × ByteArray)) × Unit) × Unit) := iter (fun _ _ _ _ _ _ _ _ _ _ _ _ _ _ _ => none) fun L => pleachref19_Leave_B1 L
noncomputable def pleachref19_Leave_X1 (n m : Nat) (v2 : Int) (v3 : Int) (v4 : Int) (v5 : Int) (v6 : Int) (v7 : Int) (v8 : Int) (v9 : List Int) (v10 : Int) (v11 : Int) (v12 : Int) (v13 : Int) (v14 : Int) (v15 : List (Int × Int × Int)) (v16 : List (Int × Int × Int × Int × Int × Int × (List Int) × Int × Int × ByteArray)) : Option (((List (Int × Int × Int × Int × Int × Int × (List Int) × Int × Int × ByteArray)) × Unit) × Unit) :=
 atLoop pleachref19_Leave_Γ tab (fiB [.val t39] pleachref19_Leave_fi) n [.val t39] [⟨t89, [true], none⟩] Tryz.f90 [1, 1, 1, 0, 1, 0] [] [1, 3, 4] m
 ⟨[(1, SV.cv (CV.one (LV.ptr (1, 0) 0))), (3, SV.cv (CV.one (LV.ref (888888, 3)))), (4, SV.cv (CV.one (LV.pure t2 v2)))],
  [((1, 0), Ob.box 40 [LV.pure t2 v3, LV.pure t2 v4, LV.pure t2 v5, LV.pure t2 v6, LV.pure t2 v7, LV.pure t2 v8, LV.pure t37 v9, LV.pure t2 v10, LV.pure t2 v11, LV.pure t2 v12, LV.pure t2 v13, LV.pure t2 v14, LV.pure t38 v15]), ((888888, 3), Ob.row 131 t130 v16)]⟩
theorem pleachref19_Leave_step1 (n m : Nat) (v2 : Int) (v3 : Int) (v4 : Int) (v5 : Int) (v6 : Int) (v7 : Int) (v8 : Int) (v9 : List Int) (v10 : Int) (v11 : Int) (v12 : Int) (v13 : Int) (v14 : Int) (v15 : List (Int × Int × Int)) (v16 : List (Int × Int × Int × Int × Int × Int × (List Int) × Int × Int × ByteArray)) : pleachref19_Leave_X1 n (m + 1) v2 v3 v4 v5 v6 v7 v8 v9 v10 v11 v12 v13 v14 v15 v16 = pleachref19_Leave_B1 (pleachref19_Leave_X1 n m) v2 v3 v4 v5 v6 v7 v8 v9 v10 v11 v12 v13 v14 v15 v16 := by kernel_rfl
theorem pleachref19_Leave_start (n : Nat) (t_0 : Int × Int × Int × Int × Int × Int × (List Int) × Int × Int × Int × Int × Int × List (Int × Int × Int)) : evFn pleachref19_Leave_Γ tab pleachref19_Leave_fi n [.val t39] [⟨t89, [true], none⟩] Tryz.f90 (t_0, ()) = pleachref19_Leave_T (pleachref19_Leave_X1 n n) t_0 := by kernel_rfl
theorem pleachref19_Leave_XL1 (n : Nat) : ∀ m, pleachref19_Leave_X1 n m = pleachref19_Leave_L1 n m
 | 0 => rfl
 | m + 1 => by
  have ih := pleachref19_Leave_XL1 n m
  funext v2 v3 v4 v5 v6 v7 v8 v9 v10 v11 v12 v13 v14 v15 v16
  rw [pleachref19_Leave_step1, ih]
  rfl
noncomputable def pleachref19_Leave_n (n : Nat) (t_0 : Int × Int × Int × Int × Int × Int × (List Int) × Int × Int × Int × Int × Int × List (Int × Int × Int)) : Option (((List (Int × Int × Int × Int × Int × Int × (List Int) × Int × Int × ByteArray)) × Unit) × Unit) := pleachref19_Leave_T (pleachref19_Leave_L1 n n) t_0
noncomputable def pleachref19_Leave (t_0 : Int × Int × Int × Int × Int × Int × (List Int) × Int × Int × Int × Int × Int × List (Int × Int × Int)) : Option (((List (Int × Int × Int × Int × Int × Int × (List Int) × Int × Int × ByteArray)) × Unit) × Unit) := pleachref19_Leave_n 1099511627776 t_0
theorem pleachref19_Leave_eq (n : Nat) (t_0 : Int × Int × Int × Int × Int × Int × (List Int) × Int × Int × Int × Int × Int × List (Int × Int × Int)) : evFn pleachref19_Leave_Γ tab pleachref19_Leave_fi n [.val t39] [⟨t89, [true], none⟩] Tryz.f90 (t_0, ()) = pleachref19_Leave_n n t_0 := by
  rw [pleachref19_Leave_start, pleachref19_Leave_XL1 n n]
  rfl
noncomputable def pleachref19_Leave_e : Ent := ⟨[.val t39], [⟨t89, [true], none⟩], fun x => pleachref19_Leave x.1⟩
theorem pleachref19_Leave_good : Good tab.ty Tryz.prog 90 pleachref19_Leave_e := by
  refine fn_good (Γ := pleachref19_Leave_Γ) (fi := pleachref19_Leave_fi) (n := 1099511627776) follows (gcons pleachref19_says_good gnil) tabok Tryz.func90 (by kernel_rfl) (by kernel_rfl) (fun x r h => ?_)
  obtain ⟨t_0, _u⟩ := x
  exact (pleachref19_Leave_eq 1099511627776 t_0).trans h
noncomputable def pleachref19_Off_Γ : Ctx := [(67, pleachref19_Crash_e), (90, pleachref19_Leave_e)]
def pleachref19_Off_fi : Fi := { keep := [], vty := [], vals := [], live := [(0, [1, 2]), (1, [1, 2, 6]), (2, [2, 3]), (3, [2, 3])] }
noncomputable def pleachref19_Off (n_0 : Bool × Int × ByteArray × (Int × Int × Int × Int × Int × Int × (List Int) × Int × Int × Int × Int × Int × List (Int × Int × Int)) × (Int × Int × (List (Int × ByteArray)) × (List (Int × ByteArray)) × (List (Int × Int × Int × ByteArray × Int)) × Int × Int) × Int) : Option (((Bool × Int × ByteArray × (Int × Int × Int × Int × Int × Int × (List Int) × Int × Int × Int × Int × Int × List (Int × Int × Int)) × (Int × Int × (List (Int × ByteArray)) × (List (Int × ByteArray)) × (List (Int × Int × Int × ByteArray × Int)) × Int × Int) × Int) × (List (Int × Int × Int × Int × Int × Int × (List Int) × Int × Int × ByteArray)) × Unit) × Unit) :=
 bif !n_0.1 then
  some ((n_0, [], ()), ())
 else
  Option.bind (pleachref19_Crash n_0) fun (r1 : ((Bool × Int × ByteArray × (Int × Int × Int × Int × Int × Int × (List Int) × Int × Int × Int × Int × Int × List (Int × Int × Int)) × (Int × Int × (List (Int × ByteArray)) × (List (Int × ByteArray)) × (List (Int × Int × Int × ByteArray × Int)) × Int × Int) × Int) × Unit) × Unit) =>
  Option.bind (pleachref19_Leave n_0.2.2.2.1) fun (r2 : ((List (Int × Int × Int × Int × Int × Int × (List Int) × Int × Int × ByteArray)) × Unit) × Unit) =>
  some ((r1.1.1, r2.1.1, ()), ())
theorem pleachref19_Off_eq (n_0 : Bool × Int × ByteArray × (Int × Int × Int × Int × Int × Int × (List Int) × Int × Int × Int × Int × Int × List (Int × Int × Int)) × (Int × Int × (List (Int × ByteArray)) × (List (Int × ByteArray)) × (List (Int × Int × Int × ByteArray × Int)) × Int × Int) × Int) : evFn pleachref19_Off_Γ tab pleachref19_Off_fi 1 [.val t47] [⟨t47, [false, false, false, false, false, false, false, false, false, false, false, false, false, false, false, false, false, false, false, false, false, false, false, false], none⟩, ⟨t89, [true], none⟩] Tryz.f68 (n_0, ()) = pleachref19_Off n_0 := by kernel_rfl
noncomputable def pleachref19_Off_e : Ent := ⟨[.val t47], [⟨t47, [false, false, false, false, false, false, false, false, false, false, false, false, false, false, false, false, false, false, false, false, false, false, false, false], none⟩, ⟨t89, [true], none⟩], fun x => pleachref19_Off x.1⟩
theorem pleachref19_Off_good : Good tab.ty Tryz.prog 68 pleachref19_Off_e := by
  refine fn_good (Γ := pleachref19_Off_Γ) (fi := pleachref19_Off_fi) (n := 1) follows (gcons pleachref19_Crash_good (gcons pleachref19_Leave_good gnil)) tabok Tryz.func68 (by kernel_rfl) (by kernel_rfl) (fun x r h => ?_)
  obtain ⟨n_0, _u⟩ := x
  exact (pleachref19_Off_eq n_0).trans h
noncomputable def pleachref7_LeaveClus_Γ : Ctx := [(91, markE), (59, pleachref7_Home_e), (60, pleachref7_Near_e), (83, pleachref7_Of_e), (84, pleachref7_Rising_e), (85, pleachref7_parted_e), (120, pleachref7_without_e)]
def pleachref7_LeaveClus_fi : Fi := { keep := [], vty := [(12, 37)], vals := [], live := [(0, [0, 1, 2, 3, 53, 54, 55]), (1, [0, 1, 2, 3, 9, 53, 54, 55]), (2, [0, 1, 2, 3, 9, 10, 53, 54, 55]), (3, [0, 1, 2, 3, 9, 10, 22, 53, 54, 55]), (4, [8]), (5, [0, 3, 9, 10, 11, 53, 54, 55]), (6, [0, 3, 9, 10, 11, 33, 53, 54, 55]), (7, [8]), (8, [0, 3, 9, 10, 11, 53, 54, 55]), (9, [0, 3, 9, 10, 11, 56]), (10, [8]), (11, [0, 3, 9, 10, 11, 12]), (12, [0, 3, 9, 10, 11, 12, 13]), (13, [0, 3, 9, 10, 11, 12, 13, 61]), (14, [0, 3, 9, 10, 11, 12, 13]), (15, [0, 3, 9, 10, 11, 12, 13, 66]), (16, [0, 3, 9, 10, 11, 12, 13]), (17, [0, 3, 9, 10, 11, 14]), (18, [0, 3, 9, 10, 14]), (19, [0, 3, 9, 10, 14]), (20, [0, 3, 9, 10, 112]), (21, [0, 3, 9, 10]), (22, [0, 3, 9, 10, 124]), (23, [8]), (24, [8])], melt := [(7, 1000010), (19, 1000010)] }
noncomputable def pleachref7_LeaveClus_B1 (L1 : List (List Int) → Int → Int → Int → (List ((List Int) × Int)) → List Int → List Int → Option (((List ((List Int) × Int)) × Unit) × Unit)) (v6 : List (List Int)) (v7 : Int) (v8 : Int) (v9 : Int) (v10 : List ((List Int) × Int)) (v11 : List Int) (v12 : List Int) : Option (((List ((List Int) × Int)) × Unit) × Unit) :=
 bif decide (v9 < (v10.length : Int)) then
  bif v9 != v8 then
   bif decide (0 ≤ v9) && decide (v9 < (v10.length : Int)) then
    bif decide (0 ≤ v9) && decide (v9 < (v10.length : Int)) then
     bif Nat.ble (v12.length + 1) 1073741824 then
      L1 v6 v7 v8 (IntKind.wrap .i64 (v9 + 1)) v10 v11 (v12 ++ [(List.getD v10 v9.toNat ([], 0)).2])
     else none
    else none
   else none
  else
   L1 v6 v7 v8 (IntKind.wrap .i64 (v9 + 1)) v10 v11 v12
 else
 bif decide (0 ≤ v8) && decide (v8 < (v10.length : Int)) then
  bif decide (0 ≤ v8) && decide (v8 < (v10.length : Int)) then
   Option.bind (pleachref7_Near v6 ((List.getD v10 v8.toNat ([], 0)).2) v12) fun (r13 : (Int × Unit) × Unit) =>
   Option.bind (pleachref7_Home v10 r13.1.1) fun (r14 : (Int × Unit) × Unit) =>
   bif Nat.ble (0 + v11.length) 1073741824 then
    bif decide (0 ≤ r14.1.1) && decide (r14.1.1 < (v10.length : Int)) then
     bif decide (0 ≤ r14.1.1) && decide (r14.1.1 < (v10.length : Int)) then
      bif Nat.ble (([] ++ v11).length + ((List.getD v10 r14.1.1.toNat ([], 0)).1).length) 1073741824 then
       Option.bind (pleachref7_Rising (([] ++ v11) ++ ((List.getD v10 r14.1.1.toNat ([], 0)).1))) fun (r15 : ((List Int) × Unit) × Unit) =>
       Option.bind (pleachref7_Of v6 r15.1.1) fun (r16 : (((List Int) × Int) × Unit) × Unit) =>
       bif decide (0 ≤ v8) && decide (v8 < (v10.length : Int)) then
        bif decide (0 ≤ v8) && decide (v8 < (v10.length : Int)) then
         bif decide (0 ≤ r14.1.1) && decide (r14.1.1 ≤ (((List.map some (List.set v10 v8.toNat r16.1.1)).length : Nat) : Int)) then
          bif Nat.ble (0 + ((r14.1.1 - 0).toNat)) ((List.map some (List.set v10 v8.toNat r16.1.1)).length) then
           Option.bind (allSome (List.take ((r14.1.1 - 0).toNat) (List.drop 0 (List.map some (List.set v10 v8.toNat r16.1.1))))) fun (z17 : List ((List Int) × Int)) =>
           bif Nat.ble (0 + z17.length) 1073741824 then
            bif (decide (0 ≤ IntKind.wrap .i64 (r14.1.1 + 1)) && decide (IntKind.wrap .i64 (r14.1.1 + 1) ≤ (((List.set v10 v8.toNat r16.1.1).length : Nat) : Int))) && decide ((((List.set v10 v8.toNat r16.1.1).length : Nat) : Int) ≤ (((List.map some (List.set v10 v8.toNat r16.1.1)).length : Nat) : Int)) then
            bif Nat.ble ((0 + ((IntKind.wrap .i64 (r14.1.1 + 1)).toNat)) + (((((List.set v10 v8.toNat r16.1.1).length : Nat) : Int) - (IntKind.wrap .i64 (r14.1.1 + 1))).toNat)) ((List.map some (List.set v10 v8.toNat r16.1.1)).length) then
            Option.bind (allSome (List.take (((((List.set v10 v8.toNat r16.1.1).length : Nat) : Int) - (IntKind.wrap .i64 (r14.1.1 + 1))).toNat) (List.drop (0 + ((IntKind.wrap .i64 (r14.1.1 + 1)).toNat)) (List.map some (List.set v10 v8.toNat r16.1.1))))) fun (z18 : List ((List Int) × Int)) =>
            bif Nat.ble ((([] ++ z17).length) + z18.length) 1073741824 then
            bif decide (r14.1.1 < v8) then
            bif decide (0 ≤ IntKind.wrap .i64 (v8 - 1)) && decide (IntKind.wrap .i64 (v8 - 1) < ((([] ++ z17) ++ z18).length : Int)) then
            bif decide (0 ≤ IntKind.wrap .i64 (v8 - 1)) && decide (IntKind.wrap .i64 (v8 - 1) < ((([] ++ z17) ++ z18).length : Int)) then
            bif decide ((((List.getD (([] ++ z17) ++ z18) ((IntKind.wrap .i64 (v8 - 1)).toNat) ([], 0)).1).length : Int) > IntKind.wrap .i64 ((IntKind.wrap .i64 (3 * v7)) - 1)) then
            Option.bind (pleachref7_parted v6 (([] ++ z17) ++ z18) (IntKind.wrap .i64 (v8 - 1)) v7) fun (r19 : ((List ((List Int) × Int)) × Unit) × Unit) =>
            some ((r19.1.1, ()), ())
            else
            some ((([] ++ z17) ++ z18, ()), ())
            else none
            else none
            else
            bif decide (0 ≤ v8) && decide (v8 < ((([] ++ z17) ++ z18).length : Int)) then
            bif decide (0 ≤ v8) && decide (v8 < ((([] ++ z17) ++ z18).length : Int)) then
            bif decide ((((List.getD (([] ++ z17) ++ z18) v8.toNat ([], 0)).1).length : Int) > IntKind.wrap .i64 ((IntKind.wrap .i64 (3 * v7)) - 1)) then
            Option.bind (pleachref7_parted v6 (([] ++ z17) ++ z18) v8 v7) fun (r20 : ((List ((List Int) × Int)) × Unit) × Unit) =>
            some ((r20.1.1, ()), ())
            else
            some ((([] ++ z17) ++ z18, ()), ())
            else none
            else none
            else none
            else none
            else none
           else none
          else none
         else none
        else none
       else none
      else none
     else none
    else none
   else none
  else none
 else none
noncomputable def pleachref7_LeaveClus_T (L1 : List (List Int) → Int → Int → Int → (List ((List Int) × Int)) → List Int → List Int → Option (((List ((List Int) × Int)) × Unit) × Unit)) (arr_0 : List (List Int)) (x_1 : List ((List Int) × Int)) (x_2 : Int) (x_3 : Int) : Option (((List ((List Int) × Int)) × Unit) × Unit) :=
 Option.bind (pleachref7_Home x_1 x_2) fun (r1 : (Int × Unit) × Unit) =>
 bif Nat.ble (0 + x_1.length) 1073741824 then
  bif decide (r1.1.1 < 0) then
   some (([] ++ x_1, ()), ())
  else
  bif decide (0 ≤ r1.1.1) && decide (r1.1.1 < (x_1.length : Int)) then
   Option.bind (pleachref7_without ((List.getD x_1 r1.1.1.toNat ([], 0)).1) x_2) fun (r2 : ((List Int) × Unit) × Unit) =>
   bif (r2.1.1.length : Int) == 0 then
    bif decide (0 ≤ r1.1.1) && decide (r1.1.1 ≤ (((List.map some ([] ++ x_1)).length : Nat) : Int)) then
     bif (decide (0 ≤ IntKind.wrap .i64 (r1.1.1 + 1)) && decide (IntKind.wrap .i64 (r1.1.1 + 1) ≤ ((([] ++ x_1).length : Nat) : Int))) && decide (((([] ++ x_1).length : Nat) : Int) ≤ (((List.map some ([] ++ x_1)).length : Nat) : Int)) then
      bif Nat.ble (0 + ((r1.1.1 - 0).toNat)) ((List.map some ([] ++ x_1)).length) then
       bif Nat.ble ((0 + ((IntKind.wrap .i64 (r1.1.1 + 1)).toNat)) + ((((([] ++ x_1).length : Nat) : Int) - (IntKind.wrap .i64 (r1.1.1 + 1))).toNat)) ((List.map some ([] ++ x_1)).length) then
        Option.bind (allSome (List.take ((((([] ++ x_1).length : Nat) : Int) - (IntKind.wrap .i64 (r1.1.1 + 1))).toNat) (List.drop (0 + ((IntKind.wrap .i64 (r1.1.1 + 1)).toNat)) (List.map some ([] ++ x_1))))) fun (z3 : List ((List Int) × Int)) =>
        bif Nat.ble (((r1.1.1 - 0).toNat) + z3.length) ((List.map some ([] ++ x_1)).length) then
         bif Nat.ble (((r1.1.1 - 0).toNat) + z3.length) ((writeAt (List.map some ([] ++ x_1)) ((r1.1.1 - 0).toNat) z3).length) then
          Option.bind (allSome (List.take (((r1.1.1 - 0).toNat) + z3.length) (writeAt (List.map some ([] ++ x_1)) ((r1.1.1 - 0).toNat) z3))) fun (z4 : List ((List Int) × Int)) =>
          some ((z4, ()), ())
         else none
        else none
       else none
      else none
     else none
    else none
   else
    Option.bind (pleachref7_Of arr_0 r2.1.1) fun (r5 : (((List Int) × Int) × Unit) × Unit) =>
    bif decide (0 ≤ r1.1.1) && decide (r1.1.1 < (([] ++ x_1).length : Int)) then
     bif decide (0 ≤ r1.1.1) && decide (r1.1.1 < (([] ++ x_1).length : Int)) then
      bif decide ((r2.1.1.length : Int) ≥ x_3) then
       some ((List.set ([] ++ x_1) r1.1.1.toNat r5.1.1, ()), ())
      else
      bif ((List.set ([] ++ x_1) r1.1.1.toNat r5.1.1).length : Int) == 1 then
       some ((List.set ([] ++ x_1) r1.1.1.toNat r5.1.1, ()), ())
      else
       L1 arr_0 x_3 r1.1.1 0 (List.set ([] ++ x_1) r1.1.1.toNat r5.1.1) r2.1.1 []
     else none
    else none
  else none
 else none
noncomputable def pleachref7_LeaveClus_L1 (n : Nat) : Nat → List (List Int) → Int → Int → Int → (List ((List Int) × Int)) → List Int → List Int → Option (((List ((List Int) × Int)) × Unit) × Unit) := iter (fun _ _ _ _ _ _ _ => none) fun L => pleachref7_LeaveClus_B1 L
noncomputable def pleachref7_LeaveClus_X1 (n m : Nat) (v6 : List (List Int)) (v7 : Int) (v8 : Int) (v9 : Int) (v10 : List ((List Int) × Int)) (v11 : List Int) (v12 : List Int) : Option (((List ((List Int) × Int)) × Unit) × Unit) :=
 atLoop pleachref7_LeaveClus_Γ tab (fiB [.val t27, .val t114, .val t2, .val t2] pleachref7_LeaveClus_fi) n [.val t27, .val t114, .val t2, .val t2] [⟨t114, [true], none⟩] Tryz.f91 [1, 1, 1, 1, 1, 1, 1, 1, 1, 0, 1, 0] [] [0, 3, 9, 10, 11, 12, 13] m
 ⟨[(0, SV.cv (CV.one (LV.pure t27 v6))), (3, SV.cv (CV.one (LV.pure t2 v7))), (9, SV.cv (CV.one (LV.pure t2 v8))), (10, SV.cv (CV.one (LV.ref (888888, 10)))), (11, SV.cv (CV.one (LV.ref (888888, 11)))), (12, SV.cv (CV.one (LV.ref (888888, 12)))), (13, SV.cv (CV.one (LV.pure t2 v9)))],
  [((888888, 10), Ob.row 117 t116 v10), ((888888, 11), Ob.row 3 t2 v11), ((888888, 12), Ob.row 3 t2 v12)]⟩
theorem pleachref7_LeaveClus_step1 (n m : Nat) (v6 : List (List Int)) (v7 : Int) (v8 : Int) (v9 : Int) (v10 : List ((List Int) × Int)) (v11 : List Int) (v12 : List Int) : pleachref7_LeaveClus_X1 n (m + 1) v6 v7 v8 v9 v10 v11 v12 = pleachref7_LeaveClus_B1 (pleachref7_LeaveClus_X1 n m) v6 v7 v8 v9 v10 v11 v12 := by kernel_rfl
theorem pleachref7_LeaveClus_start (n : Nat) (arr_0 : List (List Int)) (x_1 : List ((List Int) × Int)) (x_2 : Int) (x_3 : Int) : evFn pleachref7_LeaveClus_Γ tab pleachref7_LeaveClus_fi n [.val t27, .val t114, .val t2, .val t2] [⟨t114, [true], none⟩] Tryz.f91 (arr_0, x_1, x_2, x_3, ()) = pleachref7_LeaveClus_T (pleachref7_LeaveClus_X1 n n) arr_0 x_1 x_2 x_3 := by kernel_rfl
theorem pleachref7_LeaveClus_XL1 (n : Nat) : ∀ m, pleachref7_LeaveClus_X1 n m = pleachref7_LeaveClus_L1 n m
 | 0 => rfl
 | m + 1 => by
  have ih := pleachref7_LeaveClus_XL1 n m
  funext v6 v7 v8 v9 v10 v11 v12
  rw [pleachref7_LeaveClus_step1, ih]
  rfl
noncomputable def pleachref7_LeaveClus_n (n : Nat) (arr_0 : List (List Int)) (x_1 : List ((List Int) × Int)) (x_2 : Int) (x_3 : Int) : Option (((List ((List Int) × Int)) × Unit) × Unit) := pleachref7_LeaveClus_T (pleachref7_LeaveClus_L1 n n) arr_0 x_1 x_2 x_3
noncomputable def pleachref7_LeaveClus (arr_0 : List (List Int)) (x_1 : List ((List Int) × Int)) (x_2 : Int) (x_3 : Int) : Option (((List ((List Int) × Int)) × Unit) × Unit) := pleachref7_LeaveClus_n 1099511627776 arr_0 x_1 x_2 x_3
theorem pleachref7_LeaveClus_eq (n : Nat) (arr_0 : List (List Int)) (x_1 : List ((List Int) × Int)) (x_2 : Int) (x_3 : Int) : evFn pleachref7_LeaveClus_Γ tab pleachref7_LeaveClus_fi n [.val t27, .val t114, .val t2, .val t2] [⟨t114, [true], none⟩] Tryz.f91 (arr_0, x_1, x_2, x_3, ()) = pleachref7_LeaveClus_n n arr_0 x_1 x_2 x_3 := by
  rw [pleachref7_LeaveClus_start, pleachref7_LeaveClus_XL1 n n]
  rfl
noncomputable def pleachref7_LeaveClus_e : Ent := ⟨[.val t27, .val t114, .val t2, .val t2], [⟨t114, [true], none⟩], fun x => pleachref7_LeaveClus x.1 x.2.1 x.2.2.1 x.2.2.2.1⟩
theorem pleachref7_LeaveClus_good : Good tab.ty Tryz.prog 91 pleachref7_LeaveClus_e := by
  refine fn_good (Γ := pleachref7_LeaveClus_Γ) (fi := pleachref7_LeaveClus_fi) (n := 1099511627776) follows (gcons (gmark Tryz.func91 (by kernel_rfl) (by kernel_rfl)) (gcons pleachref7_Home_good (gcons pleachref7_Near_good (gcons pleachref7_Of_good (gcons pleachref7_Rising_good (gcons pleachref7_parted_good (gcons pleachref7_without_good gnil))))))) tabok Tryz.func91 (by kernel_rfl) (by kernel_rfl) (fun x r h => ?_)
  obtain ⟨arr_0, x_1, x_2, x_3, _u⟩ := x
  exact (pleachref7_LeaveClus_eq 1099511627776 arr_0 x_1 x_2 x_3).trans h
noncomputable def pleachref7_Leave_Γ : Ctx := [(58, pleachref1_MayDist_e), (59, pleachref7_Home_e), (61, pleachref7_above_e), (91, pleachref7_LeaveClus_e)]
def pleachref7_Leave_fi : Fi := { keep := [], vty := [], vals := [], live := [(0, [1, 2, 4, 10, 11, 12, 13, 16, 17, 18, 19, 20, 21, 22]), (1, [1, 2, 4, 23]), (2, [4]), (3, [4])] }
noncomputable def pleachref7_Leave (h_0 : Int × (List (List Int)) × List (List ((List Int) × Int))) (id_1 : Int) : Option (((Int × (List (List Int)) × List (List ((List Int) × Int))) × Unit) × Unit) :=
 Option.bind (pleachref1_MayDist h_0.2.1) fun (r1 : (Bool × Unit) × Unit) =>
 bif !r1.1.1 then
  some ((h_0, ()), ())
 else
 bif (h_0.2.2.length : Int) == 0 then
  some ((h_0, ()), ())
 else
 bif decide (0 < (h_0.2.2.length : Int)) then
  Option.bind (pleachref7_Home (List.getD h_0.2.2 0 []) id_1) fun (r2 : (Int × Unit) × Unit) =>
  bif decide (r2.1.1 < 0) then
   some ((h_0, ()), ())
  else
  bif decide (0 < (h_0.2.2.length : Int)) then
   Option.bind (pleachref7_LeaveClus h_0.2.1 (List.getD h_0.2.2 0 []) id_1 h_0.1) fun (r3 : ((List ((List Int) × Int)) × Unit) × Unit) =>
   Option.bind (pleachref7_above h_0 r3.1.1) fun (r4 : ((Int × (List (List Int)) × List (List ((List Int) × Int))) × Unit) × Unit) =>
   some ((r4.1.1, ()), ())
  else none
 else none
theorem pleachref7_Leave_eq (h_0 : Int × (List (List Int)) × List (List ((List Int) × Int))) (id_1 : Int) : evFn pleachref7_Leave_Γ tab pleachref7_Leave_fi 1 [.val t29, .val t2] [⟨t29, [false, false, false], none⟩] Tryz.f69 (h_0, id_1, ()) = pleachref7_Leave h_0 id_1 := by kernel_rfl
noncomputable def pleachref7_Leave_e : Ent := ⟨[.val t29, .val t2], [⟨t29, [false, false, false], none⟩], fun x => pleachref7_Leave x.1 x.2.1⟩
theorem pleachref7_Leave_good : Good tab.ty Tryz.prog 69 pleachref7_Leave_e := by
  refine fn_good (Γ := pleachref7_Leave_Γ) (fi := pleachref7_Leave_fi) (n := 1) follows (gcons pleachref1_MayDist_good (gcons pleachref7_Home_good (gcons pleachref7_above_good (gcons pleachref7_LeaveClus_good gnil)))) tabok Tryz.func69 (by kernel_rfl) (by kernel_rfl) (fun x r h => ?_)
  obtain ⟨h_0, id_1, _u⟩ := x
  exact (pleachref7_Leave_eq h_0 id_1).trans h
noncomputable def pleachref21_of_Γ : Ctx := [(39, pleachref7_Join_e), (40, pleachref19_Join_e), (43, pleachref21_with_e), (65, pleachref7_Ask_e), (66, pleachref19_TickNode_e), (67, pleachref19_Crash_e), (68, pleachref19_Off_e), (69, pleachref7_Leave_e)]
def pleachref21_of_fi : Fi := { keep := [], vty := [], vals := [], live := [(0, [2, 3, 4]), (1, [2, 3, 4, 6]), (2, [2, 3, 4, 6, 7]), (3, [2, 3, 4, 6, 7, 25]), (4, [2, 3, 4, 6, 7, 27]), (5, [4, 5]), (6, [2, 3, 4, 6, 7, 8]), (7, [2, 4, 6, 8, 9, 10]), (8, [2, 4, 6, 8, 9, 48]), (9, [4, 5]), (10, [2, 4, 6, 9]), (11, [4, 5]), (12, [2, 3, 4, 6, 7, 58]), (13, [4, 5]), (14, [2, 3, 4, 6, 7, 62]), (15, [2, 4, 6, 11, 12]), (16, [4, 5]), (17, [2, 3, 4, 6, 7, 74]), (18, [4, 5]), (19, [2, 3, 4, 6, 7, 78]), (20, [4, 5]), (21, [2, 3, 4, 6, 13, 14]), (22, [2, 4, 6, 13, 14]), (23, [4, 5])] }
noncomputable def pleachref21_of (w_0 : (List (Bool × Int × ByteArray × (Int × Int × Int × Int × Int × Int × (List Int) × Int × Int × Int × Int × Int × List (Int × Int × Int)) × (Int × Int × (List (Int × ByteArray)) × (List (Int × ByteArray)) × (List (Int × Int × Int × ByteArray × Int)) × Int × Int) × Int)) × (List (Int × ByteArray × Bool)) × (List ByteArray) × Int × (List (List Int)) × List (List ((List Int) × Int))) (s_1 : Int × Int × Int × Int × ByteArray) : Option ((((List (Bool × Int × ByteArray × (Int × Int × Int × Int × Int × Int × (List Int) × Int × Int × Int × Int × Int × List (Int × Int × Int)) × (Int × Int × (List (Int × ByteArray)) × (List (Int × ByteArray)) × (List (Int × Int × Int × ByteArray × Int)) × Int × Int) × Int)) × (List (Int × ByteArray × Bool)) × (List ByteArray) × Int × (List (List Int)) × List (List ((List Int) × Int))) × Int × Unit) × Unit) :=
 bif decide (0 ≤ IntKind.wrap .i64 (s_1.2.1 - 1)) && decide (IntKind.wrap .i64 (s_1.2.1 - 1) < (w_0.1.length : Int)) then
  bif s_1.1 == 1 then
   bif (List.getD w_0.1 ((IntKind.wrap .i64 (s_1.2.1 - 1)).toNat) (false, 0, (⟨#[]⟩ : ByteArray), (0, 0, 0, 0, 0, 0, [], 0, 0, 0, 0, 0, []), (0, 0, [], [], [], 0, 0), 0)).1 then
    some ((w_0, 4, ()), ())
   else
    Option.bind (pleachref7_Join w_0.2.2.2 s_1.2.1) fun (r1 : ((Int × (List (List Int)) × List (List ((List Int) × Int))) × Unit) × Unit) =>
    Option.bind (pleachref7_Ask r1.1.1 s_1.2.1) fun (r2 : (Int × Unit) × Unit) =>
    Option.bind (pleachref19_Join ((List.getD w_0.1 ((IntKind.wrap .i64 (s_1.2.1 - 1)).toNat) (false, 0, (⟨#[]⟩ : ByteArray), (0, 0, 0, 0, 0, 0, [], 0, 0, 0, 0, 0, []), (0, 0, [], [], [], 0, 0), 0)).1, ((List.getD w_0.1 ((IntKind.wrap .i64 (s_1.2.1 - 1)).toNat) (false, 0, (⟨#[]⟩ : ByteArray), (0, 0, 0, 0, 0, 0, [], 0, 0, 0, 0, 0, []), (0, 0, [], [], [], 0, 0), 0)).2).1, (((List.getD w_0.1 ((IntKind.wrap .i64 (s_1.2.1 - 1)).toNat) (false, 0, (⟨#[]⟩ : ByteArray), (0, 0, 0, 0, 0, 0, [], 0, 0, 0, 0, 0, []), (0, 0, [], [], [], 0, 0), 0)).2).2).1, ((((((List.getD w_0.1 ((IntKind.wrap .i64 (s_1.2.1 - 1)).toNat) (false, 0, (⟨#[]⟩ : ByteArray), (0, 0, 0, 0, 0, 0, [], 0, 0, 0, 0, 0, []), (0, 0, [], [], [], 0, 0), 0)).2).2).2).1).1, ((((((List.getD w_0.1 ((IntKind.wrap .i64 (s_1.2.1 - 1)).toNat) (false, 0, (⟨#[]⟩ : ByteArray), (0, 0, 0, 0, 0, 0, [], 0, 0, 0, 0, 0, []), (0, 0, [], [], [], 0, 0), 0)).2).2).2).1).2).1, (((((((List.getD w_0.1 ((IntKind.wrap .i64 (s_1.2.1 - 1)).toNat) (false, 0, (⟨#[]⟩ : ByteArray), (0, 0, 0, 0, 0, 0, [], 0, 0, 0, 0, 0, []), (0, 0, [], [], [], 0, 0), 0)).2).2).2).1).2).2).1, ((((((((List.getD w_0.1 ((IntKind.wrap .i64 (s_1.2.1 - 1)).toNat) (false, 0, (⟨#[]⟩ : ByteArray), (0, 0, 0, 0, 0, 0, [], 0, 0, 0, 0, 0, []), (0, 0, [], [], [], 0, 0), 0)).2).2).2).1).2).2).2).1, (((((((((List.getD w_0.1 ((IntKind.wrap .i64 (s_1.2.1 - 1)).toNat) (false, 0, (⟨#[]⟩ : ByteArray), (0, 0, 0, 0, 0, 0, [], 0, 0, 0, 0, 0, []), (0, 0, [], [], [], 0, 0), 0)).2).2).2).1).2).2).2).2).1, ((((((((((List.getD w_0.1 ((IntKind.wrap .i64 (s_1.2.1 - 1)).toNat) (false, 0, (⟨#[]⟩ : ByteArray), (0, 0, 0, 0, 0, 0, [], 0, 0, 0, 0, 0, []), (0, 0, [], [], [], 0, 0), 0)).2).2).2).1).2).2).2).2).2).1, (((((((((((List.getD w_0.1 ((IntKind.wrap .i64 (s_1.2.1 - 1)).toNat) (false, 0, (⟨#[]⟩ : ByteArray), (0, 0, 0, 0, 0, 0, [], 0, 0, 0, 0, 0, []), (0, 0, [], [], [], 0, 0), 0)).2).2).2).1).2).2).2).2).2).2).1, ((((((((((((List.getD w_0.1 ((IntKind.wrap .i64 (s_1.2.1 - 1)).toNat) (false, 0, (⟨#[]⟩ : ByteArray), (0, 0, 0, 0, 0, 0, [], 0, 0, 0, 0, 0, []), (0, 0, [], [], [], 0, 0), 0)).2).2).2).1).2).2).2).2).2).2).2).1, (((((((((((((List.getD w_0.1 ((IntKind.wrap .i64 (s_1.2.1 - 1)).toNat) (false, 0, (⟨#[]⟩ : ByteArray), (0, 0, 0, 0, 0, 0, [], 0, 0, 0, 0, 0, []), (0, 0, [], [], [], 0, 0), 0)).2).2).2).1).2).2).2).2).2).2).2).2).1, ((((((((((((((List.getD w_0.1 ((IntKind.wrap .i64 (s_1.2.1 - 1)).toNat) (false, 0, (⟨#[]⟩ : ByteArray), (0, 0, 0, 0, 0, 0, [], 0, 0, 0, 0, 0, []), (0, 0, [], [], [], 0, 0), 0)).2).2).2).1).2).2).2).2).2).2).2).2).2).1, (((((((((((((((List.getD w_0.1 ((IntKind.wrap .i64 (s_1.2.1 - 1)).toNat) (false, 0, (⟨#[]⟩ : ByteArray), (0, 0, 0, 0, 0, 0, [], 0, 0, 0, 0, 0, []), (0, 0, [], [], [], 0, 0), 0)).2).2).2).1).2).2).2).2).2).2).2).2).2).2).1, ((((((((((((((((List.getD w_0.1 ((IntKind.wrap .i64 (s_1.2.1 - 1)).toNat) (false, 0, (⟨#[]⟩ : ByteArray), (0, 0, 0, 0, 0, 0, [], 0, 0, 0, 0, 0, []), (0, 0, [], [], [], 0, 0), 0)).2).2).2).1).2).2).2).2).2).2).2).2).2).2).2)), (((((((List.getD w_0.1 ((IntKind.wrap .i64 (s_1.2.1 - 1)).toNat) (false, 0, (⟨#[]⟩ : ByteArray), (0, 0, 0, 0, 0, 0, [], 0, 0, 0, 0, 0, []), (0, 0, [], [], [], 0, 0), 0)).2).2).2).2).1).1, (((((((List.getD w_0.1 ((IntKind.wrap .i64 (s_1.2.1 - 1)).toNat) (false, 0, (⟨#[]⟩ : ByteArray), (0, 0, 0, 0, 0, 0, [], 0, 0, 0, 0, 0, []), (0, 0, [], [], [], 0, 0), 0)).2).2).2).2).1).2).1, ((((((((List.getD w_0.1 ((IntKind.wrap .i64 (s_1.2.1 - 1)).toNat) (false, 0, (⟨#[]⟩ : ByteArray), (0, 0, 0, 0, 0, 0, [], 0, 0, 0, 0, 0, []), (0, 0, [], [], [], 0, 0), 0)).2).2).2).2).1).2).2).1, (((((((((List.getD w_0.1 ((IntKind.wrap .i64 (s_1.2.1 - 1)).toNat) (false, 0, (⟨#[]⟩ : ByteArray), (0, 0, 0, 0, 0, 0, [], 0, 0, 0, 0, 0, []), (0, 0, [], [], [], 0, 0), 0)).2).2).2).2).1).2).2).2).1, ((((((((((List.getD w_0.1 ((IntKind.wrap .i64 (s_1.2.1 - 1)).toNat) (false, 0, (⟨#[]⟩ : ByteArray), (0, 0, 0, 0, 0, 0, [], 0, 0, 0, 0, 0, []), (0, 0, [], [], [], 0, 0), 0)).2).2).2).2).1).2).2).2).2).1, (((((((((((List.getD w_0.1 ((IntKind.wrap .i64 (s_1.2.1 - 1)).toNat) (false, 0, (⟨#[]⟩ : ByteArray), (0, 0, 0, 0, 0, 0, [], 0, 0, 0, 0, 0, []), (0, 0, [], [], [], 0, 0), 0)).2).2).2).2).1).2).2).2).2).2)), (((((List.getD w_0.1 ((IntKind.wrap .i64 (s_1.2.1 - 1)).toNat) (false, 0, (⟨#[]⟩ : ByteArray), (0, 0, 0, 0, 0, 0, [], 0, 0, 0, 0, 0, []), (0, 0, [], [], [], 0, 0), 0)).2).2).2).2).2) s_1.2.1 s_1.2.2.2.2 r2.1.1) fun (r3 : ((Bool × Int × ByteArray × (Int × Int × Int × Int × Int × Int × (List Int) × Int × Int × Int × Int × Int × List (Int × Int × Int)) × (Int × Int × (List (Int × ByteArray)) × (List (Int × ByteArray)) × (List (Int × Int × Int × ByteArray × Int)) × Int × Int) × Int) × Bool × Unit) × Unit) =>
    bif !r3.1.2.1 then
     some ((w_0, 1, ()), ())
    else
     Option.bind (pleachref21_with (w_0.1, w_0.2.1, w_0.2.2.1, r1.1.1) (IntKind.wrap .i64 (s_1.2.1 - 1)) r3.1.1 []) fun (r4 : (((List (Bool × Int × ByteArray × (Int × Int × Int × Int × Int × Int × (List Int) × Int × Int × Int × Int × Int × List (Int × Int × Int)) × (Int × Int × (List (Int × ByteArray)) × (List (Int × ByteArray)) × (List (Int × Int × Int × ByteArray × Int)) × Int × Int) × Int)) × (List (Int × ByteArray × Bool)) × (List ByteArray) × Int × (List (List Int)) × List (List ((List Int) × Int))) × Unit) × Unit) =>
     some ((r4.1.1, 0, ()), ())
  else
  bif !((List.getD w_0.1 ((IntKind.wrap .i64 (s_1.2.1 - 1)).toNat) (false, 0, (⟨#[]⟩ : ByteArray), (0, 0, 0, 0, 0, 0, [], 0, 0, 0, 0, 0, []), (0, 0, [], [], [], 0, 0), 0)).1) then
   some ((w_0, 3, ()), ())
  else
  bif s_1.1 == 5 then
   Option.bind (pleachref19_TickNode ((List.getD w_0.1 ((IntKind.wrap .i64 (s_1.2.1 - 1)).toNat) (false, 0, (⟨#[]⟩ : ByteArray), (0, 0, 0, 0, 0, 0, [], 0, 0, 0, 0, 0, []), (0, 0, [], [], [], 0, 0), 0)).1, ((List.getD w_0.1 ((IntKind.wrap .i64 (s_1.2.1 - 1)).toNat) (false, 0, (⟨#[]⟩ : ByteArray), (0, 0, 0, 0, 0, 0, [], 0, 0, 0, 0, 0, []), (0, 0, [], [], [], 0, 0), 0)).2).1, (((List.getD w_0.1 ((IntKind.wrap .i64 (s_1.2.1 - 1)).toNat) (false, 0, (⟨#[]⟩ : ByteArray), (0, 0, 0, 0, 0, 0, [], 0, 0, 0, 0, 0, []), (0, 0, [], [], [], 0, 0), 0)).2).2).1, ((((((List.getD w_0.1 ((IntKind.wrap .i64 (s_1.2.1 - 1)).toNat) (false, 0, (⟨#[]⟩ : ByteArray), (0, 0, 0, 0, 0, 0, [], 0, 0, 0, 0, 0, []), (0, 0, [], [], [], 0, 0), 0)).2).2).2).1).1, ((((((List.getD w_0.1 ((IntKind.wrap .i64 (s_1.2.1 - 1)).toNat) (false, 0, (⟨#[]⟩ : ByteArray), (0, 0, 0, 0, 0, 0, [], 0, 0, 0, 0, 0, []), (0, 0, [], [], [], 0, 0), 0)).2).2).2).1).2).1, (((((((List.getD w_0.1 ((IntKind.wrap .i64 (s_1.2.1 - 1)).toNat) (false, 0, (⟨#[]⟩ : ByteArray), (0, 0, 0, 0, 0, 0, [], 0, 0, 0, 0, 0, []), (0, 0, [], [], [], 0, 0), 0)).2).2).2).1).2).2).1, ((((((((List.getD w_0.1 ((IntKind.wrap .i64 (s_1.2.1 - 1)).toNat) (false, 0, (⟨#[]⟩ : ByteArray), (0, 0, 0, 0, 0, 0, [], 0, 0, 0, 0, 0, []), (0, 0, [], [], [], 0, 0), 0)).2).2).2).1).2).2).2).1, (((((((((List.getD w_0.1 ((IntKind.wrap .i64 (s_1.2.1 - 1)).toNat) (false, 0, (⟨#[]⟩ : ByteArray), (0, 0, 0, 0, 0, 0, [], 0, 0, 0, 0, 0, []), (0, 0, [], [], [], 0, 0), 0)).2).2).2).1).2).2).2).2).1, ((((((((((List.getD w_0.1 ((IntKind.wrap .i64 (s_1.2.1 - 1)).toNat) (false, 0, (⟨#[]⟩ : ByteArray), (0, 0, 0, 0, 0, 0, [], 0, 0, 0, 0, 0, []), (0, 0, [], [], [], 0, 0), 0)).2).2).2).1).2).2).2).2).2).1, (((((((((((List.getD w_0.1 ((IntKind.wrap .i64 (s_1.2.1 - 1)).toNat) (false, 0, (⟨#[]⟩ : ByteArray), (0, 0, 0, 0, 0, 0, [], 0, 0, 0, 0, 0, []), (0, 0, [], [], [], 0, 0), 0)).2).2).2).1).2).2).2).2).2).2).1, ((((((((((((List.getD w_0.1 ((IntKind.wrap .i64 (s_1.2.1 - 1)).toNat) (false, 0, (⟨#[]⟩ : ByteArray), (0, 0, 0, 0, 0, 0, [], 0, 0, 0, 0, 0, []), (0, 0, [], [], [], 0, 0), 0)).2).2).2).1).2).2).2).2).2).2).2).1, (((((((((((((List.getD w_0.1 ((IntKind.wrap .i64 (s_1.2.1 - 1)).toNat) (false, 0, (⟨#[]⟩ : ByteArray), (0, 0, 0, 0, 0, 0, [], 0, 0, 0, 0, 0, []), (0, 0, [], [], [], 0, 0), 0)).2).2).2).1).2).2).2).2).2).2).2).2).1, ((((((((((((((List.getD w_0.1 ((IntKind.wrap .i64 (s_1.2.1 - 1)).toNat) (false, 0, (⟨#[]⟩ : ByteArray), (0, 0, 0, 0, 0, 0, [], 0, 0, 0, 0, 0, []), (0, 0, [], [], [], 0, 0), 0)).2).2).2).1).2).2).2).2).2).2).2).2).2).1, (((((((((((((((List.getD w_0.1 ((IntKind.wrap .i64 (s_1.2.1 - 1)).toNat) (false, 0, (⟨#[]⟩ : ByteArray), (0, 0, 0, 0, 0, 0, [], 0, 0, 0, 0, 0, []), (0, 0, [], [], [], 0, 0), 0)).2).2).2).1).2).2).2).2).2).2).2).2).2).2).1, ((((((((((((((((List.getD w_0.1 ((IntKind.wrap .i64 (s_1.2.1 - 1)).toNat) (false, 0, (⟨#[]⟩ : ByteArray), (0, 0, 0, 0, 0, 0, [], 0, 0, 0, 0, 0, []), (0, 0, [], [], [], 0, 0), 0)).2).2).2).1).2).2).2).2).2).2).2).2).2).2).2)), (((((((List.getD w_0.1 ((IntKind.wrap .i64 (s_1.2.1 - 1)).toNat) (false, 0, (⟨#[]⟩ : ByteArray), (0, 0, 0, 0, 0, 0, [], 0, 0, 0, 0, 0, []), (0, 0, [], [], [], 0, 0), 0)).2).2).2).2).1).1, (((((((List.getD w_0.1 ((IntKind.wrap .i64 (s_1.2.1 - 1)).toNat) (false, 0, (⟨#[]⟩ : ByteArray), (0, 0, 0, 0, 0, 0, [], 0, 0, 0, 0, 0, []), (0, 0, [], [], [], 0, 0), 0)).2).2).2).2).1).2).1, ((((((((List.getD w_0.1 ((IntKind.wrap .i64 (s_1.2.1 - 1)).toNat) (false, 0, (⟨#[]⟩ : ByteArray), (0, 0, 0, 0, 0, 0, [], 0, 0, 0, 0, 0, []), (0, 0, [], [], [], 0, 0), 0)).2).2).2).2).1).2).2).1, (((((((((List.getD w_0.1 ((IntKind.wrap .i64 (s_1.2.1 - 1)).toNat) (false, 0, (⟨#[]⟩ : ByteArray), (0, 0, 0, 0, 0, 0, [], 0, 0, 0, 0, 0, []), (0, 0, [], [], [], 0, 0), 0)).2).2).2).2).1).2).2).2).1, ((((((((((List.getD w_0.1 ((IntKind.wrap .i64 (s_1.2.1 - 1)).toNat) (false, 0, (⟨#[]⟩ : ByteArray), (0, 0, 0, 0, 0, 0, [], 0, 0, 0, 0, 0, []), (0, 0, [], [], [], 0, 0), 0)).2).2).2).2).1).2).2).2).2).1, (((((((((((List.getD w_0.1 ((IntKind.wrap .i64 (s_1.2.1 - 1)).toNat) (false, 0, (⟨#[]⟩ : ByteArray), (0, 0, 0, 0, 0, 0, [], 0, 0, 0, 0, 0, []), (0, 0, [], [], [], 0, 0), 0)).2).2).2).2).1).2).2).2).2).2)), (((((List.getD w_0.1 ((IntKind.wrap .i64 (s_1.2.1 - 1)).toNat) (false, 0, (⟨#[]⟩ : ByteArray), (0, 0, 0, 0, 0, 0, [], 0, 0, 0, 0, 0, []), (0, 0, [], [], [], 0, 0), 0)).2).2).2).2).2)) fun (r5 : ((Bool × Int × ByteArray × (Int × Int × Int × Int × Int × Int × (List Int) × Int × Int × Int × Int × Int × List (Int × Int × Int)) × (Int × Int × (List (Int × ByteArray)) × (List (Int × ByteArray)) × (List (Int × Int × Int × ByteArray × Int)) × Int × Int) × Int) × (List (Int × Int × Int × Int × Int × Int × (List Int) × Int × Int × ByteArray)) × Unit) × Unit) =>
   Option.bind (pleachref21_with w_0 (IntKind.wrap .i64 (s_1.2.1 - 1)) r5.1.1 r5.1.2.1) fun (r6 : (((List (Bool × Int × ByteArray × (Int × Int × Int × Int × Int × Int × (List Int) × Int × Int × Int × Int × Int × List (Int × Int × Int)) × (Int × Int × (List (Int × ByteArray)) × (List (Int × ByteArray)) × (List (Int × Int × Int × ByteArray × Int)) × Int × Int) × Int)) × (List (Int × ByteArray × Bool)) × (List ByteArray) × Int × (List (List Int)) × List (List ((List Int) × Int))) × Unit) × Unit) =>
   some ((r6.1.1, 0, ()), ())
  else
  bif (IntKind.wrap .i64 (s_1.2.1 - 1)) == 0 then
   some ((w_0, 1, ()), ())
  else
  bif s_1.1 == 3 then
   Option.bind (pleachref19_Crash ((List.getD w_0.1 ((IntKind.wrap .i64 (s_1.2.1 - 1)).toNat) (false, 0, (⟨#[]⟩ : ByteArray), (0, 0, 0, 0, 0, 0, [], 0, 0, 0, 0, 0, []), (0, 0, [], [], [], 0, 0), 0)).1, ((List.getD w_0.1 ((IntKind.wrap .i64 (s_1.2.1 - 1)).toNat) (false, 0, (⟨#[]⟩ : ByteArray), (0, 0, 0, 0, 0, 0, [], 0, 0, 0, 0, 0, []), (0, 0, [], [], [], 0, 0), 0)).2).1, (((List.getD w_0.1 ((IntKind.wrap .i64 (s_1.2.1 - 1)).toNat) (false, 0, (⟨#[]⟩ : ByteArray), (0, 0, 0, 0, 0, 0, [], 0, 0, 0, 0, 0, []), (0, 0, [], [], [], 0, 0), 0)).2).2).1, ((((((List.getD w_0.1 ((IntKind.wrap .i64 (s_1.2.1 - 1)).toNat) (false, 0, (⟨#[]⟩ : ByteArray), (0, 0, 0, 0, 0, 0, [], 0, 0, 0, 0, 0, []), (0, 0, [], [], [], 0, 0), 0)).2).2).2).1).1, ((((((List.getD w_0.1 ((IntKind.wrap .i64 (s_1.2.1 - 1)).toNat) (false, 0, (⟨#[]⟩ : ByteArray), (0, 0, 0, 0, 0, 0, [], 0, 0, 0, 0, 0, []), (0, 0, [], [], [], 0, 0), 0)).2).2).2).1).2).1, (((((((List.getD w_0.1 ((IntKind.wrap .i64 (s_1.2.1 - 1)).toNat) (false, 0, (⟨#[]⟩ : ByteArray), (0, 0, 0, 0, 0, 0, [], 0, 0, 0, 0, 0, []), (0, 0, [], [], [], 0, 0), 0)).2).2).2).1).2).2).1, ((((((((List.getD w_0.1 ((IntKind.wrap .i64 (s_1.2.1 - 1)).toNat) (false, 0, (⟨#[]⟩ : ByteArray), (0, 0, 0, 0, 0, 0, [], 0, 0, 0, 0, 0, []), (0, 0, [], [], [], 0, 0), 0)).2).2).2).1).2).2).2).1, (((((((((List.getD w_0.1 ((IntKind.wrap .i64 (s_1.2.1 - 1)).toNat) (false, 0, (⟨#[]⟩ : ByteArray), (0, 0, 0, 0, 0, 0, [], 0, 0, 0, 0, 0, []), (0, 0, [], [], [], 0, 0), 0)).2).2).2).1).2).2).2).2).1, ((((((((((List.getD w_0.1 ((IntKind.wrap .i64 (s_1.2.1 - 1)).toNat) (false, 0, (⟨#[]⟩ : ByteArray), (0, 0, 0, 0, 0, 0, [], 0, 0, 0, 0, 0, []), (0, 0, [], [], [], 0, 0), 0)).2).2).2).1).2).2).2).2).2).1, (((((((((((List.getD w_0.1 ((IntKind.wrap .i64 (s_1.2.1 - 1)).toNat) (false, 0, (⟨#[]⟩ : ByteArray), (0, 0, 0, 0, 0, 0, [], 0, 0, 0, 0, 0, []), (0, 0, [], [], [], 0, 0), 0)).2).2).2).1).2).2).2).2).2).2).1, ((((((((((((List.getD w_0.1 ((IntKind.wrap .i64 (s_1.2.1 - 1)).toNat) (false, 0, (⟨#[]⟩ : ByteArray), (0, 0, 0, 0, 0, 0, [], 0, 0, 0, 0, 0, []), (0, 0, [], [], [], 0, 0), 0)).2).2).2).1).2).2).2).2).2).2).2).1, (((((((((((((List.getD w_0.1 ((IntKind.wrap .i64 (s_1.2.1 - 1)).toNat) (false, 0, (⟨#[]⟩ : ByteArray), (0, 0, 0, 0, 0, 0, [], 0, 0, 0, 0, 0, []), (0, 0, [], [], [], 0, 0), 0)).2).2).2).1).2).2).2).2).2).2).2).2).1, ((((((((((((((List.getD w_0.1 ((IntKind.wrap .i64 (s_1.2.1 - 1)).toNat) (false, 0, (⟨#[]⟩ : ByteArray), (0, 0, 0, 0, 0, 0, [], 0, 0, 0, 0, 0, []), (0, 0, [], [], [], 0, 0), 0)).2).2).2).1).2).2).2).2).2).2).2).2).2).1, (((((((((((((((List.getD w_0.1 ((IntKind.wrap .i64 (s_1.2.1 - 1)).toNat) (false, 0, (⟨#[]⟩ : ByteArray), (0, 0, 0, 0, 0, 0, [], 0, 0, 0, 0, 0, []), (0, 0, [], [], [], 0, 0), 0)).2).2).2).1).2).2).2).2).2).2).2).2).2).2).1, ((((((((((((((((List.getD w_0.1 ((IntKind.wrap .i64 (s_1.2.1 - 1)).toNat) (false, 0, (⟨#[]⟩ : ByteArray), (0, 0, 0, 0, 0, 0, [], 0, 0, 0, 0, 0, []), (0, 0, [], [], [], 0, 0), 0)).2).2).2).1).2).2).2).2).2).2).2).2).2).2).2)), (((((((List.getD w_0.1 ((IntKind.wrap .i64 (s_1.2.1 - 1)).toNat) (false, 0, (⟨#[]⟩ : ByteArray), (0, 0, 0, 0, 0, 0, [], 0, 0, 0, 0, 0, []), (0, 0, [], [], [], 0, 0), 0)).2).2).2).2).1).1, (((((((List.getD w_0.1 ((IntKind.wrap .i64 (s_1.2.1 - 1)).toNat) (false, 0, (⟨#[]⟩ : ByteArray), (0, 0, 0, 0, 0, 0, [], 0, 0, 0, 0, 0, []), (0, 0, [], [], [], 0, 0), 0)).2).2).2).2).1).2).1, ((((((((List.getD w_0.1 ((IntKind.wrap .i64 (s_1.2.1 - 1)).toNat) (false, 0, (⟨#[]⟩ : ByteArray), (0, 0, 0, 0, 0, 0, [], 0, 0, 0, 0, 0, []), (0, 0, [], [], [], 0, 0), 0)).2).2).2).2).1).2).2).1, (((((((((List.getD w_0.1 ((IntKind.wrap .i64 (s_1.2.1 - 1)).toNat) (false, 0, (⟨#[]⟩ : ByteArray), (0, 0, 0, 0, 0, 0, [], 0, 0, 0, 0, 0, []), (0, 0, [], [], [], 0, 0), 0)).2).2).2).2).1).2).2).2).1, ((((((((((List.getD w_0.1 ((IntKind.wrap .i64 (s_1.2.1 - 1)).toNat) (false, 0, (⟨#[]⟩ : ByteArray), (0, 0, 0, 0, 0, 0, [], 0, 0, 0, 0, 0, []), (0, 0, [], [], [], 0, 0), 0)).2).2).2).2).1).2).2).2).2).1, (((((((((((List.getD w_0.1 ((IntKind.wrap .i64 (s_1.2.1 - 1)).toNat) (false, 0, (⟨#[]⟩ : ByteArray), (0, 0, 0, 0, 0, 0, [], 0, 0, 0, 0, 0, []), (0, 0, [], [], [], 0, 0), 0)).2).2).2).2).1).2).2).2).2).2)), (((((List.getD w_0.1 ((IntKind.wrap .i64 (s_1.2.1 - 1)).toNat) (false, 0, (⟨#[]⟩ : ByteArray), (0, 0, 0, 0, 0, 0, [], 0, 0, 0, 0, 0, []), (0, 0, [], [], [], 0, 0), 0)).2).2).2).2).2)) fun (r7 : ((Bool × Int × ByteArray × (Int × Int × Int × Int × Int × Int × (List Int) × Int × Int × Int × Int × Int × List (Int × Int × Int)) × (Int × Int × (List (Int × ByteArray)) × (List (Int × ByteArray)) × (List (Int × Int × Int × ByteArray × Int)) × Int × Int) × Int) × Unit) × Unit) =>
   Option.bind (pleachref21_with w_0 (IntKind.wrap .i64 (s_1.2.1 - 1)) r7.1.1 []) fun (r8 : (((List (Bool × Int × ByteArray × (Int × Int × Int × Int × Int × Int × (List Int) × Int × Int × Int × Int × Int × List (Int × Int × Int)) × (Int × Int × (List (Int × ByteArray)) × (List (Int × ByteArray)) × (List (Int × Int × Int × ByteArray × Int)) × Int × Int) × Int)) × (List (Int × ByteArray × Bool)) × (List ByteArray) × Int × (List (List Int)) × List (List ((List Int) × Int))) × Unit) × Unit) =>
   some ((r8.1.1, 0, ()), ())
  else
   Option.bind (pleachref19_Off ((List.getD w_0.1 ((IntKind.wrap .i64 (s_1.2.1 - 1)).toNat) (false, 0, (⟨#[]⟩ : ByteArray), (0, 0, 0, 0, 0, 0, [], 0, 0, 0, 0, 0, []), (0, 0, [], [], [], 0, 0), 0)).1, ((List.getD w_0.1 ((IntKind.wrap .i64 (s_1.2.1 - 1)).toNat) (false, 0, (⟨#[]⟩ : ByteArray), (0, 0, 0, 0, 0, 0, [], 0, 0, 0, 0, 0, []), (0, 0, [], [], [], 0, 0), 0)).2).1, (((List.getD w_0.1 ((IntKind.wrap .i64 (s_1.2.1 - 1)).toNat) (false, 0, (⟨#[]⟩ : ByteArray), (0, 0, 0, 0, 0, 0, [], 0, 0, 0, 0, 0, []), (0, 0, [], [], [], 0, 0), 0)).2).2).1, ((((((List.getD w_0.1 ((IntKind.wrap .i64 (s_1.2.1 - 1)).toNat) (false, 0, (⟨#[]⟩ : ByteArray), (0, 0, 0, 0, 0, 0, [], 0, 0, 0, 0, 0, []), (0, 0, [], [], [], 0, 0), 0)).2).2).2).1).1, ((((((List.getD w_0.1 ((IntKind.wrap .i64 (s_1.2.1 - 1)).toNat) (false, 0, (⟨#[]⟩ : ByteArray), (0, 0, 0, 0, 0, 0, [], 0, 0, 0, 0, 0, []), (0, 0, [], [], [], 0, 0), 0)).2).2).2).1).2).1, (((((((List.getD w_0.1 ((IntKind.wrap .i64 (s_1.2.1 - 1)).toNat) (false, 0, (⟨#[]⟩ : ByteArray), (0, 0, 0, 0, 0, 0, [], 0, 0, 0, 0, 0, []), (0, 0, [], [], [], 0, 0), 0)).2).2).2).1).2).2).1, ((((((((List.getD w_0.1 ((IntKind.wrap .i64 (s_1.2.1 - 1)).toNat) (false, 0, (⟨#[]⟩ : ByteArray), (0, 0, 0, 0, 0, 0, [], 0, 0, 0, 0, 0, []), (0, 0, [], [], [], 0, 0), 0)).2).2).2).1).2).2).2).1, (((((((((List.getD w_0.1 ((IntKind.wrap .i64 (s_1.2.1 - 1)).toNat) (false, 0, (⟨#[]⟩ : ByteArray), (0, 0, 0, 0, 0, 0, [], 0, 0, 0, 0, 0, []), (0, 0, [], [], [], 0, 0), 0)).2).2).2).1).2).2).2).2).1, ((((((((((List.getD w_0.1 ((IntKind.wrap .i64 (s_1.2.1 - 1)).toNat) (false, 0, (⟨#[]⟩ : ByteArray), (0, 0, 0, 0, 0, 0, [], 0, 0, 0, 0, 0, []), (0, 0, [], [], [], 0, 0), 0)).2).2).2).1).2).2).2).2).2).1, (((((((((((List.getD w_0.1 ((IntKind.wrap .i64 (s_1.2.1 - 1)).toNat) (false, 0, (⟨#[]⟩ : ByteArray), (0, 0, 0, 0, 0, 0, [], 0, 0, 0, 0, 0, []), (0, 0, [], [], [], 0, 0), 0)).2).2).2).1).2).2).2).2).2).2).1, ((((((((((((List.getD w_0.1 ((IntKind.wrap .i64 (s_1.2.1 - 1)).toNat) (false, 0, (⟨#[]⟩ : ByteArray), (0, 0, 0, 0, 0, 0, [], 0, 0, 0, 0, 0, []), (0, 0, [], [], [], 0, 0), 0)).2).2).2).1).2).2).2).2).2).2).2).1, (((((((((((((List.getD w_0.1 ((IntKind.wrap .i64 (s_1.2.1 - 1)).toNat) (false, 0, (⟨#[]⟩ : ByteArray), (0, 0, 0, 0, 0, 0, [], 0, 0, 0, 0, 0, []), (0, 0, [], [], [], 0, 0), 0)).2).2).2).1).2).2).2).2).2).2).2).2).1, ((((((((((((((List.getD w_0.1 ((IntKind.wrap .i64 (s_1.2.1 - 1)).toNat) (false, 0, (⟨#[]⟩ : ByteArray), (0, 0, 0, 0, 0, 0, [], 0, 0, 0, 0, 0, []), (0, 0, [], [], [], 0, 0), 0)).2).2).2).1).2).2).2).2).2).2).2).2).2).1, (((((((((((((((List.getD w_0.1 ((IntKind.wrap .i64 (s_1.2.1 - 1)).toNat) (false, 0, (⟨#[]⟩ : ByteArray), (0, 0, 0, 0, 0, 0, [], 0, 0, 0, 0, 0, []), (0, 0, [], [], [], 0, 0), 0)).2).2).2).1).2).2).2).2).2).2).2).2).2).2).1, ((((((((((((((((List.getD w_0.1 ((IntKind.wrap .i64 (s_1.2.1 - 1)).toNat) (false, 0, (⟨#[]⟩ : ByteArray), (0, 0, 0, 0, 0, 0, [], 0, 0, 0, 0, 0, []), (0, 0, [], [], [], 0, 0), 0)).2).2).2).1).2).2).2).2).2).2).2).2).2).2).2)), (((((((List.getD w_0.1 ((IntKind.wrap .i64 (s_1.2.1 - 1)).toNat) (false, 0, (⟨#[]⟩ : ByteArray), (0, 0, 0, 0, 0, 0, [], 0, 0, 0, 0, 0, []), (0, 0, [], [], [], 0, 0), 0)).2).2).2).2).1).1, (((((((List.getD w_0.1 ((IntKind.wrap .i64 (s_1.2.1 - 1)).toNat) (false, 0, (⟨#[]⟩ : ByteArray), (0, 0, 0, 0, 0, 0, [], 0, 0, 0, 0, 0, []), (0, 0, [], [], [], 0, 0), 0)).2).2).2).2).1).2).1, ((((((((List.getD w_0.1 ((IntKind.wrap .i64 (s_1.2.1 - 1)).toNat) (false, 0, (⟨#[]⟩ : ByteArray), (0, 0, 0, 0, 0, 0, [], 0, 0, 0, 0, 0, []), (0, 0, [], [], [], 0, 0), 0)).2).2).2).2).1).2).2).1, (((((((((List.getD w_0.1 ((IntKind.wrap .i64 (s_1.2.1 - 1)).toNat) (false, 0, (⟨#[]⟩ : ByteArray), (0, 0, 0, 0, 0, 0, [], 0, 0, 0, 0, 0, []), (0, 0, [], [], [], 0, 0), 0)).2).2).2).2).1).2).2).2).1, ((((((((((List.getD w_0.1 ((IntKind.wrap .i64 (s_1.2.1 - 1)).toNat) (false, 0, (⟨#[]⟩ : ByteArray), (0, 0, 0, 0, 0, 0, [], 0, 0, 0, 0, 0, []), (0, 0, [], [], [], 0, 0), 0)).2).2).2).2).1).2).2).2).2).1, (((((((((((List.getD w_0.1 ((IntKind.wrap .i64 (s_1.2.1 - 1)).toNat) (false, 0, (⟨#[]⟩ : ByteArray), (0, 0, 0, 0, 0, 0, [], 0, 0, 0, 0, 0, []), (0, 0, [], [], [], 0, 0), 0)).2).2).2).2).1).2).2).2).2).2)), (((((List.getD w_0.1 ((IntKind.wrap .i64 (s_1.2.1 - 1)).toNat) (false, 0, (⟨#[]⟩ : ByteArray), (0, 0, 0, 0, 0, 0, [], 0, 0, 0, 0, 0, []), (0, 0, [], [], [], 0, 0), 0)).2).2).2).2).2)) fun (r9 : ((Bool × Int × ByteArray × (Int × Int × Int × Int × Int × Int × (List Int) × Int × Int × Int × Int × Int × List (Int × Int × Int)) × (Int × Int × (List (Int × ByteArray)) × (List (Int × ByteArray)) × (List (Int × Int × Int × ByteArray × Int)) × Int × Int) × Int) × (List (Int × Int × Int × Int × Int × Int × (List Int) × Int × Int × ByteArray)) × Unit) × Unit) =>
   Option.bind (pleachref7_Leave w_0.2.2.2 s_1.2.1) fun (r10 : ((Int × (List (List Int)) × List (List ((List Int) × Int))) × Unit) × Unit) =>
   Option.bind (pleachref21_with (w_0.1, w_0.2.1, w_0.2.2.1, r10.1.1) (IntKind.wrap .i64 (s_1.2.1 - 1)) r9.1.1 r9.1.2.1) fun (r11 : (((List (Bool × Int × ByteArray × (Int × Int × Int × Int × Int × Int × (List Int) × Int × Int × Int × Int × Int × List (Int × Int × Int)) × (Int × Int × (List (Int × ByteArray)) × (List (Int × ByteArray)) × (List (Int × Int × Int × ByteArray × Int)) × Int × Int) × Int)) × (List (Int × ByteArray × Bool)) × (List ByteArray) × Int × (List (List Int)) × List (List ((List Int) × Int))) × Unit) × Unit) =>
   some ((r11.1.1, 0, ()), ())
 else none
theorem pleachref21_of_eq (w_0 : (List (Bool × Int × ByteArray × (Int × Int × Int × Int × Int × Int × (List Int) × Int × Int × Int × Int × Int × List (Int × Int × Int)) × (Int × Int × (List (Int × ByteArray)) × (List (Int × ByteArray)) × (List (Int × Int × Int × ByteArray × Int)) × Int × Int) × Int)) × (List (Int × ByteArray × Bool)) × (List ByteArray) × Int × (List (List Int)) × List (List ((List Int) × Int))) (s_1 : Int × Int × Int × Int × ByteArray) : evFn pleachref21_of_Γ tab pleachref21_of_fi 1 [.val t31, .val t69] [⟨t31, [false, false, false, false, false, false], none⟩, ⟨t2, [false], none⟩] Tryz.f41 (w_0, s_1, ()) = pleachref21_of w_0 s_1 := by kernel_rfl
noncomputable def pleachref21_of_e : Ent := ⟨[.val t31, .val t69], [⟨t31, [false, false, false, false, false, false], none⟩, ⟨t2, [false], none⟩], fun x => pleachref21_of x.1 x.2.1⟩
theorem pleachref21_of_good : Good tab.ty Tryz.prog 41 pleachref21_of_e := by
  refine fn_good (Γ := pleachref21_of_Γ) (fi := pleachref21_of_fi) (n := 1) follows (gcons pleachref7_Join_good (gcons pleachref19_Join_good (gcons pleachref21_with_good (gcons pleachref7_Ask_good (gcons pleachref19_TickNode_good (gcons pleachref19_Crash_good (gcons pleachref19_Off_good (gcons pleachref7_Leave_good gnil)))))))) tabok Tryz.func41 (by kernel_rfl) (by kernel_rfl) (fun x r h => ?_)
  obtain ⟨w_0, s_1, _u⟩ := x
  exact (pleachref21_of_eq w_0 s_1).trans h
noncomputable def pleachref13_Say_Γ : Ctx := [(92, pleachref13_Tell_e), (93, pleachref13_AddRing_e)]
def pleachref13_Say_fi : Fi := { keep := [], vty := [], vals := [], live := [(0, [1, 2, 4, 14, 15]), (1, [1, 2, 4, 6, 14, 15]), (2, [1, 2, 4, 6, 16]), (3, [4, 5]), (4, [2, 4, 6]), (5, [2, 4]), (6, [4, 5])] }
noncomputable def pleachref13_Say (f_0 : Int × Int × (List (Int × ByteArray)) × (List (Int × ByteArray)) × (List (Int × Int × Int × ByteArray × Int)) × Int × Int) (text_1 : ByteArray) : Option (((Int × Int × (List (Int × ByteArray)) × (List (Int × ByteArray)) × (List (Int × Int × Int × ByteArray × Int)) × Int × Int) × Bool × Unit) × Unit) :=
 bif decide ((text_1.size : Int) > 12) then
  some ((f_0, false, ()), ())
 else
 bif decide ((if 1 > f_0.1 then 1 else f_0.1) > 1000000) then
  some ((f_0, false, ()), ())
 else
  Option.bind (pleachref13_Tell f_0.2.2.2.2.1 (if 1 > f_0.1 then 1 else f_0.1) text_1) fun (r1 : ((List (Int × Int × Int × ByteArray × Int)) × Unit) × Unit) =>
  Option.bind (pleachref13_AddRing f_0.2.2.1 (if 1 > f_0.1 then 1 else f_0.1, text_1)) fun (r2 : ((List (Int × ByteArray)) × Unit) × Unit) =>
  some (((IntKind.wrap .i64 ((if 1 > f_0.1 then 1 else f_0.1) + 1), if 1 > f_0.1 then 1 else f_0.1, r2.1.1, f_0.2.2.2.1, r1.1.1, f_0.2.2.2.2.2), true, ()), ())
theorem pleachref13_Say_eq (f_0 : Int × Int × (List (Int × ByteArray)) × (List (Int × ByteArray)) × (List (Int × Int × Int × ByteArray × Int)) × Int × Int) (text_1 : ByteArray) : evFn pleachref13_Say_Γ tab pleachref13_Say_fi 1 [.val t45, .val t9] [⟨t45, [false, false, false, false, false, false, false], none⟩, ⟨t4, [false], none⟩] Tryz.f70 (f_0, text_1, ()) = pleachref13_Say f_0 text_1 := by kernel_rfl
noncomputable def pleachref13_Say_e : Ent := ⟨[.val t45, .val t9], [⟨t45, [false, false, false, false, false, false, false], none⟩, ⟨t4, [false], none⟩], fun x => pleachref13_Say x.1 x.2.1⟩
theorem pleachref13_Say_good : Good tab.ty Tryz.prog 70 pleachref13_Say_e := by
  refine fn_good (Γ := pleachref13_Say_Γ) (fi := pleachref13_Say_fi) (n := 1) follows (gcons pleachref13_Tell_good (gcons pleachref13_AddRing_good gnil)) tabok Tryz.func70 (by kernel_rfl) (by kernel_rfl) (fun x r h => ?_)
  obtain ⟨f_0, text_1, _u⟩ := x
  exact (pleachref13_Say_eq f_0 text_1).trans h
noncomputable def pleachref19_Say_Γ : Ctx := [(70, pleachref13_Say_e), (71, pleachref19_down_e)]
def pleachref19_Say_fi : Fi := { keep := [], vty := [], vals := [], live := [(0, [1, 2, 4, 21, 22, 23, 24, 27, 28]), (1, [2, 4, 7, 8, 21, 22, 23, 24, 27, 28]), (2, [2, 4, 7, 29]), (3, [4, 5, 6]), (4, [2, 4, 7, 9]), (5, [2, 4, 7, 9]), (6, [4, 5, 6])] }
noncomputable def pleachref19_Say (n_0 : Bool × Int × ByteArray × (Int × Int × Int × Int × Int × Int × (List Int) × Int × Int × Int × Int × Int × List (Int × Int × Int)) × (Int × Int × (List (Int × ByteArray)) × (List (Int × ByteArray)) × (List (Int × Int × Int × ByteArray × Int)) × Int × Int) × Int) (text_1 : ByteArray) : Option (((Bool × Int × ByteArray × (Int × Int × Int × Int × Int × Int × (List Int) × Int × Int × Int × Int × Int × List (Int × Int × Int)) × (Int × Int × (List (Int × ByteArray)) × (List (Int × ByteArray)) × (List (Int × Int × Int × ByteArray × Int)) × Int × Int) × Int) × (List (Int × Int × Int × Int × Int × Int × (List Int) × Int × Int × ByteArray)) × Bool × Unit) × Unit) :=
 Option.bind (pleachref13_Say n_0.2.2.2.2.1 text_1) fun (r1 : ((Int × Int × (List (Int × ByteArray)) × (List (Int × ByteArray)) × (List (Int × Int × Int × ByteArray × Int)) × Int × Int) × Bool × Unit) × Unit) =>
 bif !n_0.1 then
  some ((n_0, [], false, ()), ())
 else
 bif n_0.2.2.2.1.1 != 1 then
  some ((n_0, [], false, ()), ())
 else
 bif !r1.1.2.1 then
  some ((n_0, [], false, ()), ())
 else
 bif (decide (0 ≤ (n_0.2.2.2.2.1.2.2.2.2.1.length : Int)) && decide ((n_0.2.2.2.2.1.2.2.2.2.1.length : Int) ≤ (r1.1.1.2.2.2.2.1.length : Int))) && decide ((r1.1.1.2.2.2.2.1.length : Int) ≤ (r1.1.1.2.2.2.2.1.length : Int)) then
  Option.bind (pleachref19_down n_0.2.2.2.1 (List.drop ((n_0.2.2.2.2.1.2.2.2.2.1.length : Int).toNat) (List.take ((r1.1.1.2.2.2.2.1.length : Int).toNat) r1.1.1.2.2.2.2.1))) fun (r2 : ((List (Int × Int × Int × Int × Int × Int × (List Int) × Int × Int × ByteArray)) × Unit) × Unit) =>
  some (((n_0.1, n_0.2.1, n_0.2.2.1, n_0.2.2.2.1, r1.1.1, n_0.2.2.2.2.2), r2.1.1, true, ()), ())
 else none
theorem pleachref19_Say_eq (n_0 : Bool × Int × ByteArray × (Int × Int × Int × Int × Int × Int × (List Int) × Int × Int × Int × Int × Int × List (Int × Int × Int)) × (Int × Int × (List (Int × ByteArray)) × (List (Int × ByteArray)) × (List (Int × Int × Int × ByteArray × Int)) × Int × Int) × Int) (text_1 : ByteArray) : evFn pleachref19_Say_Γ tab pleachref19_Say_fi 1 [.val t47, .val t9] [⟨t47, [false, false, false, false, false, false, false, false, false, false, false, false, false, false, false, false, false, false, false, false, false, false, false, false], none⟩, ⟨t89, [true], none⟩, ⟨t4, [false], none⟩] Tryz.f42 (n_0, text_1, ()) = pleachref19_Say n_0 text_1 := by kernel_rfl
noncomputable def pleachref19_Say_e : Ent := ⟨[.val t47, .val t9], [⟨t47, [false, false, false, false, false, false, false, false, false, false, false, false, false, false, false, false, false, false, false, false, false, false, false, false], none⟩, ⟨t89, [true], none⟩, ⟨t4, [false], none⟩], fun x => pleachref19_Say x.1 x.2.1⟩
theorem pleachref19_Say_good : Good tab.ty Tryz.prog 42 pleachref19_Say_e := by
  refine fn_good (Γ := pleachref19_Say_Γ) (fi := pleachref19_Say_fi) (n := 1) follows (gcons pleachref13_Say_good (gcons pleachref19_down_good gnil)) tabok Tryz.func42 (by kernel_rfl) (by kernel_rfl) (fun x r h => ?_)
  obtain ⟨n_0, text_1, _u⟩ := x
  exact (pleachref19_Say_eq n_0 text_1).trans h
noncomputable def pleachref13_Gone_Γ : Ctx := []
def pleachref13_Gone_fi : Fi := { keep := [], vty := [], vals := [], live := [(0, [0, 1, 5, 10, 11, 12, 13]), (1, [0, 1, 5, 14]), (2, [4, 5, 6]), (3, [4, 5, 6])] }
noncomputable def pleachref13_Gone (l_0 : List (Int × ByteArray × Bool)) (i_1 : Int) : Option (((List (Int × ByteArray × Bool)) × (Int × ByteArray × Bool) × Bool × Unit) × Unit) :=
 bif decide (i_1 < 0) then
  some ((l_0, (0, (⟨#[]⟩ : ByteArray), false), false, ()), ())
 else
 bif decide (i_1 ≥ (l_0.length : Int)) then
  some ((l_0, (0, (⟨#[]⟩ : ByteArray), false), false, ()), ())
 else
 bif decide (0 ≤ i_1) && decide (i_1 ≤ (l_0.length : Int)) then
  bif Nat.ble (0 + (List.drop 0 (List.take i_1.toNat l_0)).length) 1073741824 then
   bif (decide (0 ≤ IntKind.wrap .i64 (i_1 + 1)) && decide (IntKind.wrap .i64 (i_1 + 1) ≤ (l_0.length : Int))) && decide ((l_0.length : Int) ≤ (l_0.length : Int)) then
    bif Nat.ble (([] ++ (List.drop 0 (List.take i_1.toNat l_0))).length + (List.drop ((IntKind.wrap .i64 (i_1 + 1)).toNat) (List.take ((l_0.length : Int).toNat) l_0)).length) 1073741824 then
     bif decide (0 ≤ i_1) && decide (i_1 < (l_0.length : Int)) then
      some ((([] ++ (List.drop 0 (List.take i_1.toNat l_0))) ++ (List.drop ((IntKind.wrap .i64 (i_1 + 1)).toNat) (List.take ((l_0.length : Int).toNat) l_0)), ((List.getD l_0 i_1.toNat (0, (⟨#[]⟩ : ByteArray), false)).1, ((List.getD l_0 i_1.toNat (0, (⟨#[]⟩ : ByteArray), false)).2)), true, ()), ())
     else none
    else none
   else none
  else none
 else none
theorem pleachref13_Gone_eq (l_0 : List (Int × ByteArray × Bool)) (i_1 : Int) : evFn pleachref13_Gone_Γ tab pleachref13_Gone_fi 1 [.val t25, .val t2] [⟨t25, [false], none⟩, ⟨t93, [false, false, false], none⟩, ⟨t4, [false], none⟩] Tryz.f44 (l_0, i_1, ()) = pleachref13_Gone l_0 i_1 := by kernel_rfl
noncomputable def pleachref13_Gone_e : Ent := ⟨[.val t25, .val t2], [⟨t25, [false], none⟩, ⟨t93, [false, false, false], none⟩, ⟨t4, [false], none⟩], fun x => pleachref13_Gone x.1 x.2.1⟩
theorem pleachref13_Gone_good : Good tab.ty Tryz.prog 44 pleachref13_Gone_e := by
  refine fn_good (Γ := pleachref13_Gone_Γ) (fi := pleachref13_Gone_fi) (n := 1) follows gnil tabok Tryz.func44 (by kernel_rfl) (by kernel_rfl) (fun x r h => ?_)
  obtain ⟨l_0, i_1, _u⟩ := x
  exact (pleachref13_Gone_eq l_0 i_1).trans h
noncomputable def pleachref10_TakeNum_Γ : Ctx := []
def pleachref10_TakeNum_fi : Fi := { keep := [], vty := [], vals := [], live := [(0, [0, 13, 14, 38, 39, 40, 41, 42, 45, 46]), (1, [0, 5, 6, 13, 14, 38, 39, 40, 41, 42, 45, 46]), (2, [0, 5, 6, 7, 13, 14, 38, 39, 40, 41, 42, 45, 46]), (3, [0, 5, 6, 7, 13, 14, 15, 38, 39, 40, 41, 42, 45, 46]), (4, [0, 5, 6, 7, 13, 14, 38, 39, 40, 41, 42, 45, 46]), (5, [0, 5, 6, 7, 13, 14, 38, 39, 40, 41, 42, 45, 46]), (6, [0, 5, 6, 7, 13, 14, 38, 39, 40, 41, 42, 45, 46]), (7, [0, 5, 6, 7, 13, 14, 34, 38, 39, 40, 41, 42, 45, 46]), (8, [5, 7, 47]), (9, [2, 3, 4]), (10, [2, 3, 4]), (11, [2, 3, 4])] }
noncomputable def pleachref10_TakeNum_B1 (L1 : List Int → Int → Int → Int → Option ((Int × Int × Bool × Unit) × Unit)) (v1 : List Int) (v2 : Int) (v3 : Int) (v4 : Int) : Option ((Int × Int × Bool × Unit) × Unit) :=
 bif decide (v4 < (v1.length : Int)) then
  bif decide (v4 < 5) then
   bif decide (0 ≤ v4) && decide (v4 < (v1.length : Int)) then
    bif decide (0 ≤ v4) && decide (v4 < (v1.length : Int)) then
     bif decide (List.getD v1 v4.toNat 0 < 128) then
      bif decide (v4 > 0) then
       bif decide (0 ≤ v4) && decide (v4 < (v1.length : Int)) then
        bif (List.getD v1 v4.toNat 0) == 0 then
         some ((0, 0, false, ()), ())
        else
        bif decide (IntKind.wrap .i64 (v2 + (IntKind.wrap .i64 ((IntKind.wrap .i64 (Int.tmod (List.getD v1 v4.toNat 0) 128)) * v3))) > 1073741824) then
         some ((0, 0, false, ()), ())
        else
         some ((IntKind.wrap .i64 (v2 + (IntKind.wrap .i64 ((IntKind.wrap .i64 (Int.tmod (List.getD v1 v4.toNat 0) 128)) * v3))), IntKind.wrap .i64 (v4 + 1), true, ()), ())
       else none
      else
      bif decide (IntKind.wrap .i64 (v2 + (IntKind.wrap .i64 ((IntKind.wrap .i64 (Int.tmod (List.getD v1 v4.toNat 0) 128)) * v3))) > 1073741824) then
       some ((0, 0, false, ()), ())
      else
       some ((IntKind.wrap .i64 (v2 + (IntKind.wrap .i64 ((IntKind.wrap .i64 (Int.tmod (List.getD v1 v4.toNat 0) 128)) * v3))), IntKind.wrap .i64 (v4 + 1), true, ()), ())
     else
      L1 v1 (IntKind.wrap .i64 (v2 + (IntKind.wrap .i64 ((IntKind.wrap .i64 (Int.tmod (List.getD v1 v4.toNat 0) 128)) * v3)))) (IntKind.wrap .i64 (v3 * 128)) (IntKind.wrap .i64 (v4 + 1))
    else none
   else none
  else
   some ((0, 0, false, ()), ())
 else
  some ((0, 0, false, ()), ())
noncomputable def pleachref10_TakeNum_T (L1 : List Int → Int → Int → Int → Option ((Int × Int × Bool × Unit) × Unit)) (b_0 : List Int) : Option ((Int × Int × Bool × Unit) × Unit) :=
 L1 b_0 0 1 0
noncomputable def pleachref10_TakeNum_L1 (n : Nat) : Nat → List Int → Int → Int → Int → Option ((Int × Int × Bool × Unit) × Unit) := iter (fun _ _ _ _ => none) fun L => pleachref10_TakeNum_B1 L
noncomputable def pleachref10_TakeNum_X1 (n m : Nat) (v1 : List Int) (v2 : Int) (v3 : Int) (v4 : Int) : Option ((Int × Int × Bool × Unit) × Unit) :=
 atLoop pleachref10_TakeNum_Γ tab (fiB [.val t22] pleachref10_TakeNum_fi) n [.val t22] [⟨t2, [false], none⟩, ⟨t2, [false], none⟩, ⟨t4, [false], none⟩] Tryz.f139 [1, 1, 0, 1, 0] [] [0, 5, 6, 7] m
 ⟨[(0, SV.cv (CV.one (LV.pure t22 v1))), (5, SV.cv (CV.one (LV.pure t2 v2))), (6, SV.cv (CV.one (LV.pure t2 v3))), (7, SV.cv (CV.one (LV.pure t2 v4)))],
  []⟩
theorem pleachref10_TakeNum_step1 (n m : Nat) (v1 : List Int) (v2 : Int) (v3 : Int) (v4 : Int) : pleachref10_TakeNum_X1 n (m + 1) v1 v2 v3 v4 = pleachref10_TakeNum_B1 (pleachref10_TakeNum_X1 n m) v1 v2 v3 v4 := by kernel_rfl
theorem pleachref10_TakeNum_start (n : Nat) (b_0 : List Int) : evFn pleachref10_TakeNum_Γ tab pleachref10_TakeNum_fi n [.val t22] [⟨t2, [false], none⟩, ⟨t2, [false], none⟩, ⟨t4, [false], none⟩] Tryz.f139 (b_0, ()) = pleachref10_TakeNum_T (pleachref10_TakeNum_X1 n n) b_0 := by kernel_rfl
theorem pleachref10_TakeNum_XL1 (n : Nat) : ∀ m, pleachref10_TakeNum_X1 n m = pleachref10_TakeNum_L1 n m
 | 0 => rfl
 | m + 1 => by
  have ih := pleachref10_TakeNum_XL1 n m
  funext v1 v2 v3 v4
  rw [pleachref10_TakeNum_step1, ih]
  rfl
noncomputable def pleachref10_TakeNum_n (n : Nat) (b_0 : List Int) : Option ((Int × Int × Bool × Unit) × Unit) := pleachref10_TakeNum_T (pleachref10_TakeNum_L1 n n) b_0
noncomputable def pleachref10_TakeNum (b_0 : List Int) : Option ((Int × Int × Bool × Unit) × Unit) := pleachref10_TakeNum_n 1099511627776 b_0
theorem pleachref10_TakeNum_eq (n : Nat) (b_0 : List Int) : evFn pleachref10_TakeNum_Γ tab pleachref10_TakeNum_fi n [.val t22] [⟨t2, [false], none⟩, ⟨t2, [false], none⟩, ⟨t4, [false], none⟩] Tryz.f139 (b_0, ()) = pleachref10_TakeNum_n n b_0 := by
  rw [pleachref10_TakeNum_start, pleachref10_TakeNum_XL1 n n]
  rfl
noncomputable def pleachref10_TakeNum_e : Ent := ⟨[.val t22], [⟨t2, [false], none⟩, ⟨t2, [false], none⟩, ⟨t4, [false], none⟩], fun x => pleachref10_TakeNum x.1⟩
theorem pleachref10_TakeNum_good : Good tab.ty Tryz.prog 139 pleachref10_TakeNum_e := by
  refine fn_good (Γ := pleachref10_TakeNum_Γ) (fi := pleachref10_TakeNum_fi) (n := 1099511627776) follows gnil tabok Tryz.func139 (by kernel_rfl) (by kernel_rfl) (fun x r h => ?_)
  obtain ⟨b_0, _u⟩ := x
  exact (pleachref10_TakeNum_eq 1099511627776 b_0).trans h
noncomputable def pleachref10_reader_num_Γ : Ctx := [(139, pleachref10_TakeNum_e)]
def pleachref10_reader_num_fi : Fi := { keep := [], vty := [], vals := [], live := [(0, [0]), (1, [0, 3, 4, 5]), (2, [0, 3, 4, 16]), (3, [0, 3, 4]), (4, [0, 3, 4, 23]), (5, [0, 2]), (6, [0, 3]), (7, [0, 2])] }
noncomputable def pleachref10_reader_num (r_0 : (List Int) × Bool) : Option ((Int × Unit) × (((List Int) × Bool) × Unit)) :=
 Option.bind (pleachref10_TakeNum r_0.1) fun (r1 : (Int × Int × Bool × Unit) × Unit) =>
 bif !r1.1.2.2.1 then
  some ((0, ()), ((r_0.1, true), ()))
 else
 bif r_0.2 then
  some ((0, ()), (r_0, ()))
 else
 bif (decide (0 ≤ r1.1.2.1) && decide (r1.1.2.1 ≤ (r_0.1.length : Int))) && decide ((r_0.1.length : Int) ≤ (r_0.1.length : Int)) then
  some ((r1.1.1, ()), ((List.drop r1.1.2.1.toNat (List.take ((r_0.1.length : Int).toNat) r_0.1), r_0.2), ()))
 else none
theorem pleachref10_reader_num_eq (r_0 : (List Int) × Bool) : evFn pleachref10_reader_num_Γ tab pleachref10_reader_num_fi 1 [.box 193 t192 [false, false]] [⟨t2, [false], none⟩] Tryz.f124 (r_0, ()) = pleachref10_reader_num r_0 := by kernel_rfl
noncomputable def pleachref10_reader_num_e : Ent := ⟨[.box 193 t192 [false, false]], [⟨t2, [false], none⟩], fun x => pleachref10_reader_num x.1⟩
theorem pleachref10_reader_num_good : Good tab.ty Tryz.prog 124 pleachref10_reader_num_e := by
  refine fn_good (Γ := pleachref10_reader_num_Γ) (fi := pleachref10_reader_num_fi) (n := 1) follows (gcons pleachref10_TakeNum_good gnil) tabok Tryz.func124 (by kernel_rfl) (by kernel_rfl) (fun x r h => ?_)
  obtain ⟨r_0, _u⟩ := x
  exact (pleachref10_reader_num_eq r_0).trans h
noncomputable def pleachref10_TakeText_Γ : Ctx := [(139, pleachref10_TakeNum_e)]
def pleachref10_TakeText_fi : Fi := { keep := [], vty := [], vals := [], live := [(0, [0, 17, 18, 19, 20, 21, 22]), (1, [0, 5, 6, 7, 17, 18, 19, 20, 21, 22]), (2, [0, 5, 6, 23]), (3, [2, 3, 4]), (4, [2, 3, 4])] }
noncomputable def pleachref10_TakeText (b_0 : List Int) : Option ((ByteArray × Int × Bool × Unit) × Unit) :=
 Option.bind (pleachref10_TakeNum b_0) fun (r1 : (Int × Int × Bool × Unit) × Unit) =>
 bif !r1.1.2.2.1 then
  some (((⟨#[]⟩ : ByteArray), 0, false, ()), ())
 else
 bif decide (r1.1.1 > IntKind.wrap .i64 ((b_0.length : Int) - r1.1.2.1)) then
  some (((⟨#[]⟩ : ByteArray), 0, false, ()), ())
 else
 bif (decide (0 ≤ r1.1.2.1) && decide (r1.1.2.1 ≤ IntKind.wrap .i64 (r1.1.2.1 + r1.1.1))) && decide (IntKind.wrap .i64 (r1.1.2.1 + r1.1.1) ≤ (b_0.length : Int)) then
  some ((bytesOf (List.drop r1.1.2.1.toNat (List.take ((IntKind.wrap .i64 (r1.1.2.1 + r1.1.1)).toNat) b_0)), IntKind.wrap .i64 (r1.1.2.1 + r1.1.1), true, ()), ())
 else none
theorem pleachref10_TakeText_eq (b_0 : List Int) : evFn pleachref10_TakeText_Γ tab pleachref10_TakeText_fi 1 [.val t22] [⟨t9, [false], none⟩, ⟨t2, [false], none⟩, ⟨t4, [false], none⟩] Tryz.f140 (b_0, ()) = pleachref10_TakeText b_0 := by kernel_rfl
noncomputable def pleachref10_TakeText_e : Ent := ⟨[.val t22], [⟨t9, [false], none⟩, ⟨t2, [false], none⟩, ⟨t4, [false], none⟩], fun x => pleachref10_TakeText x.1⟩
theorem pleachref10_TakeText_good : Good tab.ty Tryz.prog 140 pleachref10_TakeText_e := by
  refine fn_good (Γ := pleachref10_TakeText_Γ) (fi := pleachref10_TakeText_fi) (n := 1) follows (gcons pleachref10_TakeNum_good gnil) tabok Tryz.func140 (by kernel_rfl) (by kernel_rfl) (fun x r h => ?_)
  obtain ⟨b_0, _u⟩ := x
  exact (pleachref10_TakeText_eq b_0).trans h
noncomputable def pleachref10_reader_text_Γ : Ctx := [(140, pleachref10_TakeText_e)]
def pleachref10_reader_text_fi : Fi := { keep := [], vty := [], vals := [], live := [(0, [0]), (1, [0, 3, 4, 5]), (2, [0, 3, 4, 16]), (3, [0, 3, 4]), (4, [0, 3, 4, 23]), (5, [0, 2]), (6, [0, 3]), (7, [0, 2])] }
noncomputable def pleachref10_reader_text (r_0 : (List Int) × Bool) : Option ((ByteArray × Unit) × (((List Int) × Bool) × Unit)) :=
 Option.bind (pleachref10_TakeText r_0.1) fun (r1 : (ByteArray × Int × Bool × Unit) × Unit) =>
 bif !r1.1.2.2.1 then
  some (((⟨#[]⟩ : ByteArray), ()), ((r_0.1, true), ()))
 else
 bif r_0.2 then
  some (((⟨#[]⟩ : ByteArray), ()), (r_0, ()))
 else
 bif (decide (0 ≤ r1.1.2.1) && decide (r1.1.2.1 ≤ (r_0.1.length : Int))) && decide ((r_0.1.length : Int) ≤ (r_0.1.length : Int)) then
  some ((r1.1.1, ()), ((List.drop r1.1.2.1.toNat (List.take ((r_0.1.length : Int).toNat) r_0.1), r_0.2), ()))
 else none
theorem pleachref10_reader_text_eq (r_0 : (List Int) × Bool) : evFn pleachref10_reader_text_Γ tab pleachref10_reader_text_fi 1 [.box 193 t192 [false, false]] [⟨t9, [false], none⟩] Tryz.f125 (r_0, ()) = pleachref10_reader_text r_0 := by kernel_rfl
noncomputable def pleachref10_reader_text_e : Ent := ⟨[.box 193 t192 [false, false]], [⟨t9, [false], none⟩], fun x => pleachref10_reader_text x.1⟩
theorem pleachref10_reader_text_good : Good tab.ty Tryz.prog 125 pleachref10_reader_text_e := by
  refine fn_good (Γ := pleachref10_reader_text_Γ) (fi := pleachref10_reader_text_fi) (n := 1) follows (gcons pleachref10_TakeText_good gnil) tabok Tryz.func125 (by kernel_rfl) (by kernel_rfl) (fun x r h => ?_)
  obtain ⟨r_0, _u⟩ := x
  exact (pleachref10_reader_text_eq r_0).trans h
noncomputable def pleachref10_TakeMsg_Γ : Ctx := [(72, pleachref10_PutMsg_e), (124, pleachref10_reader_num_e), (125, pleachref10_reader_text_e)]
def pleachref10_TakeMsg_fi : Fi := { keep := [], vty := [], vals := [], live := [(0, [0, 2, 41, 42, 43, 44, 45, 70, 71, 72, 73, 74, 75]), (1, [0, 2, 9, 41, 42, 43, 44, 45, 70, 71, 72, 73, 74, 75]), (2, [2, 3]), (3, [0, 2, 4, 41, 42, 43, 44, 45, 70, 71, 72, 73, 74, 75]), (4, [0, 2, 4, 5, 41, 42, 43, 44, 45, 70, 71, 72, 73, 74, 75]), (5, [0, 2, 4, 5, 41, 42, 43, 44, 45, 70, 71, 72, 73, 74, 75]), (6, [0, 2, 4, 5, 41, 42, 43, 44, 45, 70, 71, 72, 73, 74, 75]), (7, [0, 2, 4, 5, 41, 42, 43, 44, 45, 70, 71, 72, 73, 74, 75]), (8, [0, 2, 4, 5, 41, 42, 43, 44, 45, 70, 71, 72, 73, 74, 75]), (9, [0, 2, 4, 5, 41, 42, 43, 44, 45, 70, 71, 72, 73, 74, 75]), (10, [0, 2, 4, 5, 6, 41, 42, 43, 44, 45, 70, 71, 72, 73, 74, 75]), (11, [0, 2, 4, 5, 6, 41, 42, 43, 44, 45, 46, 70, 71, 72, 73, 74, 75]), (12, [0, 2, 4, 5, 6, 41, 42, 43, 44, 45, 70, 71, 72, 73, 74, 75]), (13, [0, 2, 4, 5, 6, 41, 42, 43, 44, 45, 70, 71, 72, 73, 74, 75]), (14, [0, 2, 4, 5, 70, 71, 72, 73, 74, 75]), (15, [0, 2, 4, 5, 70, 71, 72, 73, 74, 75]), (16, [0, 2, 4, 5, 70, 71, 72, 73, 74, 75]), (17, [2, 5, 76]), (18, [2, 3]), (19, [2, 3])] }
noncomputable def pleachref10_TakeMsg_B1 (L1 : List Int → Int → Int → Int → Int → Int → Int → Int → Int → Int → ByteArray → List Int → List Int → Bool → Int → Int → Int → Int → Int → Int → Int → Int → ByteArray → List Int → Option (((Int × Int × Int × Int × Int × Int × (List Int) × Int × Int × ByteArray) × Bool × Unit) × Unit)) (v8 : List Int) (v9 : Int) (v10 : Int) (v11 : Int) (v12 : Int) (v13 : Int) (v14 : Int) (v15 : Int) (v16 : Int) (v17 : Int) (v18 : ByteArray) (v19 : List Int) (v20 : List Int) (v21 : Bool) (v22 : Int) (v23 : Int) (v24 : Int) (v25 : Int) (v26 : Int) (v27 : Int) (v28 : Int) (v29 : Int) (v30 : ByteArray) (v31 : List Int) : Option (((Int × Int × Int × Int × Int × Int × (List Int) × Int × Int × ByteArray) × Bool × Unit) × Unit) :=
 bif decide (v9 > 0) then
  bif !v21 then
   Option.bind (pleachref10_reader_num (v20, v21)) fun (r32 : (Int × Unit) × (((List Int) × Bool) × Unit)) =>
   bif Nat.ble (v31.length + 1) 1073741824 then
    L1 v8 (IntKind.wrap .i64 (v9 - 1)) v10 v11 v12 v13 v14 v15 v16 v17 v18 v19 r32.2.1.1 r32.2.1.2 v22 v23 v24 v25 v26 v27 v28 v29 v30 (v31 ++ [r32.1.1])
   else none
  else
   Option.bind (pleachref10_reader_num (v20, v21)) fun (r33 : (Int × Unit) × (((List Int) × Bool) × Unit)) =>
   Option.bind (pleachref10_reader_num r33.2.1) fun (r34 : (Int × Unit) × (((List Int) × Bool) × Unit)) =>
   Option.bind (pleachref10_reader_text r34.2.1) fun (r35 : (ByteArray × Unit) × (((List Int) × Bool) × Unit)) =>
   bif r35.2.1.2 then
    some (((0, 0, 0, 0, 0, 0, [], 0, 0, (⟨#[]⟩ : ByteArray)), false, ()), ())
   else
    Option.bind (pleachref10_PutMsg (v22, v23, v24, v25, v26, v27, v31, r33.1.1, r34.1.1, r35.1.1)) fun (r36 : ((List Int) × Unit) × Unit) =>
    bif !(strEq (bytesOf r36.1.1) (bytesOf v8)) then
     some (((0, 0, 0, 0, 0, 0, [], 0, 0, (⟨#[]⟩ : ByteArray)), false, ()), ())
    else
     some (((v22, v23, v24, v25, v26, v27, v31, r33.1.1, r34.1.1, r35.1.1), true, ()), ())
 else
  Option.bind (pleachref10_reader_num (v20, v21)) fun (r37 : (Int × Unit) × (((List Int) × Bool) × Unit)) =>
  Option.bind (pleachref10_reader_num r37.2.1) fun (r38 : (Int × Unit) × (((List Int) × Bool) × Unit)) =>
  Option.bind (pleachref10_reader_text r38.2.1) fun (r39 : (ByteArray × Unit) × (((List Int) × Bool) × Unit)) =>
  bif r39.2.1.2 then
   some (((0, 0, 0, 0, 0, 0, [], 0, 0, (⟨#[]⟩ : ByteArray)), false, ()), ())
  else
   Option.bind (pleachref10_PutMsg (v22, v23, v24, v25, v26, v27, v31, r37.1.1, r38.1.1, r39.1.1)) fun (r40 : ((List Int) × Unit) × Unit) =>
   bif !(strEq (bytesOf r40.1.1) (bytesOf v8)) then
    some (((0, 0, 0, 0, 0, 0, [], 0, 0, (⟨#[]⟩ : ByteArray)), false, ()), ())
   else
    some (((v22, v23, v24, v25, v26, v27, v31, r37.1.1, r38.1.1, r39.1.1), true, ()), ())
noncomputable def pleachref10_TakeMsg_T (L1 : List Int → Int → Int → Int → Int → Int → Int → Int → Int → Int → ByteArray → List Int → List Int → Bool → Int → Int → Int → Int → Int → Int → Int → Int → ByteArray → List Int → Option (((Int × Int × Int × Int × Int × Int × (List Int) × Int × Int × ByteArray) × Bool × Unit) × Unit)) (b_0 : List Int) : Option (((Int × Int × Int × Int × Int × Int × (List Int) × Int × Int × ByteArray) × Bool × Unit) × Unit) :=
 bif decide ((b_0.length : Int) < 4) then
  some (((0, 0, 0, 0, 0, 0, [], 0, 0, (⟨#[]⟩ : ByteArray)), false, ()), ())
 else
 bif decide (0 ≤ IntKind.wrap .i64 ((b_0.length : Int) - 4)) && decide (IntKind.wrap .i64 ((b_0.length : Int) - 4) ≤ (b_0.length : Int)) then
  Option.bind (pleachref10_reader_num (List.drop 0 (List.take ((IntKind.wrap .i64 ((b_0.length : Int) - 4)).toNat) b_0), false)) fun (r1 : (Int × Unit) × (((List Int) × Bool) × Unit)) =>
  Option.bind (pleachref10_reader_num r1.2.1) fun (r2 : (Int × Unit) × (((List Int) × Bool) × Unit)) =>
  Option.bind (pleachref10_reader_num r2.2.1) fun (r3 : (Int × Unit) × (((List Int) × Bool) × Unit)) =>
  Option.bind (pleachref10_reader_num r3.2.1) fun (r4 : (Int × Unit) × (((List Int) × Bool) × Unit)) =>
  Option.bind (pleachref10_reader_num r4.2.1) fun (r5 : (Int × Unit) × (((List Int) × Bool) × Unit)) =>
  Option.bind (pleachref10_reader_num r5.2.1) fun (r6 : (Int × Unit) × (((List Int) × Bool) × Unit)) =>
  Option.bind (pleachref10_reader_num r6.2.1) fun (r7 : (Int × Unit) × (((List Int) × Bool) × Unit)) =>
  L1 b_0 r7.1.1 0 0 0 0 0 0 0 0 (⟨#[]⟩ : ByteArray) [] r7.2.1.1 r7.2.1.2 r1.1.1 r2.1.1 r3.1.1 r4.1.1 r5.1.1 r6.1.1 0 0 (⟨#[]⟩ : ByteArray) []
 else none
noncomputable def pleachref10_TakeMsg_L1 (n : Nat) : Nat → List Int → Int → Int → Int → Int → Int → Int → Int → Int → Int → ByteArray → List Int → List Int → Bool → Int → Int → Int → Int → Int → Int → Int → Int → ByteArray → List Int → Option (((Int × Int × Int × Int × Int × Int × (List Int) × Int × Int × ByteArray) × Bool × Unit) × Unit) := iter (fun _ _ _ _ _ _ _ _ _ _ _ _ _ _ _ _ _ _ _ _ _ _ _ _ => none) fun L => pleachref10_TakeMsg_B1 L
noncomputable def pleachref10_TakeMsg_X1 (n m : Nat) (v8 : List Int) (v9 : Int) (v10 : Int) (v11 : Int) (v12 : Int) (v13 : Int) (v14 : Int) (v15 : Int) (v16 : Int) (v17 : Int) (v18 : ByteArray) (v19 : List Int) (v20 : List Int) (v21 : Bool) (v22 : Int) (v23 : Int) (v24 : Int) (v25 : Int) (v26 : Int) (v27 : Int) (v28 : Int) (v29 : Int) (v30 : ByteArray) (v31 : List Int) : Option (((Int × Int × Int × Int × Int × Int × (List Int) × Int × Int × ByteArray) × Bool × Unit) × Unit) :=
 atLoop pleachref10_TakeMsg_Γ tab (fiB [.val t22] pleachref10_TakeMsg_fi) n [.val t22] [⟨t130, [false, false, false, false, false, false, true, false, false, false], none⟩, ⟨t4, [false], none⟩] Tryz.f98 [1, 1, 1, 1, 1, 1, 1, 1, 1, 0, 1, 0] [] [0, 2, 4, 5, 6] m
 ⟨[(0, SV.cv (CV.one (LV.pure t22 v8))), (2, SV.cv (CV.one (LV.ptr (2, 0) 0))), (4, SV.cv (CV.one (LV.ptr (17, 0) 0))), (5, SV.cv (CV.one (LV.ptr (5, 0) 0))), (6, SV.cv (CV.one (LV.pure t2 v9)))],
  [((2, 0), Ob.box 131 [LV.pure t2 v10, LV.pure t2 v11, LV.pure t2 v12, LV.pure t2 v13, LV.pure t2 v14, LV.pure t2 v15, LV.ref (2, 7), LV.pure t2 v16, LV.pure t2 v17, LV.pure t9 v18]), ((2, 7), Ob.row 3 t2 v19), ((17, 0), Ob.box 193 [LV.pure t22 v20, LV.pure t4 v21]), ((5, 0), Ob.box 131 [LV.pure t2 v22, LV.pure t2 v23, LV.pure t2 v24, LV.pure t2 v25, LV.pure t2 v26, LV.pure t2 v27, LV.ref (5, 7), LV.pure t2 v28, LV.pure t2 v29, LV.pure t9 v30]), ((5, 7), Ob.row 3 t2 v31)]⟩
theorem pleachref10_TakeMsg_step1 (n m : Nat) (v8 : List Int) (v9 : Int) (v10 : Int) (v11 : Int) (v12 : Int) (v13 : Int) (v14 : Int) (v15 : Int) (v16 : Int) (v17 : Int) (v18 : ByteArray) (v19 : List Int) (v20 : List Int) (v21 : Bool) (v22 : Int) (v23 : Int) (v24 : Int) (v25 : Int) (v26 : Int) (v27 : Int) (v28 : Int) (v29 : Int) (v30 : ByteArray) (v31 : List Int) : pleachref10_TakeMsg_X1 n (m + 1) v8 v9 v10 v11 v12 v13 v14 v15 v16 v17 v18 v19 v20 v21 v22 v23 v24 v25 v26 v27 v28 v29 v30 v31 = pleachref10_TakeMsg_B1 (pleachref10_TakeMsg_X1 n m) v8 v9 v10 v11 v12 v13 v14 v15 v16 v17 v18 v19 v20 v21 v22 v23 v24 v25 v26 v27 v28 v29 v30 v31 := by kernel_rfl
theorem pleachref10_TakeMsg_start (n : Nat) (b_0 : List Int) : evFn pleachref10_TakeMsg_Γ tab pleachref10_TakeMsg_fi n [.val t22] [⟨t130, [false, false, false, false, false, false, true, false, false, false], none⟩, ⟨t4, [false], none⟩] Tryz.f98 (b_0, ()) = pleachref10_TakeMsg_T (pleachref10_TakeMsg_X1 n n) b_0 := by kernel_rfl
theorem pleachref10_TakeMsg_XL1 (n : Nat) : ∀ m, pleachref10_TakeMsg_X1 n m = pleachref10_TakeMsg_L1 n m
 | 0 => rfl
 | m + 1 => by
  have ih := pleachref10_TakeMsg_XL1 n m
  funext v8 v9 v10 v11 v12 v13 v14 v15 v16 v17 v18 v19 v20 v21 v22 v23 v24 v25 v26 v27 v28 v29 v30 v31
  rw [pleachref10_TakeMsg_step1, ih]
  rfl
noncomputable def pleachref10_TakeMsg_n (n : Nat) (b_0 : List Int) : Option (((Int × Int × Int × Int × Int × Int × (List Int) × Int × Int × ByteArray) × Bool × Unit) × Unit) := pleachref10_TakeMsg_T (pleachref10_TakeMsg_L1 n n) b_0
noncomputable def pleachref10_TakeMsg (b_0 : List Int) : Option (((Int × Int × Int × Int × Int × Int × (List Int) × Int × Int × ByteArray) × Bool × Unit) × Unit) := pleachref10_TakeMsg_n 1099511627776 b_0
theorem pleachref10_TakeMsg_eq (n : Nat) (b_0 : List Int) : evFn pleachref10_TakeMsg_Γ tab pleachref10_TakeMsg_fi n [.val t22] [⟨t130, [false, false, false, false, false, false, true, false, false, false], none⟩, ⟨t4, [false], none⟩] Tryz.f98 (b_0, ()) = pleachref10_TakeMsg_n n b_0 := by
  rw [pleachref10_TakeMsg_start, pleachref10_TakeMsg_XL1 n n]
  rfl
noncomputable def pleachref10_TakeMsg_e : Ent := ⟨[.val t22], [⟨t130, [false, false, false, false, false, false, true, false, false, false], none⟩, ⟨t4, [false], none⟩], fun x => pleachref10_TakeMsg x.1⟩
theorem pleachref10_TakeMsg_good : Good tab.ty Tryz.prog 98 pleachref10_TakeMsg_e := by
  refine fn_good (Γ := pleachref10_TakeMsg_Γ) (fi := pleachref10_TakeMsg_fi) (n := 1099511627776) follows (gcons pleachref10_PutMsg_good (gcons pleachref10_reader_num_good (gcons pleachref10_reader_text_good gnil))) tabok Tryz.func98 (by kernel_rfl) (by kernel_rfl) (fun x r h => ?_)
  obtain ⟨b_0, _u⟩ := x
  exact (pleachref10_TakeMsg_eq 1099511627776 b_0).trans h
noncomputable def pleachref1_Find_Γ : Ctx := []
def pleachref1_Find_fi : Fi := { keep := [], vty := [], vals := [], live := [(0, [0, 1, 4]), (1, [0, 1, 4, 6]), (2, [0, 1, 4, 6, 10]), (3, [0, 1, 4, 6]), (4, [0, 1, 4, 6, 19]), (5, [4, 5]), (6, [4, 5])] }
noncomputable def pleachref1_Find_B1 (L1 : (List (Int × Int × Int)) → Int → Int → Int → Int → Int → Option (((Int × Int × Int) × Bool × Unit) × Unit)) (v1 : List (Int × Int × Int)) (v2 : Int) (v3 : Int) (v4 : Int) (v5 : Int) (v6 : Int) : Option (((Int × Int × Int) × Bool × Unit) × Unit) :=
 bif decide (v3 < (v1.length : Int)) then
  bif decide (0 ≤ v3) && decide (v3 < (v1.length : Int)) then
   bif ((List.getD v1 v3.toNat (0, 0, 0)).1) == v2 then
    bif decide (0 ≤ v3) && decide (v3 < (v1.length : Int)) then
     some ((((List.getD v1 v3.toNat (0, 0, 0)).1, ((List.getD v1 v3.toNat (0, 0, 0)).2)), true, ()), ())
    else none
   else
    L1 v1 v2 (IntKind.wrap .i64 (v3 + 1)) v4 v5 v6
  else none
 else
  some (((0, 0, 0), false, ()), ())
noncomputable def pleachref1_Find_T (L1 : (List (Int × Int × Int)) → Int → Int → Int → Int → Int → Option (((Int × Int × Int) × Bool × Unit) × Unit)) (l_0 : List (Int × Int × Int)) (id_1 : Int) : Option (((Int × Int × Int) × Bool × Unit) × Unit) :=
 L1 l_0 id_1 0 0 0 0
noncomputable def pleachref1_Find_L1 (n : Nat) : Nat → (List (Int × Int × Int)) → Int → Int → Int → Int → Int → Option (((Int × Int × Int) × Bool × Unit) × Unit) := iter (fun _ _ _ _ _ _ => none) fun L => pleachref1_Find_B1 L
noncomputable def pleachref1_Find_X1 (n m : Nat) (v1 : List (Int × Int × Int)) (v2 : Int) (v3 : Int) (v4 : Int) (v5 : Int) (v6 : Int) : Option (((Int × Int × Int) × Bool × Unit) × Unit) :=
 atLoop pleachref1_Find_Γ tab (fiB [.val t38, .val t2] pleachref1_Find_fi) n [.val t38, .val t2] [⟨t154, [false, false, false], none⟩, ⟨t4, [false], none⟩] Tryz.f104 [1, 0, 1, 0] [] [0, 1, 4, 6] m
 ⟨[(0, SV.cv (CV.one (LV.pure t38 v1))), (1, SV.cv (CV.one (LV.pure t2 v2))), (4, SV.cv (CV.one (LV.ptr (4, 0) 0))), (6, SV.cv (CV.one (LV.pure t2 v3)))],
  [((4, 0), Ob.box 155 [LV.pure t2 v4, LV.pure t2 v5, LV.pure t2 v6])]⟩
theorem pleachref1_Find_step1 (n m : Nat) (v1 : List (Int × Int × Int)) (v2 : Int) (v3 : Int) (v4 : Int) (v5 : Int) (v6 : Int) : pleachref1_Find_X1 n (m + 1) v1 v2 v3 v4 v5 v6 = pleachref1_Find_B1 (pleachref1_Find_X1 n m) v1 v2 v3 v4 v5 v6 := by kernel_rfl
theorem pleachref1_Find_start (n : Nat) (l_0 : List (Int × Int × Int)) (id_1 : Int) : evFn pleachref1_Find_Γ tab pleachref1_Find_fi n [.val t38, .val t2] [⟨t154, [false, false, false], none⟩, ⟨t4, [false], none⟩] Tryz.f104 (l_0, id_1, ()) = pleachref1_Find_T (pleachref1_Find_X1 n n) l_0 id_1 := by kernel_rfl
theorem pleachref1_Find_XL1 (n : Nat) : ∀ m, pleachref1_Find_X1 n m = pleachref1_Find_L1 n m
 | 0 => rfl
 | m + 1 => by
  have ih := pleachref1_Find_XL1 n m
  funext v1 v2 v3 v4 v5 v6
  rw [pleachref1_Find_step1, ih]
  rfl
noncomputable def pleachref1_Find_n (n : Nat) (l_0 : List (Int × Int × Int)) (id_1 : Int) : Option (((Int × Int × Int) × Bool × Unit) × Unit) := pleachref1_Find_T (pleachref1_Find_L1 n n) l_0 id_1
noncomputable def pleachref1_Find (l_0 : List (Int × Int × Int)) (id_1 : Int) : Option (((Int × Int × Int) × Bool × Unit) × Unit) := pleachref1_Find_n 1099511627776 l_0 id_1
theorem pleachref1_Find_eq (n : Nat) (l_0 : List (Int × Int × Int)) (id_1 : Int) : evFn pleachref1_Find_Γ tab pleachref1_Find_fi n [.val t38, .val t2] [⟨t154, [false, false, false], none⟩, ⟨t4, [false], none⟩] Tryz.f104 (l_0, id_1, ()) = pleachref1_Find_n n l_0 id_1 := by
  rw [pleachref1_Find_start, pleachref1_Find_XL1 n n]
  rfl
noncomputable def pleachref1_Find_e : Ent := ⟨[.val t38, .val t2], [⟨t154, [false, false, false], none⟩, ⟨t4, [false], none⟩], fun x => pleachref1_Find x.1 x.2.1⟩
theorem pleachref1_Find_good : Good tab.ty Tryz.prog 104 pleachref1_Find_e := by
  refine fn_good (Γ := pleachref1_Find_Γ) (fi := pleachref1_Find_fi) (n := 1099511627776) follows gnil tabok Tryz.func104 (by kernel_rfl) (by kernel_rfl) (fun x r h => ?_)
  obtain ⟨l_0, id_1, _u⟩ := x
  exact (pleachref1_Find_eq 1099511627776 l_0 id_1).trans h
noncomputable def pleachref1_Old_Γ : Ctx := [(104, pleachref1_Find_e)]
def pleachref1_Old_fi : Fi := { keep := [], vty := [], vals := [], live := [(0, [0, 1, 2, 17, 18, 19, 20]), (1, [2, 7, 8, 17, 18, 19, 20]), (2, [6])] }
noncomputable def pleachref1_Old (l_0 : List (Int × Int × Int)) (id_1 : Int) (inc_2 : Int) : Option ((Bool × Unit) × Unit) :=
 Option.bind (pleachref1_Find l_0 id_1) fun (r1 : ((Int × Int × Int) × Bool × Unit) × Unit) =>
 bif r1.1.2.1 then
  some ((decide (r1.1.1.2.1 > inc_2), ()), ())
 else
  some ((false, ()), ())
theorem pleachref1_Old_eq (l_0 : List (Int × Int × Int)) (id_1 : Int) (inc_2 : Int) : evFn pleachref1_Old_Γ tab pleachref1_Old_fi 1 [.val t38, .val t2, .val t2] [⟨t4, [false], none⟩] Tryz.f126 (l_0, id_1, inc_2, ()) = pleachref1_Old l_0 id_1 inc_2 := by kernel_rfl
noncomputable def pleachref1_Old_e : Ent := ⟨[.val t38, .val t2, .val t2], [⟨t4, [false], none⟩], fun x => pleachref1_Old x.1 x.2.1 x.2.2.1⟩
theorem pleachref1_Old_good : Good tab.ty Tryz.prog 126 pleachref1_Old_e := by
  refine fn_good (Γ := pleachref1_Old_Γ) (fi := pleachref1_Old_fi) (n := 1) follows (gcons pleachref1_Find_good gnil) tabok Tryz.func126 (by kernel_rfl) (by kernel_rfl) (fun x r h => ?_)
  obtain ⟨l_0, id_1, inc_2, _u⟩ := x
  exact (pleachref1_Old_eq l_0 id_1 inc_2).trans h
noncomputable def pleachref1_Drop_Γ : Ctx := []
def pleachref1_Drop_fi : Fi := { keep := [], vty := [(5, 38)], vals := [], live := [(0, [0, 1]), (1, [0, 1, 5]), (2, [0, 1, 5, 6]), (3, [0, 1, 5, 6, 10]), (4, [0, 1, 5, 6]), (5, [0, 1, 5, 6, 19]), (6, [0, 1, 5, 6]), (7, [4])] }
noncomputable def pleachref1_Drop_B1 (L1 : (List (Int × Int × Int)) → Int → Int → (List (Int × Int × Int)) → Option (((List (Int × Int × Int)) × Unit) × Unit)) (v1 : List (Int × Int × Int)) (v2 : Int) (v3 : Int) (v4 : List (Int × Int × Int)) : Option (((List (Int × Int × Int)) × Unit) × Unit) :=
 bif decide (v3 < (v1.length : Int)) then
  bif decide (0 ≤ v3) && decide (v3 < (v1.length : Int)) then
   bif ((List.getD v1 v3.toNat (0, 0, 0)).1) != v2 then
    bif decide (0 ≤ v3) && decide (v3 < (v1.length : Int)) then
     bif Nat.ble (v4.length + 1) 1073741824 then
      L1 v1 v2 (IntKind.wrap .i64 (v3 + 1)) (v4 ++ [((List.getD v1 v3.toNat (0, 0, 0)).1, ((List.getD v1 v3.toNat (0, 0, 0)).2))])
     else none
    else none
   else
    L1 v1 v2 (IntKind.wrap .i64 (v3 + 1)) v4
  else none
 else
  some ((v4, ()), ())
noncomputable def pleachref1_Drop_T (L1 : (List (Int × Int × Int)) → Int → Int → (List (Int × Int × Int)) → Option (((List (Int × Int × Int)) × Unit) × Unit)) (l_0 : List (Int × Int × Int)) (id_1 : Int) : Option (((List (Int × Int × Int)) × Unit) × Unit) :=
 L1 l_0 id_1 0 []
noncomputable def pleachref1_Drop_L1 (n : Nat) : Nat → (List (Int × Int × Int)) → Int → Int → (List (Int × Int × Int)) → Option (((List (Int × Int × Int)) × Unit) × Unit) := iter (fun _ _ _ _ => none) fun L => pleachref1_Drop_B1 L
noncomputable def pleachref1_Drop_X1 (n m : Nat) (v1 : List (Int × Int × Int)) (v2 : Int) (v3 : Int) (v4 : List (Int × Int × Int)) : Option (((List (Int × Int × Int)) × Unit) × Unit) :=
 atLoop pleachref1_Drop_Γ tab (fiB [.val t38, .val t2] pleachref1_Drop_fi) n [.val t38, .val t2] [⟨t38, [true], none⟩] Tryz.f131 [1, 1, 0, 1, 0] [] [0, 1, 5, 6] m
 ⟨[(0, SV.cv (CV.one (LV.pure t38 v1))), (1, SV.cv (CV.one (LV.pure t2 v2))), (5, SV.cv (CV.one (LV.ref (888888, 5)))), (6, SV.cv (CV.one (LV.pure t2 v3)))],
  [((888888, 5), Ob.row 155 t154 v4)]⟩
theorem pleachref1_Drop_step1 (n m : Nat) (v1 : List (Int × Int × Int)) (v2 : Int) (v3 : Int) (v4 : List (Int × Int × Int)) : pleachref1_Drop_X1 n (m + 1) v1 v2 v3 v4 = pleachref1_Drop_B1 (pleachref1_Drop_X1 n m) v1 v2 v3 v4 := by kernel_rfl
theorem pleachref1_Drop_start (n : Nat) (l_0 : List (Int × Int × Int)) (id_1 : Int) : evFn pleachref1_Drop_Γ tab pleachref1_Drop_fi n [.val t38, .val t2] [⟨t38, [true], none⟩] Tryz.f131 (l_0, id_1, ()) = pleachref1_Drop_T (pleachref1_Drop_X1 n n) l_0 id_1 := by kernel_rfl
theorem pleachref1_Drop_XL1 (n : Nat) : ∀ m, pleachref1_Drop_X1 n m = pleachref1_Drop_L1 n m
 | 0 => rfl
 | m + 1 => by
  have ih := pleachref1_Drop_XL1 n m
  funext v1 v2 v3 v4
  rw [pleachref1_Drop_step1, ih]
  rfl
noncomputable def pleachref1_Drop_n (n : Nat) (l_0 : List (Int × Int × Int)) (id_1 : Int) : Option (((List (Int × Int × Int)) × Unit) × Unit) := pleachref1_Drop_T (pleachref1_Drop_L1 n n) l_0 id_1
noncomputable def pleachref1_Drop (l_0 : List (Int × Int × Int)) (id_1 : Int) : Option (((List (Int × Int × Int)) × Unit) × Unit) := pleachref1_Drop_n 1099511627776 l_0 id_1
theorem pleachref1_Drop_eq (n : Nat) (l_0 : List (Int × Int × Int)) (id_1 : Int) : evFn pleachref1_Drop_Γ tab pleachref1_Drop_fi n [.val t38, .val t2] [⟨t38, [true], none⟩] Tryz.f131 (l_0, id_1, ()) = pleachref1_Drop_n n l_0 id_1 := by
  rw [pleachref1_Drop_start, pleachref1_Drop_XL1 n n]
  rfl
noncomputable def pleachref1_Drop_e : Ent := ⟨[.val t38, .val t2], [⟨t38, [true], none⟩], fun x => pleachref1_Drop x.1 x.2.1⟩
theorem pleachref1_Drop_good : Good tab.ty Tryz.prog 131 pleachref1_Drop_e := by
  refine fn_good (Γ := pleachref1_Drop_Γ) (fi := pleachref1_Drop_fi) (n := 1099511627776) follows gnil tabok Tryz.func131 (by kernel_rfl) (by kernel_rfl) (fun x r h => ?_)
  obtain ⟨l_0, id_1, _u⟩ := x
  exact (pleachref1_Drop_eq 1099511627776 l_0 id_1).trans h
noncomputable def pleachref1_Hear_Γ : Ctx := [(127, markE), (126, pleachref1_Old_e), (131, pleachref1_Drop_e)]
def pleachref1_Hear_fi : Fi := { keep := [], vty := [], vals := [], live := [(0, [0, 3]), (1, [0, 3, 13]), (2, [4, 5]), (3, [3, 6]), (4, [3, 6, 7]), (5, [3, 6, 7, 22]), (6, [3, 6, 7]), (7, [3, 6, 7, 32]), (8, [4, 5]), (9, [4, 5])], melt := [(8, 1000006)] }
noncomputable def pleachref1_Hear_B1 (L1 : Int → Int → Int → Int → (List (Int × Int × Int)) → Option (((List (Int × Int × Int)) × Bool × Unit) × Unit)) (v3 : Int) (v4 : Int) (v5 : Int) (v6 : Int) (v7 : List (Int × Int × Int)) : Option (((List (Int × Int × Int)) × Bool × Unit) × Unit) :=
 bif decide (v3 < (v7.length : Int)) then
  bif decide (0 ≤ v3) && decide (v3 < (v7.length : Int)) then
   bif decide (0 ≤ v3) && decide (v3 < (v7.length : Int)) then
    bif decide ((List.getD v7 v3.toNat (0, 0, 0)).1 > v4) then
     bif decide (0 ≤ v3) && decide (v3 ≤ (((List.map some v7).length : Nat) : Int)) then
      bif Nat.ble (0 + ((v3 - 0).toNat)) ((List.map some v7).length) then
       Option.bind (allSome (List.take ((v3 - 0).toNat) (List.drop 0 (List.map some v7)))) fun (z8 : List (Int × Int × Int)) =>
       bif Nat.ble (0 + z8.length) 1073741824 then
        bif Nat.ble (([] ++ z8).length + 1) 1073741824 then
         bif (decide (0 ≤ v3) && decide (v3 ≤ ((v7.length : Nat) : Int))) && decide (((v7.length : Nat) : Int) ≤ (((List.map some v7).length : Nat) : Int)) then
          bif Nat.ble ((0 + v3.toNat) + ((((v7.length : Nat) : Int) - v3).toNat)) ((List.map some v7).length) then
           Option.bind (allSome (List.take ((((v7.length : Nat) : Int) - v3).toNat) (List.drop (0 + v3.toNat) (List.map some v7)))) fun (z9 : List (Int × Int × Int)) =>
           bif Nat.ble (((([] ++ z8) ++ [(v4, v5, v6)]).length) + z9.length) 1073741824 then
            some (((([] ++ z8) ++ [(v4, v5, v6)]) ++ z9, true, ()), ())
           else none
          else none
         else none
        else none
       else none
      else none
     else none
    else
     L1 (IntKind.wrap .i64 (v3 + 1)) v4 v5 v6 v7
   else none
  else none
 else
 bif Nat.ble (v7.length + 1) 1073741824 then
  some ((v7 ++ [(v4, v5, v6)], true, ()), ())
 else none
noncomputable def pleachref1_Hear_T (L1 : Int → Int → Int → Int → (List (Int × Int × Int)) → Option (((List (Int × Int × Int)) × Bool × Unit) × Unit)) (l_0 : List (Int × Int × Int)) (k_1 : Int × Int × Int) : Option (((List (Int × Int × Int)) × Bool × Unit) × Unit) :=
 Option.bind (pleachref1_Old l_0 k_1.1 k_1.2.1) fun (r1 : (Bool × Unit) × Unit) =>
 bif r1.1.1 then
  some ((l_0, false, ()), ())
 else
  Option.bind (pleachref1_Drop l_0 k_1.1) fun (r2 : ((List (Int × Int × Int)) × Unit) × Unit) =>
  L1 0 k_1.1 k_1.2.1 k_1.2.2 r2.1.1
noncomputable def pleachref1_Hear_L1 (n : Nat) : Nat → Int → Int → Int → Int → (List (Int × Int × Int)) → Option (((List (Int × Int × Int)) × Bool × Unit) × Unit) := iter (fun _ _ _ _ _ => none) fun L => pleachref1_Hear_B1 L
noncomputable def pleachref1_Hear_X1 (n m : Nat) (v3 : Int) (v4 : Int) (v5 : Int) (v6 : Int) (v7 : List (Int × Int × Int)) : Option (((List (Int × Int × Int)) × Bool × Unit) × Unit) :=
 atLoop pleachref1_Hear_Γ tab (fiB [.val t38, .val t154] pleachref1_Hear_fi) n [.val t38, .val t154] [⟨t38, [false], none⟩, ⟨t4, [false], none⟩] Tryz.f127 [1, 1, 1, 0, 1, 0] [] [3, 6, 7] m
 ⟨[(3, SV.cv (CV.one (LV.ptr (3, 0) 0))), (6, SV.cv (CV.one (LV.ref (888888, 6)))), (7, SV.cv (CV.one (LV.pure t2 v3)))],
  [((3, 0), Ob.box 155 [LV.pure t2 v4, LV.pure t2 v5, LV.pure t2 v6]), ((888888, 6), Ob.row 155 t154 v7)]⟩
theorem pleachref1_Hear_step1 (n m : Nat) (v3 : Int) (v4 : Int) (v5 : Int) (v6 : Int) (v7 : List (Int × Int × Int)) : pleachref1_Hear_X1 n (m + 1) v3 v4 v5 v6 v7 = pleachref1_Hear_B1 (pleachref1_Hear_X1 n m) v3 v4 v5 v6 v7 := by kernel_rfl
theorem pleachref1_Hear_start (n : Nat) (l_0 : List (Int × Int × Int)) (k_1 : Int × Int × Int) : evFn pleachref1_Hear_Γ tab pleachref1_Hear_fi n [.val t38, .val t154] [⟨t38, [false], none⟩, ⟨t4, [false], none⟩] Tryz.f127 (l_0, k_1, ()) = pleachref1_Hear_T (pleachref1_Hear_X1 n n) l_0 k_1 := by kernel_rfl
theorem pleachref1_Hear_XL1 (n : Nat) : ∀ m, pleachref1_Hear_X1 n m = pleachref1_Hear_L1 n m
 | 0 => rfl
 | m + 1 => by
  have ih := pleachref1_Hear_XL1 n m
  funext v3 v4 v5 v6 v7
  rw [pleachref1_Hear_step1, ih]
  rfl
noncomputable def pleachref1_Hear_n (n : Nat) (l_0 : List (Int × Int × Int)) (k_1 : Int × Int × Int) : Option (((List (Int × Int × Int)) × Bool × Unit) × Unit) := pleachref1_Hear_T (pleachref1_Hear_L1 n n) l_0 k_1
noncomputable def pleachref1_Hear (l_0 : List (Int × Int × Int)) (k_1 : Int × Int × Int) : Option (((List (Int × Int × Int)) × Bool × Unit) × Unit) := pleachref1_Hear_n 1099511627776 l_0 k_1
theorem pleachref1_Hear_eq (n : Nat) (l_0 : List (Int × Int × Int)) (k_1 : Int × Int × Int) : evFn pleachref1_Hear_Γ tab pleachref1_Hear_fi n [.val t38, .val t154] [⟨t38, [false], none⟩, ⟨t4, [false], none⟩] Tryz.f127 (l_0, k_1, ()) = pleachref1_Hear_n n l_0 k_1 := by
  rw [pleachref1_Hear_start, pleachref1_Hear_XL1 n n]
  rfl
noncomputable def pleachref1_Hear_e : Ent := ⟨[.val t38, .val t154], [⟨t38, [false], none⟩, ⟨t4, [false], none⟩], fun x => pleachref1_Hear x.1 x.2.1⟩
theorem pleachref1_Hear_good : Good tab.ty Tryz.prog 127 pleachref1_Hear_e := by
  refine fn_good (Γ := pleachref1_Hear_Γ) (fi := pleachref1_Hear_fi) (n := 1099511627776) follows (gcons (gmark Tryz.func127 (by kernel_rfl) (by kernel_rfl)) (gcons pleachref1_Old_good (gcons pleachref1_Drop_good gnil))) tabok Tryz.func127 (by kernel_rfl) (by kernel_rfl) (fun x r h => ?_)
  obtain ⟨l_0, k_1, _u⟩ := x
  exact (pleachref1_Hear_eq 1099511627776 l_0 k_1).trans h
noncomputable def pleachref1_AddPath_Γ : Ctx := [(121, pleachref1_MayPath_e)]
def pleachref1_AddPath_fi : Fi := { keep := [], vty := [], vals := [], live := [(0, [0, 1]), (1, [6]), (2, [6, 15]), (3, [4, 5]), (4, [4, 5])] }
noncomputable def pleachref1_AddPath (p_0 : List Int) (id_1 : Int) : Option (((List Int) × Bool × Unit) × Unit) :=
 bif Nat.ble (0 + p_0.length) 1073741824 then
  bif Nat.ble (([] ++ p_0).length + 1) 1073741824 then
   Option.bind (pleachref1_MayPath (([] ++ p_0) ++ [id_1])) fun (r1 : (Bool × Unit) × Unit) =>
   bif !r1.1.1 then
    some (([], false, ()), ())
   else
    some ((([] ++ p_0) ++ [id_1], true, ()), ())
  else none
 else none
theorem pleachref1_AddPath_eq (p_0 : List Int) (id_1 : Int) : evFn pleachref1_AddPath_Γ tab pleachref1_AddPath_fi 1 [.val t37, .val t2] [⟨t37, [true], none⟩, ⟨t4, [false], none⟩] Tryz.f129 (p_0, id_1, ()) = pleachref1_AddPath p_0 id_1 := by kernel_rfl
noncomputable def pleachref1_AddPath_e : Ent := ⟨[.val t37, .val t2], [⟨t37, [true], none⟩, ⟨t4, [false], none⟩], fun x => pleachref1_AddPath x.1 x.2.1⟩
theorem pleachref1_AddPath_good : Good tab.ty Tryz.prog 129 pleachref1_AddPath_e := by
  refine fn_good (Γ := pleachref1_AddPath_Γ) (fi := pleachref1_AddPath_fi) (n := 1) follows (gcons pleachref1_MayPath_good gnil) tabok Tryz.func129 (by kernel_rfl) (by kernel_rfl) (fun x r h => ?_)
  obtain ⟨p_0, id_1, _u⟩ := x
  exact (pleachref1_AddPath_eq p_0 id_1).trans h
noncomputable def pleachref1_Grand_Γ : Ctx := []
def pleachref1_Grand_fi : Fi := { keep := [], vty := [], vals := [], live := [(0, [0]), (1, [0, 5]), (2, [2]), (3, [2])] }
noncomputable def pleachref1_Grand (p_0 : List Int) : Option ((Int × Unit) × Unit) :=
 bif decide ((p_0.length : Int) < 2) then
  some ((0, ()), ())
 else
 bif decide (0 ≤ IntKind.wrap .i64 ((p_0.length : Int) - 2)) && decide (IntKind.wrap .i64 ((p_0.length : Int) - 2) < (p_0.length : Int)) then
  some ((List.getD p_0 ((IntKind.wrap .i64 ((p_0.length : Int) - 2)).toNat) 0, ()), ())
 else none
theorem pleachref1_Grand_eq (p_0 : List Int) : evFn pleachref1_Grand_Γ tab pleachref1_Grand_fi 1 [.val t37] [⟨t2, [false], none⟩] Tryz.f141 (p_0, ()) = pleachref1_Grand p_0 := by kernel_rfl
noncomputable def pleachref1_Grand_e : Ent := ⟨[.val t37], [⟨t2, [false], none⟩], fun x => pleachref1_Grand x.1⟩
theorem pleachref1_Grand_good : Good tab.ty Tryz.prog 141 pleachref1_Grand_e := by
  refine fn_good (Γ := pleachref1_Grand_Γ) (fi := pleachref1_Grand_fi) (n := 1) follows gnil tabok Tryz.func141 (by kernel_rfl) (by kernel_rfl) (fun x r h => ?_)
  obtain ⟨p_0, _u⟩ := x
  exact (pleachref1_Grand_eq p_0).trans h
noncomputable def pleachref19_grand_Γ : Ctx := [(141, pleachref1_Grand_e)]
def pleachref19_grand_fi : Fi := { keep := [], vty := [], vals := [], live := [(0, [0]), (1, [3]), (2, [3, 7]), (3, [2]), (4, [2])] }
noncomputable def pleachref19_grand (p_0 : List Int) : Option ((Int × Unit) × Unit) :=
 Option.bind (pleachref1_Grand p_0) fun (r1 : (Int × Unit) × Unit) =>
 bif r1.1.1 == 0 then
  some ((1, ()), ())
 else
  some ((r1.1.1, ()), ())
theorem pleachref19_grand_eq (p_0 : List Int) : evFn pleachref19_grand_Γ tab pleachref19_grand_fi 1 [.val t37] [⟨t2, [false], none⟩] Tryz.f130 (p_0, ()) = pleachref19_grand p_0 := by kernel_rfl
noncomputable def pleachref19_grand_e : Ent := ⟨[.val t37], [⟨t2, [false], none⟩], fun x => pleachref19_grand x.1⟩
theorem pleachref19_grand_good : Good tab.ty Tryz.prog 130 pleachref19_grand_e := by
  refine fn_good (Γ := pleachref19_grand_Γ) (fi := pleachref19_grand_fi) (n := 1) follows (gcons pleachref1_Grand_good gnil) tabok Tryz.func130 (by kernel_rfl) (by kernel_rfl) (fun x r h => ?_)
  obtain ⟨p_0, _u⟩ := x
  exact (pleachref19_grand_eq p_0).trans h
noncomputable def pleachref19_accepted_Γ : Ctx := [(89, pleachref19_says_e), (129, pleachref1_AddPath_e), (130, pleachref19_grand_e)]
def pleachref19_accepted_fi : Fi := { keep := [], vty := [], vals := [], live := [(0, [2, 3, 4, 12, 13, 14, 15, 16, 23, 24, 25, 26, 27, 30, 31, 32, 52, 53, 54]), (1, [2, 3, 4, 17, 23, 24, 25, 26, 27, 30, 31, 32, 52, 53, 54]), (2, [4, 5]), (3, [2, 3, 4, 33, 52, 53, 54]), (4, [4, 5]), (5, [2, 3, 4, 6, 7, 52, 53, 54]), (6, [2, 3, 4, 6, 7, 52, 53, 54]), (7, [2, 3, 4, 6, 55]), (8, [2, 3, 4]), (9, [4, 5]), (10, [2, 3, 4]), (11, [2, 4]), (12, [4, 5])] }
noncomputable def pleachref19_accepted (t_0 : Int × Int × Int × Int × Int × Int × (List Int) × Int × Int × Int × Int × Int × List (Int × Int × Int)) (m_1 : Int × Int × Int × Int × Int × Int × (List Int) × Int × Int × ByteArray) : Option (((Int × Int × Int × Int × Int × Int × (List Int) × Int × Int × Int × Int × Int × List (Int × Int × Int)) × (List (Int × Int × Int × Int × Int × Int × (List Int) × Int × Int × ByteArray)) × Unit) × Unit) :=
 bif t_0.2.2.2.1 != 0 then
  bif m_1.2.1 == t_0.2.2.2.1 then
   some ((t_0, [], ()), ())
  else
  bif t_0.2.2.2.2.2.2.2.2.2.1 == 0 then
   Option.bind (pleachref19_says t_0 6 m_1.2.1) fun (r1 : ((Int × Int × Int × Int × Int × Int × (List Int) × Int × Int × ByteArray) × Unit) × Unit) =>
   some ((t_0, [r1.1.1], ()), ())
  else
  bif t_0.2.2.2.2.2.2.2.2.2.1 != m_1.2.1 then
   Option.bind (pleachref19_says t_0 6 m_1.2.1) fun (r2 : ((Int × Int × Int × Int × Int × Int × (List Int) × Int × Int × ByteArray) × Unit) × Unit) =>
   some ((t_0, [r2.1.1], ()), ())
  else
  bif t_0.2.2.2.1 != 0 then
   Option.bind (pleachref19_says t_0 6 m_1.2.1) fun (r3 : ((Int × Int × Int × Int × Int × Int × (List Int) × Int × Int × ByteArray) × Unit) × Unit) =>
   some ((t_0, [r3.1.1], ()), ())
  else
   Option.bind (pleachref1_AddPath m_1.2.2.2.2.2.2.1 t_0.1) fun (r4 : ((List Int) × Bool × Unit) × Unit) =>
   bif !r4.1.2.1 then
    Option.bind (pleachref19_says (t_0.1, t_0.2.1, t_0.2.2.1, t_0.2.2.2.1, t_0.2.2.2.2.1, t_0.2.2.2.2.2.1, t_0.2.2.2.2.2.2.1, t_0.2.2.2.2.2.2.2.1, t_0.2.2.2.2.2.2.2.2.1, 0, t_0.2.2.2.2.2.2.2.2.2.2.1, IntKind.wrap .i64 (t_0.2.2.2.2.2.2.2.2.2.2.2.1 + 1), t_0.2.2.2.2.2.2.2.2.2.2.2.2) 6 m_1.2.1) fun (r5 : ((Int × Int × Int × Int × Int × Int × (List Int) × Int × Int × ByteArray) × Unit) × Unit) =>
    some (((t_0.1, t_0.2.1, t_0.2.2.1, t_0.2.2.2.1, t_0.2.2.2.2.1, t_0.2.2.2.2.2.1, t_0.2.2.2.2.2.2.1, t_0.2.2.2.2.2.2.2.1, t_0.2.2.2.2.2.2.2.2.1, 0, t_0.2.2.2.2.2.2.2.2.2.2.1, IntKind.wrap .i64 (t_0.2.2.2.2.2.2.2.2.2.2.2.1 + 1), t_0.2.2.2.2.2.2.2.2.2.2.2.2), [r5.1.1], ()), ())
   else
   bif decide (m_1.2.2.2.2.2.1 > 20) then
    Option.bind (pleachref19_says (t_0.1, t_0.2.1, t_0.2.2.1, t_0.2.2.2.1, t_0.2.2.2.2.1, t_0.2.2.2.2.2.1, t_0.2.2.2.2.2.2.1, t_0.2.2.2.2.2.2.2.1, t_0.2.2.2.2.2.2.2.2.1, 0, t_0.2.2.2.2.2.2.2.2.2.2.1, IntKind.wrap .i64 (t_0.2.2.2.2.2.2.2.2.2.2.2.1 + 1), t_0.2.2.2.2.2.2.2.2.2.2.2.2) 6 m_1.2.1) fun (r6 : ((Int × Int × Int × Int × Int × Int × (List Int) × Int × Int × ByteArray) × Unit) × Unit) =>
    some (((t_0.1, t_0.2.1, t_0.2.2.1, t_0.2.2.2.1, t_0.2.2.2.2.1, t_0.2.2.2.2.2.1, t_0.2.2.2.2.2.2.1, t_0.2.2.2.2.2.2.2.1, t_0.2.2.2.2.2.2.2.2.1, 0, t_0.2.2.2.2.2.2.2.2.2.2.1, IntKind.wrap .i64 (t_0.2.2.2.2.2.2.2.2.2.2.2.1 + 1), t_0.2.2.2.2.2.2.2.2.2.2.2.2), [r6.1.1], ()), ())
   else
    Option.bind (pleachref19_grand m_1.2.2.2.2.2.2.1) fun (r7 : (Int × Unit) × Unit) =>
    some (((t_0.1, t_0.2.1, t_0.2.2.1, m_1.2.1, m_1.2.2.2.1, r7.1.1, r4.1.1, m_1.2.2.2.2.1, IntKind.wrap .i64 (t_0.2.2.1 - m_1.2.2.2.2.2.1), 0, t_0.2.2.2.2.2.2.2.2.2.2.1, 0, t_0.2.2.2.2.2.2.2.2.2.2.2.2), [], ()), ())
 else
 bif t_0.2.2.2.2.2.2.2.2.2.1 == 0 then
  Option.bind (pleachref19_says t_0 6 m_1.2.1) fun (r8 : ((Int × Int × Int × Int × Int × Int × (List Int) × Int × Int × ByteArray) × Unit) × Unit) =>
  some ((t_0, [r8.1.1], ()), ())
 else
 bif t_0.2.2.2.2.2.2.2.2.2.1 != m_1.2.1 then
  Option.bind (pleachref19_says t_0 6 m_1.2.1) fun (r9 : ((Int × Int × Int × Int × Int × Int × (List Int) × Int × Int × ByteArray) × Unit) × Unit) =>
  some ((t_0, [r9.1.1], ()), ())
 else
 bif t_0.2.2.2.1 != 0 then
  Option.bind (pleachref19_says t_0 6 m_1.2.1) fun (r10 : ((Int × Int × Int × Int × Int × Int × (List Int) × Int × Int × ByteArray) × Unit) × Unit) =>
  some ((t_0, [r10.1.1], ()), ())
 else
  Option.bind (pleachref1_AddPath m_1.2.2.2.2.2.2.1 t_0.1) fun (r11 : ((List Int) × Bool × Unit) × Unit) =>
  bif !r11.1.2.1 then
   Option.bind (pleachref19_says (t_0.1, t_0.2.1, t_0.2.2.1, t_0.2.2.2.1, t_0.2.2.2.2.1, t_0.2.2.2.2.2.1, t_0.2.2.2.2.2.2.1, t_0.2.2.2.2.2.2.2.1, t_0.2.2.2.2.2.2.2.2.1, 0, t_0.2.2.2.2.2.2.2.2.2.2.1, IntKind.wrap .i64 (t_0.2.2.2.2.2.2.2.2.2.2.2.1 + 1), t_0.2.2.2.2.2.2.2.2.2.2.2.2) 6 m_1.2.1) fun (r12 : ((Int × Int × Int × Int × Int × Int × (List Int) × Int × Int × ByteArray) × Unit) × Unit) =>
   some (((t_0.1, t_0.2.1, t_0.2.2.1, t_0.2.2.2.1, t_0.2.2.2.2.1, t_0.2.2.2.2.2.1, t_0.2.2.2.2.2.2.1, t_0.2.2.2.2.2.2.2.1, t_0.2.2.2.2.2.2.2.2.1, 0, t_0.2.2.2.2.2.2.2.2.2.2.1, IntKind.wrap .i64 (t_0.2.2.2.2.2.2.2.2.2.2.2.1 + 1), t_0.2.2.2.2.2.2.2.2.2.2.2.2), [r12.1.1], ()), ())
  else
  bif decide (m_1.2.2.2.2.2.1 > 20) then
   Option.bind (pleachref19_says (t_0.1, t_0.2.1, t_0.2.2.1, t_0.2.2.2.1, t_0.2.2.2.2.1, t_0.2.2.2.2.2.1, t_0.2.2.2.2.2.2.1, t_0.2.2.2.2.2.2.2.1, t_0.2.2.2.2.2.2.2.2.1, 0, t_0.2.2.2.2.2.2.2.2.2.2.1, IntKind.wrap .i64 (t_0.2.2.2.2.2.2.2.2.2.2.2.1 + 1), t_0.2.2.2.2.2.2.2.2.2.2.2.2) 6 m_1.2.1) fun (r13 : ((Int × Int × Int × Int × Int × Int × (List Int) × Int × Int × ByteArray) × Unit) × Unit) =>
   some (((t_0.1, t_0.2.1, t_0.2.2.1, t_0.2.2.2.1, t_0.2.2.2.2.1, t_0.2.2.2.2.2.1, t_0.2.2.2.2.2.2.1, t_0.2.2.2.2.2.2.2.1, t_0.2.2.2.2.2.2.2.2.1, 0, t_0.2.2.2.2.2.2.2.2.2.2.1, IntKind.wrap .i64 (t_0.2.2.2.2.2.2.2.2.2.2.2.1 + 1), t_0.2.2.2.2.2.2.2.2.2.2.2.2), [r13.1.1], ()), ())
  else
   Option.bind (pleachref19_grand m_1.2.2.2.2.2.2.1) fun (r14 : (Int × Unit) × Unit) =>
   some (((t_0.1, t_0.2.1, t_0.2.2.1, m_1.2.1, m_1.2.2.2.1, r14.1.1, r11.1.1, m_1.2.2.2.2.1, IntKind.wrap .i64 (t_0.2.2.1 - m_1.2.2.2.2.2.1), 0, t_0.2.2.2.2.2.2.2.2.2.2.1, 0, t_0.2.2.2.2.2.2.2.2.2.2.2.2), [], ()), ())
theorem pleachref19_accepted_eq (t_0 : Int × Int × Int × Int × Int × Int × (List Int) × Int × Int × Int × Int × Int × List (Int × Int × Int)) (m_1 : Int × Int × Int × Int × Int × Int × (List Int) × Int × Int × ByteArray) : evFn pleachref19_accepted_Γ tab pleachref19_accepted_fi 1 [.val t39, .val t130] [⟨t39, [false, false, false, false, false, false, false, false, false, false, false, false, false], none⟩, ⟨t89, [true], none⟩] Tryz.f128 (t_0, m_1, ()) = pleachref19_accepted t_0 m_1 := by kernel_rfl
noncomputable def pleachref19_accepted_e : Ent := ⟨[.val t39, .val t130], [⟨t39, [false, false, false, false, false, false, false, false, false, false, false, false, false], none⟩, ⟨t89, [true], none⟩], fun x => pleachref19_accepted x.1 x.2.1⟩
theorem pleachref19_accepted_good : Good tab.ty Tryz.prog 128 pleachref19_accepted_e := by
  refine fn_good (Γ := pleachref19_accepted_Γ) (fi := pleachref19_accepted_fi) (n := 1) follows (gcons pleachref19_says_good (gcons pleachref1_AddPath_good (gcons pleachref19_grand_good gnil))) tabok Tryz.func128 (by kernel_rfl) (by kernel_rfl) (fun x r h => ?_)
  obtain ⟨t_0, m_1, _u⟩ := x
  exact (pleachref19_accepted_eq t_0 m_1).trans h
noncomputable def pleachref19_Comes_Γ : Ctx := [(80, pleachref1_Has_e), (89, pleachref19_says_e), (104, pleachref1_Find_e), (112, pleachref19_Fresh_e), (113, pleachref19_off_e), (114, pleachref19_full_e), (126, pleachref1_Old_e), (127, pleachref1_Hear_e), (128, pleachref19_accepted_e), (129, pleachref1_AddPath_e), (130, pleachref19_grand_e), (131, pleachref1_Drop_e)]
def pleachref19_Comes_fi : Fi := { keep := [], vty := [(7, 89), (15, 37), (214, 37)], vals := [], live := [(0, [2, 3, 4, 6, 25, 26, 27, 28, 29, 30, 31, 32, 33, 34, 35, 36, 45, 46, 47, 48, 49, 57, 58, 59, 60, 61, 82, 83, 84, 85, 86, 89, 90, 91, 92, 93, 94, 95, 96, 97, 141, 142, 143, 144, 145]), (1, [2, 3, 4, 6, 37, 45, 46, 47, 48, 49, 57, 58, 59, 60, 61, 82, 83, 84, 85, 86, 89, 90, 91, 92, 93, 94, 95, 96, 97, 141, 142, 143, 144, 145]), (2, [6, 7]), (3, [2, 3, 4, 6, 50, 57, 58, 59, 60, 61, 82, 83, 84, 85, 86, 89, 90, 91, 92, 93, 94, 95, 96, 97, 141, 142, 143, 144, 145]), (4, [2, 3, 4, 6, 57, 58, 59, 60, 61, 82, 83, 84, 85, 86, 89, 90, 91, 92, 93, 94, 95, 96, 97, 141, 142, 143, 144, 145]), (5, [2, 3, 4, 6, 8, 82, 83, 84, 85, 86, 89, 90, 91, 92, 93, 94, 95, 96, 97, 141, 142, 143, 144, 145]), (6, [2, 3, 4, 6, 8, 64, 82, 83, 84, 85, 86, 89, 90, 91, 92, 93, 94, 95, 96, 97, 141, 142, 143, 144, 145]), (7, [2, 3, 4, 6, 8, 64, 65, 82, 83, 84, 85, 86, 89, 90, 91, 92, 93, 94, 95, 96, 97, 141, 142, 143, 144, 145]), (8, [2, 3, 4, 6, 10, 82, 83, 84, 85, 86, 89, 90, 91, 92, 93, 94, 95, 96, 97]), (9, [2, 3, 4, 6, 10, 11, 82, 83, 84, 85, 86, 89, 90, 91, 92, 93, 94, 95, 96, 97]), (10, [2, 3, 4, 6, 10, 11, 77, 82, 83, 84, 85, 86, 89, 90, 91, 92, 93, 94, 95, 96, 97]), (11, [2, 3, 4, 6, 10, 11, 82, 83, 84, 85, 86, 89, 90, 91, 92, 93, 94, 95, 96, 97]), (12, [2, 3, 4, 6, 98]), (13, [6, 7]), (14, [2, 3, 4, 6]), (15, [2, 3, 6, 12]), (16, [3, 6, 12]), (17, [6, 7]), (18, [3, 4, 6, 8, 64, 128, 141, 142, 143, 144, 145]), (19, [6, 7]), (20, [3, 4, 6, 8, 64, 135, 141, 142, 143, 144, 145]), (21, [3, 6, 8, 146]), (22, [3, 6, 8]), (23, [3, 6, 152]), (24, [3, 6]), (25, [3, 4, 6, 8, 64, 155]), (26, [3, 4, 6, 14]), (27, [3, 4, 6, 166]), (28, [6, 7]), (29, [3, 6]), (30, [3, 4, 6, 8, 64, 187]), (31, [3, 4, 6, 190]), (32, [6, 7]), (33, [3, 4, 6, 15, 16]), (34, [3, 4, 6, 15, 206]), (35, [6, 7]), (36, [3, 4, 6]), (37, [3, 4, 6, 227]), (38, [3, 6]), (39, [3, 4, 6, 237]), (40, [3, 6]), (41, [6, 7])] }
noncomputable def pleachref19_Comes_x (x : PDs [.val t39, .val t130, .val t2]) : Option (RDs [⟨t39, [false, false, false, false, false, false, false, false, false, false, false, false, false], none⟩, ⟨t89, [true], none⟩] × ODs [.val t39, .val t130, .val t2]) := evFn pleachref19_Comes_Γ tab pleachref19_Comes_fi 1099511627776 [.val t39, .val t130, .val t2] [⟨t39, [false, false, false, false, false, false, false, false, false, false, false, false, false], none⟩, ⟨t89, [true], none⟩] Tryz.f99 x
noncomputable def pleachref19_Comes (x0 : Int × Int × Int × Int × Int × Int × (List Int) × Int × Int × Int × Int × Int × List (Int × Int × Int)) (x1 : Int × Int × Int × Int × Int × Int × (List Int) × Int × Int × ByteArray) (x2 : Int) : Option (((Int × Int × Int × Int × Int × Int × (List Int) × Int × Int × Int × Int × Int × List (Int × Int × Int)) × (List (Int × Int × Int × Int × Int × Int × (List Int) × Int × Int × ByteArray)) × Unit) × Unit) := pleachref19_Comes_x (x0, x1, x2, ())
noncomputable def pleachref19_Comes_e : Ent := ⟨[.val t39, .val t130, .val t2], [⟨t39, [false, false, false, false, false, false, false, false, false, false, false, false, false], none⟩, ⟨t89, [true], none⟩], fun x => pleachref19_Comes x.1 x.2.1 x.2.2.1⟩
theorem pleachref19_Comes_good : Good tab.ty Tryz.prog 99 pleachref19_Comes_e := by
  refine fn_good (Γ := pleachref19_Comes_Γ) (fi := pleachref19_Comes_fi) (n := 1099511627776) follows (gcons pleachref1_Has_good (gcons pleachref19_says_good (gcons pleachref1_Find_good (gcons pleachref19_Fresh_good (gcons pleachref19_off_good (gcons pleachref19_full_good (gcons pleachref1_Old_good (gcons pleachref1_Hear_good (gcons pleachref19_accepted_good (gcons pleachref1_AddPath_good (gcons pleachref19_grand_good (gcons pleachref1_Drop_good gnil)))))))))))) tabok Tryz.func99 (by kernel_rfl) (by kernel_rfl) (fun x r h => ?_)
  obtain ⟨x0, x1, x2, _u⟩ := x
  exact h
noncomputable def pleachref13_Knows_Γ : Ctx := []
def pleachref13_Knows_fi : Fi := { keep := [], vty := [], vals := [], live := [(0, [1, 2, 4, 9, 10]), (1, [1, 2, 4, 11]), (2, [2, 4]), (3, [4])] }
noncomputable def pleachref13_Knows (f_0 : Int × Int × (List (Int × ByteArray)) × (List (Int × ByteArray)) × (List (Int × Int × Int × ByteArray × Int)) × Int × Int) (top_1 : Int) : Option (((Int × Int × (List (Int × ByteArray)) × (List (Int × ByteArray)) × (List (Int × Int × Int × ByteArray × Int)) × Int × Int) × Unit) × Unit) :=
 bif decide (f_0.1 > 0) then
  bif decide (top_1 ≤ 1000000) then
   some (((f_0.1, if top_1 > f_0.2.1 then top_1 else f_0.2.1, f_0.2.2), ()), ())
  else
   some ((f_0, ()), ())
 else
  some ((f_0, ()), ())
theorem pleachref13_Knows_eq (f_0 : Int × Int × (List (Int × ByteArray)) × (List (Int × ByteArray)) × (List (Int × Int × Int × ByteArray × Int)) × Int × Int) (top_1 : Int) : evFn pleachref13_Knows_Γ tab pleachref13_Knows_fi 1 [.val t45, .val t2] [⟨t45, [false, false, false, false, false, false, false], none⟩] Tryz.f100 (f_0, top_1, ()) = pleachref13_Knows f_0 top_1 := by kernel_rfl
noncomputable def pleachref13_Knows_e : Ent := ⟨[.val t45, .val t2], [⟨t45, [false, false, false, false, false, false, false], none⟩], fun x => pleachref13_Knows x.1 x.2.1⟩
theorem pleachref13_Knows_good : Good tab.ty Tryz.prog 100 pleachref13_Knows_e := by
  refine fn_good (Γ := pleachref13_Knows_Γ) (fi := pleachref13_Knows_fi) (n := 1) follows gnil tabok Tryz.func100 (by kernel_rfl) (by kernel_rfl) (fun x r h => ?_)
  obtain ⟨f_0, top_1, _u⟩ := x
  exact (pleachref13_Knows_eq f_0 top_1).trans h
noncomputable def pleachref13_Begin_Γ : Ctx := [(100, pleachref13_Knows_e)]
def pleachref13_Begin_fi : Fi := { keep := [], vty := [], vals := [], live := [(0, [1, 2, 4, 15, 16]), (1, [1, 2, 4, 7, 15, 16]), (2, [4]), (3, [1, 2, 4, 17]), (4, [2, 4]), (5, [4])] }
noncomputable def pleachref13_Begin (f_0 : Int × Int × (List (Int × ByteArray)) × (List (Int × ByteArray)) × (List (Int × Int × Int × ByteArray × Int)) × Int × Int) (next_1 : Int) : Option (((Int × Int × (List (Int × ByteArray)) × (List (Int × ByteArray)) × (List (Int × Int × Int × ByteArray × Int)) × Int × Int) × Unit) × Unit) :=
 bif decide (f_0.1 > 0) then
  Option.bind (pleachref13_Knows f_0 (IntKind.wrap .i64 (next_1 - 1))) fun (r1 : ((Int × Int × (List (Int × ByteArray)) × (List (Int × ByteArray)) × (List (Int × Int × Int × ByteArray × Int)) × Int × Int) × Unit) × Unit) =>
  some ((r1.1.1, ()), ())
 else
 bif decide (next_1 ≥ 1) then
  bif decide (next_1 ≤ 1000000) then
   some (((next_1, f_0.2), ()), ())
  else
   some ((f_0, ()), ())
 else
  some ((f_0, ()), ())
theorem pleachref13_Begin_eq (f_0 : Int × Int × (List (Int × ByteArray)) × (List (Int × ByteArray)) × (List (Int × Int × Int × ByteArray × Int)) × Int × Int) (next_1 : Int) : evFn pleachref13_Begin_Γ tab pleachref13_Begin_fi 1 [.val t45, .val t2] [⟨t45, [false, false, false, false, false, false, false], none⟩] Tryz.f101 (f_0, next_1, ()) = pleachref13_Begin f_0 next_1 := by kernel_rfl
noncomputable def pleachref13_Begin_e : Ent := ⟨[.val t45, .val t2], [⟨t45, [false, false, false, false, false, false, false], none⟩], fun x => pleachref13_Begin x.1 x.2.1⟩
theorem pleachref13_Begin_good : Good tab.ty Tryz.prog 101 pleachref13_Begin_e := by
  refine fn_good (Γ := pleachref13_Begin_Γ) (fi := pleachref13_Begin_fi) (n := 1) follows (gcons pleachref13_Knows_good gnil) tabok Tryz.func101 (by kernel_rfl) (by kernel_rfl) (fun x r h => ?_)
  obtain ⟨f_0, next_1, _u⟩ := x
  exact (pleachref13_Begin_eq f_0 next_1).trans h
noncomputable def pleachref13_Get_Γ : Ctx := []
def pleachref13_Get_fi : Fi := { keep := [], vty := [], vals := [], live := [(0, [0, 1]), (1, [0, 1, 6]), (2, [0, 1, 6, 10]), (3, [0, 1, 6]), (4, [0, 1, 6, 19]), (5, [4, 5]), (6, [4, 5])] }
noncomputable def pleachref13_Get_B1 (L1 : (List (Int × ByteArray)) → Int → Int → Option ((ByteArray × Bool × Unit) × Unit)) (v1 : List (Int × ByteArray)) (v2 : Int) (v3 : Int) : Option ((ByteArray × Bool × Unit) × Unit) :=
 bif decide (v3 < (v1.length : Int)) then
  bif decide (0 ≤ v3) && decide (v3 < (v1.length : Int)) then
   bif ((List.getD v1 v3.toNat (0, (⟨#[]⟩ : ByteArray))).1) == v2 then
    bif decide (0 ≤ v3) && decide (v3 < (v1.length : Int)) then
     some (((List.getD v1 v3.toNat (0, (⟨#[]⟩ : ByteArray))).2, true, ()), ())
    else none
   else
    L1 v1 v2 (IntKind.wrap .i64 (v3 + 1))
  else none
 else
  some (((⟨#[]⟩ : ByteArray), false, ()), ())
noncomputable def pleachref13_Get_T (L1 : (List (Int × ByteArray)) → Int → Int → Option ((ByteArray × Bool × Unit) × Unit)) (l_0 : List (Int × ByteArray)) (seq_1 : Int) : Option ((ByteArray × Bool × Unit) × Unit) :=
 L1 l_0 seq_1 0
noncomputable def pleachref13_Get_L1 (n : Nat) : Nat → (List (Int × ByteArray)) → Int → Int → Option ((ByteArray × Bool × Unit) × Unit) := iter (fun _ _ _ => none) fun L => pleachref13_Get_B1 L
noncomputable def pleachref13_Get_X1 (n m : Nat) (v1 : List (Int × ByteArray)) (v2 : Int) (v3 : Int) : Option ((ByteArray × Bool × Unit) × Unit) :=
 atLoop pleachref13_Get_Γ tab (fiB [.val t41, .val t2] pleachref13_Get_fi) n [.val t41, .val t2] [⟨t9, [false], none⟩, ⟨t4, [false], none⟩] Tryz.f142 [1, 0, 1, 0] [] [0, 1, 6] m
 ⟨[(0, SV.cv (CV.one (LV.pure t41 v1))), (1, SV.cv (CV.one (LV.pure t2 v2))), (6, SV.cv (CV.one (LV.pure t2 v3)))],
  []⟩
theorem pleachref13_Get_step1 (n m : Nat) (v1 : List (Int × ByteArray)) (v2 : Int) (v3 : Int) : pleachref13_Get_X1 n (m + 1) v1 v2 v3 = pleachref13_Get_B1 (pleachref13_Get_X1 n m) v1 v2 v3 := by kernel_rfl
theorem pleachref13_Get_start (n : Nat) (l_0 : List (Int × ByteArray)) (seq_1 : Int) : evFn pleachref13_Get_Γ tab pleachref13_Get_fi n [.val t41, .val t2] [⟨t9, [false], none⟩, ⟨t4, [false], none⟩] Tryz.f142 (l_0, seq_1, ()) = pleachref13_Get_T (pleachref13_Get_X1 n n) l_0 seq_1 := by kernel_rfl
theorem pleachref13_Get_XL1 (n : Nat) : ∀ m, pleachref13_Get_X1 n m = pleachref13_Get_L1 n m
 | 0 => rfl
 | m + 1 => by
  have ih := pleachref13_Get_XL1 n m
  funext v1 v2 v3
  rw [pleachref13_Get_step1, ih]
  rfl
noncomputable def pleachref13_Get_n (n : Nat) (l_0 : List (Int × ByteArray)) (seq_1 : Int) : Option ((ByteArray × Bool × Unit) × Unit) := pleachref13_Get_T (pleachref13_Get_L1 n n) l_0 seq_1
noncomputable def pleachref13_Get (l_0 : List (Int × ByteArray)) (seq_1 : Int) : Option ((ByteArray × Bool × Unit) × Unit) := pleachref13_Get_n 1099511627776 l_0 seq_1
theorem pleachref13_Get_eq (n : Nat) (l_0 : List (Int × ByteArray)) (seq_1 : Int) : evFn pleachref13_Get_Γ tab pleachref13_Get_fi n [.val t41, .val t2] [⟨t9, [false], none⟩, ⟨t4, [false], none⟩] Tryz.f142 (l_0, seq_1, ()) = pleachref13_Get_n n l_0 seq_1 := by
  rw [pleachref13_Get_start, pleachref13_Get_XL1 n n]
  rfl
noncomputable def pleachref13_Get_e : Ent := ⟨[.val t41, .val t2], [⟨t9, [false], none⟩, ⟨t4, [false], none⟩], fun x => pleachref13_Get x.1 x.2.1⟩
theorem pleachref13_Get_good : Good tab.ty Tryz.prog 142 pleachref13_Get_e := by
  refine fn_good (Γ := pleachref13_Get_Γ) (fi := pleachref13_Get_fi) (n := 1099511627776) follows gnil tabok Tryz.func142 (by kernel_rfl) (by kernel_rfl) (fun x r h => ?_)
  obtain ⟨l_0, seq_1, _u⟩ := x
  exact (pleachref13_Get_eq 1099511627776 l_0 seq_1).trans h
noncomputable def pleachref13_PutWin_Γ : Ctx := [(142, pleachref13_Get_e)]
def pleachref13_PutWin_fi : Fi := { keep := [], vty := [(10, 41)], vals := [], live := [(0, [0, 1, 5, 25, 26, 27, 28, 29, 32, 44, 45, 46, 47, 48, 49, 50, 51]), (1, [0, 1, 5, 9, 25, 26, 27, 28, 29, 32, 44, 45, 46, 47, 48, 49, 50, 51]), (2, [0, 5, 33, 44, 45, 46, 47, 48, 49, 50, 51]), (3, [6, 7]), (4, [0, 5, 10, 44, 45, 46, 47, 48, 49, 50, 51]), (5, [0, 5, 10, 11, 44, 45, 46, 47, 48, 49, 50, 51]), (6, [0, 5, 10, 11, 12, 44, 45, 46, 47, 48, 49, 50, 51]), (7, [0, 5, 10, 11, 12, 38, 44, 45, 46, 47, 48, 49, 50, 51]), (8, [0, 5, 10, 11, 12, 44, 45, 46, 47, 48, 49, 50, 51]), (9, [0, 5, 10, 11, 12, 44, 45, 46, 47, 48, 49, 50, 51, 52]), (10, [0, 5, 10, 11, 12, 44, 45, 46, 47, 48, 49, 50, 51]), (11, [0, 5, 10, 11, 12, 44, 45, 46, 47, 48, 49, 50, 51]), (12, [5, 10, 65]), (13, [10]), (14, [6, 7])] }
noncomputable def pleachref13_PutWin_B1 (L1 : (List (Int × ByteArray)) → Bool → Int → Int → ByteArray → (List (Int × ByteArray)) → Option (((List (Int × ByteArray)) × Bool × Unit) × Unit)) (v2 : List (Int × ByteArray)) (v3 : Bool) (v4 : Int) (v5 : Int) (v6 : ByteArray) (v7 : List (Int × ByteArray)) : Option (((List (Int × ByteArray)) × Bool × Unit) × Unit) :=
 bif decide (v4 < (v2.length : Int)) then
  bif !v3 then
   bif decide (0 ≤ v4) && decide (v4 < (v2.length : Int)) then
    bif decide ((List.getD v2 v4.toNat (0, (⟨#[]⟩ : ByteArray))).1 > v5) then
     bif Nat.ble (v7.length + 1) 1073741824 then
      bif decide (0 ≤ v4) && decide (v4 < (v2.length : Int)) then
       bif Nat.ble ((v7 ++ [(v5, v6)]).length + 1) 1073741824 then
        L1 v2 true (IntKind.wrap .i64 (v4 + 1)) v5 v6 ((v7 ++ [(v5, v6)]) ++ [(List.getD v2 v4.toNat (0, (⟨#[]⟩ : ByteArray)))])
       else none
      else none
     else none
    else
    bif decide (0 ≤ v4) && decide (v4 < (v2.length : Int)) then
     bif Nat.ble (v7.length + 1) 1073741824 then
      L1 v2 v3 (IntKind.wrap .i64 (v4 + 1)) v5 v6 (v7 ++ [(List.getD v2 v4.toNat (0, (⟨#[]⟩ : ByteArray)))])
     else none
    else none
   else none
  else
  bif decide (0 ≤ v4) && decide (v4 < (v2.length : Int)) then
   bif Nat.ble (v7.length + 1) 1073741824 then
    L1 v2 v3 (IntKind.wrap .i64 (v4 + 1)) v5 v6 (v7 ++ [(List.getD v2 v4.toNat (0, (⟨#[]⟩ : ByteArray)))])
   else none
  else none
 else
 bif !v3 then
  bif Nat.ble (v7.length + 1) 1073741824 then
   some ((v7 ++ [(v5, v6)], true, ()), ())
  else none
 else
  some ((v7, true, ()), ())
noncomputable def pleachref13_PutWin_T (L1 : (List (Int × ByteArray)) → Bool → Int → Int → ByteArray → (List (Int × ByteArray)) → Option (((List (Int × ByteArray)) × Bool × Unit) × Unit)) (l_0 : List (Int × ByteArray)) (next_1 : Int) (x_2 : Int × ByteArray) : Option (((List (Int × ByteArray)) × Bool × Unit) × Unit) :=
 Option.bind (pleachref13_Get l_0 x_2.1) fun (r1 : (ByteArray × Bool × Unit) × Unit) =>
 bif decide (x_2.1 < next_1) then
  some ((l_0, false, ()), ())
 else
 bif decide (IntKind.wrap .i64 (x_2.1 - next_1) ≥ 8) then
  some ((l_0, false, ()), ())
 else
 bif r1.1.2.1 then
  some ((l_0, false, ()), ())
 else
  L1 l_0 false 0 x_2.1 x_2.2 []
noncomputable def pleachref13_PutWin_L1 (n : Nat) : Nat → (List (Int × ByteArray)) → Bool → Int → Int → ByteArray → (List (Int × ByteArray)) → Option (((List (Int × ByteArray)) × Bool × Unit) × Unit) := iter (fun _ _ _ _ _ _ => none) fun L => pleachref13_PutWin_B1 L
noncomputable def pleachref13_PutWin_X1 (n m : Nat) (v2 : List (Int × ByteArray)) (v3 : Bool) (v4 : Int) (v5 : Int) (v6 : ByteArray) (v7 : List (Int × ByteArray)) : Option (((List (Int × ByteArray)) × Bool × Unit) × Unit) :=
 atLoop pleachref13_PutWin_Γ tab (fiB [.val t41, .val t2, .val t152] pleachref13_PutWin_fi) n [.val t41, .val t2, .val t152] [⟨t41, [false], none⟩, ⟨t4, [false], none⟩] Tryz.f132 [1, 1, 1, 1, 1, 0, 1, 0] [] [0, 5, 10, 11, 12] m
 ⟨[(0, SV.cv (CV.one (LV.pure t41 v2))), (5, SV.cv (CV.one (LV.ptr (5, 0) 0))), (10, SV.cv (CV.one (LV.ref (888888, 10)))), (11, SV.cv (CV.one (LV.pure t4 v3))), (12, SV.cv (CV.one (LV.pure t2 v4)))],
  [((5, 0), Ob.box 153 [LV.pure t2 v5, LV.pure t9 v6]), ((888888, 10), Ob.row 153 t152 v7)]⟩
theorem pleachref13_PutWin_step1 (n m : Nat) (v2 : List (Int × ByteArray)) (v3 : Bool) (v4 : Int) (v5 : Int) (v6 : ByteArray) (v7 : List (Int × ByteArray)) : pleachref13_PutWin_X1 n (m + 1) v2 v3 v4 v5 v6 v7 = pleachref13_PutWin_B1 (pleachref13_PutWin_X1 n m) v2 v3 v4 v5 v6 v7 := by kernel_rfl
theorem pleachref13_PutWin_start (n : Nat) (l_0 : List (Int × ByteArray)) (next_1 : Int) (x_2 : Int × ByteArray) : evFn pleachref13_PutWin_Γ tab pleachref13_PutWin_fi n [.val t41, .val t2, .val t152] [⟨t41, [false], none⟩, ⟨t4, [false], none⟩] Tryz.f132 (l_0, next_1, x_2, ()) = pleachref13_PutWin_T (pleachref13_PutWin_X1 n n) l_0 next_1 x_2 := by kernel_rfl
theorem pleachref13_PutWin_XL1 (n : Nat) : ∀ m, pleachref13_PutWin_X1 n m = pleachref13_PutWin_L1 n m
 | 0 => rfl
 | m + 1 => by
  have ih := pleachref13_PutWin_XL1 n m
  funext v2 v3 v4 v5 v6 v7
  rw [pleachref13_PutWin_step1, ih]
  rfl
noncomputable def pleachref13_PutWin_n (n : Nat) (l_0 : List (Int × ByteArray)) (next_1 : Int) (x_2 : Int × ByteArray) : Option (((List (Int × ByteArray)) × Bool × Unit) × Unit) := pleachref13_PutWin_T (pleachref13_PutWin_L1 n n) l_0 next_1 x_2
noncomputable def pleachref13_PutWin (l_0 : List (Int × ByteArray)) (next_1 : Int) (x_2 : Int × ByteArray) : Option (((List (Int × ByteArray)) × Bool × Unit) × Unit) := pleachref13_PutWin_n 1099511627776 l_0 next_1 x_2
theorem pleachref13_PutWin_eq (n : Nat) (l_0 : List (Int × ByteArray)) (next_1 : Int) (x_2 : Int × ByteArray) : evFn pleachref13_PutWin_Γ tab pleachref13_PutWin_fi n [.val t41, .val t2, .val t152] [⟨t41, [false], none⟩, ⟨t4, [false], none⟩] Tryz.f132 (l_0, next_1, x_2, ()) = pleachref13_PutWin_n n l_0 next_1 x_2 := by
  rw [pleachref13_PutWin_start, pleachref13_PutWin_XL1 n n]
  rfl
noncomputable def pleachref13_PutWin_e : Ent := ⟨[.val t41, .val t2, .val t152], [⟨t41, [false], none⟩, ⟨t4, [false], none⟩], fun x => pleachref13_PutWin x.1 x.2.1 x.2.2.1⟩
theorem pleachref13_PutWin_good : Good tab.ty Tryz.prog 132 pleachref13_PutWin_e := by
  refine fn_good (Γ := pleachref13_PutWin_Γ) (fi := pleachref13_PutWin_fi) (n := 1099511627776) follows (gcons pleachref13_Get_good gnil) tabok Tryz.func132 (by kernel_rfl) (by kernel_rfl) (fun x r h => ?_)
  obtain ⟨l_0, next_1, x_2, _u⟩ := x
  exact (pleachref13_PutWin_eq 1099511627776 l_0 next_1 x_2).trans h
noncomputable def pleachref13_Comes_Γ : Ctx := [(100, pleachref13_Knows_e), (118, pleachref13_Goes_e), (132, pleachref13_PutWin_e)]
def pleachref13_Comes_fi : Fi := { keep := [], vty := [], vals := [], live := [(0, [2, 3, 4, 9, 10, 11, 14, 15, 16, 19, 20, 21, 22]), (1, [2, 3, 4, 23]), (2, [4]), (3, [2, 3, 4]), (4, [2, 4]), (5, [2, 4]), (6, [4])] }
noncomputable def pleachref13_Comes (f_0 : Int × Int × (List (Int × ByteArray)) × (List (Int × ByteArray)) × (List (Int × Int × Int × ByteArray × Int)) × Int × Int) (i_1 : Int × ByteArray) : Option (((Int × Int × (List (Int × ByteArray)) × (List (Int × ByteArray)) × (List (Int × Int × Int × ByteArray × Int)) × Int × Int) × Unit) × Unit) :=
 bif f_0.1 == 0 then
  some ((f_0, ()), ())
 else
 bif decide (i_1.1 < 1) then
  some ((f_0, ()), ())
 else
 bif decide (i_1.1 > 1000000) then
  some ((f_0, ()), ())
 else
 bif decide ((i_1.2.size : Int) > 12) then
  some ((f_0, ()), ())
 else
  Option.bind (pleachref13_Knows f_0 i_1.1) fun (r1 : ((Int × Int × (List (Int × ByteArray)) × (List (Int × ByteArray)) × (List (Int × Int × Int × ByteArray × Int)) × Int × Int) × Unit) × Unit) =>
  Option.bind (pleachref13_PutWin r1.1.1.2.2.2.1 r1.1.1.1 i_1) fun (r2 : ((List (Int × ByteArray)) × Bool × Unit) × Unit) =>
  Option.bind (pleachref13_Goes (r1.1.1.1, r1.1.1.2.1, r1.1.1.2.2.1, r2.1.1, r1.1.1.2.2.2.2)) fun (r3 : ((Int × Int × (List (Int × ByteArray)) × (List (Int × ByteArray)) × (List (Int × Int × Int × ByteArray × Int)) × Int × Int) × (List (Int × ByteArray)) × Unit) × Unit) =>
  some ((r3.1.1, ()), ())
theorem pleachref13_Comes_eq (f_0 : Int × Int × (List (Int × ByteArray)) × (List (Int × ByteArray)) × (List (Int × Int × Int × ByteArray × Int)) × Int × Int) (i_1 : Int × ByteArray) : evFn pleachref13_Comes_Γ tab pleachref13_Comes_fi 1 [.val t45, .val t152] [⟨t45, [false, false, false, false, false, false, false], none⟩] Tryz.f102 (f_0, i_1, ()) = pleachref13_Comes f_0 i_1 := by kernel_rfl
noncomputable def pleachref13_Comes_e : Ent := ⟨[.val t45, .val t152], [⟨t45, [false, false, false, false, false, false, false], none⟩], fun x => pleachref13_Comes x.1 x.2.1⟩
theorem pleachref13_Comes_good : Good tab.ty Tryz.prog 102 pleachref13_Comes_e := by
  refine fn_good (Γ := pleachref13_Comes_Γ) (fi := pleachref13_Comes_fi) (n := 1) follows (gcons pleachref13_Knows_good (gcons pleachref13_Goes_good (gcons pleachref13_PutWin_good gnil))) tabok Tryz.func102 (by kernel_rfl) (by kernel_rfl) (fun x r h => ?_)
  obtain ⟨f_0, i_1, _u⟩ := x
  exact (pleachref13_Comes_eq f_0 i_1).trans h
noncomputable def pleachref13_Notes_Γ : Ctx := [(79, pleachref1_MaySpan_e), (100, pleachref13_Knows_e), (117, pleachref13_Skips_e), (118, pleachref13_Goes_e)]
def pleachref13_Notes_fi : Fi := { keep := [], vty := [], vals := [], live := [(0, [1, 2, 3, 6, 11, 12, 13, 14, 15, 26, 27, 28, 29]), (1, [1, 2, 3, 6, 16, 26, 27, 28, 29]), (2, [6]), (3, [1, 2, 3, 6, 26, 27, 28, 29]), (4, [2, 3, 6, 30]), (5, [6]), (6, [3, 6]), (7, [3, 6]), (8, [6])] }
noncomputable def pleachref13_Notes (f_0 : Int × Int × (List (Int × ByteArray)) × (List (Int × ByteArray)) × (List (Int × Int × Int × ByteArray × Int)) × Int × Int) (lo_1 : Int) (hi_2 : Int) : Option (((Int × Int × (List (Int × ByteArray)) × (List (Int × ByteArray)) × (List (Int × Int × Int × ByteArray × Int)) × Int × Int) × Unit) × Unit) :=
 bif f_0.1 == 0 then
  some ((f_0, ()), ())
 else
  Option.bind (pleachref1_MaySpan (lo_1, hi_2)) fun (r1 : (Bool × Unit) × Unit) =>
  bif !r1.1.1 then
   some ((f_0, ()), ())
  else
   Option.bind (pleachref13_Knows f_0 hi_2) fun (r2 : ((Int × Int × (List (Int × ByteArray)) × (List (Int × ByteArray)) × (List (Int × Int × Int × ByteArray × Int)) × Int × Int) × Unit) × Unit) =>
   bif decide (r2.1.1.1 < lo_1) then
    some ((r2.1.1, ()), ())
   else
   bif decide (r2.1.1.1 > hi_2) then
    some ((r2.1.1, ()), ())
   else
    Option.bind (pleachref13_Skips r2.1.1 hi_2 1) fun (r3 : ((Int × Int × (List (Int × ByteArray)) × (List (Int × ByteArray)) × (List (Int × Int × Int × ByteArray × Int)) × Int × Int) × (List (Int × Int)) × Unit) × Unit) =>
    Option.bind (pleachref13_Goes r3.1.1) fun (r4 : ((Int × Int × (List (Int × ByteArray)) × (List (Int × ByteArray)) × (List (Int × Int × Int × ByteArray × Int)) × Int × Int) × (List (Int × ByteArray)) × Unit) × Unit) =>
    some ((r4.1.1, ()), ())
theorem pleachref13_Notes_eq (f_0 : Int × Int × (List (Int × ByteArray)) × (List (Int × ByteArray)) × (List (Int × Int × Int × ByteArray × Int)) × Int × Int) (lo_1 : Int) (hi_2 : Int) : evFn pleachref13_Notes_Γ tab pleachref13_Notes_fi 1 [.val t45, .val t2, .val t2] [⟨t45, [false, false, false, false, false, false, false], none⟩] Tryz.f103 (f_0, lo_1, hi_2, ()) = pleachref13_Notes f_0 lo_1 hi_2 := by kernel_rfl
noncomputable def pleachref13_Notes_e : Ent := ⟨[.val t45, .val t2, .val t2], [⟨t45, [false, false, false, false, false, false, false], none⟩], fun x => pleachref13_Notes x.1 x.2.1 x.2.2.1⟩
theorem pleachref13_Notes_good : Good tab.ty Tryz.prog 103 pleachref13_Notes_e := by
  refine fn_good (Γ := pleachref13_Notes_Γ) (fi := pleachref13_Notes_fi) (n := 1) follows (gcons pleachref1_MaySpan_good (gcons pleachref13_Knows_good (gcons pleachref13_Skips_good (gcons pleachref13_Goes_good gnil)))) tabok Tryz.func103 (by kernel_rfl) (by kernel_rfl) (fun x r h => ?_)
  obtain ⟨f_0, lo_1, hi_2, _u⟩ := x
  exact (pleachref13_Notes_eq f_0 lo_1 hi_2).trans h
noncomputable def pleachref1_AddSpan_Γ : Ctx := [(79, pleachref1_MaySpan_e)]
def pleachref1_AddSpan_fi : Fi := { keep := [], vty := [(5, 56), (6, 56)], vals := [], live := [(0, [0, 3]), (1, [0, 3, 10]), (2, [4]), (3, [0, 3, 5, 6]), (4, [0, 3, 5, 6, 7]), (5, [0, 3, 5, 6, 7, 17]), (6, [0, 3, 5, 6, 7]), (7, [0, 3, 5, 6, 7]), (8, [0, 3, 5, 6, 7, 37]), (9, [0, 3, 5, 6, 7]), (10, [0, 3, 5, 6, 7, 54]), (11, [0, 3, 5, 6, 7]), (12, [4])] }
noncomputable def pleachref1_AddSpan_B1 (L1 : (List (Int × Int)) → Int → Int → Int → (List (Int × Int)) → (List (Int × Int)) → Option (((List (Int × Int)) × Unit) × Unit)) (v2 : List (Int × Int)) (v3 : Int) (v4 : Int) (v5 : Int) (v6 : List (Int × Int)) (v7 : List (Int × Int)) : Option (((List (Int × Int)) × Unit) × Unit) :=
 bif decide (v3 < (v2.length : Int)) then
  bif decide (0 ≤ v3) && decide (v3 < (v2.length : Int)) then
   bif decide (IntKind.wrap .i64 (((List.getD v2 v3.toNat (0, 0)).2) + 1) < v4) then
    bif decide (0 ≤ v3) && decide (v3 < (v2.length : Int)) then
     bif Nat.ble (v6.length + 1) 1073741824 then
      L1 v2 (IntKind.wrap .i64 (v3 + 1)) v4 v5 (v6 ++ [(List.getD v2 v3.toNat (0, 0))]) v7
     else none
    else none
   else
   bif decide (0 ≤ v3) && decide (v3 < (v2.length : Int)) then
    bif decide ((List.getD v2 v3.toNat (0, 0)).1 > IntKind.wrap .i64 (v5 + 1)) then
     bif decide (0 ≤ v3) && decide (v3 < (v2.length : Int)) then
      bif Nat.ble (v7.length + 1) 1073741824 then
       L1 v2 (IntKind.wrap .i64 (v3 + 1)) v4 v5 v6 (v7 ++ [(List.getD v2 v3.toNat (0, 0))])
      else none
     else none
    else
    bif decide (0 ≤ v3) && decide (v3 < (v2.length : Int)) then
     bif decide (0 ≤ v3) && decide (v3 < (v2.length : Int)) then
      L1 v2 (IntKind.wrap .i64 (v3 + 1)) (if (List.getD v2 v3.toNat (0, 0)).1 < v4 then (List.getD v2 v3.toNat (0, 0)).1 else v4) (if (List.getD v2 v3.toNat (0, 0)).2 > v5 then (List.getD v2 v3.toNat (0, 0)).2 else v5) v6 v7
     else none
    else none
   else none
  else none
 else
 bif Nat.ble (v6.length + 1) 1073741824 then
  bif Nat.ble ((v6 ++ [(v4, v5)]).length + v7.length) 1073741824 then
   some (((v6 ++ [(v4, v5)]) ++ v7, ()), ())
  else none
 else none
noncomputable def pleachref1_AddSpan_T (L1 : (List (Int × Int)) → Int → Int → Int → (List (Int × Int)) → (List (Int × Int)) → Option (((List (Int × Int)) × Unit) × Unit)) (l_0 : List (Int × Int)) (s_1 : Int × Int) : Option (((List (Int × Int)) × Unit) × Unit) :=
 Option.bind (pleachref1_MaySpan s_1) fun (r1 : (Bool × Unit) × Unit) =>
 bif !r1.1.1 then
  bif Nat.ble (0 + l_0.length) 1073741824 then
   some (([] ++ l_0, ()), ())
  else none
 else
  L1 l_0 0 s_1.1 s_1.2 [] []
noncomputable def pleachref1_AddSpan_L1 (n : Nat) : Nat → (List (Int × Int)) → Int → Int → Int → (List (Int × Int)) → (List (Int × Int)) → Option (((List (Int × Int)) × Unit) × Unit) := iter (fun _ _ _ _ _ _ => none) fun L => pleachref1_AddSpan_B1 L
noncomputable def pleachref1_AddSpan_X1 (n m : Nat) (v2 : List (Int × Int)) (v3 : Int) (v4 : Int) (v5 : Int) (v6 : List (Int × Int)) (v7 : List (Int × Int)) : Option (((List (Int × Int)) × Unit) × Unit) :=
 atLoop pleachref1_AddSpan_Γ tab (fiB [.val t56, .val t43] pleachref1_AddSpan_fi) n [.val t56, .val t43] [⟨t56, [true], none⟩] Tryz.f57 [1, 1, 1, 0, 1, 0] [] [0, 3, 5, 6, 7] m
 ⟨[(0, SV.cv (CV.one (LV.pure t56 v2))), (3, SV.cv (CV.one (LV.ptr (3, 0) 0))), (5, SV.cv (CV.one (LV.ref (888888, 5)))), (6, SV.cv (CV.one (LV.ref (888888, 6)))), (7, SV.cv (CV.one (LV.pure t2 v3)))],
  [((3, 0), Ob.box 63 [LV.pure t2 v4, LV.pure t2 v5]), ((888888, 5), Ob.row 63 t43 v6), ((888888, 6), Ob.row 63 t43 v7)]⟩
theorem pleachref1_AddSpan_step1 (n m : Nat) (v2 : List (Int × Int)) (v3 : Int) (v4 : Int) (v5 : Int) (v6 : List (Int × Int)) (v7 : List (Int × Int)) : pleachref1_AddSpan_X1 n (m + 1) v2 v3 v4 v5 v6 v7 = pleachref1_AddSpan_B1 (pleachref1_AddSpan_X1 n m) v2 v3 v4 v5 v6 v7 := by kernel_rfl
theorem pleachref1_AddSpan_start (n : Nat) (l_0 : List (Int × Int)) (s_1 : Int × Int) : evFn pleachref1_AddSpan_Γ tab pleachref1_AddSpan_fi n [.val t56, .val t43] [⟨t56, [true], none⟩] Tryz.f57 (l_0, s_1, ()) = pleachref1_AddSpan_T (pleachref1_AddSpan_X1 n n) l_0 s_1 := by kernel_rfl
theorem pleachref1_AddSpan_XL1 (n : Nat) : ∀ m, pleachref1_AddSpan_X1 n m = pleachref1_AddSpan_L1 n m
 | 0 => rfl
 | m + 1 => by
  have ih := pleachref1_AddSpan_XL1 n m
  funext v2 v3 v4 v5 v6 v7
  rw [pleachref1_AddSpan_step1, ih]
  rfl
noncomputable def pleachref1_AddSpan_n (n : Nat) (l_0 : List (Int × Int)) (s_1 : Int × Int) : Option (((List (Int × Int)) × Unit) × Unit) := pleachref1_AddSpan_T (pleachref1_AddSpan_L1 n n) l_0 s_1
noncomputable def pleachref1_AddSpan (l_0 : List (Int × Int)) (s_1 : Int × Int) : Option (((List (Int × Int)) × Unit) × Unit) := pleachref1_AddSpan_n 1099511627776 l_0 s_1
theorem pleachref1_AddSpan_eq (n : Nat) (l_0 : List (Int × Int)) (s_1 : Int × Int) : evFn pleachref1_AddSpan_Γ tab pleachref1_AddSpan_fi n [.val t56, .val t43] [⟨t56, [true], none⟩] Tryz.f57 (l_0, s_1, ()) = pleachref1_AddSpan_n n l_0 s_1 := by
  rw [pleachref1_AddSpan_start, pleachref1_AddSpan_XL1 n n]
  rfl
noncomputable def pleachref1_AddSpan_e : Ent := ⟨[.val t56, .val t43], [⟨t56, [true], none⟩], fun x => pleachref1_AddSpan x.1 x.2.1⟩
theorem pleachref1_AddSpan_good : Good tab.ty Tryz.prog 57 pleachref1_AddSpan_e := by
  refine fn_good (Γ := pleachref1_AddSpan_Γ) (fi := pleachref1_AddSpan_fi) (n := 1099511627776) follows (gcons pleachref1_MaySpan_good gnil) tabok Tryz.func57 (by kernel_rfl) (by kernel_rfl) (fun x r h => ?_)
  obtain ⟨l_0, s_1, _u⟩ := x
  exact (pleachref1_AddSpan_eq 1099511627776 l_0 s_1).trans h
noncomputable def pleachref13_Serves_Γ : Ctx := [(57, pleachref1_AddSpan_e), (142, pleachref13_Get_e)]
def pleachref13_Serves_fi : Fi := { keep := [], vty := [(8, 41), (9, 56)], vals := [], live := [(0, [1, 2, 3, 25, 26, 27, 30, 31, 32, 33]), (1, [1, 2, 3, 8, 25, 26, 27, 30, 31, 32, 33]), (2, [1, 2, 3, 8, 9, 25, 26, 27, 30, 31, 32, 33]), (3, [1, 2, 3, 8, 9, 10, 25, 26, 27, 30, 31, 32, 33]), (4, [1, 2, 3, 8, 9, 10, 15, 25, 26, 27, 30, 31, 32, 33]), (5, [1, 2, 3, 8, 9, 10, 25, 26, 27, 30, 31, 32, 33]), (6, [1, 2, 3, 8, 9, 10, 11, 25, 26, 27, 30, 31, 32, 33]), (7, [1, 2, 3, 8, 9, 10, 11, 25, 26, 27, 30, 31, 32, 33, 34]), (8, [1, 2, 3, 8, 9, 10, 11, 12, 13, 25, 26, 27, 30, 31, 32, 33]), (9, [1, 2, 3, 8, 9, 10, 11, 12, 25, 26, 27, 30, 31, 32, 33, 42]), (10, [1, 2, 3, 8, 9, 10, 25, 26, 27, 30, 31, 32, 33]), (11, [1, 2, 3, 8, 9, 10, 25, 26, 27, 30, 31, 32, 33]), (12, [6, 7])] }
noncomputable def pleachref13_Serves_B1 (L1 : Int → Int → Int → Int → Int → (List (Int × ByteArray)) → (List (Int × ByteArray)) → (List (Int × Int × Int × ByteArray × Int)) → Int → Int → (List (Int × ByteArray)) → (List (Int × Int)) → Option (((List (Int × ByteArray)) × (List (Int × Int)) × Unit) × Unit)) (v1 : Int) (v2 : Int) (v3 : Int) (v4 : Int) (v5 : Int) (v6 : List (Int × ByteArray)) (v7 : List (Int × ByteArray)) (v8 : List (Int × Int × Int × ByteArray × Int)) (v9 : Int) (v10 : Int) (v11 : List (Int × ByteArray)) (v12 : List (Int × Int)) : Option (((List (Int × ByteArray)) × (List (Int × Int)) × Unit) × Unit) :=
 bif decide (v3 < 8) then
  bif v4 == 0 then
   some ((v11, v12, ()), ())
  else
  bif decide (IntKind.wrap .i64 (v1 + v3) > v2) then
   some ((v11, v12, ()), ())
  else
  bif decide (IntKind.wrap .i64 (v1 + v3) ≥ v4) then
   some ((v11, v12, ()), ())
  else
   Option.bind (pleachref13_Get v6 (IntKind.wrap .i64 (v1 + v3))) fun (r13 : (ByteArray × Bool × Unit) × Unit) =>
   bif r13.1.2.1 then
    bif Nat.ble (v11.length + 1) 1073741824 then
     L1 v1 v2 (IntKind.wrap .i64 (v3 + 1)) v4 v5 v6 v7 v8 v9 v10 (v11 ++ [(IntKind.wrap .i64 (v1 + v3), r13.1.1)]) v12
    else none
   else
    Option.bind (pleachref1_AddSpan v12 (IntKind.wrap .i64 (v1 + v3), IntKind.wrap .i64 (v1 + v3))) fun (r14 : ((List (Int × Int)) × Unit) × Unit) =>
    L1 v1 v2 (IntKind.wrap .i64 (v3 + 1)) v4 v5 v6 v7 v8 v9 v10 v11 r14.1.1
 else
  some ((v11, v12, ()), ())
noncomputable def pleachref13_Serves_T (L1 : Int → Int → Int → Int → Int → (List (Int × ByteArray)) → (List (Int × ByteArray)) → (List (Int × Int × Int × ByteArray × Int)) → Int → Int → (List (Int × ByteArray)) → (List (Int × Int)) → Option (((List (Int × ByteArray)) × (List (Int × Int)) × Unit) × Unit)) (f_0 : Int × Int × (List (Int × ByteArray)) × (List (Int × ByteArray)) × (List (Int × Int × Int × ByteArray × Int)) × Int × Int) (lo_1 : Int) (hi_2 : Int) : Option (((List (Int × ByteArray)) × (List (Int × Int)) × Unit) × Unit) :=
 L1 lo_1 hi_2 0 f_0.1 f_0.2.1 f_0.2.2.1 f_0.2.2.2.1 f_0.2.2.2.2.1 f_0.2.2.2.2.2.1 f_0.2.2.2.2.2.2 [] []
noncomputable def pleachref13_Serves_L1 (n : Nat) : Nat → Int → Int → Int → Int → Int → (List (Int × ByteArray)) → (List (Int × ByteArray)) → (List (Int × Int × Int × ByteArray × Int)) → Int → Int → (List (Int × ByteArray)) → (List (Int × Int)) → Option (((List (Int × ByteArray)) × (List (Int × Int)) × Unit) × Unit) := iter (fun _ _ _ _ _ _ _ _ _ _ _ _ => none) fun L => pleachref13_Serves_B1 L
noncomputable def pleachref13_Serves_X1 (n m : Nat) (v1 : Int) (v2 : Int) (v3 : Int) (v4 : Int) (v5 : Int) (v6 : List (Int × ByteArray)) (v7 : List (Int × ByteArray)) (v8 : List (Int × Int × Int × ByteArray × Int)) (v9 : Int) (v10 : Int) (v11 : List (Int × ByteArray)) (v12 : List (Int × Int)) : Option (((List (Int × ByteArray)) × (List (Int × Int)) × Unit) × Unit) :=
 atLoop pleachref13_Serves_Γ tab (fiB [.val t45, .val t2, .val t2] pleachref13_Serves_fi) n [.val t45, .val t2, .val t2] [⟨t41, [true], none⟩, ⟨t56, [true], none⟩] Tryz.f133 [1, 1, 1, 0, 1, 0] [] [1, 2, 3, 8, 9, 10] m
 ⟨[(1, SV.cv (CV.one (LV.pure t2 v1))), (2, SV.cv (CV.one (LV.pure t2 v2))), (3, SV.cv (CV.one (LV.ptr (3, 0) 0))), (8, SV.cv (CV.one (LV.ref (888888, 8)))), (9, SV.cv (CV.one (LV.ref (888888, 9)))), (10, SV.cv (CV.one (LV.pure t2 v3)))],
  [((3, 0), Ob.box 46 [LV.pure t2 v4, LV.pure t2 v5, LV.pure t41 v6, LV.pure t41 v7, LV.pure t42 v8, LV.pure t2 v9, LV.pure t2 v10]), ((888888, 8), Ob.row 153 t152 v11), ((888888, 9), Ob.row 63 t43 v12)]⟩
theorem pleachref13_Serves_step1 (n m : Nat) (v1 : Int) (v2 : Int) (v3 : Int) (v4 : Int) (v5 : Int) (v6 : List (Int × ByteArray)) (v7 : List (Int × ByteArray)) (v8 : List (Int × Int × Int × ByteArray × Int)) (v9 : Int) (v10 : Int) (v11 : List (Int × ByteArray)) (v12 : List (Int × Int)) : pleachref13_Serves_X1 n (m + 1) v1 v2 v3 v4 v5 v6 v7 v8 v9 v10 v11 v12 = pleachref13_Serves_B1 (pleachref13_Serves_X1 n m) v1 v2 v3 v4 v5 v6 v7 v8 v9 v10 v11 v12 := by kernel_rfl
theorem pleachref13_Serves_start (n : Nat) (f_0 : Int × Int × (List (Int × ByteArray)) × (List (Int × ByteArray)) × (List (Int × Int × Int × ByteArray × Int)) × Int × Int) (lo_1 : Int) (hi_2 : Int) : evFn pleachref13_Serves_Γ tab pleachref13_Serves_fi n [.val t45, .val t2, .val t2] [⟨t41, [true], none⟩, ⟨t56, [true], none⟩] Tryz.f133 (f_0, lo_1, hi_2, ()) = pleachref13_Serves_T (pleachref13_Serves_X1 n n) f_0 lo_1 hi_2 := by kernel_rfl
theorem pleachref13_Serves_XL1 (n : Nat) : ∀ m, pleachref13_Serves_X1 n m = pleachref13_Serves_L1 n m
 | 0 => rfl
 | m + 1 => by
  have ih := pleachref13_Serves_XL1 n m
  funext v1 v2 v3 v4 v5 v6 v7 v8 v9 v10 v11 v12
  rw [pleachref13_Serves_step1, ih]
  rfl
noncomputable def pleachref13_Serves_n (n : Nat) (f_0 : Int × Int × (List (Int × ByteArray)) × (List (Int × ByteArray)) × (List (Int × Int × Int × ByteArray × Int)) × Int × Int) (lo_1 : Int) (hi_2 : Int) : Option (((List (Int × ByteArray)) × (List (Int × Int)) × Unit) × Unit) := pleachref13_Serves_T (pleachref13_Serves_L1 n n) f_0 lo_1 hi_2
noncomputable def pleachref13_Serves (f_0 : Int × Int × (List (Int × ByteArray)) × (List (Int × ByteArray)) × (List (Int × Int × Int × ByteArray × Int)) × Int × Int) (lo_1 : Int) (hi_2 : Int) : Option (((List (Int × ByteArray)) × (List (Int × Int)) × Unit) × Unit) := pleachref13_Serves_n 1099511627776 f_0 lo_1 hi_2
theorem pleachref13_Serves_eq (n : Nat) (f_0 : Int × Int × (List (Int × ByteArray)) × (List (Int × ByteArray)) × (List (Int × Int × Int × ByteArray × Int)) × Int × Int) (lo_1 : Int) (hi_2 : Int) : evFn pleachref13_Serves_Γ tab pleachref13_Serves_fi n [.val t45, .val t2, .val t2] [⟨t41, [true], none⟩, ⟨t56, [true], none⟩] Tryz.f133 (f_0, lo_1, hi_2, ()) = pleachref13_Serves_n n f_0 lo_1 hi_2 := by
  rw [pleachref13_Serves_start, pleachref13_Serves_XL1 n n]
  rfl
noncomputable def pleachref13_Serves_e : Ent := ⟨[.val t45, .val t2, .val t2], [⟨t41, [true], none⟩, ⟨t56, [true], none⟩], fun x => pleachref13_Serves x.1 x.2.1 x.2.2.1⟩
theorem pleachref13_Serves_good : Good tab.ty Tryz.prog 133 pleachref13_Serves_e := by
  refine fn_good (Γ := pleachref13_Serves_Γ) (fi := pleachref13_Serves_fi) (n := 1099511627776) follows (gcons pleachref1_AddSpan_good (gcons pleachref13_Get_good gnil)) tabok Tryz.func133 (by kernel_rfl) (by kernel_rfl) (fun x r h => ?_)
  obtain ⟨f_0, lo_1, hi_2, _u⟩ := x
  exact (pleachref13_Serves_eq 1099511627776 f_0 lo_1 hi_2).trans h
end Go.PE
