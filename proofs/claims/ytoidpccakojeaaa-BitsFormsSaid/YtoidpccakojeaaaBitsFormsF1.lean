/-
  Functions of the program, each as the evaluator answers it, and its contract.
  Conditions: none.
-/
import Derived.Test.YtoidpccakojeaaaBitsFormsT
set_option linter.unusedVariables false
set_option maxRecDepth 100000
namespace Go.PE
open Go.Proofs

noncomputable def slices_Clone_byte (s : List Int) : Option (((List Int) × Unit) × Unit) := bif Nat.ble s.length 1073741824 then some ((s, ()), ()) else none
theorem slices_Clone_byte_raw (s : List Int) : evFn [] tab (fiOf Try.f45 []) 1 [.val t23] [⟨t23, [true], none⟩] Try.f45 (s, ()) = bif !(List.isEmpty s) then bif Nat.ble (0 + s.length) 1073741824 then some (([] ++ s, ()), ()) else none
 else bothEq (some (([], ()), ())) (bif Nat.ble (0 + s.length) 1073741824 then some (([] ++ s, ()), ()) else none) := by kernel_rfl
theorem slices_Clone_byte_eq (s : List Int) : evFn [] tab (fiOf Try.f45 []) 1 [.val t23] [⟨t23, [true], none⟩] Try.f45 (s, ()) = slices_Clone_byte s := by
  rw [slices_Clone_byte_raw]
  cases s with
  | nil => exact bothEq_same _
  | cons x q => rw [Nat.zero_add]; rfl
noncomputable def slices_Clone_byte_e : Ent := ⟨[.val t23], [⟨t23, [true], none⟩], fun x => slices_Clone_byte x.1⟩
theorem slices_Clone_byte_good : Good tab.ty Try.prog 45 slices_Clone_byte_e := by
  refine fn_good (Γ := []) (fi := fiOf Try.f45 []) (n := 1) follows gnil tabok Try.func45 (by kernel_rfl) (by kernel_rfl) (fun x r h => ?_)
  obtain ⟨s, _u⟩ := x
  exact (slices_Clone_byte_eq s).trans h
noncomputable def bits_Put_Γ : Ctx := [(45, slices_Clone_byte_e)]
def bits_Put_fi : Fi := { keep := [], vty := [], vals := [], live := [(0, [0, 1]), (1, [0, 1]), (2, [0, 5]), (3, [0, 5, 11]), (4, [0, 5]), (5, [0, 5]), (6, [4])] }
noncomputable def bits_Put_B1 (L1 : Int → List Int → Option (((List Int) × Unit) × Unit)) (v2 : Int) (v3 : List Int) : Option (((List Int) × Unit) × Unit) :=
 bif decide (v2 ≥ 128) then
  bif Nat.ble (v3.length + 1) 1073741824 then
   L1 (Int.fdiv v2 (2 ^ 7)) (v3 ++ [IntKind.wrap .u8 ((BitVec.ofInt 8 (IntKind.wrap .u8 v2) ||| BitVec.ofInt 8 128).toNat)])
  else none
 else
 bif Nat.ble (v3.length + 1) 1073741824 then
  some ((v3 ++ [IntKind.wrap .u8 v2], ()), ())
 else none
noncomputable def bits_Put_T (L1 : Int → List Int → Option (((List Int) × Unit) × Unit)) (b_0 : List Int) (v_1 : Int) : Option (((List Int) × Unit) × Unit) :=
 Option.bind (slices_Clone_byte b_0) fun (r1 : ((List Int) × Unit) × Unit) =>
 L1 (IntKind.wrap .u64 v_1) r1.1.1
noncomputable def bits_Put_L1 (n : Nat) : Nat → Int → List Int → Option (((List Int) × Unit) × Unit) := iter (fun _ _ => none) fun L => bits_Put_B1 L
noncomputable def bits_Put_X1 (n m : Nat) (v2 : Int) (v3 : List Int) : Option (((List Int) × Unit) × Unit) :=
 atLoop bits_Put_Γ tab (fiB [.val t23, .val t2] bits_Put_fi) n [.val t23, .val t2] [⟨t23, [true], none⟩] Try.f17 [1, 1, 1, 0, 0] [] [0, 5] m
 ⟨[(0, SV.cv (CV.one (LV.ref (888888, 0)))), (5, SV.cv (CV.one (LV.pure t12 v2)))],
  [((888888, 0), Ob.row 5 t5 v3)]⟩
theorem bits_Put_step1 (n m : Nat) (v2 : Int) (v3 : List Int) : bits_Put_X1 n (m + 1) v2 v3 = bits_Put_B1 (bits_Put_X1 n m) v2 v3 := by kernel_rfl
theorem bits_Put_start (n : Nat) (b_0 : List Int) (v_1 : Int) : evFn bits_Put_Γ tab bits_Put_fi n [.val t23, .val t2] [⟨t23, [true], none⟩] Try.f17 (b_0, v_1, ()) = bits_Put_T (bits_Put_X1 n n) b_0 v_1 := by kernel_rfl
theorem bits_Put_XL1 (n : Nat) : ∀ m, bits_Put_X1 n m = bits_Put_L1 n m
 | 0 => rfl
 | m + 1 => by
  have ih := bits_Put_XL1 n m
  funext v2 v3
  rw [bits_Put_step1, ih]
  rfl
noncomputable def bits_Put_n (n : Nat) (b_0 : List Int) (v_1 : Int) : Option (((List Int) × Unit) × Unit) := bits_Put_T (bits_Put_L1 n n) b_0 v_1
noncomputable def bits_Put (b_0 : List Int) (v_1 : Int) : Option (((List Int) × Unit) × Unit) := bits_Put_n 1099511627776 b_0 v_1
theorem bits_Put_eq (n : Nat) (b_0 : List Int) (v_1 : Int) : evFn bits_Put_Γ tab bits_Put_fi n [.val t23, .val t2] [⟨t23, [true], none⟩] Try.f17 (b_0, v_1, ()) = bits_Put_n n b_0 v_1 := by
  rw [bits_Put_start, bits_Put_XL1 n n]
  rfl
noncomputable def bits_Put_e : Ent := ⟨[.val t23, .val t2], [⟨t23, [true], none⟩], fun x => bits_Put x.1 x.2.1⟩
theorem bits_Put_good : Good tab.ty Try.prog 17 bits_Put_e := by
  refine fn_good (Γ := bits_Put_Γ) (fi := bits_Put_fi) (n := 1099511627776) follows (gcons slices_Clone_byte_good gnil) tabok Try.func17 (by kernel_rfl) (by kernel_rfl) (fun x r h => ?_)
  obtain ⟨b_0, v_1, _u⟩ := x
  exact (bits_Put_eq 1099511627776 b_0 v_1).trans h
noncomputable def bits_take_Γ : Ctx := []
def bits_take_fi : Fi := { keep := [], vty := [], vals := [], live := [(0, [0, 2, 3, 11, 12, 33, 34, 37, 38]), (1, [0, 2, 3, 11, 12, 13, 33, 34, 37, 38]), (2, [0, 2, 3, 5, 11, 12, 33, 34, 37, 38]), (3, [0, 2, 3, 5, 11, 12, 33, 34, 37, 38]), (4, [0, 2, 3, 5, 11, 12, 33, 34, 37, 38]), (5, [0, 2, 3, 5, 11, 12, 29, 33, 34, 37, 38]), (6, [2, 3, 39]), (7, [2, 3, 4]), (8, [2, 3, 4])] }
noncomputable def bits_take_B1 (L1 : List Int → Int → Int → Option ((Int × Int × IV × Unit) × Unit)) (v1 : List Int) (v2 : Int) (v3 : Int) : Option ((Int × Int × IV × Unit) × Unit) :=
 bif decide (v3 < (v1.length : Int)) then
  bif decide (v3 < 5) then
   bif decide (0 ≤ v3) && decide (v3 < (v1.length : Int)) then
    bif decide (0 ≤ IntKind.wrap .i64 (7 * v3)) then
     bif decide (List.getD v1 v3.toNat 0 ≥ 128) then
      L1 v1 (IntKind.wrap .i64 ((BitVec.ofInt 64 v2 ||| BitVec.ofInt 64 (IntKind.wrap .i64 ((IntKind.wrap .i64 (IntKind.wrap .u8 ((BitVec.ofInt 8 (List.getD v1 v3.toNat 0) &&& BitVec.ofInt 8 127).toNat))) * 2 ^ (min ((IntKind.wrap .i64 (7 * v3)).toNat) 64)))).toNat)) (IntKind.wrap .i64 (v3 + 1))
     else
     bif decide (IntKind.wrap .i64 (v3 + 1) > 1) then
      bif (List.getD v1 v3.toNat 0) == 0 then
       some ((0, 0, IV.mk 78 [], ()), ())
      else
      bif decide (IntKind.wrap .i64 ((BitVec.ofInt 64 v2 ||| BitVec.ofInt 64 (IntKind.wrap .i64 ((IntKind.wrap .i64 (IntKind.wrap .u8 ((BitVec.ofInt 8 (List.getD v1 v3.toNat 0) &&& BitVec.ofInt 8 127).toNat))) * 2 ^ (min ((IntKind.wrap .i64 (7 * v3)).toNat) 64)))).toNat) > 1073741824) then
       some ((0, 0, IV.mk 78 [], ()), ())
      else
       some ((IntKind.wrap .i64 ((BitVec.ofInt 64 v2 ||| BitVec.ofInt 64 (IntKind.wrap .i64 ((IntKind.wrap .i64 (IntKind.wrap .u8 ((BitVec.ofInt 8 (List.getD v1 v3.toNat 0) &&& BitVec.ofInt 8 127).toNat))) * 2 ^ (min ((IntKind.wrap .i64 (7 * v3)).toNat) 64)))).toNat), IntKind.wrap .i64 (v3 + 1), IV.nil, ()), ())
     else
     bif decide (IntKind.wrap .i64 ((BitVec.ofInt 64 v2 ||| BitVec.ofInt 64 (IntKind.wrap .i64 ((IntKind.wrap .i64 (IntKind.wrap .u8 ((BitVec.ofInt 8 (List.getD v1 v3.toNat 0) &&& BitVec.ofInt 8 127).toNat))) * 2 ^ (min ((IntKind.wrap .i64 (7 * v3)).toNat) 64)))).toNat) > 1073741824) then
      some ((0, 0, IV.mk 78 [], ()), ())
     else
      some ((IntKind.wrap .i64 ((BitVec.ofInt 64 v2 ||| BitVec.ofInt 64 (IntKind.wrap .i64 ((IntKind.wrap .i64 (IntKind.wrap .u8 ((BitVec.ofInt 8 (List.getD v1 v3.toNat 0) &&& BitVec.ofInt 8 127).toNat))) * 2 ^ (min ((IntKind.wrap .i64 (7 * v3)).toNat) 64)))).toNat), IntKind.wrap .i64 (v3 + 1), IV.nil, ()), ())
    else none
   else none
  else
   some ((0, 0, IV.mk 78 [], ()), ())
 else
  some ((0, 0, IV.mk 78 [], ()), ())
noncomputable def bits_take_T (L1 : List Int → Int → Int → Option ((Int × Int × IV × Unit) × Unit)) (b_0 : List Int) : Option ((Int × Int × IV × Unit) × Unit) :=
 L1 b_0 0 0
noncomputable def bits_take_L1 (n : Nat) : Nat → List Int → Int → Int → Option ((Int × Int × IV × Unit) × Unit) := iter (fun _ _ _ => none) fun L => bits_take_B1 L
noncomputable def bits_take_X1 (n m : Nat) (v1 : List Int) (v2 : Int) (v3 : Int) : Option ((Int × Int × IV × Unit) × Unit) :=
 atLoop bits_take_Γ tab (fiB [.val t23] bits_take_fi) n [.val t23] [⟨t2, [false], none⟩, ⟨t2, [false], none⟩, ⟨t20, [false], none⟩] Try.f46 [1, 0, 0] [] [0, 2, 3] m
 ⟨[(0, SV.cv (CV.one (LV.pure t23 v1))), (2, SV.cv (CV.one (LV.pure t2 v2))), (3, SV.cv (CV.one (LV.pure t2 v3)))],
  []⟩
theorem bits_take_step1 (n m : Nat) (v1 : List Int) (v2 : Int) (v3 : Int) : bits_take_X1 n (m + 1) v1 v2 v3 = bits_take_B1 (bits_take_X1 n m) v1 v2 v3 := by kernel_rfl
theorem bits_take_start (n : Nat) (b_0 : List Int) : evFn bits_take_Γ tab bits_take_fi n [.val t23] [⟨t2, [false], none⟩, ⟨t2, [false], none⟩, ⟨t20, [false], none⟩] Try.f46 (b_0, ()) = bits_take_T (bits_take_X1 n n) b_0 := by kernel_rfl
theorem bits_take_XL1 (n : Nat) : ∀ m, bits_take_X1 n m = bits_take_L1 n m
 | 0 => rfl
 | m + 1 => by
  have ih := bits_take_XL1 n m
  funext v1 v2 v3
  rw [bits_take_step1, ih]
  rfl
noncomputable def bits_take_n (n : Nat) (b_0 : List Int) : Option ((Int × Int × IV × Unit) × Unit) := bits_take_T (bits_take_L1 n n) b_0
noncomputable def bits_take (b_0 : List Int) : Option ((Int × Int × IV × Unit) × Unit) := bits_take_n 1099511627776 b_0
theorem bits_take_eq (n : Nat) (b_0 : List Int) : evFn bits_take_Γ tab bits_take_fi n [.val t23] [⟨t2, [false], none⟩, ⟨t2, [false], none⟩, ⟨t20, [false], none⟩] Try.f46 (b_0, ()) = bits_take_n n b_0 := by
  rw [bits_take_start, bits_take_XL1 n n]
  rfl
noncomputable def bits_take_e : Ent := ⟨[.val t23], [⟨t2, [false], none⟩, ⟨t2, [false], none⟩, ⟨t20, [false], none⟩], fun x => bits_take x.1⟩
theorem bits_take_good : Good tab.ty Try.prog 46 bits_take_e := by
  refine fn_good (Γ := bits_take_Γ) (fi := bits_take_fi) (n := 1099511627776) follows gnil tabok Try.func46 (by kernel_rfl) (by kernel_rfl) (fun x r h => ?_)
  obtain ⟨b_0, _u⟩ := x
  exact (bits_take_eq 1099511627776 b_0).trans h
noncomputable def bits_Take_Γ : Ctx := [(46, bits_take_e)]
def bits_Take_fi : Fi := { keep := [], vty := [], vals := [], live := [(0, [0]), (1, [2, 3, 5]), (2, [2, 3, 7]), (3, [2, 3, 4])] }
noncomputable def bits_Take (b_0 : List Int) : Option ((Int × Int × Bool × Unit) × Unit) :=
 Option.bind (bits_take b_0) fun (r1 : (Int × Int × IV × Unit) × Unit) =>
 some ((r1.1.1, r1.1.2.1, !(IV.is r1.1.2.2.1 78), ()), ())
theorem bits_Take_eq (b_0 : List Int) : evFn bits_Take_Γ tab bits_Take_fi 1 [.val t23] [⟨t2, [false], none⟩, ⟨t2, [false], none⟩, ⟨t4, [false], none⟩] Try.f21 (b_0, ()) = bits_Take b_0 := by kernel_rfl
noncomputable def bits_Take_e : Ent := ⟨[.val t23], [⟨t2, [false], none⟩, ⟨t2, [false], none⟩, ⟨t4, [false], none⟩], fun x => bits_Take x.1⟩
theorem bits_Take_good : Good tab.ty Try.prog 21 bits_Take_e := by
  refine fn_good (Γ := bits_Take_Γ) (fi := bits_Take_fi) (n := 1) follows (gcons bits_take_good gnil) tabok Try.func21 (by kernel_rfl) (by kernel_rfl) (fun x r h => ?_)
  obtain ⟨b_0, _u⟩ := x
  exact (bits_Take_eq b_0).trans h
noncomputable def bits_PutText_Γ : Ctx := [(17, bits_Put_e)]
def bits_PutText_fi : Fi := { keep := [], vty := [], vals := [], live := [(0, [0, 1]), (1, [4])] }
noncomputable def bits_PutText (b_0 : List Int) (s_1 : ByteArray) : Option (((List Int) × Unit) × Unit) :=
 Option.bind (bits_Put b_0 (s_1.size : Int)) fun (r1 : ((List Int) × Unit) × Unit) =>
 bif Nat.ble (r1.1.1.length + (s_1.data.toList.map fun b => (b.toNat : Int)).length) 1073741824 then
  some ((r1.1.1 ++ (s_1.data.toList.map fun b => (b.toNat : Int)), ()), ())
 else none
theorem bits_PutText_eq (b_0 : List Int) (s_1 : ByteArray) : evFn bits_PutText_Γ tab bits_PutText_fi 1 [.val t23, .val t9] [⟨t23, [true], none⟩] Try.f19 (b_0, s_1, ()) = bits_PutText b_0 s_1 := by kernel_rfl
noncomputable def bits_PutText_e : Ent := ⟨[.val t23, .val t9], [⟨t23, [true], none⟩], fun x => bits_PutText x.1 x.2.1⟩
theorem bits_PutText_good : Good tab.ty Try.prog 19 bits_PutText_e := by
  refine fn_good (Γ := bits_PutText_Γ) (fi := bits_PutText_fi) (n := 1) follows (gcons bits_Put_good gnil) tabok Try.func19 (by kernel_rfl) (by kernel_rfl) (fun x r h => ?_)
  obtain ⟨b_0, s_1, _u⟩ := x
  exact (bits_PutText_eq b_0 s_1).trans h
noncomputable def bits_TakeText_Γ : Ctx := [(21, bits_Take_e)]
def bits_TakeText_fi : Fi := { keep := [], vty := [], vals := [], live := [(0, [0, 15, 16, 17, 18, 19, 20]), (1, [0, 3, 4, 5, 15, 16, 17, 18, 19, 20]), (2, [0, 3, 5, 21]), (3, [2, 3, 4]), (4, [2, 3, 4])] }
noncomputable def bits_TakeText (b_0 : List Int) : Option ((ByteArray × Int × Bool × Unit) × Unit) :=
 Option.bind (bits_Take b_0) fun (r1 : (Int × Int × Bool × Unit) × Unit) =>
 bif !r1.1.2.2.1 then
  some (((⟨#[]⟩ : ByteArray), 0, false, ()), ())
 else
 bif decide (r1.1.1 > IntKind.wrap .i64 ((b_0.length : Int) - r1.1.2.1)) then
  some (((⟨#[]⟩ : ByteArray), 0, false, ()), ())
 else
 bif (decide (0 ≤ r1.1.2.1) && decide (r1.1.2.1 ≤ IntKind.wrap .i64 (r1.1.2.1 + r1.1.1))) && decide (IntKind.wrap .i64 (r1.1.2.1 + r1.1.1) ≤ (b_0.length : Int)) then
  some ((bytesOf (List.drop r1.1.2.1.toNat (List.take ((IntKind.wrap .i64 (r1.1.2.1 + r1.1.1)).toNat) b_0)), IntKind.wrap .i64 (r1.1.2.1 + r1.1.1), true, ()), ())
 else none
theorem bits_TakeText_eq (b_0 : List Int) : evFn bits_TakeText_Γ tab bits_TakeText_fi 1 [.val t23] [⟨t9, [false], none⟩, ⟨t2, [false], none⟩, ⟨t4, [false], none⟩] Try.f23 (b_0, ()) = bits_TakeText b_0 := by kernel_rfl
noncomputable def bits_TakeText_e : Ent := ⟨[.val t23], [⟨t9, [false], none⟩, ⟨t2, [false], none⟩, ⟨t4, [false], none⟩], fun x => bits_TakeText x.1⟩
theorem bits_TakeText_good : Good tab.ty Try.prog 23 bits_TakeText_e := by
  refine fn_good (Γ := bits_TakeText_Γ) (fi := bits_TakeText_fi) (n := 1) follows (gcons bits_Take_good gnil) tabok Try.func23 (by kernel_rfl) (by kernel_rfl) (fun x r h => ?_)
  obtain ⟨b_0, _u⟩ := x
  exact (bits_TakeText_eq b_0).trans h
noncomputable def pleachlaw11_begun_Γ : Ctx := [(17, bits_Put_e), (19, bits_PutText_e), (21, bits_Take_e), (23, bits_TakeText_e)]
def pleachlaw11_begun_fi : Fi := { keep := [], vty := [], vals := [], live := [(0, [33, 34, 37, 38, 41, 44, 45, 48, 49, 52, 55, 56]), (1, [1, 33, 34, 37, 38, 41, 44, 45, 48, 49, 52, 55, 56]), (2, [1, 2, 3, 4, 33, 34, 37, 38, 41, 44, 45, 48, 49, 52, 55, 56]), (3, [1, 2, 3, 4, 5, 6, 7, 33, 34, 37, 38, 41, 44, 45, 48, 49, 52, 55, 56]), (4, [1, 2, 3, 4, 5, 6, 7, 10, 33, 34, 37, 38, 41, 44, 45, 48, 49, 52, 55, 56]), (5, [0])] }
noncomputable def pleachlaw11_begun  : Option ((Bool × Unit) × Unit) :=
 Option.bind (bits_Put [] 300) fun (r1 : ((List Int) × Unit) × Unit) =>
 Option.bind (bits_Take r1.1.1) fun (r2 : (Int × Int × Bool × Unit) × Unit) =>
 Option.bind (bits_PutText [] (⟨#[97, 98]⟩ : ByteArray)) fun (r3 : ((List Int) × Unit) × Unit) =>
 Option.bind (bits_TakeText r3.1.1) fun (r4 : (ByteArray × Int × Bool × Unit) × Unit) =>
 Option.bind (bits_Take []) fun (r5 : (Int × Int × Bool × Unit) × Unit) =>
 bif strEq (bytesOf r1.1.1) (⟨#[172, 2]⟩ : ByteArray) then
  bif r2.1.1 == 300 then
   bif r2.1.2.1 == 2 then
    bif r2.1.2.2.1 then
     bif strEq r4.1.1 (⟨#[97, 98]⟩ : ByteArray) then
      bif r4.1.2.1 == 3 then
       bif r4.1.2.2.1 then
        some ((!r5.1.2.2.1, ()), ())
       else
        some ((false, ()), ())
      else
       some ((false, ()), ())
     else
      some ((false, ()), ())
    else
     some ((false, ()), ())
   else
    some ((false, ()), ())
  else
   some ((false, ()), ())
 else
  some ((false, ()), ())
theorem pleachlaw11_begun_eq  : evFn pleachlaw11_begun_Γ tab pleachlaw11_begun_fi 1 [] [⟨t4, [false], none⟩] Try.f16 () = pleachlaw11_begun  := by kernel_rfl
noncomputable def pleachlaw11_begun_e : Ent := ⟨[], [⟨t4, [false], none⟩], fun x => pleachlaw11_begun⟩
theorem pleachlaw11_begun_good : Good tab.ty Try.prog 16 pleachlaw11_begun_e := by
  refine fn_good (Γ := pleachlaw11_begun_Γ) (fi := pleachlaw11_begun_fi) (n := 1) follows (gcons bits_Put_good (gcons bits_PutText_good (gcons bits_Take_good (gcons bits_TakeText_good gnil)))) tabok Try.func16 (by kernel_rfl) (by kernel_rfl) (fun x r h => ?_)
  obtain _u := x
  exact (pleachlaw11_begun_eq ).trans h
noncomputable def pleachlaw11_BitsForms_Γ : Ctx := [(16, pleachlaw11_begun_e), (17, bits_Put_e), (21, bits_Take_e), (23, bits_TakeText_e)]
def pleachlaw11_BitsForms_fi : Fi := { keep := [], vty := [], vals := [], live := [(0, [53, 54, 57, 58, 59, 60, 61, 62, 65, 66, 67, 68, 69, 70, 71, 102, 121, 124, 125, 128, 129]), (1, [22, 53, 54, 57, 58, 59, 60, 61, 62, 65, 66, 67, 68, 69, 70, 71, 102, 121, 124, 125, 128, 129]), (2, [0]), (3, [1, 53, 54, 57, 58, 59, 60, 61, 62, 65, 66, 67, 68, 69, 70, 71, 102, 121, 124, 125, 128, 129]), (4, [1, 2, 53, 54, 57, 58, 59, 60, 61, 62, 65, 66, 67, 68, 69, 70, 71, 102, 121, 124, 125, 128, 129]), (5, [1, 2, 3, 53, 54, 57, 58, 59, 60, 61, 62, 65, 66, 67, 68, 69, 70, 71, 102, 121, 124, 125, 128, 129]), (6, [1, 2, 3, 28, 53, 54, 57, 58, 59, 60, 61, 62, 65, 66, 67, 68, 69, 70, 71, 102, 121, 124, 125, 128, 129]), (7, [1, 2, 3, 53, 54, 57, 58, 59, 60, 61, 62, 65, 66, 67, 68, 69, 70, 71, 102, 121, 124, 125, 128, 129]), (8, [1, 2, 3, 4, 5, 6, 53, 54, 57, 58, 59, 60, 61, 62, 65, 66, 67, 68, 69, 70, 71, 102, 121, 124, 125, 128, 129]), (9, [1, 2, 3, 53, 54, 57, 58, 59, 60, 61, 62, 65, 66, 67, 68, 69, 70, 71, 72, 102, 121, 124, 125, 128, 129]), (10, [0]), (11, [7, 102, 121, 124, 125, 128, 129]), (12, [7, 8, 102, 121, 124, 125, 128, 129]), (13, [7, 8, 77, 102, 121, 124, 125, 128, 129]), (14, [7, 8, 102, 121, 124, 125, 128, 129]), (15, [7, 8, 11, 102, 121, 124, 125, 128, 129]), (16, [7, 8, 11, 14, 102, 121, 124, 125, 128, 129]), (17, [7, 8, 102, 103, 121, 124, 125, 128, 129]), (18, [0]), (19, [17, 121, 124, 125, 128, 129]), (20, [17, 18, 19, 20, 121, 124, 125, 128, 129]), (21, [0])] }
noncomputable def pleachlaw11_BitsForms_B1 (L1 : Int → List Int → List ByteArray → Option ((Bool × Unit) × Unit)) (L2 : Int → List ByteArray → Option ((Bool × Unit) × Unit)) (v2 : Int) (v3 : List Int) (v4 : List ByteArray) : Option ((Bool × Unit) × Unit) :=
 bif decide (v2 < (v3.length : Int)) then
  bif decide (0 ≤ v2) && decide (v2 < (v4.length : Int)) then
   bif decide (0 ≤ v2) && decide (v2 < (v4.length : Int)) then
    bif Nat.ble (List.getD v4 v2.toNat (⟨#[]⟩ : ByteArray)).size 1073741824 then
     Option.bind (bits_Take ((List.getD v4 v2.toNat (⟨#[]⟩ : ByteArray)).data.toList.map fun b => (b.toNat : Int))) fun (r5 : (Int × Int × Bool × Unit) × Unit) =>
     bif decide (0 ≤ v2) && decide (v2 < (v3.length : Int)) then
      bif decide (0 ≤ v2) && decide (v2 < (v3.length : Int)) then
       Option.bind (bits_Put [] (List.getD v3 v2.toNat 0)) fun (r6 : ((List Int) × Unit) × Unit) =>
       bif decide (0 ≤ v2) && decide (v2 < (v4.length : Int)) then
        bif decide (0 ≤ v2) && decide (v2 < (v4.length : Int)) then
         bif !(strEq (bytesOf r6.1.1) (List.getD v4 v2.toNat (⟨#[]⟩ : ByteArray))) then
          some ((false, ()), ())
         else
         bif !r5.1.2.2.1 then
          some ((false, ()), ())
         else
         bif decide (0 ≤ v2) && decide (v2 < (v3.length : Int)) then
          bif decide (0 ≤ v2) && decide (v2 < (v3.length : Int)) then
           bif r5.1.1 != (List.getD v3 v2.toNat 0) then
            some ((false, ()), ())
           else
           bif decide (0 ≤ v2) && decide (v2 < (v4.length : Int)) then
            bif decide (0 ≤ v2) && decide (v2 < (v4.length : Int)) then
            bif r5.1.2.1 != ((List.getD v4 v2.toNat (⟨#[]⟩ : ByteArray)).size : Int) then
            some ((false, ()), ())
            else
            L1 (IntKind.wrap .i64 (v2 + 1)) v3 v4
            else none
           else none
          else none
         else none
        else none
       else none
      else none
     else none
    else none
   else none
  else none
 else
  L2 0 [(⟨#[]⟩ : ByteArray), (⟨#[128]⟩ : ByteArray), (⟨#[128, 0]⟩ : ByteArray), (⟨#[129, 128, 128, 128, 4]⟩ : ByteArray), (⟨#[255, 255, 255, 255, 127]⟩ : ByteArray), (⟨#[128, 128, 128, 128, 128, 1]⟩ : ByteArray), (⟨#[255, 128, 0]⟩ : ByteArray)]
noncomputable def pleachlaw11_BitsForms_B2 (L2 : Int → List ByteArray → Option ((Bool × Unit) × Unit)) (v7 : Int) (v8 : List ByteArray) : Option ((Bool × Unit) × Unit) :=
 bif decide (v7 < (v8.length : Int)) then
  bif decide (0 ≤ v7) && decide (v7 < (v8.length : Int)) then
   bif decide (0 ≤ v7) && decide (v7 < (v8.length : Int)) then
    bif Nat.ble (List.getD v8 v7.toNat (⟨#[]⟩ : ByteArray)).size 1073741824 then
     Option.bind (bits_Take ((List.getD v8 v7.toNat (⟨#[]⟩ : ByteArray)).data.toList.map fun b => (b.toNat : Int))) fun (r9 : (Int × Int × Bool × Unit) × Unit) =>
     bif decide (0 ≤ v7) && decide (v7 < (v8.length : Int)) then
      bif decide (0 ≤ v7) && decide (v7 < (v8.length : Int)) then
       bif Nat.ble (List.getD v8 v7.toNat (⟨#[]⟩ : ByteArray)).size 1073741824 then
        Option.bind (bits_TakeText ((List.getD v8 v7.toNat (⟨#[]⟩ : ByteArray)).data.toList.map fun b => (b.toNat : Int))) fun (r10 : (ByteArray × Int × Bool × Unit) × Unit) =>
        bif r9.1.2.2.1 then
         some ((false, ()), ())
        else
        bif r10.1.2.2.1 then
         some ((false, ()), ())
        else
         L2 (IntKind.wrap .i64 (v7 + 1)) v8
       else none
      else none
     else none
    else none
   else none
  else none
 else
  Option.bind (bits_TakeText [3, 97, 98]) fun (r11 : (ByteArray × Int × Bool × Unit) × Unit) =>
  Option.bind (bits_TakeText [0, 97, 98]) fun (r12 : (ByteArray × Int × Bool × Unit) × Unit) =>
  bif !r11.1.2.2.1 then
   bif r12.1.2.2.1 then
    bif strEq r12.1.1 (⟨#[]⟩ : ByteArray) then
     some ((r12.1.2.1 == 1, ()), ())
    else
     some ((false, ()), ())
   else
    some ((false, ()), ())
  else
   some ((false, ()), ())
noncomputable def pleachlaw11_BitsForms_T (L1 : Int → List Int → List ByteArray → Option ((Bool × Unit) × Unit))  : Option ((Bool × Unit) × Unit) :=
 Option.bind (pleachlaw11_begun) fun (r1 : (Bool × Unit) × Unit) =>
 bif !r1.1.1 then
  some ((false, ()), ())
 else
  L1 0 [0, 1, 127, 128, 16383, 16384, 1073741824] [(⟨#[0]⟩ : ByteArray), (⟨#[1]⟩ : ByteArray), (⟨#[127]⟩ : ByteArray), (⟨#[128, 1]⟩ : ByteArray), (⟨#[255, 127]⟩ : ByteArray), (⟨#[128, 128, 1]⟩ : ByteArray), (⟨#[128, 128, 128, 128, 4]⟩ : ByteArray)]
noncomputable def pleachlaw11_BitsForms_L2 (n : Nat) : Nat → Int → List ByteArray → Option ((Bool × Unit) × Unit) := iter (fun _ _ => none) fun L => pleachlaw11_BitsForms_B2 L
noncomputable def pleachlaw11_BitsForms_L1 (n : Nat) : Nat → Int → List Int → List ByteArray → Option ((Bool × Unit) × Unit) := iter (fun _ _ _ => none) fun L => pleachlaw11_BitsForms_B1 L (pleachlaw11_BitsForms_L2 n n)
noncomputable def pleachlaw11_BitsForms_X1 (n m : Nat) (v2 : Int) (v3 : List Int) (v4 : List ByteArray) : Option ((Bool × Unit) × Unit) :=
 atLoop pleachlaw11_BitsForms_Γ tab (fiB [] pleachlaw11_BitsForms_fi) n [] [⟨t4, [false], none⟩] Try.f5 [1, 1, 1, 1, 0, 1, 0] [] [1, 2, 3] m
 ⟨[(1, SV.cv (CV.one (LV.ref (888888, 1)))), (2, SV.cv (CV.one (LV.ref (888888, 2)))), (3, SV.cv (CV.one (LV.pure t2 v2)))],
  [((888888, 1), Ob.row 3 t2 v3), ((888888, 2), Ob.row 9 t9 v4)]⟩
noncomputable def pleachlaw11_BitsForms_X2 (n m : Nat) (v7 : Int) (v8 : List ByteArray) : Option ((Bool × Unit) × Unit) :=
 atLoop pleachlaw11_BitsForms_Γ tab (fiB [] pleachlaw11_BitsForms_fi) n [] [⟨t4, [false], none⟩] Try.f5 [1, 1, 1, 1, 1, 1, 0, 1, 0] [] [7, 8] m
 ⟨[(7, SV.cv (CV.one (LV.ref (888888, 7)))), (8, SV.cv (CV.one (LV.pure t2 v7)))],
  [((888888, 7), Ob.row 9 t9 v8)]⟩
theorem pleachlaw11_BitsForms_step1 (n m : Nat) (v2 : Int) (v3 : List Int) (v4 : List ByteArray) : pleachlaw11_BitsForms_X1 n (m + 1) v2 v3 v4 = pleachlaw11_BitsForms_B1 (pleachlaw11_BitsForms_X1 n m) (pleachlaw11_BitsForms_X2 n n) v2 v3 v4 := by kernel_rfl
theorem pleachlaw11_BitsForms_step2 (n m : Nat) (v7 : Int) (v8 : List ByteArray) : pleachlaw11_BitsForms_X2 n (m + 1) v7 v8 = pleachlaw11_BitsForms_B2 (pleachlaw11_BitsForms_X2 n m) v7 v8 := by kernel_rfl
theorem pleachlaw11_BitsForms_start (n : Nat)  : evFn pleachlaw11_BitsForms_Γ tab pleachlaw11_BitsForms_fi n [] [⟨t4, [false], none⟩] Try.f5 () = pleachlaw11_BitsForms_T (pleachlaw11_BitsForms_X1 n n)  := by kernel_rfl
theorem pleachlaw11_BitsForms_XL2 (n : Nat) : ∀ m, pleachlaw11_BitsForms_X2 n m = pleachlaw11_BitsForms_L2 n m
 | 0 => rfl
 | m + 1 => by
  have ih := pleachlaw11_BitsForms_XL2 n m
  funext v7 v8
  rw [pleachlaw11_BitsForms_step2, ih]
  rfl
theorem pleachlaw11_BitsForms_XL1 (n : Nat) : ∀ m, pleachlaw11_BitsForms_X1 n m = pleachlaw11_BitsForms_L1 n m
 | 0 => rfl
 | m + 1 => by
  have ih := pleachlaw11_BitsForms_XL1 n m
  funext v2 v3 v4
  rw [pleachlaw11_BitsForms_step1, pleachlaw11_BitsForms_XL2 n n, ih]
  rfl
noncomputable def pleachlaw11_BitsForms_n (n : Nat)  : Option ((Bool × Unit) × Unit) := pleachlaw11_BitsForms_T (pleachlaw11_BitsForms_L1 n n) 
noncomputable def pleachlaw11_BitsForms  : Option ((Bool × Unit) × Unit) := pleachlaw11_BitsForms_n 1099511627776 
theorem pleachlaw11_BitsForms_eq (n : Nat)  : evFn pleachlaw11_BitsForms_Γ tab pleachlaw11_BitsForms_fi n [] [⟨t4, [false], none⟩] Try.f5 () = pleachlaw11_BitsForms_n n  := by
  rw [pleachlaw11_BitsForms_start, pleachlaw11_BitsForms_XL1 n n]
  rfl
noncomputable def pleachlaw11_BitsForms_e : Ent := ⟨[], [⟨t4, [false], none⟩], fun x => pleachlaw11_BitsForms⟩
theorem pleachlaw11_BitsForms_good : Good tab.ty Try.prog 5 pleachlaw11_BitsForms_e := by
  refine fn_good (Γ := pleachlaw11_BitsForms_Γ) (fi := pleachlaw11_BitsForms_fi) (n := 1099511627776) follows (gcons pleachlaw11_begun_good (gcons bits_Put_good (gcons bits_Take_good (gcons bits_TakeText_good gnil)))) tabok Try.func5 (by kernel_rfl) (by kernel_rfl) (fun x r h => ?_)
  obtain _u := x
  exact (pleachlaw11_BitsForms_eq 1099511627776 ).trans h
end Go.PE
