/-
  Functions of the program, each as the evaluator answers it, and its contract.
  Conditions: none.
-/
import Derived.Test.YtoidpccakojeaaaBitsBackT
set_option linter.unusedVariables false
set_option maxRecDepth 100000
namespace Go.PE
open Go.Proofs

noncomputable def slices_Clone_byte (s : List Int) : Option (((List Int) × Unit) × Unit) := bif Nat.ble s.length 1073741824 then some ((s, ()), ()) else none
theorem slices_Clone_byte_raw (s : List Int) : evFn [] tab (fiOf Try.f45 []) 1 [.val t23] [⟨t23, [true], none⟩] Try.f45 (s, ()) = bif !(List.isEmpty s) then bif Nat.ble (0 + s.length) 1073741824 then some (([] ++ s, ()), ()) else none
 else bothEq (some (([], ()), ())) (bif Nat.ble (0 + s.length) 1073741824 then some (([] ++ s, ()), ()) else none) := by kernel_rfl
theorem slices_Clone_byte_eq (s : List Int) : evFn [] tab (fiOf Try.f45 []) 1 [.val t23] [⟨t23, [true], none⟩] Try.f45 (s, ()) = slices_Clone_byte s := by
  rw [slices_Clone_byte_raw]
  cases s with
  | nil => exact bothEq_same _
  | cons x q => rw [Nat.zero_add]; rfl
noncomputable def slices_Clone_byte_e : Ent := ⟨[.val t23], [⟨t23, [true], none⟩], fun x => slices_Clone_byte x.1⟩
theorem slices_Clone_byte_good : Good tab.ty Try.prog 45 slices_Clone_byte_e := by
  refine fn_good (Γ := []) (fi := fiOf Try.f45 []) (n := 1) follows gnil tabok Try.func45 (by kernel_rfl) (by kernel_rfl) (fun x r h => ?_)
  obtain ⟨s, _u⟩ := x
  exact (slices_Clone_byte_eq s).trans h
noncomputable def bits_Put_Γ : Ctx := [(45, slices_Clone_byte_e)]
def bits_Put_fi : Fi := { keep := [], vty := [], vals := [], live := [(0, [0, 1]), (1, [0, 1]), (2, [0, 5]), (3, [0, 5, 11]), (4, [0, 5]), (5, [0, 5]), (6, [4])] }
noncomputable def bits_Put_B1 (L1 : Int → List Int → Option (((List Int) × Unit) × Unit)) (v2 : Int) (v3 : List Int) : Option (((List Int) × Unit) × Unit) :=
 bif decide (v2 ≥ 128) then
  bif Nat.ble (v3.length + 1) 1073741824 then
   L1 (Int.fdiv v2 (2 ^ 7)) (v3 ++ [IntKind.wrap .u8 ((BitVec.ofInt 8 (IntKind.wrap .u8 v2) ||| BitVec.ofInt 8 128).toNat)])
  else none
 else
 bif Nat.ble (v3.length + 1) 1073741824 then
  some ((v3 ++ [IntKind.wrap .u8 v2], ()), ())
 else none
noncomputable def bits_Put_T (L1 : Int → List Int → Option (((List Int) × Unit) × Unit)) (b_0 : List Int) (v_1 : Int) : Option (((List Int) × Unit) × Unit) :=
 Option.bind (slices_Clone_byte b_0) fun (r1 : ((List Int) × Unit) × Unit) =>
 L1 (IntKind.wrap .u64 v_1) r1.1.1
noncomputable def bits_Put_L1 (n : Nat) : Nat → Int → List Int → Option (((List Int) × Unit) × Unit) := iter (fun _ _ => none) fun L => bits_Put_B1 L
noncomputable def bits_Put_X1 (n m : Nat) (v2 : Int) (v3 : List Int) : Option (((List Int) × Unit) × Unit) :=
 atLoop bits_Put_Γ tab (fiB [.val t23, .val t2] bits_Put_fi) n [.val t23, .val t2] [⟨t23, [true], none⟩] Try.f17 [1, 1, 1, 0, 0] [] [0, 5] m
 ⟨[(0, SV.cv (CV.one (LV.ref (888888, 0)))), (5, SV.cv (CV.one (LV.pure t12 v2)))],
  [((888888, 0), Ob.row 5 t5 v3)]⟩
theorem bits_Put_step1 (n m : Nat) (v2 : Int) (v3 : List Int) : bits_Put_X1 n (m + 1) v2 v3 = bits_Put_B1 (bits_Put_X1 n m) v2 v3 := by kernel_rfl
theorem bits_Put_start (n : Nat) (b_0 : List Int) (v_1 : Int) : evFn bits_Put_Γ tab bits_Put_fi n [.val t23, .val t2] [⟨t23, [true], none⟩] Try.f17 (b_0, v_1, ()) = bits_Put_T (bits_Put_X1 n n) b_0 v_1 := by kernel_rfl
theorem bits_Put_XL1 (n : Nat) : ∀ m, bits_Put_X1 n m = bits_Put_L1 n m
 | 0 => rfl
 | m + 1 => by
  have ih := bits_Put_XL1 n m
  funext v2 v3
  rw [bits_Put_step1, ih]
  rfl
noncomputable def bits_Put_n (n : Nat) (b_0 : List Int) (v_1 : Int) : Option (((List Int) × Unit) × Unit) := bits_Put_T (bits_Put_L1 n n) b_0 v_1
noncomputable def bits_Put (b_0 : List Int) (v_1 : Int) : Option (((List Int) × Unit) × Unit) := bits_Put_n 1099511627776 b_0 v_1
theorem bits_Put_eq (n : Nat) (b_0 : List Int) (v_1 : Int) : evFn bits_Put_Γ tab bits_Put_fi n [.val t23, .val t2] [⟨t23, [true], none⟩] Try.f17 (b_0, v_1, ()) = bits_Put_n n b_0 v_1 := by
  rw [bits_Put_start, bits_Put_XL1 n n]
  rfl
noncomputable def bits_Put_e : Ent := ⟨[.val t23, .val t2], [⟨t23, [true], none⟩], fun x => bits_Put x.1 x.2.1⟩
theorem bits_Put_good : Good tab.ty Try.prog 17 bits_Put_e := by
  refine fn_good (Γ := bits_Put_Γ) (fi := bits_Put_fi) (n := 1099511627776) follows (gcons slices_Clone_byte_good gnil) tabok Try.func17 (by kernel_rfl) (by kernel_rfl) (fun x r h => ?_)
  obtain ⟨b_0, v_1, _u⟩ := x
  exact (bits_Put_eq 1099511627776 b_0 v_1).trans h
noncomputable def bits_take_Γ : Ctx := []
def bits_take_fi : Fi := { keep := [], vty := [], vals := [], live := [(0, [0, 2, 3, 11, 12, 33, 34, 37, 38]), (1, [0, 2, 3, 11, 12, 13, 33, 34, 37, 38]), (2, [0, 2, 3, 5, 11, 12, 33, 34, 37, 38]), (3, [0, 2, 3, 5, 11, 12, 33, 34, 37, 38]), (4, [0, 2, 3, 5, 11, 12, 33, 34, 37, 38]), (5, [0, 2, 3, 5, 11, 12, 29, 33, 34, 37, 38]), (6, [2, 3, 39]), (7, [2, 3, 4]), (8, [2, 3, 4])] }
noncomputable def bits_take_B1 (L1 : List Int → Int → Int → Option ((Int × Int × IV × Unit) × Unit)) (v1 : List Int) (v2 : Int) (v3 : Int) : Option ((Int × Int × IV × Unit) × Unit) :=
 bif decide (v3 < (v1.length : Int)) then
  bif decide (v3 < 5) then
   bif decide (0 ≤ v3) && decide (v3 < (v1.length : Int)) then
    bif decide (0 ≤ IntKind.wrap .i64 (7 * v3)) then
     bif decide (List.getD v1 v3.toNat 0 ≥ 128) then
      L1 v1 (IntKind.wrap .i64 ((BitVec.ofInt 64 v2 ||| BitVec.ofInt 64 (IntKind.wrap .i64 ((IntKind.wrap .i64 (IntKind.wrap .u8 ((BitVec.ofInt 8 (List.getD v1 v3.toNat 0) &&& BitVec.ofInt 8 127).toNat))) * 2 ^ (min ((IntKind.wrap .i64 (7 * v3)).toNat) 64)))).toNat)) (IntKind.wrap .i64 (v3 + 1))
     else
     bif decide (IntKind.wrap .i64 (v3 + 1) > 1) then
      bif (List.getD v1 v3.toNat 0) == 0 then
       some ((0, 0, IV.mk 78 [], ()), ())
      else
      bif decide (IntKind.wrap .i64 ((BitVec.ofInt 64 v2 ||| BitVec.ofInt 64 (IntKind.wrap .i64 ((IntKind.wrap .i64 (IntKind.wrap .u8 ((BitVec.ofInt 8 (List.getD v1 v3.toNat 0) &&& BitVec.ofInt 8 127).toNat))) * 2 ^ (min ((IntKind.wrap .i64 (7 * v3)).toNat) 64)))).toNat) > 1073741824) then
       some ((0, 0, IV.mk 78 [], ()), ())
      else
       some ((IntKind.wrap .i64 ((BitVec.ofInt 64 v2 ||| BitVec.ofInt 64 (IntKind.wrap .i64 ((IntKind.wrap .i64 (IntKind.wrap .u8 ((BitVec.ofInt 8 (List.getD v1 v3.toNat 0) &&& BitVec.ofInt 8 127).toNat))) * 2 ^ (min ((IntKind.wrap .i64 (7 * v3)).toNat) 64)))).toNat), IntKind.wrap .i64 (v3 + 1), IV.nil, ()), ())
     else
     bif decide (IntKind.wrap .i64 ((BitVec.ofInt 64 v2 ||| BitVec.ofInt 64 (IntKind.wrap .i64 ((IntKind.wrap .i64 (IntKind.wrap .u8 ((BitVec.ofInt 8 (List.getD v1 v3.toNat 0) &&& BitVec.ofInt 8 127).toNat))) * 2 ^ (min ((IntKind.wrap .i64 (7 * v3)).toNat) 64)))).toNat) > 1073741824) then
      some ((0, 0, IV.mk 78 [], ()), ())
     else
      some ((IntKind.wrap .i64 ((BitVec.ofInt 64 v2 ||| BitVec.ofInt 64 (IntKind.wrap .i64 ((IntKind.wrap .i64 (IntKind.wrap .u8 ((BitVec.ofInt 8 (List.getD v1 v3.toNat 0) &&& BitVec.ofInt 8 127).toNat))) * 2 ^ (min ((IntKind.wrap .i64 (7 * v3)).toNat) 64)))).toNat), IntKind.wrap .i64 (v3 + 1), IV.nil, ()), ())
    else none
   else none
  else
   some ((0, 0, IV.mk 78 [], ()), ())
 else
  some ((0, 0, IV.mk 78 [], ()), ())
noncomputable def bits_take_T (L1 : List Int → Int → Int → Option ((Int × Int × IV × Unit) × Unit)) (b_0 : List Int) : Option ((Int × Int × IV × Unit) × Unit) :=
 L1 b_0 0 0
noncomputable def bits_take_L1 (n : Nat) : Nat → List Int → Int → Int → Option ((Int × Int × IV × Unit) × Unit) := iter (fun _ _ _ => none) fun L => bits_take_B1 L
noncomputable def bits_take_X1 (n m : Nat) (v1 : List Int) (v2 : Int) (v3 : Int) : Option ((Int × Int × IV × Unit) × Unit) :=
 atLoop bits_take_Γ tab (fiB [.val t23] bits_take_fi) n [.val t23] [⟨t2, [false], none⟩, ⟨t2, [false], none⟩, ⟨t20, [false], none⟩] Try.f46 [1, 0, 0] [] [0, 2, 3] m
 ⟨[(0, SV.cv (CV.one (LV.pure t23 v1))), (2, SV.cv (CV.one (LV.pure t2 v2))), (3, SV.cv (CV.one (LV.pure t2 v3)))],
  []⟩
theorem bits_take_step1 (n m : Nat) (v1 : List Int) (v2 : Int) (v3 : Int) : bits_take_X1 n (m + 1) v1 v2 v3 = bits_take_B1 (bits_take_X1 n m) v1 v2 v3 := by kernel_rfl
theorem bits_take_start (n : Nat) (b_0 : List Int) : evFn bits_take_Γ tab bits_take_fi n [.val t23] [⟨t2, [false], none⟩, ⟨t2, [false], none⟩, ⟨t20, [false], none⟩] Try.f46 (b_0, ()) = bits_take_T (bits_take_X1 n n) b_0 := by kernel_rfl
theorem bits_take_XL1 (n : Nat) : ∀ m, bits_take_X1 n m = bits_take_L1 n m
 | 0 => rfl
 | m + 1 => by
  have ih := bits_take_XL1 n m
  funext v1 v2 v3
  rw [bits_take_step1, ih]
  rfl
noncomputable def bits_take_n (n : Nat) (b_0 : List Int) : Option ((Int × Int × IV × Unit) × Unit) := bits_take_T (bits_take_L1 n n) b_0
noncomputable def bits_take (b_0 : List Int) : Option ((Int × Int × IV × Unit) × Unit) := bits_take_n 1099511627776 b_0
theorem bits_take_eq (n : Nat) (b_0 : List Int) : evFn bits_take_Γ tab bits_take_fi n [.val t23] [⟨t2, [false], none⟩, ⟨t2, [false], none⟩, ⟨t20, [false], none⟩] Try.f46 (b_0, ()) = bits_take_n n b_0 := by
  rw [bits_take_start, bits_take_XL1 n n]
  rfl
noncomputable def bits_take_e : Ent := ⟨[.val t23], [⟨t2, [false], none⟩, ⟨t2, [false], none⟩, ⟨t20, [false], none⟩], fun x => bits_take x.1⟩
theorem bits_take_good : Good tab.ty Try.prog 46 bits_take_e := by
  refine fn_good (Γ := bits_take_Γ) (fi := bits_take_fi) (n := 1099511627776) follows gnil tabok Try.func46 (by kernel_rfl) (by kernel_rfl) (fun x r h => ?_)
  obtain ⟨b_0, _u⟩ := x
  exact (bits_take_eq 1099511627776 b_0).trans h
noncomputable def bits_Take_Γ : Ctx := [(46, bits_take_e)]
def bits_Take_fi : Fi := { keep := [], vty := [], vals := [], live := [(0, [0]), (1, [2, 3, 5]), (2, [2, 3, 7]), (3, [2, 3, 4])] }
noncomputable def bits_Take (b_0 : List Int) : Option ((Int × Int × Bool × Unit) × Unit) :=
 Option.bind (bits_take b_0) fun (r1 : (Int × Int × IV × Unit) × Unit) =>
 some ((r1.1.1, r1.1.2.1, !(IV.is r1.1.2.2.1 78), ()), ())
theorem bits_Take_eq (b_0 : List Int) : evFn bits_Take_Γ tab bits_Take_fi 1 [.val t23] [⟨t2, [false], none⟩, ⟨t2, [false], none⟩, ⟨t4, [false], none⟩] Try.f21 (b_0, ()) = bits_Take b_0 := by kernel_rfl
noncomputable def bits_Take_e : Ent := ⟨[.val t23], [⟨t2, [false], none⟩, ⟨t2, [false], none⟩, ⟨t4, [false], none⟩], fun x => bits_Take x.1⟩
theorem bits_Take_good : Good tab.ty Try.prog 21 bits_Take_e := by
  refine fn_good (Γ := bits_Take_Γ) (fi := bits_Take_fi) (n := 1) follows (gcons bits_take_good gnil) tabok Try.func21 (by kernel_rfl) (by kernel_rfl) (fun x r h => ?_)
  obtain ⟨b_0, _u⟩ := x
  exact (bits_Take_eq b_0).trans h
noncomputable def bits_PutText_Γ : Ctx := [(17, bits_Put_e)]
def bits_PutText_fi : Fi := { keep := [], vty := [], vals := [], live := [(0, [0, 1]), (1, [4])] }
noncomputable def bits_PutText (b_0 : List Int) (s_1 : ByteArray) : Option (((List Int) × Unit) × Unit) :=
 Option.bind (bits_Put b_0 (s_1.size : Int)) fun (r1 : ((List Int) × Unit) × Unit) =>
 bif Nat.ble (r1.1.1.length + (s_1.data.toList.map fun b => (b.toNat : Int)).length) 1073741824 then
  some ((r1.1.1 ++ (s_1.data.toList.map fun b => (b.toNat : Int)), ()), ())
 else none
theorem bits_PutText_eq (b_0 : List Int) (s_1 : ByteArray) : evFn bits_PutText_Γ tab bits_PutText_fi 1 [.val t23, .val t9] [⟨t23, [true], none⟩] Try.f19 (b_0, s_1, ()) = bits_PutText b_0 s_1 := by kernel_rfl
noncomputable def bits_PutText_e : Ent := ⟨[.val t23, .val t9], [⟨t23, [true], none⟩], fun x => bits_PutText x.1 x.2.1⟩
theorem bits_PutText_good : Good tab.ty Try.prog 19 bits_PutText_e := by
  refine fn_good (Γ := bits_PutText_Γ) (fi := bits_PutText_fi) (n := 1) follows (gcons bits_Put_good gnil) tabok Try.func19 (by kernel_rfl) (by kernel_rfl) (fun x r h => ?_)
  obtain ⟨b_0, s_1, _u⟩ := x
  exact (bits_PutText_eq b_0 s_1).trans h
noncomputable def bits_TakeText_Γ : Ctx := [(21, bits_Take_e)]
def bits_TakeText_fi : Fi := { keep := [], vty := [], vals := [], live := [(0, [0, 15, 16, 17, 18, 19, 20]), (1, [0, 3, 4, 5, 15, 16, 17, 18, 19, 20]), (2, [0, 3, 5, 21]), (3, [2, 3, 4]), (4, [2, 3, 4])] }
noncomputable def bits_TakeText (b_0 : List Int) : Option ((ByteArray × Int × Bool × Unit) × Unit) :=
 Option.bind (bits_Take b_0) fun (r1 : (Int × Int × Bool × Unit) × Unit) =>
 bif !r1.1.2.2.1 then
  some (((⟨#[]⟩ : ByteArray), 0, false, ()), ())
 else
 bif decide (r1.1.1 > IntKind.wrap .i64 ((b_0.length : Int) - r1.1.2.1)) then
  some (((⟨#[]⟩ : ByteArray), 0, false, ()), ())
 else
 bif (decide (0 ≤ r1.1.2.1) && decide (r1.1.2.1 ≤ IntKind.wrap .i64 (r1.1.2.1 + r1.1.1))) && decide (IntKind.wrap .i64 (r1.1.2.1 + r1.1.1) ≤ (b_0.length : Int)) then
  some ((bytesOf (List.drop r1.1.2.1.toNat (List.take ((IntKind.wrap .i64 (r1.1.2.1 + r1.1.1)).toNat) b_0)), IntKind.wrap .i64 (r1.1.2.1 + r1.1.1), true, ()), ())
 else none
theorem bits_TakeText_eq (b_0 : List Int) : evFn bits_TakeText_Γ tab bits_TakeText_fi 1 [.val t23] [⟨t9, [false], none⟩, ⟨t2, [false], none⟩, ⟨t4, [false], none⟩] Try.f23 (b_0, ()) = bits_TakeText b_0 := by kernel_rfl
noncomputable def bits_TakeText_e : Ent := ⟨[.val t23], [⟨t9, [false], none⟩, ⟨t2, [false], none⟩, ⟨t4, [false], none⟩], fun x => bits_TakeText x.1⟩
theorem bits_TakeText_good : Good tab.ty Try.prog 23 bits_TakeText_e := by
  refine fn_good (Γ := bits_TakeText_Γ) (fi := bits_TakeText_fi) (n := 1) follows (gcons bits_Take_good gnil) tabok Try.func23 (by kernel_rfl) (by kernel_rfl) (fun x r h => ?_)
  obtain ⟨b_0, _u⟩ := x
  exact (bits_TakeText_eq b_0).trans h
noncomputable def pleachlaw11_begun_Γ : Ctx := [(17, bits_Put_e), (19, bits_PutText_e), (21, bits_Take_e), (23, bits_TakeText_e)]
def pleachlaw11_begun_fi : Fi := { keep := [], vty := [], vals := [], live := [(0, [33, 34, 37, 38, 41, 44, 45, 48, 49, 52, 55, 56]), (1, [1, 33, 34, 37, 38, 41, 44, 45, 48, 49, 52, 55, 56]), (2, [1, 2, 3, 4, 33, 34, 37, 38, 41, 44, 45, 48, 49, 52, 55, 56]), (3, [1, 2, 3, 4, 5, 6, 7, 33, 34, 37, 38, 41, 44, 45, 48, 49, 52, 55, 56]), (4, [1, 2, 3, 4, 5, 6, 7, 10, 33, 34, 37, 38, 41, 44, 45, 48, 49, 52, 55, 56]), (5, [0])] }
noncomputable def pleachlaw11_begun  : Option ((Bool × Unit) × Unit) :=
 Option.bind (bits_Put [] 300) fun (r1 : ((List Int) × Unit) × Unit) =>
 Option.bind (bits_Take r1.1.1) fun (r2 : (Int × Int × Bool × Unit) × Unit) =>
 Option.bind (bits_PutText [] (⟨#[97, 98]⟩ : ByteArray)) fun (r3 : ((List Int) × Unit) × Unit) =>
 Option.bind (bits_TakeText r3.1.1) fun (r4 : (ByteArray × Int × Bool × Unit) × Unit) =>
 Option.bind (bits_Take []) fun (r5 : (Int × Int × Bool × Unit) × Unit) =>
 bif strEq (bytesOf r1.1.1) (⟨#[172, 2]⟩ : ByteArray) then
  bif r2.1.1 == 300 then
   bif r2.1.2.1 == 2 then
    bif r2.1.2.2.1 then
     bif strEq r4.1.1 (⟨#[97, 98]⟩ : ByteArray) then
      bif r4.1.2.1 == 3 then
       bif r4.1.2.2.1 then
        some ((!r5.1.2.2.1, ()), ())
       else
        some ((false, ()), ())
      else
       some ((false, ()), ())
     else
      some ((false, ()), ())
    else
     some ((false, ()), ())
   else
    some ((false, ()), ())
  else
   some ((false, ()), ())
 else
  some ((false, ()), ())
theorem pleachlaw11_begun_eq  : evFn pleachlaw11_begun_Γ tab pleachlaw11_begun_fi 1 [] [⟨t4, [false], none⟩] Try.f16 () = pleachlaw11_begun  := by kernel_rfl
noncomputable def pleachlaw11_begun_e : Ent := ⟨[], [⟨t4, [false], none⟩], fun x => pleachlaw11_begun⟩
theorem pleachlaw11_begun_good : Good tab.ty Try.prog 16 pleachlaw11_begun_e := by
  refine fn_good (Γ := pleachlaw11_begun_Γ) (fi := pleachlaw11_begun_fi) (n := 1) follows (gcons bits_Put_good (gcons bits_PutText_good (gcons bits_Take_good (gcons bits_TakeText_good gnil)))) tabok Try.func16 (by kernel_rfl) (by kernel_rfl) (fun x r h => ?_)
  obtain _u := x
  exact (pleachlaw11_begun_eq ).trans h
noncomputable def pleachlaw11_BitsBack_Γ : Ctx := [(16, pleachlaw11_begun_e), (17, bits_Put_e), (19, bits_PutText_e), (21, bits_Take_e), (23, bits_TakeText_e)]
def pleachlaw11_BitsBack_fi : Fi := { keep := [], vty := [], vals := [], live := [(0, [0, 1, 2, 3, 4, 35, 36, 37, 40, 41, 42, 55, 56, 57, 112, 113, 114, 117, 118, 119, 120, 123, 124, 127, 128, 129, 132, 133, 134, 135, 138, 141, 144, 145, 146, 147, 148, 149, 150, 151, 152, 153, 158, 159, 160, 161, 162, 163, 164, 165, 166, 167, 168, 169, 170, 171, 172, 173, 174, 175, 176, 177, 178, 179, 180, 181, 182, 183]), (1, [0, 1, 2, 3, 4, 30, 35, 36, 37, 40, 41, 42, 55, 56, 57, 112, 113, 114, 117, 118, 119, 120, 123, 124, 127, 128, 129, 132, 133, 134, 135, 138, 141, 144, 145, 146, 147, 148, 149, 150, 151, 152, 153, 158, 159, 160, 161, 162, 163, 164, 165, 166, 167, 168, 169, 170, 171, 172, 173, 174, 175, 176, 177, 178, 179, 180, 181, 182, 183]), (2, [10]), (3, [0, 1, 2, 3, 4, 43, 55, 56, 57, 112, 113, 114, 117, 118, 119, 120, 123, 124, 127, 128, 129, 132, 133, 134, 135, 138, 141, 144, 145, 146, 147, 148, 149, 150, 151, 152, 153, 158, 159, 160, 161, 162, 163, 164, 165, 166, 167, 168, 169, 170, 171, 172, 173, 174, 175, 176, 177, 178, 179, 180, 181, 182, 183]), (4, [10]), (5, [1, 2, 3, 4, 11, 55, 56, 57, 112, 113, 114, 117, 118, 119, 120, 123, 124, 127, 128, 129, 132, 133, 134, 135, 138, 141, 144, 145, 146, 147, 148, 149, 150, 151, 152, 153, 158, 159, 160, 161, 162, 163, 164, 165, 166, 167, 168, 169, 170, 171, 172, 173, 174, 175, 176, 177, 178, 179, 180, 181, 182, 183]), (6, [1, 2, 3, 4, 11, 12, 13, 55, 56, 57, 112, 113, 114, 117, 118, 119, 120, 123, 124, 127, 128, 129, 132, 133, 134, 135, 138, 141, 144, 145, 146, 147, 148, 149, 150, 151, 152, 153, 158, 159, 160, 161, 162, 163, 164, 165, 166, 167, 168, 169, 170, 171, 172, 173, 174, 175, 176, 177, 178, 179, 180, 181, 182, 183]), (7, [1, 2, 3, 4, 11, 12, 13, 58, 112, 113, 114, 117, 118, 119, 120, 123, 124, 127, 128, 129, 132, 133, 134, 135, 138, 141, 144, 145, 146, 147, 148, 149, 150, 151, 152, 153, 158, 159, 160, 161, 162, 163, 164, 165, 166, 167, 168, 169, 170, 171, 172, 173, 174, 175, 176, 177, 178, 179, 180, 181, 182, 183]), (8, [10]), (9, [1, 2, 3, 4, 11, 12, 13, 14, 15, 16, 112, 113, 114, 117, 118, 119, 120, 123, 124, 127, 128, 129, 132, 133, 134, 135, 138, 141, 144, 145, 146, 147, 148, 149, 150, 151, 152, 153, 158, 159, 160, 161, 162, 163, 164, 165, 166, 167, 168, 169, 170, 171, 172, 173, 174, 175, 176, 177, 178, 179, 180, 181, 182, 183]), (10, [1, 3, 4, 11, 12, 13, 14, 15, 16, 17, 18, 19, 112, 113, 114, 117, 118, 119, 120, 123, 124, 127, 128, 129, 132, 133, 134, 135, 138, 141, 144, 145, 146, 147, 148, 149, 150, 151, 152, 153, 158, 159, 160, 161, 162, 163, 164, 165, 166, 167, 168, 169, 170, 171, 172, 173, 174, 175, 176, 177, 178, 179, 180, 181, 182, 183]), (11, [1, 3, 4, 11, 12, 13, 14, 15, 16, 17, 18, 19, 22, 112, 113, 114, 117, 118, 119, 120, 123, 124, 127, 128, 129, 132, 133, 134, 135, 138, 141, 144, 145, 146, 147, 148, 149, 150, 151, 152, 153, 158, 159, 160, 161, 162, 163, 164, 165, 166, 167, 168, 169, 170, 171, 172, 173, 174, 175, 176, 177, 178, 179, 180, 181, 182, 183]), (12, [1, 4, 11, 12, 13, 14, 15, 16, 17, 18, 19, 22, 25, 112, 113, 114, 117, 118, 119, 120, 123, 124, 127, 128, 129, 132, 133, 134, 135, 138, 141, 144, 145, 146, 147, 148, 149, 150, 151, 152, 153, 158, 159, 160, 161, 162, 163, 164, 165, 166, 167, 168, 169, 170, 171, 172, 173, 174, 175, 176, 177, 178, 179, 180, 181, 182, 183]), (13, [1, 4, 11, 12, 13, 14, 15, 16, 17, 18, 19, 22, 25, 26, 27, 28, 112, 113, 114, 117, 118, 119, 120, 123, 124, 127, 128, 129, 132, 133, 134, 135, 138, 141, 144, 145, 146, 147, 148, 149, 150, 151, 152, 153, 158, 159, 160, 161, 162, 163, 164, 165, 166, 167, 168, 169, 170, 171, 172, 173, 174, 175, 176, 177, 178, 179, 180, 181, 182, 183]), (14, [4, 26, 27, 28, 154, 158, 159, 160, 161, 162, 163, 164, 165, 166, 167, 168, 169, 170, 171, 172, 173, 174, 175, 176, 177, 178, 179, 180, 181, 182, 183]), (15, [10]), (16, [10])] }
noncomputable def pleachlaw11_BitsBack (arr_0 : Int) (x_1 : ByteArray) (x_2 : List Int) (x_3 : Int) (x_4 : List Int) : Option ((Bool × Unit) × Unit) :=
 Option.bind (pleachlaw11_begun) fun (r1 : (Bool × Unit) × Unit) =>
 bif !r1.1.1 then
  some ((false, ()), ())
 else
 bif decide ((x_1.size : Int) > 200) then
  some ((true, ()), ())
 else
 bif decide ((x_2.length : Int) > 20) then
  some ((true, ()), ())
 else
 bif decide ((x_4.length : Int) > 10) then
  some ((true, ()), ())
 else
  Option.bind (bits_Put [] (Int.tmod (IntKind.wrap .i64 arr_0) 1073741825)) fun (r2 : ((List Int) × Unit) × Unit) =>
  Option.bind (bits_PutText [] x_1) fun (r3 : ((List Int) × Unit) × Unit) =>
  bif (r2.1.1.length : Int) == 0 then
   some ((false, ()), ())
  else
  bif (r3.1.1.length : Int) == 0 then
   some ((false, ()), ())
  else
  bif Nat.ble (0 + r2.1.1.length) 1073741824 then
   bif Nat.ble (([] ++ r2.1.1).length + x_2.length) 1073741824 then
    Option.bind (bits_Take (([] ++ r2.1.1) ++ x_2)) fun (r4 : (Int × Int × Bool × Unit) × Unit) =>
    bif Nat.ble (0 + r3.1.1.length) 1073741824 then
     bif Nat.ble (([] ++ r3.1.1).length + x_2.length) 1073741824 then
      Option.bind (bits_TakeText (([] ++ r3.1.1) ++ x_2)) fun (r5 : (ByteArray × Int × Bool × Unit) × Unit) =>
      bif !((r2.1.1.length : Int) == 0) then
       bif decide (0 ≤ Int.tmod (IntKind.wrap .i64 x_3) (r2.1.1.length : Int)) && decide (Int.tmod (IntKind.wrap .i64 x_3) (r2.1.1.length : Int) ≤ (r2.1.1.length : Int)) then
        Option.bind (bits_Take (List.drop 0 (List.take ((Int.tmod (IntKind.wrap .i64 x_3) (r2.1.1.length : Int)).toNat) r2.1.1))) fun (r6 : (Int × Int × Bool × Unit) × Unit) =>
        bif !((r3.1.1.length : Int) == 0) then
         bif decide (0 ≤ Int.tmod (IntKind.wrap .i64 x_3) (r3.1.1.length : Int)) && decide (Int.tmod (IntKind.wrap .i64 x_3) (r3.1.1.length : Int) ≤ (r3.1.1.length : Int)) then
          Option.bind (bits_TakeText (List.drop 0 (List.take ((Int.tmod (IntKind.wrap .i64 x_3) (r3.1.1.length : Int)).toNat) r3.1.1))) fun (r7 : (ByteArray × Int × Bool × Unit) × Unit) =>
          Option.bind (bits_Take x_4) fun (r8 : (Int × Int × Bool × Unit) × Unit) =>
          bif !r4.1.2.2.1 then
           some ((false, ()), ())
          else
          bif r4.1.1 != (Int.tmod (IntKind.wrap .i64 arr_0) 1073741825) then
           some ((false, ()), ())
          else
          bif r4.1.2.1 != (r2.1.1.length : Int) then
           some ((false, ()), ())
          else
          bif !r5.1.2.2.1 then
           some ((false, ()), ())
          else
          bif !(strEq r5.1.1 x_1) then
           some ((false, ()), ())
          else
          bif r5.1.2.1 != (r3.1.1.length : Int) then
           some ((false, ()), ())
          else
          bif r6.1.2.2.1 then
           some ((false, ()), ())
          else
          bif r7.1.2.2.1 then
           some ((false, ()), ())
          else
          bif !r8.1.2.2.1 then
           bif r8.1.1 != 0 then
            some ((false, ()), ())
           else
           bif r8.1.2.1 != 0 then
            some ((false, ()), ())
           else
           bif !r8.1.2.2.1 then
            some ((true, ()), ())
           else
           bif decide (r8.1.2.1 ≥ 1) then
            bif decide (r8.1.2.1 ≤ (x_4.length : Int)) then
            bif decide (r8.1.1 ≥ 0) then
            bif decide (r8.1.1 ≤ 1073741824) then
            Option.bind (bits_Put [] r8.1.1) fun (r9 : ((List Int) × Unit) × Unit) =>
            bif decide (0 ≤ r8.1.2.1) && decide (r8.1.2.1 ≤ (x_4.length : Int)) then
            some ((strEq (bytesOf r9.1.1) (bytesOf (List.drop 0 (List.take r8.1.2.1.toNat x_4))), ()), ())
            else none
            else
            some ((false, ()), ())
            else
            some ((false, ()), ())
            else
            some ((false, ()), ())
           else
            some ((false, ()), ())
          else
          bif !r8.1.2.2.1 then
           some ((true, ()), ())
          else
          bif decide (r8.1.2.1 ≥ 1) then
           bif decide (r8.1.2.1 ≤ (x_4.length : Int)) then
            bif decide (r8.1.1 ≥ 0) then
            bif decide (r8.1.1 ≤ 1073741824) then
            Option.bind (bits_Put [] r8.1.1) fun (r10 : ((List Int) × Unit) × Unit) =>
            bif decide (0 ≤ r8.1.2.1) && decide (r8.1.2.1 ≤ (x_4.length : Int)) then
            some ((strEq (bytesOf r10.1.1) (bytesOf (List.drop 0 (List.take r8.1.2.1.toNat x_4))), ()), ())
            else none
            else
            some ((false, ()), ())
            else
            some ((false, ()), ())
           else
            some ((false, ()), ())
          else
           some ((false, ()), ())
         else none
        else none
       else none
      else none
     else none
    else none
   else none
  else none
theorem pleachlaw11_BitsBack_eq (arr_0 : Int) (x_1 : ByteArray) (x_2 : List Int) (x_3 : Int) (x_4 : List Int) : evFn pleachlaw11_BitsBack_Γ tab pleachlaw11_BitsBack_fi 1 [.val t22, .val t9, .val t23, .val t5, .val t23] [⟨t4, [false], none⟩] Try.f4 (arr_0, x_1, x_2, x_3, x_4, ()) = pleachlaw11_BitsBack arr_0 x_1 x_2 x_3 x_4 := by kernel_rfl
noncomputable def pleachlaw11_BitsBack_e : Ent := ⟨[.val t22, .val t9, .val t23, .val t5, .val t23], [⟨t4, [false], none⟩], fun x => pleachlaw11_BitsBack x.1 x.2.1 x.2.2.1 x.2.2.2.1 x.2.2.2.2.1⟩
theorem pleachlaw11_BitsBack_good : Good tab.ty Try.prog 4 pleachlaw11_BitsBack_e := by
  refine fn_good (Γ := pleachlaw11_BitsBack_Γ) (fi := pleachlaw11_BitsBack_fi) (n := 1) follows (gcons pleachlaw11_begun_good (gcons bits_Put_good (gcons bits_PutText_good (gcons bits_Take_good (gcons bits_TakeText_good gnil))))) tabok Try.func4 (by kernel_rfl) (by kernel_rfl) (fun x r h => ?_)
  obtain ⟨arr_0, x_1, x_2, x_3, x_4, _u⟩ := x
  exact (pleachlaw11_BitsBack_eq arr_0 x_1 x_2 x_3 x_4).trans h
noncomputable def pleachref10_PutNum_Γ : Ctx := []
def pleachref10_PutNum_fi : Fi := { keep := [], vty := [], vals := [], live := [(0, [0, 1]), (1, [1, 5]), (2, [1, 5, 10]), (3, [1, 5]), (4, [4])] }
noncomputable def pleachref10_PutNum_B1 (L1 : Int → List Int → Option (((List Int) × Unit) × Unit)) (v1 : Int) (v2 : List Int) : Option (((List Int) × Unit) × Unit) :=
 bif decide (v1 ≥ 128) then
  bif Nat.ble (v2.length + 1) 1073741824 then
   L1 (IntKind.wrap .i64 (Int.tdiv v1 128)) (v2 ++ [IntKind.wrap .u8 (IntKind.wrap .i64 ((Int.tmod v1 128) + 128))])
  else none
 else
 bif Nat.ble (v2.length + 1) 1073741824 then
  some ((v2 ++ [IntKind.wrap .u8 v1], ()), ())
 else none
noncomputable def pleachref10_PutNum_T (L1 : Int → List Int → Option (((List Int) × Unit) × Unit)) (b_0 : List Int) (v_1 : Int) : Option (((List Int) × Unit) × Unit) :=
 bif Nat.ble (0 + b_0.length) 1073741824 then
  L1 v_1 ([] ++ b_0)
 else none
noncomputable def pleachref10_PutNum_L1 (n : Nat) : Nat → Int → List Int → Option (((List Int) × Unit) × Unit) := iter (fun _ _ => none) fun L => pleachref10_PutNum_B1 L
noncomputable def pleachref10_PutNum_X1 (n m : Nat) (v1 : Int) (v2 : List Int) : Option (((List Int) × Unit) × Unit) :=
 atLoop pleachref10_PutNum_Γ tab (fiB [.val t23, .val t2] pleachref10_PutNum_fi) n [.val t23, .val t2] [⟨t23, [true], none⟩] Try.f18 [1, 1, 0, 0] [] [1, 5] m
 ⟨[(1, SV.cv (CV.one (LV.pure t2 v1))), (5, SV.cv (CV.one (LV.ref (888888, 5))))],
  [((888888, 5), Ob.row 5 t5 v2)]⟩
theorem pleachref10_PutNum_step1 (n m : Nat) (v1 : Int) (v2 : List Int) : pleachref10_PutNum_X1 n (m + 1) v1 v2 = pleachref10_PutNum_B1 (pleachref10_PutNum_X1 n m) v1 v2 := by kernel_rfl
theorem pleachref10_PutNum_start (n : Nat) (b_0 : List Int) (v_1 : Int) : evFn pleachref10_PutNum_Γ tab pleachref10_PutNum_fi n [.val t23, .val t2] [⟨t23, [true], none⟩] Try.f18 (b_0, v_1, ()) = pleachref10_PutNum_T (pleachref10_PutNum_X1 n n) b_0 v_1 := by kernel_rfl
theorem pleachref10_PutNum_XL1 (n : Nat) : ∀ m, pleachref10_PutNum_X1 n m = pleachref10_PutNum_L1 n m
 | 0 => rfl
 | m + 1 => by
  have ih := pleachref10_PutNum_XL1 n m
  funext v1 v2
  rw [pleachref10_PutNum_step1, ih]
  rfl
noncomputable def pleachref10_PutNum_n (n : Nat) (b_0 : List Int) (v_1 : Int) : Option (((List Int) × Unit) × Unit) := pleachref10_PutNum_T (pleachref10_PutNum_L1 n n) b_0 v_1
noncomputable def pleachref10_PutNum (b_0 : List Int) (v_1 : Int) : Option (((List Int) × Unit) × Unit) := pleachref10_PutNum_n 1099511627776 b_0 v_1
theorem pleachref10_PutNum_eq (n : Nat) (b_0 : List Int) (v_1 : Int) : evFn pleachref10_PutNum_Γ tab pleachref10_PutNum_fi n [.val t23, .val t2] [⟨t23, [true], none⟩] Try.f18 (b_0, v_1, ()) = pleachref10_PutNum_n n b_0 v_1 := by
  rw [pleachref10_PutNum_start, pleachref10_PutNum_XL1 n n]
  rfl
noncomputable def pleachref10_PutNum_e : Ent := ⟨[.val t23, .val t2], [⟨t23, [true], none⟩], fun x => pleachref10_PutNum x.1 x.2.1⟩
theorem pleachref10_PutNum_good : Good tab.ty Try.prog 18 pleachref10_PutNum_e := by
  refine fn_good (Γ := pleachref10_PutNum_Γ) (fi := pleachref10_PutNum_fi) (n := 1099511627776) follows gnil tabok Try.func18 (by kernel_rfl) (by kernel_rfl) (fun x r h => ?_)
  obtain ⟨b_0, v_1, _u⟩ := x
  exact (pleachref10_PutNum_eq 1099511627776 b_0 v_1).trans h
noncomputable def pleachref10_PutText_Γ : Ctx := [(18, pleachref10_PutNum_e)]
def pleachref10_PutText_fi : Fi := { keep := [], vty := [], vals := [], live := [(0, [0, 1]), (1, [4])] }
noncomputable def pleachref10_PutText (b_0 : List Int) (s_1 : ByteArray) : Option (((List Int) × Unit) × Unit) :=
 Option.bind (pleachref10_PutNum b_0 (s_1.size : Int)) fun (r1 : ((List Int) × Unit) × Unit) =>
 bif Nat.ble (r1.1.1.length + (s_1.data.toList.map fun b => (b.toNat : Int)).length) 1073741824 then
  some ((r1.1.1 ++ (s_1.data.toList.map fun b => (b.toNat : Int)), ()), ())
 else none
theorem pleachref10_PutText_eq (b_0 : List Int) (s_1 : ByteArray) : evFn pleachref10_PutText_Γ tab pleachref10_PutText_fi 1 [.val t23, .val t9] [⟨t23, [true], none⟩] Try.f20 (b_0, s_1, ()) = pleachref10_PutText b_0 s_1 := by kernel_rfl
noncomputable def pleachref10_PutText_e : Ent := ⟨[.val t23, .val t9], [⟨t23, [true], none⟩], fun x => pleachref10_PutText x.1 x.2.1⟩
theorem pleachref10_PutText_good : Good tab.ty Try.prog 20 pleachref10_PutText_e := by
  refine fn_good (Γ := pleachref10_PutText_Γ) (fi := pleachref10_PutText_fi) (n := 1) follows (gcons pleachref10_PutNum_good gnil) tabok Try.func20 (by kernel_rfl) (by kernel_rfl) (fun x r h => ?_)
  obtain ⟨b_0, s_1, _u⟩ := x
  exact (pleachref10_PutText_eq b_0 s_1).trans h
noncomputable def pleachref10_TakeNum_Γ : Ctx := []
def pleachref10_TakeNum_fi : Fi := { keep := [], vty := [], vals := [], live := [(0, [0, 13, 14, 38, 39, 40, 41, 42, 45, 46]), (1, [0, 5, 6, 13, 14, 38, 39, 40, 41, 42, 45, 46]), (2, [0, 5, 6, 7, 13, 14, 38, 39, 40, 41, 42, 45, 46]), (3, [0, 5, 6, 7, 13, 14, 15, 38, 39, 40, 41, 42, 45, 46]), (4, [0, 5, 6, 7, 13, 14, 38, 39, 40, 41, 42, 45, 46]), (5, [0, 5, 6, 7, 13, 14, 38, 39, 40, 41, 42, 45, 46]), (6, [0, 5, 6, 7, 13, 14, 38, 39, 40, 41, 42, 45, 46]), (7, [0, 5, 6, 7, 13, 14, 34, 38, 39, 40, 41, 42, 45, 46]), (8, [5, 7, 47]), (9, [2, 3, 4]), (10, [2, 3, 4]), (11, [2, 3, 4])] }
noncomputable def pleachref10_TakeNum_B1 (L1 : List Int → Int → Int → Int → Option ((Int × Int × Bool × Unit) × Unit)) (v1 : List Int) (v2 : Int) (v3 : Int) (v4 : Int) : Option ((Int × Int × Bool × Unit) × Unit) :=
 bif decide (v4 < (v1.length : Int)) then
  bif decide (v4 < 5) then
   bif decide (0 ≤ v4) && decide (v4 < (v1.length : Int)) then
    bif decide (0 ≤ v4) && decide (v4 < (v1.length : Int)) then
     bif decide (List.getD v1 v4.toNat 0 < 128) then
      bif decide (v4 > 0) then
       bif decide (0 ≤ v4) && decide (v4 < (v1.length : Int)) then
        bif (List.getD v1 v4.toNat 0) == 0 then
         some ((0, 0, false, ()), ())
        else
        bif decide (IntKind.wrap .i64 (v2 + (IntKind.wrap .i64 ((IntKind.wrap .i64 (Int.tmod (List.getD v1 v4.toNat 0) 128)) * v3))) > 1073741824) then
         some ((0, 0, false, ()), ())
        else
         some ((IntKind.wrap .i64 (v2 + (IntKind.wrap .i64 ((IntKind.wrap .i64 (Int.tmod (List.getD v1 v4.toNat 0) 128)) * v3))), IntKind.wrap .i64 (v4 + 1), true, ()), ())
       else none
      else
      bif decide (IntKind.wrap .i64 (v2 + (IntKind.wrap .i64 ((IntKind.wrap .i64 (Int.tmod (List.getD v1 v4.toNat 0) 128)) * v3))) > 1073741824) then
       some ((0, 0, false, ()), ())
      else
       some ((IntKind.wrap .i64 (v2 + (IntKind.wrap .i64 ((IntKind.wrap .i64 (Int.tmod (List.getD v1 v4.toNat 0) 128)) * v3))), IntKind.wrap .i64 (v4 + 1), true, ()), ())
     else
      L1 v1 (IntKind.wrap .i64 (v2 + (IntKind.wrap .i64 ((IntKind.wrap .i64 (Int.tmod (List.getD v1 v4.toNat 0) 128)) * v3)))) (IntKind.wrap .i64 (v3 * 128)) (IntKind.wrap .i64 (v4 + 1))
    else none
   else none
  else
   some ((0, 0, false, ()), ())
 else
  some ((0, 0, false, ()), ())
noncomputable def pleachref10_TakeNum_T (L1 : List Int → Int → Int → Int → Option ((Int × Int × Bool × Unit) × Unit)) (b_0 : List Int) : Option ((Int × Int × Bool × Unit) × Unit) :=
 L1 b_0 0 1 0
noncomputable def pleachref10_TakeNum_L1 (n : Nat) : Nat → List Int → Int → Int → Int → Option ((Int × Int × Bool × Unit) × Unit) := iter (fun _ _ _ _ => none) fun L => pleachref10_TakeNum_B1 L
noncomputable def pleachref10_TakeNum_X1 (n m : Nat) (v1 : List Int) (v2 : Int) (v3 : Int) (v4 : Int) : Option ((Int × Int × Bool × Unit) × Unit) :=
 atLoop pleachref10_TakeNum_Γ tab (fiB [.val t23] pleachref10_TakeNum_fi) n [.val t23] [⟨t2, [false], none⟩, ⟨t2, [false], none⟩, ⟨t4, [false], none⟩] Try.f22 [1, 1, 0, 1, 0] [] [0, 5, 6, 7] m
 ⟨[(0, SV.cv (CV.one (LV.pure t23 v1))), (5, SV.cv (CV.one (LV.pure t2 v2))), (6, SV.cv (CV.one (LV.pure t2 v3))), (7, SV.cv (CV.one (LV.pure t2 v4)))],
  []⟩
theorem pleachref10_TakeNum_step1 (n m : Nat) (v1 : List Int) (v2 : Int) (v3 : Int) (v4 : Int) : pleachref10_TakeNum_X1 n (m + 1) v1 v2 v3 v4 = pleachref10_TakeNum_B1 (pleachref10_TakeNum_X1 n m) v1 v2 v3 v4 := by kernel_rfl
theorem pleachref10_TakeNum_start (n : Nat) (b_0 : List Int) : evFn pleachref10_TakeNum_Γ tab pleachref10_TakeNum_fi n [.val t23] [⟨t2, [false], none⟩, ⟨t2, [false], none⟩, ⟨t4, [false], none⟩] Try.f22 (b_0, ()) = pleachref10_TakeNum_T (pleachref10_TakeNum_X1 n n) b_0 := by kernel_rfl
theorem pleachref10_TakeNum_XL1 (n : Nat) : ∀ m, pleachref10_TakeNum_X1 n m = pleachref10_TakeNum_L1 n m
 | 0 => rfl
 | m + 1 => by
  have ih := pleachref10_TakeNum_XL1 n m
  funext v1 v2 v3 v4
  rw [pleachref10_TakeNum_step1, ih]
  rfl
noncomputable def pleachref10_TakeNum_n (n : Nat) (b_0 : List Int) : Option ((Int × Int × Bool × Unit) × Unit) := pleachref10_TakeNum_T (pleachref10_TakeNum_L1 n n) b_0
noncomputable def pleachref10_TakeNum (b_0 : List Int) : Option ((Int × Int × Bool × Unit) × Unit) := pleachref10_TakeNum_n 1099511627776 b_0
theorem pleachref10_TakeNum_eq (n : Nat) (b_0 : List Int) : evFn pleachref10_TakeNum_Γ tab pleachref10_TakeNum_fi n [.val t23] [⟨t2, [false], none⟩, ⟨t2, [false], none⟩, ⟨t4, [false], none⟩] Try.f22 (b_0, ()) = pleachref10_TakeNum_n n b_0 := by
  rw [pleachref10_TakeNum_start, pleachref10_TakeNum_XL1 n n]
  rfl
noncomputable def pleachref10_TakeNum_e : Ent := ⟨[.val t23], [⟨t2, [false], none⟩, ⟨t2, [false], none⟩, ⟨t4, [false], none⟩], fun x => pleachref10_TakeNum x.1⟩
theorem pleachref10_TakeNum_good : Good tab.ty Try.prog 22 pleachref10_TakeNum_e := by
  refine fn_good (Γ := pleachref10_TakeNum_Γ) (fi := pleachref10_TakeNum_fi) (n := 1099511627776) follows gnil tabok Try.func22 (by kernel_rfl) (by kernel_rfl) (fun x r h => ?_)
  obtain ⟨b_0, _u⟩ := x
  exact (pleachref10_TakeNum_eq 1099511627776 b_0).trans h
noncomputable def pleachref10_TakeText_Γ : Ctx := [(22, pleachref10_TakeNum_e)]
def pleachref10_TakeText_fi : Fi := { keep := [], vty := [], vals := [], live := [(0, [0, 17, 18, 19, 20, 21, 22]), (1, [0, 5, 6, 7, 17, 18, 19, 20, 21, 22]), (2, [0, 5, 6, 23]), (3, [2, 3, 4]), (4, [2, 3, 4])] }
noncomputable def pleachref10_TakeText (b_0 : List Int) : Option ((ByteArray × Int × Bool × Unit) × Unit) :=
 Option.bind (pleachref10_TakeNum b_0) fun (r1 : (Int × Int × Bool × Unit) × Unit) =>
 bif !r1.1.2.2.1 then
  some (((⟨#[]⟩ : ByteArray), 0, false, ()), ())
 else
 bif decide (r1.1.1 > IntKind.wrap .i64 ((b_0.length : Int) - r1.1.2.1)) then
  some (((⟨#[]⟩ : ByteArray), 0, false, ()), ())
 else
 bif (decide (0 ≤ r1.1.2.1) && decide (r1.1.2.1 ≤ IntKind.wrap .i64 (r1.1.2.1 + r1.1.1))) && decide (IntKind.wrap .i64 (r1.1.2.1 + r1.1.1) ≤ (b_0.length : Int)) then
  some ((bytesOf (List.drop r1.1.2.1.toNat (List.take ((IntKind.wrap .i64 (r1.1.2.1 + r1.1.1)).toNat) b_0)), IntKind.wrap .i64 (r1.1.2.1 + r1.1.1), true, ()), ())
 else none
theorem pleachref10_TakeText_eq (b_0 : List Int) : evFn pleachref10_TakeText_Γ tab pleachref10_TakeText_fi 1 [.val t23] [⟨t9, [false], none⟩, ⟨t2, [false], none⟩, ⟨t4, [false], none⟩] Try.f24 (b_0, ()) = pleachref10_TakeText b_0 := by kernel_rfl
noncomputable def pleachref10_TakeText_e : Ent := ⟨[.val t23], [⟨t9, [false], none⟩, ⟨t2, [false], none⟩, ⟨t4, [false], none⟩], fun x => pleachref10_TakeText x.1⟩
theorem pleachref10_TakeText_good : Good tab.ty Try.prog 24 pleachref10_TakeText_e := by
  refine fn_good (Γ := pleachref10_TakeText_Γ) (fi := pleachref10_TakeText_fi) (n := 1) follows (gcons pleachref10_TakeNum_good gnil) tabok Try.func24 (by kernel_rfl) (by kernel_rfl) (fun x r h => ?_)
  obtain ⟨b_0, _u⟩ := x
  exact (pleachref10_TakeText_eq b_0).trans h
noncomputable def pleachlaw11_BitsAll_Γ : Ctx := [(16, pleachlaw11_begun_e), (17, bits_Put_e), (18, pleachref10_PutNum_e), (19, bits_PutText_e), (20, pleachref10_PutText_e), (21, bits_Take_e), (22, pleachref10_TakeNum_e), (23, bits_TakeText_e), (24, pleachref10_TakeText_e)]
def pleachlaw11_BitsAll_fi : Fi := { keep := [], vty := [], vals := [], live := [(0, [0, 1, 2, 3, 28, 29, 30, 33, 34, 35, 50, 51, 52, 53, 54, 55, 56, 57, 58, 88, 89, 90, 93, 94, 95, 98, 99, 100, 103, 104, 105, 108, 109, 110]), (1, [0, 1, 2, 3, 23, 28, 29, 30, 33, 34, 35, 50, 51, 52, 53, 54, 55, 56, 57, 58, 88, 89, 90, 93, 94, 95, 98, 99, 100, 103, 104, 105, 108, 109, 110]), (2, [8]), (3, [0, 1, 2, 3, 36, 50, 51, 52, 53, 54, 55, 56, 57, 58, 88, 89, 90, 93, 94, 95, 98, 99, 100, 103, 104, 105, 108, 109, 110]), (4, [8]), (5, [1, 2, 3, 9, 50, 51, 52, 53, 54, 55, 56, 57, 58, 88, 89, 90, 93, 94, 95, 98, 99, 100, 103, 104, 105, 108, 109, 110]), (6, [2, 59, 88, 89, 90, 93, 94, 95, 98, 99, 100, 103, 104, 105, 108, 109, 110]), (7, [8]), (8, [2, 10, 11, 12, 88, 89, 90, 93, 94, 95, 98, 99, 100, 103, 104, 105, 108, 109, 110]), (9, [2, 10, 11, 12, 13, 14, 15, 88, 89, 90, 93, 94, 95, 98, 99, 100, 103, 104, 105, 108, 109, 110]), (10, [2, 10, 11, 12, 13, 14, 15, 16, 17, 18, 88, 89, 90, 93, 94, 95, 98, 99, 100, 103, 104, 105, 108, 109, 110]), (11, [10, 11, 12, 13, 14, 15, 16, 17, 18, 19, 20, 21, 88, 89, 90, 93, 94, 95, 98, 99, 100, 103, 104, 105, 108, 109, 110]), (12, [8])] }
noncomputable def pleachlaw11_BitsAll (v_0 : Int) (s_1 : ByteArray) (b_2 : List Int) (front_3 : List Int) : Option ((Bool × Unit) × Unit) :=
 Option.bind (pleachlaw11_begun) fun (r1 : (Bool × Unit) × Unit) =>
 bif !r1.1.1 then
  some ((false, ()), ())
 else
 bif decide ((s_1.size : Int) > 200) then
  some ((true, ()), ())
 else
 bif decide ((b_2.length : Int) > 20) then
  some ((true, ()), ())
 else
 bif decide ((front_3.length : Int) > 5) then
  some ((true, ()), ())
 else
  Option.bind (bits_Put front_3 (Int.tmod (IntKind.wrap .i64 v_0) 1073741825)) fun (r2 : ((List Int) × Unit) × Unit) =>
  Option.bind (pleachref10_PutNum front_3 (Int.tmod (IntKind.wrap .i64 v_0) 1073741825)) fun (r3 : ((List Int) × Unit) × Unit) =>
  bif !(strEq (bytesOf r2.1.1) (bytesOf r3.1.1)) then
   some ((false, ()), ())
  else
   Option.bind (bits_PutText front_3 s_1) fun (r4 : ((List Int) × Unit) × Unit) =>
   Option.bind (pleachref10_PutText front_3 s_1) fun (r5 : ((List Int) × Unit) × Unit) =>
   bif !(strEq (bytesOf r4.1.1) (bytesOf r5.1.1)) then
    some ((false, ()), ())
   else
    Option.bind (bits_Take b_2) fun (r6 : (Int × Int × Bool × Unit) × Unit) =>
    Option.bind (pleachref10_TakeNum b_2) fun (r7 : (Int × Int × Bool × Unit) × Unit) =>
    Option.bind (bits_TakeText b_2) fun (r8 : (ByteArray × Int × Bool × Unit) × Unit) =>
    Option.bind (pleachref10_TakeText b_2) fun (r9 : (ByteArray × Int × Bool × Unit) × Unit) =>
    bif r6.1.1 == r7.1.1 then
     bif r6.1.2.1 == r7.1.2.1 then
      bif r6.1.2.2.1 == r7.1.2.2.1 then
       bif strEq r8.1.1 r9.1.1 then
        bif r8.1.2.1 == r9.1.2.1 then
         some ((r8.1.2.2.1 == r9.1.2.2.1, ()), ())
        else
         some ((false, ()), ())
       else
        some ((false, ()), ())
      else
       some ((false, ()), ())
     else
      some ((false, ()), ())
    else
     some ((false, ()), ())
theorem pleachlaw11_BitsAll_eq (v_0 : Int) (s_1 : ByteArray) (b_2 : List Int) (front_3 : List Int) : evFn pleachlaw11_BitsAll_Γ tab pleachlaw11_BitsAll_fi 1 [.val t22, .val t9, .val t23, .val t23] [⟨t4, [false], none⟩] Try.f3 (v_0, s_1, b_2, front_3, ()) = pleachlaw11_BitsAll v_0 s_1 b_2 front_3 := by kernel_rfl
noncomputable def pleachlaw11_BitsAll_e : Ent := ⟨[.val t22, .val t9, .val t23, .val t23], [⟨t4, [false], none⟩], fun x => pleachlaw11_BitsAll x.1 x.2.1 x.2.2.1 x.2.2.2.1⟩
theorem pleachlaw11_BitsAll_good : Good tab.ty Try.prog 3 pleachlaw11_BitsAll_e := by
  refine fn_good (Γ := pleachlaw11_BitsAll_Γ) (fi := pleachlaw11_BitsAll_fi) (n := 1) follows (gcons pleachlaw11_begun_good (gcons bits_Put_good (gcons pleachref10_PutNum_good (gcons bits_PutText_good (gcons pleachref10_PutText_good (gcons bits_Take_good (gcons pleachref10_TakeNum_good (gcons bits_TakeText_good (gcons pleachref10_TakeText_good gnil))))))))) tabok Try.func3 (by kernel_rfl) (by kernel_rfl) (fun x r h => ?_)
  obtain ⟨v_0, s_1, b_2, front_3, _u⟩ := x
  exact (pleachlaw11_BitsAll_eq v_0 s_1 b_2 front_3).trans h
end Go.PE
