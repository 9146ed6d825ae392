/-
  Functions of the program, each as the evaluator answers it, and its contract.
  Conditions: none.
-/
import Derived.Test.YtoidpccakojeaaaOpsAllT
set_option linter.unusedVariables false
set_option maxRecDepth 100000
namespace Go.PE
open Go.Proofs

noncomputable def slices_Clone_byte (s : List Int) : Option (((List Int) × Unit) × Unit) := bif Nat.ble s.length 1073741824 then some ((s, ()), ()) else none
theorem slices_Clone_byte_raw (s : List Int) : evFn [] tab (fiOf Try.f45 []) 1 [.val t23] [⟨t23, [true], none⟩] Try.f45 (s, ()) = bif !(List.isEmpty s) then bif Nat.ble (0 + s.length) 1073741824 then some (([] ++ s, ()), ()) else none
 else bothEq (some (([], ()), ())) (bif Nat.ble (0 + s.length) 1073741824 then some (([] ++ s, ()), ()) else none) := by kernel_rfl
theorem slices_Clone_byte_eq (s : List Int) : evFn [] tab (fiOf Try.f45 []) 1 [.val t23] [⟨t23, [true], none⟩] Try.f45 (s, ()) = slices_Clone_byte s := by
  rw [slices_Clone_byte_raw]
  cases s with
  | nil => exact bothEq_same _
  | cons x q => rw [Nat.zero_add]; rfl
noncomputable def slices_Clone_byte_e : Ent := ⟨[.val t23], [⟨t23, [true], none⟩], fun x => slices_Clone_byte x.1⟩
theorem slices_Clone_byte_good : Good tab.ty Try.prog 45 slices_Clone_byte_e := by
  refine fn_good (Γ := []) (fi := fiOf Try.f45 []) (n := 1) follows gnil tabok Try.func45 (by kernel_rfl) (by kernel_rfl) (fun x r h => ?_)
  obtain ⟨s, _u⟩ := x
  exact (slices_Clone_byte_eq s).trans h
noncomputable def bits_Put_Γ : Ctx := [(45, slices_Clone_byte_e)]
def bits_Put_fi : Fi := { keep := [], vty := [], vals := [], live := [(0, [0, 1]), (1, [0, 1]), (2, [0, 5]), (3, [0, 5, 11]), (4, [0, 5]), (5, [0, 5]), (6, [4])] }
noncomputable def bits_Put_B1 (L1 : Int → List Int → Option (((List Int) × Unit) × Unit)) (v2 : Int) (v3 : List Int) : Option (((List Int) × Unit) × Unit) :=
 bif decide (v2 ≥ 128) then
  bif Nat.ble (v3.length + 1) 1073741824 then
   L1 (Int.fdiv v2 (2 ^ 7)) (v3 ++ [IntKind.wrap .u8 ((BitVec.ofInt 8 (IntKind.wrap .u8 v2) ||| BitVec.ofInt 8 128).toNat)])
  else none
 else
 bif Nat.ble (v3.length + 1) 1073741824 then
  some ((v3 ++ [IntKind.wrap .u8 v2], ()), ())
 else none
noncomputable def bits_Put_T (L1 : Int → List Int → Option (((List Int) × Unit) × Unit)) (b_0 : List Int) (v_1 : Int) : Option (((List Int) × Unit) × Unit) :=
 Option.bind (slices_Clone_byte b_0) fun (r1 : ((List Int) × Unit) × Unit) =>
 L1 (IntKind.wrap .u64 v_1) r1.1.1
noncomputable def bits_Put_L1 (n : Nat) : Nat → Int → List Int → Option (((List Int) × Unit) × Unit) := iter (fun _ _ => none) fun L => bits_Put_B1 L
noncomputable def bits_Put_X1 (n m : Nat) (v2 : Int) (v3 : List Int) : Option (((List Int) × Unit) × Unit) :=
 atLoop bits_Put_Γ tab (fiB [.val t23, .val t2] bits_Put_fi) n [.val t23, .val t2] [⟨t23, [true], none⟩] Try.f17 [1, 1, 1, 0, 0] [] [0, 5] m
 ⟨[(0, SV.cv (CV.one (LV.ref (888888, 0)))), (5, SV.cv (CV.one (LV.pure t12 v2)))],
  [((888888, 0), Ob.row 5 t5 v3)]⟩
theorem bits_Put_step1 (n m : Nat) (v2 : Int) (v3 : List Int) : bits_Put_X1 n (m + 1) v2 v3 = bits_Put_B1 (bits_Put_X1 n m) v2 v3 := by kernel_rfl
theorem bits_Put_start (n : Nat) (b_0 : List Int) (v_1 : Int) : evFn bits_Put_Γ tab bits_Put_fi n [.val t23, .val t2] [⟨t23, [true], none⟩] Try.f17 (b_0, v_1, ()) = bits_Put_T (bits_Put_X1 n n) b_0 v_1 := by kernel_rfl
theorem bits_Put_XL1 (n : Nat) : ∀ m, bits_Put_X1 n m = bits_Put_L1 n m
 | 0 => rfl
 | m + 1 => by
  have ih := bits_Put_XL1 n m
  funext v2 v3
  rw [bits_Put_step1, ih]
  rfl
noncomputable def bits_Put_n (n : Nat) (b_0 : List Int) (v_1 : Int) : Option (((List Int) × Unit) × Unit) := bits_Put_T (bits_Put_L1 n n) b_0 v_1
noncomputable def bits_Put (b_0 : List Int) (v_1 : Int) : Option (((List Int) × Unit) × Unit) := bits_Put_n 1099511627776 b_0 v_1
theorem bits_Put_eq (n : Nat) (b_0 : List Int) (v_1 : Int) : evFn bits_Put_Γ tab bits_Put_fi n [.val t23, .val t2] [⟨t23, [true], none⟩] Try.f17 (b_0, v_1, ()) = bits_Put_n n b_0 v_1 := by
  rw [bits_Put_start, bits_Put_XL1 n n]
  rfl
noncomputable def bits_Put_e : Ent := ⟨[.val t23, .val t2], [⟨t23, [true], none⟩], fun x => bits_Put x.1 x.2.1⟩
theorem bits_Put_good : Good tab.ty Try.prog 17 bits_Put_e := by
  refine fn_good (Γ := bits_Put_Γ) (fi := bits_Put_fi) (n := 1099511627776) follows (gcons slices_Clone_byte_good gnil) tabok Try.func17 (by kernel_rfl) (by kernel_rfl) (fun x r h => ?_)
  obtain ⟨b_0, v_1, _u⟩ := x
  exact (bits_Put_eq 1099511627776 b_0 v_1).trans h
noncomputable def bits_PutText_Γ : Ctx := [(17, bits_Put_e)]
def bits_PutText_fi : Fi := { keep := [], vty := [], vals := [], live := [(0, [0, 1]), (1, [4])] }
noncomputable def bits_PutText (b_0 : List Int) (s_1 : ByteArray) : Option (((List Int) × Unit) × Unit) :=
 Option.bind (bits_Put b_0 (s_1.size : Int)) fun (r1 : ((List Int) × Unit) × Unit) =>
 bif Nat.ble (r1.1.1.length + (s_1.data.toList.map fun b => (b.toNat : Int)).length) 1073741824 then
  some ((r1.1.1 ++ (s_1.data.toList.map fun b => (b.toNat : Int)), ()), ())
 else none
theorem bits_PutText_eq (b_0 : List Int) (s_1 : ByteArray) : evFn bits_PutText_Γ tab bits_PutText_fi 1 [.val t23, .val t9] [⟨t23, [true], none⟩] Try.f19 (b_0, s_1, ()) = bits_PutText b_0 s_1 := by kernel_rfl
noncomputable def bits_PutText_e : Ent := ⟨[.val t23, .val t9], [⟨t23, [true], none⟩], fun x => bits_PutText x.1 x.2.1⟩
theorem bits_PutText_good : Good tab.ty Try.prog 19 bits_PutText_e := by
  refine fn_good (Γ := bits_PutText_Γ) (fi := bits_PutText_fi) (n := 1) follows (gcons bits_Put_good gnil) tabok Try.func19 (by kernel_rfl) (by kernel_rfl) (fun x r h => ?_)
  obtain ⟨b_0, s_1, _u⟩ := x
  exact (bits_PutText_eq b_0 s_1).trans h
noncomputable def ops_put_Γ : Ctx := [(17, bits_Put_e), (19, bits_PutText_e)]
def ops_put_fi : Fi := { keep := [], vty := [], vals := [], live := [(0, [1]), (1, [1, 3]), (2, [1, 3, 9]), (3, [1, 3, 9, 10]), (4, [2]), (5, [1, 3, 9, 20]), (6, [1, 3, 9, 20]), (7, [1, 3, 9, 20]), (8, [2]), (9, [1, 3, 9, 29]), (10, [2]), (11, [1, 3, 35]), (12, [2]), (13, [2])] }
noncomputable def ops_put (s_0 : Int × Int × Int × Int × ByteArray) : Option (((List Int) × Unit) × Unit) :=
 bif s_0.1 == 1 then
  Option.bind (bits_Put [IntKind.wrap .u8 s_0.1] (if 0 > s_0.2.1 then 0 else s_0.2.1)) fun (r1 : ((List Int) × Unit) × Unit) =>
  Option.bind (bits_PutText r1.1.1 s_0.2.2.2.2) fun (r2 : ((List Int) × Unit) × Unit) =>
  some ((r2.1.1, ()), ())
 else
 bif s_0.1 == 2 then
  bif s_0.1 == 2 then
   Option.bind (bits_Put [IntKind.wrap .u8 s_0.1] (if 0 > s_0.2.1 then 0 else s_0.2.1)) fun (r3 : ((List Int) × Unit) × Unit) =>
   some ((r3.1.1, ()), ())
  else
  bif s_0.1 == 4 then
   Option.bind (bits_PutText [IntKind.wrap .u8 s_0.1] s_0.2.2.2.2) fun (r4 : ((List Int) × Unit) × Unit) =>
   some ((r4.1.1, ()), ())
  else
  bif s_0.1 == 9 then
   Option.bind (bits_Put [IntKind.wrap .u8 s_0.1] (if 0 > s_0.2.2.1 then 0 else s_0.2.2.1)) fun (r5 : ((List Int) × Unit) × Unit) =>
   Option.bind (bits_Put r5.1.1 (if 0 > s_0.2.2.2.1 then 0 else s_0.2.2.2.1)) fun (r6 : ((List Int) × Unit) × Unit) =>
   some ((r6.1.1, ()), ())
  else
   Option.bind (bits_Put [IntKind.wrap .u8 s_0.1] (if 0 > s_0.2.2.1 then 0 else s_0.2.2.1)) fun (r7 : ((List Int) × Unit) × Unit) =>
   some ((r7.1.1, ()), ())
 else
 bif s_0.1 == 3 then
  bif s_0.1 == 3 then
   Option.bind (bits_Put [IntKind.wrap .u8 s_0.1] (if 0 > s_0.2.1 then 0 else s_0.2.1)) fun (r8 : ((List Int) × Unit) × Unit) =>
   some ((r8.1.1, ()), ())
  else
  bif s_0.1 == 4 then
   Option.bind (bits_PutText [IntKind.wrap .u8 s_0.1] s_0.2.2.2.2) fun (r9 : ((List Int) × Unit) × Unit) =>
   some ((r9.1.1, ()), ())
  else
  bif s_0.1 == 9 then
   Option.bind (bits_Put [IntKind.wrap .u8 s_0.1] (if 0 > s_0.2.2.1 then 0 else s_0.2.2.1)) fun (r10 : ((List Int) × Unit) × Unit) =>
   Option.bind (bits_Put r10.1.1 (if 0 > s_0.2.2.2.1 then 0 else s_0.2.2.2.1)) fun (r11 : ((List Int) × Unit) × Unit) =>
   some ((r11.1.1, ()), ())
  else
   Option.bind (bits_Put [IntKind.wrap .u8 s_0.1] (if 0 > s_0.2.2.1 then 0 else s_0.2.2.1)) fun (r12 : ((List Int) × Unit) × Unit) =>
   some ((r12.1.1, ()), ())
 else
 bif s_0.1 == 5 then
  Option.bind (bits_Put [IntKind.wrap .u8 s_0.1] (if 0 > s_0.2.1 then 0 else s_0.2.1)) fun (r13 : ((List Int) × Unit) × Unit) =>
  some ((r13.1.1, ()), ())
 else
 bif s_0.1 == 4 then
  Option.bind (bits_PutText [IntKind.wrap .u8 s_0.1] s_0.2.2.2.2) fun (r14 : ((List Int) × Unit) × Unit) =>
  some ((r14.1.1, ()), ())
 else
 bif s_0.1 == 9 then
  Option.bind (bits_Put [IntKind.wrap .u8 s_0.1] (if 0 > s_0.2.2.1 then 0 else s_0.2.2.1)) fun (r15 : ((List Int) × Unit) × Unit) =>
  Option.bind (bits_Put r15.1.1 (if 0 > s_0.2.2.2.1 then 0 else s_0.2.2.2.1)) fun (r16 : ((List Int) × Unit) × Unit) =>
  some ((r16.1.1, ()), ())
 else
  Option.bind (bits_Put [IntKind.wrap .u8 s_0.1] (if 0 > s_0.2.2.1 then 0 else s_0.2.2.1)) fun (r17 : ((List Int) × Unit) × Unit) =>
  some ((r17.1.1, ()), ())
theorem ops_put_eq (s_0 : Int × Int × Int × Int × ByteArray) : evFn ops_put_Γ tab ops_put_fi 1 [.val t36] [⟨t23, [true], none⟩] Try.f54 (s_0, ()) = ops_put s_0 := by kernel_rfl
noncomputable def ops_put_e : Ent := ⟨[.val t36], [⟨t23, [true], none⟩], fun x => ops_put x.1⟩
theorem ops_put_good : Good tab.ty Try.prog 54 ops_put_e := by
  refine fn_good (Γ := ops_put_Γ) (fi := ops_put_fi) (n := 1) follows (gcons bits_Put_good (gcons bits_PutText_good gnil)) tabok Try.func54 (by kernel_rfl) (by kernel_rfl) (fun x r h => ?_)
  obtain ⟨s_0, _u⟩ := x
  exact (ops_put_eq s_0).trans h
noncomputable def bits_take_Γ : Ctx := []
def bits_take_fi : Fi := { keep := [], vty := [], vals := [], live := [(0, [0, 2, 3, 11, 12, 33, 34, 37, 38]), (1, [0, 2, 3, 11, 12, 13, 33, 34, 37, 38]), (2, [0, 2, 3, 5, 11, 12, 33, 34, 37, 38]), (3, [0, 2, 3, 5, 11, 12, 33, 34, 37, 38]), (4, [0, 2, 3, 5, 11, 12, 33, 34, 37, 38]), (5, [0, 2, 3, 5, 11, 12, 29, 33, 34, 37, 38]), (6, [2, 3, 39]), (7, [2, 3, 4]), (8, [2, 3, 4])] }
noncomputable def bits_take_B1 (L1 : List Int → Int → Int → Option ((Int × Int × IV × Unit) × Unit)) (v1 : List Int) (v2 : Int) (v3 : Int) : Option ((Int × Int × IV × Unit) × Unit) :=
 bif decide (v3 < (v1.length : Int)) then
  bif decide (v3 < 5) then
   bif decide (0 ≤ v3) && decide (v3 < (v1.length : Int)) then
    bif decide (0 ≤ IntKind.wrap .i64 (7 * v3)) then
     bif decide (List.getD v1 v3.toNat 0 ≥ 128) then
      L1 v1 (IntKind.wrap .i64 ((BitVec.ofInt 64 v2 ||| BitVec.ofInt 64 (IntKind.wrap .i64 ((IntKind.wrap .i64 (IntKind.wrap .u8 ((BitVec.ofInt 8 (List.getD v1 v3.toNat 0) &&& BitVec.ofInt 8 127).toNat))) * 2 ^ (min ((IntKind.wrap .i64 (7 * v3)).toNat) 64)))).toNat)) (IntKind.wrap .i64 (v3 + 1))
     else
     bif decide (IntKind.wrap .i64 (v3 + 1) > 1) then
      bif (List.getD v1 v3.toNat 0) == 0 then
       some ((0, 0, IV.mk 78 [], ()), ())
      else
      bif decide (IntKind.wrap .i64 ((BitVec.ofInt 64 v2 ||| BitVec.ofInt 64 (IntKind.wrap .i64 ((IntKind.wrap .i64 (IntKind.wrap .u8 ((BitVec.ofInt 8 (List.getD v1 v3.toNat 0) &&& BitVec.ofInt 8 127).toNat))) * 2 ^ (min ((IntKind.wrap .i64 (7 * v3)).toNat) 64)))).toNat) > 1073741824) then
       some ((0, 0, IV.mk 78 [], ()), ())
      else
       some ((IntKind.wrap .i64 ((BitVec.ofInt 64 v2 ||| BitVec.ofInt 64 (IntKind.wrap .i64 ((IntKind.wrap .i64 (IntKind.wrap .u8 ((BitVec.ofInt 8 (List.getD v1 v3.toNat 0) &&& BitVec.ofInt 8 127).toNat))) * 2 ^ (min ((IntKind.wrap .i64 (7 * v3)).toNat) 64)))).toNat), IntKind.wrap .i64 (v3 + 1), IV.nil, ()), ())
     else
     bif decide (IntKind.wrap .i64 ((BitVec.ofInt 64 v2 ||| BitVec.ofInt 64 (IntKind.wrap .i64 ((IntKind.wrap .i64 (IntKind.wrap .u8 ((BitVec.ofInt 8 (List.getD v1 v3.toNat 0) &&& BitVec.ofInt 8 127).toNat))) * 2 ^ (min ((IntKind.wrap .i64 (7 * v3)).toNat) 64)))).toNat) > 1073741824) then
      some ((0, 0, IV.mk 78 [], ()), ())
     else
      some ((IntKind.wrap .i64 ((BitVec.ofInt 64 v2 ||| BitVec.ofInt 64 (IntKind.wrap .i64 ((IntKind.wrap .i64 (IntKind.wrap .u8 ((BitVec.ofInt 8 (List.getD v1 v3.toNat 0) &&& BitVec.ofInt 8 127).toNat))) * 2 ^ (min ((IntKind.wrap .i64 (7 * v3)).toNat) 64)))).toNat), IntKind.wrap .i64 (v3 + 1), IV.nil, ()), ())
    else none
   else none
  else
   some ((0, 0, IV.mk 78 [], ()), ())
 else
  some ((0, 0, IV.mk 78 [], ()), ())
noncomputable def bits_take_T (L1 : List Int → Int → Int → Option ((Int × Int × IV × Unit) × Unit)) (b_0 : List Int) : Option ((Int × Int × IV × Unit) × Unit) :=
 L1 b_0 0 0
noncomputable def bits_take_L1 (n : Nat) : Nat → List Int → Int → Int → Option ((Int × Int × IV × Unit) × Unit) := iter (fun _ _ _ => none) fun L => bits_take_B1 L
noncomputable def bits_take_X1 (n m : Nat) (v1 : List Int) (v2 : Int) (v3 : Int) : Option ((Int × Int × IV × Unit) × Unit) :=
 atLoop bits_take_Γ tab (fiB [.val t23] bits_take_fi) n [.val t23] [⟨t2, [false], none⟩, ⟨t2, [false], none⟩, ⟨t20, [false], none⟩] Try.f46 [1, 0, 0] [] [0, 2, 3] m
 ⟨[(0, SV.cv (CV.one (LV.pure t23 v1))), (2, SV.cv (CV.one (LV.pure t2 v2))), (3, SV.cv (CV.one (LV.pure t2 v3)))],
  []⟩
theorem bits_take_step1 (n m : Nat) (v1 : List Int) (v2 : Int) (v3 : Int) : bits_take_X1 n (m + 1) v1 v2 v3 = bits_take_B1 (bits_take_X1 n m) v1 v2 v3 := by kernel_rfl
theorem bits_take_start (n : Nat) (b_0 : List Int) : evFn bits_take_Γ tab bits_take_fi n [.val t23] [⟨t2, [false], none⟩, ⟨t2, [false], none⟩, ⟨t20, [false], none⟩] Try.f46 (b_0, ()) = bits_take_T (bits_take_X1 n n) b_0 := by kernel_rfl
theorem bits_take_XL1 (n : Nat) : ∀ m, bits_take_X1 n m = bits_take_L1 n m
 | 0 => rfl
 | m + 1 => by
  have ih := bits_take_XL1 n m
  funext v1 v2 v3
  rw [bits_take_step1, ih]
  rfl
noncomputable def bits_take_n (n : Nat) (b_0 : List Int) : Option ((Int × Int × IV × Unit) × Unit) := bits_take_T (bits_take_L1 n n) b_0
noncomputable def bits_take (b_0 : List Int) : Option ((Int × Int × IV × Unit) × Unit) := bits_take_n 1099511627776 b_0
theorem bits_take_eq (n : Nat) (b_0 : List Int) : evFn bits_take_Γ tab bits_take_fi n [.val t23] [⟨t2, [false], none⟩, ⟨t2, [false], none⟩, ⟨t20, [false], none⟩] Try.f46 (b_0, ()) = bits_take_n n b_0 := by
  rw [bits_take_start, bits_take_XL1 n n]
  rfl
noncomputable def bits_take_e : Ent := ⟨[.val t23], [⟨t2, [false], none⟩, ⟨t2, [false], none⟩, ⟨t20, [false], none⟩], fun x => bits_take x.1⟩
theorem bits_take_good : Good tab.ty Try.prog 46 bits_take_e := by
  refine fn_good (Γ := bits_take_Γ) (fi := bits_take_fi) (n := 1099511627776) follows gnil tabok Try.func46 (by kernel_rfl) (by kernel_rfl) (fun x r h => ?_)
  obtain ⟨b_0, _u⟩ := x
  exact (bits_take_eq 1099511627776 b_0).trans h
noncomputable def bits_Take_Γ : Ctx := [(46, bits_take_e)]
def bits_Take_fi : Fi := { keep := [], vty := [], vals := [], live := [(0, [0]), (1, [2, 3, 5]), (2, [2, 3, 7]), (3, [2, 3, 4])] }
noncomputable def bits_Take (b_0 : List Int) : Option ((Int × Int × Bool × Unit) × Unit) :=
 Option.bind (bits_take b_0) fun (r1 : (Int × Int × IV × Unit) × Unit) =>
 some ((r1.1.1, r1.1.2.1, !(IV.is r1.1.2.2.1 78), ()), ())
theorem bits_Take_eq (b_0 : List Int) : evFn bits_Take_Γ tab bits_Take_fi 1 [.val t23] [⟨t2, [false], none⟩, ⟨t2, [false], none⟩, ⟨t4, [false], none⟩] Try.f21 (b_0, ()) = bits_Take b_0 := by kernel_rfl
noncomputable def bits_Take_e : Ent := ⟨[.val t23], [⟨t2, [false], none⟩, ⟨t2, [false], none⟩, ⟨t4, [false], none⟩], fun x => bits_Take x.1⟩
theorem bits_Take_good : Good tab.ty Try.prog 21 bits_Take_e := by
  refine fn_good (Γ := bits_Take_Γ) (fi := bits_Take_fi) (n := 1) follows (gcons bits_take_good gnil) tabok Try.func21 (by kernel_rfl) (by kernel_rfl) (fun x r h => ?_)
  obtain ⟨b_0, _u⟩ := x
  exact (bits_Take_eq b_0).trans h
noncomputable def ops_reader_past_Γ : Ctx := []
def ops_reader_past_fi : Fi := { keep := [], vty := [], vals := [], live := [(0, [0, 2]), (1, [0, 16]), (2, [0])] }
noncomputable def ops_reader_past (r_0 : (List Int) × IV) (n_1 : Int) (ok_2 : Bool) : Option (Unit × (((List Int) × IV) × Unit)) :=
 bif (decide (0 ≤ n_1) && decide (n_1 ≤ (r_0.1.length : Int))) && decide ((r_0.1.length : Int) ≤ (r_0.1.length : Int)) then
  bif !ok_2 then
   some ((), ((List.drop n_1.toNat (List.take ((r_0.1.length : Int).toNat) r_0.1), IV.mk 91 []), ()))
  else
   some ((), ((List.drop n_1.toNat (List.take ((r_0.1.length : Int).toNat) r_0.1), r_0.2), ()))
 else none
theorem ops_reader_past_eq (r_0 : (List Int) × IV) (n_1 : Int) (ok_2 : Bool) : evFn ops_reader_past_Γ tab ops_reader_past_fi 1 [.box 89 t88 [false, false], .val t2, .val t4] [] Try.f88 (r_0, n_1, ok_2, ()) = ops_reader_past r_0 n_1 ok_2 := by kernel_rfl
noncomputable def ops_reader_past_e : Ent := ⟨[.box 89 t88 [false, false], .val t2, .val t4], [], fun x => ops_reader_past x.1 x.2.1 x.2.2.1⟩
theorem ops_reader_past_good : Good tab.ty Try.prog 88 ops_reader_past_e := by
  refine fn_good (Γ := ops_reader_past_Γ) (fi := ops_reader_past_fi) (n := 1) follows gnil tabok Try.func88 (by kernel_rfl) (by kernel_rfl) (fun x r h => ?_)
  obtain ⟨r_0, n_1, ok_2, _u⟩ := x
  exact (ops_reader_past_eq r_0 n_1 ok_2).trans h
noncomputable def ops_reader_num_Γ : Ctx := [(21, bits_Take_e), (88, ops_reader_past_e)]
def ops_reader_num_fi : Fi := { keep := [], vty := [], vals := [], live := [(0, [0]), (1, [0, 10]), (2, [0, 2]), (3, [0, 3, 4, 5]), (4, [0, 3]), (5, [0, 2])] }
noncomputable def ops_reader_num (r_0 : (List Int) × IV) : Option ((Int × Unit) × (((List Int) × IV) × Unit)) :=
 bif !(IV.isNil r_0.2) then
  some ((0, ()), (r_0, ()))
 else
  Option.bind (bits_Take r_0.1) fun (r1 : (Int × Int × Bool × Unit) × Unit) =>
  Option.bind (ops_reader_past r_0 r1.1.2.1 r1.1.2.2.1) fun (r2 : Unit × (((List Int) × IV) × Unit)) =>
  some ((r1.1.1, ()), (r2.2.1, ()))
theorem ops_reader_num_eq (r_0 : (List Int) × IV) : evFn ops_reader_num_Γ tab ops_reader_num_fi 1 [.box 89 t88 [false, false]] [⟨t2, [false], none⟩] Try.f71 (r_0, ()) = ops_reader_num r_0 := by kernel_rfl
noncomputable def ops_reader_num_e : Ent := ⟨[.box 89 t88 [false, false]], [⟨t2, [false], none⟩], fun x => ops_reader_num x.1⟩
theorem ops_reader_num_good : Good tab.ty Try.prog 71 ops_reader_num_e := by
  refine fn_good (Γ := ops_reader_num_Γ) (fi := ops_reader_num_fi) (n := 1) follows (gcons bits_Take_good (gcons ops_reader_past_good gnil)) tabok Try.func71 (by kernel_rfl) (by kernel_rfl) (fun x r h => ?_)
  obtain ⟨r_0, _u⟩ := x
  exact (ops_reader_num_eq r_0).trans h
noncomputable def bits_TakeText_Γ : Ctx := [(21, bits_Take_e)]
def bits_TakeText_fi : Fi := { keep := [], vty := [], vals := [], live := [(0, [0, 15, 16, 17, 18, 19, 20]), (1, [0, 3, 4, 5, 15, 16, 17, 18, 19, 20]), (2, [0, 3, 5, 21]), (3, [2, 3, 4]), (4, [2, 3, 4])] }
noncomputable def bits_TakeText (b_0 : List Int) : Option ((ByteArray × Int × Bool × Unit) × Unit) :=
 Option.bind (bits_Take b_0) fun (r1 : (Int × Int × Bool × Unit) × Unit) =>
 bif !r1.1.2.2.1 then
  some (((⟨#[]⟩ : ByteArray), 0, false, ()), ())
 else
 bif decide (r1.1.1 > IntKind.wrap .i64 ((b_0.length : Int) - r1.1.2.1)) then
  some (((⟨#[]⟩ : ByteArray), 0, false, ()), ())
 else
 bif (decide (0 ≤ r1.1.2.1) && decide (r1.1.2.1 ≤ IntKind.wrap .i64 (r1.1.2.1 + r1.1.1))) && decide (IntKind.wrap .i64 (r1.1.2.1 + r1.1.1) ≤ (b_0.length : Int)) then
  some ((bytesOf (List.drop r1.1.2.1.toNat (List.take ((IntKind.wrap .i64 (r1.1.2.1 + r1.1.1)).toNat) b_0)), IntKind.wrap .i64 (r1.1.2.1 + r1.1.1), true, ()), ())
 else none
theorem bits_TakeText_eq (b_0 : List Int) : evFn bits_TakeText_Γ tab bits_TakeText_fi 1 [.val t23] [⟨t9, [false], none⟩, ⟨t2, [false], none⟩, ⟨t4, [false], none⟩] Try.f23 (b_0, ()) = bits_TakeText b_0 := by kernel_rfl
noncomputable def bits_TakeText_e : Ent := ⟨[.val t23], [⟨t9, [false], none⟩, ⟨t2, [false], none⟩, ⟨t4, [false], none⟩], fun x => bits_TakeText x.1⟩
theorem bits_TakeText_good : Good tab.ty Try.prog 23 bits_TakeText_e := by
  refine fn_good (Γ := bits_TakeText_Γ) (fi := bits_TakeText_fi) (n := 1) follows (gcons bits_Take_good gnil) tabok Try.func23 (by kernel_rfl) (by kernel_rfl) (fun x r h => ?_)
  obtain ⟨b_0, _u⟩ := x
  exact (bits_TakeText_eq b_0).trans h
noncomputable def ops_reader_text_Γ : Ctx := [(23, bits_TakeText_e), (88, ops_reader_past_e)]
def ops_reader_text_fi : Fi := { keep := [], vty := [], vals := [], live := [(0, [0]), (1, [0, 10]), (2, [0, 2]), (3, [0, 3, 4, 5]), (4, [0, 3]), (5, [0, 2])] }
noncomputable def ops_reader_text (r_0 : (List Int) × IV) : Option ((ByteArray × Unit) × (((List Int) × IV) × Unit)) :=
 bif !(IV.isNil r_0.2) then
  some (((⟨#[]⟩ : ByteArray), ()), (r_0, ()))
 else
  Option.bind (bits_TakeText r_0.1) fun (r1 : (ByteArray × Int × Bool × Unit) × Unit) =>
  Option.bind (ops_reader_past r_0 r1.1.2.1 r1.1.2.2.1) fun (r2 : Unit × (((List Int) × IV) × Unit)) =>
  some ((r1.1.1, ()), (r2.2.1, ()))
theorem ops_reader_text_eq (r_0 : (List Int) × IV) : evFn ops_reader_text_Γ tab ops_reader_text_fi 1 [.box 89 t88 [false, false]] [⟨t9, [false], none⟩] Try.f72 (r_0, ()) = ops_reader_text r_0 := by kernel_rfl
noncomputable def ops_reader_text_e : Ent := ⟨[.box 89 t88 [false, false]], [⟨t9, [false], none⟩], fun x => ops_reader_text x.1⟩
theorem ops_reader_text_good : Good tab.ty Try.prog 72 ops_reader_text_e := by
  refine fn_good (Γ := ops_reader_text_Γ) (fi := ops_reader_text_fi) (n := 1) follows (gcons bits_TakeText_good (gcons ops_reader_past_good gnil)) tabok Try.func72 (by kernel_rfl) (by kernel_rfl) (fun x r h => ?_)
  obtain ⟨r_0, _u⟩ := x
  exact (ops_reader_text_eq r_0).trans h
noncomputable def ops_reader_step_Γ : Ctx := [(71, ops_reader_num_e), (72, ops_reader_text_e)]
def ops_reader_step_fi : Fi := { keep := [], vty := [], vals := [], live := [(0, [0, 1, 4]), (1, [0, 1, 4]), (2, [0, 4, 7]), (3, [0, 4]), (4, [0, 4, 7, 11]), (5, [0, 4]), (6, [0, 4, 7, 19]), (7, [0, 4, 7, 19]), (8, [0, 4, 7, 19]), (9, [0, 4]), (10, [0, 4, 7, 26]), (11, [0, 4]), (12, [0, 4, 31]), (13, [0, 4]), (14, [0, 4])] }
noncomputable def ops_reader_step (r_0 : (List Int) × IV) (kind_1 : Int) : Option (((Int × Int × Int × Int × ByteArray) × Unit) × (((List Int) × IV) × Unit)) :=
 bif kind_1 == 1 then
  Option.bind (ops_reader_num r_0) fun (r1 : (Int × Unit) × (((List Int) × IV) × Unit)) =>
  Option.bind (ops_reader_text r1.2.1) fun (r2 : (ByteArray × Unit) × (((List Int) × IV) × Unit)) =>
  some (((kind_1, r1.1.1, 0, 0, r2.1.1), ()), (r2.2.1, ()))
 else
 bif kind_1 == 2 then
  bif kind_1 == 2 then
   Option.bind (ops_reader_num r_0) fun (r3 : (Int × Unit) × (((List Int) × IV) × Unit)) =>
   some (((kind_1, r3.1.1, 0, 0, (⟨#[]⟩ : ByteArray)), ()), (r3.2.1, ()))
  else
  bif kind_1 == 4 then
   Option.bind (ops_reader_text r_0) fun (r4 : (ByteArray × Unit) × (((List Int) × IV) × Unit)) =>
   some (((kind_1, 0, 0, 0, r4.1.1), ()), (r4.2.1, ()))
  else
  bif kind_1 == 9 then
   Option.bind (ops_reader_num r_0) fun (r5 : (Int × Unit) × (((List Int) × IV) × Unit)) =>
   Option.bind (ops_reader_num r5.2.1) fun (r6 : (Int × Unit) × (((List Int) × IV) × Unit)) =>
   some (((kind_1, 0, r5.1.1, r6.1.1, (⟨#[]⟩ : ByteArray)), ()), (r6.2.1, ()))
  else
   Option.bind (ops_reader_num r_0) fun (r7 : (Int × Unit) × (((List Int) × IV) × Unit)) =>
   some (((kind_1, 0, r7.1.1, 0, (⟨#[]⟩ : ByteArray)), ()), (r7.2.1, ()))
 else
 bif kind_1 == 3 then
  bif kind_1 == 3 then
   Option.bind (ops_reader_num r_0) fun (r8 : (Int × Unit) × (((List Int) × IV) × Unit)) =>
   some (((kind_1, r8.1.1, 0, 0, (⟨#[]⟩ : ByteArray)), ()), (r8.2.1, ()))
  else
  bif kind_1 == 4 then
   Option.bind (ops_reader_text r_0) fun (r9 : (ByteArray × Unit) × (((List Int) × IV) × Unit)) =>
   some (((kind_1, 0, 0, 0, r9.1.1), ()), (r9.2.1, ()))
  else
  bif kind_1 == 9 then
   Option.bind (ops_reader_num r_0) fun (r10 : (Int × Unit) × (((List Int) × IV) × Unit)) =>
   Option.bind (ops_reader_num r10.2.1) fun (r11 : (Int × Unit) × (((List Int) × IV) × Unit)) =>
   some (((kind_1, 0, r10.1.1, r11.1.1, (⟨#[]⟩ : ByteArray)), ()), (r11.2.1, ()))
  else
   Option.bind (ops_reader_num r_0) fun (r12 : (Int × Unit) × (((List Int) × IV) × Unit)) =>
   some (((kind_1, 0, r12.1.1, 0, (⟨#[]⟩ : ByteArray)), ()), (r12.2.1, ()))
 else
 bif kind_1 == 5 then
  Option.bind (ops_reader_num r_0) fun (r13 : (Int × Unit) × (((List Int) × IV) × Unit)) =>
  some (((kind_1, r13.1.1, 0, 0, (⟨#[]⟩ : ByteArray)), ()), (r13.2.1, ()))
 else
 bif kind_1 == 4 then
  Option.bind (ops_reader_text r_0) fun (r14 : (ByteArray × Unit) × (((List Int) × IV) × Unit)) =>
  some (((kind_1, 0, 0, 0, r14.1.1), ()), (r14.2.1, ()))
 else
 bif kind_1 == 9 then
  Option.bind (ops_reader_num r_0) fun (r15 : (Int × Unit) × (((List Int) × IV) × Unit)) =>
  Option.bind (ops_reader_num r15.2.1) fun (r16 : (Int × Unit) × (((List Int) × IV) × Unit)) =>
  some (((kind_1, 0, r15.1.1, r16.1.1, (⟨#[]⟩ : ByteArray)), ()), (r16.2.1, ()))
 else
  Option.bind (ops_reader_num r_0) fun (r17 : (Int × Unit) × (((List Int) × IV) × Unit)) =>
  some (((kind_1, 0, r17.1.1, 0, (⟨#[]⟩ : ByteArray)), ()), (r17.2.1, ()))
theorem ops_reader_step_eq (r_0 : (List Int) × IV) (kind_1 : Int) : evFn ops_reader_step_Γ tab ops_reader_step_fi 1 [.box 89 t88 [false, false], .val t2] [⟨t36, [false, false, false, false, false], none⟩] Try.f51 (r_0, kind_1, ()) = ops_reader_step r_0 kind_1 := by kernel_rfl
noncomputable def ops_reader_step_e : Ent := ⟨[.box 89 t88 [false, false], .val t2], [⟨t36, [false, false, false, false, false], none⟩], fun x => ops_reader_step x.1 x.2.1⟩
theorem ops_reader_step_good : Good tab.ty Try.prog 51 ops_reader_step_e := by
  refine fn_good (Γ := ops_reader_step_Γ) (fi := ops_reader_step_fi) (n := 1) follows (gcons ops_reader_num_good (gcons ops_reader_text_good gnil)) tabok Try.func51 (by kernel_rfl) (by kernel_rfl) (fun x r h => ?_)
  obtain ⟨r_0, kind_1, _u⟩ := x
  exact (ops_reader_step_eq r_0 kind_1).trans h
noncomputable def ops_Take_Γ : Ctx := [(51, ops_reader_step_e)]
def ops_Take_fi : Fi := { keep := [], vty := [(2, 35)], vals := [], live := [(0, [0, 2]), (1, [2, 3]), (2, [2, 3, 16]), (3, [2, 3, 4]), (4, [2, 3, 4]), (5, [2, 3, 4, 34]), (6, [2, 3, 5]), (7, [2, 3, 5, 7]), (8, [2, 3, 5, 46]), (9, [2, 3]), (10, [2])] }
noncomputable def ops_Take_B1 (L1 : (List (Int × Int × Int × Int × ByteArray)) → List Int → IV → Option (((List (Int × Int × Int × Int × ByteArray)) × Unit) × Unit)) (v1 : List (Int × Int × Int × Int × ByteArray)) (v2 : List Int) (v3 : IV) : Option (((List (Int × Int × Int × Int × ByteArray)) × Unit) × Unit) :=
 bif decide ((v2.length : Int) > 0) then
  bif decide (0 < (v2.length : Int)) then
   bif decide (1 ≤ (v2.length : Int)) && decide ((v2.length : Int) ≤ (v2.length : Int)) then
    bif (Int.tmod (IntKind.wrap .i64 (List.getD v2 0 0)) 10) == 0 then
     L1 v1 (List.drop 1 (List.take ((v2.length : Int).toNat) v2)) v3
    else
     Option.bind (ops_reader_step (List.drop 1 (List.take ((v2.length : Int).toNat) v2), v3) (Int.tmod (IntKind.wrap .i64 (List.getD v2 0 0)) 10)) fun (r4 : ((Int × Int × Int × Int × ByteArray) × Unit) × (((List Int) × IV) × Unit)) =>
     bif IV.is r4.2.1.2 91 then
      some ((v1, ()), ())
     else
     bif Nat.ble (v1.length + 1) 1073741824 then
      L1 (v1 ++ [r4.1.1]) r4.2.1.1 r4.2.1.2
     else none
   else none
  else none
 else
  some ((v1, ()), ())
noncomputable def ops_Take_T (L1 : (List (Int × Int × Int × Int × ByteArray)) → List Int → IV → Option (((List (Int × Int × Int × Int × ByteArray)) × Unit) × Unit)) (b_0 : List Int) : Option (((List (Int × Int × Int × Int × ByteArray)) × Unit) × Unit) :=
 L1 [] b_0 IV.nil
noncomputable def ops_Take_L1 (n : Nat) : Nat → (List (Int × Int × Int × Int × ByteArray)) → List Int → IV → Option (((List (Int × Int × Int × Int × ByteArray)) × Unit) × Unit) := iter (fun _ _ _ => none) fun L => ops_Take_B1 L
noncomputable def ops_Take_X1 (n m : Nat) (v1 : List (Int × Int × Int × Int × ByteArray)) (v2 : List Int) (v3 : IV) : Option (((List (Int × Int × Int × Int × ByteArray)) × Unit) × Unit) :=
 atLoop ops_Take_Γ tab (fiB [.val t23] ops_Take_fi) n [.val t23] [⟨t35, [true], none⟩] Try.f30 [1, 1, 0, 0] [] [2, 3] m
 ⟨[(2, SV.cv (CV.one (LV.ref (888888, 2)))), (3, SV.cv (CV.one (LV.ptr (10, 0) 0)))],
  [((888888, 2), Ob.row 37 t36 v1), ((10, 0), Ob.box 89 [LV.pure t23 v2, LV.pure t20 v3])]⟩
theorem ops_Take_step1 (n m : Nat) (v1 : List (Int × Int × Int × Int × ByteArray)) (v2 : List Int) (v3 : IV) : ops_Take_X1 n (m + 1) v1 v2 v3 = ops_Take_B1 (ops_Take_X1 n m) v1 v2 v3 := by kernel_rfl
theorem ops_Take_start (n : Nat) (b_0 : List Int) : evFn ops_Take_Γ tab ops_Take_fi n [.val t23] [⟨t35, [true], none⟩] Try.f30 (b_0, ()) = ops_Take_T (ops_Take_X1 n n) b_0 := by kernel_rfl
theorem ops_Take_XL1 (n : Nat) : ∀ m, ops_Take_X1 n m = ops_Take_L1 n m
 | 0 => rfl
 | m + 1 => by
  have ih := ops_Take_XL1 n m
  funext v1 v2 v3
  rw [ops_Take_step1, ih]
  rfl
noncomputable def ops_Take_n (n : Nat) (b_0 : List Int) : Option (((List (Int × Int × Int × Int × ByteArray)) × Unit) × Unit) := ops_Take_T (ops_Take_L1 n n) b_0
noncomputable def ops_Take (b_0 : List Int) : Option (((List (Int × Int × Int × Int × ByteArray)) × Unit) × Unit) := ops_Take_n 1099511627776 b_0
theorem ops_Take_eq (n : Nat) (b_0 : List Int) : evFn ops_Take_Γ tab ops_Take_fi n [.val t23] [⟨t35, [true], none⟩] Try.f30 (b_0, ()) = ops_Take_n n b_0 := by
  rw [ops_Take_start, ops_Take_XL1 n n]
  rfl
noncomputable def ops_Take_e : Ent := ⟨[.val t23], [⟨t35, [true], none⟩], fun x => ops_Take x.1⟩
theorem ops_Take_good : Good tab.ty Try.prog 30 ops_Take_e := by
  refine fn_good (Γ := ops_Take_Γ) (fi := ops_Take_fi) (n := 1099511627776) follows (gcons ops_reader_step_good gnil) tabok Try.func30 (by kernel_rfl) (by kernel_rfl) (fun x r h => ?_)
  obtain ⟨b_0, _u⟩ := x
  exact (ops_Take_eq 1099511627776 b_0).trans h
noncomputable def ops_Put_Γ : Ctx := [(30, ops_Take_e), (54, ops_put_e)]
def ops_Put_fi : Fi := { keep := [], vty := [(2, 23)], vals := [], live := [(0, [0, 2, 21, 22, 23, 24, 25]), (1, [2, 7, 8, 9, 21, 22, 23, 24, 25]), (2, [2, 7, 8, 9, 10, 21, 22, 23, 24, 25]), (3, [2, 4, 7, 8, 9, 21, 22, 23, 24, 25]), (4, [2, 4, 5, 7, 8, 9, 21, 22, 23, 24, 25]), (5, [2, 4, 5, 6, 7, 8, 9, 21, 22, 23, 24, 25]), (6, [2, 5, 7, 8, 9, 21, 22, 23, 24, 25, 26]), (7, [2, 7, 8, 9, 21, 22, 23, 24, 25]), (8, [2, 7, 8, 9, 21, 22, 23, 24, 25]), (9, [2])] }
noncomputable def ops_Put_B1 (L1 : (List (Int × Int × Int × Int × ByteArray)) → Int → Int → List Int → Option (((List Int) × Unit) × Unit)) (v1 : List (Int × Int × Int × Int × ByteArray)) (v2 : Int) (v3 : Int) (v4 : List Int) : Option (((List Int) × Unit) × Unit) :=
 bif decide (v3 < v2) then
  bif decide (0 ≤ v3) && decide (v3 < (v1.length : Int)) then
   Option.bind (ops_put ((List.getD v1 v3.toNat (0, 0, 0, 0, (⟨#[]⟩ : ByteArray))).1, ((List.getD v1 v3.toNat (0, 0, 0, 0, (⟨#[]⟩ : ByteArray))).2).1, (((List.getD v1 v3.toNat (0, 0, 0, 0, (⟨#[]⟩ : ByteArray))).2).2).1, ((((List.getD v1 v3.toNat (0, 0, 0, 0, (⟨#[]⟩ : ByteArray))).2).2).2))) fun (r5 : ((List Int) × Unit) × Unit) =>
   Option.bind (ops_Take r5.1.1) fun (r6 : ((List (Int × Int × Int × Int × ByteArray)) × Unit) × Unit) =>
   bif (r6.1.1.length : Int) == 1 then
    bif decide (0 < (r6.1.1.length : Int)) then
     bif decide (0 < (r6.1.1.length : Int)) then
      bif (((List.getD r6.1.1 0 (0, 0, 0, 0, (⟨#[]⟩ : ByteArray))).1) == ((List.getD v1 v3.toNat (0, 0, 0, 0, (⟨#[]⟩ : ByteArray))).1)) && (((((List.getD r6.1.1 0 (0, 0, 0, 0, (⟨#[]⟩ : ByteArray))).2).1) == (((List.getD v1 v3.toNat (0, 0, 0, 0, (⟨#[]⟩ : ByteArray))).2).1)) && ((((((List.getD r6.1.1 0 (0, 0, 0, 0, (⟨#[]⟩ : ByteArray))).2).2).1) == ((((List.getD v1 v3.toNat (0, 0, 0, 0, (⟨#[]⟩ : ByteArray))).2).2).1)) && (((((((List.getD r6.1.1 0 (0, 0, 0, 0, (⟨#[]⟩ : ByteArray))).2).2).2).1) == (((((List.getD v1 v3.toNat (0, 0, 0, 0, (⟨#[]⟩ : ByteArray))).2).2).2).1)) && ((strEq (((((List.getD r6.1.1 0 (0, 0, 0, 0, (⟨#[]⟩ : ByteArray))).2).2).2).2) (((((List.getD v1 v3.toNat (0, 0, 0, 0, (⟨#[]⟩ : ByteArray))).2).2).2).2)) && true)))) then
       bif Nat.ble (v4.length + r5.1.1.length) 1073741824 then
        L1 v1 v2 (IntKind.wrap .i64 (v3 + 1)) (v4 ++ r5.1.1)
       else none
      else
       L1 v1 v2 (IntKind.wrap .i64 (v3 + 1)) v4
     else none
    else none
   else
    L1 v1 v2 (IntKind.wrap .i64 (v3 + 1)) v4
  else none
 else
  some ((v4, ()), ())
noncomputable def ops_Put_T (L1 : (List (Int × Int × Int × Int × ByteArray)) → Int → Int → List Int → Option (((List Int) × Unit) × Unit)) (l_0 : List (Int × Int × Int × Int × ByteArray)) : Option (((List Int) × Unit) × Unit) :=
 L1 l_0 (l_0.length : Int) 0 []
noncomputable def ops_Put_L1 (n : Nat) : Nat → (List (Int × Int × Int × Int × ByteArray)) → Int → Int → List Int → Option (((List Int) × Unit) × Unit) := iter (fun _ _ _ _ => none) fun L => ops_Put_B1 L
noncomputable def ops_Put_X1 (n m : Nat) (v1 : List (Int × Int × Int × Int × ByteArray)) (v2 : Int) (v3 : Int) (v4 : List Int) : Option (((List Int) × Unit) × Unit) :=
 atLoop ops_Put_Γ tab (fiB [.val t35] ops_Put_fi) n [.val t35] [⟨t23, [true], none⟩] Try.f32 [1, 0, 1, 0] [] [2, 7, 8, 9] m
 ⟨[(2, SV.cv (CV.one (LV.ref (888888, 2)))), (7, SV.cv (CV.one (LV.pure t35 v1))), (8, SV.cv (CV.one (LV.pure t2 v2))), (9, SV.cv (CV.one (LV.pure t2 v3)))],
  [((888888, 2), Ob.row 5 t5 v4)]⟩
theorem ops_Put_step1 (n m : Nat) (v1 : List (Int × Int × Int × Int × ByteArray)) (v2 : Int) (v3 : Int) (v4 : List Int) : ops_Put_X1 n (m + 1) v1 v2 v3 v4 = ops_Put_B1 (ops_Put_X1 n m) v1 v2 v3 v4 := by kernel_rfl
theorem ops_Put_start (n : Nat) (l_0 : List (Int × Int × Int × Int × ByteArray)) : evFn ops_Put_Γ tab ops_Put_fi n [.val t35] [⟨t23, [true], none⟩] Try.f32 (l_0, ()) = ops_Put_T (ops_Put_X1 n n) l_0 := by kernel_rfl
theorem ops_Put_XL1 (n : Nat) : ∀ m, ops_Put_X1 n m = ops_Put_L1 n m
 | 0 => rfl
 | m + 1 => by
  have ih := ops_Put_XL1 n m
  funext v1 v2 v3 v4
  rw [ops_Put_step1, ih]
  rfl
noncomputable def ops_Put_n (n : Nat) (l_0 : List (Int × Int × Int × Int × ByteArray)) : Option (((List Int) × Unit) × Unit) := ops_Put_T (ops_Put_L1 n n) l_0
noncomputable def ops_Put (l_0 : List (Int × Int × Int × Int × ByteArray)) : Option (((List Int) × Unit) × Unit) := ops_Put_n 1099511627776 l_0
theorem ops_Put_eq (n : Nat) (l_0 : List (Int × Int × Int × Int × ByteArray)) : evFn ops_Put_Γ tab ops_Put_fi n [.val t35] [⟨t23, [true], none⟩] Try.f32 (l_0, ()) = ops_Put_n n l_0 := by
  rw [ops_Put_start, ops_Put_XL1 n n]
  rfl
noncomputable def ops_Put_e : Ent := ⟨[.val t35], [⟨t23, [true], none⟩], fun x => ops_Put x.1⟩
theorem ops_Put_good : Good tab.ty Try.prog 32 ops_Put_e := by
  refine fn_good (Γ := ops_Put_Γ) (fi := ops_Put_fi) (n := 1099511627776) follows (gcons ops_Take_good (gcons ops_put_good gnil)) tabok Try.func32 (by kernel_rfl) (by kernel_rfl) (fun x r h => ?_)
  obtain ⟨l_0, _u⟩ := x
  exact (ops_Put_eq 1099511627776 l_0).trans h
noncomputable def pleachlaw25_begun_Γ : Ctx := [(30, ops_Take_e), (32, ops_Put_e)]
def pleachlaw25_begun_fi : Fi := { keep := [], vty := [], vals := [], live := [(0, [13, 14, 15, 18, 19, 20, 21, 22]), (1, [1, 13, 14, 15, 18, 19, 20, 21, 22]), (2, [1, 2, 13, 14, 15, 18, 19, 20, 21, 22]), (3, [0])] }
noncomputable def pleachlaw25_begun  : Option ((Bool × Unit) × Unit) :=
 Option.bind (ops_Put [(5, 1, 0, 0, (⟨#[]⟩ : ByteArray)), (1, 2, 0, 0, (⟨#[98]⟩ : ByteArray))]) fun (r1 : ((List Int) × Unit) × Unit) =>
 Option.bind (ops_Take r1.1.1) fun (r2 : ((List (Int × Int × Int × Int × ByteArray)) × Unit) × Unit) =>
 bif strEq (bytesOf r1.1.1) (⟨#[5, 1, 1, 2, 1, 98]⟩ : ByteArray) then
  bif (r2.1.1.length : Int) == 2 then
   bif decide (1 < (r2.1.1.length : Int)) then
    bif decide (1 < (r2.1.1.length : Int)) then
     some ((strEq (((((List.getD r2.1.1 1 (0, 0, 0, 0, (⟨#[]⟩ : ByteArray))).2).2).2).2) (⟨#[98]⟩ : ByteArray), ()), ())
    else none
   else none
  else
   some ((false, ()), ())
 else
  some ((false, ()), ())
theorem pleachlaw25_begun_eq  : evFn pleachlaw25_begun_Γ tab pleachlaw25_begun_fi 1 [] [⟨t4, [false], none⟩] Try.f25 () = pleachlaw25_begun  := by kernel_rfl
noncomputable def pleachlaw25_begun_e : Ent := ⟨[], [⟨t4, [false], none⟩], fun x => pleachlaw25_begun⟩
theorem pleachlaw25_begun_good : Good tab.ty Try.prog 25 pleachlaw25_begun_e := by
  refine fn_good (Γ := pleachlaw25_begun_Γ) (fi := pleachlaw25_begun_fi) (n := 1) follows (gcons ops_Take_good (gcons ops_Put_good gnil)) tabok Try.func25 (by kernel_rfl) (by kernel_rfl) (fun x r h => ?_)
  obtain _u := x
  exact (pleachlaw25_begun_eq ).trans h
noncomputable def pleachmade_Made_Γ : Ctx := []
def pleachmade_Made_fi : Fi := { keep := [], vty := [], vals := [], live := [(0, [0]), (1, [2])] }
noncomputable def pleachmade_Made (l_0 : List Int) : Option ((((List Int) × Int) × Unit) × Unit) :=
 some (((l_0, 0), ()), ())
theorem pleachmade_Made_eq (l_0 : List Int) : evFn pleachmade_Made_Γ tab pleachmade_Made_fi 1 [.val t23] [⟨t80, [false, false], some 81⟩] Try.f26 (l_0, ()) = pleachmade_Made l_0 := by kernel_rfl
noncomputable def pleachmade_Made_e : Ent := ⟨[.val t23], [⟨t80, [false, false], some 81⟩], fun x => pleachmade_Made x.1⟩
theorem pleachmade_Made_good : Good tab.ty Try.prog 26 pleachmade_Made_e := by
  refine fn_good (Γ := pleachmade_Made_Γ) (fi := pleachmade_Made_fi) (n := 1) follows gnil tabok Try.func26 (by kernel_rfl) (by kernel_rfl) (fun x r h => ?_)
  obtain ⟨l_0, _u⟩ := x
  exact (pleachmade_Made_eq l_0).trans h
noncomputable def pleachmade_Picks_Num_Γ : Ctx := []
def pleachmade_Picks_Num_fi : Fi := { keep := [], vty := [], vals := [], live := [(0, [0, 1, 16, 17]), (1, [0, 1, 18]), (2, [0, 4]), (3, [0, 1]), (4, [0, 4])] }
noncomputable def pleachmade_Picks_Num (p_0 : (List Int) × Int) (m_1 : Int) : Option ((Int × Unit) × (((List Int) × Int) × Unit)) :=
 bif decide (p_0.2 ≥ (p_0.1.length : Int)) then
  some ((0, ()), (p_0, ()))
 else
 bif decide (m_1 < 1) then
  some ((0, ()), (p_0, ()))
 else
 bif decide (0 ≤ IntKind.wrap .i64 ((IntKind.wrap .i64 (p_0.2 + 1)) - 1)) && decide (IntKind.wrap .i64 ((IntKind.wrap .i64 (p_0.2 + 1)) - 1) < (p_0.1.length : Int)) then
  bif !(m_1 == 0) then
   some ((Int.tmod (IntKind.wrap .i64 (List.getD p_0.1 ((IntKind.wrap .i64 ((IntKind.wrap .i64 (p_0.2 + 1)) - 1)).toNat) 0)) m_1, ()), ((p_0.1, IntKind.wrap .i64 (p_0.2 + 1)), ()))
  else none
 else none
theorem pleachmade_Picks_Num_eq (p_0 : (List Int) × Int) (m_1 : Int) : evFn pleachmade_Picks_Num_Γ tab pleachmade_Picks_Num_fi 1 [.box 81 t80 [false, false], .val t2] [⟨t2, [false], none⟩] Try.f49 (p_0, m_1, ()) = pleachmade_Picks_Num p_0 m_1 := by kernel_rfl
noncomputable def pleachmade_Picks_Num_e : Ent := ⟨[.box 81 t80 [false, false], .val t2], [⟨t2, [false], none⟩], fun x => pleachmade_Picks_Num x.1 x.2.1⟩
theorem pleachmade_Picks_Num_good : Good tab.ty Try.prog 49 pleachmade_Picks_Num_e := by
  refine fn_good (Γ := pleachmade_Picks_Num_Γ) (fi := pleachmade_Picks_Num_fi) (n := 1) follows gnil tabok Try.func49 (by kernel_rfl) (by kernel_rfl) (fun x r h => ?_)
  obtain ⟨p_0, m_1, _u⟩ := x
  exact (pleachmade_Picks_Num_eq p_0 m_1).trans h
noncomputable def pleachmade_Picks_Dist_Γ : Ctx := [(49, pleachmade_Picks_Num_e)]
def pleachmade_Picks_Dist_fi : Fi := { keep := [], vty := [], vals := [(3, 999)], live := [(0, [0]), (1, [0, 3]), (2, [0, 3, 4]), (3, [0, 3, 4, 9]), (4, [0, 3, 4]), (5, [0, 3, 4]), (6, [0, 3, 5]), (7, [0, 3, 5, 17]), (8, [0, 3, 5]), (9, [0, 3, 5, 6]), (10, [0, 3, 5, 6, 22]), (11, [0, 3, 5, 6]), (12, [0, 3, 5, 6, 7]), (13, [0, 3, 5, 6]), (14, [0, 2])], melt := [(14, 3)] }
noncomputable def pleachmade_Picks_Dist (p_0 : (List Int) × Int) : Option (((List (List Int)) × Unit) × (((List Int) × Int) × Unit)) :=
 Option.bind (pleachmade_Picks_Num p_0 9) fun (r1 : (Int × Unit) × (((List Int) × Int) × Unit)) =>
 bif decide (0 ≤ r1.1.1) && decide (r1.1.1 < 9) then
  bif decide (0 ≤ r1.1.1) && decide (r1.1.1 < 9) then
   Option.bind (pleachmade_Picks_Num r1.2.1 9) fun (r2 : (Int × Unit) × (((List Int) × Int) × Unit)) =>
   bif decide (0 ≤ r2.1.1) && decide (r2.1.1 < 9) then
    bif decide (0 ≤ r2.1.1) && decide (r2.1.1 < 9) then
     Option.bind (pleachmade_Picks_Num r2.2.1 9) fun (r3 : (Int × Unit) × (((List Int) × Int) × Unit)) =>
     bif decide (0 ≤ r3.1.1) && decide (r3.1.1 < 9) then
      bif decide (0 ≤ r3.1.1) && decide (r3.1.1 < 9) then
       Option.bind (pleachmade_Picks_Num r3.2.1 9) fun (r4 : (Int × Unit) × (((List Int) × Int) × Unit)) =>
       bif decide (0 ≤ r4.1.1) && decide (r4.1.1 < 9) then
        bif decide (0 ≤ r4.1.1) && decide (r4.1.1 < 9) then
         Option.bind (pleachmade_Picks_Num r4.2.1 9) fun (r5 : (Int × Unit) × (((List Int) × Int) × Unit)) =>
         bif decide (0 ≤ r5.1.1) && decide (r5.1.1 < 9) then
          bif decide (0 ≤ r5.1.1) && decide (r5.1.1 < 9) then
           Option.bind (pleachmade_Picks_Num r5.2.1 9) fun (r6 : (Int × Unit) × (((List Int) × Int) × Unit)) =>
           bif decide (0 ≤ r6.1.1) && decide (r6.1.1 < 9) then
            bif decide (0 ≤ r6.1.1) && decide (r6.1.1 < 9) then
            Option.bind (pleachmade_Picks_Num r6.2.1 9) fun (r7 : (Int × Unit) × (((List Int) × Int) × Unit)) =>
            bif decide (0 ≤ r7.1.1) && decide (r7.1.1 < 9) then
            bif decide (0 ≤ r7.1.1) && decide (r7.1.1 < 9) then
            Option.bind (pleachmade_Picks_Num r7.2.1 9) fun (r8 : (Int × Unit) × (((List Int) × Int) × Unit)) =>
            bif decide (0 ≤ r8.1.1) && decide (r8.1.1 < 9) then
            bif decide (0 ≤ r8.1.1) && decide (r8.1.1 < 9) then
            Option.bind (pleachmade_Picks_Num r8.2.1 9) fun (r9 : (Int × Unit) × (((List Int) × Int) × Unit)) =>
            bif decide (0 ≤ r9.1.1) && decide (r9.1.1 < 9) then
            bif decide (0 ≤ r9.1.1) && decide (r9.1.1 < 9) then
            Option.bind (pleachmade_Picks_Num r9.2.1 9) fun (r10 : (Int × Unit) × (((List Int) × Int) × Unit)) =>
            bif decide (0 ≤ r10.1.1) && decide (r10.1.1 < 9) then
            bif decide (0 ≤ r10.1.1) && decide (r10.1.1 < 9) then
            Option.bind (pleachmade_Picks_Num r10.2.1 9) fun (r11 : (Int × Unit) × (((List Int) × Int) × Unit)) =>
            bif decide (0 ≤ r11.1.1) && decide (r11.1.1 < 9) then
            bif decide (0 ≤ r11.1.1) && decide (r11.1.1 < 9) then
            Option.bind (pleachmade_Picks_Num r11.2.1 9) fun (r12 : (Int × Unit) × (((List Int) × Int) × Unit)) =>
            bif decide (0 ≤ r12.1.1) && decide (r12.1.1 < 9) then
            bif decide (0 ≤ r12.1.1) && decide (r12.1.1 < 9) then
            Option.bind (pleachmade_Picks_Num r12.2.1 9) fun (r13 : (Int × Unit) × (((List Int) × Int) × Unit)) =>
            bif decide (0 ≤ r13.1.1) && decide (r13.1.1 < 9) then
            bif decide (0 ≤ r13.1.1) && decide (r13.1.1 < 9) then
            Option.bind (pleachmade_Picks_Num r13.2.1 9) fun (r14 : (Int × Unit) × (((List Int) × Int) × Unit)) =>
            bif decide (0 ≤ r14.1.1) && decide (r14.1.1 < 9) then
            bif decide (0 ≤ r14.1.1) && decide (r14.1.1 < 9) then
            Option.bind (pleachmade_Picks_Num r14.2.1 9) fun (r15 : (Int × Unit) × (((List Int) × Int) × Unit)) =>
            bif decide (0 ≤ r15.1.1) && decide (r15.1.1 < 9) then
            bif decide (0 ≤ r15.1.1) && decide (r15.1.1 < 9) then
            Option.bind (pleachmade_Picks_Num r15.2.1 9) fun (r16 : (Int × Unit) × (((List Int) × Int) × Unit)) =>
            bif decide (0 ≤ r16.1.1) && decide (r16.1.1 < 9) then
            bif decide (0 ≤ r16.1.1) && decide (r16.1.1 < 9) then
            Option.bind (pleachmade_Picks_Num r16.2.1 9) fun (r17 : (Int × Unit) × (((List Int) × Int) × Unit)) =>
            bif decide (0 ≤ r17.1.1) && decide (r17.1.1 < 9) then
            bif decide (0 ≤ r17.1.1) && decide (r17.1.1 < 9) then
            Option.bind (pleachmade_Picks_Num r17.2.1 9) fun (r18 : (Int × Unit) × (((List Int) × Int) × Unit)) =>
            bif decide (0 ≤ r18.1.1) && decide (r18.1.1 < 9) then
            bif decide (0 ≤ r18.1.1) && decide (r18.1.1 < 9) then
            Option.bind (pleachmade_Picks_Num r18.2.1 9) fun (r19 : (Int × Unit) × (((List Int) × Int) × Unit)) =>
            bif decide (0 ≤ r19.1.1) && decide (r19.1.1 < 9) then
            bif decide (0 ≤ r19.1.1) && decide (r19.1.1 < 9) then
            Option.bind (pleachmade_Picks_Num r19.2.1 9) fun (r20 : (Int × Unit) × (((List Int) × Int) × Unit)) =>
            bif decide (0 ≤ r20.1.1) && decide (r20.1.1 < 9) then
            bif decide (0 ≤ r20.1.1) && decide (r20.1.1 < 9) then
            Option.bind (pleachmade_Picks_Num r20.2.1 9) fun (r21 : (Int × Unit) × (((List Int) × Int) × Unit)) =>
            bif decide (0 ≤ r21.1.1) && decide (r21.1.1 < 9) then
            bif decide (0 ≤ r21.1.1) && decide (r21.1.1 < 9) then
            Option.bind (pleachmade_Picks_Num r21.2.1 9) fun (r22 : (Int × Unit) × (((List Int) × Int) × Unit)) =>
            bif decide (0 ≤ r22.1.1) && decide (r22.1.1 < 9) then
            bif decide (0 ≤ r22.1.1) && decide (r22.1.1 < 9) then
            Option.bind (pleachmade_Picks_Num r22.2.1 9) fun (r23 : (Int × Unit) × (((List Int) × Int) × Unit)) =>
            bif decide (0 ≤ r23.1.1) && decide (r23.1.1 < 9) then
            bif decide (0 ≤ r23.1.1) && decide (r23.1.1 < 9) then
            Option.bind (pleachmade_Picks_Num r23.2.1 9) fun (r24 : (Int × Unit) × (((List Int) × Int) × Unit)) =>
            bif decide (0 ≤ r24.1.1) && decide (r24.1.1 < 9) then
            bif decide (0 ≤ r24.1.1) && decide (r24.1.1 < 9) then
            Option.bind (pleachmade_Picks_Num r24.2.1 9) fun (r25 : (Int × Unit) × (((List Int) × Int) × Unit)) =>
            bif decide (0 ≤ r25.1.1) && decide (r25.1.1 < 9) then
            bif decide (0 ≤ r25.1.1) && decide (r25.1.1 < 9) then
            Option.bind (pleachmade_Picks_Num r25.2.1 9) fun (r26 : (Int × Unit) × (((List Int) × Int) × Unit)) =>
            bif decide (0 ≤ r26.1.1) && decide (r26.1.1 < 9) then
            bif decide (0 ≤ r26.1.1) && decide (r26.1.1 < 9) then
            Option.bind (pleachmade_Picks_Num r26.2.1 9) fun (r27 : (Int × Unit) × (((List Int) × Int) × Unit)) =>
            bif decide (0 ≤ r27.1.1) && decide (r27.1.1 < 9) then
            bif decide (0 ≤ r27.1.1) && decide (r27.1.1 < 9) then
            Option.bind (pleachmade_Picks_Num r27.2.1 9) fun (r28 : (Int × Unit) × (((List Int) × Int) × Unit)) =>
            bif decide (0 ≤ r28.1.1) && decide (r28.1.1 < 9) then
            bif decide (0 ≤ r28.1.1) && decide (r28.1.1 < 9) then
            some (([[0, List.getD [1, 2, 3, 5, 9, 9, 20, 1000, 0] r1.1.1.toNat 0, List.getD [1, 2, 3, 5, 9, 9, 20, 1000, 0] r2.1.1.toNat 0, List.getD [1, 2, 3, 5, 9, 9, 20, 1000, 0] r4.1.1.toNat 0, List.getD [1, 2, 3, 5, 9, 9, 20, 1000, 0] r7.1.1.toNat 0, List.getD [1, 2, 3, 5, 9, 9, 20, 1000, 0] r11.1.1.toNat 0, List.getD [1, 2, 3, 5, 9, 9, 20, 1000, 0] r16.1.1.toNat 0, List.getD [1, 2, 3, 5, 9, 9, 20, 1000, 0] r22.1.1.toNat 0], [List.getD [1, 2, 3, 5, 9, 9, 20, 1000, 0] r1.1.1.toNat 0, 0, List.getD [1, 2, 3, 5, 9, 9, 20, 1000, 0] r3.1.1.toNat 0, List.getD [1, 2, 3, 5, 9, 9, 20, 1000, 0] r5.1.1.toNat 0, List.getD [1, 2, 3, 5, 9, 9, 20, 1000, 0] r8.1.1.toNat 0, List.getD [1, 2, 3, 5, 9, 9, 20, 1000, 0] r12.1.1.toNat 0, List.getD [1, 2, 3, 5, 9, 9, 20, 1000, 0] r17.1.1.toNat 0, List.getD [1, 2, 3, 5, 9, 9, 20, 1000, 0] r23.1.1.toNat 0], [List.getD [1, 2, 3, 5, 9, 9, 20, 1000, 0] r2.1.1.toNat 0, List.getD [1, 2, 3, 5, 9, 9, 20, 1000, 0] r3.1.1.toNat 0, 0, List.getD [1, 2, 3, 5, 9, 9, 20, 1000, 0] r6.1.1.toNat 0, List.getD [1, 2, 3, 5, 9, 9, 20, 1000, 0] r9.1.1.toNat 0, List.getD [1, 2, 3, 5, 9, 9, 20, 1000, 0] r13.1.1.toNat 0, List.getD [1, 2, 3, 5, 9, 9, 20, 1000, 0] r18.1.1.toNat 0, List.getD [1, 2, 3, 5, 9, 9, 20, 1000, 0] r24.1.1.toNat 0], [List.getD [1, 2, 3, 5, 9, 9, 20, 1000, 0] r4.1.1.toNat 0, List.getD [1, 2, 3, 5, 9, 9, 20, 1000, 0] r5.1.1.toNat 0, List.getD [1, 2, 3, 5, 9, 9, 20, 1000, 0] r6.1.1.toNat 0, 0, List.getD [1, 2, 3, 5, 9, 9, 20, 1000, 0] r10.1.1.toNat 0, List.getD [1, 2, 3, 5, 9, 9, 20, 1000, 0] r14.1.1.toNat 0, List.getD [1, 2, 3, 5, 9, 9, 20, 1000, 0] r19.1.1.toNat 0, List.getD [1, 2, 3, 5, 9, 9, 20, 1000, 0] r25.1.1.toNat 0], [List.getD [1, 2, 3, 5, 9, 9, 20, 1000, 0] r7.1.1.toNat 0, List.getD [1, 2, 3, 5, 9, 9, 20, 1000, 0] r8.1.1.toNat 0, List.getD [1, 2, 3, 5, 9, 9, 20, 1000, 0] r9.1.1.toNat 0, List.getD [1, 2, 3, 5, 9, 9, 20, 1000, 0] r10.1.1.toNat 0, 0, List.getD [1, 2, 3, 5, 9, 9, 20, 1000, 0] r15.1.1.toNat 0, List.getD [1, 2, 3, 5, 9, 9, 20, 1000, 0] r20.1.1.toNat 0, List.getD [1, 2, 3, 5, 9, 9, 20, 1000, 0] r26.1.1.toNat 0], [List.getD [1, 2, 3, 5, 9, 9, 20, 1000, 0] r11.1.1.toNat 0, List.getD [1, 2, 3, 5, 9, 9, 20, 1000, 0] r12.1.1.toNat 0, List.getD [1, 2, 3, 5, 9, 9, 20, 1000, 0] r13.1.1.toNat 0, List.getD [1, 2, 3, 5, 9, 9, 20, 1000, 0] r14.1.1.toNat 0, List.getD [1, 2, 3, 5, 9, 9, 20, 1000, 0] r15.1.1.toNat 0, 0, List.getD [1, 2, 3, 5, 9, 9, 20, 1000, 0] r21.1.1.toNat 0, List.getD [1, 2, 3, 5, 9, 9, 20, 1000, 0] r27.1.1.toNat 0], [List.getD [1, 2, 3, 5, 9, 9, 20, 1000, 0] r16.1.1.toNat 0, List.getD [1, 2, 3, 5, 9, 9, 20, 1000, 0] r17.1.1.toNat 0, List.getD [1, 2, 3, 5, 9, 9, 20, 1000, 0] r18.1.1.toNat 0, List.getD [1, 2, 3, 5, 9, 9, 20, 1000, 0] r19.1.1.toNat 0, List.getD [1, 2, 3, 5, 9, 9, 20, 1000, 0] r20.1.1.toNat 0, List.getD [1, 2, 3, 5, 9, 9, 20, 1000, 0] r21.1.1.toNat 0, 0, List.getD [1, 2, 3, 5, 9, 9, 20, 1000, 0] r28.1.1.toNat 0], [List.getD [1, 2, 3, 5, 9, 9, 20, 1000, 0] r22.1.1.toNat 0, List.getD [1, 2, 3, 5, 9, 9, 20, 1000, 0] r23.1.1.toNat 0, List.getD [1, 2, 3, 5, 9, 9, 20, 1000, 0] r24.1.1.toNat 0, List.getD [1, 2, 3, 5, 9, 9, 20, 1000, 0] r25.1.1.toNat 0, List.getD [1, 2, 3, 5, 9, 9, 20, 1000, 0] r26.1.1.toNat 0, List.getD [1, 2, 3, 5, 9, 9, 20, 1000, 0] r27.1.1.toNat 0, List.getD [1, 2, 3, 5, 9, 9, 20, 1000, 0] r28.1.1.toNat 0, 0]], ()), (r28.2.1, ()))
            else none
            else none
            else none
            else none
            else none
            else none
            else none
            else none
            else none
            else none
            else none
            else none
            else none
            else none
            else none
            else none
            else none
            else none
            else none
            else none
            else none
            else none
            else none
            else none
            else none
            else none
            else none
            else none
            else none
            else none
            else none
            else none
            else none
            else none
            else none
            else none
            else none
            else none
            else none
            else none
            else none
            else none
            else none
            else none
            else none
           else none
          else none
         else none
        else none
       else none
      else none
     else none
    else none
   else none
  else none
 else none
theorem pleachmade_Picks_Dist_eq (p_0 : (List Int) × Int) : evFn pleachmade_Picks_Dist_Γ tab pleachmade_Picks_Dist_fi 40 [.box 81 t80 [false, false]] [⟨t42, [true], none⟩] Try.f48 (p_0, ()) = pleachmade_Picks_Dist p_0 := by kernel_rfl
noncomputable def pleachmade_Picks_Dist_e : Ent := ⟨[.box 81 t80 [false, false]], [⟨t42, [true], none⟩], fun x => pleachmade_Picks_Dist x.1⟩
theorem pleachmade_Picks_Dist_good : Good tab.ty Try.prog 48 pleachmade_Picks_Dist_e := by
  refine fn_good (Γ := pleachmade_Picks_Dist_Γ) (fi := pleachmade_Picks_Dist_fi) (n := 40) follows (gcons pleachmade_Picks_Num_good gnil) tabok Try.func48 (by kernel_rfl) (by kernel_rfl) (fun x r h => ?_)
  obtain ⟨p_0, _u⟩ := x
  exact (pleachmade_Picks_Dist_eq p_0).trans h
noncomputable def pleachref1_MayDist_Γ : Ctx := []
def pleachref1_MayDist_fi : Fi := { keep := [], vty := [], vals := [], live := [(0, [0, 42, 43, 44, 45, 46, 47, 48, 49, 52, 53, 54, 55, 56, 57, 58, 59, 60, 61, 62, 63, 64, 65, 66, 69, 70, 71, 72, 73, 74, 75, 76, 77, 78, 79, 80, 81]), (1, [0, 8, 42, 43, 44, 45, 46, 47, 48, 49, 52, 53, 54, 55, 56, 57, 58, 59, 60, 61, 62, 63, 64, 65, 66, 69, 70, 71, 72, 73, 74, 75, 76, 77, 78, 79, 80, 81]), (2, [2]), (3, [0, 3, 42, 43, 44, 45, 46, 47, 48, 49, 52, 53, 54, 55, 56, 57, 58, 59, 60, 61, 62, 63, 64, 65, 66, 69, 70, 71, 72, 73, 74, 75, 76, 77, 78, 79, 80, 81]), (4, [0, 3, 12, 42, 43, 44, 45, 46, 47, 48, 49, 52, 53, 54, 55, 56, 57, 58, 59, 60, 61, 62, 63, 64, 65, 66, 69, 70, 71, 72, 73, 74, 75, 76, 77, 78, 79, 80, 81]), (5, [0, 3, 42, 43, 44, 45, 46, 47, 48, 49, 52, 53, 54, 55, 56, 57, 58, 59, 60, 61, 62, 63, 64, 65, 66, 69, 70, 71, 72, 73, 74, 75, 76, 77, 78, 79, 80, 81]), (6, [0, 3, 20, 42, 43, 44, 45, 46, 47, 48, 49, 52, 53, 54, 55, 56, 57, 58, 59, 60, 61, 62, 63, 64, 65, 66, 69, 70, 71, 72, 73, 74, 75, 76, 77, 78, 79, 80, 81]), (7, [2]), (8, [0, 4, 42, 43, 44, 45, 46, 47, 48, 49, 52, 53, 54, 55, 56, 57, 58, 59, 60, 61, 62, 63, 64, 65, 66, 69, 70, 71, 72, 73, 74, 75, 76, 77, 78, 79, 80, 81]), (9, [0, 4, 24, 42, 43, 44, 45, 46, 47, 48, 49, 52, 53, 54, 55, 56, 57, 58, 59, 60, 61, 62, 63, 64, 65, 66, 69, 70, 71, 72, 73, 74, 75, 76, 77, 78, 79, 80, 81]), (10, [0, 4, 42, 43, 44, 45, 46, 47, 48, 49, 52, 53, 54, 55, 56, 57, 58, 59, 60, 61, 62, 63, 64, 65, 66, 69, 70, 71, 72, 73, 74, 75, 76, 77, 78, 79, 80, 81]), (11, [0, 4, 5, 42, 43, 44, 45, 46, 47, 48, 49, 52, 53, 54, 55, 56, 57, 58, 59, 60, 61, 62, 63, 64, 65, 66, 69, 70, 71, 72, 73, 74, 75, 76, 77, 78, 79, 80, 81]), (12, [0, 4, 5, 30, 42, 43, 44, 45, 46, 47, 48, 49, 52, 53, 54, 55, 56, 57, 58, 59, 60, 61, 62, 63, 64, 65, 66, 69, 70, 71, 72, 73, 74, 75, 76, 77, 78, 79, 80, 81]), (13, [0, 4, 5, 42, 43, 44, 45, 46, 47, 48, 49, 52, 53, 54, 55, 56, 57, 58, 59, 60, 61, 62, 63, 64, 65, 66, 69, 70, 71, 72, 73, 74, 75, 76, 77, 78, 79, 80, 81]), (14, [0, 4, 5, 42, 43, 44, 45, 46, 47, 48, 49, 52, 53, 54, 55, 56, 57, 58, 59, 60, 61, 62, 63, 64, 65, 66, 69, 70, 71, 72, 73, 74, 75, 76, 77, 78, 79, 80, 81, 82]), (15, [2]), (16, [2])] }
noncomputable def pleachref1_MayDist_B1 (L1 : List (List Int) → Int → Option ((Bool × Unit) × Unit)) (L2 : List (List Int) → Int → Option ((Bool × Unit) × Unit)) (v1 : List (List Int)) (v2 : Int) : Option ((Bool × Unit) × Unit) :=
 bif decide (v2 < (v1.length : Int)) then
  bif decide (0 ≤ v2) && decide (v2 < (v1.length : Int)) then
   bif ((List.getD v1 v2.toNat []).length : Int) != 8 then
    some ((false, ()), ())
   else
    L1 v1 (IntKind.wrap .i64 (v2 + 1))
  else none
 else
  L2 v1 0
noncomputable def pleachref1_MayDist_B2 (L3 : List (List Int) → Int → Int → Option ((Bool × Unit) × Unit)) (v3 : List (List Int)) (v4 : Int) : Option ((Bool × Unit) × Unit) :=
 bif decide (v4 < (v3.length : Int)) then
  L3 v3 v4 0
 else
  some ((true, ()), ())
noncomputable def pleachref1_MayDist_B3 (L3 : List (List Int) → Int → Int → Option ((Bool × Unit) × Unit)) (L2 : List (List Int) → Int → Option ((Bool × Unit) × Unit)) (v5 : List (List Int)) (v6 : Int) (v7 : Int) : Option ((Bool × Unit) × Unit) :=
 bif decide (v7 < (v5.length : Int)) then
  bif decide (0 ≤ v6) && decide (v6 < (v5.length : Int)) then
   bif decide (0 ≤ v7) && decide (v7 < ((List.getD v5 v6.toNat []).length : Int)) then
    bif decide (List.getD (List.getD v5 v6.toNat []) v7.toNat 0 < 0) then
     some ((false, ()), ())
    else
    bif decide (0 ≤ v6) && decide (v6 < (v5.length : Int)) then
     bif decide (0 ≤ v7) && decide (v7 < ((List.getD v5 v6.toNat []).length : Int)) then
      bif decide (List.getD (List.getD v5 v6.toNat []) v7.toNat 0 > 1000) then
       some ((false, ()), ())
      else
      bif decide (0 ≤ v6) && decide (v6 < (v5.length : Int)) then
       bif decide (0 ≤ v7) && decide (v7 < ((List.getD v5 v6.toNat []).length : Int)) then
        bif decide (0 ≤ v7) && decide (v7 < (v5.length : Int)) then
         bif decide (0 ≤ v6) && decide (v6 < ((List.getD v5 v7.toNat []).length : Int)) then
          bif (List.getD (List.getD v5 v6.toNat []) v7.toNat 0) != (List.getD (List.getD v5 v7.toNat []) v6.toNat 0) then
           some ((false, ()), ())
          else
          bif v6 == v7 then
           bif decide (0 ≤ v6) && decide (v6 < (v5.length : Int)) then
            bif decide (0 ≤ v7) && decide (v7 < ((List.getD v5 v6.toNat []).length : Int)) then
            bif (List.getD (List.getD v5 v6.toNat []) v7.toNat 0) != 0 then
            some ((false, ()), ())
            else
            L3 v5 v6 (IntKind.wrap .i64 (v7 + 1))
            else none
           else none
          else
           L3 v5 v6 (IntKind.wrap .i64 (v7 + 1))
         else none
        else none
       else none
      else none
     else none
    else none
   else none
  else none
 else
  L2 v5 (IntKind.wrap .i64 (v6 + 1))
noncomputable def pleachref1_MayDist_T (L1 : List (List Int) → Int → Option ((Bool × Unit) × Unit)) (d_0 : List (List Int)) : Option ((Bool × Unit) × Unit) :=
 bif (d_0.length : Int) != 8 then
  some ((false, ()), ())
 else
  L1 d_0 0
noncomputable def pleachref1_MayDist_L3 (n : Nat) (m2 : Nat) (r2 : List (List Int) → Int → Option ((Bool × Unit) × Unit)) : Nat → List (List Int) → Int → Int → Option ((Bool × Unit) × Unit) := iter (fun _ _ _ => none) fun L => pleachref1_MayDist_B3 L r2
noncomputable def pleachref1_MayDist_L2 (n : Nat) : Nat → List (List Int) → Int → Option ((Bool × Unit) × Unit) := iterN (fun _ _ => none) fun m L => pleachref1_MayDist_B2 (pleachref1_MayDist_L3 n m L n)
noncomputable def pleachref1_MayDist_L1 (n : Nat) : Nat → List (List Int) → Int → Option ((Bool × Unit) × Unit) := iter (fun _ _ => none) fun L => pleachref1_MayDist_B1 L (pleachref1_MayDist_L2 n n)
noncomputable def pleachref1_MayDist_X1 (n m : Nat) (v1 : List (List Int)) (v2 : Int) : Option ((Bool × Unit) × Unit) :=
 atLoop pleachref1_MayDist_Γ tab (fiB [.val t42] pleachref1_MayDist_fi) n [.val t42] [⟨t4, [false], none⟩] Try.f81 [1, 1, 0, 1, 0] [] [0, 3] m
 ⟨[(0, SV.cv (CV.one (LV.pure t42 v1))), (3, SV.cv (CV.one (LV.pure t2 v2)))],
  []⟩
noncomputable def pleachref1_MayDist_X2 (n m : Nat) (v3 : List (List Int)) (v4 : Int) : Option ((Bool × Unit) × Unit) :=
 atLoop pleachref1_MayDist_Γ tab (fiB [.val t42] pleachref1_MayDist_fi) n [.val t42] [⟨t4, [false], none⟩] Try.f81 [1, 1, 1, 0, 1, 0] [] [0, 4] m
 ⟨[(0, SV.cv (CV.one (LV.pure t42 v3))), (4, SV.cv (CV.one (LV.pure t2 v4)))],
  []⟩
noncomputable def pleachref1_MayDist_X3 (n m2 m : Nat) (v5 : List (List Int)) (v6 : Int) (v7 : Int) : Option ((Bool × Unit) × Unit) :=
 atLoop pleachref1_MayDist_Γ tab (fiB [.val t42] pleachref1_MayDist_fi) n [.val t42] [⟨t4, [false], none⟩] Try.f81 [1, 1, 1, 0, 1, 0, 0, 1, 0, 0, 1, 0] [(m2, [0, 4])] [0, 4, 5] m
 ⟨[(0, SV.cv (CV.one (LV.pure t42 v5))), (4, SV.cv (CV.one (LV.pure t2 v6))), (5, SV.cv (CV.one (LV.pure t2 v7)))],
  []⟩
theorem pleachref1_MayDist_step1 (n m : Nat) (v1 : List (List Int)) (v2 : Int) : pleachref1_MayDist_X1 n (m + 1) v1 v2 = pleachref1_MayDist_B1 (pleachref1_MayDist_X1 n m) (pleachref1_MayDist_X2 n n) v1 v2 := by kernel_rfl
theorem pleachref1_MayDist_step2 (n m : Nat) (v3 : List (List Int)) (v4 : Int) : pleachref1_MayDist_X2 n (m + 1) v3 v4 = pleachref1_MayDist_B2 (pleachref1_MayDist_X3 n m n) v3 v4 := by kernel_rfl
theorem pleachref1_MayDist_step3 (n m2 m : Nat) (v5 : List (List Int)) (v6 : Int) (v7 : Int) : pleachref1_MayDist_X3 n m2 (m + 1) v5 v6 v7 = pleachref1_MayDist_B3 (pleachref1_MayDist_X3 n m2 m) (pleachref1_MayDist_X2 n m2) v5 v6 v7 := by kernel_rfl
theorem pleachref1_MayDist_start (n : Nat) (d_0 : List (List Int)) : evFn pleachref1_MayDist_Γ tab pleachref1_MayDist_fi n [.val t42] [⟨t4, [false], none⟩] Try.f81 (d_0, ()) = pleachref1_MayDist_T (pleachref1_MayDist_X1 n n) d_0 := by kernel_rfl
theorem pleachref1_MayDist_XL3 (n : Nat) (m2 : Nat) (r2 : List (List Int) → Int → Option ((Bool × Unit) × Unit)) (h2 : pleachref1_MayDist_X2 n m2 = r2) : ∀ m, pleachref1_MayDist_X3 n m2 m = pleachref1_MayDist_L3 n m2 r2 m
 | 0 => rfl
 | m + 1 => by
  have ih := pleachref1_MayDist_XL3 n m2 r2 h2 m
  funext v5 v6 v7
  rw [pleachref1_MayDist_step3, ih, h2]
  rfl
theorem pleachref1_MayDist_XL2 (n : Nat) : ∀ m, pleachref1_MayDist_X2 n m = pleachref1_MayDist_L2 n m
 | 0 => rfl
 | m + 1 => by
  have ih := pleachref1_MayDist_XL2 n m
  funext v3 v4
  rw [pleachref1_MayDist_step2, pleachref1_MayDist_XL3 n m _ ih n]
  rfl
theorem pleachref1_MayDist_XL1 (n : Nat) : ∀ m, pleachref1_MayDist_X1 n m = pleachref1_MayDist_L1 n m
 | 0 => rfl
 | m + 1 => by
  have ih := pleachref1_MayDist_XL1 n m
  funext v1 v2
  rw [pleachref1_MayDist_step1, pleachref1_MayDist_XL2 n n, ih]
  rfl
noncomputable def pleachref1_MayDist_n (n : Nat) (d_0 : List (List Int)) : Option ((Bool × Unit) × Unit) := pleachref1_MayDist_T (pleachref1_MayDist_L1 n n) d_0
noncomputable def pleachref1_MayDist (d_0 : List (List Int)) : Option ((Bool × Unit) × Unit) := pleachref1_MayDist_n 1099511627776 d_0
theorem pleachref1_MayDist_eq (n : Nat) (d_0 : List (List Int)) : evFn pleachref1_MayDist_Γ tab pleachref1_MayDist_fi n [.val t42] [⟨t4, [false], none⟩] Try.f81 (d_0, ()) = pleachref1_MayDist_n n d_0 := by
  rw [pleachref1_MayDist_start, pleachref1_MayDist_XL1 n n]
  rfl
noncomputable def pleachref1_MayDist_e : Ent := ⟨[.val t42], [⟨t4, [false], none⟩], fun x => pleachref1_MayDist x.1⟩
theorem pleachref1_MayDist_good : Good tab.ty Try.prog 81 pleachref1_MayDist_e := by
  refine fn_good (Γ := pleachref1_MayDist_Γ) (fi := pleachref1_MayDist_fi) (n := 1099511627776) follows gnil tabok Try.func81 (by kernel_rfl) (by kernel_rfl) (fun x r h => ?_)
  obtain ⟨d_0, _u⟩ := x
  exact (pleachref1_MayDist_eq 1099511627776 d_0).trans h
noncomputable def pleachref7_New_Γ : Ctx := [(81, pleachref1_MayDist_e)]
def pleachref7_New_fi : Fi := { keep := [], vty := [], vals := [], live := [(0, [0, 1, 4, 12, 13, 16, 17]), (1, [0, 1, 4, 18]), (2, [4, 5]), (3, [0, 4, 6]), (4, [0, 4, 6, 7]), (5, [0, 4, 6, 7, 25]), (6, [0, 4, 6, 7]), (7, [0, 4, 6, 7]), (8, [4, 5])] }
noncomputable def pleachref7_New_B1 (L1 : List (List Int) → Int → Int → List (List Int) → (List (List ((List Int) × Int))) → Int → List (List Int) → (List (List ((List Int) × Int))) → Option (((Int × (List (List Int)) × List (List ((List Int) × Int))) × Bool × Unit) × Unit)) (v2 : List (List Int)) (v3 : Int) (v4 : Int) (v5 : List (List Int)) (v6 : List (List ((List Int) × Int))) (v7 : Int) (v8 : List (List Int)) (v9 : List (List ((List Int) × Int))) : Option (((Int × (List (List Int)) × List (List ((List Int) × Int))) × Bool × Unit) × Unit) :=
 bif decide (v3 < (v2.length : Int)) then
  bif decide (0 ≤ v3) && decide (v3 < (v2.length : Int)) then
   bif Nat.ble (0 + (List.getD v2 v3.toNat []).length) 1073741824 then
    bif Nat.ble (v8.length + 1) 1073741824 then
     L1 v2 (IntKind.wrap .i64 (v3 + 1)) v4 v5 v6 v7 (v8 ++ [[] ++ (List.getD v2 v3.toNat [])]) v9
    else none
   else none
  else none
 else
  some (((v7, v8, v9), true, ()), ())
noncomputable def pleachref7_New_T (L1 : List (List Int) → Int → Int → List (List Int) → (List (List ((List Int) × Int))) → Int → List (List Int) → (List (List ((List Int) × Int))) → Option (((Int × (List (List Int)) × List (List ((List Int) × Int))) × Bool × Unit) × Unit)) (d_0 : List (List Int)) (k_1 : Int) : Option (((Int × (List (List Int)) × List (List ((List Int) × Int))) × Bool × Unit) × Unit) :=
 Option.bind (pleachref1_MayDist d_0) fun (r1 : (Bool × Unit) × Unit) =>
 bif !r1.1.1 then
  some (((0, [], []), false, ()), ())
 else
 bif decide (k_1 < 1) then
  some (((0, [], []), false, ()), ())
 else
 bif decide (k_1 > 3) then
  some (((0, [], []), false, ()), ())
 else
  L1 d_0 0 0 [] [] k_1 [] []
noncomputable def pleachref7_New_L1 (n : Nat) : Nat → List (List Int) → Int → Int → List (List Int) → (List (List ((List Int) × Int))) → Int → List (List Int) → (List (List ((List Int) × Int))) → Option (((Int × (List (List Int)) × List (List ((List Int) × Int))) × Bool × Unit) × Unit) := iter (fun _ _ _ _ _ _ _ _ => none) fun L => pleachref7_New_B1 L
noncomputable def pleachref7_New_X1 (n m : Nat) (v2 : List (List Int)) (v3 : Int) (v4 : Int) (v5 : List (List Int)) (v6 : List (List ((List Int) × Int))) (v7 : Int) (v8 : List (List Int)) (v9 : List (List ((List Int) × Int))) : Option (((Int × (List (List Int)) × List (List ((List Int) × Int))) × Bool × Unit) × Unit) :=
 atLoop pleachref7_New_Γ tab (fiB [.val t42, .val t2] pleachref7_New_fi) n [.val t42, .val t2] [⟨t44, [false, true, true], none⟩, ⟨t4, [false], none⟩] Try.f68 [1, 1, 1, 0, 1, 0] [] [0, 4, 6, 7] m
 ⟨[(0, SV.cv (CV.one (LV.pure t42 v2))), (4, SV.cv (CV.one (LV.ptr (4, 0) 0))), (6, SV.cv (CV.one (LV.ptr (6, 0) 0))), (7, SV.cv (CV.one (LV.pure t2 v3)))],
  [((4, 0), Ob.box 45 [LV.pure t2 v4, LV.ref (4, 2), LV.ref (4, 3)]), ((4, 2), Ob.row 33 t33 v5), ((4, 3), Ob.row 139 t139 v6), ((6, 0), Ob.box 45 [LV.pure t2 v7, LV.ref (6, 2), LV.ref (6, 3)]), ((6, 2), Ob.row 33 t33 v8), ((6, 3), Ob.row 139 t139 v9)]⟩
theorem pleachref7_New_step1 (n m : Nat) (v2 : List (List Int)) (v3 : Int) (v4 : Int) (v5 : List (List Int)) (v6 : List (List ((List Int) × Int))) (v7 : Int) (v8 : List (List Int)) (v9 : List (List ((List Int) × Int))) : pleachref7_New_X1 n (m + 1) v2 v3 v4 v5 v6 v7 v8 v9 = pleachref7_New_B1 (pleachref7_New_X1 n m) v2 v3 v4 v5 v6 v7 v8 v9 := by kernel_rfl
theorem pleachref7_New_start (n : Nat) (d_0 : List (List Int)) (k_1 : Int) : evFn pleachref7_New_Γ tab pleachref7_New_fi n [.val t42, .val t2] [⟨t44, [false, true, true], none⟩, ⟨t4, [false], none⟩] Try.f68 (d_0, k_1, ()) = pleachref7_New_T (pleachref7_New_X1 n n) d_0 k_1 := by kernel_rfl
theorem pleachref7_New_XL1 (n : Nat) : ∀ m, pleachref7_New_X1 n m = pleachref7_New_L1 n m
 | 0 => rfl
 | m + 1 => by
  have ih := pleachref7_New_XL1 n m
  funext v2 v3 v4 v5 v6 v7 v8 v9
  rw [pleachref7_New_step1, ih]
  rfl
noncomputable def pleachref7_New_n (n : Nat) (d_0 : List (List Int)) (k_1 : Int) : Option (((Int × (List (List Int)) × List (List ((List Int) × Int))) × Bool × Unit) × Unit) := pleachref7_New_T (pleachref7_New_L1 n n) d_0 k_1
noncomputable def pleachref7_New (d_0 : List (List Int)) (k_1 : Int) : Option (((Int × (List (List Int)) × List (List ((List Int) × Int))) × Bool × Unit) × Unit) := pleachref7_New_n 1099511627776 d_0 k_1
theorem pleachref7_New_eq (n : Nat) (d_0 : List (List Int)) (k_1 : Int) : evFn pleachref7_New_Γ tab pleachref7_New_fi n [.val t42, .val t2] [⟨t44, [false, true, true], none⟩, ⟨t4, [false], none⟩] Try.f68 (d_0, k_1, ()) = pleachref7_New_n n d_0 k_1 := by
  rw [pleachref7_New_start, pleachref7_New_XL1 n n]
  rfl
noncomputable def pleachref7_New_e : Ent := ⟨[.val t42, .val t2], [⟨t44, [false, true, true], none⟩, ⟨t4, [false], none⟩], fun x => pleachref7_New x.1 x.2.1⟩
theorem pleachref7_New_good : Good tab.ty Try.prog 68 pleachref7_New_e := by
  refine fn_good (Γ := pleachref7_New_Γ) (fi := pleachref7_New_fi) (n := 1099511627776) follows (gcons pleachref1_MayDist_good gnil) tabok Try.func68 (by kernel_rfl) (by kernel_rfl) (fun x r h => ?_)
  obtain ⟨d_0, k_1, _u⟩ := x
  exact (pleachref7_New_eq 1099511627776 d_0 k_1).trans h
noncomputable def pleachref1_Has_Γ : Ctx := []
def pleachref1_Has_fi : Fi := { keep := [], vty := [], vals := [], live := [(0, [0, 1]), (1, [0, 1, 5]), (2, [0, 1, 5, 9]), (3, [0, 1, 5]), (4, [0, 1, 5, 17]), (5, [4]), (6, [4])] }
noncomputable def pleachref1_Has_B1 (L1 : List Int → Int → Int → Option ((Bool × Unit) × Unit)) (v1 : List Int) (v2 : Int) (v3 : Int) : Option ((Bool × Unit) × Unit) :=
 bif decide (v3 < (v1.length : Int)) then
  bif decide (0 ≤ v3) && decide (v3 < (v1.length : Int)) then
   bif (List.getD v1 v3.toNat 0) == v2 then
    some ((true, ()), ())
   else
    L1 v1 v2 (IntKind.wrap .i64 (v3 + 1))
  else none
 else
  some ((false, ()), ())
noncomputable def pleachref1_Has_T (L1 : List Int → Int → Int → Option ((Bool × Unit) × Unit)) (p_0 : List Int) (id_1 : Int) : Option ((Bool × Unit) × Unit) :=
 L1 p_0 id_1 0
noncomputable def pleachref1_Has_L1 (n : Nat) : Nat → List Int → Int → Int → Option ((Bool × Unit) × Unit) := iter (fun _ _ _ => none) fun L => pleachref1_Has_B1 L
noncomputable def pleachref1_Has_X1 (n m : Nat) (v1 : List Int) (v2 : Int) (v3 : Int) : Option ((Bool × Unit) × Unit) :=
 atLoop pleachref1_Has_Γ tab (fiB [.val t33, .val t2] pleachref1_Has_fi) n [.val t33, .val t2] [⟨t4, [false], none⟩] Try.f78 [1, 0, 1, 0] [] [0, 1, 5] m
 ⟨[(0, SV.cv (CV.one (LV.pure t33 v1))), (1, SV.cv (CV.one (LV.pure t2 v2))), (5, SV.cv (CV.one (LV.pure t2 v3)))],
  []⟩
theorem pleachref1_Has_step1 (n m : Nat) (v1 : List Int) (v2 : Int) (v3 : Int) : pleachref1_Has_X1 n (m + 1) v1 v2 v3 = pleachref1_Has_B1 (pleachref1_Has_X1 n m) v1 v2 v3 := by kernel_rfl
theorem pleachref1_Has_start (n : Nat) (p_0 : List Int) (id_1 : Int) : evFn pleachref1_Has_Γ tab pleachref1_Has_fi n [.val t33, .val t2] [⟨t4, [false], none⟩] Try.f78 (p_0, id_1, ()) = pleachref1_Has_T (pleachref1_Has_X1 n n) p_0 id_1 := by kernel_rfl
theorem pleachref1_Has_XL1 (n : Nat) : ∀ m, pleachref1_Has_X1 n m = pleachref1_Has_L1 n m
 | 0 => rfl
 | m + 1 => by
  have ih := pleachref1_Has_XL1 n m
  funext v1 v2 v3
  rw [pleachref1_Has_step1, ih]
  rfl
noncomputable def pleachref1_Has_n (n : Nat) (p_0 : List Int) (id_1 : Int) : Option ((Bool × Unit) × Unit) := pleachref1_Has_T (pleachref1_Has_L1 n n) p_0 id_1
noncomputable def pleachref1_Has (p_0 : List Int) (id_1 : Int) : Option ((Bool × Unit) × Unit) := pleachref1_Has_n 1099511627776 p_0 id_1
theorem pleachref1_Has_eq (n : Nat) (p_0 : List Int) (id_1 : Int) : evFn pleachref1_Has_Γ tab pleachref1_Has_fi n [.val t33, .val t2] [⟨t4, [false], none⟩] Try.f78 (p_0, id_1, ()) = pleachref1_Has_n n p_0 id_1 := by
  rw [pleachref1_Has_start, pleachref1_Has_XL1 n n]
  rfl
noncomputable def pleachref1_Has_e : Ent := ⟨[.val t33, .val t2], [⟨t4, [false], none⟩], fun x => pleachref1_Has x.1 x.2.1⟩
theorem pleachref1_Has_good : Good tab.ty Try.prog 78 pleachref1_Has_e := by
  refine fn_good (Γ := pleachref1_Has_Γ) (fi := pleachref1_Has_fi) (n := 1099511627776) follows gnil tabok Try.func78 (by kernel_rfl) (by kernel_rfl) (fun x r h => ?_)
  obtain ⟨p_0, id_1, _u⟩ := x
  exact (pleachref1_Has_eq 1099511627776 p_0 id_1).trans h
noncomputable def pleachref7_Home_Γ : Ctx := [(78, pleachref1_Has_e)]
def pleachref7_Home_fi : Fi := { keep := [], vty := [], vals := [], live := [(0, [0, 1]), (1, [0, 1, 5]), (2, [0, 1, 5, 9]), (3, [0, 1, 5]), (4, [0, 1, 5, 18]), (5, [4]), (6, [4])] }
noncomputable def pleachref7_Home_B1 (L1 : (List ((List Int) × Int)) → Int → Int → Option ((Int × Unit) × Unit)) (v1 : List ((List Int) × Int)) (v2 : Int) (v3 : Int) : Option ((Int × Unit) × Unit) :=
 bif decide (v3 < (v1.length : Int)) then
  bif decide (0 ≤ v3) && decide (v3 < (v1.length : Int)) then
   Option.bind (pleachref1_Has ((List.getD v1 v3.toNat ([], 0)).1) v2) fun (r4 : (Bool × Unit) × Unit) =>
   bif r4.1.1 then
    some ((v3, ()), ())
   else
    L1 v1 v2 (IntKind.wrap .i64 (v3 + 1))
  else none
 else
  some (((-1), ()), ())
noncomputable def pleachref7_Home_T (L1 : (List ((List Int) × Int)) → Int → Int → Option ((Int × Unit) × Unit)) (cs_0 : List ((List Int) × Int)) (id_1 : Int) : Option ((Int × Unit) × Unit) :=
 L1 cs_0 id_1 0
noncomputable def pleachref7_Home_L1 (n : Nat) : Nat → (List ((List Int) × Int)) → Int → Int → Option ((Int × Unit) × Unit) := iter (fun _ _ _ => none) fun L => pleachref7_Home_B1 L
noncomputable def pleachref7_Home_X1 (n m : Nat) (v1 : List ((List Int) × Int)) (v2 : Int) (v3 : Int) : Option ((Int × Unit) × Unit) :=
 atLoop pleachref7_Home_Γ tab (fiB [.val t139, .val t2] pleachref7_Home_fi) n [.val t139, .val t2] [⟨t2, [false], none⟩] Try.f82 [1, 0, 1, 0] [] [0, 1, 5] m
 ⟨[(0, SV.cv (CV.one (LV.pure t139 v1))), (1, SV.cv (CV.one (LV.pure t2 v2))), (5, SV.cv (CV.one (LV.pure t2 v3)))],
  []⟩
theorem pleachref7_Home_step1 (n m : Nat) (v1 : List ((List Int) × Int)) (v2 : Int) (v3 : Int) : pleachref7_Home_X1 n (m + 1) v1 v2 v3 = pleachref7_Home_B1 (pleachref7_Home_X1 n m) v1 v2 v3 := by kernel_rfl
theorem pleachref7_Home_start (n : Nat) (cs_0 : List ((List Int) × Int)) (id_1 : Int) : evFn pleachref7_Home_Γ tab pleachref7_Home_fi n [.val t139, .val t2] [⟨t2, [false], none⟩] Try.f82 (cs_0, id_1, ()) = pleachref7_Home_T (pleachref7_Home_X1 n n) cs_0 id_1 := by kernel_rfl
theorem pleachref7_Home_XL1 (n : Nat) : ∀ m, pleachref7_Home_X1 n m = pleachref7_Home_L1 n m
 | 0 => rfl
 | m + 1 => by
  have ih := pleachref7_Home_XL1 n m
  funext v1 v2 v3
  rw [pleachref7_Home_step1, ih]
  rfl
noncomputable def pleachref7_Home_n (n : Nat) (cs_0 : List ((List Int) × Int)) (id_1 : Int) : Option ((Int × Unit) × Unit) := pleachref7_Home_T (pleachref7_Home_L1 n n) cs_0 id_1
noncomputable def pleachref7_Home (cs_0 : List ((List Int) × Int)) (id_1 : Int) : Option ((Int × Unit) × Unit) := pleachref7_Home_n 1099511627776 cs_0 id_1
theorem pleachref7_Home_eq (n : Nat) (cs_0 : List ((List Int) × Int)) (id_1 : Int) : evFn pleachref7_Home_Γ tab pleachref7_Home_fi n [.val t139, .val t2] [⟨t2, [false], none⟩] Try.f82 (cs_0, id_1, ()) = pleachref7_Home_n n cs_0 id_1 := by
  rw [pleachref7_Home_start, pleachref7_Home_XL1 n n]
  rfl
noncomputable def pleachref7_Home_e : Ent := ⟨[.val t139, .val t2], [⟨t2, [false], none⟩], fun x => pleachref7_Home x.1 x.2.1⟩
theorem pleachref7_Home_good : Good tab.ty Try.prog 82 pleachref7_Home_e := by
  refine fn_good (Γ := pleachref7_Home_Γ) (fi := pleachref7_Home_fi) (n := 1099511627776) follows (gcons pleachref1_Has_good gnil) tabok Try.func82 (by kernel_rfl) (by kernel_rfl) (fun x r h => ?_)
  obtain ⟨cs_0, id_1, _u⟩ := x
  exact (pleachref7_Home_eq 1099511627776 cs_0 id_1).trans h
noncomputable def pleachref7_Near_Γ : Ctx := [(78, pleachref1_Has_e)]
def pleachref7_Near_fi : Fi := { keep := [], vty := [], vals := [], live := [(0, [0, 1, 2, 17, 18, 19, 22, 23, 24, 25, 26, 27, 28, 29, 30, 31, 32, 33, 34, 35, 36, 37, 38, 39, 40, 41, 42, 43, 44]), (1, [0, 1, 2, 7, 17, 18, 19, 22, 23, 24, 25, 26, 27, 28, 29, 30, 31, 32, 33, 34, 35, 36, 37, 38, 39, 40, 41, 42, 43, 44]), (2, [0, 1, 2, 7, 8, 17, 18, 19, 22, 23, 24, 25, 26, 27, 28, 29, 30, 31, 32, 33, 34, 35, 36, 37, 38, 39, 40, 41, 42, 43, 44]), (3, [0, 1, 2, 7, 8, 10, 17, 18, 19, 22, 23, 24, 25, 26, 27, 28, 29, 30, 31, 32, 33, 34, 35, 36, 37, 38, 39, 40, 41, 42, 43, 44]), (4, [0, 1, 2, 7, 8, 17, 18, 19, 22, 23, 24, 25, 26, 27, 28, 29, 30, 31, 32, 33, 34, 35, 36, 37, 38, 39, 40, 41, 42, 43, 44]), (5, [0, 1, 2, 7, 8, 17, 18, 19, 22, 23, 24, 25, 26, 27, 28, 29, 30, 31, 32, 33, 34, 35, 36, 37, 38, 39, 40, 41, 42, 43, 44, 45]), (6, [0, 1, 2, 7, 8, 17, 18, 19, 22, 23, 24, 25, 26, 27, 28, 29, 30, 31, 32, 33, 34, 35, 36, 37, 38, 39, 40, 41, 42, 43, 44]), (7, [6])] }
noncomputable def pleachref7_Near_B1 (L1 : List (List Int) → Int → List Int → Int → Int → Option ((Int × Unit) × Unit)) (v1 : List (List Int)) (v2 : Int) (v3 : List Int) (v4 : Int) (v5 : Int) : Option ((Int × Unit) × Unit) :=
 bif decide (v5 ≤ 8) then
  bif v5 != v2 then
   Option.bind (pleachref1_Has v3 v5) fun (r6 : (Bool × Unit) × Unit) =>
   bif r6.1.1 then
    bif v4 == 0 then
     L1 v1 v2 v3 v5 (IntKind.wrap .i64 (v5 + 1))
    else
    bif decide (0 ≤ IntKind.wrap .i64 (v2 - 1)) && decide (IntKind.wrap .i64 (v2 - 1) < (v1.length : Int)) then
     bif decide (0 ≤ IntKind.wrap .i64 (v5 - 1)) && decide (IntKind.wrap .i64 (v5 - 1) < ((List.getD v1 ((IntKind.wrap .i64 (v2 - 1)).toNat) []).length : Int)) then
      bif decide (0 ≤ IntKind.wrap .i64 (v2 - 1)) && decide (IntKind.wrap .i64 (v2 - 1) < (v1.length : Int)) then
       bif decide (0 ≤ IntKind.wrap .i64 (v4 - 1)) && decide (IntKind.wrap .i64 (v4 - 1) < ((List.getD v1 ((IntKind.wrap .i64 (v2 - 1)).toNat) []).length : Int)) then
        bif decide (List.getD (List.getD v1 ((IntKind.wrap .i64 (v2 - 1)).toNat) []) ((IntKind.wrap .i64 (v5 - 1)).toNat) 0 < List.getD (List.getD v1 ((IntKind.wrap .i64 (v2 - 1)).toNat) []) ((IntKind.wrap .i64 (v4 - 1)).toNat) 0) then
         L1 v1 v2 v3 v5 (IntKind.wrap .i64 (v5 + 1))
        else
         L1 v1 v2 v3 v4 (IntKind.wrap .i64 (v5 + 1))
       else none
      else none
     else none
    else none
   else
    L1 v1 v2 v3 v4 (IntKind.wrap .i64 (v5 + 1))
  else
   L1 v1 v2 v3 v4 (IntKind.wrap .i64 (v5 + 1))
 else
  some ((v4, ()), ())
noncomputable def pleachref7_Near_T (L1 : List (List Int) → Int → List Int → Int → Int → Option ((Int × Unit) × Unit)) (d_0 : List (List Int)) (m_1 : Int) (l_2 : List Int) : Option ((Int × Unit) × Unit) :=
 L1 d_0 m_1 l_2 0 1
noncomputable def pleachref7_Near_L1 (n : Nat) : Nat → List (List Int) → Int → List Int → Int → Int → Option ((Int × Unit) × Unit) := iter (fun _ _ _ _ _ => none) fun L => pleachref7_Near_B1 L
noncomputable def pleachref7_Near_X1 (n m : Nat) (v1 : List (List Int)) (v2 : Int) (v3 : List Int) (v4 : Int) (v5 : Int) : Option ((Int × Unit) × Unit) :=
 atLoop pleachref7_Near_Γ tab (fiB [.val t42, .val t2, .val t33] pleachref7_Near_fi) n [.val t42, .val t2, .val t33] [⟨t2, [false], none⟩] Try.f83 [1, 1, 0, 1, 0] [] [0, 1, 2, 7, 8] m
 ⟨[(0, SV.cv (CV.one (LV.pure t42 v1))), (1, SV.cv (CV.one (LV.pure t2 v2))), (2, SV.cv (CV.one (LV.pure t33 v3))), (7, SV.cv (CV.one (LV.pure t2 v4))), (8, SV.cv (CV.one (LV.pure t2 v5)))],
  []⟩
theorem pleachref7_Near_step1 (n m : Nat) (v1 : List (List Int)) (v2 : Int) (v3 : List Int) (v4 : Int) (v5 : Int) : pleachref7_Near_X1 n (m + 1) v1 v2 v3 v4 v5 = pleachref7_Near_B1 (pleachref7_Near_X1 n m) v1 v2 v3 v4 v5 := by kernel_rfl
theorem pleachref7_Near_start (n : Nat) (d_0 : List (List Int)) (m_1 : Int) (l_2 : List Int) : evFn pleachref7_Near_Γ tab pleachref7_Near_fi n [.val t42, .val t2, .val t33] [⟨t2, [false], none⟩] Try.f83 (d_0, m_1, l_2, ()) = pleachref7_Near_T (pleachref7_Near_X1 n n) d_0 m_1 l_2 := by kernel_rfl
theorem pleachref7_Near_XL1 (n : Nat) : ∀ m, pleachref7_Near_X1 n m = pleachref7_Near_L1 n m
 | 0 => rfl
 | m + 1 => by
  have ih := pleachref7_Near_XL1 n m
  funext v1 v2 v3 v4 v5
  rw [pleachref7_Near_step1, ih]
  rfl
noncomputable def pleachref7_Near_n (n : Nat) (d_0 : List (List Int)) (m_1 : Int) (l_2 : List Int) : Option ((Int × Unit) × Unit) := pleachref7_Near_T (pleachref7_Near_L1 n n) d_0 m_1 l_2
noncomputable def pleachref7_Near (d_0 : List (List Int)) (m_1 : Int) (l_2 : List Int) : Option ((Int × Unit) × Unit) := pleachref7_Near_n 1099511627776 d_0 m_1 l_2
theorem pleachref7_Near_eq (n : Nat) (d_0 : List (List Int)) (m_1 : Int) (l_2 : List Int) : evFn pleachref7_Near_Γ tab pleachref7_Near_fi n [.val t42, .val t2, .val t33] [⟨t2, [false], none⟩] Try.f83 (d_0, m_1, l_2, ()) = pleachref7_Near_n n d_0 m_1 l_2 := by
  rw [pleachref7_Near_start, pleachref7_Near_XL1 n n]
  rfl
noncomputable def pleachref7_Near_e : Ent := ⟨[.val t42, .val t2, .val t33], [⟨t2, [false], none⟩], fun x => pleachref7_Near x.1 x.2.1 x.2.2.1⟩
theorem pleachref7_Near_good : Good tab.ty Try.prog 83 pleachref7_Near_e := by
  refine fn_good (Γ := pleachref7_Near_Γ) (fi := pleachref7_Near_fi) (n := 1099511627776) follows (gcons pleachref1_Has_good gnil) tabok Try.func83 (by kernel_rfl) (by kernel_rfl) (fun x r h => ?_)
  obtain ⟨d_0, m_1, l_2, _u⟩ := x
  exact (pleachref7_Near_eq 1099511627776 d_0 m_1 l_2).trans h
noncomputable def pleachref7_Far_Γ : Ctx := []
def pleachref7_Far_fi : Fi := { keep := [], vty := [], vals := [], live := [(0, [0, 1, 2]), (1, [0, 1, 2, 7]), (2, [0, 1, 2, 7, 8]), (3, [0, 1, 2, 7, 8, 12]), (4, [0, 1, 2, 7, 8]), (5, [0, 1, 2, 7, 8]), (6, [6])] }
noncomputable def pleachref7_Far_B1 (L1 : List (List Int) → Int → List Int → Int → Int → Option ((Int × Unit) × Unit)) (v1 : List (List Int)) (v2 : Int) (v3 : List Int) (v4 : Int) (v5 : Int) : Option ((Int × Unit) × Unit) :=
 bif decide (v5 < (v3.length : Int)) then
  bif decide (0 ≤ IntKind.wrap .i64 (v2 - 1)) && decide (IntKind.wrap .i64 (v2 - 1) < (v1.length : Int)) then
   bif decide (0 ≤ v5) && decide (v5 < (v3.length : Int)) then
    bif decide (0 ≤ IntKind.wrap .i64 ((List.getD v3 v5.toNat 0) - 1)) && decide (IntKind.wrap .i64 ((List.getD v3 v5.toNat 0) - 1) < ((List.getD v1 ((IntKind.wrap .i64 (v2 - 1)).toNat) []).length : Int)) then
     L1 v1 v2 v3 (if List.getD (List.getD v1 ((IntKind.wrap .i64 (v2 - 1)).toNat) []) ((IntKind.wrap .i64 ((List.getD v3 v5.toNat 0) - 1)).toNat) 0 > v4 then List.getD (List.getD v1 ((IntKind.wrap .i64 (v2 - 1)).toNat) []) ((IntKind.wrap .i64 ((List.getD v3 v5.toNat 0) - 1)).toNat) 0 else v4) (IntKind.wrap .i64 (v5 + 1))
    else none
   else none
  else none
 else
  some ((v4, ()), ())
noncomputable def pleachref7_Far_T (L1 : List (List Int) → Int → List Int → Int → Int → Option ((Int × Unit) × Unit)) (d_0 : List (List Int)) (m_1 : Int) (l_2 : List Int) : Option ((Int × Unit) × Unit) :=
 L1 d_0 m_1 l_2 0 0
noncomputable def pleachref7_Far_L1 (n : Nat) : Nat → List (List Int) → Int → List Int → Int → Int → Option ((Int × Unit) × Unit) := iter (fun _ _ _ _ _ => none) fun L => pleachref7_Far_B1 L
noncomputable def pleachref7_Far_X1 (n m : Nat) (v1 : List (List Int)) (v2 : Int) (v3 : List Int) (v4 : Int) (v5 : Int) : Option ((Int × Unit) × Unit) :=
 atLoop pleachref7_Far_Γ tab (fiB [.val t42, .val t2, .val t33] pleachref7_Far_fi) n [.val t42, .val t2, .val t33] [⟨t2, [false], none⟩] Try.f102 [1, 1, 0, 1, 0] [] [0, 1, 2, 7, 8] m
 ⟨[(0, SV.cv (CV.one (LV.pure t42 v1))), (1, SV.cv (CV.one (LV.pure t2 v2))), (2, SV.cv (CV.one (LV.pure t33 v3))), (7, SV.cv (CV.one (LV.pure t2 v4))), (8, SV.cv (CV.one (LV.pure t2 v5)))],
  []⟩
theorem pleachref7_Far_step1 (n m : Nat) (v1 : List (List Int)) (v2 : Int) (v3 : List Int) (v4 : Int) (v5 : Int) : pleachref7_Far_X1 n (m + 1) v1 v2 v3 v4 v5 = pleachref7_Far_B1 (pleachref7_Far_X1 n m) v1 v2 v3 v4 v5 := by kernel_rfl
theorem pleachref7_Far_start (n : Nat) (d_0 : List (List Int)) (m_1 : Int) (l_2 : List Int) : evFn pleachref7_Far_Γ tab pleachref7_Far_fi n [.val t42, .val t2, .val t33] [⟨t2, [false], none⟩] Try.f102 (d_0, m_1, l_2, ()) = pleachref7_Far_T (pleachref7_Far_X1 n n) d_0 m_1 l_2 := by kernel_rfl
theorem pleachref7_Far_XL1 (n : Nat) : ∀ m, pleachref7_Far_X1 n m = pleachref7_Far_L1 n m
 | 0 => rfl
 | m + 1 => by
  have ih := pleachref7_Far_XL1 n m
  funext v1 v2 v3 v4 v5
  rw [pleachref7_Far_step1, ih]
  rfl
noncomputable def pleachref7_Far_n (n : Nat) (d_0 : List (List Int)) (m_1 : Int) (l_2 : List Int) : Option ((Int × Unit) × Unit) := pleachref7_Far_T (pleachref7_Far_L1 n n) d_0 m_1 l_2
noncomputable def pleachref7_Far (d_0 : List (List Int)) (m_1 : Int) (l_2 : List Int) : Option ((Int × Unit) × Unit) := pleachref7_Far_n 1099511627776 d_0 m_1 l_2
theorem pleachref7_Far_eq (n : Nat) (d_0 : List (List Int)) (m_1 : Int) (l_2 : List Int) : evFn pleachref7_Far_Γ tab pleachref7_Far_fi n [.val t42, .val t2, .val t33] [⟨t2, [false], none⟩] Try.f102 (d_0, m_1, l_2, ()) = pleachref7_Far_n n d_0 m_1 l_2 := by
  rw [pleachref7_Far_start, pleachref7_Far_XL1 n n]
  rfl
noncomputable def pleachref7_Far_e : Ent := ⟨[.val t42, .val t2, .val t33], [⟨t2, [false], none⟩], fun x => pleachref7_Far x.1 x.2.1 x.2.2.1⟩
theorem pleachref7_Far_good : Good tab.ty Try.prog 102 pleachref7_Far_e := by
  refine fn_good (Γ := pleachref7_Far_Γ) (fi := pleachref7_Far_fi) (n := 1099511627776) follows gnil tabok Try.func102 (by kernel_rfl) (by kernel_rfl) (fun x r h => ?_)
  obtain ⟨d_0, m_1, l_2, _u⟩ := x
  exact (pleachref7_Far_eq 1099511627776 d_0 m_1 l_2).trans h
noncomputable def pleachref7_Mid_Γ : Ctx := [(78, pleachref1_Has_e), (102, pleachref7_Far_e)]
def pleachref7_Mid_fi : Fi := { keep := [], vty := [], vals := [], live := [(0, [0, 1, 15, 16, 17, 18, 19, 20, 21, 22, 23, 24, 25, 26, 27]), (1, [0, 1, 5, 15, 16, 17, 18, 19, 20, 21, 22, 23, 24, 25, 26, 27]), (2, [0, 1, 5, 6, 15, 16, 17, 18, 19, 20, 21, 22, 23, 24, 25, 26, 27]), (3, [0, 1, 5, 6, 8, 15, 16, 17, 18, 19, 20, 21, 22, 23, 24, 25, 26, 27]), (4, [0, 1, 5, 6, 15, 16, 17, 18, 19, 20, 21, 22, 23, 24, 25, 26, 27]), (5, [0, 1, 5, 6, 15, 16, 17, 18, 19, 20, 21, 22, 23, 24, 25, 26, 27, 28]), (6, [0, 1, 5, 6, 15, 16, 17, 18, 19, 20, 21, 22, 23, 24, 25, 26, 27]), (7, [4])] }
noncomputable def pleachref7_Mid_B1 (L1 : List (List Int) → List Int → Int → Int → Option ((Int × Unit) × Unit)) (v1 : List (List Int)) (v2 : List Int) (v3 : Int) (v4 : Int) : Option ((Int × Unit) × Unit) :=
 bif decide (v4 ≤ 8) then
  Option.bind (pleachref1_Has v2 v4) fun (r5 : (Bool × Unit) × Unit) =>
  bif r5.1.1 then
   bif v3 == 0 then
    L1 v1 v2 v4 (IntKind.wrap .i64 (v4 + 1))
   else
    Option.bind (pleachref7_Far v1 v4 v2) fun (r6 : (Int × Unit) × Unit) =>
    Option.bind (pleachref7_Far v1 v3 v2) fun (r7 : (Int × Unit) × Unit) =>
    bif decide (r6.1.1 < r7.1.1) then
     L1 v1 v2 v4 (IntKind.wrap .i64 (v4 + 1))
    else
     L1 v1 v2 v3 (IntKind.wrap .i64 (v4 + 1))
  else
   L1 v1 v2 v3 (IntKind.wrap .i64 (v4 + 1))
 else
  some ((v3, ()), ())
noncomputable def pleachref7_Mid_T (L1 : List (List Int) → List Int → Int → Int → Option ((Int × Unit) × Unit)) (d_0 : List (List Int)) (l_1 : List Int) : Option ((Int × Unit) × Unit) :=
 L1 d_0 l_1 0 1
noncomputable def pleachref7_Mid_L1 (n : Nat) : Nat → List (List Int) → List Int → Int → Int → Option ((Int × Unit) × Unit) := iter (fun _ _ _ _ => none) fun L => pleachref7_Mid_B1 L
noncomputable def pleachref7_Mid_X1 (n m : Nat) (v1 : List (List Int)) (v2 : List Int) (v3 : Int) (v4 : Int) : Option ((Int × Unit) × Unit) :=
 atLoop pleachref7_Mid_Γ tab (fiB [.val t42, .val t33] pleachref7_Mid_fi) n [.val t42, .val t33] [⟨t2, [false], none⟩] Try.f98 [1, 1, 0, 1, 0] [] [0, 1, 5, 6] m
 ⟨[(0, SV.cv (CV.one (LV.pure t42 v1))), (1, SV.cv (CV.one (LV.pure t33 v2))), (5, SV.cv (CV.one (LV.pure t2 v3))), (6, SV.cv (CV.one (LV.pure t2 v4)))],
  []⟩
theorem pleachref7_Mid_step1 (n m : Nat) (v1 : List (List Int)) (v2 : List Int) (v3 : Int) (v4 : Int) : pleachref7_Mid_X1 n (m + 1) v1 v2 v3 v4 = pleachref7_Mid_B1 (pleachref7_Mid_X1 n m) v1 v2 v3 v4 := by kernel_rfl
theorem pleachref7_Mid_start (n : Nat) (d_0 : List (List Int)) (l_1 : List Int) : evFn pleachref7_Mid_Γ tab pleachref7_Mid_fi n [.val t42, .val t33] [⟨t2, [false], none⟩] Try.f98 (d_0, l_1, ()) = pleachref7_Mid_T (pleachref7_Mid_X1 n n) d_0 l_1 := by kernel_rfl
theorem pleachref7_Mid_XL1 (n : Nat) : ∀ m, pleachref7_Mid_X1 n m = pleachref7_Mid_L1 n m
 | 0 => rfl
 | m + 1 => by
  have ih := pleachref7_Mid_XL1 n m
  funext v1 v2 v3 v4
  rw [pleachref7_Mid_step1, ih]
  rfl
noncomputable def pleachref7_Mid_n (n : Nat) (d_0 : List (List Int)) (l_1 : List Int) : Option ((Int × Unit) × Unit) := pleachref7_Mid_T (pleachref7_Mid_L1 n n) d_0 l_1
noncomputable def pleachref7_Mid (d_0 : List (List Int)) (l_1 : List Int) : Option ((Int × Unit) × Unit) := pleachref7_Mid_n 1099511627776 d_0 l_1
theorem pleachref7_Mid_eq (n : Nat) (d_0 : List (List Int)) (l_1 : List Int) : evFn pleachref7_Mid_Γ tab pleachref7_Mid_fi n [.val t42, .val t33] [⟨t2, [false], none⟩] Try.f98 (d_0, l_1, ()) = pleachref7_Mid_n n d_0 l_1 := by
  rw [pleachref7_Mid_start, pleachref7_Mid_XL1 n n]
  rfl
noncomputable def pleachref7_Mid_e : Ent := ⟨[.val t42, .val t33], [⟨t2, [false], none⟩], fun x => pleachref7_Mid x.1 x.2.1⟩
theorem pleachref7_Mid_good : Good tab.ty Try.prog 98 pleachref7_Mid_e := by
  refine fn_good (Γ := pleachref7_Mid_Γ) (fi := pleachref7_Mid_fi) (n := 1099511627776) follows (gcons pleachref1_Has_good (gcons pleachref7_Far_good gnil)) tabok Try.func98 (by kernel_rfl) (by kernel_rfl) (fun x r h => ?_)
  obtain ⟨d_0, l_1, _u⟩ := x
  exact (pleachref7_Mid_eq 1099511627776 d_0 l_1).trans h
noncomputable def pleachref7_Of_Γ : Ctx := [(98, pleachref7_Mid_e)]
def pleachref7_Of_fi : Fi := { keep := [], vty := [], vals := [], live := [(0, [0, 1, 4]), (1, [4])] }
noncomputable def pleachref7_Of (d_0 : List (List Int)) (l_1 : List Int) : Option ((((List Int) × Int) × Unit) × Unit) :=
 bif Nat.ble (0 + l_1.length) 1073741824 then
  Option.bind (pleachref7_Mid d_0 l_1) fun (r1 : (Int × Unit) × Unit) =>
  some ((([] ++ l_1, r1.1.1), ()), ())
 else none
theorem pleachref7_Of_eq (d_0 : List (List Int)) (l_1 : List Int) : evFn pleachref7_Of_Γ tab pleachref7_Of_fi 1 [.val t42, .val t33] [⟨t141, [true, false], none⟩] Try.f93 (d_0, l_1, ()) = pleachref7_Of d_0 l_1 := by kernel_rfl
noncomputable def pleachref7_Of_e : Ent := ⟨[.val t42, .val t33], [⟨t141, [true, false], none⟩], fun x => pleachref7_Of x.1 x.2.1⟩
theorem pleachref7_Of_good : Good tab.ty Try.prog 93 pleachref7_Of_e := by
  refine fn_good (Γ := pleachref7_Of_Γ) (fi := pleachref7_Of_fi) (n := 1) follows (gcons pleachref7_Mid_good gnil) tabok Try.func93 (by kernel_rfl) (by kernel_rfl) (fun x r h => ?_)
  obtain ⟨d_0, l_1, _u⟩ := x
  exact (pleachref7_Of_eq d_0 l_1).trans h
noncomputable def pleachref7_Rising_Γ : Ctx := [(78, pleachref1_Has_e)]
def pleachref7_Rising_fi : Fi := { keep := [], vty := [(3, 33)], vals := [], live := [(0, [0]), (1, [0, 3]), (2, [0, 3, 4]), (3, [0, 3, 4, 6]), (4, [0, 3, 4]), (5, [0, 3, 4, 11]), (6, [0, 3, 4]), (7, [2])] }
noncomputable def pleachref7_Rising_B1 (L1 : List Int → Int → List Int → Option (((List Int) × Unit) × Unit)) (v1 : List Int) (v2 : Int) (v3 : List Int) : Option (((List Int) × Unit) × Unit) :=
 bif decide (v2 ≤ 8) then
  Option.bind (pleachref1_Has v1 v2) fun (r4 : (Bool × Unit) × Unit) =>
  bif r4.1.1 then
   bif Nat.ble (v3.length + 1) 1073741824 then
    L1 v1 (IntKind.wrap .i64 (v2 + 1)) (v3 ++ [v2])
   else none
  else
   L1 v1 (IntKind.wrap .i64 (v2 + 1)) v3
 else
  some ((v3, ()), ())
noncomputable def pleachref7_Rising_T (L1 : List Int → Int → List Int → Option (((List Int) × Unit) × Unit)) (l_0 : List Int) : Option (((List Int) × Unit) × Unit) :=
 L1 l_0 1 []
noncomputable def pleachref7_Rising_L1 (n : Nat) : Nat → List Int → Int → List Int → Option (((List Int) × Unit) × Unit) := iter (fun _ _ _ => none) fun L => pleachref7_Rising_B1 L
noncomputable def pleachref7_Rising_X1 (n m : Nat) (v1 : List Int) (v2 : Int) (v3 : List Int) : Option (((List Int) × Unit) × Unit) :=
 atLoop pleachref7_Rising_Γ tab (fiB [.val t33] pleachref7_Rising_fi) n [.val t33] [⟨t33, [true], none⟩] Try.f94 [1, 1, 0, 1, 0] [] [0, 3, 4] m
 ⟨[(0, SV.cv (CV.one (LV.pure t33 v1))), (3, SV.cv (CV.one (LV.ref (888888, 3)))), (4, SV.cv (CV.one (LV.pure t2 v2)))],
  [((888888, 3), Ob.row 3 t2 v3)]⟩
theorem pleachref7_Rising_step1 (n m : Nat) (v1 : List Int) (v2 : Int) (v3 : List Int) : pleachref7_Rising_X1 n (m + 1) v1 v2 v3 = pleachref7_Rising_B1 (pleachref7_Rising_X1 n m) v1 v2 v3 := by kernel_rfl
theorem pleachref7_Rising_start (n : Nat) (l_0 : List Int) : evFn pleachref7_Rising_Γ tab pleachref7_Rising_fi n [.val t33] [⟨t33, [true], none⟩] Try.f94 (l_0, ()) = pleachref7_Rising_T (pleachref7_Rising_X1 n n) l_0 := by kernel_rfl
theorem pleachref7_Rising_XL1 (n : Nat) : ∀ m, pleachref7_Rising_X1 n m = pleachref7_Rising_L1 n m
 | 0 => rfl
 | m + 1 => by
  have ih := pleachref7_Rising_XL1 n m
  funext v1 v2 v3
  rw [pleachref7_Rising_step1, ih]
  rfl
noncomputable def pleachref7_Rising_n (n : Nat) (l_0 : List Int) : Option (((List Int) × Unit) × Unit) := pleachref7_Rising_T (pleachref7_Rising_L1 n n) l_0
noncomputable def pleachref7_Rising (l_0 : List Int) : Option (((List Int) × Unit) × Unit) := pleachref7_Rising_n 1099511627776 l_0
theorem pleachref7_Rising_eq (n : Nat) (l_0 : List Int) : evFn pleachref7_Rising_Γ tab pleachref7_Rising_fi n [.val t33] [⟨t33, [true], none⟩] Try.f94 (l_0, ()) = pleachref7_Rising_n n l_0 := by
  rw [pleachref7_Rising_start, pleachref7_Rising_XL1 n n]
  rfl
noncomputable def pleachref7_Rising_e : Ent := ⟨[.val t33], [⟨t33, [true], none⟩], fun x => pleachref7_Rising x.1⟩
theorem pleachref7_Rising_good : Good tab.ty Try.prog 94 pleachref7_Rising_e := by
  refine fn_good (Γ := pleachref7_Rising_Γ) (fi := pleachref7_Rising_fi) (n := 1099511627776) follows (gcons pleachref1_Has_good gnil) tabok Try.func94 (by kernel_rfl) (by kernel_rfl) (fun x r h => ?_)
  obtain ⟨l_0, _u⟩ := x
  exact (pleachref7_Rising_eq 1099511627776 l_0).trans h
noncomputable def pleachref7_without_Γ : Ctx := []
def pleachref7_without_fi : Fi := { keep := [], vty := [(5, 33)], vals := [], live := [(0, [0, 1]), (1, [0, 1, 5]), (2, [0, 1, 5, 6]), (3, [0, 1, 5, 6, 10]), (4, [0, 1, 5, 6]), (5, [0, 1, 5, 6, 18]), (6, [0, 1, 5, 6]), (7, [4])] }
noncomputable def pleachref7_without_B1 (L1 : List Int → Int → Int → List Int → Option (((List Int) × Unit) × Unit)) (v1 : List Int) (v2 : Int) (v3 : Int) (v4 : List Int) : Option (((List Int) × Unit) × Unit) :=
 bif decide (v3 < (v1.length : Int)) then
  bif decide (0 ≤ v3) && decide (v3 < (v1.length : Int)) then
   bif (List.getD v1 v3.toNat 0) != v2 then
    bif decide (0 ≤ v3) && decide (v3 < (v1.length : Int)) then
     bif Nat.ble (v4.length + 1) 1073741824 then
      L1 v1 v2 (IntKind.wrap .i64 (v3 + 1)) (v4 ++ [List.getD v1 v3.toNat 0])
     else none
    else none
   else
    L1 v1 v2 (IntKind.wrap .i64 (v3 + 1)) v4
  else none
 else
  some ((v4, ()), ())
noncomputable def pleachref7_without_T (L1 : List Int → Int → Int → List Int → Option (((List Int) × Unit) × Unit)) (l_0 : List Int) (id_1 : Int) : Option (((List Int) × Unit) × Unit) :=
 L1 l_0 id_1 0 []
noncomputable def pleachref7_without_L1 (n : Nat) : Nat → List Int → Int → Int → List Int → Option (((List Int) × Unit) × Unit) := iter (fun _ _ _ _ => none) fun L => pleachref7_without_B1 L
noncomputable def pleachref7_without_X1 (n m : Nat) (v1 : List Int) (v2 : Int) (v3 : Int) (v4 : List Int) : Option (((List Int) × Unit) × Unit) :=
 atLoop pleachref7_without_Γ tab (fiB [.val t33, .val t2] pleachref7_without_fi) n [.val t33, .val t2] [⟨t33, [true], none⟩] Try.f103 [1, 1, 0, 1, 0] [] [0, 1, 5, 6] m
 ⟨[(0, SV.cv (CV.one (LV.pure t33 v1))), (1, SV.cv (CV.one (LV.pure t2 v2))), (5, SV.cv (CV.one (LV.ref (888888, 5)))), (6, SV.cv (CV.one (LV.pure t2 v3)))],
  [((888888, 5), Ob.row 3 t2 v4)]⟩
theorem pleachref7_without_step1 (n m : Nat) (v1 : List Int) (v2 : Int) (v3 : Int) (v4 : List Int) : pleachref7_without_X1 n (m + 1) v1 v2 v3 v4 = pleachref7_without_B1 (pleachref7_without_X1 n m) v1 v2 v3 v4 := by kernel_rfl
theorem pleachref7_without_start (n : Nat) (l_0 : List Int) (id_1 : Int) : evFn pleachref7_without_Γ tab pleachref7_without_fi n [.val t33, .val t2] [⟨t33, [true], none⟩] Try.f103 (l_0, id_1, ()) = pleachref7_without_T (pleachref7_without_X1 n n) l_0 id_1 := by kernel_rfl
theorem pleachref7_without_XL1 (n : Nat) : ∀ m, pleachref7_without_X1 n m = pleachref7_without_L1 n m
 | 0 => rfl
 | m + 1 => by
  have ih := pleachref7_without_XL1 n m
  funext v1 v2 v3 v4
  rw [pleachref7_without_step1, ih]
  rfl
noncomputable def pleachref7_without_n (n : Nat) (l_0 : List Int) (id_1 : Int) : Option (((List Int) × Unit) × Unit) := pleachref7_without_T (pleachref7_without_L1 n n) l_0 id_1
noncomputable def pleachref7_without (l_0 : List Int) (id_1 : Int) : Option (((List Int) × Unit) × Unit) := pleachref7_without_n 1099511627776 l_0 id_1
theorem pleachref7_without_eq (n : Nat) (l_0 : List Int) (id_1 : Int) : evFn pleachref7_without_Γ tab pleachref7_without_fi n [.val t33, .val t2] [⟨t33, [true], none⟩] Try.f103 (l_0, id_1, ()) = pleachref7_without_n n l_0 id_1 := by
  rw [pleachref7_without_start, pleachref7_without_XL1 n n]
  rfl
noncomputable def pleachref7_without_e : Ent := ⟨[.val t33, .val t2], [⟨t33, [true], none⟩], fun x => pleachref7_without x.1 x.2.1⟩
theorem pleachref7_without_good : Good tab.ty Try.prog 103 pleachref7_without_e := by
  refine fn_good (Γ := pleachref7_without_Γ) (fi := pleachref7_without_fi) (n := 1099511627776) follows gnil tabok Try.func103 (by kernel_rfl) (by kernel_rfl) (fun x r h => ?_)
  obtain ⟨l_0, id_1, _u⟩ := x
  exact (pleachref7_without_eq 1099511627776 l_0 id_1).trans h
noncomputable def pleachref7_Split_Γ : Ctx := [(83, pleachref7_Near_e), (94, pleachref7_Rising_e), (103, pleachref7_without_e)]
def pleachref7_Split_fi : Fi := { keep := [], vty := [(12, 33), (13, 33)], vals := [], live := [(0, [0, 1, 2, 41, 42, 43, 44, 45, 46, 47, 48, 49, 50, 51, 52, 53, 54, 55, 56, 57, 58, 59, 60, 61, 62, 63, 64, 65, 89, 90, 91, 92, 93, 94, 95, 96, 97, 98, 99, 100, 101, 102, 103, 104, 105, 106, 107, 108, 109, 110, 111, 112, 127, 128, 129, 130, 151, 152, 153, 154]), (1, [0, 1, 2, 20, 41, 42, 43, 44, 45, 46, 47, 48, 49, 50, 51, 52, 53, 54, 55, 56, 57, 58, 59, 60, 61, 62, 63, 64, 65, 89, 90, 91, 92, 93, 94, 95, 96, 97, 98, 99, 100, 101, 102, 103, 104, 105, 106, 107, 108, 109, 110, 111, 112, 127, 128, 129, 130, 151, 152, 153, 154]), (2, [6, 7]), (3, [0, 1, 2, 8, 9, 41, 42, 43, 44, 45, 46, 47, 48, 49, 50, 51, 52, 53, 54, 55, 56, 57, 58, 59, 60, 61, 62, 63, 64, 65, 89, 90, 91, 92, 93, 94, 95, 96, 97, 98, 99, 100, 101, 102, 103, 104, 105, 106, 107, 108, 109, 110, 111, 112, 127, 128, 129, 130, 151, 152, 153, 154]), (4, [0, 1, 2, 8, 9, 10, 41, 42, 43, 44, 45, 46, 47, 48, 49, 50, 51, 52, 53, 54, 55, 56, 57, 58, 59, 60, 61, 62, 63, 64, 65, 89, 90, 91, 92, 93, 94, 95, 96, 97, 98, 99, 100, 101, 102, 103, 104, 105, 106, 107, 108, 109, 110, 111, 112, 127, 128, 129, 130, 151, 152, 153, 154]), (5, [0, 1, 2, 8, 9, 10, 27, 41, 42, 43, 44, 45, 46, 47, 48, 49, 50, 51, 52, 53, 54, 55, 56, 57, 58, 59, 60, 61, 62, 63, 64, 65, 89, 90, 91, 92, 93, 94, 95, 96, 97, 98, 99, 100, 101, 102, 103, 104, 105, 106, 107, 108, 109, 110, 111, 112, 127, 128, 129, 130, 151, 152, 153, 154]), (6, [0, 1, 2, 8, 9, 10, 41, 42, 43, 44, 45, 46, 47, 48, 49, 50, 51, 52, 53, 54, 55, 56, 57, 58, 59, 60, 61, 62, 63, 64, 65, 89, 90, 91, 92, 93, 94, 95, 96, 97, 98, 99, 100, 101, 102, 103, 104, 105, 106, 107, 108, 109, 110, 111, 112, 127, 128, 129, 130, 151, 152, 153, 154]), (7, [0, 1, 2, 8, 9, 10, 11, 41, 42, 43, 44, 45, 46, 47, 48, 49, 50, 51, 52, 53, 54, 55, 56, 57, 58, 59, 60, 61, 62, 63, 64, 65, 89, 90, 91, 92, 93, 94, 95, 96, 97, 98, 99, 100, 101, 102, 103, 104, 105, 106, 107, 108, 109, 110, 111, 112, 127, 128, 129, 130, 151, 152, 153, 154]), (8, [0, 1, 2, 8, 9, 10, 11, 35, 41, 42, 43, 44, 45, 46, 47, 48, 49, 50, 51, 52, 53, 54, 55, 56, 57, 58, 59, 60, 61, 62, 63, 64, 65, 89, 90, 91, 92, 93, 94, 95, 96, 97, 98, 99, 100, 101, 102, 103, 104, 105, 106, 107, 108, 109, 110, 111, 112, 127, 128, 129, 130, 151, 152, 153, 154]), (9, [0, 1, 2, 8, 9, 10, 11, 41, 42, 43, 44, 45, 46, 47, 48, 49, 50, 51, 52, 53, 54, 55, 56, 57, 58, 59, 60, 61, 62, 63, 64, 65, 89, 90, 91, 92, 93, 94, 95, 96, 97, 98, 99, 100, 101, 102, 103, 104, 105, 106, 107, 108, 109, 110, 111, 112, 127, 128, 129, 130, 151, 152, 153, 154]), (10, [0, 1, 2, 8, 9, 10, 11, 41, 42, 43, 44, 45, 46, 47, 48, 49, 50, 51, 52, 53, 54, 55, 56, 57, 58, 59, 60, 61, 62, 63, 64, 65, 66, 89, 90, 91, 92, 93, 94, 95, 96, 97, 98, 99, 100, 101, 102, 103, 104, 105, 106, 107, 108, 109, 110, 111, 112, 127, 128, 129, 130, 151, 152, 153, 154]), (11, [0, 1, 2, 8, 9, 10, 11, 41, 42, 43, 44, 45, 46, 47, 48, 49, 50, 51, 52, 53, 54, 55, 56, 57, 58, 59, 60, 61, 62, 63, 64, 65, 89, 90, 91, 92, 93, 94, 95, 96, 97, 98, 99, 100, 101, 102, 103, 104, 105, 106, 107, 108, 109, 110, 111, 112, 127, 128, 129, 130, 151, 152, 153, 154]), (12, [0, 1, 2, 8, 9, 12, 13, 89, 90, 91, 92, 93, 94, 95, 96, 97, 98, 99, 100, 101, 102, 103, 104, 105, 106, 107, 108, 109, 110, 111, 112, 127, 128, 129, 130, 151, 152, 153, 154]), (13, [0, 1, 2, 8, 9, 12, 13, 14, 89, 90, 91, 92, 93, 94, 95, 96, 97, 98, 99, 100, 101, 102, 103, 104, 105, 106, 107, 108, 109, 110, 111, 112, 127, 128, 129, 130, 151, 152, 153, 154]), (14, [0, 1, 2, 8, 9, 12, 13, 14, 78, 89, 90, 91, 92, 93, 94, 95, 96, 97, 98, 99, 100, 101, 102, 103, 104, 105, 106, 107, 108, 109, 110, 111, 112, 127, 128, 129, 130, 151, 152, 153, 154]), (15, [0, 1, 2, 8, 9, 12, 13, 14, 89, 90, 91, 92, 93, 94, 95, 96, 97, 98, 99, 100, 101, 102, 103, 104, 105, 106, 107, 108, 109, 110, 111, 112, 127, 128, 129, 130, 151, 152, 153, 154]), (16, [0, 1, 2, 8, 9, 12, 13, 14, 15, 89, 90, 91, 92, 93, 94, 95, 96, 97, 98, 99, 100, 101, 102, 103, 104, 105, 106, 107, 108, 109, 110, 111, 112, 127, 128, 129, 130, 151, 152, 153, 154]), (17, [0, 1, 2, 8, 9, 12, 13, 14, 15, 89, 90, 91, 92, 93, 94, 95, 96, 97, 98, 99, 100, 101, 102, 103, 104, 105, 106, 107, 108, 109, 110, 111, 112, 113, 127, 128, 129, 130, 151, 152, 153, 154]), (18, [0, 1, 2, 8, 9, 12, 13, 14, 89, 90, 91, 92, 93, 94, 95, 96, 97, 98, 99, 100, 101, 102, 103, 104, 105, 106, 107, 108, 109, 110, 111, 112, 127, 128, 129, 130, 151, 152, 153, 154]), (19, [0, 1, 2, 8, 9, 12, 13, 14, 89, 90, 91, 92, 93, 94, 95, 96, 97, 98, 99, 100, 101, 102, 103, 104, 105, 106, 107, 108, 109, 110, 111, 112, 127, 128, 129, 130, 151, 152, 153, 154]), (20, [0, 2, 8, 9, 12, 13, 127, 128, 129, 130, 131, 151, 152, 153, 154]), (21, [0, 2, 8, 9, 12, 13, 16, 127, 128, 129, 130, 151, 152, 153, 154]), (22, [0, 2, 8, 9, 12, 13, 127, 128, 129, 130, 151, 152, 153, 154]), (23, [0, 2, 8, 9, 12, 13, 151, 152, 153, 154, 155]), (24, [0, 2, 8, 9, 12, 13, 17, 151, 152, 153, 154]), (25, [0, 2, 8, 9, 12, 13, 151, 152, 153, 154]), (26, [6, 7])] }
noncomputable def pleachref7_Split_B1 (L2 : List (List Int) → List Int → Int → Int → Int → Int → Int → Option (((List Int) × (List Int) × Unit) × Unit)) (L3 : List (List Int) → List Int → Int → Int → Int → Int → List Int → List Int → Option (((List Int) × (List Int) × Unit) × Unit)) (v1 : List (List Int)) (v2 : List Int) (v3 : Int) (v4 : Int) (v5 : Int) (v6 : Int) : Option (((List Int) × (List Int) × Unit) × Unit) :=
 bif decide (v6 < (v2.length : Int)) then
  L2 v1 v2 v3 v4 v5 v6 (IntKind.wrap .i64 (v6 + 1))
 else
  L3 v1 v2 v3 v4 v5 0 [] []
noncomputable def pleachref7_Split_B2 (L2 : List (List Int) → List Int → Int → Int → Int → Int → Int → Option (((List Int) × (List Int) × Unit) × Unit)) (L1 : List (List Int) → List Int → Int → Int → Int → Int → Option (((List Int) × (List Int) × Unit) × Unit)) (v7 : List (List Int)) (v8 : List Int) (v9 : Int) (v10 : Int) (v11 : Int) (v12 : Int) (v13 : Int) : Option (((List Int) × (List Int) × Unit) × Unit) :=
 bif decide (v13 < (v8.length : Int)) then
  bif v10 == 0 then
   bif decide (0 ≤ v12) && decide (v12 < (v8.length : Int)) then
    bif decide (0 ≤ v13) && decide (v13 < (v8.length : Int)) then
     L2 v7 v8 v9 (List.getD v8 v12.toNat 0) (List.getD v8 v13.toNat 0) v12 (IntKind.wrap .i64 (v13 + 1))
    else none
   else none
  else
  bif decide (0 ≤ v12) && decide (v12 < (v8.length : Int)) then
   bif decide (0 ≤ IntKind.wrap .i64 ((List.getD v8 v12.toNat 0) - 1)) && decide (IntKind.wrap .i64 ((List.getD v8 v12.toNat 0) - 1) < (v7.length : Int)) then
    bif decide (0 ≤ v13) && decide (v13 < (v8.length : Int)) then
     bif decide (0 ≤ IntKind.wrap .i64 ((List.getD v8 v13.toNat 0) - 1)) && decide (IntKind.wrap .i64 ((List.getD v8 v13.toNat 0) - 1) < ((List.getD v7 ((IntKind.wrap .i64 ((List.getD v8 v12.toNat 0) - 1)).toNat) []).length : Int)) then
      bif decide (0 ≤ IntKind.wrap .i64 (v10 - 1)) && decide (IntKind.wrap .i64 (v10 - 1) < (v7.length : Int)) then
       bif decide (0 ≤ IntKind.wrap .i64 (v11 - 1)) && decide (IntKind.wrap .i64 (v11 - 1) < ((List.getD v7 ((IntKind.wrap .i64 (v10 - 1)).toNat) []).length : Int)) then
        bif decide (List.getD (List.getD v7 ((IntKind.wrap .i64 ((List.getD v8 v12.toNat 0) - 1)).toNat) []) ((IntKind.wrap .i64 ((List.getD v8 v13.toNat 0) - 1)).toNat) 0 > List.getD (List.getD v7 ((IntKind.wrap .i64 (v10 - 1)).toNat) []) ((IntKind.wrap .i64 (v11 - 1)).toNat) 0) then
         bif decide (0 ≤ v12) && decide (v12 < (v8.length : Int)) then
          bif decide (0 ≤ v13) && decide (v13 < (v8.length : Int)) then
           L2 v7 v8 v9 (List.getD v8 v12.toNat 0) (List.getD v8 v13.toNat 0) v12 (IntKind.wrap .i64 (v13 + 1))
          else none
         else none
        else
         L2 v7 v8 v9 v10 v11 v12 (IntKind.wrap .i64 (v13 + 1))
       else none
      else none
     else none
    else none
   else none
  else none
 else
  L1 v7 v8 v9 v10 v11 (IntKind.wrap .i64 (v12 + 1))
noncomputable def pleachref7_Split_B3 (L3 : List (List Int) → List Int → Int → Int → Int → Int → List Int → List Int → Option (((List Int) × (List Int) × Unit) × Unit)) (L4 : List (List Int) → List Int → Int → Int → Int → Int → Bool → List Int → List Int → Option (((List Int) × (List Int) × Unit) × Unit)) (v14 : List (List Int)) (v15 : List Int) (v16 : Int) (v17 : Int) (v18 : Int) (v19 : Int) (v20 : List Int) (v21 : List Int) : Option (((List Int) × (List Int) × Unit) × Unit) :=
 bif decide (v19 < (v15.length : Int)) then
  bif decide (0 ≤ v19) && decide (v19 < (v15.length : Int)) then
   bif (List.getD v15 v19.toNat 0) != v18 then
    bif (List.getD v15 v19.toNat 0) == v17 then
     bif Nat.ble (v20.length + 1) 1073741824 then
      L3 v14 v15 v16 v17 v18 (IntKind.wrap .i64 (v19 + 1)) (v20 ++ [List.getD v15 v19.toNat 0]) v21
     else none
    else
    bif decide (0 ≤ IntKind.wrap .i64 ((List.getD v15 v19.toNat 0) - 1)) && decide (IntKind.wrap .i64 ((List.getD v15 v19.toNat 0) - 1) < (v14.length : Int)) then
     bif decide (0 ≤ IntKind.wrap .i64 (v17 - 1)) && decide (IntKind.wrap .i64 (v17 - 1) < ((List.getD v14 ((IntKind.wrap .i64 ((List.getD v15 v19.toNat 0) - 1)).toNat) []).length : Int)) then
      bif decide (0 ≤ IntKind.wrap .i64 ((List.getD v15 v19.toNat 0) - 1)) && decide (IntKind.wrap .i64 ((List.getD v15 v19.toNat 0) - 1) < (v14.length : Int)) then
       bif decide (0 ≤ IntKind.wrap .i64 (v18 - 1)) && decide (IntKind.wrap .i64 (v18 - 1) < ((List.getD v14 ((IntKind.wrap .i64 ((List.getD v15 v19.toNat 0) - 1)).toNat) []).length : Int)) then
        bif decide (List.getD (List.getD v14 ((IntKind.wrap .i64 ((List.getD v15 v19.toNat 0) - 1)).toNat) []) ((IntKind.wrap .i64 (v17 - 1)).toNat) 0 ≤ List.getD (List.getD v14 ((IntKind.wrap .i64 ((List.getD v15 v19.toNat 0) - 1)).toNat) []) ((IntKind.wrap .i64 (v18 - 1)).toNat) 0) then
         bif Nat.ble (v20.length + 1) 1073741824 then
          L3 v14 v15 v16 v17 v18 (IntKind.wrap .i64 (v19 + 1)) (v20 ++ [List.getD v15 v19.toNat 0]) v21
         else none
        else
        bif Nat.ble (v21.length + 1) 1073741824 then
         L3 v14 v15 v16 v17 v18 (IntKind.wrap .i64 (v19 + 1)) v20 (v21 ++ [List.getD v15 v19.toNat 0])
        else none
       else none
      else none
     else none
    else none
   else
   bif Nat.ble (v21.length + 1) 1073741824 then
    L3 v14 v15 v16 v17 v18 (IntKind.wrap .i64 (v19 + 1)) v20 (v21 ++ [List.getD v15 v19.toNat 0])
   else none
  else none
 else
  L4 v14 v15 v16 v17 v18 v19 (decide (v19 < (v15.length : Int))) v20 v21
noncomputable def pleachref7_Split_B4 (L5 : List (List Int) → Int → Int → Int → List Int → List Int → Option (((List Int) × (List Int) × Unit) × Unit)) (L6 : List (List Int) → Int → Int → Int → Int → Int → Bool → Bool → List Int → List Int → Option (((List Int) × (List Int) × Unit) × Unit)) (L8 : List (List Int) → Int → Int → Int → Bool → List Int → List Int → Option (((List Int) × (List Int) × Unit) × Unit)) (v22 : List (List Int)) (v23 : List Int) (v24 : Int) (v25 : Int) (v26 : Int) (v27 : Int) (v28 : Bool) (v29 : List Int) (v30 : List Int) : Option (((List Int) × (List Int) × Unit) × Unit) :=
 bif decide ((v29.length : Int) < v24) then
  bif decide ((v30.length : Int) > v24) then
   Option.bind (pleachref7_without v30 v26) fun (r31 : ((List Int) × Unit) × Unit) =>
   Option.bind (pleachref7_Near v22 v25 r31.1.1) fun (r32 : (Int × Unit) × Unit) =>
   bif Nat.ble (v29.length + 1) 1073741824 then
    Option.bind (pleachref7_Rising (v29 ++ [r32.1.1])) fun (r33 : ((List Int) × Unit) × Unit) =>
    Option.bind (pleachref7_without v30 r32.1.1) fun (r34 : ((List Int) × Unit) × Unit) =>
    L5 v22 v24 v25 v26 r33.1.1 r34.1.1
   else none
  else
   L6 v22 v24 v25 v26 (v30.length : Int) v24 (decide ((v30.length : Int) > v24)) (decide ((v30.length : Int) > v24)) v29 v30
 else
  L8 v22 v24 v25 v26 false v29 v30
noncomputable def pleachref7_Split_B5 (L5 : List (List Int) → Int → Int → Int → List Int → List Int → Option (((List Int) × (List Int) × Unit) × Unit)) (L6 : List (List Int) → Int → Int → Int → Int → Int → Bool → Bool → List Int → List Int → Option (((List Int) × (List Int) × Unit) × Unit)) (L8 : List (List Int) → Int → Int → Int → Bool → List Int → List Int → Option (((List Int) × (List Int) × Unit) × Unit)) (v35 : List (List Int)) (v36 : Int) (v37 : Int) (v38 : Int) (v39 : List Int) (v40 : List Int) : Option (((List Int) × (List Int) × Unit) × Unit) :=
 bif decide ((v39.length : Int) < v36) then
  bif decide ((v40.length : Int) > v36) then
   Option.bind (pleachref7_without v40 v38) fun (r41 : ((List Int) × Unit) × Unit) =>
   Option.bind (pleachref7_Near v35 v37 r41.1.1) fun (r42 : (Int × Unit) × Unit) =>
   bif Nat.ble (v39.length + 1) 1073741824 then
    Option.bind (pleachref7_Rising (v39 ++ [r42.1.1])) fun (r43 : ((List Int) × Unit) × Unit) =>
    Option.bind (pleachref7_without v40 r42.1.1) fun (r44 : ((List Int) × Unit) × Unit) =>
    L5 v35 v36 v37 v38 r43.1.1 r44.1.1
   else none
  else
   L6 v35 v36 v37 v38 (v40.length : Int) v36 (decide ((v40.length : Int) > v36)) (decide ((v40.length : Int) > v36)) v39 v40
 else
  L8 v35 v36 v37 v38 false v39 v40
noncomputable def pleachref7_Split_B6 (L7 : List (List Int) → Int → Int → Int → List Int → List Int → Option (((List Int) × (List Int) × Unit) × Unit)) (v45 : List (List Int)) (v46 : Int) (v47 : Int) (v48 : Int) (v49 : Int) (v50 : Int) (v51 : Bool) (v52 : Bool) (v53 : List Int) (v54 : List Int) : Option (((List Int) × (List Int) × Unit) × Unit) :=
 bif decide ((v54.length : Int) < v46) then
  bif decide ((v53.length : Int) > v46) then
   Option.bind (pleachref7_without v53 v47) fun (r55 : ((List Int) × Unit) × Unit) =>
   Option.bind (pleachref7_Near v45 v48 r55.1.1) fun (r56 : (Int × Unit) × Unit) =>
   bif Nat.ble (v54.length + 1) 1073741824 then
    Option.bind (pleachref7_Rising (v54 ++ [r56.1.1])) fun (r57 : ((List Int) × Unit) × Unit) =>
    Option.bind (pleachref7_without v53 r56.1.1) fun (r58 : ((List Int) × Unit) × Unit) =>
    L7 v45 v46 v47 v48 r58.1.1 r57.1.1
   else none
  else
   some ((v53, v54, ()), ())
 else
  some ((v53, v54, ()), ())
noncomputable def pleachref7_Split_B7 (L7 : List (List Int) → Int → Int → Int → List Int → List Int → Option (((List Int) × (List Int) × Unit) × Unit)) (v59 : List (List Int)) (v60 : Int) (v61 : Int) (v62 : Int) (v63 : List Int) (v64 : List Int) : Option (((List Int) × (List Int) × Unit) × Unit) :=
 bif decide ((v64.length : Int) < v60) then
  bif decide ((v63.length : Int) > v60) then
   Option.bind (pleachref7_without v63 v61) fun (r65 : ((List Int) × Unit) × Unit) =>
   Option.bind (pleachref7_Near v59 v62 r65.1.1) fun (r66 : (Int × Unit) × Unit) =>
   bif Nat.ble (v64.length + 1) 1073741824 then
    Option.bind (pleachref7_Rising (v64 ++ [r66.1.1])) fun (r67 : ((List Int) × Unit) × Unit) =>
    Option.bind (pleachref7_without v63 r66.1.1) fun (r68 : ((List Int) × Unit) × Unit) =>
    L7 v59 v60 v61 v62 r68.1.1 r67.1.1
   else none
  else
   some ((v63, v64, ()), ())
 else
  some ((v63, v64, ()), ())
noncomputable def pleachref7_Split_B8 (L9 : List (List Int) → Int → Int → Int → List Int → List Int → Option (((List Int) × (List Int) × Unit) × Unit)) (v69 : List (List Int)) (v70 : Int) (v71 : Int) (v72 : Int) (v73 : Bool) (v74 : List Int) (v75 : List Int) : Option (((List Int) × (List Int) × Unit) × Unit) :=
 bif decide ((v75.length : Int) < v70) then
  bif decide ((v74.length : Int) > v70) then
   Option.bind (pleachref7_without v74 v71) fun (r76 : ((List Int) × Unit) × Unit) =>
   Option.bind (pleachref7_Near v69 v72 r76.1.1) fun (r77 : (Int × Unit) × Unit) =>
   bif Nat.ble (v75.length + 1) 1073741824 then
    Option.bind (pleachref7_Rising (v75 ++ [r77.1.1])) fun (r78 : ((List Int) × Unit) × Unit) =>
    Option.bind (pleachref7_without v74 r77.1.1) fun (r79 : ((List Int) × Unit) × Unit) =>
    L9 v69 v70 v71 v72 r79.1.1 r78.1.1
   else none
  else
   some ((v74, v75, ()), ())
 else
  some ((v74, v75, ()), ())
noncomputable def pleachref7_Split_B9 (L9 : List (List Int) → Int → Int → Int → List Int → List Int → Option (((List Int) × (List Int) × Unit) × Unit)) (v80 : List (List Int)) (v81 : Int) (v82 : Int) (v83 : Int) (v84 : List Int) (v85 : List Int) : Option (((List Int) × (List Int) × Unit) × Unit) :=
 bif decide ((v85.length : Int) < v81) then
  bif decide ((v84.length : Int) > v81) then
   Option.bind (pleachref7_without v84 v82) fun (r86 : ((List Int) × Unit) × Unit) =>
   Option.bind (pleachref7_Near v80 v83 r86.1.1) fun (r87 : (Int × Unit) × Unit) =>
   bif Nat.ble (v85.length + 1) 1073741824 then
    Option.bind (pleachref7_Rising (v85 ++ [r87.1.1])) fun (r88 : ((List Int) × Unit) × Unit) =>
    Option.bind (pleachref7_without v84 r87.1.1) fun (r89 : ((List Int) × Unit) × Unit) =>
    L9 v80 v81 v82 v83 r89.1.1 r88.1.1
   else none
  else
   some ((v84, v85, ()), ())
 else
  some ((v84, v85, ()), ())
noncomputable def pleachref7_Split_T (L1 : List (List Int) → List Int → Int → Int → Int → Int → Option (((List Int) × (List Int) × Unit) × Unit)) (arr_0 : List (List Int)) (x_1 : List Int) (x_2 : Int) : Option (((List Int) × (List Int) × Unit) × Unit) :=
 bif decide ((x_1.length : Int) < 2) then
  bif Nat.ble (0 + x_1.length) 1073741824 then
   some (([] ++ x_1, [], ()), ())
  else none
 else
  L1 arr_0 x_1 x_2 0 0 0
noncomputable def pleachref7_Split_L2 (n : Nat) (m1 : Nat) (r1 : List (List Int) → List Int → Int → Int → Int → Int → Option (((List Int) × (List Int) × Unit) × Unit)) : Nat → List (List Int) → List Int → Int → Int → Int → Int → Int → Option (((List Int) × (List Int) × Unit) × Unit) := iter (fun _ _ _ _ _ _ _ => none) fun L => pleachref7_Split_B2 L r1
noncomputable def pleachref7_Split_L7 (n : Nat) : Nat → List (List Int) → Int → Int → Int → List Int → List Int → Option (((List Int) × (List Int) × Unit) × Unit) := iter (fun _ _ _ _ _ _ => none) fun L => pleachref7_Split_B7 L
noncomputable def pleachref7_Split_L6 (n : Nat) : Nat → List (List Int) → Int → Int → Int → Int → Int → Bool → Bool → List Int → List Int → Option (((List Int) × (List Int) × Unit) × Unit) := iterN (fun _ _ _ _ _ _ _ _ _ _ => none) fun m L => pleachref7_Split_B6 (pleachref7_Split_L7 n m)
noncomputable def pleachref7_Split_L9 (n : Nat) : Nat → List (List Int) → Int → Int → Int → List Int → List Int → Option (((List Int) × (List Int) × Unit) × Unit) := iter (fun _ _ _ _ _ _ => none) fun L => pleachref7_Split_B9 L
noncomputable def pleachref7_Split_L8 (n : Nat) : Nat → List (List Int) → Int → Int → Int → Bool → List Int → List Int → Option (((List Int) × (List Int) × Unit) × Unit) := iterN (fun _ _ _ _ _ _ _ => none) fun m L => pleachref7_Split_B8 (pleachref7_Split_L9 n m)
noncomputable def pleachref7_Split_L5 (n : Nat) : Nat → List (List Int) → Int → Int → Int → List Int → List Int → Option (((List Int) × (List Int) × Unit) × Unit) := iter (fun _ _ _ _ _ _ => none) fun L => pleachref7_Split_B5 L (pleachref7_Split_L6 n n) (pleachref7_Split_L8 n n)
noncomputable def pleachref7_Split_L4 (n : Nat) : Nat → List (List Int) → List Int → Int → Int → Int → Int → Bool → List Int → List Int → Option (((List Int) × (List Int) × Unit) × Unit) := iterN (fun _ _ _ _ _ _ _ _ _ => none) fun m L => pleachref7_Split_B4 (pleachref7_Split_L5 n m) (pleachref7_Split_L6 n n) (pleachref7_Split_L8 n n)
noncomputable def pleachref7_Split_L3 (n : Nat) : Nat → List (List Int) → List Int → Int → Int → Int → Int → List Int → List Int → Option (((List Int) × (List Int) × Unit) × Unit) := iter (fun _ _ _ _ _ _ _ _ => none) fun L => pleachref7_Split_B3 L (pleachref7_Split_L4 n n)
noncomputable def pleachref7_Split_L1 (n : Nat) : Nat → List (List Int) → List Int → Int → Int → Int → Int → Option (((List Int) × (List Int) × Unit) × Unit) := iterN (fun _ _ _ _ _ _ => none) fun m L => pleachref7_Split_B1 (pleachref7_Split_L2 n m L n) (pleachref7_Split_L3 n n)
noncomputable def pleachref7_Split_X1 (n m : Nat) (v1 : List (List Int)) (v2 : List Int) (v3 : Int) (v4 : Int) (v5 : Int) (v6 : Int) : Option (((List Int) × (List Int) × Unit) × Unit) :=
 atLoop pleachref7_Split_Γ tab (fiB [.val t42, .val t33, .val t2] pleachref7_Split_fi) n [.val t42, .val t33, .val t2] [⟨t33, [true], none⟩, ⟨t33, [true], none⟩] Try.f99 [1, 1, 1, 0, 1, 0] [] [0, 1, 2, 8, 9, 10] m
 ⟨[(0, SV.cv (CV.one (LV.pure t42 v1))), (1, SV.cv (CV.one (LV.pure t33 v2))), (2, SV.cv (CV.one (LV.pure t2 v3))), (8, SV.cv (CV.one (LV.pure t2 v4))), (9, SV.cv (CV.one (LV.pure t2 v5))), (10, SV.cv (CV.one (LV.pure t2 v6)))],
  []⟩
noncomputable def pleachref7_Split_X2 (n m1 m : Nat) (v7 : List (List Int)) (v8 : List Int) (v9 : Int) (v10 : Int) (v11 : Int) (v12 : Int) (v13 : Int) : Option (((List Int) × (List Int) × Unit) × Unit) :=
 atLoop pleachref7_Split_Γ tab (fiB [.val t42, .val t33, .val t2] pleachref7_Split_fi) n [.val t42, .val t33, .val t2] [⟨t33, [true], none⟩, ⟨t33, [true], none⟩] Try.f99 [1, 1, 1, 0, 1, 0, 0, 1, 0, 0, 1, 0] [(m1, [0, 1, 2, 8, 9, 10])] [0, 1, 2, 8, 9, 10, 11] m
 ⟨[(0, SV.cv (CV.one (LV.pure t42 v7))), (1, SV.cv (CV.one (LV.pure t33 v8))), (2, SV.cv (CV.one (LV.pure t2 v9))), (8, SV.cv (CV.one (LV.pure t2 v10))), (9, SV.cv (CV.one (LV.pure t2 v11))), (10, SV.cv (CV.one (LV.pure t2 v12))), (11, SV.cv (CV.one (LV.pure t2 v13)))],
  []⟩
noncomputable def pleachref7_Split_X3 (n m : Nat) (v14 : List (List Int)) (v15 : List Int) (v16 : Int) (v17 : Int) (v18 : Int) (v19 : Int) (v20 : List Int) (v21 : List Int) : Option (((List Int) × (List Int) × Unit) × Unit) :=
 atLoop pleachref7_Split_Γ tab (fiB [.val t42, .val t33, .val t2] pleachref7_Split_fi) n [.val t42, .val t33, .val t2] [⟨t33, [true], none⟩, ⟨t33, [true], none⟩] Try.f99 [1, 1, 1, 1, 1, 0, 1, 0] [] [0, 1, 2, 8, 9, 12, 13, 14] m
 ⟨[(0, SV.cv (CV.one (LV.pure t42 v14))), (1, SV.cv (CV.one (LV.pure t33 v15))), (2, SV.cv (CV.one (LV.pure t2 v16))), (8, SV.cv (CV.one (LV.pure t2 v17))), (9, SV.cv (CV.one (LV.pure t2 v18))), (12, SV.cv (CV.one (LV.ref (888888, 12)))), (13, SV.cv (CV.one (LV.ref (888888, 13)))), (14, SV.cv (CV.one (LV.pure t2 v19)))],
  [((888888, 12), Ob.row 3 t2 v20), ((888888, 13), Ob.row 3 t2 v21)]⟩
noncomputable def pleachref7_Split_X4 (n m : Nat) (v22 : List (List Int)) (v23 : List Int) (v24 : Int) (v25 : Int) (v26 : Int) (v27 : Int) (v28 : Bool) (v29 : List Int) (v30 : List Int) : Option (((List Int) × (List Int) × Unit) × Unit) :=
 atLoop pleachref7_Split_Γ tab (fiB [.val t42, .val t33, .val t2] pleachref7_Split_fi) n [.val t42, .val t33, .val t2] [⟨t33, [true], none⟩, ⟨t33, [true], none⟩] Try.f99 [1, 1, 1, 1, 1, 1, 0, 0] [] [0, 1, 2, 8, 9, 12, 13, 14, 78] m
 ⟨[(0, SV.cv (CV.one (LV.pure t42 v22))), (1, SV.cv (CV.one (LV.pure t33 v23))), (2, SV.cv (CV.one (LV.pure t2 v24))), (8, SV.cv (CV.one (LV.pure t2 v25))), (9, SV.cv (CV.one (LV.pure t2 v26))), (12, SV.cv (CV.one (LV.ref (888888, 12)))), (13, SV.cv (CV.one (LV.ref (888888, 13)))), (14, SV.cv (CV.one (LV.pure t2 v27))), (78, SV.cv (CV.one (LV.pure t4 v28)))],
  [((888888, 12), Ob.row 3 t2 v29), ((888888, 13), Ob.row 3 t2 v30)]⟩
noncomputable def pleachref7_Split_X5 (n m : Nat) (v35 : List (List Int)) (v36 : Int) (v37 : Int) (v38 : Int) (v39 : List Int) (v40 : List Int) : Option (((List Int) × (List Int) × Unit) × Unit) :=
 atLoop pleachref7_Split_Γ tab (fiB [.val t42, .val t33, .val t2] pleachref7_Split_fi) n [.val t42, .val t33, .val t2] [⟨t33, [true], none⟩, ⟨t33, [true], none⟩] Try.f99 [1, 1, 1, 1, 1, 1, 0, 0] [] [0, 1, 2, 8, 9, 12, 13, 14, 78] m
 ⟨[(0, SV.cv (CV.one (LV.pure t42 v35))), (2, SV.cv (CV.one (LV.pure t2 v36))), (8, SV.cv (CV.one (LV.pure t2 v37))), (9, SV.cv (CV.one (LV.pure t2 v38))), (12, SV.cv (CV.one (LV.ref (888888, 12)))), (13, SV.cv (CV.one (LV.ref (888888, 13))))],
  [((888888, 12), Ob.row 3 t2 v39), ((888888, 13), Ob.row 3 t2 v40)]⟩
noncomputable def pleachref7_Split_X6 (n m : Nat) (v45 : List (List Int)) (v46 : Int) (v47 : Int) (v48 : Int) (v49 : Int) (v50 : Int) (v51 : Bool) (v52 : Bool) (v53 : List Int) (v54 : List Int) : Option (((List Int) × (List Int) × Unit) × Unit) :=
 atLoop pleachref7_Split_Γ tab (fiB [.val t42, .val t33, .val t2] pleachref7_Split_fi) n [.val t42, .val t33, .val t2] [⟨t33, [true], none⟩, ⟨t33, [true], none⟩] Try.f99 [1, 1, 1, 1, 1, 1, 1, 0, 0] [] [0, 2, 8, 9, 12, 13, 127, 128, 129, 130, 131] m
 ⟨[(0, SV.cv (CV.one (LV.pure t42 v45))), (2, SV.cv (CV.one (LV.pure t2 v46))), (8, SV.cv (CV.one (LV.pure t2 v47))), (9, SV.cv (CV.one (LV.pure t2 v48))), (12, SV.cv (CV.one (LV.ref (888888, 12)))), (13, SV.cv (CV.one (LV.ref (888888, 127)))), (127, SV.cv (CV.one (LV.ref (888888, 127)))), (128, SV.cv (CV.one (LV.pure t2 v49))), (129, SV.cv (CV.one (LV.pure t2 v50))), (130, SV.cv (CV.one (LV.pure t4 v51))), (131, SV.cv (CV.one (LV.pure t4 v52)))],
  [((888888, 12), Ob.row 3 t2 v53), ((888888, 127), Ob.row 3 t2 v54)]⟩
noncomputable def pleachref7_Split_X7 (n m : Nat) (v59 : List (List Int)) (v60 : Int) (v61 : Int) (v62 : Int) (v63 : List Int) (v64 : List Int) : Option (((List Int) × (List Int) × Unit) × Unit) :=
 atLoop pleachref7_Split_Γ tab (fiB [.val t42, .val t33, .val t2] pleachref7_Split_fi) n [.val t42, .val t33, .val t2] [⟨t33, [true], none⟩, ⟨t33, [true], none⟩] Try.f99 [1, 1, 1, 1, 1, 1, 1, 0, 0] [] [0, 2, 8, 9, 12, 13, 127, 128, 129, 130, 131] m
 ⟨[(0, SV.cv (CV.one (LV.pure t42 v59))), (2, SV.cv (CV.one (LV.pure t2 v60))), (8, SV.cv (CV.one (LV.pure t2 v61))), (9, SV.cv (CV.one (LV.pure t2 v62))), (12, SV.cv (CV.one (LV.ref (888888, 12)))), (13, SV.cv (CV.one (LV.ref (888888, 13))))],
  [((888888, 12), Ob.row 3 t2 v63), ((888888, 13), Ob.row 3 t2 v64)]⟩
noncomputable def pleachref7_Split_X8 (n m : Nat) (v69 : List (List Int)) (v70 : Int) (v71 : Int) (v72 : Int) (v73 : Bool) (v74 : List Int) (v75 : List Int) : Option (((List Int) × (List Int) × Unit) × Unit) :=
 atLoop pleachref7_Split_Γ tab (fiB [.val t42, .val t33, .val t2] pleachref7_Split_fi) n [.val t42, .val t33, .val t2] [⟨t33, [true], none⟩, ⟨t33, [true], none⟩] Try.f99 [1, 1, 1, 1, 1, 1, 1, 0, 0] [] [0, 2, 8, 9, 12, 13, 131] m
 ⟨[(0, SV.cv (CV.one (LV.pure t42 v69))), (2, SV.cv (CV.one (LV.pure t2 v70))), (8, SV.cv (CV.one (LV.pure t2 v71))), (9, SV.cv (CV.one (LV.pure t2 v72))), (12, SV.cv (CV.one (LV.ref (888888, 12)))), (13, SV.cv (CV.one (LV.ref (888888, 13)))), (131, SV.cv (CV.one (LV.pure t4 v73)))],
  [((888888, 12), Ob.row 3 t2 v74), ((888888, 13), Ob.row 3 t2 v75)]⟩
noncomputable def pleachref7_Split_X9 (n m : Nat) (v80 : List (List Int)) (v81 : Int) (v82 : Int) (v83 : Int) (v84 : List Int) (v85 : List Int) : Option (((List Int) × (List Int) × Unit) × Unit) :=
 atLoop pleachref7_Split_Γ tab (fiB [.val t42, .val t33, .val t2] pleachref7_Split_fi) n [.val t42, .val t33, .val t2] [⟨t33, [true], none⟩, ⟨t33, [true], none⟩] Try.f99 [1, 1, 1, 1, 1, 1, 1, 0, 0] [] [0, 2, 8, 9, 12, 13, 131] m
 ⟨[(0, SV.cv (CV.one (LV.pure t42 v80))), (2, SV.cv (CV.one (LV.pure t2 v81))), (8, SV.cv (CV.one (LV.pure t2 v82))), (9, SV.cv (CV.one (LV.pure t2 v83))), (12, SV.cv (CV.one (LV.ref (888888, 12)))), (13, SV.cv (CV.one (LV.ref (888888, 13))))],
  [((888888, 12), Ob.row 3 t2 v84), ((888888, 13), Ob.row 3 t2 v85)]⟩
theorem pleachref7_Split_step1 (n m : Nat) (v1 : List (List Int)) (v2 : List Int) (v3 : Int) (v4 : Int) (v5 : Int) (v6 : Int) : pleachref7_Split_X1 n (m + 1) v1 v2 v3 v4 v5 v6 = pleachref7_Split_B1 (pleachref7_Split_X2 n m n) (pleachref7_Split_X3 n n) v1 v2 v3 v4 v5 v6 := by kernel_rfl
theorem pleachref7_Split_step2 (n m1 m : Nat) (v7 : List (List Int)) (v8 : List Int) (v9 : Int) (v10 : Int) (v11 : Int) (v12 : Int) (v13 : Int) : pleachref7_Split_X2 n m1 (m + 1) v7 v8 v9 v10 v11 v12 v13 = pleachref7_Split_B2 (pleachref7_Split_X2 n m1 m) (pleachref7_Split_X1 n m1) v7 v8 v9 v10 v11 v12 v13 := by kernel_rfl
theorem pleachref7_Split_step3 (n m : Nat) (v14 : List (List Int)) (v15 : List Int) (v16 : Int) (v17 : Int) (v18 : Int) (v19 : Int) (v20 : List Int) (v21 : List Int) : pleachref7_Split_X3 n (m + 1) v14 v15 v16 v17 v18 v19 v20 v21 = pleachref7_Split_B3 (pleachref7_Split_X3 n m) (pleachref7_Split_X4 n n) v14 v15 v16 v17 v18 v19 v20 v21 := by kernel_rfl
theorem pleachref7_Split_step4 (n m : Nat) (v22 : List (List Int)) (v23 : List Int) (v24 : Int) (v25 : Int) (v26 : Int) (v27 : Int) (v28 : Bool) (v29 : List Int) (v30 : List Int) : pleachref7_Split_X4 n (m + 1) v22 v23 v24 v25 v26 v27 v28 v29 v30 = pleachref7_Split_B4 (pleachref7_Split_X5 n m) (pleachref7_Split_X6 n n) (pleachref7_Split_X8 n n) v22 v23 v24 v25 v26 v27 v28 v29 v30 := by kernel_rfl
theorem pleachref7_Split_step5 (n m : Nat) (v35 : List (List Int)) (v36 : Int) (v37 : Int) (v38 : Int) (v39 : List Int) (v40 : List Int) : pleachref7_Split_X5 n (m + 1) v35 v36 v37 v38 v39 v40 = pleachref7_Split_B5 (pleachref7_Split_X5 n m) (pleachref7_Split_X6 n n) (pleachref7_Split_X8 n n) v35 v36 v37 v38 v39 v40 := by kernel_rfl
theorem pleachref7_Split_step6 (n m : Nat) (v45 : List (List Int)) (v46 : Int) (v47 : Int) (v48 : Int) (v49 : Int) (v50 : Int) (v51 : Bool) (v52 : Bool) (v53 : List Int) (v54 : List Int) : pleachref7_Split_X6 n (m + 1) v45 v46 v47 v48 v49 v50 v51 v52 v53 v54 = pleachref7_Split_B6 (pleachref7_Split_X7 n m) v45 v46 v47 v48 v49 v50 v51 v52 v53 v54 := by kernel_rfl
theorem pleachref7_Split_step7 (n m : Nat) (v59 : List (List Int)) (v60 : Int) (v61 : Int) (v62 : Int) (v63 : List Int) (v64 : List Int) : pleachref7_Split_X7 n (m + 1) v59 v60 v61 v62 v63 v64 = pleachref7_Split_B7 (pleachref7_Split_X7 n m) v59 v60 v61 v62 v63 v64 := by kernel_rfl
theorem pleachref7_Split_step8 (n m : Nat) (v69 : List (List Int)) (v70 : Int) (v71 : Int) (v72 : Int) (v73 : Bool) (v74 : List Int) (v75 : List Int) : pleachref7_Split_X8 n (m + 1) v69 v70 v71 v72 v73 v74 v75 = pleachref7_Split_B8 (pleachref7_Split_X9 n m) v69 v70 v71 v72 v73 v74 v75 := by kernel_rfl
theorem pleachref7_Split_step9 (n m : Nat) (v80 : List (List Int)) (v81 : Int) (v82 : Int) (v83 : Int) (v84 : List Int) (v85 : List Int) : pleachref7_Split_X9 n (m + 1) v80 v81 v82 v83 v84 v85 = pleachref7_Split_B9 (pleachref7_Split_X9 n m) v80 v81 v82 v83 v84 v85 := by kernel_rfl
theorem pleachref7_Split_start (n : Nat) (arr_0 : List (List Int)) (x_1 : List Int) (x_2 : Int) : evFn pleachref7_Split_Γ tab pleachref7_Split_fi n [.val t42, .val t33, .val t2] [⟨t33, [true], none⟩, ⟨t33, [true], none⟩] Try.f99 (arr_0, x_1, x_2, ()) = pleachref7_Split_T (pleachref7_Split_X1 n n) arr_0 x_1 x_2 := by kernel_rfl
theorem pleachref7_Split_XL2 (n : Nat) (m1 : Nat) (r1 : List (List Int) → List Int → Int → Int → Int → Int → Option (((List Int) × (List Int) × Unit) × Unit)) (h1 : pleachref7_Split_X1 n m1 = r1) : ∀ m, pleachref7_Split_X2 n m1 m = pleachref7_Split_L2 n m1 r1 m
 | 0 => rfl
 | m + 1 => by
  have ih := pleachref7_Split_XL2 n m1 r1 h1 m
  funext v7 v8 v9 v10 v11 v12 v13
  rw [pleachref7_Split_step2, ih, h1]
  rfl
theorem pleachref7_Split_XL7 (n : Nat) : ∀ m, pleachref7_Split_X7 n m = pleachref7_Split_L7 n m
 | 0 => rfl
 | m + 1 => by
  have ih := pleachref7_Split_XL7 n m
  funext v59 v60 v61 v62 v63 v64
  rw [pleachref7_Split_step7, ih]
  rfl
theorem pleachref7_Split_XL6 (n : Nat) : ∀ m, pleachref7_Split_X6 n m = pleachref7_Split_L6 n m
 | 0 => rfl
 | m + 1 => by
  have ih := pleachref7_Split_XL6 n m
  funext v45 v46 v47 v48 v49 v50 v51 v52 v53 v54
  rw [pleachref7_Split_step6, pleachref7_Split_XL7 n m]
  rfl
theorem pleachref7_Split_XL9 (n : Nat) : ∀ m, pleachref7_Split_X9 n m = pleachref7_Split_L9 n m
 | 0 => rfl
 | m + 1 => by
  have ih := pleachref7_Split_XL9 n m
  funext v80 v81 v82 v83 v84 v85
  rw [pleachref7_Split_step9, ih]
  rfl
theorem pleachref7_Split_XL8 (n : Nat) : ∀ m, pleachref7_Split_X8 n m = pleachref7_Split_L8 n m
 | 0 => rfl
 | m + 1 => by
  have ih := pleachref7_Split_XL8 n m
  funext v69 v70 v71 v72 v73 v74 v75
  rw [pleachref7_Split_step8, pleachref7_Split_XL9 n m]
  rfl
theorem pleachref7_Split_XL5 (n : Nat) : ∀ m, pleachref7_Split_X5 n m = pleachref7_Split_L5 n m
 | 0 => rfl
 | m + 1 => by
  have ih := pleachref7_Split_XL5 n m
  funext v35 v36 v37 v38 v39 v40
  rw [pleachref7_Split_step5, pleachref7_Split_XL6 n n, pleachref7_Split_XL8 n n, ih]
  rfl
theorem pleachref7_Split_XL4 (n : Nat) : ∀ m, pleachref7_Split_X4 n m = pleachref7_Split_L4 n m
 | 0 => rfl
 | m + 1 => by
  have ih := pleachref7_Split_XL4 n m
  funext v22 v23 v24 v25 v26 v27 v28 v29 v30
  rw [pleachref7_Split_step4, pleachref7_Split_XL5 n m, pleachref7_Split_XL6 n n, pleachref7_Split_XL8 n n]
  rfl
theorem pleachref7_Split_XL3 (n : Nat) : ∀ m, pleachref7_Split_X3 n m = pleachref7_Split_L3 n m
 | 0 => rfl
 | m + 1 => by
  have ih := pleachref7_Split_XL3 n m
  funext v14 v15 v16 v17 v18 v19 v20 v21
  rw [pleachref7_Split_step3, pleachref7_Split_XL4 n n, ih]
  rfl
theorem pleachref7_Split_XL1 (n : Nat) : ∀ m, pleachref7_Split_X1 n m = pleachref7_Split_L1 n m
 | 0 => rfl
 | m + 1 => by
  have ih := pleachref7_Split_XL1 n m
  funext v1 v2 v3 v4 v5 v6
  rw [pleachref7_Split_step1, pleachref7_Split_XL2 n m _ ih n, pleachref7_Split_XL3 n n]
  rfl
noncomputable def pleachref7_Split_n (n : Nat) (arr_0 : List (List Int)) (x_1 : List Int) (x_2 : Int) : Option (((List Int) × (List Int) × Unit) × Unit) := pleachref7_Split_T (pleachref7_Split_L1 n n) arr_0 x_1 x_2
noncomputable def pleachref7_Split (arr_0 : List (List Int)) (x_1 : List Int) (x_2 : Int) : Option (((List Int) × (List Int) × Unit) × Unit) := pleachref7_Split_n 1099511627776 arr_0 x_1 x_2
theorem pleachref7_Split_eq (n : Nat) (arr_0 : List (List Int)) (x_1 : List Int) (x_2 : Int) : evFn pleachref7_Split_Γ tab pleachref7_Split_fi n [.val t42, .val t33, .val t2] [⟨t33, [true], none⟩, ⟨t33, [true], none⟩] Try.f99 (arr_0, x_1, x_2, ()) = pleachref7_Split_n n arr_0 x_1 x_2 := by
  rw [pleachref7_Split_start, pleachref7_Split_XL1 n n]
  rfl
noncomputable def pleachref7_Split_e : Ent := ⟨[.val t42, .val t33, .val t2], [⟨t33, [true], none⟩, ⟨t33, [true], none⟩], fun x => pleachref7_Split x.1 x.2.1 x.2.2.1⟩
theorem pleachref7_Split_good : Good tab.ty Try.prog 99 pleachref7_Split_e := by
  refine fn_good (Γ := pleachref7_Split_Γ) (fi := pleachref7_Split_fi) (n := 1099511627776) follows (gcons pleachref7_Near_good (gcons pleachref7_Rising_good (gcons pleachref7_without_good gnil))) tabok Try.func99 (by kernel_rfl) (by kernel_rfl) (fun x r h => ?_)
  obtain ⟨arr_0, x_1, x_2, _u⟩ := x
  exact (pleachref7_Split_eq 1099511627776 arr_0 x_1 x_2).trans h
noncomputable def pleachref7_parted_Γ : Ctx := [(93, pleachref7_Of_e), (99, pleachref7_Split_e)]
def pleachref7_parted_fi : Fi := { keep := [], vty := [], vals := [], live := [(0, [0, 1, 2, 3]), (1, [0, 1, 2, 9, 10]), (2, [0, 1, 2, 9, 10, 11]), (3, [8])] }
noncomputable def pleachref7_parted (d_0 : List (List Int)) (cs_1 : List ((List Int) × Int)) (i_2 : Int) (k_3 : Int) : Option (((List ((List Int) × Int)) × Unit) × Unit) :=
 bif decide (0 ≤ i_2) && decide (i_2 < (cs_1.length : Int)) then
  Option.bind (pleachref7_Split d_0 ((List.getD cs_1 i_2.toNat ([], 0)).1) k_3) fun (r1 : ((List Int) × (List Int) × Unit) × Unit) =>
  bif decide (0 ≤ i_2) && decide (i_2 ≤ (cs_1.length : Int)) then
   bif Nat.ble (0 + (List.drop 0 (List.take i_2.toNat cs_1)).length) 1073741824 then
    Option.bind (pleachref7_Of d_0 r1.1.1) fun (r2 : (((List Int) × Int) × Unit) × Unit) =>
    Option.bind (pleachref7_Of d_0 r1.1.2.1) fun (r3 : (((List Int) × Int) × Unit) × Unit) =>
    bif Nat.ble (([] ++ (List.drop 0 (List.take i_2.toNat cs_1))).length + 2) 1073741824 then
     bif (decide (0 ≤ IntKind.wrap .i64 (i_2 + 1)) && decide (IntKind.wrap .i64 (i_2 + 1) ≤ (cs_1.length : Int))) && decide ((cs_1.length : Int) ≤ (cs_1.length : Int)) then
      bif Nat.ble ((([] ++ (List.drop 0 (List.take i_2.toNat cs_1))) ++ [r2.1.1, r3.1.1]).length + (List.drop ((IntKind.wrap .i64 (i_2 + 1)).toNat) (List.take ((cs_1.length : Int).toNat) cs_1)).length) 1073741824 then
       some (((([] ++ (List.drop 0 (List.take i_2.toNat cs_1))) ++ [r2.1.1, r3.1.1]) ++ (List.drop ((IntKind.wrap .i64 (i_2 + 1)).toNat) (List.take ((cs_1.length : Int).toNat) cs_1)), ()), ())
      else none
     else none
    else none
   else none
  else none
 else none
theorem pleachref7_parted_eq (d_0 : List (List Int)) (cs_1 : List ((List Int) × Int)) (i_2 : Int) (k_3 : Int) : evFn pleachref7_parted_Γ tab pleachref7_parted_fi 1 [.val t42, .val t139, .val t2, .val t2] [⟨t139, [true], none⟩] Try.f95 (d_0, cs_1, i_2, k_3, ()) = pleachref7_parted d_0 cs_1 i_2 k_3 := by kernel_rfl
noncomputable def pleachref7_parted_e : Ent := ⟨[.val t42, .val t139, .val t2, .val t2], [⟨t139, [true], none⟩], fun x => pleachref7_parted x.1 x.2.1 x.2.2.1 x.2.2.2.1⟩
theorem pleachref7_parted_good : Good tab.ty Try.prog 95 pleachref7_parted_e := by
  refine fn_good (Γ := pleachref7_parted_Γ) (fi := pleachref7_parted_fi) (n := 1) follows (gcons pleachref7_Of_good (gcons pleachref7_Split_good gnil)) tabok Try.func95 (by kernel_rfl) (by kernel_rfl) (fun x r h => ?_)
  obtain ⟨d_0, cs_1, i_2, k_3, _u⟩ := x
  exact (pleachref7_parted_eq d_0 cs_1 i_2 k_3).trans h
noncomputable def pleachref7_JoinClus_Γ : Ctx := [(82, pleachref7_Home_e), (93, pleachref7_Of_e), (94, pleachref7_Rising_e), (95, pleachref7_parted_e)]
def pleachref7_JoinClus_fi : Fi := { keep := [], vty := [], vals := [], live := [(0, [0, 1, 2, 3, 4, 26, 27, 28, 29, 32, 33, 34, 35]), (1, [0, 1, 2, 3, 4, 11, 26, 27, 28, 29, 32, 33, 34, 35]), (2, [0, 1, 2, 3, 4, 11, 17, 26, 27, 28, 29, 32, 33, 34, 35]), (3, [10]), (4, [0, 1, 2, 3, 4, 11, 36]), (5, [10]), (6, [0, 2, 4, 11]), (7, [0, 2, 4, 11, 63]), (8, [10]), (9, [10])] }
noncomputable def pleachref7_JoinClus (d_0 : List (List Int)) (cs_1 : List ((List Int) × Int)) (at_2 : Int) (id_3 : Int) (k_4 : Int) : Option (((List ((List Int) × Int)) × Unit) × Unit) :=
 bif Nat.ble (0 + cs_1.length) 1073741824 then
  bif (cs_1.length : Int) == 0 then
   Option.bind (pleachref7_Of d_0 [id_3]) fun (r1 : (((List Int) × Int) × Unit) × Unit) =>
   some (([r1.1.1], ()), ())
  else
  bif decide (at_2 < 0) then
   some (([] ++ cs_1, ()), ())
  else
  bif decide (at_2 ≥ (cs_1.length : Int)) then
   some (([] ++ cs_1, ()), ())
  else
   Option.bind (pleachref7_Home cs_1 id_3) fun (r2 : (Int × Unit) × Unit) =>
   bif decide (r2.1.1 ≥ 0) then
    some (([] ++ cs_1, ()), ())
   else
   bif decide (0 ≤ at_2) && decide (at_2 < (cs_1.length : Int)) then
    bif Nat.ble (0 + ((List.getD cs_1 at_2.toNat ([], 0)).1).length) 1073741824 then
     bif Nat.ble (([] ++ ((List.getD cs_1 at_2.toNat ([], 0)).1)).length + 1) 1073741824 then
      Option.bind (pleachref7_Rising (([] ++ ((List.getD cs_1 at_2.toNat ([], 0)).1)) ++ [id_3])) fun (r3 : ((List Int) × Unit) × Unit) =>
      Option.bind (pleachref7_Of d_0 r3.1.1) fun (r4 : (((List Int) × Int) × Unit) × Unit) =>
      bif decide (0 ≤ at_2) && decide (at_2 < (([] ++ cs_1).length : Int)) then
       bif decide (0 ≤ at_2) && decide (at_2 < (([] ++ cs_1).length : Int)) then
        bif decide (0 ≤ at_2) && decide (at_2 < ((List.set ([] ++ cs_1) at_2.toNat r4.1.1).length : Int)) then
         bif decide (0 ≤ at_2) && decide (at_2 < ((List.set ([] ++ cs_1) at_2.toNat r4.1.1).length : Int)) then
          bif decide ((((List.getD (List.set ([] ++ cs_1) at_2.toNat r4.1.1) at_2.toNat ([], 0)).1).length : Int) > IntKind.wrap .i64 ((IntKind.wrap .i64 (3 * k_4)) - 1)) then
           Option.bind (pleachref7_parted d_0 (List.set ([] ++ cs_1) at_2.toNat r4.1.1) at_2 k_4) fun (r5 : ((List ((List Int) × Int)) × Unit) × Unit) =>
           some ((r5.1.1, ()), ())
          else
           some ((List.set ([] ++ cs_1) at_2.toNat r4.1.1, ()), ())
         else none
        else none
       else none
      else none
     else none
    else none
   else none
 else none
theorem pleachref7_JoinClus_eq (d_0 : List (List Int)) (cs_1 : List ((List Int) × Int)) (at_2 : Int) (id_3 : Int) (k_4 : Int) : evFn pleachref7_JoinClus_Γ tab pleachref7_JoinClus_fi 1 [.val t42, .val t139, .val t2, .val t2, .val t2] [⟨t139, [true], none⟩] Try.f85 (d_0, cs_1, at_2, id_3, k_4, ()) = pleachref7_JoinClus d_0 cs_1 at_2 id_3 k_4 := by kernel_rfl
noncomputable def pleachref7_JoinClus_e : Ent := ⟨[.val t42, .val t139, .val t2, .val t2, .val t2], [⟨t139, [true], none⟩], fun x => pleachref7_JoinClus x.1 x.2.1 x.2.2.1 x.2.2.2.1 x.2.2.2.2.1⟩
theorem pleachref7_JoinClus_good : Good tab.ty Try.prog 85 pleachref7_JoinClus_e := by
  refine fn_good (Γ := pleachref7_JoinClus_Γ) (fi := pleachref7_JoinClus_fi) (n := 1) follows (gcons pleachref7_Home_good (gcons pleachref7_Of_good (gcons pleachref7_Rising_good (gcons pleachref7_parted_good gnil)))) tabok Try.func85 (by kernel_rfl) (by kernel_rfl) (fun x r h => ?_)
  obtain ⟨d_0, cs_1, at_2, id_3, k_4, _u⟩ := x
  exact (pleachref7_JoinClus_eq d_0 cs_1 at_2 id_3 k_4).trans h
noncomputable def pleachref7_leaders_Γ : Ctx := [(94, pleachref7_Rising_e)]
def pleachref7_leaders_fi : Fi := { keep := [], vty := [(3, 33)], vals := [], live := [(0, [0]), (1, [0, 3]), (2, [0, 3, 4]), (3, [0, 3, 4, 8]), (4, [0, 3, 4]), (5, [0, 3, 4]), (6, [2])] }
noncomputable def pleachref7_leaders_B1 (L1 : (List ((List Int) × Int)) → Int → List Int → Option (((List Int) × Unit) × Unit)) (v1 : List ((List Int) × Int)) (v2 : Int) (v3 : List Int) : Option (((List Int) × Unit) × Unit) :=
 bif decide (v2 < (v1.length : Int)) then
  bif decide (0 ≤ v2) && decide (v2 < (v1.length : Int)) then
   bif Nat.ble (v3.length + 1) 1073741824 then
    L1 v1 (IntKind.wrap .i64 (v2 + 1)) (v3 ++ [(List.getD v1 v2.toNat ([], 0)).2])
   else none
  else none
 else
  Option.bind (pleachref7_Rising v3) fun (r4 : ((List Int) × Unit) × Unit) =>
  some ((r4.1.1, ()), ())
noncomputable def pleachref7_leaders_T (L1 : (List ((List Int) × Int)) → Int → List Int → Option (((List Int) × Unit) × Unit)) (cs_0 : List ((List Int) × Int)) : Option (((List Int) × Unit) × Unit) :=
 L1 cs_0 0 []
noncomputable def pleachref7_leaders_L1 (n : Nat) : Nat → (List ((List Int) × Int)) → Int → List Int → Option (((List Int) × Unit) × Unit) := iter (fun _ _ _ => none) fun L => pleachref7_leaders_B1 L
noncomputable def pleachref7_leaders_X1 (n m : Nat) (v1 : List ((List Int) × Int)) (v2 : Int) (v3 : List Int) : Option (((List Int) × Unit) × Unit) :=
 atLoop pleachref7_leaders_Γ tab (fiB [.val t139] pleachref7_leaders_fi) n [.val t139] [⟨t33, [true], none⟩] Try.f92 [1, 1, 0, 1, 0] [] [0, 3, 4] m
 ⟨[(0, SV.cv (CV.one (LV.pure t139 v1))), (3, SV.cv (CV.one (LV.ref (888888, 3)))), (4, SV.cv (CV.one (LV.pure t2 v2)))],
  [((888888, 3), Ob.row 3 t2 v3)]⟩
theorem pleachref7_leaders_step1 (n m : Nat) (v1 : List ((List Int) × Int)) (v2 : Int) (v3 : List Int) : pleachref7_leaders_X1 n (m + 1) v1 v2 v3 = pleachref7_leaders_B1 (pleachref7_leaders_X1 n m) v1 v2 v3 := by kernel_rfl
theorem pleachref7_leaders_start (n : Nat) (cs_0 : List ((List Int) × Int)) : evFn pleachref7_leaders_Γ tab pleachref7_leaders_fi n [.val t139] [⟨t33, [true], none⟩] Try.f92 (cs_0, ()) = pleachref7_leaders_T (pleachref7_leaders_X1 n n) cs_0 := by kernel_rfl
theorem pleachref7_leaders_XL1 (n : Nat) : ∀ m, pleachref7_leaders_X1 n m = pleachref7_leaders_L1 n m
 | 0 => rfl
 | m + 1 => by
  have ih := pleachref7_leaders_XL1 n m
  funext v1 v2 v3
  rw [pleachref7_leaders_step1, ih]
  rfl
noncomputable def pleachref7_leaders_n (n : Nat) (cs_0 : List ((List Int) × Int)) : Option (((List Int) × Unit) × Unit) := pleachref7_leaders_T (pleachref7_leaders_L1 n n) cs_0
noncomputable def pleachref7_leaders (cs_0 : List ((List Int) × Int)) : Option (((List Int) × Unit) × Unit) := pleachref7_leaders_n 1099511627776 cs_0
theorem pleachref7_leaders_eq (n : Nat) (cs_0 : List ((List Int) × Int)) : evFn pleachref7_leaders_Γ tab pleachref7_leaders_fi n [.val t139] [⟨t33, [true], none⟩] Try.f92 (cs_0, ()) = pleachref7_leaders_n n cs_0 := by
  rw [pleachref7_leaders_start, pleachref7_leaders_XL1 n n]
  rfl
noncomputable def pleachref7_leaders_e : Ent := ⟨[.val t139], [⟨t33, [true], none⟩], fun x => pleachref7_leaders x.1⟩
theorem pleachref7_leaders_good : Good tab.ty Try.prog 92 pleachref7_leaders_e := by
  refine fn_good (Γ := pleachref7_leaders_Γ) (fi := pleachref7_leaders_fi) (n := 1099511627776) follows (gcons pleachref7_Rising_good gnil) tabok Try.func92 (by kernel_rfl) (by kernel_rfl) (fun x r h => ?_)
  obtain ⟨cs_0, _u⟩ := x
  exact (pleachref7_leaders_eq 1099511627776 cs_0).trans h
noncomputable def pleachref7_Group_Γ : Ctx := [(93, pleachref7_Of_e), (95, pleachref7_parted_e)]
def pleachref7_Group_fi : Fi := { keep := [], vty := [], vals := [], live := [(0, [0, 1, 2]), (1, [0, 1, 2, 11]), (2, [6]), (3, [0, 2, 7]), (4, [0, 2, 7, 8]), (5, [0, 2, 7, 8, 19]), (6, [0, 2, 7, 8]), (7, [0, 2, 7, 8, 31]), (8, [0, 2, 7, 8]), (9, [6])] }
noncomputable def pleachref7_Group_B1 (L2 : List (List Int) → Int → Int → Bool → (List ((List Int) × Int)) → Option (((List ((List Int) × Int)) × Unit) × Unit)) (v2 : List (List Int)) (v3 : Int) (v4 : Int) (v5 : List ((List Int) × Int)) : Option (((List ((List Int) × Int)) × Unit) × Unit) :=
 bif decide (v4 < (v5.length : Int)) then
  L2 v2 v3 v4 (decide (v4 < (v5.length : Int))) v5
 else
  some ((v5, ()), ())
noncomputable def pleachref7_Group_B2 (L3 : List (List Int) → Int → Int → (List ((List Int) × Int)) → Option (((List ((List Int) × Int)) × Unit) × Unit)) (L1 : List (List Int) → Int → Int → (List ((List Int) × Int)) → Option (((List ((List Int) × Int)) × Unit) × Unit)) (v6 : List (List Int)) (v7 : Int) (v8 : Int) (v9 : Bool) (v10 : List ((List Int) × Int)) : Option (((List ((List Int) × Int)) × Unit) × Unit) :=
 bif decide (0 ≤ v8) && decide (v8 < (v10.length : Int)) then
  bif decide (0 ≤ v8) && decide (v8 < (v10.length : Int)) then
   bif decide ((((List.getD v10 v8.toNat ([], 0)).1).length : Int) > IntKind.wrap .i64 ((IntKind.wrap .i64 (3 * v7)) - 1)) then
    Option.bind (pleachref7_parted v6 v10 v8 v7) fun (r11 : ((List ((List Int) × Int)) × Unit) × Unit) =>
    L3 v6 v7 v8 r11.1.1
   else
    L1 v6 v7 (IntKind.wrap .i64 (v8 + 1)) v10
  else none
 else none
noncomputable def pleachref7_Group_B3 (L3 : List (List Int) → Int → Int → (List ((List Int) × Int)) → Option (((List ((List Int) × Int)) × Unit) × Unit)) (L1 : List (List Int) → Int → Int → (List ((List Int) × Int)) → Option (((List ((List Int) × Int)) × Unit) × Unit)) (v12 : List (List Int)) (v13 : Int) (v14 : Int) (v15 : List ((List Int) × Int)) : Option (((List ((List Int) × Int)) × Unit) × Unit) :=
 bif decide (0 ≤ v14) && decide (v14 < (v15.length : Int)) then
  bif decide (0 ≤ v14) && decide (v14 < (v15.length : Int)) then
   bif decide ((((List.getD v15 v14.toNat ([], 0)).1).length : Int) > IntKind.wrap .i64 ((IntKind.wrap .i64 (3 * v13)) - 1)) then
    Option.bind (pleachref7_parted v12 v15 v14 v13) fun (r16 : ((List ((List Int) × Int)) × Unit) × Unit) =>
    L3 v12 v13 v14 r16.1.1
   else
    L1 v12 v13 (IntKind.wrap .i64 (v14 + 1)) v15
  else none
 else none
noncomputable def pleachref7_Group_T (L1 : List (List Int) → Int → Int → (List ((List Int) × Int)) → Option (((List ((List Int) × Int)) × Unit) × Unit)) (d_0 : List (List Int)) (l_1 : List Int) (k_2 : Int) : Option (((List ((List Int) × Int)) × Unit) × Unit) :=
 bif (l_1.length : Int) == 0 then
  some (([], ()), ())
 else
  Option.bind (pleachref7_Of d_0 l_1) fun (r1 : (((List Int) × Int) × Unit) × Unit) =>
  L1 d_0 k_2 0 [r1.1.1]
noncomputable def pleachref7_Group_L3 (n : Nat) (m1 : Nat) (r1 : List (List Int) → Int → Int → (List ((List Int) × Int)) → Option (((List ((List Int) × Int)) × Unit) × Unit)) : Nat → List (List Int) → Int → Int → (List ((List Int) × Int)) → Option (((List ((List Int) × Int)) × Unit) × Unit) := iter (fun _ _ _ _ => none) fun L => pleachref7_Group_B3 L r1
noncomputable def pleachref7_Group_L2 (n : Nat) (m1 : Nat) (r1 : List (List Int) → Int → Int → (List ((List Int) × Int)) → Option (((List ((List Int) × Int)) × Unit) × Unit)) : Nat → List (List Int) → Int → Int → Bool → (List ((List Int) × Int)) → Option (((List ((List Int) × Int)) × Unit) × Unit) := iterN (fun _ _ _ _ _ => none) fun m L => pleachref7_Group_B2 (pleachref7_Group_L3 n m1 r1 m) r1
noncomputable def pleachref7_Group_L1 (n : Nat) : Nat → List (List Int) → Int → Int → (List ((List Int) × Int)) → Option (((List ((List Int) × Int)) × Unit) × Unit) := iterN (fun _ _ _ _ => none) fun m L => pleachref7_Group_B1 (pleachref7_Group_L2 n m L n)
noncomputable def pleachref7_Group_X1 (n m : Nat) (v2 : List (List Int)) (v3 : Int) (v4 : Int) (v5 : List ((List Int) × Int)) : Option (((List ((List Int) × Int)) × Unit) × Unit) :=
 atLoop pleachref7_Group_Γ tab (fiB [.val t42, .val t33, .val t2] pleachref7_Group_fi) n [.val t42, .val t33, .val t2] [⟨t139, [true], none⟩] Try.f91 [1, 1, 1, 0, 1, 0] [] [0, 2, 7, 8] m
 ⟨[(0, SV.cv (CV.one (LV.pure t42 v2))), (2, SV.cv (CV.one (LV.pure t2 v3))), (7, SV.cv (CV.one (LV.ref (888888, 7)))), (8, SV.cv (CV.one (LV.pure t2 v4)))],
  [((888888, 7), Ob.row 142 t141 v5)]⟩
noncomputable def pleachref7_Group_X2 (n m1 m : Nat) (v6 : List (List Int)) (v7 : Int) (v8 : Int) (v9 : Bool) (v10 : List ((List Int) × Int)) : Option (((List ((List Int) × Int)) × Unit) × Unit) :=
 atLoop pleachref7_Group_Γ tab (fiB [.val t42, .val t33, .val t2] pleachref7_Group_fi) n [.val t42, .val t33, .val t2] [⟨t139, [true], none⟩] Try.f91 [1, 1, 1, 0, 1, 0, 0, 1, 0, 0, 0] [(m1, [0, 2, 7, 8])] [0, 2, 7, 8, 19] m
 ⟨[(0, SV.cv (CV.one (LV.pure t42 v6))), (2, SV.cv (CV.one (LV.pure t2 v7))), (7, SV.cv (CV.one (LV.ref (888888, 7)))), (8, SV.cv (CV.one (LV.pure t2 v8))), (19, SV.cv (CV.one (LV.pure t4 v9)))],
  [((888888, 7), Ob.row 142 t141 v10)]⟩
noncomputable def pleachref7_Group_X3 (n m1 m : Nat) (v12 : List (List Int)) (v13 : Int) (v14 : Int) (v15 : List ((List Int) × Int)) : Option (((List ((List Int) × Int)) × Unit) × Unit) :=
 atLoop pleachref7_Group_Γ tab (fiB [.val t42, .val t33, .val t2] pleachref7_Group_fi) n [.val t42, .val t33, .val t2] [⟨t139, [true], none⟩] Try.f91 [1, 1, 1, 0, 1, 0, 0, 1, 0, 0, 0] [(m1, [0, 2, 7, 8])] [0, 2, 7, 8, 19] m
 ⟨[(0, SV.cv (CV.one (LV.pure t42 v12))), (2, SV.cv (CV.one (LV.pure t2 v13))), (7, SV.cv (CV.one (LV.ref (888888, 7)))), (8, SV.cv (CV.one (LV.pure t2 v14)))],
  [((888888, 7), Ob.row 142 t141 v15)]⟩
theorem pleachref7_Group_step1 (n m : Nat) (v2 : List (List Int)) (v3 : Int) (v4 : Int) (v5 : List ((List Int) × Int)) : pleachref7_Group_X1 n (m + 1) v2 v3 v4 v5 = pleachref7_Group_B1 (pleachref7_Group_X2 n m n) v2 v3 v4 v5 := by kernel_rfl
theorem pleachref7_Group_step2 (n m1 m : Nat) (v6 : List (List Int)) (v7 : Int) (v8 : Int) (v9 : Bool) (v10 : List ((List Int) × Int)) : pleachref7_Group_X2 n m1 (m + 1) v6 v7 v8 v9 v10 = pleachref7_Group_B2 (pleachref7_Group_X3 n m1 m) (pleachref7_Group_X1 n m1) v6 v7 v8 v9 v10 := by kernel_rfl
theorem pleachref7_Group_step3 (n m1 m : Nat) (v12 : List (List Int)) (v13 : Int) (v14 : Int) (v15 : List ((List Int) × Int)) : pleachref7_Group_X3 n m1 (m + 1) v12 v13 v14 v15 = pleachref7_Group_B3 (pleachref7_Group_X3 n m1 m) (pleachref7_Group_X1 n m1) v12 v13 v14 v15 := by kernel_rfl
theorem pleachref7_Group_start (n : Nat) (d_0 : List (List Int)) (l_1 : List Int) (k_2 : Int) : evFn pleachref7_Group_Γ tab pleachref7_Group_fi n [.val t42, .val t33, .val t2] [⟨t139, [true], none⟩] Try.f91 (d_0, l_1, k_2, ()) = pleachref7_Group_T (pleachref7_Group_X1 n n) d_0 l_1 k_2 := by kernel_rfl
theorem pleachref7_Group_XL3 (n : Nat) (m1 : Nat) (r1 : List (List Int) → Int → Int → (List ((List Int) × Int)) → Option (((List ((List Int) × Int)) × Unit) × Unit)) (h1 : pleachref7_Group_X1 n m1 = r1) : ∀ m, pleachref7_Group_X3 n m1 m = pleachref7_Group_L3 n m1 r1 m
 | 0 => rfl
 | m + 1 => by
  have ih := pleachref7_Group_XL3 n m1 r1 h1 m
  funext v12 v13 v14 v15
  rw [pleachref7_Group_step3, ih, h1]
  rfl
theorem pleachref7_Group_XL2 (n : Nat) (m1 : Nat) (r1 : List (List Int) → Int → Int → (List ((List Int) × Int)) → Option (((List ((List Int) × Int)) × Unit) × Unit)) (h1 : pleachref7_Group_X1 n m1 = r1) : ∀ m, pleachref7_Group_X2 n m1 m = pleachref7_Group_L2 n m1 r1 m
 | 0 => rfl
 | m + 1 => by
  have ih := pleachref7_Group_XL2 n m1 r1 h1 m
  funext v6 v7 v8 v9 v10
  rw [pleachref7_Group_step2, pleachref7_Group_XL3 n m1 r1 h1 m, h1]
  rfl
theorem pleachref7_Group_XL1 (n : Nat) : ∀ m, pleachref7_Group_X1 n m = pleachref7_Group_L1 n m
 | 0 => rfl
 | m + 1 => by
  have ih := pleachref7_Group_XL1 n m
  funext v2 v3 v4 v5
  rw [pleachref7_Group_step1, pleachref7_Group_XL2 n m _ ih n]
  rfl
noncomputable def pleachref7_Group_n (n : Nat) (d_0 : List (List Int)) (l_1 : List Int) (k_2 : Int) : Option (((List ((List Int) × Int)) × Unit) × Unit) := pleachref7_Group_T (pleachref7_Group_L1 n n) d_0 l_1 k_2
noncomputable def pleachref7_Group (d_0 : List (List Int)) (l_1 : List Int) (k_2 : Int) : Option (((List ((List Int) × Int)) × Unit) × Unit) := pleachref7_Group_n 1099511627776 d_0 l_1 k_2
theorem pleachref7_Group_eq (n : Nat) (d_0 : List (List Int)) (l_1 : List Int) (k_2 : Int) : evFn pleachref7_Group_Γ tab pleachref7_Group_fi n [.val t42, .val t33, .val t2] [⟨t139, [true], none⟩] Try.f91 (d_0, l_1, k_2, ()) = pleachref7_Group_n n d_0 l_1 k_2 := by
  rw [pleachref7_Group_start, pleachref7_Group_XL1 n n]
  rfl
noncomputable def pleachref7_Group_e : Ent := ⟨[.val t42, .val t33, .val t2], [⟨t139, [true], none⟩], fun x => pleachref7_Group x.1 x.2.1 x.2.2.1⟩
theorem pleachref7_Group_good : Good tab.ty Try.prog 91 pleachref7_Group_e := by
  refine fn_good (Γ := pleachref7_Group_Γ) (fi := pleachref7_Group_fi) (n := 1099511627776) follows (gcons pleachref7_Of_good (gcons pleachref7_parted_good gnil)) tabok Try.func91 (by kernel_rfl) (by kernel_rfl) (fun x r h => ?_)
  obtain ⟨d_0, l_1, k_2, _u⟩ := x
  exact (pleachref7_Group_eq 1099511627776 d_0 l_1 k_2).trans h
noncomputable def pleachref7_above_Γ : Ctx := [(91, pleachref7_Group_e), (92, pleachref7_leaders_e)]
def pleachref7_above_fi : Fi := { keep := [], vty := [], vals := [], live := [(0, [1, 2, 4]), (1, [1, 2, 4, 5]), (2, [1, 2, 4, 5, 13]), (3, [1, 2, 4, 5]), (4, [1, 2, 4, 5, 22]), (5, [1, 2, 4, 5]), (6, [4])] }
noncomputable def pleachref7_above_B1 (L2 : (List ((List Int) × Int)) → Int → List (List Int) → (List (List ((List Int) × Int))) → Int → List (List Int) → (List (List ((List Int) × Int))) → Int → List (List Int) → (List (List ((List Int) × Int))) → Option (((Int × (List (List Int)) × List (List ((List Int) × Int))) × Unit) × Unit)) (v1 : List ((List Int) × Int)) (v2 : Int) (v3 : List (List Int)) (v4 : List (List ((List Int) × Int))) (v5 : Int) (v6 : List (List Int)) (v7 : List (List ((List Int) × Int))) (v8 : Int) (v9 : List (List Int)) (v10 : List (List ((List Int) × Int))) : Option (((Int × (List (List Int)) × List (List ((List Int) × Int))) × Unit) × Unit) :=
 bif decide ((v1.length : Int) > 0) then
  bif Nat.ble (v10.length + 1) 1073741824 then
   bif (v1.length : Int) == 1 then
    some (((v8, v9, v10 ++ [v1]), ()), ())
   else
    Option.bind (pleachref7_leaders v1) fun (r11 : ((List Int) × Unit) × Unit) =>
    Option.bind (pleachref7_Group v3 r11.1.1 v2) fun (r12 : ((List ((List Int) × Int)) × Unit) × Unit) =>
    L2 r12.1.1 v2 v3 v4 v5 v6 v7 v8 v9 (v10 ++ [v1])
  else none
 else
  some (((v8, v9, v10), ()), ())
noncomputable def pleachref7_above_B2 (L2 : (List ((List Int) × Int)) → Int → List (List Int) → (List (List ((List Int) × Int))) → Int → List (List Int) → (List (List ((List Int) × Int))) → Int → List (List Int) → (List (List ((List Int) × Int))) → Option (((Int × (List (List Int)) × List (List ((List Int) × Int))) × Unit) × Unit)) (v13 : List ((List Int) × Int)) (v14 : Int) (v15 : List (List Int)) (v16 : List (List ((List Int) × Int))) (v17 : Int) (v18 : List (List Int)) (v19 : List (List ((List Int) × Int))) (v20 : Int) (v21 : List (List Int)) (v22 : List (List ((List Int) × Int))) : Option (((Int × (List (List Int)) × List (List ((List Int) × Int))) × Unit) × Unit) :=
 bif decide ((v13.length : Int) > 0) then
  bif Nat.ble (v22.length + 1) 1073741824 then
   bif (v13.length : Int) == 1 then
    some (((v20, v21, v22 ++ [v13]), ()), ())
   else
    Option.bind (pleachref7_leaders v13) fun (r23 : ((List Int) × Unit) × Unit) =>
    Option.bind (pleachref7_Group v15 r23.1.1 v14) fun (r24 : ((List ((List Int) × Int)) × Unit) × Unit) =>
    L2 r24.1.1 v14 v15 v16 v17 v18 v19 v20 v21 (v22 ++ [v13])
  else none
 else
  some (((v20, v21, v22), ()), ())
noncomputable def pleachref7_above_T (L1 : (List ((List Int) × Int)) → Int → List (List Int) → (List (List ((List Int) × Int))) → Int → List (List Int) → (List (List ((List Int) × Int))) → Int → List (List Int) → (List (List ((List Int) × Int))) → Option (((Int × (List (List Int)) × List (List ((List Int) × Int))) × Unit) × Unit)) (h_0 : Int × (List (List Int)) × List (List ((List Int) × Int))) (low_1 : List ((List Int) × Int)) : Option (((Int × (List (List Int)) × List (List ((List Int) × Int))) × Unit) × Unit) :=
 L1 low_1 h_0.1 h_0.2.1 h_0.2.2 0 [] [] h_0.1 h_0.2.1 []
noncomputable def pleachref7_above_L2 (n : Nat) : Nat → (List ((List Int) × Int)) → Int → List (List Int) → (List (List ((List Int) × Int))) → Int → List (List Int) → (List (List ((List Int) × Int))) → Int → List (List Int) → (List (List ((List Int) × Int))) → Option (((Int × (List (List Int)) × List (List ((List Int) × Int))) × Unit) × Unit) := iter (fun _ _ _ _ _ _ _ _ _ _ => none) fun L => pleachref7_above_B2 L
noncomputable def pleachref7_above_L1 (n : Nat) : Nat → (List ((List Int) × Int)) → Int → List (List Int) → (List (List ((List Int) × Int))) → Int → List (List Int) → (List (List ((List Int) × Int))) → Int → List (List Int) → (List (List ((List Int) × Int))) → Option (((Int × (List (List Int)) × List (List ((List Int) × Int))) × Unit) × Unit) := iterN (fun _ _ _ _ _ _ _ _ _ _ => none) fun m L => pleachref7_above_B1 (pleachref7_above_L2 n m)
noncomputable def pleachref7_above_X1 (n m : Nat) (v1 : List ((List Int) × Int)) (v2 : Int) (v3 : List (List Int)) (v4 : List (List ((List Int) × Int))) (v5 : Int) (v6 : List (List Int)) (v7 : List (List ((List Int) × Int))) (v8 : Int) (v9 : List (List Int)) (v10 : List (List ((List Int) × Int))) : Option (((Int × (List (List Int)) × List (List ((List Int) × Int))) × Unit) × Unit) :=
 atLoop pleachref7_above_Γ tab (fiB [.val t44, .val t139] pleachref7_above_fi) n [.val t44, .val t139] [⟨t44, [false, false, true], none⟩] Try.f84 [1, 1, 0, 0] [] [1, 2, 4, 5] m
 ⟨[(1, SV.cv (CV.one (LV.pure t139 v1))), (2, SV.cv (CV.one (LV.ptr (2, 0) 0))), (4, SV.cv (CV.one (LV.ptr (4, 0) 0))), (5, SV.cv (CV.one (LV.ptr (5, 0) 0)))],
  [((2, 0), Ob.box 45 [LV.pure t2 v2, LV.pure t42 v3, LV.pure t43 v4]), ((4, 0), Ob.box 45 [LV.pure t2 v5, LV.ref (4, 2), LV.ref (4, 3)]), ((4, 2), Ob.row 33 t33 v6), ((4, 3), Ob.row 139 t139 v7), ((5, 0), Ob.box 45 [LV.pure t2 v8, LV.pure t42 v9, LV.ref (5, 3)]), ((5, 3), Ob.row 139 t139 v10)]⟩
noncomputable def pleachref7_above_X2 (n m : Nat) (v13 : List ((List Int) × Int)) (v14 : Int) (v15 : List (List Int)) (v16 : List (List ((List Int) × Int))) (v17 : Int) (v18 : List (List Int)) (v19 : List (List ((List Int) × Int))) (v20 : Int) (v21 : List (List Int)) (v22 : List (List ((List Int) × Int))) : Option (((Int × (List (List Int)) × List (List ((List Int) × Int))) × Unit) × Unit) :=
 atLoop pleachref7_above_Γ tab (fiB [.val t44, .val t139] pleachref7_above_fi) n [.val t44, .val t139] [⟨t44, [false, false, true], none⟩] Try.f84 [1, 1, 0, 0] [] [1, 2, 4, 5] m
 ⟨[(1, SV.cv (CV.one (LV.ref (888888, 1)))), (2, SV.cv (CV.one (LV.ptr (2, 0) 0))), (4, SV.cv (CV.one (LV.ptr (4, 0) 0))), (5, SV.cv (CV.one (LV.ptr (5, 0) 0)))],
  [((888888, 1), Ob.row 142 t141 v13), ((2, 0), Ob.box 45 [LV.pure t2 v14, LV.pure t42 v15, LV.pure t43 v16]), ((4, 0), Ob.box 45 [LV.pure t2 v17, LV.ref (4, 2), LV.ref (4, 3)]), ((4, 2), Ob.row 33 t33 v18), ((4, 3), Ob.row 139 t139 v19), ((5, 0), Ob.box 45 [LV.pure t2 v20, LV.pure t42 v21, LV.ref (5, 3)]), ((5, 3), Ob.row 139 t139 v22)]⟩
theorem pleachref7_above_step1 (n m : Nat) (v1 : List ((List Int) × Int)) (v2 : Int) (v3 : List (List Int)) (v4 : List (List ((List Int) × Int))) (v5 : Int) (v6 : List (List Int)) (v7 : List (List ((List Int) × Int))) (v8 : Int) (v9 : List (List Int)) (v10 : List (List ((List Int) × Int))) : pleachref7_above_X1 n (m + 1) v1 v2 v3 v4 v5 v6 v7 v8 v9 v10 = pleachref7_above_B1 (pleachref7_above_X2 n m) v1 v2 v3 v4 v5 v6 v7 v8 v9 v10 := by kernel_rfl
theorem pleachref7_above_step2 (n m : Nat) (v13 : List ((List Int) × Int)) (v14 : Int) (v15 : List (List Int)) (v16 : List (List ((List Int) × Int))) (v17 : Int) (v18 : List (List Int)) (v19 : List (List ((List Int) × Int))) (v20 : Int) (v21 : List (List Int)) (v22 : List (List ((List Int) × Int))) : pleachref7_above_X2 n (m + 1) v13 v14 v15 v16 v17 v18 v19 v20 v21 v22 = pleachref7_above_B2 (pleachref7_above_X2 n m) v13 v14 v15 v16 v17 v18 v19 v20 v21 v22 := by kernel_rfl
theorem pleachref7_above_start (n : Nat) (h_0 : Int × (List (List Int)) × List (List ((List Int) × Int))) (low_1 : List ((List Int) × Int)) : evFn pleachref7_above_Γ tab pleachref7_above_fi n [.val t44, .val t139] [⟨t44, [false, false, true], none⟩] Try.f84 (h_0, low_1, ()) = pleachref7_above_T (pleachref7_above_X1 n n) h_0 low_1 := by kernel_rfl
theorem pleachref7_above_XL2 (n : Nat) : ∀ m, pleachref7_above_X2 n m = pleachref7_above_L2 n m
 | 0 => rfl
 | m + 1 => by
  have ih := pleachref7_above_XL2 n m
  funext v13 v14 v15 v16 v17 v18 v19 v20 v21 v22
  rw [pleachref7_above_step2, ih]
  rfl
theorem pleachref7_above_XL1 (n : Nat) : ∀ m, pleachref7_above_X1 n m = pleachref7_above_L1 n m
 | 0 => rfl
 | m + 1 => by
  have ih := pleachref7_above_XL1 n m
  funext v1 v2 v3 v4 v5 v6 v7 v8 v9 v10
  rw [pleachref7_above_step1, pleachref7_above_XL2 n m]
  rfl
noncomputable def pleachref7_above_n (n : Nat) (h_0 : Int × (List (List Int)) × List (List ((List Int) × Int))) (low_1 : List ((List Int) × Int)) : Option (((Int × (List (List Int)) × List (List ((List Int) × Int))) × Unit) × Unit) := pleachref7_above_T (pleachref7_above_L1 n n) h_0 low_1
noncomputable def pleachref7_above (h_0 : Int × (List (List Int)) × List (List ((List Int) × Int))) (low_1 : List ((List Int) × Int)) : Option (((Int × (List (List Int)) × List (List ((List Int) × Int))) × Unit) × Unit) := pleachref7_above_n 1099511627776 h_0 low_1
theorem pleachref7_above_eq (n : Nat) (h_0 : Int × (List (List Int)) × List (List ((List Int) × Int))) (low_1 : List ((List Int) × Int)) : evFn pleachref7_above_Γ tab pleachref7_above_fi n [.val t44, .val t139] [⟨t44, [false, false, true], none⟩] Try.f84 (h_0, low_1, ()) = pleachref7_above_n n h_0 low_1 := by
  rw [pleachref7_above_start, pleachref7_above_XL1 n n]
  rfl
noncomputable def pleachref7_above_e : Ent := ⟨[.val t44, .val t139], [⟨t44, [false, false, true], none⟩], fun x => pleachref7_above x.1 x.2.1⟩
theorem pleachref7_above_good : Good tab.ty Try.prog 84 pleachref7_above_e := by
  refine fn_good (Γ := pleachref7_above_Γ) (fi := pleachref7_above_fi) (n := 1099511627776) follows (gcons pleachref7_Group_good (gcons pleachref7_leaders_good gnil)) tabok Try.func84 (by kernel_rfl) (by kernel_rfl) (fun x r h => ?_)
  obtain ⟨h_0, low_1, _u⟩ := x
  exact (pleachref7_above_eq 1099511627776 h_0 low_1).trans h
noncomputable def pleachref7_Join_Γ : Ctx := [(81, pleachref1_MayDist_e), (82, pleachref7_Home_e), (83, pleachref7_Near_e), (84, pleachref7_above_e), (85, pleachref7_JoinClus_e)]
def pleachref7_Join_fi : Fi := { keep := [], vty := [], vals := [], live := [(0, [1, 2, 4, 14, 15, 18, 19, 22, 23, 24, 25, 26, 27, 28, 29, 30, 31, 32, 33, 34]), (1, [1, 2, 4, 35]), (2, [4]), (3, [1, 2, 4, 5]), (4, [1, 2, 4, 5, 6]), (5, [1, 2, 4, 5, 6, 42]), (6, [1, 2, 4, 5, 6]), (7, [1, 2, 4, 6, 7]), (8, [1, 2, 4, 5, 6]), (9, [1, 2, 4, 5, 8]), (10, [1, 2, 4, 5, 8, 69]), (11, [1, 2, 4, 5, 8]), (12, [4])] }
noncomputable def pleachref7_Join_B1 (L1 : Int → Int → Int → Int → List (List Int) → (List (List ((List Int) × Int))) → Int → List (List Int) → (List (List ((List Int) × Int))) → Option (((Int × (List (List Int)) × List (List ((List Int) × Int))) × Unit) × Unit)) (v3 : Int) (v4 : Int) (v5 : Int) (v6 : Int) (v7 : List (List Int)) (v8 : List (List ((List Int) × Int))) (v9 : Int) (v10 : List (List Int)) (v11 : List (List ((List Int) × Int))) : Option (((Int × (List (List Int)) × List (List ((List Int) × Int))) × Unit) × Unit) :=
 bif decide (v5 > 0) then
  bif decide (0 ≤ v5) && decide (v5 < (v8.length : Int)) then
   bif decide (0 ≤ v4) && decide (v4 < ((List.getD v8 v5.toNat []).length : Int)) then
    Option.bind (pleachref7_Near v7 v3 ((List.getD (List.getD v8 v5.toNat []) v4.toNat ([], 0)).1)) fun (r12 : (Int × Unit) × Unit) =>
    bif decide (0 ≤ IntKind.wrap .i64 (v5 - 1)) && decide (IntKind.wrap .i64 (v5 - 1) < (v8.length : Int)) then
     Option.bind (pleachref7_Home (List.getD v8 ((IntKind.wrap .i64 (v5 - 1)).toNat) []) r12.1.1) fun (r13 : (Int × Unit) × Unit) =>
     L1 v3 r13.1.1 (IntKind.wrap .i64 (v5 - 1)) v6 v7 v8 v9 v10 v11
    else none
   else none
  else none
 else
 bif decide ((v8.length : Int) > 0) then
  bif decide (0 < (v8.length : Int)) then
   Option.bind (pleachref7_JoinClus v7 (List.getD v8 0 []) v4 v3 v6) fun (r14 : ((List ((List Int) × Int)) × Unit) × Unit) =>
   Option.bind (pleachref7_above (v6, v7, v8) r14.1.1) fun (r15 : ((Int × (List (List Int)) × List (List ((List Int) × Int))) × Unit) × Unit) =>
   some ((r15.1.1, ()), ())
  else none
 else
  Option.bind (pleachref7_JoinClus v7 [] v4 v3 v6) fun (r16 : ((List ((List Int) × Int)) × Unit) × Unit) =>
  Option.bind (pleachref7_above (v6, v7, v8) r16.1.1) fun (r17 : ((Int × (List (List Int)) × List (List ((List Int) × Int))) × Unit) × Unit) =>
  some ((r17.1.1, ()), ())
noncomputable def pleachref7_Join_T (L1 : Int → Int → Int → Int → List (List Int) → (List (List ((List Int) × Int))) → Int → List (List Int) → (List (List ((List Int) × Int))) → Option (((Int × (List (List Int)) × List (List ((List Int) × Int))) × Unit) × Unit)) (h_0 : Int × (List (List Int)) × List (List ((List Int) × Int))) (id_1 : Int) : Option (((Int × (List (List Int)) × List (List ((List Int) × Int))) × Unit) × Unit) :=
 Option.bind (pleachref1_MayDist h_0.2.1) fun (r1 : (Bool × Unit) × Unit) =>
 bif !r1.1.1 then
  some ((h_0, ()), ())
 else
 bif decide (id_1 < 1) then
  some ((h_0, ()), ())
 else
 bif decide (id_1 > 8) then
  some ((h_0, ()), ())
 else
 bif decide ((h_0.2.2.length : Int) > 0) then
  bif decide (0 < (h_0.2.2.length : Int)) then
   Option.bind (pleachref7_Home (List.getD h_0.2.2 0 []) id_1) fun (r2 : (Int × Unit) × Unit) =>
   bif decide (r2.1.1 ≥ 0) then
    some ((h_0, ()), ())
   else
    L1 id_1 0 (IntKind.wrap .i64 ((h_0.2.2.length : Int) - 1)) h_0.1 h_0.2.1 h_0.2.2 0 [] []
  else none
 else
  L1 id_1 0 (IntKind.wrap .i64 ((h_0.2.2.length : Int) - 1)) h_0.1 h_0.2.1 h_0.2.2 0 [] []
noncomputable def pleachref7_Join_L1 (n : Nat) : Nat → Int → Int → Int → Int → List (List Int) → (List (List ((List Int) × Int))) → Int → List (List Int) → (List (List ((List Int) × Int))) → Option (((Int × (List (List Int)) × List (List ((List Int) × Int))) × Unit) × Unit) := iter (fun _ _ _ _ _ _ _ _ _ => none) fun L => pleachref7_Join_B1 L
noncomputable def pleachref7_Join_X1 (n m : Nat) (v3 : Int) (v4 : Int) (v5 : Int) (v6 : Int) (v7 : List (List Int)) (v8 : List (List ((List Int) × Int))) (v9 : Int) (v10 : List (List Int)) (v11 : List (List ((List Int) × Int))) : Option (((Int × (List (List Int)) × List (List ((List Int) × Int))) × Unit) × Unit) :=
 atLoop pleachref7_Join_Γ tab (fiB [.val t44, .val t2] pleachref7_Join_fi) n [.val t44, .val t2] [⟨t44, [false, false, false], none⟩] Try.f69 [1, 1, 1, 0, 1, 0] [] [1, 2, 4, 5, 6] m
 ⟨[(1, SV.cv (CV.one (LV.pure t2 v3))), (2, SV.cv (CV.one (LV.ptr (2, 0) 0))), (4, SV.cv (CV.one (LV.ptr (4, 0) 0))), (5, SV.cv (CV.one (LV.pure t2 v4))), (6, SV.cv (CV.one (LV.pure t2 v5)))],
  [((2, 0), Ob.box 45 [LV.pure t2 v6, LV.pure t42 v7, LV.pure t43 v8]), ((4, 0), Ob.box 45 [LV.pure t2 v9, LV.ref (4, 2), LV.ref (4, 3)]), ((4, 2), Ob.row 33 t33 v10), ((4, 3), Ob.row 139 t139 v11)]⟩
theorem pleachref7_Join_step1 (n m : Nat) (v3 : Int) (v4 : Int) (v5 : Int) (v6 : Int) (v7 : List (List Int)) (v8 : List (List ((List Int) × Int))) (v9 : Int) (v10 : List (List Int)) (v11 : List (List ((List Int) × Int))) : pleachref7_Join_X1 n (m + 1) v3 v4 v5 v6 v7 v8 v9 v10 v11 = pleachref7_Join_B1 (pleachref7_Join_X1 n m) v3 v4 v5 v6 v7 v8 v9 v10 v11 := by kernel_rfl
theorem pleachref7_Join_start (n : Nat) (h_0 : Int × (List (List Int)) × List (List ((List Int) × Int))) (id_1 : Int) : evFn pleachref7_Join_Γ tab pleachref7_Join_fi n [.val t44, .val t2] [⟨t44, [false, false, false], none⟩] Try.f69 (h_0, id_1, ()) = pleachref7_Join_T (pleachref7_Join_X1 n n) h_0 id_1 := by kernel_rfl
theorem pleachref7_Join_XL1 (n : Nat) : ∀ m, pleachref7_Join_X1 n m = pleachref7_Join_L1 n m
 | 0 => rfl
 | m + 1 => by
  have ih := pleachref7_Join_XL1 n m
  funext v3 v4 v5 v6 v7 v8 v9 v10 v11
  rw [pleachref7_Join_step1, ih]
  rfl
noncomputable def pleachref7_Join_n (n : Nat) (h_0 : Int × (List (List Int)) × List (List ((List Int) × Int))) (id_1 : Int) : Option (((Int × (List (List Int)) × List (List ((List Int) × Int))) × Unit) × Unit) := pleachref7_Join_T (pleachref7_Join_L1 n n) h_0 id_1
noncomputable def pleachref7_Join (h_0 : Int × (List (List Int)) × List (List ((List Int) × Int))) (id_1 : Int) : Option (((Int × (List (List Int)) × List (List ((List Int) × Int))) × Unit) × Unit) := pleachref7_Join_n 1099511627776 h_0 id_1
theorem pleachref7_Join_eq (n : Nat) (h_0 : Int × (List (List Int)) × List (List ((List Int) × Int))) (id_1 : Int) : evFn pleachref7_Join_Γ tab pleachref7_Join_fi n [.val t44, .val t2] [⟨t44, [false, false, false], none⟩] Try.f69 (h_0, id_1, ()) = pleachref7_Join_n n h_0 id_1 := by
  rw [pleachref7_Join_start, pleachref7_Join_XL1 n n]
  rfl
noncomputable def pleachref7_Join_e : Ent := ⟨[.val t44, .val t2], [⟨t44, [false, false, false], none⟩], fun x => pleachref7_Join x.1 x.2.1⟩
theorem pleachref7_Join_good : Good tab.ty Try.prog 69 pleachref7_Join_e := by
  refine fn_good (Γ := pleachref7_Join_Γ) (fi := pleachref7_Join_fi) (n := 1099511627776) follows (gcons pleachref1_MayDist_good (gcons pleachref7_Home_good (gcons pleachref7_Near_good (gcons pleachref7_above_good (gcons pleachref7_JoinClus_good gnil))))) tabok Try.func69 (by kernel_rfl) (by kernel_rfl) (fun x r h => ?_)
  obtain ⟨h_0, id_1, _u⟩ := x
  exact (pleachref7_Join_eq 1099511627776 h_0 id_1).trans h
noncomputable def pleachref1_Letter_Γ : Ctx := []
def pleachref1_Letter_fi : Fi := { keep := [], vty := [], vals := [], live := [(0, [0, 19, 20, 28, 29, 37, 38, 56, 57, 58, 59, 73, 74, 77, 78, 79, 80, 81, 82]), (1, [0, 4, 19, 20, 28, 29, 37, 38, 56, 57, 58, 59, 73, 74, 77, 78, 79, 80, 81, 82]), (2, [0, 4, 19, 20, 28, 29, 37, 38, 56, 57, 58, 59, 73, 74, 77, 78, 79, 80, 81, 82]), (3, [2, 3]), (4, [0, 4, 11, 19, 20, 28, 29, 37, 38, 56, 57, 58, 59, 73, 74, 77, 78, 79, 80, 81, 82]), (5, [2, 3]), (6, [0, 4, 15, 28, 29, 37, 38, 56, 57, 58, 59, 73, 74, 77, 78, 79, 80, 81, 82]), (7, [0, 4, 5, 6, 56, 57, 58, 59, 73, 74, 77, 78, 79, 80, 81, 82]), (8, [0, 4, 24, 37, 38, 56, 57, 58, 59, 73, 74, 77, 78, 79, 80, 81, 82]), (9, [0, 4, 5, 6, 56, 57, 58, 59, 73, 74, 77, 78, 79, 80, 81, 82]), (10, [0, 4, 33, 56, 57, 58, 59, 73, 74, 77, 78, 79, 80, 81, 82]), (11, [0, 4, 5, 6, 56, 57, 58, 59, 73, 74, 77, 78, 79, 80, 81, 82]), (12, [0, 4, 5, 6, 45, 56, 57, 58, 59, 73, 74, 77, 78, 79, 80, 81, 82]), (13, [2, 3]), (14, [0, 4, 5, 6, 7, 56, 57, 58, 59, 73, 74, 77, 78, 79, 80, 81, 82]), (15, [0, 4, 5, 6, 7, 48, 56, 57, 58, 59, 73, 74, 77, 78, 79, 80, 81, 82]), (16, [0, 4, 5, 6, 7, 56, 57, 58, 59, 73, 74, 77, 78, 79, 80, 81, 82]), (17, [0, 4, 5, 6, 7, 56, 57, 58, 59, 60, 73, 74, 77, 78, 79, 80, 81, 82]), (18, [2, 3]), (19, [0, 4, 5, 6, 7, 56, 57, 58, 59, 73, 74, 77, 78, 79, 80, 81, 82]), (20, [4, 5, 83]), (21, [2, 3]), (22, [2, 3])] }
noncomputable def pleachref1_Letter_B1 (L1 : ByteArray → Int → Int → Int → Int → Option ((Int × Int × Unit) × Unit)) (v1 : ByteArray) (v2 : Int) (v3 : Int) (v4 : Int) (v5 : Int) : Option ((Int × Int × Unit) × Unit) :=
 bif decide (v5 < v3) then
  bif decide (0 ≤ v5) && decide (v5 < (v1.size : Int)) then
   bif decide (((v1.data.getD v5.toNat 0).toNat : Int) < 128) then
    some (((-1), 1, ()), ())
   else
   bif decide (0 ≤ v5) && decide (v5 < (v1.size : Int)) then
    bif decide (((v1.data.getD v5.toNat 0).toNat : Int) > 191) then
     some (((-1), 1, ()), ())
    else
    bif decide (0 ≤ v5) && decide (v5 < (v1.size : Int)) then
     L1 v1 (IntKind.wrap .i64 ((IntKind.wrap .i64 ((IntKind.wrap .i64 (v2 * 64)) + (IntKind.wrap .i64 ((v1.data.getD v5.toNat 0).toNat : Int)))) - 128)) v3 v4 (IntKind.wrap .i64 (v5 + 1))
    else none
   else none
  else none
 else
 bif decide (v2 < v4) then
  some (((-1), 1, ()), ())
 else
 bif decide (v2 > 1114111) then
  some (((-1), 1, ()), ())
 else
 bif decide (v2 ≥ 55296) then
  bif decide (v2 ≤ 57343) then
   some (((-1), 1, ()), ())
  else
   some ((v2, v3, ()), ())
 else
  some ((v2, v3, ()), ())
noncomputable def pleachref1_Letter_T (L1 : ByteArray → Int → Int → Int → Int → Option ((Int × Int × Unit) × Unit)) (s_0 : ByteArray) : Option ((Int × Int × Unit) × Unit) :=
 bif decide (0 < (s_0.size : Int)) then
  bif decide (IntKind.wrap .i64 ((s_0.data.getD 0 0).toNat : Int) < 128) then
   some ((IntKind.wrap .i64 ((s_0.data.getD 0 0).toNat : Int), 1, ()), ())
  else
  bif decide (IntKind.wrap .i64 ((s_0.data.getD 0 0).toNat : Int) ≥ 194) then
   bif decide (IntKind.wrap .i64 ((s_0.data.getD 0 0).toNat : Int) ≤ 223) then
    bif decide ((s_0.size : Int) < 2) then
     some (((-1), 1, ()), ())
    else
     L1 s_0 (IntKind.wrap .i64 ((IntKind.wrap .i64 ((s_0.data.getD 0 0).toNat : Int)) - 192)) 2 128 1
   else
   bif decide (IntKind.wrap .i64 ((s_0.data.getD 0 0).toNat : Int) ≥ 224) then
    bif decide (IntKind.wrap .i64 ((s_0.data.getD 0 0).toNat : Int) ≤ 239) then
     bif decide ((s_0.size : Int) < 3) then
      some (((-1), 1, ()), ())
     else
      L1 s_0 (IntKind.wrap .i64 ((IntKind.wrap .i64 ((s_0.data.getD 0 0).toNat : Int)) - 224)) 3 2048 1
    else
    bif decide (IntKind.wrap .i64 ((s_0.data.getD 0 0).toNat : Int) ≥ 240) then
     bif decide (IntKind.wrap .i64 ((s_0.data.getD 0 0).toNat : Int) ≤ 244) then
      bif decide ((s_0.size : Int) < 4) then
       some (((-1), 1, ()), ())
      else
       L1 s_0 (IntKind.wrap .i64 ((IntKind.wrap .i64 ((s_0.data.getD 0 0).toNat : Int)) - 240)) 4 65536 1
     else
      some (((-1), 1, ()), ())
    else
     some (((-1), 1, ()), ())
   else
   bif decide (IntKind.wrap .i64 ((s_0.data.getD 0 0).toNat : Int) ≥ 240) then
    bif decide (IntKind.wrap .i64 ((s_0.data.getD 0 0).toNat : Int) ≤ 244) then
     bif decide ((s_0.size : Int) < 4) then
      some (((-1), 1, ()), ())
     else
      L1 s_0 (IntKind.wrap .i64 ((IntKind.wrap .i64 ((s_0.data.getD 0 0).toNat : Int)) - 240)) 4 65536 1
    else
     some (((-1), 1, ()), ())
   else
    some (((-1), 1, ()), ())
  else
  bif decide (IntKind.wrap .i64 ((s_0.data.getD 0 0).toNat : Int) ≥ 224) then
   bif decide (IntKind.wrap .i64 ((s_0.data.getD 0 0).toNat : Int) ≤ 239) then
    bif decide ((s_0.size : Int) < 3) then
     some (((-1), 1, ()), ())
    else
     L1 s_0 (IntKind.wrap .i64 ((IntKind.wrap .i64 ((s_0.data.getD 0 0).toNat : Int)) - 224)) 3 2048 1
   else
   bif decide (IntKind.wrap .i64 ((s_0.data.getD 0 0).toNat : Int) ≥ 240) then
    bif decide (IntKind.wrap .i64 ((s_0.data.getD 0 0).toNat : Int) ≤ 244) then
     bif decide ((s_0.size : Int) < 4) then
      some (((-1), 1, ()), ())
     else
      L1 s_0 (IntKind.wrap .i64 ((IntKind.wrap .i64 ((s_0.data.getD 0 0).toNat : Int)) - 240)) 4 65536 1
    else
     some (((-1), 1, ()), ())
   else
    some (((-1), 1, ()), ())
  else
  bif decide (IntKind.wrap .i64 ((s_0.data.getD 0 0).toNat : Int) ≥ 240) then
   bif decide (IntKind.wrap .i64 ((s_0.data.getD 0 0).toNat : Int) ≤ 244) then
    bif decide ((s_0.size : Int) < 4) then
     some (((-1), 1, ()), ())
    else
     L1 s_0 (IntKind.wrap .i64 ((IntKind.wrap .i64 ((s_0.data.getD 0 0).toNat : Int)) - 240)) 4 65536 1
   else
    some (((-1), 1, ()), ())
  else
   some (((-1), 1, ()), ())
 else none
noncomputable def pleachref1_Letter_L1 (n : Nat) : Nat → ByteArray → Int → Int → Int → Int → Option ((Int × Int × Unit) × Unit) := iter (fun _ _ _ _ _ => none) fun L => pleachref1_Letter_B1 L
noncomputable def pleachref1_Letter_X1 (n m : Nat) (v1 : ByteArray) (v2 : Int) (v3 : Int) (v4 : Int) (v5 : Int) : Option ((Int × Int × Unit) × Unit) :=
 atLoop pleachref1_Letter_Γ tab (fiB [.val t9] pleachref1_Letter_fi) n [.val t9] [⟨t2, [false], none⟩, ⟨t2, [false], none⟩] Try.f100 [1, 1, 1, 1, 1, 0, 1, 0] [] [0, 4, 5, 6, 7] m
 ⟨[(0, SV.cv (CV.one (LV.pure t9 v1))), (4, SV.cv (CV.one (LV.pure t2 v2))), (5, SV.cv (CV.one (LV.pure t2 v3))), (6, SV.cv (CV.one (LV.pure t2 v4))), (7, SV.cv (CV.one (LV.pure t2 v5)))],
  []⟩
theorem pleachref1_Letter_step1 (n m : Nat) (v1 : ByteArray) (v2 : Int) (v3 : Int) (v4 : Int) (v5 : Int) : pleachref1_Letter_X1 n (m + 1) v1 v2 v3 v4 v5 = pleachref1_Letter_B1 (pleachref1_Letter_X1 n m) v1 v2 v3 v4 v5 := by kernel_rfl
theorem pleachref1_Letter_start (n : Nat) (s_0 : ByteArray) : evFn pleachref1_Letter_Γ tab pleachref1_Letter_fi n [.val t9] [⟨t2, [false], none⟩, ⟨t2, [false], none⟩] Try.f100 (s_0, ()) = pleachref1_Letter_T (pleachref1_Letter_X1 n n) s_0 := by kernel_rfl
theorem pleachref1_Letter_XL1 (n : Nat) : ∀ m, pleachref1_Letter_X1 n m = pleachref1_Letter_L1 n m
 | 0 => rfl
 | m + 1 => by
  have ih := pleachref1_Letter_XL1 n m
  funext v1 v2 v3 v4 v5
  rw [pleachref1_Letter_step1, ih]
  rfl
noncomputable def pleachref1_Letter_n (n : Nat) (s_0 : ByteArray) : Option ((Int × Int × Unit) × Unit) := pleachref1_Letter_T (pleachref1_Letter_L1 n n) s_0
noncomputable def pleachref1_Letter (s_0 : ByteArray) : Option ((Int × Int × Unit) × Unit) := pleachref1_Letter_n 1099511627776 s_0
theorem pleachref1_Letter_eq (n : Nat) (s_0 : ByteArray) : evFn pleachref1_Letter_Γ tab pleachref1_Letter_fi n [.val t9] [⟨t2, [false], none⟩, ⟨t2, [false], none⟩] Try.f100 (s_0, ()) = pleachref1_Letter_n n s_0 := by
  rw [pleachref1_Letter_start, pleachref1_Letter_XL1 n n]
  rfl
noncomputable def pleachref1_Letter_e : Ent := ⟨[.val t9], [⟨t2, [false], none⟩, ⟨t2, [false], none⟩], fun x => pleachref1_Letter x.1⟩
theorem pleachref1_Letter_good : Good tab.ty Try.prog 100 pleachref1_Letter_e := by
  refine fn_good (Γ := pleachref1_Letter_Γ) (fi := pleachref1_Letter_fi) (n := 1099511627776) follows gnil tabok Try.func100 (by kernel_rfl) (by kernel_rfl) (fun x r h => ?_)
  obtain ⟨s_0, _u⟩ := x
  exact (pleachref1_Letter_eq 1099511627776 s_0).trans h
noncomputable def pleachref1_Letters_Γ : Ctx := [(100, pleachref1_Letter_e)]
def pleachref1_Letters_fi : Fi := { keep := [], vty := [(3, 33)], vals := [], live := [(0, [0]), (1, [0, 3]), (2, [0, 3, 8]), (3, [0, 3, 4, 5]), (4, [0, 3]), (5, [2])] }
noncomputable def pleachref1_Letters_B1 (L1 : ByteArray → List Int → Option (((List Int) × Unit) × Unit)) (v1 : ByteArray) (v2 : List Int) : Option (((List Int) × Unit) × Unit) :=
 bif decide ((v1.size : Int) > 0) then
  Option.bind (pleachref1_Letter v1) fun (r3 : (Int × Int × Unit) × Unit) =>
  bif Nat.ble (v2.length + 1) 1073741824 then
   bif (decide (0 ≤ r3.1.2.1) && decide (r3.1.2.1 ≤ (v1.size : Int))) && decide ((v1.size : Int) ≤ (v1.size : Int)) then
    L1 (v1.extract r3.1.2.1.toNat ((v1.size : Int).toNat)) (v2 ++ [r3.1.1])
   else none
  else none
 else
  some ((v2, ()), ())
noncomputable def pleachref1_Letters_T (L1 : ByteArray → List Int → Option (((List Int) × Unit) × Unit)) (s_0 : ByteArray) : Option (((List Int) × Unit) × Unit) :=
 L1 s_0 []
noncomputable def pleachref1_Letters_L1 (n : Nat) : Nat → ByteArray → List Int → Option (((List Int) × Unit) × Unit) := iter (fun _ _ => none) fun L => pleachref1_Letters_B1 L
noncomputable def pleachref1_Letters_X1 (n m : Nat) (v1 : ByteArray) (v2 : List Int) : Option (((List Int) × Unit) × Unit) :=
 atLoop pleachref1_Letters_Γ tab (fiB [.val t9] pleachref1_Letters_fi) n [.val t9] [⟨t33, [true], none⟩] Try.f96 [1, 1, 0, 0] [] [0, 3] m
 ⟨[(0, SV.cv (CV.one (LV.pure t9 v1))), (3, SV.cv (CV.one (LV.ref (888888, 3))))],
  [((888888, 3), Ob.row 3 t2 v2)]⟩
theorem pleachref1_Letters_step1 (n m : Nat) (v1 : ByteArray) (v2 : List Int) : pleachref1_Letters_X1 n (m + 1) v1 v2 = pleachref1_Letters_B1 (pleachref1_Letters_X1 n m) v1 v2 := by kernel_rfl
theorem pleachref1_Letters_start (n : Nat) (s_0 : ByteArray) : evFn pleachref1_Letters_Γ tab pleachref1_Letters_fi n [.val t9] [⟨t33, [true], none⟩] Try.f96 (s_0, ()) = pleachref1_Letters_T (pleachref1_Letters_X1 n n) s_0 := by kernel_rfl
theorem pleachref1_Letters_XL1 (n : Nat) : ∀ m, pleachref1_Letters_X1 n m = pleachref1_Letters_L1 n m
 | 0 => rfl
 | m + 1 => by
  have ih := pleachref1_Letters_XL1 n m
  funext v1 v2
  rw [pleachref1_Letters_step1, ih]
  rfl
noncomputable def pleachref1_Letters_n (n : Nat) (s_0 : ByteArray) : Option (((List Int) × Unit) × Unit) := pleachref1_Letters_T (pleachref1_Letters_L1 n n) s_0
noncomputable def pleachref1_Letters (s_0 : ByteArray) : Option (((List Int) × Unit) × Unit) := pleachref1_Letters_n 1099511627776 s_0
theorem pleachref1_Letters_eq (n : Nat) (s_0 : ByteArray) : evFn pleachref1_Letters_Γ tab pleachref1_Letters_fi n [.val t9] [⟨t33, [true], none⟩] Try.f96 (s_0, ()) = pleachref1_Letters_n n s_0 := by
  rw [pleachref1_Letters_start, pleachref1_Letters_XL1 n n]
  rfl
noncomputable def pleachref1_Letters_e : Ent := ⟨[.val t9], [⟨t33, [true], none⟩], fun x => pleachref1_Letters x.1⟩
theorem pleachref1_Letters_good : Good tab.ty Try.prog 96 pleachref1_Letters_e := by
  refine fn_good (Γ := pleachref1_Letters_Γ) (fi := pleachref1_Letters_fi) (n := 1099511627776) follows (gcons pleachref1_Letter_good gnil) tabok Try.func96 (by kernel_rfl) (by kernel_rfl) (fun x r h => ?_)
  obtain ⟨s_0, _u⟩ := x
  exact (pleachref1_Letters_eq 1099511627776 s_0).trans h
noncomputable def pleachref1_Name_Γ : Ctx := [(96, pleachref1_Letters_e)]
def pleachref1_Name_fi : Fi := { keep := [], vty := [], vals := [], live := [(0, [0, 19, 20, 21, 22, 23, 24, 25, 26, 27, 28, 29, 30, 36, 37, 38]), (1, [3, 19, 20, 21, 22, 23, 24, 25, 26, 27, 28, 29, 30, 36, 37, 38]), (2, [3, 4, 19, 20, 21, 22, 23, 24, 25, 26, 27, 28, 29, 30, 36, 37, 38]), (3, [3, 4, 10, 19, 20, 21, 22, 23, 24, 25, 26, 27, 28, 29, 30, 36, 37, 38]), (4, [3, 4, 19, 20, 21, 22, 23, 24, 25, 26, 27, 28, 29, 30, 36, 37, 38]), (5, [3, 4, 19, 20, 21, 22, 23, 24, 25, 26, 27, 28, 29, 30, 31, 36, 37, 38]), (6, [2]), (7, [2])] }
noncomputable def pleachref1_Name_B1 (L1 : Int → List Int → Option ((Bool × Unit) × Unit)) (v2 : Int) (v3 : List Int) : Option ((Bool × Unit) × Unit) :=
 bif decide (v2 < (v3.length : Int)) then
  bif decide (0 ≤ v2) && decide (v2 < (v3.length : Int)) then
   bif decide (0 ≤ v2) && decide (v2 < (v3.length : Int)) then
    bif decide (List.getD v3 v2.toNat 0 < 33) then
     some ((false, ()), ())
    else
    bif decide (0 ≤ v2) && decide (v2 < (v3.length : Int)) then
     bif decide (0 ≤ v2) && decide (v2 < (v3.length : Int)) then
      bif decide (List.getD v3 v2.toNat 0 ≥ 127) then
       bif decide (0 ≤ v2) && decide (v2 < (v3.length : Int)) then
        bif decide (0 ≤ v2) && decide (v2 < (v3.length : Int)) then
         bif decide (List.getD v3 v2.toNat 0 ≤ 159) then
          some ((false, ()), ())
         else
          L1 (IntKind.wrap .i64 (v2 + 1)) v3
        else none
       else none
      else
       L1 (IntKind.wrap .i64 (v2 + 1)) v3
     else none
    else none
   else none
  else none
 else
 bif decide ((v3.length : Int) ≥ 1) then
  some ((decide ((v3.length : Int) ≤ 8), ()), ())
 else
  some ((false, ()), ())
noncomputable def pleachref1_Name_T (L1 : Int → List Int → Option ((Bool × Unit) × Unit)) (s_0 : ByteArray) : Option ((Bool × Unit) × Unit) :=
 Option.bind (pleachref1_Letters s_0) fun (r1 : ((List Int) × Unit) × Unit) =>
 L1 0 r1.1.1
noncomputable def pleachref1_Name_L1 (n : Nat) : Nat → Int → List Int → Option ((Bool × Unit) × Unit) := iter (fun _ _ => none) fun L => pleachref1_Name_B1 L
noncomputable def pleachref1_Name_X1 (n m : Nat) (v2 : Int) (v3 : List Int) : Option ((Bool × Unit) × Unit) :=
 atLoop pleachref1_Name_Γ tab (fiB [.val t9] pleachref1_Name_fi) n [.val t9] [⟨t4, [false], none⟩] Try.f86 [1, 1, 0, 1, 0] [] [3, 4] m
 ⟨[(3, SV.cv (CV.one (LV.ref (888888, 3)))), (4, SV.cv (CV.one (LV.pure t2 v2)))],
  [((888888, 3), Ob.row 3 t2 v3)]⟩
theorem pleachref1_Name_step1 (n m : Nat) (v2 : Int) (v3 : List Int) : pleachref1_Name_X1 n (m + 1) v2 v3 = pleachref1_Name_B1 (pleachref1_Name_X1 n m) v2 v3 := by kernel_rfl
theorem pleachref1_Name_start (n : Nat) (s_0 : ByteArray) : evFn pleachref1_Name_Γ tab pleachref1_Name_fi n [.val t9] [⟨t4, [false], none⟩] Try.f86 (s_0, ()) = pleachref1_Name_T (pleachref1_Name_X1 n n) s_0 := by kernel_rfl
theorem pleachref1_Name_XL1 (n : Nat) : ∀ m, pleachref1_Name_X1 n m = pleachref1_Name_L1 n m
 | 0 => rfl
 | m + 1 => by
  have ih := pleachref1_Name_XL1 n m
  funext v2 v3
  rw [pleachref1_Name_step1, ih]
  rfl
noncomputable def pleachref1_Name_n (n : Nat) (s_0 : ByteArray) : Option ((Bool × Unit) × Unit) := pleachref1_Name_T (pleachref1_Name_L1 n n) s_0
noncomputable def pleachref1_Name (s_0 : ByteArray) : Option ((Bool × Unit) × Unit) := pleachref1_Name_n 1099511627776 s_0
theorem pleachref1_Name_eq (n : Nat) (s_0 : ByteArray) : evFn pleachref1_Name_Γ tab pleachref1_Name_fi n [.val t9] [⟨t4, [false], none⟩] Try.f86 (s_0, ()) = pleachref1_Name_n n s_0 := by
  rw [pleachref1_Name_start, pleachref1_Name_XL1 n n]
  rfl
noncomputable def pleachref1_Name_e : Ent := ⟨[.val t9], [⟨t4, [false], none⟩], fun x => pleachref1_Name x.1⟩
theorem pleachref1_Name_good : Good tab.ty Try.prog 86 pleachref1_Name_e := by
  refine fn_good (Γ := pleachref1_Name_Γ) (fi := pleachref1_Name_fi) (n := 1099511627776) follows (gcons pleachref1_Letters_good gnil) tabok Try.func86 (by kernel_rfl) (by kernel_rfl) (fun x r h => ?_)
  obtain ⟨s_0, _u⟩ := x
  exact (pleachref1_Name_eq 1099511627776 s_0).trans h
noncomputable def pleachref19_New_Γ : Ctx := []
def pleachref19_New_fi : Fi := { keep := [], vty := [], vals := [], live := [(0, [0, 1, 2, 3, 8]), (1, [0, 2, 8, 9]), (2, [2, 8, 9, 16]), (3, [8, 9]), (4, [8])] }
noncomputable def pleachref19_New (id_0 : Int) (inc_1 : Int) (now_2 : Int) (grand_3 : Int) : Option (((Int × Int × Int × Int × Int × Int × (List Int) × Int × Int × Int × Int × Int × List (Int × Int × Int)) × Unit) × Unit) :=
 bif id_0 == 1 then
  some (((id_0, inc_1, now_2, 0, 0, grand_3, [1], 0, now_2, 0, 0, 0, []), ()), ())
 else
  some (((id_0, inc_1, now_2, 0, 0, grand_3, [], 0, 0, 0, 0, 0, []), ()), ())
theorem pleachref19_New_eq (id_0 : Int) (inc_1 : Int) (now_2 : Int) (grand_3 : Int) : evFn pleachref19_New_Γ tab pleachref19_New_fi 1 [.val t2, .val t2, .val t2, .val t2] [⟨t118, [false, false, false, false, false, false, true, false, false, false, false, false, true], none⟩] Try.f87 (id_0, inc_1, now_2, grand_3, ()) = pleachref19_New id_0 inc_1 now_2 grand_3 := by kernel_rfl
noncomputable def pleachref19_New_e : Ent := ⟨[.val t2, .val t2, .val t2, .val t2], [⟨t118, [false, false, false, false, false, false, true, false, false, false, false, false, true], none⟩], fun x => pleachref19_New x.1 x.2.1 x.2.2.1 x.2.2.2.1⟩
theorem pleachref19_New_good : Good tab.ty Try.prog 87 pleachref19_New_e := by
  refine fn_good (Γ := pleachref19_New_Γ) (fi := pleachref19_New_fi) (n := 1) follows gnil tabok Try.func87 (by kernel_rfl) (by kernel_rfl) (fun x r h => ?_)
  obtain ⟨id_0, inc_1, now_2, grand_3, _u⟩ := x
  exact (pleachref19_New_eq id_0 inc_1 now_2 grand_3).trans h
noncomputable def pleachref19_Join_Γ : Ctx := [(86, pleachref1_Name_e), (87, pleachref19_New_e)]
def pleachref19_Join_fi : Fi := { keep := [], vty := [], vals := [], live := [(0, [1, 2, 3, 4, 8, 13, 14, 15, 18, 19, 22, 23, 26, 27, 28]), (1, [1, 2, 3, 4, 8, 29]), (2, [8, 9]), (3, [8, 9])] }
noncomputable def pleachref19_Join (n_0 : Bool × Int × ByteArray × (Int × Int × Int × Int × Int × Int × (List Int) × Int × Int × Int × Int × Int × List (Int × Int × Int)) × (Int × Int × (List (Int × ByteArray)) × (List (Int × ByteArray)) × (List (Int × Int × Int × ByteArray × Int)) × Int × Int) × Int) (id_1 : Int) (name_2 : ByteArray) (grand_3 : Int) : Option (((Bool × Int × ByteArray × (Int × Int × Int × Int × Int × Int × (List Int) × Int × Int × Int × Int × Int × List (Int × Int × Int)) × (Int × Int × (List (Int × ByteArray)) × (List (Int × ByteArray)) × (List (Int × Int × Int × ByteArray × Int)) × Int × Int) × Int) × Bool × Unit) × Unit) :=
 bif n_0.1 then
  some ((n_0, false, ()), ())
 else
  Option.bind (pleachref1_Name name_2) fun (r1 : (Bool × Unit) × Unit) =>
  bif !r1.1.1 then
   some ((n_0, false, ()), ())
  else
  bif decide (id_1 < 1) then
   some ((n_0, false, ()), ())
  else
  bif decide (id_1 > 8) then
   some ((n_0, false, ()), ())
  else
  bif decide (n_0.2.1 ≥ 1073741824) then
   some ((n_0, false, ()), ())
  else
   Option.bind (pleachref19_New id_1 (IntKind.wrap .i64 (n_0.2.1 + 1)) 0 grand_3) fun (r2 : ((Int × Int × Int × Int × Int × Int × (List Int) × Int × Int × Int × Int × Int × List (Int × Int × Int)) × Unit) × Unit) =>
   some (((true, IntKind.wrap .i64 (n_0.2.1 + 1), name_2, r2.1.1, (0, 0, [], [], [], 0, 0), 0), true, ()), ())
theorem pleachref19_Join_eq (n_0 : Bool × Int × ByteArray × (Int × Int × Int × Int × Int × Int × (List Int) × Int × Int × Int × Int × Int × List (Int × Int × Int)) × (Int × Int × (List (Int × ByteArray)) × (List (Int × ByteArray)) × (List (Int × Int × Int × ByteArray × Int)) × Int × Int) × Int) (id_1 : Int) (name_2 : ByteArray) (grand_3 : Int) : evFn pleachref19_Join_Γ tab pleachref19_Join_fi 1 [.val t126, .val t2, .val t9, .val t2] [⟨t126, [false, false, false, false, false, false, false, false, false, false, false, false, false, false, false, false, false, false, false, false, false, false, false, false], none⟩, ⟨t4, [false], none⟩] Try.f70 (n_0, id_1, name_2, grand_3, ()) = pleachref19_Join n_0 id_1 name_2 grand_3 := by kernel_rfl
noncomputable def pleachref19_Join_e : Ent := ⟨[.val t126, .val t2, .val t9, .val t2], [⟨t126, [false, false, false, false, false, false, false, false, false, false, false, false, false, false, false, false, false, false, false, false, false, false, false, false], none⟩, ⟨t4, [false], none⟩], fun x => pleachref19_Join x.1 x.2.1 x.2.2.1 x.2.2.2.1⟩
theorem pleachref19_Join_good : Good tab.ty Try.prog 70 pleachref19_Join_e := by
  refine fn_good (Γ := pleachref19_Join_Γ) (fi := pleachref19_Join_fi) (n := 1) follows (gcons pleachref1_Name_good (gcons pleachref19_New_good gnil)) tabok Try.func70 (by kernel_rfl) (by kernel_rfl) (fun x r h => ?_)
  obtain ⟨n_0, id_1, name_2, grand_3, _u⟩ := x
  exact (pleachref19_Join_eq n_0 id_1 name_2 grand_3).trans h
noncomputable def pleachref21_New_Γ : Ctx := [(68, pleachref7_New_e), (69, pleachref7_Join_e), (70, pleachref19_Join_e)]
def pleachref21_New_fi : Fi := { keep := [], vty := [], vals := [], live := [(0, [0, 1, 4]), (1, [4, 6, 7]), (2, [4, 6, 16]), (3, [4, 5]), (4, [4, 8]), (5, [4, 8]), (6, [4, 5])] }
noncomputable def pleachref21_New (d_0 : List (List Int)) (k_1 : Int) : Option ((((List (Bool × Int × ByteArray × (Int × Int × Int × Int × Int × Int × (List Int) × Int × Int × Int × Int × Int × List (Int × Int × Int)) × (Int × Int × (List (Int × ByteArray)) × (List (Int × ByteArray)) × (List (Int × Int × Int × ByteArray × Int)) × Int × Int) × Int)) × (List (Int × ByteArray × Bool)) × (List ByteArray) × Int × (List (List Int)) × List (List ((List Int) × Int))) × Bool × Unit) × Unit) :=
 Option.bind (pleachref7_New d_0 k_1) fun (r1 : ((Int × (List (List Int)) × List (List ((List Int) × Int))) × Bool × Unit) × Unit) =>
 bif !r1.1.2.1 then
  some ((([], [], [], 0, [], []), false, ()), ())
 else
  Option.bind (pleachref7_Join r1.1.1 1) fun (r2 : ((Int × (List (List Int)) × List (List ((List Int) × Int))) × Unit) × Unit) =>
  Option.bind (pleachref19_Join (false, 0, (⟨#[]⟩ : ByteArray), (0, 0, 0, 0, 0, 0, [], 0, 0, 0, 0, 0, []), (0, 0, [], [], [], 0, 0), 0) 1 (⟨#[114, 111, 111, 116]⟩ : ByteArray) 0) fun (r3 : ((Bool × Int × ByteArray × (Int × Int × Int × Int × Int × Int × (List Int) × Int × Int × Int × Int × Int × List (Int × Int × Int)) × (Int × Int × (List (Int × ByteArray)) × (List (Int × ByteArray)) × (List (Int × Int × Int × ByteArray × Int)) × Int × Int) × Int) × Bool × Unit) × Unit) =>
  some ((([r3.1.1, (false, 0, (⟨#[]⟩ : ByteArray), (0, 0, 0, 0, 0, 0, [], 0, 0, 0, 0, 0, []), (0, 0, [], [], [], 0, 0), 0), (false, 0, (⟨#[]⟩ : ByteArray), (0, 0, 0, 0, 0, 0, [], 0, 0, 0, 0, 0, []), (0, 0, [], [], [], 0, 0), 0), (false, 0, (⟨#[]⟩ : ByteArray), (0, 0, 0, 0, 0, 0, [], 0, 0, 0, 0, 0, []), (0, 0, [], [], [], 0, 0), 0), (false, 0, (⟨#[]⟩ : ByteArray), (0, 0, 0, 0, 0, 0, [], 0, 0, 0, 0, 0, []), (0, 0, [], [], [], 0, 0), 0), (false, 0, (⟨#[]⟩ : ByteArray), (0, 0, 0, 0, 0, 0, [], 0, 0, 0, 0, 0, []), (0, 0, [], [], [], 0, 0), 0), (false, 0, (⟨#[]⟩ : ByteArray), (0, 0, 0, 0, 0, 0, [], 0, 0, 0, 0, 0, []), (0, 0, [], [], [], 0, 0), 0), (false, 0, (⟨#[]⟩ : ByteArray), (0, 0, 0, 0, 0, 0, [], 0, 0, 0, 0, 0, []), (0, 0, [], [], [], 0, 0), 0)], [], [], r2.1.1), true, ()), ())
theorem pleachref21_New_eq (d_0 : List (List Int)) (k_1 : Int) : evFn pleachref21_New_Γ tab pleachref21_New_fi 1 [.val t42, .val t2] [⟨t46, [true, true, true, false, false, false], none⟩, ⟨t4, [false], none⟩] Try.f47 (d_0, k_1, ()) = pleachref21_New d_0 k_1 := by kernel_rfl
noncomputable def pleachref21_New_e : Ent := ⟨[.val t42, .val t2], [⟨t46, [true, true, true, false, false, false], none⟩, ⟨t4, [false], none⟩], fun x => pleachref21_New x.1 x.2.1⟩
theorem pleachref21_New_good : Good tab.ty Try.prog 47 pleachref21_New_e := by
  refine fn_good (Γ := pleachref21_New_Γ) (fi := pleachref21_New_fi) (n := 1) follows (gcons pleachref7_New_good (gcons pleachref7_Join_good (gcons pleachref19_Join_good gnil))) tabok Try.func47 (by kernel_rfl) (by kernel_rfl) (fun x r h => ?_)
  obtain ⟨d_0, k_1, _u⟩ := x
  exact (pleachref21_New_eq d_0 k_1).trans h
noncomputable def pleachmade_Picks_World_Γ : Ctx := [(47, pleachref21_New_e), (48, pleachmade_Picks_Dist_e), (49, pleachmade_Picks_Num_e)]
def pleachmade_Picks_World_fi : Fi := { keep := [], vty := [], vals := [], live := [(0, [0, 2]), (1, [0, 2, 3]), (2, [0, 2])] }
noncomputable def pleachmade_Picks_World (p_0 : (List Int) × Int) : Option ((((List (Bool × Int × ByteArray × (Int × Int × Int × Int × Int × Int × (List Int) × Int × Int × Int × Int × Int × List (Int × Int × Int)) × (Int × Int × (List (Int × ByteArray)) × (List (Int × ByteArray)) × (List (Int × Int × Int × ByteArray × Int)) × Int × Int) × Int)) × (List (Int × ByteArray × Bool)) × (List ByteArray) × Int × (List (List Int)) × List (List ((List Int) × Int))) × Unit) × (((List Int) × Int) × Unit)) :=
 Option.bind (pleachmade_Picks_Dist p_0) fun (r1 : ((List (List Int)) × Unit) × (((List Int) × Int) × Unit)) =>
 Option.bind (pleachmade_Picks_Num r1.2.1 3) fun (r2 : (Int × Unit) × (((List Int) × Int) × Unit)) =>
 Option.bind (pleachref21_New r1.1.1 (IntKind.wrap .i64 (1 + r2.1.1))) fun (r3 : (((List (Bool × Int × ByteArray × (Int × Int × Int × Int × Int × Int × (List Int) × Int × Int × Int × Int × Int × List (Int × Int × Int)) × (Int × Int × (List (Int × ByteArray)) × (List (Int × ByteArray)) × (List (Int × Int × Int × ByteArray × Int)) × Int × Int) × Int)) × (List (Int × ByteArray × Bool)) × (List ByteArray) × Int × (List (List Int)) × List (List ((List Int) × Int))) × Bool × Unit) × Unit) =>
 some ((r3.1.1, ()), (r2.2.1, ()))
theorem pleachmade_Picks_World_eq (p_0 : (List Int) × Int) : evFn pleachmade_Picks_World_Γ tab pleachmade_Picks_World_fi 1 [.box 81 t80 [false, false]] [⟨t46, [true, true, true, false, false, false], none⟩] Try.f27 (p_0, ()) = pleachmade_Picks_World p_0 := by kernel_rfl
noncomputable def pleachmade_Picks_World_e : Ent := ⟨[.box 81 t80 [false, false]], [⟨t46, [true, true, true, false, false, false], none⟩], fun x => pleachmade_Picks_World x.1⟩
theorem pleachmade_Picks_World_good : Good tab.ty Try.prog 27 pleachmade_Picks_World_e := by
  refine fn_good (Γ := pleachmade_Picks_World_Γ) (fi := pleachmade_Picks_World_fi) (n := 1) follows (gcons pleachref21_New_good (gcons pleachmade_Picks_Dist_good (gcons pleachmade_Picks_Num_good gnil))) tabok Try.func27 (by kernel_rfl) (by kernel_rfl) (fun x r h => ?_)
  obtain ⟨p_0, _u⟩ := x
  exact (pleachmade_Picks_World_eq p_0).trans h
noncomputable def pleachmade_Picks_Text_Γ : Ctx := [(49, pleachmade_Picks_Num_e)]
def pleachmade_Picks_Text_fi : Fi := { keep := [], vty := [], vals := [], live := [(0, [0]), (1, [0, 2])] }
noncomputable def pleachmade_Picks_Text (p_0 : (List Int) × Int) : Option ((ByteArray × Unit) × (((List Int) × Int) × Unit)) :=
 Option.bind (pleachmade_Picks_Num p_0 5) fun (r1 : (Int × Unit) × (((List Int) × Int) × Unit)) =>
 bif decide (0 ≤ r1.1.1) && decide (r1.1.1 < 5) then
  bif decide (0 ≤ r1.1.1) && decide (r1.1.1 < 5) then
   some ((List.getD [(⟨#[]⟩ : ByteArray), (⟨#[97]⟩ : ByteArray), (⟨#[98, 99]⟩ : ByteArray), (⟨#[104, 101, 108, 108, 111]⟩ : ByteArray), (⟨#[116, 119, 101, 108, 118, 101, 32, 98, 121, 116, 101, 115]⟩ : ByteArray)] r1.1.1.toNat (⟨#[]⟩ : ByteArray), ()), (r1.2.1, ()))
  else none
 else none
theorem pleachmade_Picks_Text_eq (p_0 : (List Int) × Int) : evFn pleachmade_Picks_Text_Γ tab pleachmade_Picks_Text_fi 1 [.box 81 t80 [false, false]] [⟨t9, [false], none⟩] Try.f50 (p_0, ()) = pleachmade_Picks_Text p_0 := by kernel_rfl
noncomputable def pleachmade_Picks_Text_e : Ent := ⟨[.box 81 t80 [false, false]], [⟨t9, [false], none⟩], fun x => pleachmade_Picks_Text x.1⟩
theorem pleachmade_Picks_Text_good : Good tab.ty Try.prog 50 pleachmade_Picks_Text_e := by
  refine fn_good (Γ := pleachmade_Picks_Text_Γ) (fi := pleachmade_Picks_Text_fi) (n := 1) follows (gcons pleachmade_Picks_Num_good gnil) tabok Try.func50 (by kernel_rfl) (by kernel_rfl) (fun x r h => ?_)
  obtain ⟨p_0, _u⟩ := x
  exact (pleachmade_Picks_Text_eq p_0).trans h
noncomputable def pleachmade_Picks_Step_Γ : Ctx := [(49, pleachmade_Picks_Num_e), (50, pleachmade_Picks_Text_e)]
def pleachmade_Picks_Step_fi : Fi := { keep := [], vty := [], vals := [], live := [(0, [0, 3, 4]), (1, [0, 3, 4, 5]), (2, [0, 3, 4, 5, 6]), (3, [0, 3, 4, 5, 6, 12]), (4, [0, 4]), (5, [0, 3, 4, 5, 6, 22]), (6, [0, 4]), (7, [0, 3, 4, 5, 6, 27]), (8, [0, 4]), (9, [0, 3, 4, 5, 6, 32]), (10, [0, 4]), (11, [0, 3, 4, 5, 6, 38]), (12, [0, 4]), (13, [0, 3, 4, 5, 6, 43]), (14, [0, 4]), (15, [0, 3, 4, 5, 6, 54]), (16, [0, 4]), (17, [0, 3, 4, 5, 6, 65]), (18, [0, 4]), (19, [0, 3, 4, 5, 76]), (20, [0, 4]), (21, [0, 4])] }
noncomputable def pleachmade_Picks_Step (p_0 : (List Int) × Int) (w_1 : (List (Bool × Int × ByteArray × (Int × Int × Int × Int × Int × Int × (List Int) × Int × Int × Int × Int × Int × List (Int × Int × Int)) × (Int × Int × (List (Int × ByteArray)) × (List (Int × ByteArray)) × (List (Int × Int × Int × ByteArray × Int)) × Int × Int) × Int)) × (List (Int × ByteArray × Bool)) × (List ByteArray) × Int × (List (List Int)) × List (List ((List Int) × Int))) : Option (((Int × Int × Int × Int × ByteArray) × Unit) × (((List Int) × Int) × Unit)) :=
 Option.bind (pleachmade_Picks_Num p_0 8) fun (r1 : (Int × Unit) × (((List Int) × Int) × Unit)) =>
 Option.bind (pleachmade_Picks_Num r1.2.1 24) fun (r2 : (Int × Unit) × (((List Int) × Int) × Unit)) =>
 bif decide (r2.1.1 < 3) then
  Option.bind (pleachmade_Picks_Num r2.2.1 4) fun (r3 : (Int × Unit) × (((List Int) × Int) × Unit)) =>
  bif decide (0 ≤ r3.1.1) && decide (r3.1.1 < 4) then
   bif decide (0 ≤ r3.1.1) && decide (r3.1.1 < 4) then
    some (((1, IntKind.wrap .i64 (1 + r1.1.1), 0, 0, List.getD [(⟨#[97, 110, 110]⟩ : ByteArray), (⟨#[98, 195, 182, 98]⟩ : ByteArray), (⟨#[230, 151, 165, 230, 156, 172]⟩ : ByteArray), (⟨#[]⟩ : ByteArray)] r3.1.1.toNat (⟨#[]⟩ : ByteArray)), ()), (r3.2.1, ()))
   else none
  else none
 else
 bif r2.1.1 == 3 then
  some (((2, IntKind.wrap .i64 (1 + r1.1.1), 0, 0, (⟨#[]⟩ : ByteArray)), ()), (r2.2.1, ()))
 else
 bif r2.1.1 == 4 then
  some (((3, IntKind.wrap .i64 (1 + r1.1.1), 0, 0, (⟨#[]⟩ : ByteArray)), ()), (r2.2.1, ()))
 else
 bif decide (r2.1.1 < 7) then
  Option.bind (pleachmade_Picks_Text r2.2.1) fun (r4 : (ByteArray × Unit) × (((List Int) × Int) × Unit)) =>
  some (((4, 0, 0, 0, r4.1.1), ()), (r4.2.1, ()))
 else
 bif decide (r2.1.1 < 13) then
  some (((5, IntKind.wrap .i64 (1 + r1.1.1), 0, 0, (⟨#[]⟩ : ByteArray)), ()), (r2.2.1, ()))
 else
 bif decide (r2.1.1 < 20) then
  Option.bind (pleachmade_Picks_Num r2.2.1 (IntKind.wrap .i64 ((if 200 < (w_1.2.1.length : Int) then 200 else (w_1.2.1.length : Int)) + 1))) fun (r5 : (Int × Unit) × (((List Int) × Int) × Unit)) =>
  some (((6, 0, r5.1.1, 0, (⟨#[]⟩ : ByteArray)), ()), (r5.2.1, ()))
 else
 bif r2.1.1 == 20 then
  Option.bind (pleachmade_Picks_Num r2.2.1 (IntKind.wrap .i64 ((if 200 < (w_1.2.1.length : Int) then 200 else (w_1.2.1.length : Int)) + 1))) fun (r6 : (Int × Unit) × (((List Int) × Int) × Unit)) =>
  some (((7, 0, r6.1.1, 0, (⟨#[]⟩ : ByteArray)), ()), (r6.2.1, ()))
 else
 bif r2.1.1 == 21 then
  Option.bind (pleachmade_Picks_Num r2.2.1 (IntKind.wrap .i64 ((if 200 < (w_1.2.1.length : Int) then 200 else (w_1.2.1.length : Int)) + 1))) fun (r7 : (Int × Unit) × (((List Int) × Int) × Unit)) =>
  some (((8, 0, r7.1.1, 0, (⟨#[]⟩ : ByteArray)), ()), (r7.2.1, ()))
 else
 bif r2.1.1 == 22 then
  Option.bind (pleachmade_Picks_Num r2.2.1 (IntKind.wrap .i64 ((if 200 < (w_1.2.1.length : Int) then 200 else (w_1.2.1.length : Int)) + 1))) fun (r8 : (Int × Unit) × (((List Int) × Int) × Unit)) =>
  Option.bind (pleachmade_Picks_Num r8.2.1 40) fun (r9 : (Int × Unit) × (((List Int) × Int) × Unit)) =>
  Option.bind (pleachmade_Picks_Num r9.2.1 255) fun (r10 : (Int × Unit) × (((List Int) × Int) × Unit)) =>
  some (((9, 0, r8.1.1, IntKind.wrap .i64 ((IntKind.wrap .i64 ((IntKind.wrap .i64 (r9.1.1 * 256)) + 1)) + r10.1.1), (⟨#[]⟩ : ByteArray)), ()), (r10.2.1, ()))
 else
  some (((5, IntKind.wrap .i64 (1 + r1.1.1), 0, 0, (⟨#[]⟩ : ByteArray)), ()), (r2.2.1, ()))
theorem pleachmade_Picks_Step_eq (p_0 : (List Int) × Int) (w_1 : (List (Bool × Int × ByteArray × (Int × Int × Int × Int × Int × Int × (List Int) × Int × Int × Int × Int × Int × List (Int × Int × Int)) × (Int × Int × (List (Int × ByteArray)) × (List (Int × ByteArray)) × (List (Int × Int × Int × ByteArray × Int)) × Int × Int) × Int)) × (List (Int × ByteArray × Bool)) × (List ByteArray) × Int × (List (List Int)) × List (List ((List Int) × Int))) : evFn pleachmade_Picks_Step_Γ tab pleachmade_Picks_Step_fi 1 [.box 81 t80 [false, false], .val t46] [⟨t36, [false, false, false, false, false], none⟩] Try.f28 (p_0, w_1, ()) = pleachmade_Picks_Step p_0 w_1 := by kernel_rfl
noncomputable def pleachmade_Picks_Step_e : Ent := ⟨[.box 81 t80 [false, false], .val t46], [⟨t36, [false, false, false, false, false], none⟩], fun x => pleachmade_Picks_Step x.1 x.2.1⟩
theorem pleachmade_Picks_Step_good : Good tab.ty Try.prog 28 pleachmade_Picks_Step_e := by
  refine fn_good (Γ := pleachmade_Picks_Step_Γ) (fi := pleachmade_Picks_Step_fi) (n := 1) follows (gcons pleachmade_Picks_Num_good (gcons pleachmade_Picks_Text_good gnil)) tabok Try.func28 (by kernel_rfl) (by kernel_rfl) (fun x r h => ?_)
  obtain ⟨p_0, w_1, _u⟩ := x
  exact (pleachmade_Picks_Step_eq p_0 w_1).trans h
noncomputable def pleachref10_TakeNum_Γ : Ctx := []
def pleachref10_TakeNum_fi : Fi := { keep := [], vty := [], vals := [], live := [(0, [0, 13, 14, 38, 39, 40, 41, 42, 45, 46]), (1, [0, 5, 6, 13, 14, 38, 39, 40, 41, 42, 45, 46]), (2, [0, 5, 6, 7, 13, 14, 38, 39, 40, 41, 42, 45, 46]), (3, [0, 5, 6, 7, 13, 14, 15, 38, 39, 40, 41, 42, 45, 46]), (4, [0, 5, 6, 7, 13, 14, 38, 39, 40, 41, 42, 45, 46]), (5, [0, 5, 6, 7, 13, 14, 38, 39, 40, 41, 42, 45, 46]), (6, [0, 5, 6, 7, 13, 14, 38, 39, 40, 41, 42, 45, 46]), (7, [0, 5, 6, 7, 13, 14, 34, 38, 39, 40, 41, 42, 45, 46]), (8, [5, 7, 47]), (9, [2, 3, 4]), (10, [2, 3, 4]), (11, [2, 3, 4])] }
noncomputable def pleachref10_TakeNum_B1 (L1 : List Int → Int → Int → Int → Option ((Int × Int × Bool × Unit) × Unit)) (v1 : List Int) (v2 : Int) (v3 : Int) (v4 : Int) : Option ((Int × Int × Bool × Unit) × Unit) :=
 bif decide (v4 < (v1.length : Int)) then
  bif decide (v4 < 5) then
   bif decide (0 ≤ v4) && decide (v4 < (v1.length : Int)) then
    bif decide (0 ≤ v4) && decide (v4 < (v1.length : Int)) then
     bif decide (List.getD v1 v4.toNat 0 < 128) then
      bif decide (v4 > 0) then
       bif decide (0 ≤ v4) && decide (v4 < (v1.length : Int)) then
        bif (List.getD v1 v4.toNat 0) == 0 then
         some ((0, 0, false, ()), ())
        else
        bif decide (IntKind.wrap .i64 (v2 + (IntKind.wrap .i64 ((IntKind.wrap .i64 (Int.tmod (List.getD v1 v4.toNat 0) 128)) * v3))) > 1073741824) then
         some ((0, 0, false, ()), ())
        else
         some ((IntKind.wrap .i64 (v2 + (IntKind.wrap .i64 ((IntKind.wrap .i64 (Int.tmod (List.getD v1 v4.toNat 0) 128)) * v3))), IntKind.wrap .i64 (v4 + 1), true, ()), ())
       else none
      else
      bif decide (IntKind.wrap .i64 (v2 + (IntKind.wrap .i64 ((IntKind.wrap .i64 (Int.tmod (List.getD v1 v4.toNat 0) 128)) * v3))) > 1073741824) then
       some ((0, 0, false, ()), ())
      else
       some ((IntKind.wrap .i64 (v2 + (IntKind.wrap .i64 ((IntKind.wrap .i64 (Int.tmod (List.getD v1 v4.toNat 0) 128)) * v3))), IntKind.wrap .i64 (v4 + 1), true, ()), ())
     else
      L1 v1 (IntKind.wrap .i64 (v2 + (IntKind.wrap .i64 ((IntKind.wrap .i64 (Int.tmod (List.getD v1 v4.toNat 0) 128)) * v3)))) (IntKind.wrap .i64 (v3 * 128)) (IntKind.wrap .i64 (v4 + 1))
    else none
   else none
  else
   some ((0, 0, false, ()), ())
 else
  some ((0, 0, false, ()), ())
noncomputable def pleachref10_TakeNum_T (L1 : List Int → Int → Int → Int → Option ((Int × Int × Bool × Unit) × Unit)) (b_0 : List Int) : Option ((Int × Int × Bool × Unit) × Unit) :=
 L1 b_0 0 1 0
noncomputable def pleachref10_TakeNum_L1 (n : Nat) : Nat → List Int → Int → Int → Int → Option ((Int × Int × Bool × Unit) × Unit) := iter (fun _ _ _ _ => none) fun L => pleachref10_TakeNum_B1 L
noncomputable def pleachref10_TakeNum_X1 (n m : Nat) (v1 : List Int) (v2 : Int) (v3 : Int) (v4 : Int) : Option ((Int × Int × Bool × Unit) × Unit) :=
 atLoop pleachref10_TakeNum_Γ tab (fiB [.val t23] pleachref10_TakeNum_fi) n [.val t23] [⟨t2, [false], none⟩, ⟨t2, [false], none⟩, ⟨t4, [false], none⟩] Try.f22 [1, 1, 0, 1, 0] [] [0, 5, 6, 7] m
 ⟨[(0, SV.cv (CV.one (LV.pure t23 v1))), (5, SV.cv (CV.one (LV.pure t2 v2))), (6, SV.cv (CV.one (LV.pure t2 v3))), (7, SV.cv (CV.one (LV.pure t2 v4)))],
  []⟩
theorem pleachref10_TakeNum_step1 (n m : Nat) (v1 : List Int) (v2 : Int) (v3 : Int) (v4 : Int) : pleachref10_TakeNum_X1 n (m + 1) v1 v2 v3 v4 = pleachref10_TakeNum_B1 (pleachref10_TakeNum_X1 n m) v1 v2 v3 v4 := by kernel_rfl
theorem pleachref10_TakeNum_start (n : Nat) (b_0 : List Int) : evFn pleachref10_TakeNum_Γ tab pleachref10_TakeNum_fi n [.val t23] [⟨t2, [false], none⟩, ⟨t2, [false], none⟩, ⟨t4, [false], none⟩] Try.f22 (b_0, ()) = pleachref10_TakeNum_T (pleachref10_TakeNum_X1 n n) b_0 := by kernel_rfl
theorem pleachref10_TakeNum_XL1 (n : Nat) : ∀ m, pleachref10_TakeNum_X1 n m = pleachref10_TakeNum_L1 n m
 | 0 => rfl
 | m + 1 => by
  have ih := pleachref10_TakeNum_XL1 n m
  funext v1 v2 v3 v4
  rw [pleachref10_TakeNum_step1, ih]
  rfl
noncomputable def pleachref10_TakeNum_n (n : Nat) (b_0 : List Int) : Option ((Int × Int × Bool × Unit) × Unit) := pleachref10_TakeNum_T (pleachref10_TakeNum_L1 n n) b_0
noncomputable def pleachref10_TakeNum (b_0 : List Int) : Option ((Int × Int × Bool × Unit) × Unit) := pleachref10_TakeNum_n 1099511627776 b_0
theorem pleachref10_TakeNum_eq (n : Nat) (b_0 : List Int) : evFn pleachref10_TakeNum_Γ tab pleachref10_TakeNum_fi n [.val t23] [⟨t2, [false], none⟩, ⟨t2, [false], none⟩, ⟨t4, [false], none⟩] Try.f22 (b_0, ()) = pleachref10_TakeNum_n n b_0 := by
  rw [pleachref10_TakeNum_start, pleachref10_TakeNum_XL1 n n]
  rfl
noncomputable def pleachref10_TakeNum_e : Ent := ⟨[.val t23], [⟨t2, [false], none⟩, ⟨t2, [false], none⟩, ⟨t4, [false], none⟩], fun x => pleachref10_TakeNum x.1⟩
theorem pleachref10_TakeNum_good : Good tab.ty Try.prog 22 pleachref10_TakeNum_e := by
  refine fn_good (Γ := pleachref10_TakeNum_Γ) (fi := pleachref10_TakeNum_fi) (n := 1099511627776) follows gnil tabok Try.func22 (by kernel_rfl) (by kernel_rfl) (fun x r h => ?_)
  obtain ⟨b_0, _u⟩ := x
  exact (pleachref10_TakeNum_eq 1099511627776 b_0).trans h
noncomputable def pleachref10_reader_num_Γ : Ctx := [(22, pleachref10_TakeNum_e)]
def pleachref10_reader_num_fi : Fi := { keep := [], vty := [], vals := [], live := [(0, [0]), (1, [0, 3, 4, 5]), (2, [0, 3, 4, 16]), (3, [0, 3, 4]), (4, [0, 3, 4, 23]), (5, [0, 2]), (6, [0, 3]), (7, [0, 2])] }
noncomputable def pleachref10_reader_num (r_0 : (List Int) × Bool) : Option ((Int × Unit) × (((List Int) × Bool) × Unit)) :=
 Option.bind (pleachref10_TakeNum r_0.1) fun (r1 : (Int × Int × Bool × Unit) × Unit) =>
 bif !r1.1.2.2.1 then
  some ((0, ()), ((r_0.1, true), ()))
 else
 bif r_0.2 then
  some ((0, ()), (r_0, ()))
 else
 bif (decide (0 ≤ r1.1.2.1) && decide (r1.1.2.1 ≤ (r_0.1.length : Int))) && decide ((r_0.1.length : Int) ≤ (r_0.1.length : Int)) then
  some ((r1.1.1, ()), ((List.drop r1.1.2.1.toNat (List.take ((r_0.1.length : Int).toNat) r_0.1), r_0.2), ()))
 else none
theorem pleachref10_reader_num_eq (r_0 : (List Int) × Bool) : evFn pleachref10_reader_num_Γ tab pleachref10_reader_num_fi 1 [.box 95 t94 [false, false]] [⟨t2, [false], none⟩] Try.f52 (r_0, ()) = pleachref10_reader_num r_0 := by kernel_rfl
noncomputable def pleachref10_reader_num_e : Ent := ⟨[.box 95 t94 [false, false]], [⟨t2, [false], none⟩], fun x => pleachref10_reader_num x.1⟩
theorem pleachref10_reader_num_good : Good tab.ty Try.prog 52 pleachref10_reader_num_e := by
  refine fn_good (Γ := pleachref10_reader_num_Γ) (fi := pleachref10_reader_num_fi) (n := 1) follows (gcons pleachref10_TakeNum_good gnil) tabok Try.func52 (by kernel_rfl) (by kernel_rfl) (fun x r h => ?_)
  obtain ⟨r_0, _u⟩ := x
  exact (pleachref10_reader_num_eq r_0).trans h
noncomputable def pleachref10_TakeText_Γ : Ctx := [(22, pleachref10_TakeNum_e)]
def pleachref10_TakeText_fi : Fi := { keep := [], vty := [], vals := [], live := [(0, [0, 17, 18, 19, 20, 21, 22]), (1, [0, 5, 6, 7, 17, 18, 19, 20, 21, 22]), (2, [0, 5, 6, 23]), (3, [2, 3, 4]), (4, [2, 3, 4])] }
noncomputable def pleachref10_TakeText (b_0 : List Int) : Option ((ByteArray × Int × Bool × Unit) × Unit) :=
 Option.bind (pleachref10_TakeNum b_0) fun (r1 : (Int × Int × Bool × Unit) × Unit) =>
 bif !r1.1.2.2.1 then
  some (((⟨#[]⟩ : ByteArray), 0, false, ()), ())
 else
 bif decide (r1.1.1 > IntKind.wrap .i64 ((b_0.length : Int) - r1.1.2.1)) then
  some (((⟨#[]⟩ : ByteArray), 0, false, ()), ())
 else
 bif (decide (0 ≤ r1.1.2.1) && decide (r1.1.2.1 ≤ IntKind.wrap .i64 (r1.1.2.1 + r1.1.1))) && decide (IntKind.wrap .i64 (r1.1.2.1 + r1.1.1) ≤ (b_0.length : Int)) then
  some ((bytesOf (List.drop r1.1.2.1.toNat (List.take ((IntKind.wrap .i64 (r1.1.2.1 + r1.1.1)).toNat) b_0)), IntKind.wrap .i64 (r1.1.2.1 + r1.1.1), true, ()), ())
 else none
theorem pleachref10_TakeText_eq (b_0 : List Int) : evFn pleachref10_TakeText_Γ tab pleachref10_TakeText_fi 1 [.val t23] [⟨t9, [false], none⟩, ⟨t2, [false], none⟩, ⟨t4, [false], none⟩] Try.f24 (b_0, ()) = pleachref10_TakeText b_0 := by kernel_rfl
noncomputable def pleachref10_TakeText_e : Ent := ⟨[.val t23], [⟨t9, [false], none⟩, ⟨t2, [false], none⟩, ⟨t4, [false], none⟩], fun x => pleachref10_TakeText x.1⟩
theorem pleachref10_TakeText_good : Good tab.ty Try.prog 24 pleachref10_TakeText_e := by
  refine fn_good (Γ := pleachref10_TakeText_Γ) (fi := pleachref10_TakeText_fi) (n := 1) follows (gcons pleachref10_TakeNum_good gnil) tabok Try.func24 (by kernel_rfl) (by kernel_rfl) (fun x r h => ?_)
  obtain ⟨b_0, _u⟩ := x
  exact (pleachref10_TakeText_eq b_0).trans h
noncomputable def pleachref10_reader_text_Γ : Ctx := [(24, pleachref10_TakeText_e)]
def pleachref10_reader_text_fi : Fi := { keep := [], vty := [], vals := [], live := [(0, [0]), (1, [0, 3, 4, 5]), (2, [0, 3, 4, 16]), (3, [0, 3, 4]), (4, [0, 3, 4, 23]), (5, [0, 2]), (6, [0, 3]), (7, [0, 2])] }
noncomputable def pleachref10_reader_text (r_0 : (List Int) × Bool) : Option ((ByteArray × Unit) × (((List Int) × Bool) × Unit)) :=
 Option.bind (pleachref10_TakeText r_0.1) fun (r1 : (ByteArray × Int × Bool × Unit) × Unit) =>
 bif !r1.1.2.2.1 then
  some (((⟨#[]⟩ : ByteArray), ()), ((r_0.1, true), ()))
 else
 bif r_0.2 then
  some (((⟨#[]⟩ : ByteArray), ()), (r_0, ()))
 else
 bif (decide (0 ≤ r1.1.2.1) && decide (r1.1.2.1 ≤ (r_0.1.length : Int))) && decide ((r_0.1.length : Int) ≤ (r_0.1.length : Int)) then
  some ((r1.1.1, ()), ((List.drop r1.1.2.1.toNat (List.take ((r_0.1.length : Int).toNat) r_0.1), r_0.2), ()))
 else none
theorem pleachref10_reader_text_eq (r_0 : (List Int) × Bool) : evFn pleachref10_reader_text_Γ tab pleachref10_reader_text_fi 1 [.box 95 t94 [false, false]] [⟨t9, [false], none⟩] Try.f53 (r_0, ()) = pleachref10_reader_text r_0 := by kernel_rfl
noncomputable def pleachref10_reader_text_e : Ent := ⟨[.box 95 t94 [false, false]], [⟨t9, [false], none⟩], fun x => pleachref10_reader_text x.1⟩
theorem pleachref10_reader_text_good : Good tab.ty Try.prog 53 pleachref10_reader_text_e := by
  refine fn_good (Γ := pleachref10_reader_text_Γ) (fi := pleachref10_reader_text_fi) (n := 1) follows (gcons pleachref10_TakeText_good gnil) tabok Try.func53 (by kernel_rfl) (by kernel_rfl) (fun x r h => ?_)
  obtain ⟨r_0, _u⟩ := x
  exact (pleachref10_reader_text_eq r_0).trans h
noncomputable def pleachref10_TakeSteps_Γ : Ctx := [(52, pleachref10_reader_num_e), (53, pleachref10_reader_text_e)]
def pleachref10_TakeSteps_fi : Fi := { keep := [], vty := [(4, 35)], vals := [], live := [(0, [0]), (1, [3]), (2, [3, 4]), (3, [3, 4, 14]), (4, [3, 4, 5]), (5, [3, 4, 5]), (6, [3, 4, 5, 33]), (7, [3, 4, 5]), (8, [3, 4, 5, 33, 37]), (9, [3, 4, 5, 33, 39]), (10, [3, 4, 5]), (11, [3, 4, 5]), (12, [3, 4, 5, 33, 47]), (13, [3, 4, 5, 33, 47]), (14, [3, 4, 5, 33, 47]), (15, [3, 4, 5]), (16, [3, 4, 5, 33, 54]), (17, [3, 4, 5]), (18, [3, 4, 5, 59]), (19, [3, 4, 5]), (20, [3, 4, 5]), (21, [3, 4, 5, 70]), (22, [2]), (23, [3, 4]), (24, [2])] }
noncomputable def pleachref10_TakeSteps_B1 (L1 : List Int → (List (Int × Int × Int × Int × ByteArray)) → Option (((List (Int × Int × Int × Int × ByteArray)) × Unit) × Unit)) (L2 : List Int → Bool → (List (Int × Int × Int × Int × ByteArray)) → Option (((List (Int × Int × Int × Int × ByteArray)) × Unit) × Unit)) (v1 : List Int) (v2 : List (Int × Int × Int × Int × ByteArray)) : Option (((List (Int × Int × Int × Int × ByteArray)) × Unit) × Unit) :=
 bif decide ((v1.length : Int) > 0) then
  bif decide (0 < (v1.length : Int)) then
   bif decide (1 ≤ (v1.length : Int)) && decide ((v1.length : Int) ≤ (v1.length : Int)) then
    bif (IntKind.wrap .i64 (Int.tmod (List.getD v1 0 0) 10)) == 0 then
     L1 (List.drop 1 (List.take ((v1.length : Int).toNat) v1)) v2
    else
    bif (IntKind.wrap .i64 (Int.tmod (List.getD v1 0 0) 10)) == 1 then
     Option.bind (pleachref10_reader_num (List.drop 1 (List.take ((v1.length : Int).toNat) v1), false)) fun (r3 : (Int × Unit) × (((List Int) × Bool) × Unit)) =>
     Option.bind (pleachref10_reader_text r3.2.1) fun (r4 : (ByteArray × Unit) × (((List Int) × Bool) × Unit)) =>
     bif r4.2.1.2 then
      some ((v2, ()), ())
     else
     bif Nat.ble (v2.length + 1) 1073741824 then
      L2 r4.2.1.1 r4.2.1.2 (v2 ++ [(IntKind.wrap .i64 (Int.tmod (List.getD v1 0 0) 10), r3.1.1, 0, 0, r4.1.1)])
     else none
    else
    bif (IntKind.wrap .i64 (Int.tmod (List.getD v1 0 0) 10)) == 2 then
     bif (IntKind.wrap .i64 (Int.tmod (List.getD v1 0 0) 10)) == 2 then
      Option.bind (pleachref10_reader_num (List.drop 1 (List.take ((v1.length : Int).toNat) v1), false)) fun (r25 : (Int × Unit) × (((List Int) × Bool) × Unit)) =>
      bif r25.2.1.2 then
       some ((v2, ()), ())
      else
      bif Nat.ble (v2.length + 1) 1073741824 then
       L2 r25.2.1.1 r25.2.1.2 (v2 ++ [(IntKind.wrap .i64 (Int.tmod (List.getD v1 0 0) 10), r25.1.1, 0, 0, (⟨#[]⟩ : ByteArray))])
      else none
     else
     bif (IntKind.wrap .i64 (Int.tmod (List.getD v1 0 0) 10)) == 4 then
      Option.bind (pleachref10_reader_text (List.drop 1 (List.take ((v1.length : Int).toNat) v1), false)) fun (r26 : (ByteArray × Unit) × (((List Int) × Bool) × Unit)) =>
      bif r26.2.1.2 then
       some ((v2, ()), ())
      else
      bif Nat.ble (v2.length + 1) 1073741824 then
       L2 r26.2.1.1 r26.2.1.2 (v2 ++ [(IntKind.wrap .i64 (Int.tmod (List.getD v1 0 0) 10), 0, 0, 0, r26.1.1)])
      else none
     else
     bif (IntKind.wrap .i64 (Int.tmod (List.getD v1 0 0) 10)) == 9 then
      Option.bind (pleachref10_reader_num (List.drop 1 (List.take ((v1.length : Int).toNat) v1), false)) fun (r27 : (Int × Unit) × (((List Int) × Bool) × Unit)) =>
      Option.bind (pleachref10_reader_num r27.2.1) fun (r28 : (Int × Unit) × (((List Int) × Bool) × Unit)) =>
      bif r28.2.1.2 then
       some ((v2, ()), ())
      else
      bif Nat.ble (v2.length + 1) 1073741824 then
       L2 r28.2.1.1 r28.2.1.2 (v2 ++ [(IntKind.wrap .i64 (Int.tmod (List.getD v1 0 0) 10), 0, r27.1.1, r28.1.1, (⟨#[]⟩ : ByteArray))])
      else none
     else
      Option.bind (pleachref10_reader_num (List.drop 1 (List.take ((v1.length : Int).toNat) v1), false)) fun (r29 : (Int × Unit) × (((List Int) × Bool) × Unit)) =>
      bif r29.2.1.2 then
       some ((v2, ()), ())
      else
      bif Nat.ble (v2.length + 1) 1073741824 then
       L2 r29.2.1.1 r29.2.1.2 (v2 ++ [(IntKind.wrap .i64 (Int.tmod (List.getD v1 0 0) 10), 0, r29.1.1, 0, (⟨#[]⟩ : ByteArray))])
      else none
    else
    bif (IntKind.wrap .i64 (Int.tmod (List.getD v1 0 0) 10)) == 3 then
     bif (IntKind.wrap .i64 (Int.tmod (List.getD v1 0 0) 10)) == 3 then
      Option.bind (pleachref10_reader_num (List.drop 1 (List.take ((v1.length : Int).toNat) v1), false)) fun (r30 : (Int × Unit) × (((List Int) × Bool) × Unit)) =>
      bif r30.2.1.2 then
       some ((v2, ()), ())
      else
      bif Nat.ble (v2.length + 1) 1073741824 then
       L2 r30.2.1.1 r30.2.1.2 (v2 ++ [(IntKind.wrap .i64 (Int.tmod (List.getD v1 0 0) 10), r30.1.1, 0, 0, (⟨#[]⟩ : ByteArray))])
      else none
     else
     bif (IntKind.wrap .i64 (Int.tmod (List.getD v1 0 0) 10)) == 4 then
      Option.bind (pleachref10_reader_text (List.drop 1 (List.take ((v1.length : Int).toNat) v1), false)) fun (r31 : (ByteArray × Unit) × (((List Int) × Bool) × Unit)) =>
      bif r31.2.1.2 then
       some ((v2, ()), ())
      else
      bif Nat.ble (v2.length + 1) 1073741824 then
       L2 r31.2.1.1 r31.2.1.2 (v2 ++ [(IntKind.wrap .i64 (Int.tmod (List.getD v1 0 0) 10), 0, 0, 0, r31.1.1)])
      else none
     else
     bif (IntKind.wrap .i64 (Int.tmod (List.getD v1 0 0) 10)) == 9 then
      Option.bind (pleachref10_reader_num (List.drop 1 (List.take ((v1.length : Int).toNat) v1), false)) fun (r32 : (Int × Unit) × (((List Int) × Bool) × Unit)) =>
      Option.bind (pleachref10_reader_num r32.2.1) fun (r33 : (Int × Unit) × (((List Int) × Bool) × Unit)) =>
      bif r33.2.1.2 then
       some ((v2, ()), ())
      else
      bif Nat.ble (v2.length + 1) 1073741824 then
       L2 r33.2.1.1 r33.2.1.2 (v2 ++ [(IntKind.wrap .i64 (Int.tmod (List.getD v1 0 0) 10), 0, r32.1.1, r33.1.1, (⟨#[]⟩ : ByteArray))])
      else none
     else
      Option.bind (pleachref10_reader_num (List.drop 1 (List.take ((v1.length : Int).toNat) v1), false)) fun (r34 : (Int × Unit) × (((List Int) × Bool) × Unit)) =>
      bif r34.2.1.2 then
       some ((v2, ()), ())
      else
      bif Nat.ble (v2.length + 1) 1073741824 then
       L2 r34.2.1.1 r34.2.1.2 (v2 ++ [(IntKind.wrap .i64 (Int.tmod (List.getD v1 0 0) 10), 0, r34.1.1, 0, (⟨#[]⟩ : ByteArray))])
      else none
    else
    bif (IntKind.wrap .i64 (Int.tmod (List.getD v1 0 0) 10)) == 5 then
     Option.bind (pleachref10_reader_num (List.drop 1 (List.take ((v1.length : Int).toNat) v1), false)) fun (r35 : (Int × Unit) × (((List Int) × Bool) × Unit)) =>
     bif r35.2.1.2 then
      some ((v2, ()), ())
     else
     bif Nat.ble (v2.length + 1) 1073741824 then
      L2 r35.2.1.1 r35.2.1.2 (v2 ++ [(IntKind.wrap .i64 (Int.tmod (List.getD v1 0 0) 10), r35.1.1, 0, 0, (⟨#[]⟩ : ByteArray))])
     else none
    else
    bif (IntKind.wrap .i64 (Int.tmod (List.getD v1 0 0) 10)) == 4 then
     Option.bind (pleachref10_reader_text (List.drop 1 (List.take ((v1.length : Int).toNat) v1), false)) fun (r36 : (ByteArray × Unit) × (((List Int) × Bool) × Unit)) =>
     bif r36.2.1.2 then
      some ((v2, ()), ())
     else
     bif Nat.ble (v2.length + 1) 1073741824 then
      L2 r36.2.1.1 r36.2.1.2 (v2 ++ [(IntKind.wrap .i64 (Int.tmod (List.getD v1 0 0) 10), 0, 0, 0, r36.1.1)])
     else none
    else
    bif (IntKind.wrap .i64 (Int.tmod (List.getD v1 0 0) 10)) == 9 then
     Option.bind (pleachref10_reader_num (List.drop 1 (List.take ((v1.length : Int).toNat) v1), false)) fun (r37 : (Int × Unit) × (((List Int) × Bool) × Unit)) =>
     Option.bind (pleachref10_reader_num r37.2.1) fun (r38 : (Int × Unit) × (((List Int) × Bool) × Unit)) =>
     bif r38.2.1.2 then
      some ((v2, ()), ())
     else
     bif Nat.ble (v2.length + 1) 1073741824 then
      L2 r38.2.1.1 r38.2.1.2 (v2 ++ [(IntKind.wrap .i64 (Int.tmod (List.getD v1 0 0) 10), 0, r37.1.1, r38.1.1, (⟨#[]⟩ : ByteArray))])
     else none
    else
     Option.bind (pleachref10_reader_num (List.drop 1 (List.take ((v1.length : Int).toNat) v1), false)) fun (r39 : (Int × Unit) × (((List Int) × Bool) × Unit)) =>
     bif r39.2.1.2 then
      some ((v2, ()), ())
     else
     bif Nat.ble (v2.length + 1) 1073741824 then
      L2 r39.2.1.1 r39.2.1.2 (v2 ++ [(IntKind.wrap .i64 (Int.tmod (List.getD v1 0 0) 10), 0, r39.1.1, 0, (⟨#[]⟩ : ByteArray))])
     else none
   else none
  else none
 else
  some ((v2, ()), ())
noncomputable def pleachref10_TakeSteps_B2 (L2 : List Int → Bool → (List (Int × Int × Int × Int × ByteArray)) → Option (((List (Int × Int × Int × Int × ByteArray)) × Unit) × Unit)) (v5 : List Int) (v6 : Bool) (v7 : List (Int × Int × Int × Int × ByteArray)) : Option (((List (Int × Int × Int × Int × ByteArray)) × Unit) × Unit) :=
 bif decide ((v5.length : Int) > 0) then
  bif decide (0 < (v5.length : Int)) then
   bif decide (1 ≤ (v5.length : Int)) && decide ((v5.length : Int) ≤ (v5.length : Int)) then
    bif (IntKind.wrap .i64 (Int.tmod (List.getD v5 0 0) 10)) == 0 then
     L2 (List.drop 1 (List.take ((v5.length : Int).toNat) v5)) v6 v7
    else
    bif (IntKind.wrap .i64 (Int.tmod (List.getD v5 0 0) 10)) == 1 then
     Option.bind (pleachref10_reader_num (List.drop 1 (List.take ((v5.length : Int).toNat) v5), v6)) fun (r8 : (Int × Unit) × (((List Int) × Bool) × Unit)) =>
     Option.bind (pleachref10_reader_text r8.2.1) fun (r9 : (ByteArray × Unit) × (((List Int) × Bool) × Unit)) =>
     bif r9.2.1.2 then
      some ((v7, ()), ())
     else
     bif Nat.ble (v7.length + 1) 1073741824 then
      L2 r9.2.1.1 r9.2.1.2 (v7 ++ [(IntKind.wrap .i64 (Int.tmod (List.getD v5 0 0) 10), r8.1.1, 0, 0, r9.1.1)])
     else none
    else
    bif (IntKind.wrap .i64 (Int.tmod (List.getD v5 0 0) 10)) == 2 then
     bif (IntKind.wrap .i64 (Int.tmod (List.getD v5 0 0) 10)) == 2 then
      Option.bind (pleachref10_reader_num (List.drop 1 (List.take ((v5.length : Int).toNat) v5), v6)) fun (r10 : (Int × Unit) × (((List Int) × Bool) × Unit)) =>
      bif r10.2.1.2 then
       some ((v7, ()), ())
      else
      bif Nat.ble (v7.length + 1) 1073741824 then
       L2 r10.2.1.1 r10.2.1.2 (v7 ++ [(IntKind.wrap .i64 (Int.tmod (List.getD v5 0 0) 10), r10.1.1, 0, 0, (⟨#[]⟩ : ByteArray))])
      else none
     else
     bif (IntKind.wrap .i64 (Int.tmod (List.getD v5 0 0) 10)) == 4 then
      Option.bind (pleachref10_reader_text (List.drop 1 (List.take ((v5.length : Int).toNat) v5), v6)) fun (r11 : (ByteArray × Unit) × (((List Int) × Bool) × Unit)) =>
      bif r11.2.1.2 then
       some ((v7, ()), ())
      else
      bif Nat.ble (v7.length + 1) 1073741824 then
       L2 r11.2.1.1 r11.2.1.2 (v7 ++ [(IntKind.wrap .i64 (Int.tmod (List.getD v5 0 0) 10), 0, 0, 0, r11.1.1)])
      else none
     else
     bif (IntKind.wrap .i64 (Int.tmod (List.getD v5 0 0) 10)) == 9 then
      Option.bind (pleachref10_reader_num (List.drop 1 (List.take ((v5.length : Int).toNat) v5), v6)) fun (r12 : (Int × Unit) × (((List Int) × Bool) × Unit)) =>
      Option.bind (pleachref10_reader_num r12.2.1) fun (r13 : (Int × Unit) × (((List Int) × Bool) × Unit)) =>
      bif r13.2.1.2 then
       some ((v7, ()), ())
      else
      bif Nat.ble (v7.length + 1) 1073741824 then
       L2 r13.2.1.1 r13.2.1.2 (v7 ++ [(IntKind.wrap .i64 (Int.tmod (List.getD v5 0 0) 10), 0, r12.1.1, r13.1.1, (⟨#[]⟩ : ByteArray))])
      else none
     else
      Option.bind (pleachref10_reader_num (List.drop 1 (List.take ((v5.length : Int).toNat) v5), v6)) fun (r14 : (Int × Unit) × (((List Int) × Bool) × Unit)) =>
      bif r14.2.1.2 then
       some ((v7, ()), ())
      else
      bif Nat.ble (v7.length + 1) 1073741824 then
       L2 r14.2.1.1 r14.2.1.2 (v7 ++ [(IntKind.wrap .i64 (Int.tmod (List.getD v5 0 0) 10), 0, r14.1.1, 0, (⟨#[]⟩ : ByteArray))])
      else none
    else
    bif (IntKind.wrap .i64 (Int.tmod (List.getD v5 0 0) 10)) == 3 then
     bif (IntKind.wrap .i64 (Int.tmod (List.getD v5 0 0) 10)) == 3 then
      Option.bind (pleachref10_reader_num (List.drop 1 (List.take ((v5.length : Int).toNat) v5), v6)) fun (r15 : (Int × Unit) × (((List Int) × Bool) × Unit)) =>
      bif r15.2.1.2 then
       some ((v7, ()), ())
      else
      bif Nat.ble (v7.length + 1) 1073741824 then
       L2 r15.2.1.1 r15.2.1.2 (v7 ++ [(IntKind.wrap .i64 (Int.tmod (List.getD v5 0 0) 10), r15.1.1, 0, 0, (⟨#[]⟩ : ByteArray))])
      else none
     else
     bif (IntKind.wrap .i64 (Int.tmod (List.getD v5 0 0) 10)) == 4 then
      Option.bind (pleachref10_reader_text (List.drop 1 (List.take ((v5.length : Int).toNat) v5), v6)) fun (r16 : (ByteArray × Unit) × (((List Int) × Bool) × Unit)) =>
      bif r16.2.1.2 then
       some ((v7, ()), ())
      else
      bif Nat.ble (v7.length + 1) 1073741824 then
       L2 r16.2.1.1 r16.2.1.2 (v7 ++ [(IntKind.wrap .i64 (Int.tmod (List.getD v5 0 0) 10), 0, 0, 0, r16.1.1)])
      else none
     else
     bif (IntKind.wrap .i64 (Int.tmod (List.getD v5 0 0) 10)) == 9 then
      Option.bind (pleachref10_reader_num (List.drop 1 (List.take ((v5.length : Int).toNat) v5), v6)) fun (r17 : (Int × Unit) × (((List Int) × Bool) × Unit)) =>
      Option.bind (pleachref10_reader_num r17.2.1) fun (r18 : (Int × Unit) × (((List Int) × Bool) × Unit)) =>
      bif r18.2.1.2 then
       some ((v7, ()), ())
      else
      bif Nat.ble (v7.length + 1) 1073741824 then
       L2 r18.2.1.1 r18.2.1.2 (v7 ++ [(IntKind.wrap .i64 (Int.tmod (List.getD v5 0 0) 10), 0, r17.1.1, r18.1.1, (⟨#[]⟩ : ByteArray))])
      else none
     else
      Option.bind (pleachref10_reader_num (List.drop 1 (List.take ((v5.length : Int).toNat) v5), v6)) fun (r19 : (Int × Unit) × (((List Int) × Bool) × Unit)) =>
      bif r19.2.1.2 then
       some ((v7, ()), ())
      else
      bif Nat.ble (v7.length + 1) 1073741824 then
       L2 r19.2.1.1 r19.2.1.2 (v7 ++ [(IntKind.wrap .i64 (Int.tmod (List.getD v5 0 0) 10), 0, r19.1.1, 0, (⟨#[]⟩ : ByteArray))])
      else none
    else
    bif (IntKind.wrap .i64 (Int.tmod (List.getD v5 0 0) 10)) == 5 then
     Option.bind (pleachref10_reader_num (List.drop 1 (List.take ((v5.length : Int).toNat) v5), v6)) fun (r20 : (Int × Unit) × (((List Int) × Bool) × Unit)) =>
     bif r20.2.1.2 then
      some ((v7, ()), ())
     else
     bif Nat.ble (v7.length + 1) 1073741824 then
      L2 r20.2.1.1 r20.2.1.2 (v7 ++ [(IntKind.wrap .i64 (Int.tmod (List.getD v5 0 0) 10), r20.1.1, 0, 0, (⟨#[]⟩ : ByteArray))])
     else none
    else
    bif (IntKind.wrap .i64 (Int.tmod (List.getD v5 0 0) 10)) == 4 then
     Option.bind (pleachref10_reader_text (List.drop 1 (List.take ((v5.length : Int).toNat) v5), v6)) fun (r21 : (ByteArray × Unit) × (((List Int) × Bool) × Unit)) =>
     bif r21.2.1.2 then
      some ((v7, ()), ())
     else
     bif Nat.ble (v7.length + 1) 1073741824 then
      L2 r21.2.1.1 r21.2.1.2 (v7 ++ [(IntKind.wrap .i64 (Int.tmod (List.getD v5 0 0) 10), 0, 0, 0, r21.1.1)])
     else none
    else
    bif (IntKind.wrap .i64 (Int.tmod (List.getD v5 0 0) 10)) == 9 then
     Option.bind (pleachref10_reader_num (List.drop 1 (List.take ((v5.length : Int).toNat) v5), v6)) fun (r22 : (Int × Unit) × (((List Int) × Bool) × Unit)) =>
     Option.bind (pleachref10_reader_num r22.2.1) fun (r23 : (Int × Unit) × (((List Int) × Bool) × Unit)) =>
     bif r23.2.1.2 then
      some ((v7, ()), ())
     else
     bif Nat.ble (v7.length + 1) 1073741824 then
      L2 r23.2.1.1 r23.2.1.2 (v7 ++ [(IntKind.wrap .i64 (Int.tmod (List.getD v5 0 0) 10), 0, r22.1.1, r23.1.1, (⟨#[]⟩ : ByteArray))])
     else none
    else
     Option.bind (pleachref10_reader_num (List.drop 1 (List.take ((v5.length : Int).toNat) v5), v6)) fun (r24 : (Int × Unit) × (((List Int) × Bool) × Unit)) =>
     bif r24.2.1.2 then
      some ((v7, ()), ())
     else
     bif Nat.ble (v7.length + 1) 1073741824 then
      L2 r24.2.1.1 r24.2.1.2 (v7 ++ [(IntKind.wrap .i64 (Int.tmod (List.getD v5 0 0) 10), 0, r24.1.1, 0, (⟨#[]⟩ : ByteArray))])
     else none
   else none
  else none
 else
  some ((v7, ()), ())
noncomputable def pleachref10_TakeSteps_T (L1 : List Int → (List (Int × Int × Int × Int × ByteArray)) → Option (((List (Int × Int × Int × Int × ByteArray)) × Unit) × Unit)) (b_0 : List Int) : Option (((List (Int × Int × Int × Int × ByteArray)) × Unit) × Unit) :=
 L1 b_0 []
noncomputable def pleachref10_TakeSteps_L2 (n : Nat) : Nat → List Int → Bool → (List (Int × Int × Int × Int × ByteArray)) → Option (((List (Int × Int × Int × Int × ByteArray)) × Unit) × Unit) := iter (fun _ _ _ => none) fun L => pleachref10_TakeSteps_B2 L
noncomputable def pleachref10_TakeSteps_L1 (n : Nat) : Nat → List Int → (List (Int × Int × Int × Int × ByteArray)) → Option (((List (Int × Int × Int × Int × ByteArray)) × Unit) × Unit) := iterN (fun _ _ => none) fun m L => pleachref10_TakeSteps_B1 L (pleachref10_TakeSteps_L2 n m)
noncomputable def pleachref10_TakeSteps_X1 (n m : Nat) (v1 : List Int) (v2 : List (Int × Int × Int × Int × ByteArray)) : Option (((List (Int × Int × Int × Int × ByteArray)) × Unit) × Unit) :=
 atLoop pleachref10_TakeSteps_Γ tab (fiB [.val t23] pleachref10_TakeSteps_fi) n [.val t23] [⟨t35, [true], none⟩] Try.f31 [1, 1, 1, 0, 0] [] [3, 4] m
 ⟨[(3, SV.cv (CV.one (LV.ptr (8, 0) 0))), (4, SV.cv (CV.one (LV.ref (888888, 4))))],
  [((8, 0), Ob.box 95 [LV.pure t23 v1, LV.lit false]), ((888888, 4), Ob.row 37 t36 v2)]⟩
noncomputable def pleachref10_TakeSteps_X2 (n m : Nat) (v5 : List Int) (v6 : Bool) (v7 : List (Int × Int × Int × Int × ByteArray)) : Option (((List (Int × Int × Int × Int × ByteArray)) × Unit) × Unit) :=
 atLoop pleachref10_TakeSteps_Γ tab (fiB [.val t23] pleachref10_TakeSteps_fi) n [.val t23] [⟨t35, [true], none⟩] Try.f31 [1, 1, 1, 0, 0] [] [3, 4] m
 ⟨[(3, SV.cv (CV.one (LV.ptr (8, 0) 0))), (4, SV.cv (CV.one (LV.ref (888888, 4))))],
  [((8, 0), Ob.box 95 [LV.pure t23 v5, LV.pure t4 v6]), ((888888, 4), Ob.row 37 t36 v7)]⟩
theorem pleachref10_TakeSteps_step1 (n m : Nat) (v1 : List Int) (v2 : List (Int × Int × Int × Int × ByteArray)) : pleachref10_TakeSteps_X1 n (m + 1) v1 v2 = pleachref10_TakeSteps_B1 (pleachref10_TakeSteps_X1 n m) (pleachref10_TakeSteps_X2 n m) v1 v2 := by kernel_rfl
theorem pleachref10_TakeSteps_step2 (n m : Nat) (v5 : List Int) (v6 : Bool) (v7 : List (Int × Int × Int × Int × ByteArray)) : pleachref10_TakeSteps_X2 n (m + 1) v5 v6 v7 = pleachref10_TakeSteps_B2 (pleachref10_TakeSteps_X2 n m) v5 v6 v7 := by kernel_rfl
theorem pleachref10_TakeSteps_start (n : Nat) (b_0 : List Int) : evFn pleachref10_TakeSteps_Γ tab pleachref10_TakeSteps_fi n [.val t23] [⟨t35, [true], none⟩] Try.f31 (b_0, ()) = pleachref10_TakeSteps_T (pleachref10_TakeSteps_X1 n n) b_0 := by kernel_rfl
theorem pleachref10_TakeSteps_XL2 (n : Nat) : ∀ m, pleachref10_TakeSteps_X2 n m = pleachref10_TakeSteps_L2 n m
 | 0 => rfl
 | m + 1 => by
  have ih := pleachref10_TakeSteps_XL2 n m
  funext v5 v6 v7
  rw [pleachref10_TakeSteps_step2, ih]
  rfl
theorem pleachref10_TakeSteps_XL1 (n : Nat) : ∀ m, pleachref10_TakeSteps_X1 n m = pleachref10_TakeSteps_L1 n m
 | 0 => rfl
 | m + 1 => by
  have ih := pleachref10_TakeSteps_XL1 n m
  funext v1 v2
  rw [pleachref10_TakeSteps_step1, pleachref10_TakeSteps_XL2 n m, ih]
  rfl
noncomputable def pleachref10_TakeSteps_n (n : Nat) (b_0 : List Int) : Option (((List (Int × Int × Int × Int × ByteArray)) × Unit) × Unit) := pleachref10_TakeSteps_T (pleachref10_TakeSteps_L1 n n) b_0
noncomputable def pleachref10_TakeSteps (b_0 : List Int) : Option (((List (Int × Int × Int × Int × ByteArray)) × Unit) × Unit) := pleachref10_TakeSteps_n 1099511627776 b_0
theorem pleachref10_TakeSteps_eq (n : Nat) (b_0 : List Int) : evFn pleachref10_TakeSteps_Γ tab pleachref10_TakeSteps_fi n [.val t23] [⟨t35, [true], none⟩] Try.f31 (b_0, ()) = pleachref10_TakeSteps_n n b_0 := by
  rw [pleachref10_TakeSteps_start, pleachref10_TakeSteps_XL1 n n]
  rfl
noncomputable def pleachref10_TakeSteps_e : Ent := ⟨[.val t23], [⟨t35, [true], none⟩], fun x => pleachref10_TakeSteps x.1⟩
theorem pleachref10_TakeSteps_good : Good tab.ty Try.prog 31 pleachref10_TakeSteps_e := by
  refine fn_good (Γ := pleachref10_TakeSteps_Γ) (fi := pleachref10_TakeSteps_fi) (n := 1099511627776) follows (gcons pleachref10_reader_num_good (gcons pleachref10_reader_text_good gnil)) tabok Try.func31 (by kernel_rfl) (by kernel_rfl) (fun x r h => ?_)
  obtain ⟨b_0, _u⟩ := x
  exact (pleachref10_TakeSteps_eq 1099511627776 b_0).trans h
noncomputable def pleachref10_SameSteps_Γ : Ctx := []
def pleachref10_SameSteps_fi : Fi := { keep := [], vty := [], vals := [], live := [(0, [0, 1]), (1, [0, 1, 10]), (2, [4]), (3, [0, 1, 5]), (4, [0, 1, 5, 14]), (5, [0, 1, 5]), (6, [0, 1, 5, 25]), (7, [4]), (8, [4])] }
noncomputable def pleachref10_SameSteps_B1 (L1 : (List (Int × Int × Int × Int × ByteArray)) → (List (Int × Int × Int × Int × ByteArray)) → Int → Option ((Bool × Unit) × Unit)) (v1 : List (Int × Int × Int × Int × ByteArray)) (v2 : List (Int × Int × Int × Int × ByteArray)) (v3 : Int) : Option ((Bool × Unit) × Unit) :=
 bif decide (v3 < (v1.length : Int)) then
  bif decide (0 ≤ v3) && decide (v3 < (v1.length : Int)) then
   bif decide (0 ≤ v3) && decide (v3 < (v2.length : Int)) then
    bif !((((List.getD v1 v3.toNat (0, 0, 0, 0, (⟨#[]⟩ : ByteArray))).1) == ((List.getD v2 v3.toNat (0, 0, 0, 0, (⟨#[]⟩ : ByteArray))).1)) && (((((List.getD v1 v3.toNat (0, 0, 0, 0, (⟨#[]⟩ : ByteArray))).2).1) == (((List.getD v2 v3.toNat (0, 0, 0, 0, (⟨#[]⟩ : ByteArray))).2).1)) && ((((((List.getD v1 v3.toNat (0, 0, 0, 0, (⟨#[]⟩ : ByteArray))).2).2).1) == ((((List.getD v2 v3.toNat (0, 0, 0, 0, (⟨#[]⟩ : ByteArray))).2).2).1)) && (((((((List.getD v1 v3.toNat (0, 0, 0, 0, (⟨#[]⟩ : ByteArray))).2).2).2).1) == (((((List.getD v2 v3.toNat (0, 0, 0, 0, (⟨#[]⟩ : ByteArray))).2).2).2).1)) && ((strEq (((((List.getD v1 v3.toNat (0, 0, 0, 0, (⟨#[]⟩ : ByteArray))).2).2).2).2) (((((List.getD v2 v3.toNat (0, 0, 0, 0, (⟨#[]⟩ : ByteArray))).2).2).2).2)) && true))))) then
     some ((false, ()), ())
    else
     L1 v1 v2 (IntKind.wrap .i64 (v3 + 1))
   else none
  else none
 else
  some ((true, ()), ())
noncomputable def pleachref10_SameSteps_T (L1 : (List (Int × Int × Int × Int × ByteArray)) → (List (Int × Int × Int × Int × ByteArray)) → Int → Option ((Bool × Unit) × Unit)) (a_0 : List (Int × Int × Int × Int × ByteArray)) (b_1 : List (Int × Int × Int × Int × ByteArray)) : Option ((Bool × Unit) × Unit) :=
 bif (a_0.length : Int) != (b_1.length : Int) then
  some ((false, ()), ())
 else
  L1 a_0 b_1 0
noncomputable def pleachref10_SameSteps_L1 (n : Nat) : Nat → (List (Int × Int × Int × Int × ByteArray)) → (List (Int × Int × Int × Int × ByteArray)) → Int → Option ((Bool × Unit) × Unit) := iter (fun _ _ _ => none) fun L => pleachref10_SameSteps_B1 L
noncomputable def pleachref10_SameSteps_X1 (n m : Nat) (v1 : List (Int × Int × Int × Int × ByteArray)) (v2 : List (Int × Int × Int × Int × ByteArray)) (v3 : Int) : Option ((Bool × Unit) × Unit) :=
 atLoop pleachref10_SameSteps_Γ tab (fiB [.val t35, .val t35] pleachref10_SameSteps_fi) n [.val t35, .val t35] [⟨t4, [false], none⟩] Try.f29 [1, 1, 0, 1, 0] [] [0, 1, 5] m
 ⟨[(0, SV.cv (CV.one (LV.pure t35 v1))), (1, SV.cv (CV.one (LV.pure t35 v2))), (5, SV.cv (CV.one (LV.pure t2 v3)))],
  []⟩
theorem pleachref10_SameSteps_step1 (n m : Nat) (v1 : List (Int × Int × Int × Int × ByteArray)) (v2 : List (Int × Int × Int × Int × ByteArray)) (v3 : Int) : pleachref10_SameSteps_X1 n (m + 1) v1 v2 v3 = pleachref10_SameSteps_B1 (pleachref10_SameSteps_X1 n m) v1 v2 v3 := by kernel_rfl
theorem pleachref10_SameSteps_start (n : Nat) (a_0 : List (Int × Int × Int × Int × ByteArray)) (b_1 : List (Int × Int × Int × Int × ByteArray)) : evFn pleachref10_SameSteps_Γ tab pleachref10_SameSteps_fi n [.val t35, .val t35] [⟨t4, [false], none⟩] Try.f29 (a_0, b_1, ()) = pleachref10_SameSteps_T (pleachref10_SameSteps_X1 n n) a_0 b_1 := by kernel_rfl
theorem pleachref10_SameSteps_XL1 (n : Nat) : ∀ m, pleachref10_SameSteps_X1 n m = pleachref10_SameSteps_L1 n m
 | 0 => rfl
 | m + 1 => by
  have ih := pleachref10_SameSteps_XL1 n m
  funext v1 v2 v3
  rw [pleachref10_SameSteps_step1, ih]
  rfl
noncomputable def pleachref10_SameSteps_n (n : Nat) (a_0 : List (Int × Int × Int × Int × ByteArray)) (b_1 : List (Int × Int × Int × Int × ByteArray)) : Option ((Bool × Unit) × Unit) := pleachref10_SameSteps_T (pleachref10_SameSteps_L1 n n) a_0 b_1
noncomputable def pleachref10_SameSteps (a_0 : List (Int × Int × Int × Int × ByteArray)) (b_1 : List (Int × Int × Int × Int × ByteArray)) : Option ((Bool × Unit) × Unit) := pleachref10_SameSteps_n 1099511627776 a_0 b_1
theorem pleachref10_SameSteps_eq (n : Nat) (a_0 : List (Int × Int × Int × Int × ByteArray)) (b_1 : List (Int × Int × Int × Int × ByteArray)) : evFn pleachref10_SameSteps_Γ tab pleachref10_SameSteps_fi n [.val t35, .val t35] [⟨t4, [false], none⟩] Try.f29 (a_0, b_1, ()) = pleachref10_SameSteps_n n a_0 b_1 := by
  rw [pleachref10_SameSteps_start, pleachref10_SameSteps_XL1 n n]
  rfl
noncomputable def pleachref10_SameSteps_e : Ent := ⟨[.val t35, .val t35], [⟨t4, [false], none⟩], fun x => pleachref10_SameSteps x.1 x.2.1⟩
theorem pleachref10_SameSteps_good : Good tab.ty Try.prog 29 pleachref10_SameSteps_e := by
  refine fn_good (Γ := pleachref10_SameSteps_Γ) (fi := pleachref10_SameSteps_fi) (n := 1099511627776) follows gnil tabok Try.func29 (by kernel_rfl) (by kernel_rfl) (fun x r h => ?_)
  obtain ⟨a_0, b_1, _u⟩ := x
  exact (pleachref10_SameSteps_eq 1099511627776 a_0 b_1).trans h
noncomputable def pleachref10_PutNum_Γ : Ctx := []
def pleachref10_PutNum_fi : Fi := { keep := [], vty := [], vals := [], live := [(0, [0, 1]), (1, [1, 5]), (2, [1, 5, 10]), (3, [1, 5]), (4, [4])] }
noncomputable def pleachref10_PutNum_B1 (L1 : Int → List Int → Option (((List Int) × Unit) × Unit)) (v1 : Int) (v2 : List Int) : Option (((List Int) × Unit) × Unit) :=
 bif decide (v1 ≥ 128) then
  bif Nat.ble (v2.length + 1) 1073741824 then
   L1 (IntKind.wrap .i64 (Int.tdiv v1 128)) (v2 ++ [IntKind.wrap .u8 (IntKind.wrap .i64 ((Int.tmod v1 128) + 128))])
  else none
 else
 bif Nat.ble (v2.length + 1) 1073741824 then
  some ((v2 ++ [IntKind.wrap .u8 v1], ()), ())
 else none
noncomputable def pleachref10_PutNum_T (L1 : Int → List Int → Option (((List Int) × Unit) × Unit)) (b_0 : List Int) (v_1 : Int) : Option (((List Int) × Unit) × Unit) :=
 bif Nat.ble (0 + b_0.length) 1073741824 then
  L1 v_1 ([] ++ b_0)
 else none
noncomputable def pleachref10_PutNum_L1 (n : Nat) : Nat → Int → List Int → Option (((List Int) × Unit) × Unit) := iter (fun _ _ => none) fun L => pleachref10_PutNum_B1 L
noncomputable def pleachref10_PutNum_X1 (n m : Nat) (v1 : Int) (v2 : List Int) : Option (((List Int) × Unit) × Unit) :=
 atLoop pleachref10_PutNum_Γ tab (fiB [.val t23, .val t2] pleachref10_PutNum_fi) n [.val t23, .val t2] [⟨t23, [true], none⟩] Try.f18 [1, 1, 0, 0] [] [1, 5] m
 ⟨[(1, SV.cv (CV.one (LV.pure t2 v1))), (5, SV.cv (CV.one (LV.ref (888888, 5))))],
  [((888888, 5), Ob.row 5 t5 v2)]⟩
theorem pleachref10_PutNum_step1 (n m : Nat) (v1 : Int) (v2 : List Int) : pleachref10_PutNum_X1 n (m + 1) v1 v2 = pleachref10_PutNum_B1 (pleachref10_PutNum_X1 n m) v1 v2 := by kernel_rfl
theorem pleachref10_PutNum_start (n : Nat) (b_0 : List Int) (v_1 : Int) : evFn pleachref10_PutNum_Γ tab pleachref10_PutNum_fi n [.val t23, .val t2] [⟨t23, [true], none⟩] Try.f18 (b_0, v_1, ()) = pleachref10_PutNum_T (pleachref10_PutNum_X1 n n) b_0 v_1 := by kernel_rfl
theorem pleachref10_PutNum_XL1 (n : Nat) : ∀ m, pleachref10_PutNum_X1 n m = pleachref10_PutNum_L1 n m
 | 0 => rfl
 | m + 1 => by
  have ih := pleachref10_PutNum_XL1 n m
  funext v1 v2
  rw [pleachref10_PutNum_step1, ih]
  rfl
noncomputable def pleachref10_PutNum_n (n : Nat) (b_0 : List Int) (v_1 : Int) : Option (((List Int) × Unit) × Unit) := pleachref10_PutNum_T (pleachref10_PutNum_L1 n n) b_0 v_1
noncomputable def pleachref10_PutNum (b_0 : List Int) (v_1 : Int) : Option (((List Int) × Unit) × Unit) := pleachref10_PutNum_n 1099511627776 b_0 v_1
theorem pleachref10_PutNum_eq (n : Nat) (b_0 : List Int) (v_1 : Int) : evFn pleachref10_PutNum_Γ tab pleachref10_PutNum_fi n [.val t23, .val t2] [⟨t23, [true], none⟩] Try.f18 (b_0, v_1, ()) = pleachref10_PutNum_n n b_0 v_1 := by
  rw [pleachref10_PutNum_start, pleachref10_PutNum_XL1 n n]
  rfl
noncomputable def pleachref10_PutNum_e : Ent := ⟨[.val t23, .val t2], [⟨t23, [true], none⟩], fun x => pleachref10_PutNum x.1 x.2.1⟩
theorem pleachref10_PutNum_good : Good tab.ty Try.prog 18 pleachref10_PutNum_e := by
  refine fn_good (Γ := pleachref10_PutNum_Γ) (fi := pleachref10_PutNum_fi) (n := 1099511627776) follows gnil tabok Try.func18 (by kernel_rfl) (by kernel_rfl) (fun x r h => ?_)
  obtain ⟨b_0, v_1, _u⟩ := x
  exact (pleachref10_PutNum_eq 1099511627776 b_0 v_1).trans h
noncomputable def pleachref10_PutText_Γ : Ctx := [(18, pleachref10_PutNum_e)]
def pleachref10_PutText_fi : Fi := { keep := [], vty := [], vals := [], live := [(0, [0, 1]), (1, [4])] }
noncomputable def pleachref10_PutText (b_0 : List Int) (s_1 : ByteArray) : Option (((List Int) × Unit) × Unit) :=
 Option.bind (pleachref10_PutNum b_0 (s_1.size : Int)) fun (r1 : ((List Int) × Unit) × Unit) =>
 bif Nat.ble (r1.1.1.length + (s_1.data.toList.map fun b => (b.toNat : Int)).length) 1073741824 then
  some ((r1.1.1 ++ (s_1.data.toList.map fun b => (b.toNat : Int)), ()), ())
 else none
theorem pleachref10_PutText_eq (b_0 : List Int) (s_1 : ByteArray) : evFn pleachref10_PutText_Γ tab pleachref10_PutText_fi 1 [.val t23, .val t9] [⟨t23, [true], none⟩] Try.f20 (b_0, s_1, ()) = pleachref10_PutText b_0 s_1 := by kernel_rfl
noncomputable def pleachref10_PutText_e : Ent := ⟨[.val t23, .val t9], [⟨t23, [true], none⟩], fun x => pleachref10_PutText x.1 x.2.1⟩
theorem pleachref10_PutText_good : Good tab.ty Try.prog 20 pleachref10_PutText_e := by
  refine fn_good (Γ := pleachref10_PutText_Γ) (fi := pleachref10_PutText_fi) (n := 1) follows (gcons pleachref10_PutNum_good gnil) tabok Try.func20 (by kernel_rfl) (by kernel_rfl) (fun x r h => ?_)
  obtain ⟨b_0, s_1, _u⟩ := x
  exact (pleachref10_PutText_eq b_0 s_1).trans h
noncomputable def pleachref10_putStep_Γ : Ctx := [(18, pleachref10_PutNum_e), (20, pleachref10_PutText_e)]
def pleachref10_putStep_fi : Fi := { keep := [], vty := [], vals := [], live := [(0, [1, 8, 9, 10, 13, 14, 15]), (1, [1, 16]), (2, [2]), (3, [1, 3]), (4, [1, 3, 22]), (5, [1, 3, 22, 23]), (6, [2]), (7, [1, 3, 22, 32]), (8, [1, 3, 22, 32]), (9, [1, 3, 22, 32]), (10, [2]), (11, [1, 3, 22, 40]), (12, [2]), (13, [1, 3, 46]), (14, [2]), (15, [2])] }
noncomputable def pleachref10_putStep (s_0 : Int × Int × Int × Int × ByteArray) : Option (((List Int) × Unit) × Unit) :=
 bif decide (s_0.2.1 < 0) then
  some (([], ()), ())
 else
 bif decide (s_0.2.2.1 < 0) then
  some (([], ()), ())
 else
 bif decide (s_0.2.2.2.1 < 0) then
  some (([], ()), ())
 else
 bif s_0.1 == 1 then
  Option.bind (pleachref10_PutNum [IntKind.wrap .u8 s_0.1] s_0.2.1) fun (r1 : ((List Int) × Unit) × Unit) =>
  Option.bind (pleachref10_PutText r1.1.1 s_0.2.2.2.2) fun (r2 : ((List Int) × Unit) × Unit) =>
  some ((r2.1.1, ()), ())
 else
 bif s_0.1 == 2 then
  bif s_0.1 == 2 then
   Option.bind (pleachref10_PutNum [IntKind.wrap .u8 s_0.1] s_0.2.1) fun (r3 : ((List Int) × Unit) × Unit) =>
   some ((r3.1.1, ()), ())
  else
  bif s_0.1 == 4 then
   Option.bind (pleachref10_PutText [IntKind.wrap .u8 s_0.1] s_0.2.2.2.2) fun (r4 : ((List Int) × Unit) × Unit) =>
   some ((r4.1.1, ()), ())
  else
  bif s_0.1 == 9 then
   Option.bind (pleachref10_PutNum [IntKind.wrap .u8 s_0.1] s_0.2.2.1) fun (r5 : ((List Int) × Unit) × Unit) =>
   Option.bind (pleachref10_PutNum r5.1.1 s_0.2.2.2.1) fun (r6 : ((List Int) × Unit) × Unit) =>
   some ((r6.1.1, ()), ())
  else
   Option.bind (pleachref10_PutNum [IntKind.wrap .u8 s_0.1] s_0.2.2.1) fun (r7 : ((List Int) × Unit) × Unit) =>
   some ((r7.1.1, ()), ())
 else
 bif s_0.1 == 3 then
  bif s_0.1 == 3 then
   Option.bind (pleachref10_PutNum [IntKind.wrap .u8 s_0.1] s_0.2.1) fun (r8 : ((List Int) × Unit) × Unit) =>
   some ((r8.1.1, ()), ())
  else
  bif s_0.1 == 4 then
   Option.bind (pleachref10_PutText [IntKind.wrap .u8 s_0.1] s_0.2.2.2.2) fun (r9 : ((List Int) × Unit) × Unit) =>
   some ((r9.1.1, ()), ())
  else
  bif s_0.1 == 9 then
   Option.bind (pleachref10_PutNum [IntKind.wrap .u8 s_0.1] s_0.2.2.1) fun (r10 : ((List Int) × Unit) × Unit) =>
   Option.bind (pleachref10_PutNum r10.1.1 s_0.2.2.2.1) fun (r11 : ((List Int) × Unit) × Unit) =>
   some ((r11.1.1, ()), ())
  else
   Option.bind (pleachref10_PutNum [IntKind.wrap .u8 s_0.1] s_0.2.2.1) fun (r12 : ((List Int) × Unit) × Unit) =>
   some ((r12.1.1, ()), ())
 else
 bif s_0.1 == 5 then
  Option.bind (pleachref10_PutNum [IntKind.wrap .u8 s_0.1] s_0.2.1) fun (r13 : ((List Int) × Unit) × Unit) =>
  some ((r13.1.1, ()), ())
 else
 bif s_0.1 == 4 then
  Option.bind (pleachref10_PutText [IntKind.wrap .u8 s_0.1] s_0.2.2.2.2) fun (r14 : ((List Int) × Unit) × Unit) =>
  some ((r14.1.1, ()), ())
 else
 bif s_0.1 == 9 then
  Option.bind (pleachref10_PutNum [IntKind.wrap .u8 s_0.1] s_0.2.2.1) fun (r15 : ((List Int) × Unit) × Unit) =>
  Option.bind (pleachref10_PutNum r15.1.1 s_0.2.2.2.1) fun (r16 : ((List Int) × Unit) × Unit) =>
  some ((r16.1.1, ()), ())
 else
  Option.bind (pleachref10_PutNum [IntKind.wrap .u8 s_0.1] s_0.2.2.1) fun (r17 : ((List Int) × Unit) × Unit) =>
  some ((r17.1.1, ()), ())
theorem pleachref10_putStep_eq (s_0 : Int × Int × Int × Int × ByteArray) : evFn pleachref10_putStep_Γ tab pleachref10_putStep_fi 1 [.val t36] [⟨t23, [true], none⟩] Try.f55 (s_0, ()) = pleachref10_putStep s_0 := by kernel_rfl
noncomputable def pleachref10_putStep_e : Ent := ⟨[.val t36], [⟨t23, [true], none⟩], fun x => pleachref10_putStep x.1⟩
theorem pleachref10_putStep_good : Good tab.ty Try.prog 55 pleachref10_putStep_e := by
  refine fn_good (Γ := pleachref10_putStep_Γ) (fi := pleachref10_putStep_fi) (n := 1) follows (gcons pleachref10_PutNum_good (gcons pleachref10_PutText_good gnil)) tabok Try.func55 (by kernel_rfl) (by kernel_rfl) (fun x r h => ?_)
  obtain ⟨s_0, _u⟩ := x
  exact (pleachref10_putStep_eq s_0).trans h
end Go.PE
