/-
  Functions of the program, each as the evaluator answers it, and its contract.
  Conditions: none.
-/
import Derived.Test.YtoidpccakojeaaaOpsBackT
set_option linter.unusedVariables false
set_option maxRecDepth 100000
namespace Go.PE
open Go.Proofs

noncomputable def slices_Clone_byte (s : List Int) : Option (((List Int) × Unit) × Unit) := bif Nat.ble s.length 1073741824 then some ((s, ()), ()) else none
theorem slices_Clone_byte_raw (s : List Int) : evFn [] tab (fiOf Try.f45 []) 1 [.val t23] [⟨t23, [true], none⟩] Try.f45 (s, ()) = bif !(List.isEmpty s) then bif Nat.ble (0 + s.length) 1073741824 then some (([] ++ s, ()), ()) else none
 else bothEq (some (([], ()), ())) (bif Nat.ble (0 + s.length) 1073741824 then some (([] ++ s, ()), ()) else none) := by kernel_rfl
theorem slices_Clone_byte_eq (s : List Int) : evFn [] tab (fiOf Try.f45 []) 1 [.val t23] [⟨t23, [true], none⟩] Try.f45 (s, ()) = slices_Clone_byte s := by
  rw [slices_Clone_byte_raw]
  cases s with
  | nil => exact bothEq_same _
  | cons x q => rw [Nat.zero_add]; rfl
noncomputable def slices_Clone_byte_e : Ent := ⟨[.val t23], [⟨t23, [true], none⟩], fun x => slices_Clone_byte x.1⟩
theorem slices_Clone_byte_good : Good tab.ty Try.prog 45 slices_Clone_byte_e := by
  refine fn_good (Γ := []) (fi := fiOf Try.f45 []) (n := 1) follows gnil tabok Try.func45 (by kernel_rfl) (by kernel_rfl) (fun x r h => ?_)
  obtain ⟨s, _u⟩ := x
  exact (slices_Clone_byte_eq s).trans h
noncomputable def bits_Put_Γ : Ctx := [(45, slices_Clone_byte_e)]
def bits_Put_fi : Fi := { keep := [], vty := [], vals := [], live := [(0, [0, 1]), (1, [0, 1]), (2, [0, 5]), (3, [0, 5, 11]), (4, [0, 5]), (5, [0, 5]), (6, [4])] }
noncomputable def bits_Put_B1 (L1 : Int → List Int → Option (((List Int) × Unit) × Unit)) (v2 : Int) (v3 : List Int) : Option (((List Int) × Unit) × Unit) :=
 bif decide (v2 ≥ 128) then
  bif Nat.ble (v3.length + 1) 1073741824 then
   L1 (Int.fdiv v2 (2 ^ 7)) (v3 ++ [IntKind.wrap .u8 ((BitVec.ofInt 8 (IntKind.wrap .u8 v2) ||| BitVec.ofInt 8 128).toNat)])
  else none
 else
 bif Nat.ble (v3.length + 1) 1073741824 then
  some ((v3 ++ [IntKind.wrap .u8 v2], ()), ())
 else none
noncomputable def bits_Put_T (L1 : Int → List Int → Option (((List Int) × Unit) × Unit)) (b_0 : List Int) (v_1 : Int) : Option (((List Int) × Unit) × Unit) :=
 Option.bind (slices_Clone_byte b_0) fun (r1 : ((List Int) × Unit) × Unit) =>
 L1 (IntKind.wrap .u64 v_1) r1.1.1
noncomputable def bits_Put_L1 (n : Nat) : Nat → Int → List Int → Option (((List Int) × Unit) × Unit) := iter (fun _ _ => none) fun L => bits_Put_B1 L
noncomputable def bits_Put_X1 (n m : Nat) (v2 : Int) (v3 : List Int) : Option (((List Int) × Unit) × Unit) :=
 atLoop bits_Put_Γ tab (fiB [.val t23, .val t2] bits_Put_fi) n [.val t23, .val t2] [⟨t23, [true], none⟩] Try.f17 [1, 1, 1, 0, 0] [] [0, 5] m
 ⟨[(0, SV.cv (CV.one (LV.ref (888888, 0)))), (5, SV.cv (CV.one (LV.pure t12 v2)))],
  [((888888, 0), Ob.row 5 t5 v3)]⟩
theorem bits_Put_step1 (n m : Nat) (v2 : Int) (v3 : List Int) : bits_Put_X1 n (m + 1) v2 v3 = bits_Put_B1 (bits_Put_X1 n m) v2 v3 := by kernel_rfl
theorem bits_Put_start (n : Nat) (b_0 : List Int) (v_1 : Int) : evFn bits_Put_Γ tab bits_Put_fi n [.val t23, .val t2] [⟨t23, [true], none⟩] Try.f17 (b_0, v_1, ()) = bits_Put_T (bits_Put_X1 n n) b_0 v_1 := by kernel_rfl
theorem bits_Put_XL1 (n : Nat) : ∀ m, bits_Put_X1 n m = bits_Put_L1 n m
 | 0 => rfl
 | m + 1 => by
  have ih := bits_Put_XL1 n m
  funext v2 v3
  rw [bits_Put_step1, ih]
  rfl
noncomputable def bits_Put_n (n : Nat) (b_0 : List Int) (v_1 : Int) : Option (((List Int) × Unit) × Unit) := bits_Put_T (bits_Put_L1 n n) b_0 v_1
noncomputable def bits_Put (b_0 : List Int) (v_1 : Int) : Option (((List Int) × Unit) × Unit) := bits_Put_n 1099511627776 b_0 v_1
theorem bits_Put_eq (n : Nat) (b_0 : List Int) (v_1 : Int) : evFn bits_Put_Γ tab bits_Put_fi n [.val t23, .val t2] [⟨t23, [true], none⟩] Try.f17 (b_0, v_1, ()) = bits_Put_n n b_0 v_1 := by
  rw [bits_Put_start, bits_Put_XL1 n n]
  rfl
noncomputable def bits_Put_e : Ent := ⟨[.val t23, .val t2], [⟨t23, [true], none⟩], fun x => bits_Put x.1 x.2.1⟩
theorem bits_Put_good : Good tab.ty Try.prog 17 bits_Put_e := by
  refine fn_good (Γ := bits_Put_Γ) (fi := bits_Put_fi) (n := 1099511627776) follows (gcons slices_Clone_byte_good gnil) tabok Try.func17 (by kernel_rfl) (by kernel_rfl) (fun x r h => ?_)
  obtain ⟨b_0, v_1, _u⟩ := x
  exact (bits_Put_eq 1099511627776 b_0 v_1).trans h
noncomputable def bits_PutText_Γ : Ctx := [(17, bits_Put_e)]
def bits_PutText_fi : Fi := { keep := [], vty := [], vals := [], live := [(0, [0, 1]), (1, [4])] }
noncomputable def bits_PutText (b_0 : List Int) (s_1 : ByteArray) : Option (((List Int) × Unit) × Unit) :=
 Option.bind (bits_Put b_0 (s_1.size : Int)) fun (r1 : ((List Int) × Unit) × Unit) =>
 bif Nat.ble (r1.1.1.length + (s_1.data.toList.map fun b => (b.toNat : Int)).length) 1073741824 then
  some ((r1.1.1 ++ (s_1.data.toList.map fun b => (b.toNat : Int)), ()), ())
 else none
theorem bits_PutText_eq (b_0 : List Int) (s_1 : ByteArray) : evFn bits_PutText_Γ tab bits_PutText_fi 1 [.val t23, .val t9] [⟨t23, [true], none⟩] Try.f19 (b_0, s_1, ()) = bits_PutText b_0 s_1 := by kernel_rfl
noncomputable def bits_PutText_e : Ent := ⟨[.val t23, .val t9], [⟨t23, [true], none⟩], fun x => bits_PutText x.1 x.2.1⟩
theorem bits_PutText_good : Good tab.ty Try.prog 19 bits_PutText_e := by
  refine fn_good (Γ := bits_PutText_Γ) (fi := bits_PutText_fi) (n := 1) follows (gcons bits_Put_good gnil) tabok Try.func19 (by kernel_rfl) (by kernel_rfl) (fun x r h => ?_)
  obtain ⟨b_0, s_1, _u⟩ := x
  exact (bits_PutText_eq b_0 s_1).trans h
noncomputable def ops_put_Γ : Ctx := [(17, bits_Put_e), (19, bits_PutText_e)]
def ops_put_fi : Fi := { keep := [], vty := [], vals := [], live := [(0, [1]), (1, [1, 3]), (2, [1, 3, 9]), (3, [1, 3, 9, 10]), (4, [2]), (5, [1, 3, 9, 20]), (6, [1, 3, 9, 20]), (7, [1, 3, 9, 20]), (8, [2]), (9, [1, 3, 9, 29]), (10, [2]), (11, [1, 3, 35]), (12, [2]), (13, [2])] }
noncomputable def ops_put (s_0 : Int × Int × Int × Int × ByteArray) : Option (((List Int) × Unit) × Unit) :=
 bif s_0.1 == 1 then
  Option.bind (bits_Put [IntKind.wrap .u8 s_0.1] (if 0 > s_0.2.1 then 0 else s_0.2.1)) fun (r1 : ((List Int) × Unit) × Unit) =>
  Option.bind (bits_PutText r1.1.1 s_0.2.2.2.2) fun (r2 : ((List Int) × Unit) × Unit) =>
  some ((r2.1.1, ()), ())
 else
 bif s_0.1 == 2 then
  bif s_0.1 == 2 then
   Option.bind (bits_Put [IntKind.wrap .u8 s_0.1] (if 0 > s_0.2.1 then 0 else s_0.2.1)) fun (r3 : ((List Int) × Unit) × Unit) =>
   some ((r3.1.1, ()), ())
  else
  bif s_0.1 == 4 then
   Option.bind (bits_PutText [IntKind.wrap .u8 s_0.1] s_0.2.2.2.2) fun (r4 : ((List Int) × Unit) × Unit) =>
   some ((r4.1.1, ()), ())
  else
  bif s_0.1 == 9 then
   Option.bind (bits_Put [IntKind.wrap .u8 s_0.1] (if 0 > s_0.2.2.1 then 0 else s_0.2.2.1)) fun (r5 : ((List Int) × Unit) × Unit) =>
   Option.bind (bits_Put r5.1.1 (if 0 > s_0.2.2.2.1 then 0 else s_0.2.2.2.1)) fun (r6 : ((List Int) × Unit) × Unit) =>
   some ((r6.1.1, ()), ())
  else
   Option.bind (bits_Put [IntKind.wrap .u8 s_0.1] (if 0 > s_0.2.2.1 then 0 else s_0.2.2.1)) fun (r7 : ((List Int) × Unit) × Unit) =>
   some ((r7.1.1, ()), ())
 else
 bif s_0.1 == 3 then
  bif s_0.1 == 3 then
   Option.bind (bits_Put [IntKind.wrap .u8 s_0.1] (if 0 > s_0.2.1 then 0 else s_0.2.1)) fun (r8 : ((List Int) × Unit) × Unit) =>
   some ((r8.1.1, ()), ())
  else
  bif s_0.1 == 4 then
   Option.bind (bits_PutText [IntKind.wrap .u8 s_0.1] s_0.2.2.2.2) fun (r9 : ((List Int) × Unit) × Unit) =>
   some ((r9.1.1, ()), ())
  else
  bif s_0.1 == 9 then
   Option.bind (bits_Put [IntKind.wrap .u8 s_0.1] (if 0 > s_0.2.2.1 then 0 else s_0.2.2.1)) fun (r10 : ((List Int) × Unit) × Unit) =>
   Option.bind (bits_Put r10.1.1 (if 0 > s_0.2.2.2.1 then 0 else s_0.2.2.2.1)) fun (r11 : ((List Int) × Unit) × Unit) =>
   some ((r11.1.1, ()), ())
  else
   Option.bind (bits_Put [IntKind.wrap .u8 s_0.1] (if 0 > s_0.2.2.1 then 0 else s_0.2.2.1)) fun (r12 : ((List Int) × Unit) × Unit) =>
   some ((r12.1.1, ()), ())
 else
 bif s_0.1 == 5 then
  Option.bind (bits_Put [IntKind.wrap .u8 s_0.1] (if 0 > s_0.2.1 then 0 else s_0.2.1)) fun (r13 : ((List Int) × Unit) × Unit) =>
  some ((r13.1.1, ()), ())
 else
 bif s_0.1 == 4 then
  Option.bind (bits_PutText [IntKind.wrap .u8 s_0.1] s_0.2.2.2.2) fun (r14 : ((List Int) × Unit) × Unit) =>
  some ((r14.1.1, ()), ())
 else
 bif s_0.1 == 9 then
  Option.bind (bits_Put [IntKind.wrap .u8 s_0.1] (if 0 > s_0.2.2.1 then 0 else s_0.2.2.1)) fun (r15 : ((List Int) × Unit) × Unit) =>
  Option.bind (bits_Put r15.1.1 (if 0 > s_0.2.2.2.1 then 0 else s_0.2.2.2.1)) fun (r16 : ((List Int) × Unit) × Unit) =>
  some ((r16.1.1, ()), ())
 else
  Option.bind (bits_Put [IntKind.wrap .u8 s_0.1] (if 0 > s_0.2.2.1 then 0 else s_0.2.2.1)) fun (r17 : ((List Int) × Unit) × Unit) =>
  some ((r17.1.1, ()), ())
theorem ops_put_eq (s_0 : Int × Int × Int × Int × ByteArray) : evFn ops_put_Γ tab ops_put_fi 1 [.val t36] [⟨t23, [true], none⟩] Try.f54 (s_0, ()) = ops_put s_0 := by kernel_rfl
noncomputable def ops_put_e : Ent := ⟨[.val t36], [⟨t23, [true], none⟩], fun x => ops_put x.1⟩
theorem ops_put_good : Good tab.ty Try.prog 54 ops_put_e := by
  refine fn_good (Γ := ops_put_Γ) (fi := ops_put_fi) (n := 1) follows (gcons bits_Put_good (gcons bits_PutText_good gnil)) tabok Try.func54 (by kernel_rfl) (by kernel_rfl) (fun x r h => ?_)
  obtain ⟨s_0, _u⟩ := x
  exact (ops_put_eq s_0).trans h
noncomputable def bits_take_Γ : Ctx := []
def bits_take_fi : Fi := { keep := [], vty := [], vals := [], live := [(0, [0, 2, 3, 11, 12, 33, 34, 37, 38]), (1, [0, 2, 3, 11, 12, 13, 33, 34, 37, 38]), (2, [0, 2, 3, 5, 11, 12, 33, 34, 37, 38]), (3, [0, 2, 3, 5, 11, 12, 33, 34, 37, 38]), (4, [0, 2, 3, 5, 11, 12, 33, 34, 37, 38]), (5, [0, 2, 3, 5, 11, 12, 29, 33, 34, 37, 38]), (6, [2, 3, 39]), (7, [2, 3, 4]), (8, [2, 3, 4])] }
noncomputable def bits_take_B1 (L1 : List Int → Int → Int → Option ((Int × Int × IV × Unit) × Unit)) (v1 : List Int) (v2 : Int) (v3 : Int) : Option ((Int × Int × IV × Unit) × Unit) :=
 bif decide (v3 < (v1.length : Int)) then
  bif decide (v3 < 5) then
   bif decide (0 ≤ v3) && decide (v3 < (v1.length : Int)) then
    bif decide (0 ≤ IntKind.wrap .i64 (7 * v3)) then
     bif decide (List.getD v1 v3.toNat 0 ≥ 128) then
      L1 v1 (IntKind.wrap .i64 ((BitVec.ofInt 64 v2 ||| BitVec.ofInt 64 (IntKind.wrap .i64 ((IntKind.wrap .i64 (IntKind.wrap .u8 ((BitVec.ofInt 8 (List.getD v1 v3.toNat 0) &&& BitVec.ofInt 8 127).toNat))) * 2 ^ (min ((IntKind.wrap .i64 (7 * v3)).toNat) 64)))).toNat)) (IntKind.wrap .i64 (v3 + 1))
     else
     bif decide (IntKind.wrap .i64 (v3 + 1) > 1) then
      bif (List.getD v1 v3.toNat 0) == 0 then
       some ((0, 0, IV.mk 78 [], ()), ())
      else
      bif decide (IntKind.wrap .i64 ((BitVec.ofInt 64 v2 ||| BitVec.ofInt 64 (IntKind.wrap .i64 ((IntKind.wrap .i64 (IntKind.wrap .u8 ((BitVec.ofInt 8 (List.getD v1 v3.toNat 0) &&& BitVec.ofInt 8 127).toNat))) * 2 ^ (min ((IntKind.wrap .i64 (7 * v3)).toNat) 64)))).toNat) > 1073741824) then
       some ((0, 0, IV.mk 78 [], ()), ())
      else
       some ((IntKind.wrap .i64 ((BitVec.ofInt 64 v2 ||| BitVec.ofInt 64 (IntKind.wrap .i64 ((IntKind.wrap .i64 (IntKind.wrap .u8 ((BitVec.ofInt 8 (List.getD v1 v3.toNat 0) &&& BitVec.ofInt 8 127).toNat))) * 2 ^ (min ((IntKind.wrap .i64 (7 * v3)).toNat) 64)))).toNat), IntKind.wrap .i64 (v3 + 1), IV.nil, ()), ())
     else
     bif decide (IntKind.wrap .i64 ((BitVec.ofInt 64 v2 ||| BitVec.ofInt 64 (IntKind.wrap .i64 ((IntKind.wrap .i64 (IntKind.wrap .u8 ((BitVec.ofInt 8 (List.getD v1 v3.toNat 0) &&& BitVec.ofInt 8 127).toNat))) * 2 ^ (min ((IntKind.wrap .i64 (7 * v3)).toNat) 64)))).toNat) > 1073741824) then
      some ((0, 0, IV.mk 78 [], ()), ())
     else
      some ((IntKind.wrap .i64 ((BitVec.ofInt 64 v2 ||| BitVec.ofInt 64 (IntKind.wrap .i64 ((IntKind.wrap .i64 (IntKind.wrap .u8 ((BitVec.ofInt 8 (List.getD v1 v3.toNat 0) &&& BitVec.ofInt 8 127).toNat))) * 2 ^ (min ((IntKind.wrap .i64 (7 * v3)).toNat) 64)))).toNat), IntKind.wrap .i64 (v3 + 1), IV.nil, ()), ())
    else none
   else none
  else
   some ((0, 0, IV.mk 78 [], ()), ())
 else
  some ((0, 0, IV.mk 78 [], ()), ())
noncomputable def bits_take_T (L1 : List Int → Int → Int → Option ((Int × Int × IV × Unit) × Unit)) (b_0 : List Int) : Option ((Int × Int × IV × Unit) × Unit) :=
 L1 b_0 0 0
noncomputable def bits_take_L1 (n : Nat) : Nat → List Int → Int → Int → Option ((Int × Int × IV × Unit) × Unit) := iter (fun _ _ _ => none) fun L => bits_take_B1 L
noncomputable def bits_take_X1 (n m : Nat) (v1 : List Int) (v2 : Int) (v3 : Int) : Option ((Int × Int × IV × Unit) × Unit) :=
 atLoop bits_take_Γ tab (fiB [.val t23] bits_take_fi) n [.val t23] [⟨t2, [false], none⟩, ⟨t2, [false], none⟩, ⟨t20, [false], none⟩] Try.f46 [1, 0, 0] [] [0, 2, 3] m
 ⟨[(0, SV.cv (CV.one (LV.pure t23 v1))), (2, SV.cv (CV.one (LV.pure t2 v2))), (3, SV.cv (CV.one (LV.pure t2 v3)))],
  []⟩
theorem bits_take_step1 (n m : Nat) (v1 : List Int) (v2 : Int) (v3 : Int) : bits_take_X1 n (m + 1) v1 v2 v3 = bits_take_B1 (bits_take_X1 n m) v1 v2 v3 := by kernel_rfl
theorem bits_take_start (n : Nat) (b_0 : List Int) : evFn bits_take_Γ tab bits_take_fi n [.val t23] [⟨t2, [false], none⟩, ⟨t2, [false], none⟩, ⟨t20, [false], none⟩] Try.f46 (b_0, ()) = bits_take_T (bits_take_X1 n n) b_0 := by kernel_rfl
theorem bits_take_XL1 (n : Nat) : ∀ m, bits_take_X1 n m = bits_take_L1 n m
 | 0 => rfl
 | m + 1 => by
  have ih := bits_take_XL1 n m
  funext v1 v2 v3
  rw [bits_take_step1, ih]
  rfl
noncomputable def bits_take_n (n : Nat) (b_0 : List Int) : Option ((Int × Int × IV × Unit) × Unit) := bits_take_T (bits_take_L1 n n) b_0
noncomputable def bits_take (b_0 : List Int) : Option ((Int × Int × IV × Unit) × Unit) := bits_take_n 1099511627776 b_0
theorem bits_take_eq (n : Nat) (b_0 : List Int) : evFn bits_take_Γ tab bits_take_fi n [.val t23] [⟨t2, [false], none⟩, ⟨t2, [false], none⟩, ⟨t20, [false], none⟩] Try.f46 (b_0, ()) = bits_take_n n b_0 := by
  rw [bits_take_start, bits_take_XL1 n n]
  rfl
noncomputable def bits_take_e : Ent := ⟨[.val t23], [⟨t2, [false], none⟩, ⟨t2, [false], none⟩, ⟨t20, [false], none⟩], fun x => bits_take x.1⟩
theorem bits_take_good : Good tab.ty Try.prog 46 bits_take_e := by
  refine fn_good (Γ := bits_take_Γ) (fi := bits_take_fi) (n := 1099511627776) follows gnil tabok Try.func46 (by kernel_rfl) (by kernel_rfl) (fun x r h => ?_)
  obtain ⟨b_0, _u⟩ := x
  exact (bits_take_eq 1099511627776 b_0).trans h
noncomputable def bits_Take_Γ : Ctx := [(46, bits_take_e)]
def bits_Take_fi : Fi := { keep := [], vty := [], vals := [], live := [(0, [0]), (1, [2, 3, 5]), (2, [2, 3, 7]), (3, [2, 3, 4])] }
noncomputable def bits_Take (b_0 : List Int) : Option ((Int × Int × Bool × Unit) × Unit) :=
 Option.bind (bits_take b_0) fun (r1 : (Int × Int × IV × Unit) × Unit) =>
 some ((r1.1.1, r1.1.2.1, !(IV.is r1.1.2.2.1 78), ()), ())
theorem bits_Take_eq (b_0 : List Int) : evFn bits_Take_Γ tab bits_Take_fi 1 [.val t23] [⟨t2, [false], none⟩, ⟨t2, [false], none⟩, ⟨t4, [false], none⟩] Try.f21 (b_0, ()) = bits_Take b_0 := by kernel_rfl
noncomputable def bits_Take_e : Ent := ⟨[.val t23], [⟨t2, [false], none⟩, ⟨t2, [false], none⟩, ⟨t4, [false], none⟩], fun x => bits_Take x.1⟩
theorem bits_Take_good : Good tab.ty Try.prog 21 bits_Take_e := by
  refine fn_good (Γ := bits_Take_Γ) (fi := bits_Take_fi) (n := 1) follows (gcons bits_take_good gnil) tabok Try.func21 (by kernel_rfl) (by kernel_rfl) (fun x r h => ?_)
  obtain ⟨b_0, _u⟩ := x
  exact (bits_Take_eq b_0).trans h
noncomputable def ops_reader_past_Γ : Ctx := []
def ops_reader_past_fi : Fi := { keep := [], vty := [], vals := [], live := [(0, [0, 2]), (1, [0, 16]), (2, [0])] }
noncomputable def ops_reader_past (r_0 : (List Int) × IV) (n_1 : Int) (ok_2 : Bool) : Option (Unit × (((List Int) × IV) × Unit)) :=
 bif (decide (0 ≤ n_1) && decide (n_1 ≤ (r_0.1.length : Int))) && decide ((r_0.1.length : Int) ≤ (r_0.1.length : Int)) then
  bif !ok_2 then
   some ((), ((List.drop n_1.toNat (List.take ((r_0.1.length : Int).toNat) r_0.1), IV.mk 91 []), ()))
  else
   some ((), ((List.drop n_1.toNat (List.take ((r_0.1.length : Int).toNat) r_0.1), r_0.2), ()))
 else none
theorem ops_reader_past_eq (r_0 : (List Int) × IV) (n_1 : Int) (ok_2 : Bool) : evFn ops_reader_past_Γ tab ops_reader_past_fi 1 [.box 89 t88 [false, false], .val t2, .val t4] [] Try.f88 (r_0, n_1, ok_2, ()) = ops_reader_past r_0 n_1 ok_2 := by kernel_rfl
noncomputable def ops_reader_past_e : Ent := ⟨[.box 89 t88 [false, false], .val t2, .val t4], [], fun x => ops_reader_past x.1 x.2.1 x.2.2.1⟩
theorem ops_reader_past_good : Good tab.ty Try.prog 88 ops_reader_past_e := by
  refine fn_good (Γ := ops_reader_past_Γ) (fi := ops_reader_past_fi) (n := 1) follows gnil tabok Try.func88 (by kernel_rfl) (by kernel_rfl) (fun x r h => ?_)
  obtain ⟨r_0, n_1, ok_2, _u⟩ := x
  exact (ops_reader_past_eq r_0 n_1 ok_2).trans h
noncomputable def ops_reader_num_Γ : Ctx := [(21, bits_Take_e), (88, ops_reader_past_e)]
def ops_reader_num_fi : Fi := { keep := [], vty := [], vals := [], live := [(0, [0]), (1, [0, 10]), (2, [0, 2]), (3, [0, 3, 4, 5]), (4, [0, 3]), (5, [0, 2])] }
noncomputable def ops_reader_num (r_0 : (List Int) × IV) : Option ((Int × Unit) × (((List Int) × IV) × Unit)) :=
 bif !(IV.isNil r_0.2) then
  some ((0, ()), (r_0, ()))
 else
  Option.bind (bits_Take r_0.1) fun (r1 : (Int × Int × Bool × Unit) × Unit) =>
  Option.bind (ops_reader_past r_0 r1.1.2.1 r1.1.2.2.1) fun (r2 : Unit × (((List Int) × IV) × Unit)) =>
  some ((r1.1.1, ()), (r2.2.1, ()))
theorem ops_reader_num_eq (r_0 : (List Int) × IV) : evFn ops_reader_num_Γ tab ops_reader_num_fi 1 [.box 89 t88 [false, false]] [⟨t2, [false], none⟩] Try.f71 (r_0, ()) = ops_reader_num r_0 := by kernel_rfl
noncomputable def ops_reader_num_e : Ent := ⟨[.box 89 t88 [false, false]], [⟨t2, [false], none⟩], fun x => ops_reader_num x.1⟩
theorem ops_reader_num_good : Good tab.ty Try.prog 71 ops_reader_num_e := by
  refine fn_good (Γ := ops_reader_num_Γ) (fi := ops_reader_num_fi) (n := 1) follows (gcons bits_Take_good (gcons ops_reader_past_good gnil)) tabok Try.func71 (by kernel_rfl) (by kernel_rfl) (fun x r h => ?_)
  obtain ⟨r_0, _u⟩ := x
  exact (ops_reader_num_eq r_0).trans h
noncomputable def bits_TakeText_Γ : Ctx := [(21, bits_Take_e)]
def bits_TakeText_fi : Fi := { keep := [], vty := [], vals := [], live := [(0, [0, 15, 16, 17, 18, 19, 20]), (1, [0, 3, 4, 5, 15, 16, 17, 18, 19, 20]), (2, [0, 3, 5, 21]), (3, [2, 3, 4]), (4, [2, 3, 4])] }
noncomputable def bits_TakeText (b_0 : List Int) : Option ((ByteArray × Int × Bool × Unit) × Unit) :=
 Option.bind (bits_Take b_0) fun (r1 : (Int × Int × Bool × Unit) × Unit) =>
 bif !r1.1.2.2.1 then
  some (((⟨#[]⟩ : ByteArray), 0, false, ()), ())
 else
 bif decide (r1.1.1 > IntKind.wrap .i64 ((b_0.length : Int) - r1.1.2.1)) then
  some (((⟨#[]⟩ : ByteArray), 0, false, ()), ())
 else
 bif (decide (0 ≤ r1.1.2.1) && decide (r1.1.2.1 ≤ IntKind.wrap .i64 (r1.1.2.1 + r1.1.1))) && decide (IntKind.wrap .i64 (r1.1.2.1 + r1.1.1) ≤ (b_0.length : Int)) then
  some ((bytesOf (List.drop r1.1.2.1.toNat (List.take ((IntKind.wrap .i64 (r1.1.2.1 + r1.1.1)).toNat) b_0)), IntKind.wrap .i64 (r1.1.2.1 + r1.1.1), true, ()), ())
 else none
theorem bits_TakeText_eq (b_0 : List Int) : evFn bits_TakeText_Γ tab bits_TakeText_fi 1 [.val t23] [⟨t9, [false], none⟩, ⟨t2, [false], none⟩, ⟨t4, [false], none⟩] Try.f23 (b_0, ()) = bits_TakeText b_0 := by kernel_rfl
noncomputable def bits_TakeText_e : Ent := ⟨[.val t23], [⟨t9, [false], none⟩, ⟨t2, [false], none⟩, ⟨t4, [false], none⟩], fun x => bits_TakeText x.1⟩
theorem bits_TakeText_good : Good tab.ty Try.prog 23 bits_TakeText_e := by
  refine fn_good (Γ := bits_TakeText_Γ) (fi := bits_TakeText_fi) (n := 1) follows (gcons bits_Take_good gnil) tabok Try.func23 (by kernel_rfl) (by kernel_rfl) (fun x r h => ?_)
  obtain ⟨b_0, _u⟩ := x
  exact (bits_TakeText_eq b_0).trans h
noncomputable def ops_reader_text_Γ : Ctx := [(23, bits_TakeText_e), (88, ops_reader_past_e)]
def ops_reader_text_fi : Fi := { keep := [], vty := [], vals := [], live := [(0, [0]), (1, [0, 10]), (2, [0, 2]), (3, [0, 3, 4, 5]), (4, [0, 3]), (5, [0, 2])] }
noncomputable def ops_reader_text (r_0 : (List Int) × IV) : Option ((ByteArray × Unit) × (((List Int) × IV) × Unit)) :=
 bif !(IV.isNil r_0.2) then
  some (((⟨#[]⟩ : ByteArray), ()), (r_0, ()))
 else
  Option.bind (bits_TakeText r_0.1) fun (r1 : (ByteArray × Int × Bool × Unit) × Unit) =>
  Option.bind (ops_reader_past r_0 r1.1.2.1 r1.1.2.2.1) fun (r2 : Unit × (((List Int) × IV) × Unit)) =>
  some ((r1.1.1, ()), (r2.2.1, ()))
theorem ops_reader_text_eq (r_0 : (List Int) × IV) : evFn ops_reader_text_Γ tab ops_reader_text_fi 1 [.box 89 t88 [false, false]] [⟨t9, [false], none⟩] Try.f72 (r_0, ()) = ops_reader_text r_0 := by kernel_rfl
noncomputable def ops_reader_text_e : Ent := ⟨[.box 89 t88 [false, false]], [⟨t9, [false], none⟩], fun x => ops_reader_text x.1⟩
theorem ops_reader_text_good : Good tab.ty Try.prog 72 ops_reader_text_e := by
  refine fn_good (Γ := ops_reader_text_Γ) (fi := ops_reader_text_fi) (n := 1) follows (gcons bits_TakeText_good (gcons ops_reader_past_good gnil)) tabok Try.func72 (by kernel_rfl) (by kernel_rfl) (fun x r h => ?_)
  obtain ⟨r_0, _u⟩ := x
  exact (ops_reader_text_eq r_0).trans h
noncomputable def ops_reader_step_Γ : Ctx := [(71, ops_reader_num_e), (72, ops_reader_text_e)]
def ops_reader_step_fi : Fi := { keep := [], vty := [], vals := [], live := [(0, [0, 1, 4]), (1, [0, 1, 4]), (2, [0, 4, 7]), (3, [0, 4]), (4, [0, 4, 7, 11]), (5, [0, 4]), (6, [0, 4, 7, 19]), (7, [0, 4, 7, 19]), (8, [0, 4, 7, 19]), (9, [0, 4]), (10, [0, 4, 7, 26]), (11, [0, 4]), (12, [0, 4, 31]), (13, [0, 4]), (14, [0, 4])] }
noncomputable def ops_reader_step (r_0 : (List Int) × IV) (kind_1 : Int) : Option (((Int × Int × Int × Int × ByteArray) × Unit) × (((List Int) × IV) × Unit)) :=
 bif kind_1 == 1 then
  Option.bind (ops_reader_num r_0) fun (r1 : (Int × Unit) × (((List Int) × IV) × Unit)) =>
  Option.bind (ops_reader_text r1.2.1) fun (r2 : (ByteArray × Unit) × (((List Int) × IV) × Unit)) =>
  some (((kind_1, r1.1.1, 0, 0, r2.1.1), ()), (r2.2.1, ()))
 else
 bif kind_1 == 2 then
  bif kind_1 == 2 then
   Option.bind (ops_reader_num r_0) fun (r3 : (Int × Unit) × (((List Int) × IV) × Unit)) =>
   some (((kind_1, r3.1.1, 0, 0, (⟨#[]⟩ : ByteArray)), ()), (r3.2.1, ()))
  else
  bif kind_1 == 4 then
   Option.bind (ops_reader_text r_0) fun (r4 : (ByteArray × Unit) × (((List Int) × IV) × Unit)) =>
   some (((kind_1, 0, 0, 0, r4.1.1), ()), (r4.2.1, ()))
  else
  bif kind_1 == 9 then
   Option.bind (ops_reader_num r_0) fun (r5 : (Int × Unit) × (((List Int) × IV) × Unit)) =>
   Option.bind (ops_reader_num r5.2.1) fun (r6 : (Int × Unit) × (((List Int) × IV) × Unit)) =>
   some (((kind_1, 0, r5.1.1, r6.1.1, (⟨#[]⟩ : ByteArray)), ()), (r6.2.1, ()))
  else
   Option.bind (ops_reader_num r_0) fun (r7 : (Int × Unit) × (((List Int) × IV) × Unit)) =>
   some (((kind_1, 0, r7.1.1, 0, (⟨#[]⟩ : ByteArray)), ()), (r7.2.1, ()))
 else
 bif kind_1 == 3 then
  bif kind_1 == 3 then
   Option.bind (ops_reader_num r_0) fun (r8 : (Int × Unit) × (((List Int) × IV) × Unit)) =>
   some (((kind_1, r8.1.1, 0, 0, (⟨#[]⟩ : ByteArray)), ()), (r8.2.1, ()))
  else
  bif kind_1 == 4 then
   Option.bind (ops_reader_text r_0) fun (r9 : (ByteArray × Unit) × (((List Int) × IV) × Unit)) =>
   some (((kind_1, 0, 0, 0, r9.1.1), ()), (r9.2.1, ()))
  else
  bif kind_1 == 9 then
   Option.bind (ops_reader_num r_0) fun (r10 : (Int × Unit) × (((List Int) × IV) × Unit)) =>
   Option.bind (ops_reader_num r10.2.1) fun (r11 : (Int × Unit) × (((List Int) × IV) × Unit)) =>
   some (((kind_1, 0, r10.1.1, r11.1.1, (⟨#[]⟩ : ByteArray)), ()), (r11.2.1, ()))
  else
   Option.bind (ops_reader_num r_0) fun (r12 : (Int × Unit) × (((List Int) × IV) × Unit)) =>
   some (((kind_1, 0, r12.1.1, 0, (⟨#[]⟩ : ByteArray)), ()), (r12.2.1, ()))
 else
 bif kind_1 == 5 then
  Option.bind (ops_reader_num r_0) fun (r13 : (Int × Unit) × (((List Int) × IV) × Unit)) =>
  some (((kind_1, r13.1.1, 0, 0, (⟨#[]⟩ : ByteArray)), ()), (r13.2.1, ()))
 else
 bif kind_1 == 4 then
  Option.bind (ops_reader_text r_0) fun (r14 : (ByteArray × Unit) × (((List Int) × IV) × Unit)) =>
  some (((kind_1, 0, 0, 0, r14.1.1), ()), (r14.2.1, ()))
 else
 bif kind_1 == 9 then
  Option.bind (ops_reader_num r_0) fun (r15 : (Int × Unit) × (((List Int) × IV) × Unit)) =>
  Option.bind (ops_reader_num r15.2.1) fun (r16 : (Int × Unit) × (((List Int) × IV) × Unit)) =>
  some (((kind_1, 0, r15.1.1, r16.1.1, (⟨#[]⟩ : ByteArray)), ()), (r16.2.1, ()))
 else
  Option.bind (ops_reader_num r_0) fun (r17 : (Int × Unit) × (((List Int) × IV) × Unit)) =>
  some (((kind_1, 0, r17.1.1, 0, (⟨#[]⟩ : ByteArray)), ()), (r17.2.1, ()))
theorem ops_reader_step_eq (r_0 : (List Int) × IV) (kind_1 : Int) : evFn ops_reader_step_Γ tab ops_reader_step_fi 1 [.box 89 t88 [false, false], .val t2] [⟨t36, [false, false, false, false, false], none⟩] Try.f51 (r_0, kind_1, ()) = ops_reader_step r_0 kind_1 := by kernel_rfl
noncomputable def ops_reader_step_e : Ent := ⟨[.box 89 t88 [false, false], .val t2], [⟨t36, [false, false, false, false, false], none⟩], fun x => ops_reader_step x.1 x.2.1⟩
theorem ops_reader_step_good : Good tab.ty Try.prog 51 ops_reader_step_e := by
  refine fn_good (Γ := ops_reader_step_Γ) (fi := ops_reader_step_fi) (n := 1) follows (gcons ops_reader_num_good (gcons ops_reader_text_good gnil)) tabok Try.func51 (by kernel_rfl) (by kernel_rfl) (fun x r h => ?_)
  obtain ⟨r_0, kind_1, _u⟩ := x
  exact (ops_reader_step_eq r_0 kind_1).trans h
noncomputable def ops_Take_Γ : Ctx := [(51, ops_reader_step_e)]
def ops_Take_fi : Fi := { keep := [], vty := [(2, 35)], vals := [], live := [(0, [0, 2]), (1, [2, 3]), (2, [2, 3, 16]), (3, [2, 3, 4]), (4, [2, 3, 4]), (5, [2, 3, 4, 34]), (6, [2, 3, 5]), (7, [2, 3, 5, 7]), (8, [2, 3, 5, 46]), (9, [2, 3]), (10, [2])] }
noncomputable def ops_Take_B1 (L1 : (List (Int × Int × Int × Int × ByteArray)) → List Int → IV → Option (((List (Int × Int × Int × Int × ByteArray)) × Unit) × Unit)) (v1 : List (Int × Int × Int × Int × ByteArray)) (v2 : List Int) (v3 : IV) : Option (((List (Int × Int × Int × Int × ByteArray)) × Unit) × Unit) :=
 bif decide ((v2.length : Int) > 0) then
  bif decide (0 < (v2.length : Int)) then
   bif decide (1 ≤ (v2.length : Int)) && decide ((v2.length : Int) ≤ (v2.length : Int)) then
    bif (Int.tmod (IntKind.wrap .i64 (List.getD v2 0 0)) 10) == 0 then
     L1 v1 (List.drop 1 (List.take ((v2.length : Int).toNat) v2)) v3
    else
     Option.bind (ops_reader_step (List.drop 1 (List.take ((v2.length : Int).toNat) v2), v3) (Int.tmod (IntKind.wrap .i64 (List.getD v2 0 0)) 10)) fun (r4 : ((Int × Int × Int × Int × ByteArray) × Unit) × (((List Int) × IV) × Unit)) =>
     bif IV.is r4.2.1.2 91 then
      some ((v1, ()), ())
     else
     bif Nat.ble (v1.length + 1) 1073741824 then
      L1 (v1 ++ [r4.1.1]) r4.2.1.1 r4.2.1.2
     else none
   else none
  else none
 else
  some ((v1, ()), ())
noncomputable def ops_Take_T (L1 : (List (Int × Int × Int × Int × ByteArray)) → List Int → IV → Option (((List (Int × Int × Int × Int × ByteArray)) × Unit) × Unit)) (b_0 : List Int) : Option (((List (Int × Int × Int × Int × ByteArray)) × Unit) × Unit) :=
 L1 [] b_0 IV.nil
noncomputable def ops_Take_L1 (n : Nat) : Nat → (List (Int × Int × Int × Int × ByteArray)) → List Int → IV → Option (((List (Int × Int × Int × Int × ByteArray)) × Unit) × Unit) := iter (fun _ _ _ => none) fun L => ops_Take_B1 L
noncomputable def ops_Take_X1 (n m : Nat) (v1 : List (Int × Int × Int × Int × ByteArray)) (v2 : List Int) (v3 : IV) : Option (((List (Int × Int × Int × Int × ByteArray)) × Unit) × Unit) :=
 atLoop ops_Take_Γ tab (fiB [.val t23] ops_Take_fi) n [.val t23] [⟨t35, [true], none⟩] Try.f30 [1, 1, 0, 0] [] [2, 3] m
 ⟨[(2, SV.cv (CV.one (LV.ref (888888, 2)))), (3, SV.cv (CV.one (LV.ptr (10, 0) 0)))],
  [((888888, 2), Ob.row 37 t36 v1), ((10, 0), Ob.box 89 [LV.pure t23 v2, LV.pure t20 v3])]⟩
theorem ops_Take_step1 (n m : Nat) (v1 : List (Int × Int × Int × Int × ByteArray)) (v2 : List Int) (v3 : IV) : ops_Take_X1 n (m + 1) v1 v2 v3 = ops_Take_B1 (ops_Take_X1 n m) v1 v2 v3 := by kernel_rfl
theorem ops_Take_start (n : Nat) (b_0 : List Int) : evFn ops_Take_Γ tab ops_Take_fi n [.val t23] [⟨t35, [true], none⟩] Try.f30 (b_0, ()) = ops_Take_T (ops_Take_X1 n n) b_0 := by kernel_rfl
theorem ops_Take_XL1 (n : Nat) : ∀ m, ops_Take_X1 n m = ops_Take_L1 n m
 | 0 => rfl
 | m + 1 => by
  have ih := ops_Take_XL1 n m
  funext v1 v2 v3
  rw [ops_Take_step1, ih]
  rfl
noncomputable def ops_Take_n (n : Nat) (b_0 : List Int) : Option (((List (Int × Int × Int × Int × ByteArray)) × Unit) × Unit) := ops_Take_T (ops_Take_L1 n n) b_0
noncomputable def ops_Take (b_0 : List Int) : Option (((List (Int × Int × Int × Int × ByteArray)) × Unit) × Unit) := ops_Take_n 1099511627776 b_0
theorem ops_Take_eq (n : Nat) (b_0 : List Int) : evFn ops_Take_Γ tab ops_Take_fi n [.val t23] [⟨t35, [true], none⟩] Try.f30 (b_0, ()) = ops_Take_n n b_0 := by
  rw [ops_Take_start, ops_Take_XL1 n n]
  rfl
noncomputable def ops_Take_e : Ent := ⟨[.val t23], [⟨t35, [true], none⟩], fun x => ops_Take x.1⟩
theorem ops_Take_good : Good tab.ty Try.prog 30 ops_Take_e := by
  refine fn_good (Γ := ops_Take_Γ) (fi := ops_Take_fi) (n := 1099511627776) follows (gcons ops_reader_step_good gnil) tabok Try.func30 (by kernel_rfl) (by kernel_rfl) (fun x r h => ?_)
  obtain ⟨b_0, _u⟩ := x
  exact (ops_Take_eq 1099511627776 b_0).trans h
noncomputable def ops_Put_Γ : Ctx := [(30, ops_Take_e), (54, ops_put_e)]
def ops_Put_fi : Fi := { keep := [], vty := [(2, 23)], vals := [], live := [(0, [0, 2, 21, 22, 23, 24, 25]), (1, [2, 7, 8, 9, 21, 22, 23, 24, 25]), (2, [2, 7, 8, 9, 10, 21, 22, 23, 24, 25]), (3, [2, 4, 7, 8, 9, 21, 22, 23, 24, 25]), (4, [2, 4, 5, 7, 8, 9, 21, 22, 23, 24, 25]), (5, [2, 4, 5, 6, 7, 8, 9, 21, 22, 23, 24, 25]), (6, [2, 5, 7, 8, 9, 21, 22, 23, 24, 25, 26]), (7, [2, 7, 8, 9, 21, 22, 23, 24, 25]), (8, [2, 7, 8, 9, 21, 22, 23, 24, 25]), (9, [2])] }
noncomputable def ops_Put_B1 (L1 : (List (Int × Int × Int × Int × ByteArray)) → Int → Int → List Int → Option (((List Int) × Unit) × Unit)) (v1 : List (Int × Int × Int × Int × ByteArray)) (v2 : Int) (v3 : Int) (v4 : List Int) : Option (((List Int) × Unit) × Unit) :=
 bif decide (v3 < v2) then
  bif decide (0 ≤ v3) && decide (v3 < (v1.length : Int)) then
   Option.bind (ops_put ((List.getD v1 v3.toNat (0, 0, 0, 0, (⟨#[]⟩ : ByteArray))).1, ((List.getD v1 v3.toNat (0, 0, 0, 0, (⟨#[]⟩ : ByteArray))).2).1, (((List.getD v1 v3.toNat (0, 0, 0, 0, (⟨#[]⟩ : ByteArray))).2).2).1, ((((List.getD v1 v3.toNat (0, 0, 0, 0, (⟨#[]⟩ : ByteArray))).2).2).2))) fun (r5 : ((List Int) × Unit) × Unit) =>
   Option.bind (ops_Take r5.1.1) fun (r6 : ((List (Int × Int × Int × Int × ByteArray)) × Unit) × Unit) =>
   bif (r6.1.1.length : Int) == 1 then
    bif decide (0 < (r6.1.1.length : Int)) then
     bif decide (0 < (r6.1.1.length : Int)) then
      bif (((List.getD r6.1.1 0 (0, 0, 0, 0, (⟨#[]⟩ : ByteArray))).1) == ((List.getD v1 v3.toNat (0, 0, 0, 0, (⟨#[]⟩ : ByteArray))).1)) && (((((List.getD r6.1.1 0 (0, 0, 0, 0, (⟨#[]⟩ : ByteArray))).2).1) == (((List.getD v1 v3.toNat (0, 0, 0, 0, (⟨#[]⟩ : ByteArray))).2).1)) && ((((((List.getD r6.1.1 0 (0, 0, 0, 0, (⟨#[]⟩ : ByteArray))).2).2).1) == ((((List.getD v1 v3.toNat (0, 0, 0, 0, (⟨#[]⟩ : ByteArray))).2).2).1)) && (((((((List.getD r6.1.1 0 (0, 0, 0, 0, (⟨#[]⟩ : ByteArray))).2).2).2).1) == (((((List.getD v1 v3.toNat (0, 0, 0, 0, (⟨#[]⟩ : ByteArray))).2).2).2).1)) && ((strEq (((((List.getD r6.1.1 0 (0, 0, 0, 0, (⟨#[]⟩ : ByteArray))).2).2).2).2) (((((List.getD v1 v3.toNat (0, 0, 0, 0, (⟨#[]⟩ : ByteArray))).2).2).2).2)) && true)))) then
       bif Nat.ble (v4.length + r5.1.1.length) 1073741824 then
        L1 v1 v2 (IntKind.wrap .i64 (v3 + 1)) (v4 ++ r5.1.1)
       else none
      else
       L1 v1 v2 (IntKind.wrap .i64 (v3 + 1)) v4
     else none
    else none
   else
    L1 v1 v2 (IntKind.wrap .i64 (v3 + 1)) v4
  else none
 else
  some ((v4, ()), ())
noncomputable def ops_Put_T (L1 : (List (Int × Int × Int × Int × ByteArray)) → Int → Int → List Int → Option (((List Int) × Unit) × Unit)) (l_0 : List (Int × Int × Int × Int × ByteArray)) : Option (((List Int) × Unit) × Unit) :=
 L1 l_0 (l_0.length : Int) 0 []
noncomputable def ops_Put_L1 (n : Nat) : Nat → (List (Int × Int × Int × Int × ByteArray)) → Int → Int → List Int → Option (((List Int) × Unit) × Unit) := iter (fun _ _ _ _ => none) fun L => ops_Put_B1 L
noncomputable def ops_Put_X1 (n m : Nat) (v1 : List (Int × Int × Int × Int × ByteArray)) (v2 : Int) (v3 : Int) (v4 : List Int) : Option (((List Int) × Unit) × Unit) :=
 atLoop ops_Put_Γ tab (fiB [.val t35] ops_Put_fi) n [.val t35] [⟨t23, [true], none⟩] Try.f32 [1, 0, 1, 0] [] [2, 7, 8, 9] m
 ⟨[(2, SV.cv (CV.one (LV.ref (888888, 2)))), (7, SV.cv (CV.one (LV.pure t35 v1))), (8, SV.cv (CV.one (LV.pure t2 v2))), (9, SV.cv (CV.one (LV.pure t2 v3)))],
  [((888888, 2), Ob.row 5 t5 v4)]⟩
theorem ops_Put_step1 (n m : Nat) (v1 : List (Int × Int × Int × Int × ByteArray)) (v2 : Int) (v3 : Int) (v4 : List Int) : ops_Put_X1 n (m + 1) v1 v2 v3 v4 = ops_Put_B1 (ops_Put_X1 n m) v1 v2 v3 v4 := by kernel_rfl
theorem ops_Put_start (n : Nat) (l_0 : List (Int × Int × Int × Int × ByteArray)) : evFn ops_Put_Γ tab ops_Put_fi n [.val t35] [⟨t23, [true], none⟩] Try.f32 (l_0, ()) = ops_Put_T (ops_Put_X1 n n) l_0 := by kernel_rfl
theorem ops_Put_XL1 (n : Nat) : ∀ m, ops_Put_X1 n m = ops_Put_L1 n m
 | 0 => rfl
 | m + 1 => by
  have ih := ops_Put_XL1 n m
  funext v1 v2 v3 v4
  rw [ops_Put_step1, ih]
  rfl
noncomputable def ops_Put_n (n : Nat) (l_0 : List (Int × Int × Int × Int × ByteArray)) : Option (((List Int) × Unit) × Unit) := ops_Put_T (ops_Put_L1 n n) l_0
noncomputable def ops_Put (l_0 : List (Int × Int × Int × Int × ByteArray)) : Option (((List Int) × Unit) × Unit) := ops_Put_n 1099511627776 l_0
theorem ops_Put_eq (n : Nat) (l_0 : List (Int × Int × Int × Int × ByteArray)) : evFn ops_Put_Γ tab ops_Put_fi n [.val t35] [⟨t23, [true], none⟩] Try.f32 (l_0, ()) = ops_Put_n n l_0 := by
  rw [ops_Put_start, ops_Put_XL1 n n]
  rfl
noncomputable def ops_Put_e : Ent := ⟨[.val t35], [⟨t23, [true], none⟩], fun x => ops_Put x.1⟩
theorem ops_Put_good : Good tab.ty Try.prog 32 ops_Put_e := by
  refine fn_good (Γ := ops_Put_Γ) (fi := ops_Put_fi) (n := 1099511627776) follows (gcons ops_Take_good (gcons ops_put_good gnil)) tabok Try.func32 (by kernel_rfl) (by kernel_rfl) (fun x r h => ?_)
  obtain ⟨l_0, _u⟩ := x
  exact (ops_Put_eq 1099511627776 l_0).trans h
noncomputable def pleachlaw25_begun_Γ : Ctx := [(30, ops_Take_e), (32, ops_Put_e)]
def pleachlaw25_begun_fi : Fi := { keep := [], vty := [], vals := [], live := [(0, [13, 14, 15, 18, 19, 20, 21, 22]), (1, [1, 13, 14, 15, 18, 19, 20, 21, 22]), (2, [1, 2, 13, 14, 15, 18, 19, 20, 21, 22]), (3, [0])] }
noncomputable def pleachlaw25_begun  : Option ((Bool × Unit) × Unit) :=
 Option.bind (ops_Put [(5, 1, 0, 0, (⟨#[]⟩ : ByteArray)), (1, 2, 0, 0, (⟨#[98]⟩ : ByteArray))]) fun (r1 : ((List Int) × Unit) × Unit) =>
 Option.bind (ops_Take r1.1.1) fun (r2 : ((List (Int × Int × Int × Int × ByteArray)) × Unit) × Unit) =>
 bif strEq (bytesOf r1.1.1) (⟨#[5, 1, 1, 2, 1, 98]⟩ : ByteArray) then
  bif (r2.1.1.length : Int) == 2 then
   bif decide (1 < (r2.1.1.length : Int)) then
    bif decide (1 < (r2.1.1.length : Int)) then
     some ((strEq (((((List.getD r2.1.1 1 (0, 0, 0, 0, (⟨#[]⟩ : ByteArray))).2).2).2).2) (⟨#[98]⟩ : ByteArray), ()), ())
    else none
   else none
  else
   some ((false, ()), ())
 else
  some ((false, ()), ())
theorem pleachlaw25_begun_eq  : evFn pleachlaw25_begun_Γ tab pleachlaw25_begun_fi 1 [] [⟨t4, [false], none⟩] Try.f25 () = pleachlaw25_begun  := by kernel_rfl
noncomputable def pleachlaw25_begun_e : Ent := ⟨[], [⟨t4, [false], none⟩], fun x => pleachlaw25_begun⟩
theorem pleachlaw25_begun_good : Good tab.ty Try.prog 25 pleachlaw25_begun_e := by
  refine fn_good (Γ := pleachlaw25_begun_Γ) (fi := pleachlaw25_begun_fi) (n := 1) follows (gcons ops_Take_good (gcons ops_Put_good gnil)) tabok Try.func25 (by kernel_rfl) (by kernel_rfl) (fun x r h => ?_)
  obtain _u := x
  exact (pleachlaw25_begun_eq ).trans h
noncomputable def pleachref10_SameSteps_Γ : Ctx := []
def pleachref10_SameSteps_fi : Fi := { keep := [], vty := [], vals := [], live := [(0, [0, 1]), (1, [0, 1, 10]), (2, [4]), (3, [0, 1, 5]), (4, [0, 1, 5, 14]), (5, [0, 1, 5]), (6, [0, 1, 5, 25]), (7, [4]), (8, [4])] }
noncomputable def pleachref10_SameSteps_B1 (L1 : (List (Int × Int × Int × Int × ByteArray)) → (List (Int × Int × Int × Int × ByteArray)) → Int → Option ((Bool × Unit) × Unit)) (v1 : List (Int × Int × Int × Int × ByteArray)) (v2 : List (Int × Int × Int × Int × ByteArray)) (v3 : Int) : Option ((Bool × Unit) × Unit) :=
 bif decide (v3 < (v1.length : Int)) then
  bif decide (0 ≤ v3) && decide (v3 < (v1.length : Int)) then
   bif decide (0 ≤ v3) && decide (v3 < (v2.length : Int)) then
    bif !((((List.getD v1 v3.toNat (0, 0, 0, 0, (⟨#[]⟩ : ByteArray))).1) == ((List.getD v2 v3.toNat (0, 0, 0, 0, (⟨#[]⟩ : ByteArray))).1)) && (((((List.getD v1 v3.toNat (0, 0, 0, 0, (⟨#[]⟩ : ByteArray))).2).1) == (((List.getD v2 v3.toNat (0, 0, 0, 0, (⟨#[]⟩ : ByteArray))).2).1)) && ((((((List.getD v1 v3.toNat (0, 0, 0, 0, (⟨#[]⟩ : ByteArray))).2).2).1) == ((((List.getD v2 v3.toNat (0, 0, 0, 0, (⟨#[]⟩ : ByteArray))).2).2).1)) && (((((((List.getD v1 v3.toNat (0, 0, 0, 0, (⟨#[]⟩ : ByteArray))).2).2).2).1) == (((((List.getD v2 v3.toNat (0, 0, 0, 0, (⟨#[]⟩ : ByteArray))).2).2).2).1)) && ((strEq (((((List.getD v1 v3.toNat (0, 0, 0, 0, (⟨#[]⟩ : ByteArray))).2).2).2).2) (((((List.getD v2 v3.toNat (0, 0, 0, 0, (⟨#[]⟩ : ByteArray))).2).2).2).2)) && true))))) then
     some ((false, ()), ())
    else
     L1 v1 v2 (IntKind.wrap .i64 (v3 + 1))
   else none
  else none
 else
  some ((true, ()), ())
noncomputable def pleachref10_SameSteps_T (L1 : (List (Int × Int × Int × Int × ByteArray)) → (List (Int × Int × Int × Int × ByteArray)) → Int → Option ((Bool × Unit) × Unit)) (a_0 : List (Int × Int × Int × Int × ByteArray)) (b_1 : List (Int × Int × Int × Int × ByteArray)) : Option ((Bool × Unit) × Unit) :=
 bif (a_0.length : Int) != (b_1.length : Int) then
  some ((false, ()), ())
 else
  L1 a_0 b_1 0
noncomputable def pleachref10_SameSteps_L1 (n : Nat) : Nat → (List (Int × Int × Int × Int × ByteArray)) → (List (Int × Int × Int × Int × ByteArray)) → Int → Option ((Bool × Unit) × Unit) := iter (fun _ _ _ => none) fun L => pleachref10_SameSteps_B1 L
noncomputable def pleachref10_SameSteps_X1 (n m : Nat) (v1 : List (Int × Int × Int × Int × ByteArray)) (v2 : List (Int × Int × Int × Int × ByteArray)) (v3 : Int) : Option ((Bool × Unit) × Unit) :=
 atLoop pleachref10_SameSteps_Γ tab (fiB [.val t35, .val t35] pleachref10_SameSteps_fi) n [.val t35, .val t35] [⟨t4, [false], none⟩] Try.f29 [1, 1, 0, 1, 0] [] [0, 1, 5] m
 ⟨[(0, SV.cv (CV.one (LV.pure t35 v1))), (1, SV.cv (CV.one (LV.pure t35 v2))), (5, SV.cv (CV.one (LV.pure t2 v3)))],
  []⟩
theorem pleachref10_SameSteps_step1 (n m : Nat) (v1 : List (Int × Int × Int × Int × ByteArray)) (v2 : List (Int × Int × Int × Int × ByteArray)) (v3 : Int) : pleachref10_SameSteps_X1 n (m + 1) v1 v2 v3 = pleachref10_SameSteps_B1 (pleachref10_SameSteps_X1 n m) v1 v2 v3 := by kernel_rfl
theorem pleachref10_SameSteps_start (n : Nat) (a_0 : List (Int × Int × Int × Int × ByteArray)) (b_1 : List (Int × Int × Int × Int × ByteArray)) : evFn pleachref10_SameSteps_Γ tab pleachref10_SameSteps_fi n [.val t35, .val t35] [⟨t4, [false], none⟩] Try.f29 (a_0, b_1, ()) = pleachref10_SameSteps_T (pleachref10_SameSteps_X1 n n) a_0 b_1 := by kernel_rfl
theorem pleachref10_SameSteps_XL1 (n : Nat) : ∀ m, pleachref10_SameSteps_X1 n m = pleachref10_SameSteps_L1 n m
 | 0 => rfl
 | m + 1 => by
  have ih := pleachref10_SameSteps_XL1 n m
  funext v1 v2 v3
  rw [pleachref10_SameSteps_step1, ih]
  rfl
noncomputable def pleachref10_SameSteps_n (n : Nat) (a_0 : List (Int × Int × Int × Int × ByteArray)) (b_1 : List (Int × Int × Int × Int × ByteArray)) : Option ((Bool × Unit) × Unit) := pleachref10_SameSteps_T (pleachref10_SameSteps_L1 n n) a_0 b_1
noncomputable def pleachref10_SameSteps (a_0 : List (Int × Int × Int × Int × ByteArray)) (b_1 : List (Int × Int × Int × Int × ByteArray)) : Option ((Bool × Unit) × Unit) := pleachref10_SameSteps_n 1099511627776 a_0 b_1
theorem pleachref10_SameSteps_eq (n : Nat) (a_0 : List (Int × Int × Int × Int × ByteArray)) (b_1 : List (Int × Int × Int × Int × ByteArray)) : evFn pleachref10_SameSteps_Γ tab pleachref10_SameSteps_fi n [.val t35, .val t35] [⟨t4, [false], none⟩] Try.f29 (a_0, b_1, ()) = pleachref10_SameSteps_n n a_0 b_1 := by
  rw [pleachref10_SameSteps_start, pleachref10_SameSteps_XL1 n n]
  rfl
noncomputable def pleachref10_SameSteps_e : Ent := ⟨[.val t35, .val t35], [⟨t4, [false], none⟩], fun x => pleachref10_SameSteps x.1 x.2.1⟩
theorem pleachref10_SameSteps_good : Good tab.ty Try.prog 29 pleachref10_SameSteps_e := by
  refine fn_good (Γ := pleachref10_SameSteps_Γ) (fi := pleachref10_SameSteps_fi) (n := 1099511627776) follows gnil tabok Try.func29 (by kernel_rfl) (by kernel_rfl) (fun x r h => ?_)
  obtain ⟨a_0, b_1, _u⟩ := x
  exact (pleachref10_SameSteps_eq 1099511627776 a_0 b_1).trans h
noncomputable def pleachlaw25_OpsBack_Γ : Ctx := [(25, pleachlaw25_begun_e), (29, pleachref10_SameSteps_e), (30, ops_Take_e), (32, ops_Put_e)]
def pleachlaw25_OpsBack_fi : Fi := { keep := [], vty := [], vals := [], live := [(0, [0, 1, 42, 43, 44, 45, 46, 47]), (1, [0, 1, 9, 42, 43, 44, 45, 46, 47]), (2, [4]), (3, [0, 1, 12, 42, 43, 44, 45, 46, 47]), (4, [4]), (5, [1, 5, 42, 43, 44, 45, 46, 47]), (6, [1, 5, 6, 42, 43, 44, 45, 46, 47]), (7, [1, 5, 6, 21, 42, 43, 44, 45, 46, 47]), (8, [4]), (9, [1, 5, 6, 24, 42, 43, 44, 45, 46, 47]), (10, [4]), (11, [5, 7, 42, 43, 44, 45, 46, 47]), (12, [4])] }
noncomputable def pleachlaw25_OpsBack (b_0 : List Int) (cut_1 : Int) : Option ((Bool × Unit) × Unit) :=
 Option.bind (pleachlaw25_begun) fun (r1 : (Bool × Unit) × Unit) =>
 bif !r1.1.1 then
  some ((false, ()), ())
 else
 bif decide ((b_0.length : Int) > 200) then
  some ((true, ()), ())
 else
  Option.bind (ops_Take b_0) fun (r2 : ((List (Int × Int × Int × Int × ByteArray)) × Unit) × Unit) =>
  Option.bind (ops_Put r2.1.1) fun (r3 : ((List Int) × Unit) × Unit) =>
  Option.bind (ops_Take r3.1.1) fun (r4 : ((List (Int × Int × Int × Int × ByteArray)) × Unit) × Unit) =>
  Option.bind (pleachref10_SameSteps r4.1.1 r2.1.1) fun (r5 : (Bool × Unit) × Unit) =>
  bif !r5.1.1 then
   some ((false, ()), ())
  else
  bif (r3.1.1.length : Int) == 0 then
   some (((r2.1.1.length : Int) == 0, ()), ())
  else
  bif !((r3.1.1.length : Int) == 0) then
   bif decide (0 ≤ Int.tmod (IntKind.wrap .i64 cut_1) (r3.1.1.length : Int)) && decide (Int.tmod (IntKind.wrap .i64 cut_1) (r3.1.1.length : Int) ≤ (r3.1.1.length : Int)) then
    Option.bind (ops_Take (List.drop 0 (List.take ((Int.tmod (IntKind.wrap .i64 cut_1) (r3.1.1.length : Int)).toNat) r3.1.1))) fun (r6 : ((List (Int × Int × Int × Int × ByteArray)) × Unit) × Unit) =>
    bif decide ((r6.1.1.length : Int) < (r2.1.1.length : Int)) then
     bif decide (0 ≤ (r6.1.1.length : Int)) && decide ((r6.1.1.length : Int) ≤ (r2.1.1.length : Int)) then
      Option.bind (pleachref10_SameSteps r6.1.1 (List.drop 0 (List.take ((r6.1.1.length : Int).toNat) r2.1.1))) fun (r7 : (Bool × Unit) × Unit) =>
      some ((r7.1.1, ()), ())
     else none
    else
     some ((false, ()), ())
   else none
  else none
theorem pleachlaw25_OpsBack_eq (b_0 : List Int) (cut_1 : Int) : evFn pleachlaw25_OpsBack_Γ tab pleachlaw25_OpsBack_fi 1 [.val t23, .val t54] [⟨t4, [false], none⟩] Try.f7 (b_0, cut_1, ()) = pleachlaw25_OpsBack b_0 cut_1 := by kernel_rfl
noncomputable def pleachlaw25_OpsBack_e : Ent := ⟨[.val t23, .val t54], [⟨t4, [false], none⟩], fun x => pleachlaw25_OpsBack x.1 x.2.1⟩
theorem pleachlaw25_OpsBack_good : Good tab.ty Try.prog 7 pleachlaw25_OpsBack_e := by
  refine fn_good (Γ := pleachlaw25_OpsBack_Γ) (fi := pleachlaw25_OpsBack_fi) (n := 1) follows (gcons pleachlaw25_begun_good (gcons pleachref10_SameSteps_good (gcons ops_Take_good (gcons ops_Put_good gnil)))) tabok Try.func7 (by kernel_rfl) (by kernel_rfl) (fun x r h => ?_)
  obtain ⟨b_0, cut_1, _u⟩ := x
  exact (pleachlaw25_OpsBack_eq b_0 cut_1).trans h
noncomputable def pleachlaw25_OpsJoins_Γ : Ctx := [(25, pleachlaw25_begun_e), (29, pleachref10_SameSteps_e), (30, ops_Take_e), (32, ops_Put_e)]
def pleachlaw25_OpsJoins_fi : Fi := { keep := [], vty := [], vals := [], live := [(0, [0, 1, 2, 20, 21, 22, 60, 61, 62, 63, 64, 65, 66, 67, 68]), (1, [0, 1, 2, 15, 20, 21, 22, 60, 61, 62, 63, 64, 65, 66, 67, 68]), (2, [6]), (3, [0, 1, 2, 23, 60, 61, 62, 63, 64, 65, 66, 67, 68]), (4, [6]), (5, [2, 7, 8, 60, 61, 62, 63, 64, 65, 66, 67, 68]), (6, [2, 7, 8, 9, 60, 61, 62, 63, 64, 65, 66, 67, 68]), (7, [2, 9, 10, 11, 60, 61, 62, 63, 64, 65, 66, 67, 68]), (8, [2, 9, 10, 11, 12, 60, 61, 62, 63, 64, 65, 66, 67, 68]), (9, [2, 9, 10, 11, 12, 13, 60, 61, 62, 63, 64, 65, 66, 67, 68]), (10, [2, 9, 10, 11, 12, 13, 44, 60, 61, 62, 63, 64, 65, 66, 67, 68]), (11, [2, 9, 10, 11, 12, 13, 60, 61, 62, 63, 64, 65, 66, 67, 68]), (12, [2, 9, 10, 11, 12, 13, 60, 61, 62, 63, 64, 65, 66, 67, 68]), (13, [6])] }
noncomputable def pleachlaw25_OpsJoins_B1 (L1 : Int → Int → (List (Int × Int × Int × Int × ByteArray)) → List Int → List Int → List Int → Option ((Bool × Unit) × Unit)) (v6 : Int) (v7 : Int) (v8 : List (Int × Int × Int × Int × ByteArray)) (v9 : List Int) (v10 : List Int) (v11 : List Int) : Option ((Bool × Unit) × Unit) :=
 bif decide (v7 < IntKind.wrap .i64 (Int.tmod v6 9)) then
  bif Nat.ble (v11.length + 1) 1073741824 then
   L1 v6 (IntKind.wrap .i64 (v7 + 1)) v8 v9 v10 (v11 ++ [IntKind.wrap .u8 (IntKind.wrap .i64 (10 * v7))])
  else none
 else
 bif Nat.ble (v11.length + v10.length) 1073741824 then
  Option.bind (ops_Take (v11 ++ v10)) fun (r12 : ((List (Int × Int × Int × Int × ByteArray)) × Unit) × Unit) =>
  Option.bind (pleachref10_SameSteps r12.1.1 v8) fun (r13 : (Bool × Unit) × Unit) =>
  bif r13.1.1 then
   Option.bind (ops_Put v8) fun (r14 : ((List Int) × Unit) × Unit) =>
   bif decide ((bytesOf v9).size + (bytesOf v10).size ≤ 9223372036854775807) then
    some ((strEq (bytesOf r14.1.1) ((bytesOf v9) ++ (bytesOf v10)), ()), ())
   else none
  else
   some ((false, ()), ())
 else none
noncomputable def pleachlaw25_OpsJoins_T (L1 : Int → Int → (List (Int × Int × Int × Int × ByteArray)) → List Int → List Int → List Int → Option ((Bool × Unit) × Unit)) (a_0 : List Int) (b_1 : List Int) (n_2 : Int) : Option ((Bool × Unit) × Unit) :=
 Option.bind (pleachlaw25_begun) fun (r1 : (Bool × Unit) × Unit) =>
 bif !r1.1.1 then
  some ((false, ()), ())
 else
 bif decide ((a_0.length : Int) > 100) then
  some ((true, ()), ())
 else
 bif decide ((b_1.length : Int) > 100) then
  some ((true, ()), ())
 else
  Option.bind (ops_Take a_0) fun (r2 : ((List (Int × Int × Int × Int × ByteArray)) × Unit) × Unit) =>
  Option.bind (ops_Take b_1) fun (r3 : ((List (Int × Int × Int × Int × ByteArray)) × Unit) × Unit) =>
  bif Nat.ble (0 + r2.1.1.length) 1073741824 then
   bif Nat.ble (([] ++ r2.1.1).length + r3.1.1.length) 1073741824 then
    Option.bind (ops_Put r2.1.1) fun (r4 : ((List Int) × Unit) × Unit) =>
    Option.bind (ops_Put r3.1.1) fun (r5 : ((List Int) × Unit) × Unit) =>
    bif Nat.ble (0 + r4.1.1.length) 1073741824 then
     L1 n_2 0 (([] ++ r2.1.1) ++ r3.1.1) r4.1.1 r5.1.1 ([] ++ r4.1.1)
    else none
   else none
  else none
noncomputable def pleachlaw25_OpsJoins_L1 (n : Nat) : Nat → Int → Int → (List (Int × Int × Int × Int × ByteArray)) → List Int → List Int → List Int → Option ((Bool × Unit) × Unit) := iter (fun _ _ _ _ _ _ => none) fun L => pleachlaw25_OpsJoins_B1 L
noncomputable def pleachlaw25_OpsJoins_X1 (n m : Nat) (v6 : Int) (v7 : Int) (v8 : List (Int × Int × Int × Int × ByteArray)) (v9 : List Int) (v10 : List Int) (v11 : List Int) : Option ((Bool × Unit) × Unit) :=
 atLoop pleachlaw25_OpsJoins_Γ tab (fiB [.val t23, .val t23, .val t5] pleachlaw25_OpsJoins_fi) n [.val t23, .val t23, .val t5] [⟨t4, [false], none⟩] Try.f8 [1, 1, 1, 1, 1, 1, 1, 0, 1, 0] [] [2, 9, 10, 11, 12, 13] m
 ⟨[(2, SV.cv (CV.one (LV.pure t5 v6))), (9, SV.cv (CV.one (LV.ref (888888, 9)))), (10, SV.cv (CV.one (LV.ref (888888, 10)))), (11, SV.cv (CV.one (LV.ref (888888, 11)))), (12, SV.cv (CV.one (LV.ref (888888, 12)))), (13, SV.cv (CV.one (LV.pure t2 v7)))],
  [((888888, 9), Ob.row 37 t36 v8), ((888888, 10), Ob.row 5 t5 v9), ((888888, 11), Ob.row 5 t5 v10), ((888888, 12), Ob.row 5 t5 v11)]⟩
theorem pleachlaw25_OpsJoins_step1 (n m : Nat) (v6 : Int) (v7 : Int) (v8 : List (Int × Int × Int × Int × ByteArray)) (v9 : List Int) (v10 : List Int) (v11 : List Int) : pleachlaw25_OpsJoins_X1 n (m + 1) v6 v7 v8 v9 v10 v11 = pleachlaw25_OpsJoins_B1 (pleachlaw25_OpsJoins_X1 n m) v6 v7 v8 v9 v10 v11 := by kernel_rfl
theorem pleachlaw25_OpsJoins_start (n : Nat) (a_0 : List Int) (b_1 : List Int) (n_2 : Int) : evFn pleachlaw25_OpsJoins_Γ tab pleachlaw25_OpsJoins_fi n [.val t23, .val t23, .val t5] [⟨t4, [false], none⟩] Try.f8 (a_0, b_1, n_2, ()) = pleachlaw25_OpsJoins_T (pleachlaw25_OpsJoins_X1 n n) a_0 b_1 n_2 := by kernel_rfl
theorem pleachlaw25_OpsJoins_XL1 (n : Nat) : ∀ m, pleachlaw25_OpsJoins_X1 n m = pleachlaw25_OpsJoins_L1 n m
 | 0 => rfl
 | m + 1 => by
  have ih := pleachlaw25_OpsJoins_XL1 n m
  funext v6 v7 v8 v9 v10 v11
  rw [pleachlaw25_OpsJoins_step1, ih]
  rfl
noncomputable def pleachlaw25_OpsJoins_n (n : Nat) (a_0 : List Int) (b_1 : List Int) (n_2 : Int) : Option ((Bool × Unit) × Unit) := pleachlaw25_OpsJoins_T (pleachlaw25_OpsJoins_L1 n n) a_0 b_1 n_2
noncomputable def pleachlaw25_OpsJoins (a_0 : List Int) (b_1 : List Int) (n_2 : Int) : Option ((Bool × Unit) × Unit) := pleachlaw25_OpsJoins_n 1099511627776 a_0 b_1 n_2
theorem pleachlaw25_OpsJoins_eq (n : Nat) (a_0 : List Int) (b_1 : List Int) (n_2 : Int) : evFn pleachlaw25_OpsJoins_Γ tab pleachlaw25_OpsJoins_fi n [.val t23, .val t23, .val t5] [⟨t4, [false], none⟩] Try.f8 (a_0, b_1, n_2, ()) = pleachlaw25_OpsJoins_n n a_0 b_1 n_2 := by
  rw [pleachlaw25_OpsJoins_start, pleachlaw25_OpsJoins_XL1 n n]
  rfl
noncomputable def pleachlaw25_OpsJoins_e : Ent := ⟨[.val t23, .val t23, .val t5], [⟨t4, [false], none⟩], fun x => pleachlaw25_OpsJoins x.1 x.2.1 x.2.2.1⟩
theorem pleachlaw25_OpsJoins_good : Good tab.ty Try.prog 8 pleachlaw25_OpsJoins_e := by
  refine fn_good (Γ := pleachlaw25_OpsJoins_Γ) (fi := pleachlaw25_OpsJoins_fi) (n := 1099511627776) follows (gcons pleachlaw25_begun_good (gcons pleachref10_SameSteps_good (gcons ops_Take_good (gcons ops_Put_good gnil)))) tabok Try.func8 (by kernel_rfl) (by kernel_rfl) (fun x r h => ?_)
  obtain ⟨a_0, b_1, n_2, _u⟩ := x
  exact (pleachlaw25_OpsJoins_eq 1099511627776 a_0 b_1 n_2).trans h
noncomputable def pleachlaw25_OpsOne_Γ : Ctx := [(25, pleachlaw25_begun_e), (30, ops_Take_e), (32, ops_Put_e)]
def pleachlaw25_OpsOne_fi : Fi := { keep := [], vty := [], vals := [], live := [(0, [0, 1, 2, 3, 4, 62, 63, 64, 65, 66]), (1, [0, 1, 2, 3, 4, 14, 62, 63, 64, 65, 66]), (2, [10]), (3, [0, 1, 2, 3, 4, 17, 62, 63, 64, 65, 66]), (4, [10]), (5, [1, 2, 3, 4, 11, 62, 63, 64, 65, 66]), (6, [1, 2, 3, 4, 11, 24, 62, 63, 64, 65, 66]), (7, [11, 62, 63, 64, 65, 66]), (8, [1, 2, 3, 4, 11, 24, 28, 62, 63, 64, 65, 66]), (9, [11, 62, 63, 64, 65, 66]), (10, [1, 2, 3, 4, 11, 24, 35, 62, 63, 64, 65, 66]), (11, [1, 2, 3, 4, 11, 24, 35, 62, 63, 64, 65, 66]), (12, [1, 2, 3, 4, 11, 24, 35, 62, 63, 64, 65, 66]), (13, [11, 62, 63, 64, 65, 66]), (14, [2, 3, 4, 11, 24, 42, 62, 63, 64, 65, 66]), (15, [11, 62, 63, 64, 65, 66]), (16, [2, 3, 11, 46, 62, 63, 64, 65, 66]), (17, [11, 62, 63, 64, 65, 66]), (18, [11, 12, 62, 63, 64, 65, 66]), (19, [10])] }
noncomputable def pleachlaw25_OpsOne (kind_0 : Int) (r_1 : Int) (i_2 : Int) (to_3 : Int) (s_4 : ByteArray) : Option ((Bool × Unit) × Unit) :=
 Option.bind (pleachlaw25_begun) fun (r1 : (Bool × Unit) × Unit) =>
 bif !r1.1.1 then
  some ((false, ()), ())
 else
 bif decide ((s_4.size : Int) > 100) then
  some ((true, ()), ())
 else
 bif (IntKind.wrap .i64 (1 + (IntKind.wrap .i64 (Int.tmod kind_0 9)))) == 1 then
  Option.bind (ops_Put [(IntKind.wrap .i64 (1 + (IntKind.wrap .i64 (Int.tmod kind_0 9))), IntKind.wrap .i64 r_1, 0, 0, s_4)]) fun (r2 : ((List Int) × Unit) × Unit) =>
  Option.bind (ops_Take r2.1.1) fun (r3 : ((List (Int × Int × Int × Int × ByteArray)) × Unit) × Unit) =>
  bif (r3.1.1.length : Int) == 1 then
   bif decide (0 < (r3.1.1.length : Int)) then
    bif decide (0 < (r3.1.1.length : Int)) then
     some (((((List.getD r3.1.1 0 (0, 0, 0, 0, (⟨#[]⟩ : ByteArray))).1) == (IntKind.wrap .i64 (1 + (IntKind.wrap .i64 (Int.tmod kind_0 9))))) && (((((List.getD r3.1.1 0 (0, 0, 0, 0, (⟨#[]⟩ : ByteArray))).2).1) == (IntKind.wrap .i64 r_1)) && ((((((List.getD r3.1.1 0 (0, 0, 0, 0, (⟨#[]⟩ : ByteArray))).2).2).1) == 0) && (((((((List.getD r3.1.1 0 (0, 0, 0, 0, (⟨#[]⟩ : ByteArray))).2).2).2).1) == 0) && ((strEq (((((List.getD r3.1.1 0 (0, 0, 0, 0, (⟨#[]⟩ : ByteArray))).2).2).2).2) s_4) && true)))), ()), ())
    else none
   else none
  else
   some ((false, ()), ())
 else
 bif (IntKind.wrap .i64 (1 + (IntKind.wrap .i64 (Int.tmod kind_0 9)))) == 2 then
  bif (IntKind.wrap .i64 (1 + (IntKind.wrap .i64 (Int.tmod kind_0 9)))) == 2 then
   Option.bind (ops_Put [(IntKind.wrap .i64 (1 + (IntKind.wrap .i64 (Int.tmod kind_0 9))), IntKind.wrap .i64 r_1, 0, 0, (⟨#[]⟩ : ByteArray))]) fun (r4 : ((List Int) × Unit) × Unit) =>
   Option.bind (ops_Take r4.1.1) fun (r5 : ((List (Int × Int × Int × Int × ByteArray)) × Unit) × Unit) =>
   bif (r5.1.1.length : Int) == 1 then
    bif decide (0 < (r5.1.1.length : Int)) then
     bif decide (0 < (r5.1.1.length : Int)) then
      some (((((List.getD r5.1.1 0 (0, 0, 0, 0, (⟨#[]⟩ : ByteArray))).1) == (IntKind.wrap .i64 (1 + (IntKind.wrap .i64 (Int.tmod kind_0 9))))) && (((((List.getD r5.1.1 0 (0, 0, 0, 0, (⟨#[]⟩ : ByteArray))).2).1) == (IntKind.wrap .i64 r_1)) && ((((((List.getD r5.1.1 0 (0, 0, 0, 0, (⟨#[]⟩ : ByteArray))).2).2).1) == 0) && (((((((List.getD r5.1.1 0 (0, 0, 0, 0, (⟨#[]⟩ : ByteArray))).2).2).2).1) == 0) && ((strEq (((((List.getD r5.1.1 0 (0, 0, 0, 0, (⟨#[]⟩ : ByteArray))).2).2).2).2) (⟨#[]⟩ : ByteArray)) && true)))), ()), ())
     else none
    else none
   else
    some ((false, ()), ())
  else
  bif (IntKind.wrap .i64 (1 + (IntKind.wrap .i64 (Int.tmod kind_0 9)))) == 4 then
   Option.bind (ops_Put [(IntKind.wrap .i64 (1 + (IntKind.wrap .i64 (Int.tmod kind_0 9))), 0, 0, 0, s_4)]) fun (r6 : ((List Int) × Unit) × Unit) =>
   Option.bind (ops_Take r6.1.1) fun (r7 : ((List (Int × Int × Int × Int × ByteArray)) × Unit) × Unit) =>
   bif (r7.1.1.length : Int) == 1 then
    bif decide (0 < (r7.1.1.length : Int)) then
     bif decide (0 < (r7.1.1.length : Int)) then
      some (((((List.getD r7.1.1 0 (0, 0, 0, 0, (⟨#[]⟩ : ByteArray))).1) == (IntKind.wrap .i64 (1 + (IntKind.wrap .i64 (Int.tmod kind_0 9))))) && (((((List.getD r7.1.1 0 (0, 0, 0, 0, (⟨#[]⟩ : ByteArray))).2).1) == 0) && ((((((List.getD r7.1.1 0 (0, 0, 0, 0, (⟨#[]⟩ : ByteArray))).2).2).1) == 0) && (((((((List.getD r7.1.1 0 (0, 0, 0, 0, (⟨#[]⟩ : ByteArray))).2).2).2).1) == 0) && ((strEq (((((List.getD r7.1.1 0 (0, 0, 0, 0, (⟨#[]⟩ : ByteArray))).2).2).2).2) s_4) && true)))), ()), ())
     else none
    else none
   else
    some ((false, ()), ())
  else
  bif (IntKind.wrap .i64 (1 + (IntKind.wrap .i64 (Int.tmod kind_0 9)))) == 9 then
   Option.bind (ops_Put [(IntKind.wrap .i64 (1 + (IntKind.wrap .i64 (Int.tmod kind_0 9))), 0, IntKind.wrap .i64 i_2, IntKind.wrap .i64 to_3, (⟨#[]⟩ : ByteArray))]) fun (r8 : ((List Int) × Unit) × Unit) =>
   Option.bind (ops_Take r8.1.1) fun (r9 : ((List (Int × Int × Int × Int × ByteArray)) × Unit) × Unit) =>
   bif (r9.1.1.length : Int) == 1 then
    bif decide (0 < (r9.1.1.length : Int)) then
     bif decide (0 < (r9.1.1.length : Int)) then
      some (((((List.getD r9.1.1 0 (0, 0, 0, 0, (⟨#[]⟩ : ByteArray))).1) == (IntKind.wrap .i64 (1 + (IntKind.wrap .i64 (Int.tmod kind_0 9))))) && (((((List.getD r9.1.1 0 (0, 0, 0, 0, (⟨#[]⟩ : ByteArray))).2).1) == 0) && ((((((List.getD r9.1.1 0 (0, 0, 0, 0, (⟨#[]⟩ : ByteArray))).2).2).1) == (IntKind.wrap .i64 i_2)) && (((((((List.getD r9.1.1 0 (0, 0, 0, 0, (⟨#[]⟩ : ByteArray))).2).2).2).1) == (IntKind.wrap .i64 to_3)) && ((strEq (((((List.getD r9.1.1 0 (0, 0, 0, 0, (⟨#[]⟩ : ByteArray))).2).2).2).2) (⟨#[]⟩ : ByteArray)) && true)))), ()), ())
     else none
    else none
   else
    some ((false, ()), ())
  else
   Option.bind (ops_Put [(IntKind.wrap .i64 (1 + (IntKind.wrap .i64 (Int.tmod kind_0 9))), 0, IntKind.wrap .i64 i_2, 0, (⟨#[]⟩ : ByteArray))]) fun (r10 : ((List Int) × Unit) × Unit) =>
   Option.bind (ops_Take r10.1.1) fun (r11 : ((List (Int × Int × Int × Int × ByteArray)) × Unit) × Unit) =>
   bif (r11.1.1.length : Int) == 1 then
    bif decide (0 < (r11.1.1.length : Int)) then
     bif decide (0 < (r11.1.1.length : Int)) then
      some (((((List.getD r11.1.1 0 (0, 0, 0, 0, (⟨#[]⟩ : ByteArray))).1) == (IntKind.wrap .i64 (1 + (IntKind.wrap .i64 (Int.tmod kind_0 9))))) && (((((List.getD r11.1.1 0 (0, 0, 0, 0, (⟨#[]⟩ : ByteArray))).2).1) == 0) && ((((((List.getD r11.1.1 0 (0, 0, 0, 0, (⟨#[]⟩ : ByteArray))).2).2).1) == (IntKind.wrap .i64 i_2)) && (((((((List.getD r11.1.1 0 (0, 0, 0, 0, (⟨#[]⟩ : ByteArray))).2).2).2).1) == 0) && ((strEq (((((List.getD r11.1.1 0 (0, 0, 0, 0, (⟨#[]⟩ : ByteArray))).2).2).2).2) (⟨#[]⟩ : ByteArray)) && true)))), ()), ())
     else none
    else none
   else
    some ((false, ()), ())
 else
 bif (IntKind.wrap .i64 (1 + (IntKind.wrap .i64 (Int.tmod kind_0 9)))) == 3 then
  bif (IntKind.wrap .i64 (1 + (IntKind.wrap .i64 (Int.tmod kind_0 9)))) == 3 then
   Option.bind (ops_Put [(IntKind.wrap .i64 (1 + (IntKind.wrap .i64 (Int.tmod kind_0 9))), IntKind.wrap .i64 r_1, 0, 0, (⟨#[]⟩ : ByteArray))]) fun (r12 : ((List Int) × Unit) × Unit) =>
   Option.bind (ops_Take r12.1.1) fun (r13 : ((List (Int × Int × Int × Int × ByteArray)) × Unit) × Unit) =>
   bif (r13.1.1.length : Int) == 1 then
    bif decide (0 < (r13.1.1.length : Int)) then
     bif decide (0 < (r13.1.1.length : Int)) then
      some (((((List.getD r13.1.1 0 (0, 0, 0, 0, (⟨#[]⟩ : ByteArray))).1) == (IntKind.wrap .i64 (1 + (IntKind.wrap .i64 (Int.tmod kind_0 9))))) && (((((List.getD r13.1.1 0 (0, 0, 0, 0, (⟨#[]⟩ : ByteArray))).2).1) == (IntKind.wrap .i64 r_1)) && ((((((List.getD r13.1.1 0 (0, 0, 0, 0, (⟨#[]⟩ : ByteArray))).2).2).1) == 0) && (((((((List.getD r13.1.1 0 (0, 0, 0, 0, (⟨#[]⟩ : ByteArray))).2).2).2).1) == 0) && ((strEq (((((List.getD r13.1.1 0 (0, 0, 0, 0, (⟨#[]⟩ : ByteArray))).2).2).2).2) (⟨#[]⟩ : ByteArray)) && true)))), ()), ())
     else none
    else none
   else
    some ((false, ()), ())
  else
  bif (IntKind.wrap .i64 (1 + (IntKind.wrap .i64 (Int.tmod kind_0 9)))) == 4 then
   Option.bind (ops_Put [(IntKind.wrap .i64 (1 + (IntKind.wrap .i64 (Int.tmod kind_0 9))), 0, 0, 0, s_4)]) fun (r14 : ((List Int) × Unit) × Unit) =>
   Option.bind (ops_Take r14.1.1) fun (r15 : ((List (Int × Int × Int × Int × ByteArray)) × Unit) × Unit) =>
   bif (r15.1.1.length : Int) == 1 then
    bif decide (0 < (r15.1.1.length : Int)) then
     bif decide (0 < (r15.1.1.length : Int)) then
      some (((((List.getD r15.1.1 0 (0, 0, 0, 0, (⟨#[]⟩ : ByteArray))).1) == (IntKind.wrap .i64 (1 + (IntKind.wrap .i64 (Int.tmod kind_0 9))))) && (((((List.getD r15.1.1 0 (0, 0, 0, 0, (⟨#[]⟩ : ByteArray))).2).1) == 0) && ((((((List.getD r15.1.1 0 (0, 0, 0, 0, (⟨#[]⟩ : ByteArray))).2).2).1) == 0) && (((((((List.getD r15.1.1 0 (0, 0, 0, 0, (⟨#[]⟩ : ByteArray))).2).2).2).1) == 0) && ((strEq (((((List.getD r15.1.1 0 (0, 0, 0, 0, (⟨#[]⟩ : ByteArray))).2).2).2).2) s_4) && true)))), ()), ())
     else none
    else none
   else
    some ((false, ()), ())
  else
  bif (IntKind.wrap .i64 (1 + (IntKind.wrap .i64 (Int.tmod kind_0 9)))) == 9 then
   Option.bind (ops_Put [(IntKind.wrap .i64 (1 + (IntKind.wrap .i64 (Int.tmod kind_0 9))), 0, IntKind.wrap .i64 i_2, IntKind.wrap .i64 to_3, (⟨#[]⟩ : ByteArray))]) fun (r16 : ((List Int) × Unit) × Unit) =>
   Option.bind (ops_Take r16.1.1) fun (r17 : ((List (Int × Int × Int × Int × ByteArray)) × Unit) × Unit) =>
   bif (r17.1.1.length : Int) == 1 then
    bif decide (0 < (r17.1.1.length : Int)) then
     bif decide (0 < (r17.1.1.length : Int)) then
      some (((((List.getD r17.1.1 0 (0, 0, 0, 0, (⟨#[]⟩ : ByteArray))).1) == (IntKind.wrap .i64 (1 + (IntKind.wrap .i64 (Int.tmod kind_0 9))))) && (((((List.getD r17.1.1 0 (0, 0, 0, 0, (⟨#[]⟩ : ByteArray))).2).1) == 0) && ((((((List.getD r17.1.1 0 (0, 0, 0, 0, (⟨#[]⟩ : ByteArray))).2).2).1) == (IntKind.wrap .i64 i_2)) && (((((((List.getD r17.1.1 0 (0, 0, 0, 0, (⟨#[]⟩ : ByteArray))).2).2).2).1) == (IntKind.wrap .i64 to_3)) && ((strEq (((((List.getD r17.1.1 0 (0, 0, 0, 0, (⟨#[]⟩ : ByteArray))).2).2).2).2) (⟨#[]⟩ : ByteArray)) && true)))), ()), ())
     else none
    else none
   else
    some ((false, ()), ())
  else
   Option.bind (ops_Put [(IntKind.wrap .i64 (1 + (IntKind.wrap .i64 (Int.tmod kind_0 9))), 0, IntKind.wrap .i64 i_2, 0, (⟨#[]⟩ : ByteArray))]) fun (r18 : ((List Int) × Unit) × Unit) =>
   Option.bind (ops_Take r18.1.1) fun (r19 : ((List (Int × Int × Int × Int × ByteArray)) × Unit) × Unit) =>
   bif (r19.1.1.length : Int) == 1 then
    bif decide (0 < (r19.1.1.length : Int)) then
     bif decide (0 < (r19.1.1.length : Int)) then
      some (((((List.getD r19.1.1 0 (0, 0, 0, 0, (⟨#[]⟩ : ByteArray))).1) == (IntKind.wrap .i64 (1 + (IntKind.wrap .i64 (Int.tmod kind_0 9))))) && (((((List.getD r19.1.1 0 (0, 0, 0, 0, (⟨#[]⟩ : ByteArray))).2).1) == 0) && ((((((List.getD r19.1.1 0 (0, 0, 0, 0, (⟨#[]⟩ : ByteArray))).2).2).1) == (IntKind.wrap .i64 i_2)) && (((((((List.getD r19.1.1 0 (0, 0, 0, 0, (⟨#[]⟩ : ByteArray))).2).2).2).1) == 0) && ((strEq (((((List.getD r19.1.1 0 (0, 0, 0, 0, (⟨#[]⟩ : ByteArray))).2).2).2).2) (⟨#[]⟩ : ByteArray)) && true)))), ()), ())
     else none
    else none
   else
    some ((false, ()), ())
 else
 bif (IntKind.wrap .i64 (1 + (IntKind.wrap .i64 (Int.tmod kind_0 9)))) == 5 then
  Option.bind (ops_Put [(IntKind.wrap .i64 (1 + (IntKind.wrap .i64 (Int.tmod kind_0 9))), IntKind.wrap .i64 r_1, 0, 0, (⟨#[]⟩ : ByteArray))]) fun (r20 : ((List Int) × Unit) × Unit) =>
  Option.bind (ops_Take r20.1.1) fun (r21 : ((List (Int × Int × Int × Int × ByteArray)) × Unit) × Unit) =>
  bif (r21.1.1.length : Int) == 1 then
   bif decide (0 < (r21.1.1.length : Int)) then
    bif decide (0 < (r21.1.1.length : Int)) then
     some (((((List.getD r21.1.1 0 (0, 0, 0, 0, (⟨#[]⟩ : ByteArray))).1) == (IntKind.wrap .i64 (1 + (IntKind.wrap .i64 (Int.tmod kind_0 9))))) && (((((List.getD r21.1.1 0 (0, 0, 0, 0, (⟨#[]⟩ : ByteArray))).2).1) == (IntKind.wrap .i64 r_1)) && ((((((List.getD r21.1.1 0 (0, 0, 0, 0, (⟨#[]⟩ : ByteArray))).2).2).1) == 0) && (((((((List.getD r21.1.1 0 (0, 0, 0, 0, (⟨#[]⟩ : ByteArray))).2).2).2).1) == 0) && ((strEq (((((List.getD r21.1.1 0 (0, 0, 0, 0, (⟨#[]⟩ : ByteArray))).2).2).2).2) (⟨#[]⟩ : ByteArray)) && true)))), ()), ())
    else none
   else none
  else
   some ((false, ()), ())
 else
 bif (IntKind.wrap .i64 (1 + (IntKind.wrap .i64 (Int.tmod kind_0 9)))) == 4 then
  Option.bind (ops_Put [(IntKind.wrap .i64 (1 + (IntKind.wrap .i64 (Int.tmod kind_0 9))), 0, 0, 0, s_4)]) fun (r22 : ((List Int) × Unit) × Unit) =>
  Option.bind (ops_Take r22.1.1) fun (r23 : ((List (Int × Int × Int × Int × ByteArray)) × Unit) × Unit) =>
  bif (r23.1.1.length : Int) == 1 then
   bif decide (0 < (r23.1.1.length : Int)) then
    bif decide (0 < (r23.1.1.length : Int)) then
     some (((((List.getD r23.1.1 0 (0, 0, 0, 0, (⟨#[]⟩ : ByteArray))).1) == (IntKind.wrap .i64 (1 + (IntKind.wrap .i64 (Int.tmod kind_0 9))))) && (((((List.getD r23.1.1 0 (0, 0, 0, 0, (⟨#[]⟩ : ByteArray))).2).1) == 0) && ((((((List.getD r23.1.1 0 (0, 0, 0, 0, (⟨#[]⟩ : ByteArray))).2).2).1) == 0) && (((((((List.getD r23.1.1 0 (0, 0, 0, 0, (⟨#[]⟩ : ByteArray))).2).2).2).1) == 0) && ((strEq (((((List.getD r23.1.1 0 (0, 0, 0, 0, (⟨#[]⟩ : ByteArray))).2).2).2).2) s_4) && true)))), ()), ())
    else none
   else none
  else
   some ((false, ()), ())
 else
 bif (IntKind.wrap .i64 (1 + (IntKind.wrap .i64 (Int.tmod kind_0 9)))) == 9 then
  Option.bind (ops_Put [(IntKind.wrap .i64 (1 + (IntKind.wrap .i64 (Int.tmod kind_0 9))), 0, IntKind.wrap .i64 i_2, IntKind.wrap .i64 to_3, (⟨#[]⟩ : ByteArray))]) fun (r24 : ((List Int) × Unit) × Unit) =>
  Option.bind (ops_Take r24.1.1) fun (r25 : ((List (Int × Int × Int × Int × ByteArray)) × Unit) × Unit) =>
  bif (r25.1.1.length : Int) == 1 then
   bif decide (0 < (r25.1.1.length : Int)) then
    bif decide (0 < (r25.1.1.length : Int)) then
     some (((((List.getD r25.1.1 0 (0, 0, 0, 0, (⟨#[]⟩ : ByteArray))).1) == (IntKind.wrap .i64 (1 + (IntKind.wrap .i64 (Int.tmod kind_0 9))))) && (((((List.getD r25.1.1 0 (0, 0, 0, 0, (⟨#[]⟩ : ByteArray))).2).1) == 0) && ((((((List.getD r25.1.1 0 (0, 0, 0, 0, (⟨#[]⟩ : ByteArray))).2).2).1) == (IntKind.wrap .i64 i_2)) && (((((((List.getD r25.1.1 0 (0, 0, 0, 0, (⟨#[]⟩ : ByteArray))).2).2).2).1) == (IntKind.wrap .i64 to_3)) && ((strEq (((((List.getD r25.1.1 0 (0, 0, 0, 0, (⟨#[]⟩ : ByteArray))).2).2).2).2) (⟨#[]⟩ : ByteArray)) && true)))), ()), ())
    else none
   else none
  else
   some ((false, ()), ())
 else
  Option.bind (ops_Put [(IntKind.wrap .i64 (1 + (IntKind.wrap .i64 (Int.tmod kind_0 9))), 0, IntKind.wrap .i64 i_2, 0, (⟨#[]⟩ : ByteArray))]) fun (r26 : ((List Int) × Unit) × Unit) =>
  Option.bind (ops_Take r26.1.1) fun (r27 : ((List (Int × Int × Int × Int × ByteArray)) × Unit) × Unit) =>
  bif (r27.1.1.length : Int) == 1 then
   bif decide (0 < (r27.1.1.length : Int)) then
    bif decide (0 < (r27.1.1.length : Int)) then
     some (((((List.getD r27.1.1 0 (0, 0, 0, 0, (⟨#[]⟩ : ByteArray))).1) == (IntKind.wrap .i64 (1 + (IntKind.wrap .i64 (Int.tmod kind_0 9))))) && (((((List.getD r27.1.1 0 (0, 0, 0, 0, (⟨#[]⟩ : ByteArray))).2).1) == 0) && ((((((List.getD r27.1.1 0 (0, 0, 0, 0, (⟨#[]⟩ : ByteArray))).2).2).1) == (IntKind.wrap .i64 i_2)) && (((((((List.getD r27.1.1 0 (0, 0, 0, 0, (⟨#[]⟩ : ByteArray))).2).2).2).1) == 0) && ((strEq (((((List.getD r27.1.1 0 (0, 0, 0, 0, (⟨#[]⟩ : ByteArray))).2).2).2).2) (⟨#[]⟩ : ByteArray)) && true)))), ()), ())
    else none
   else none
  else
   some ((false, ()), ())
theorem pleachlaw25_OpsOne_eq (kind_0 : Int) (r_1 : Int) (i_2 : Int) (to_3 : Int) (s_4 : ByteArray) : evFn pleachlaw25_OpsOne_Γ tab pleachlaw25_OpsOne_fi 1 [.val t5, .val t54, .val t54, .val t54, .val t9] [⟨t4, [false], none⟩] Try.f10 (kind_0, r_1, i_2, to_3, s_4, ()) = pleachlaw25_OpsOne kind_0 r_1 i_2 to_3 s_4 := by kernel_rfl
noncomputable def pleachlaw25_OpsOne_e : Ent := ⟨[.val t5, .val t54, .val t54, .val t54, .val t9], [⟨t4, [false], none⟩], fun x => pleachlaw25_OpsOne x.1 x.2.1 x.2.2.1 x.2.2.2.1 x.2.2.2.2.1⟩
theorem pleachlaw25_OpsOne_good : Good tab.ty Try.prog 10 pleachlaw25_OpsOne_e := by
  refine fn_good (Γ := pleachlaw25_OpsOne_Γ) (fi := pleachlaw25_OpsOne_fi) (n := 1) follows (gcons pleachlaw25_begun_good (gcons ops_Take_good (gcons ops_Put_good gnil))) tabok Try.func10 (by kernel_rfl) (by kernel_rfl) (fun x r h => ?_)
  obtain ⟨kind_0, r_1, i_2, to_3, s_4, _u⟩ := x
  exact (pleachlaw25_OpsOne_eq kind_0 r_1 i_2 to_3 s_4).trans h
noncomputable def pleachref10_PutNum_Γ : Ctx := []
def pleachref10_PutNum_fi : Fi := { keep := [], vty := [], vals := [], live := [(0, [0, 1]), (1, [1, 5]), (2, [1, 5, 10]), (3, [1, 5]), (4, [4])] }
noncomputable def pleachref10_PutNum_B1 (L1 : Int → List Int → Option (((List Int) × Unit) × Unit)) (v1 : Int) (v2 : List Int) : Option (((List Int) × Unit) × Unit) :=
 bif decide (v1 ≥ 128) then
  bif Nat.ble (v2.length + 1) 1073741824 then
   L1 (IntKind.wrap .i64 (Int.tdiv v1 128)) (v2 ++ [IntKind.wrap .u8 (IntKind.wrap .i64 ((Int.tmod v1 128) + 128))])
  else none
 else
 bif Nat.ble (v2.length + 1) 1073741824 then
  some ((v2 ++ [IntKind.wrap .u8 v1], ()), ())
 else none
noncomputable def pleachref10_PutNum_T (L1 : Int → List Int → Option (((List Int) × Unit) × Unit)) (b_0 : List Int) (v_1 : Int) : Option (((List Int) × Unit) × Unit) :=
 bif Nat.ble (0 + b_0.length) 1073741824 then
  L1 v_1 ([] ++ b_0)
 else none
noncomputable def pleachref10_PutNum_L1 (n : Nat) : Nat → Int → List Int → Option (((List Int) × Unit) × Unit) := iter (fun _ _ => none) fun L => pleachref10_PutNum_B1 L
noncomputable def pleachref10_PutNum_X1 (n m : Nat) (v1 : Int) (v2 : List Int) : Option (((List Int) × Unit) × Unit) :=
 atLoop pleachref10_PutNum_Γ tab (fiB [.val t23, .val t2] pleachref10_PutNum_fi) n [.val t23, .val t2] [⟨t23, [true], none⟩] Try.f18 [1, 1, 0, 0] [] [1, 5] m
 ⟨[(1, SV.cv (CV.one (LV.pure t2 v1))), (5, SV.cv (CV.one (LV.ref (888888, 5))))],
  [((888888, 5), Ob.row 5 t5 v2)]⟩
theorem pleachref10_PutNum_step1 (n m : Nat) (v1 : Int) (v2 : List Int) : pleachref10_PutNum_X1 n (m + 1) v1 v2 = pleachref10_PutNum_B1 (pleachref10_PutNum_X1 n m) v1 v2 := by kernel_rfl
theorem pleachref10_PutNum_start (n : Nat) (b_0 : List Int) (v_1 : Int) : evFn pleachref10_PutNum_Γ tab pleachref10_PutNum_fi n [.val t23, .val t2] [⟨t23, [true], none⟩] Try.f18 (b_0, v_1, ()) = pleachref10_PutNum_T (pleachref10_PutNum_X1 n n) b_0 v_1 := by kernel_rfl
theorem pleachref10_PutNum_XL1 (n : Nat) : ∀ m, pleachref10_PutNum_X1 n m = pleachref10_PutNum_L1 n m
 | 0 => rfl
 | m + 1 => by
  have ih := pleachref10_PutNum_XL1 n m
  funext v1 v2
  rw [pleachref10_PutNum_step1, ih]
  rfl
noncomputable def pleachref10_PutNum_n (n : Nat) (b_0 : List Int) (v_1 : Int) : Option (((List Int) × Unit) × Unit) := pleachref10_PutNum_T (pleachref10_PutNum_L1 n n) b_0 v_1
noncomputable def pleachref10_PutNum (b_0 : List Int) (v_1 : Int) : Option (((List Int) × Unit) × Unit) := pleachref10_PutNum_n 1099511627776 b_0 v_1
theorem pleachref10_PutNum_eq (n : Nat) (b_0 : List Int) (v_1 : Int) : evFn pleachref10_PutNum_Γ tab pleachref10_PutNum_fi n [.val t23, .val t2] [⟨t23, [true], none⟩] Try.f18 (b_0, v_1, ()) = pleachref10_PutNum_n n b_0 v_1 := by
  rw [pleachref10_PutNum_start, pleachref10_PutNum_XL1 n n]
  rfl
noncomputable def pleachref10_PutNum_e : Ent := ⟨[.val t23, .val t2], [⟨t23, [true], none⟩], fun x => pleachref10_PutNum x.1 x.2.1⟩
theorem pleachref10_PutNum_good : Good tab.ty Try.prog 18 pleachref10_PutNum_e := by
  refine fn_good (Γ := pleachref10_PutNum_Γ) (fi := pleachref10_PutNum_fi) (n := 1099511627776) follows gnil tabok Try.func18 (by kernel_rfl) (by kernel_rfl) (fun x r h => ?_)
  obtain ⟨b_0, v_1, _u⟩ := x
  exact (pleachref10_PutNum_eq 1099511627776 b_0 v_1).trans h
noncomputable def pleachref10_PutText_Γ : Ctx := [(18, pleachref10_PutNum_e)]
def pleachref10_PutText_fi : Fi := { keep := [], vty := [], vals := [], live := [(0, [0, 1]), (1, [4])] }
noncomputable def pleachref10_PutText (b_0 : List Int) (s_1 : ByteArray) : Option (((List Int) × Unit) × Unit) :=
 Option.bind (pleachref10_PutNum b_0 (s_1.size : Int)) fun (r1 : ((List Int) × Unit) × Unit) =>
 bif Nat.ble (r1.1.1.length + (s_1.data.toList.map fun b => (b.toNat : Int)).length) 1073741824 then
  some ((r1.1.1 ++ (s_1.data.toList.map fun b => (b.toNat : Int)), ()), ())
 else none
theorem pleachref10_PutText_eq (b_0 : List Int) (s_1 : ByteArray) : evFn pleachref10_PutText_Γ tab pleachref10_PutText_fi 1 [.val t23, .val t9] [⟨t23, [true], none⟩] Try.f20 (b_0, s_1, ()) = pleachref10_PutText b_0 s_1 := by kernel_rfl
noncomputable def pleachref10_PutText_e : Ent := ⟨[.val t23, .val t9], [⟨t23, [true], none⟩], fun x => pleachref10_PutText x.1 x.2.1⟩
theorem pleachref10_PutText_good : Good tab.ty Try.prog 20 pleachref10_PutText_e := by
  refine fn_good (Γ := pleachref10_PutText_Γ) (fi := pleachref10_PutText_fi) (n := 1) follows (gcons pleachref10_PutNum_good gnil) tabok Try.func20 (by kernel_rfl) (by kernel_rfl) (fun x r h => ?_)
  obtain ⟨b_0, s_1, _u⟩ := x
  exact (pleachref10_PutText_eq b_0 s_1).trans h
noncomputable def pleachref10_TakeNum_Γ : Ctx := []
def pleachref10_TakeNum_fi : Fi := { keep := [], vty := [], vals := [], live := [(0, [0, 13, 14, 38, 39, 40, 41, 42, 45, 46]), (1, [0, 5, 6, 13, 14, 38, 39, 40, 41, 42, 45, 46]), (2, [0, 5, 6, 7, 13, 14, 38, 39, 40, 41, 42, 45, 46]), (3, [0, 5, 6, 7, 13, 14, 15, 38, 39, 40, 41, 42, 45, 46]), (4, [0, 5, 6, 7, 13, 14, 38, 39, 40, 41, 42, 45, 46]), (5, [0, 5, 6, 7, 13, 14, 38, 39, 40, 41, 42, 45, 46]), (6, [0, 5, 6, 7, 13, 14, 38, 39, 40, 41, 42, 45, 46]), (7, [0, 5, 6, 7, 13, 14, 34, 38, 39, 40, 41, 42, 45, 46]), (8, [5, 7, 47]), (9, [2, 3, 4]), (10, [2, 3, 4]), (11, [2, 3, 4])] }
noncomputable def pleachref10_TakeNum_B1 (L1 : List Int → Int → Int → Int → Option ((Int × Int × Bool × Unit) × Unit)) (v1 : List Int) (v2 : Int) (v3 : Int) (v4 : Int) : Option ((Int × Int × Bool × Unit) × Unit) :=
 bif decide (v4 < (v1.length : Int)) then
  bif decide (v4 < 5) then
   bif decide (0 ≤ v4) && decide (v4 < (v1.length : Int)) then
    bif decide (0 ≤ v4) && decide (v4 < (v1.length : Int)) then
     bif decide (List.getD v1 v4.toNat 0 < 128) then
      bif decide (v4 > 0) then
       bif decide (0 ≤ v4) && decide (v4 < (v1.length : Int)) then
        bif (List.getD v1 v4.toNat 0) == 0 then
         some ((0, 0, false, ()), ())
        else
        bif decide (IntKind.wrap .i64 (v2 + (IntKind.wrap .i64 ((IntKind.wrap .i64 (Int.tmod (List.getD v1 v4.toNat 0) 128)) * v3))) > 1073741824) then
         some ((0, 0, false, ()), ())
        else
         some ((IntKind.wrap .i64 (v2 + (IntKind.wrap .i64 ((IntKind.wrap .i64 (Int.tmod (List.getD v1 v4.toNat 0) 128)) * v3))), IntKind.wrap .i64 (v4 + 1), true, ()), ())
       else none
      else
      bif decide (IntKind.wrap .i64 (v2 + (IntKind.wrap .i64 ((IntKind.wrap .i64 (Int.tmod (List.getD v1 v4.toNat 0) 128)) * v3))) > 1073741824) then
       some ((0, 0, false, ()), ())
      else
       some ((IntKind.wrap .i64 (v2 + (IntKind.wrap .i64 ((IntKind.wrap .i64 (Int.tmod (List.getD v1 v4.toNat 0) 128)) * v3))), IntKind.wrap .i64 (v4 + 1), true, ()), ())
     else
      L1 v1 (IntKind.wrap .i64 (v2 + (IntKind.wrap .i64 ((IntKind.wrap .i64 (Int.tmod (List.getD v1 v4.toNat 0) 128)) * v3)))) (IntKind.wrap .i64 (v3 * 128)) (IntKind.wrap .i64 (v4 + 1))
    else none
   else none
  else
   some ((0, 0, false, ()), ())
 else
  some ((0, 0, false, ()), ())
noncomputable def pleachref10_TakeNum_T (L1 : List Int → Int → Int → Int → Option ((Int × Int × Bool × Unit) × Unit)) (b_0 : List Int) : Option ((Int × Int × Bool × Unit) × Unit) :=
 L1 b_0 0 1 0
noncomputable def pleachref10_TakeNum_L1 (n : Nat) : Nat → List Int → Int → Int → Int → Option ((Int × Int × Bool × Unit) × Unit) := iter (fun _ _ _ _ => none) fun L => pleachref10_TakeNum_B1 L
noncomputable def pleachref10_TakeNum_X1 (n m : Nat) (v1 : List Int) (v2 : Int) (v3 : Int) (v4 : Int) : Option ((Int × Int × Bool × Unit) × Unit) :=
 atLoop pleachref10_TakeNum_Γ tab (fiB [.val t23] pleachref10_TakeNum_fi) n [.val t23] [⟨t2, [false], none⟩, ⟨t2, [false], none⟩, ⟨t4, [false], none⟩] Try.f22 [1, 1, 0, 1, 0] [] [0, 5, 6, 7] m
 ⟨[(0, SV.cv (CV.one (LV.pure t23 v1))), (5, SV.cv (CV.one (LV.pure t2 v2))), (6, SV.cv (CV.one (LV.pure t2 v3))), (7, SV.cv (CV.one (LV.pure t2 v4)))],
  []⟩
theorem pleachref10_TakeNum_step1 (n m : Nat) (v1 : List Int) (v2 : Int) (v3 : Int) (v4 : Int) : pleachref10_TakeNum_X1 n (m + 1) v1 v2 v3 v4 = pleachref10_TakeNum_B1 (pleachref10_TakeNum_X1 n m) v1 v2 v3 v4 := by kernel_rfl
theorem pleachref10_TakeNum_start (n : Nat) (b_0 : List Int) : evFn pleachref10_TakeNum_Γ tab pleachref10_TakeNum_fi n [.val t23] [⟨t2, [false], none⟩, ⟨t2, [false], none⟩, ⟨t4, [false], none⟩] Try.f22 (b_0, ()) = pleachref10_TakeNum_T (pleachref10_TakeNum_X1 n n) b_0 := by kernel_rfl
theorem pleachref10_TakeNum_XL1 (n : Nat) : ∀ m, pleachref10_TakeNum_X1 n m = pleachref10_TakeNum_L1 n m
 | 0 => rfl
 | m + 1 => by
  have ih := pleachref10_TakeNum_XL1 n m
  funext v1 v2 v3 v4
  rw [pleachref10_TakeNum_step1, ih]
  rfl
noncomputable def pleachref10_TakeNum_n (n : Nat) (b_0 : List Int) : Option ((Int × Int × Bool × Unit) × Unit) := pleachref10_TakeNum_T (pleachref10_TakeNum_L1 n n) b_0
noncomputable def pleachref10_TakeNum (b_0 : List Int) : Option ((Int × Int × Bool × Unit) × Unit) := pleachref10_TakeNum_n 1099511627776 b_0
theorem pleachref10_TakeNum_eq (n : Nat) (b_0 : List Int) : evFn pleachref10_TakeNum_Γ tab pleachref10_TakeNum_fi n [.val t23] [⟨t2, [false], none⟩, ⟨t2, [false], none⟩, ⟨t4, [false], none⟩] Try.f22 (b_0, ()) = pleachref10_TakeNum_n n b_0 := by
  rw [pleachref10_TakeNum_start, pleachref10_TakeNum_XL1 n n]
  rfl
noncomputable def pleachref10_TakeNum_e : Ent := ⟨[.val t23], [⟨t2, [false], none⟩, ⟨t2, [false], none⟩, ⟨t4, [false], none⟩], fun x => pleachref10_TakeNum x.1⟩
theorem pleachref10_TakeNum_good : Good tab.ty Try.prog 22 pleachref10_TakeNum_e := by
  refine fn_good (Γ := pleachref10_TakeNum_Γ) (fi := pleachref10_TakeNum_fi) (n := 1099511627776) follows gnil tabok Try.func22 (by kernel_rfl) (by kernel_rfl) (fun x r h => ?_)
  obtain ⟨b_0, _u⟩ := x
  exact (pleachref10_TakeNum_eq 1099511627776 b_0).trans h
noncomputable def pleachref10_TakeText_Γ : Ctx := [(22, pleachref10_TakeNum_e)]
def pleachref10_TakeText_fi : Fi := { keep := [], vty := [], vals := [], live := [(0, [0, 17, 18, 19, 20, 21, 22]), (1, [0, 5, 6, 7, 17, 18, 19, 20, 21, 22]), (2, [0, 5, 6, 23]), (3, [2, 3, 4]), (4, [2, 3, 4])] }
noncomputable def pleachref10_TakeText (b_0 : List Int) : Option ((ByteArray × Int × Bool × Unit) × Unit) :=
 Option.bind (pleachref10_TakeNum b_0) fun (r1 : (Int × Int × Bool × Unit) × Unit) =>
 bif !r1.1.2.2.1 then
  some (((⟨#[]⟩ : ByteArray), 0, false, ()), ())
 else
 bif decide (r1.1.1 > IntKind.wrap .i64 ((b_0.length : Int) - r1.1.2.1)) then
  some (((⟨#[]⟩ : ByteArray), 0, false, ()), ())
 else
 bif (decide (0 ≤ r1.1.2.1) && decide (r1.1.2.1 ≤ IntKind.wrap .i64 (r1.1.2.1 + r1.1.1))) && decide (IntKind.wrap .i64 (r1.1.2.1 + r1.1.1) ≤ (b_0.length : Int)) then
  some ((bytesOf (List.drop r1.1.2.1.toNat (List.take ((IntKind.wrap .i64 (r1.1.2.1 + r1.1.1)).toNat) b_0)), IntKind.wrap .i64 (r1.1.2.1 + r1.1.1), true, ()), ())
 else none
theorem pleachref10_TakeText_eq (b_0 : List Int) : evFn pleachref10_TakeText_Γ tab pleachref10_TakeText_fi 1 [.val t23] [⟨t9, [false], none⟩, ⟨t2, [false], none⟩, ⟨t4, [false], none⟩] Try.f24 (b_0, ()) = pleachref10_TakeText b_0 := by kernel_rfl
noncomputable def pleachref10_TakeText_e : Ent := ⟨[.val t23], [⟨t9, [false], none⟩, ⟨t2, [false], none⟩, ⟨t4, [false], none⟩], fun x => pleachref10_TakeText x.1⟩
theorem pleachref10_TakeText_good : Good tab.ty Try.prog 24 pleachref10_TakeText_e := by
  refine fn_good (Γ := pleachref10_TakeText_Γ) (fi := pleachref10_TakeText_fi) (n := 1) follows (gcons pleachref10_TakeNum_good gnil) tabok Try.func24 (by kernel_rfl) (by kernel_rfl) (fun x r h => ?_)
  obtain ⟨b_0, _u⟩ := x
  exact (pleachref10_TakeText_eq b_0).trans h
end Go.PE
