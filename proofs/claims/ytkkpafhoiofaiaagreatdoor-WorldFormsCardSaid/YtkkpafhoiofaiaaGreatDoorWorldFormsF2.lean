/-
  Functions of the program, each as the evaluator answers it, and its contract.
  Conditions: none.
-/
import Derived.Test.YtkkpafhoiofaiaaGreatDoorWorldFormsF1
set_option linter.unusedVariables false
set_option maxRecDepth 100000
namespace Go.PE
open Go.Proofs

noncomputable def crc_Sum_Γ : Ctx := []
def crc_Sum_fi : Fi := { keep := [], vty := [(7, 43)], vals := [], live := [(0, [0]), (1, [0, 3]), (2, [3, 7, 8, 9]), (3, [3, 7, 8, 9, 10]), (4, [3, 5, 7, 8, 9]), (5, [3, 7, 8, 9]), (6, [3, 7, 8, 9, 17]), (7, [3, 7, 8, 9, 17, 18]), (8, [3, 6, 7, 8, 9, 17]), (9, [3, 6, 7, 8, 9, 17]), (10, [3, 7, 8, 9, 17, 24]), (11, [3, 7, 8, 9, 17]), (12, [3, 7, 8, 9, 17]), (13, [3, 7, 8, 9]), (14, [2])] }
noncomputable def crc_Sum_x (x : PDs [.val t43]) : Option (RDs [⟨t94, [false], none⟩] × ODs [.val t43]) := evFn crc_Sum_Γ tab crc_Sum_fi 1099511627776 [.val t43] [⟨t94, [false], none⟩] Tryz.f175 x
noncomputable def crc_Sum (x0 : List Int) : Option ((Int × Unit) × Unit) := crc_Sum_x (x0, ())
noncomputable def crc_Sum_e : Ent := ⟨[.val t43], [⟨t94, [false], none⟩], fun x => crc_Sum x.1⟩
theorem crc_Sum_good : Good tab.ty Tryz.prog 175 crc_Sum_e := by
  refine fn_good (Γ := crc_Sum_Γ) (fi := crc_Sum_fi) (n := 1099511627776) follows gnil tabok Tryz.func175 (by kernel_rfl) (by kernel_rfl) (fun x r h => ?_)
  obtain ⟨x0, _u⟩ := x
  exact h
noncomputable def msg_Put_Γ : Ctx := [(172, msg_May_e), (173, bits_Put_e), (174, bits_PutText_e), (175, crc_Sum_e)]
def msg_Put_fi : Fi := { keep := [], vty := [(2, 43), (3, 23), (4, 43), (27, 23), (37, 23), (43, 43), (47, 43), (51, 43), (53, 43)], vals := [], live := [(0, [1]), (1, [1, 10]), (2, [2]), (3, [1, 3]), (4, [1, 3]), (5, [1, 3, 4]), (6, [1, 4, 37, 38, 39]), (7, [1, 4, 37, 38, 39, 40]), (8, [1, 4, 6, 37, 38, 39]), (9, [1, 4, 37, 38, 39]), (10, [1, 4, 37, 38, 39]), (11, [4]), (12, [4, 7]), (13, [2])] }
noncomputable def msg_Put_x (x : PDs [.val t40]) : Option (RDs [⟨t43, [true], none⟩] × ODs [.val t40]) := evFn msg_Put_Γ tab msg_Put_fi 1099511627776 [.val t40] [⟨t43, [true], none⟩] Tryz.f86 x
noncomputable def msg_Put (x0 : Int × Int × Int × Int × Int × Int × (List Int) × Int × Int × ByteArray) : Option (((List Int) × Unit) × Unit) := msg_Put_x (x0, ())
noncomputable def msg_Put_e : Ent := ⟨[.val t40], [⟨t43, [true], none⟩], fun x => msg_Put x.1⟩
theorem msg_Put_good : Good tab.ty Tryz.prog 86 msg_Put_e := by
  refine fn_good (Γ := msg_Put_Γ) (fi := msg_Put_fi) (n := 1099511627776) follows (gcons msg_May_good (gcons bits_Put_good (gcons bits_PutText_good (gcons crc_Sum_good gnil)))) tabok Tryz.func86 (by kernel_rfl) (by kernel_rfl) (fun x r h => ?_)
  obtain ⟨x0, _u⟩ := x
  exact h
noncomputable def net_Send_Γ : Ctx := [(126, slices_Clone_Gram_e)]
def net_Send_fi : Fi := { keep := [], vty := [], vals := [], live := [(0, [0, 3]), (1, [0, 3]), (2, [0, 3, 9]), (3, [4]), (4, [4])] }
noncomputable def net_Send (l_0 : List (Int × ByteArray × Bool)) (g_1 : Int × ByteArray × Bool) : Option (((List (Int × ByteArray × Bool)) × Unit) × Unit) :=
 Option.bind (slices_Clone_Gram l_0) fun (r1 : ((List (Int × ByteArray × Bool)) × Unit) × Unit) =>
 bif decide ((r1.1.1.length : Int) ≥ 60) then
  some ((r1.1.1, ()), ())
 else
 bif Nat.ble (r1.1.1.length + 1) 1073741824 then
  some ((r1.1.1 ++ [g_1], ()), ())
 else none
theorem net_Send_eq (l_0 : List (Int × ByteArray × Bool)) (g_1 : Int × ByteArray × Bool) : evFn net_Send_Γ tab net_Send_fi 1 [.val t47, .val t117] [⟨t47, [true], none⟩] Tryz.f272 (l_0, g_1, ()) = net_Send l_0 g_1 := by kernel_rfl
noncomputable def net_Send_e : Ent := ⟨[.val t47, .val t117], [⟨t47, [true], none⟩], fun x => net_Send x.1 x.2.1⟩
theorem net_Send_good : Good tab.ty Tryz.prog 272 net_Send_e := by
  refine fn_good (Γ := net_Send_Γ) (fi := net_Send_fi) (n := 1) follows (gcons slices_Clone_Gram_good gnil) tabok Tryz.func272 (by kernel_rfl) (by kernel_rfl) (fun x r h => ?_)
  obtain ⟨l_0, g_1, _u⟩ := x
  exact (net_Send_eq l_0 g_1).trans h
noncomputable def world_machine_sends_Γ : Ctx := [(86, msg_Put_e), (272, net_Send_e)]
def world_machine_sends_fi : Fi := { keep := [], vty := [(6, 43), (7, 37), (15, 43), (26, 43)], vals := [], live := [(0, [0, 7, 8, 9]), (1, [0, 7, 8, 9, 10]), (2, [0, 5, 7, 8, 9]), (3, [0, 5, 6, 7, 8, 9]), (4, [0, 5, 6, 7, 8, 9, 17]), (5, [0, 7, 8, 9]), (6, [0, 7, 8, 9])] }
noncomputable def world_machine_sends_x (x : PDs [.box 108 t107 [true, false, true, false, false, false], .val t37]) : Option (RDs [] × ODs [.box 108 t107 [true, false, true, false, false, false], .val t37]) := evFn world_machine_sends_Γ tab world_machine_sends_fi 1099511627776 [.box 108 t107 [true, false, true, false, false, false], .val t37] [] Tryz.f207 x
noncomputable def world_machine_sends (x0 : ((List (Bool × Int × ByteArray × (Int × Int × Int × Int × Int × Int × (List Int) × Int × Int × Int × Int × Int × List (Int × Int × Int)) × (Int × Int × (List (Int × ByteArray)) × (List (Int × ByteArray)) × (List (Int × Int × Int × ByteArray × Int)) × Int × Int) × Int)) × (List (Int × ByteArray × Bool)) × (List ByteArray) × Int × (List (List Int)) × List (List ((List Int) × Int))) × Unit) (x1 : List (Int × Int × Int × Int × Int × Int × (List Int) × Int × Int × ByteArray)) : Option (Unit × ((((List (Bool × Int × ByteArray × (Int × Int × Int × Int × Int × Int × (List Int) × Int × Int × Int × Int × Int × List (Int × Int × Int)) × (Int × Int × (List (Int × ByteArray)) × (List (Int × ByteArray)) × (List (Int × Int × Int × ByteArray × Int)) × Int × Int) × Int)) × (List (Int × ByteArray × Bool)) × (List ByteArray) × Int × (List (List Int)) × List (List ((List Int) × Int))) × Unit) × Unit)) := world_machine_sends_x (x0, x1, ())
noncomputable def world_machine_sends_e : Ent := ⟨[.box 108 t107 [true, false, true, false, false, false], .val t37], [], fun x => world_machine_sends x.1 x.2.1⟩
theorem world_machine_sends_good : Good tab.ty Tryz.prog 207 world_machine_sends_e := by
  refine fn_good (Γ := world_machine_sends_Γ) (fi := world_machine_sends_fi) (n := 1099511627776) follows (gcons msg_Put_good (gcons net_Send_good gnil)) tabok Tryz.func207 (by kernel_rfl) (by kernel_rfl) (fun x r h => ?_)
  obtain ⟨x0, x1, _u⟩ := x
  exact h
noncomputable def world_machine_goes_Γ : Ctx := [(26, node_Crash_e), (205, node_Off_e), (206, hier_Leave_e), (207, world_machine_sends_e)]
def world_machine_goes_fi : Fi := { keep := [], vty := [(10, 37), (64, 37)], vals := [], live := [(0, [0, 1, 2]), (1, [0, 1, 2, 7, 8]), (2, [0]), (3, [0, 1, 2, 7, 8, 23]), (4, [0, 6]), (5, [0, 1, 2, 7, 27]), (6, [0, 6]), (7, [0, 1, 2, 7, 35]), (8, [0, 6]), (9, [0, 1, 7, 40]), (10, [0, 1, 7, 9, 10]), (11, [0, 10]), (12, [0]), (13, [0, 6])] }
noncomputable def world_machine_goes_x (x : PDs [.box 108 t107 [true, false, true, false, false, false], .val t2, .val t4]) : Option (RDs [⟨t20, [false], none⟩] × ODs [.box 108 t107 [true, false, true, false, false, false], .val t2, .val t4]) := evFn world_machine_goes_Γ tab world_machine_goes_fi 1099511627776 [.box 108 t107 [true, false, true, false, false, false], .val t2, .val t4] [⟨t20, [false], none⟩] Tryz.f134 x
noncomputable def world_machine_goes (x0 : ((List (Bool × Int × ByteArray × (Int × Int × Int × Int × Int × Int × (List Int) × Int × Int × Int × Int × Int × List (Int × Int × Int)) × (Int × Int × (List (Int × ByteArray)) × (List (Int × ByteArray)) × (List (Int × Int × Int × ByteArray × Int)) × Int × Int) × Int)) × (List (Int × ByteArray × Bool)) × (List ByteArray) × Int × (List (List Int)) × List (List ((List Int) × Int))) × Unit) (x1 : Int) (x2 : Bool) : Option ((IV × Unit) × ((((List (Bool × Int × ByteArray × (Int × Int × Int × Int × Int × Int × (List Int) × Int × Int × Int × Int × Int × List (Int × Int × Int)) × (Int × Int × (List (Int × ByteArray)) × (List (Int × ByteArray)) × (List (Int × Int × Int × ByteArray × Int)) × Int × Int) × Int)) × (List (Int × ByteArray × Bool)) × (List ByteArray) × Int × (List (List Int)) × List (List ((List Int) × Int))) × Unit) × Unit)) := world_machine_goes_x (x0, x1, x2, ())
noncomputable def world_machine_goes_e : Ent := ⟨[.box 108 t107 [true, false, true, false, false, false], .val t2, .val t4], [⟨t20, [false], none⟩], fun x => world_machine_goes x.1 x.2.1 x.2.2.1⟩
theorem world_machine_goes_good : Good tab.ty Tryz.prog 134 world_machine_goes_e := by
  refine fn_good (Γ := world_machine_goes_Γ) (fi := world_machine_goes_fi) (n := 1099511627776) follows (gcons node_Crash_good (gcons node_Off_good (gcons hier_Leave_good (gcons world_machine_sends_good gnil)))) tabok Tryz.func134 (by kernel_rfl) (by kernel_rfl) (fun x r h => ?_)
  obtain ⟨x0, x1, x2, _u⟩ := x
  exact h
noncomputable def feed_twin_Γ : Ctx := [(69, slices_Clone_Item_e), (70, slices_Clone_Event_e)]
def feed_twin_fi : Fi := { keep := [], vty := [], vals := [], live := [(0, [1, 2]), (1, [1, 2]), (2, [2])] }
noncomputable def feed_twin (f_0 : Int × Int × (List (Int × ByteArray)) × (List (Int × ByteArray)) × (List (Int × Int × Int × ByteArray × Int)) × Int × Int) : Option (((Int × Int × (List (Int × ByteArray)) × (List (Int × ByteArray)) × (List (Int × Int × Int × ByteArray × Int)) × Int × Int) × Unit) × Unit) :=
 Option.bind (slices_Clone_Item f_0.2.2.1) fun (r1 : ((List (Int × ByteArray)) × Unit) × Unit) =>
 Option.bind (slices_Clone_Item f_0.2.2.2.1) fun (r2 : ((List (Int × ByteArray)) × Unit) × Unit) =>
 Option.bind (slices_Clone_Event f_0.2.2.2.2.1) fun (r3 : ((List (Int × Int × Int × ByteArray × Int)) × Unit) × Unit) =>
 some (((f_0.1, f_0.2.1, r1.1.1, r2.1.1, r3.1.1, f_0.2.2.2.2.2), ()), ())
theorem feed_twin_eq (f_0 : Int × Int × (List (Int × ByteArray)) × (List (Int × ByteArray)) × (List (Int × Int × Int × ByteArray × Int)) × Int × Int) : evFn feed_twin_Γ tab feed_twin_fi 1 [.val t31] [⟨t31, [false, false, true, true, true, false, false], none⟩] Tryz.f79 (f_0, ()) = feed_twin f_0 := by kernel_rfl
noncomputable def feed_twin_e : Ent := ⟨[.val t31], [⟨t31, [false, false, true, true, true, false, false], none⟩], fun x => feed_twin x.1⟩
theorem feed_twin_good : Good tab.ty Tryz.prog 79 feed_twin_e := by
  refine fn_good (Γ := feed_twin_Γ) (fi := feed_twin_fi) (n := 1) follows (gcons slices_Clone_Item_good (gcons slices_Clone_Event_good gnil)) tabok Tryz.func79 (by kernel_rfl) (by kernel_rfl) (fun x r h => ?_)
  obtain ⟨f_0, _u⟩ := x
  exact (feed_twin_eq f_0).trans h
noncomputable def log_Tell_Γ : Ctx := [(70, slices_Clone_Event_e)]
def log_Tell_fi : Fi := { keep := [], vty := [], vals := [], live := [(0, [0, 1, 2]), (1, [6])] }
noncomputable def log_Tell (l_0 : List (Int × Int × Int × ByteArray × Int)) (seq_1 : Int) (text_2 : ByteArray) : Option (((List (Int × Int × Int × ByteArray × Int)) × Unit) × Unit) :=
 Option.bind (slices_Clone_Event l_0) fun (r1 : ((List (Int × Int × Int × ByteArray × Int)) × Unit) × Unit) =>
 bif Nat.ble (r1.1.1.length + 1) 1073741824 then
  some ((r1.1.1 ++ [(1, seq_1, seq_1, text_2, 0)], ()), ())
 else none
theorem log_Tell_eq (l_0 : List (Int × Int × Int × ByteArray × Int)) (seq_1 : Int) (text_2 : ByteArray) : evFn log_Tell_Γ tab log_Tell_fi 1 [.val t28, .val t2, .val t9] [⟨t28, [true], none⟩] Tryz.f157 (l_0, seq_1, text_2, ()) = log_Tell l_0 seq_1 text_2 := by kernel_rfl
noncomputable def log_Tell_e : Ent := ⟨[.val t28, .val t2, .val t9], [⟨t28, [true], none⟩], fun x => log_Tell x.1 x.2.1 x.2.2.1⟩
theorem log_Tell_good : Good tab.ty Tryz.prog 157 log_Tell_e := by
  refine fn_good (Γ := log_Tell_Γ) (fi := log_Tell_fi) (n := 1) follows (gcons slices_Clone_Event_good gnil) tabok Tryz.func157 (by kernel_rfl) (by kernel_rfl) (fun x r h => ?_)
  obtain ⟨l_0, seq_1, text_2, _u⟩ := x
  exact (log_Tell_eq l_0 seq_1 text_2).trans h
noncomputable def ring_Add_Γ : Ctx := [(69, slices_Clone_Item_e)]
def ring_Add_fi : Fi := { keep := [], vty := [], vals := [], live := [(0, [0, 3, 12, 13, 14, 15, 16, 17, 18, 19, 20, 21]), (1, [0, 3, 5, 12, 13, 14, 15, 16, 17, 18, 19, 20, 21]), (2, [3, 5, 22]), (3, [4]), (4, [5]), (5, [4])] }
noncomputable def ring_Add (l_0 : List (Int × ByteArray)) (i_1 : Int × ByteArray) : Option (((List (Int × ByteArray)) × Unit) × Unit) :=
 Option.bind (slices_Clone_Item l_0) fun (r1 : ((List (Int × ByteArray)) × Unit) × Unit) =>
 bif decide ((l_0.length : Int) > 0) then
  bif decide (0 ≤ IntKind.wrap .i64 ((l_0.length : Int) - 1)) && decide (IntKind.wrap .i64 ((l_0.length : Int) - 1) < (l_0.length : Int)) then
   bif decide (i_1.1 ≤ (List.getD l_0 ((IntKind.wrap .i64 ((l_0.length : Int) - 1)).toNat) (0, (⟨#[]⟩ : ByteArray))).1) then
    some ((r1.1.1, ()), ())
   else
   bif Nat.ble (r1.1.1.length + 1) 1073741824 then
    bif (decide (0 ≤ (if 0 > IntKind.wrap .i64 (((r1.1.1 ++ [i_1]).length : Int) - 6) then 0 else IntKind.wrap .i64 (((r1.1.1 ++ [i_1]).length : Int) - 6))) && decide ((if 0 > IntKind.wrap .i64 (((r1.1.1 ++ [i_1]).length : Int) - 6) then 0 else IntKind.wrap .i64 (((r1.1.1 ++ [i_1]).length : Int) - 6)) ≤ ((r1.1.1 ++ [i_1]).length : Int))) && decide (((r1.1.1 ++ [i_1]).length : Int) ≤ ((r1.1.1 ++ [i_1]).length : Int)) then
     Option.bind (slices_Clone_Item (List.drop ((if 0 > IntKind.wrap .i64 (((r1.1.1 ++ [i_1]).length : Int) - 6) then 0 else IntKind.wrap .i64 (((r1.1.1 ++ [i_1]).length : Int) - 6)).toNat) (List.take (((r1.1.1 ++ [i_1]).length : Int).toNat) (r1.1.1 ++ [i_1])))) fun (r2 : ((List (Int × ByteArray)) × Unit) × Unit) =>
     some ((r2.1.1, ()), ())
    else none
   else none
  else none
 else
 bif Nat.ble (r1.1.1.length + 1) 1073741824 then
  bif (decide (0 ≤ (if 0 > IntKind.wrap .i64 (((r1.1.1 ++ [i_1]).length : Int) - 6) then 0 else IntKind.wrap .i64 (((r1.1.1 ++ [i_1]).length : Int) - 6))) && decide ((if 0 > IntKind.wrap .i64 (((r1.1.1 ++ [i_1]).length : Int) - 6) then 0 else IntKind.wrap .i64 (((r1.1.1 ++ [i_1]).length : Int) - 6)) ≤ ((r1.1.1 ++ [i_1]).length : Int))) && decide (((r1.1.1 ++ [i_1]).length : Int) ≤ ((r1.1.1 ++ [i_1]).length : Int)) then
   Option.bind (slices_Clone_Item (List.drop ((if 0 > IntKind.wrap .i64 (((r1.1.1 ++ [i_1]).length : Int) - 6) then 0 else IntKind.wrap .i64 (((r1.1.1 ++ [i_1]).length : Int) - 6)).toNat) (List.take (((r1.1.1 ++ [i_1]).length : Int).toNat) (r1.1.1 ++ [i_1])))) fun (r3 : ((List (Int × ByteArray)) × Unit) × Unit) =>
   some ((r3.1.1, ()), ())
  else none
 else none
theorem ring_Add_eq (l_0 : List (Int × ByteArray)) (i_1 : Int × ByteArray) : evFn ring_Add_Γ tab ring_Add_fi 1 [.val t27, .val t135] [⟨t27, [true], none⟩] Tryz.f158 (l_0, i_1, ()) = ring_Add l_0 i_1 := by kernel_rfl
noncomputable def ring_Add_e : Ent := ⟨[.val t27, .val t135], [⟨t27, [true], none⟩], fun x => ring_Add x.1 x.2.1⟩
theorem ring_Add_good : Good tab.ty Tryz.prog 158 ring_Add_e := by
  refine fn_good (Γ := ring_Add_Γ) (fi := ring_Add_fi) (n := 1) follows (gcons slices_Clone_Item_good gnil) tabok Tryz.func158 (by kernel_rfl) (by kernel_rfl) (fun x r h => ?_)
  obtain ⟨l_0, i_1, _u⟩ := x
  exact (ring_Add_eq l_0 i_1).trans h
noncomputable def feed_Say_Γ : Ctx := [(79, feed_twin_e), (157, log_Tell_e), (158, ring_Add_e)]
def feed_Say_fi : Fi := { keep := [], vty := [], vals := [], live := [(0, [1, 2, 4, 16, 17]), (1, [1, 2, 4, 16, 17]), (2, [1, 2, 4, 6, 16, 17]), (3, [1, 2, 4, 6, 18]), (4, [4, 5]), (5, [2, 4, 6]), (6, [2, 4]), (7, [4, 5])] }
noncomputable def feed_Say (f_0 : Int × Int × (List (Int × ByteArray)) × (List (Int × ByteArray)) × (List (Int × Int × Int × ByteArray × Int)) × Int × Int) (text_1 : ByteArray) : Option (((Int × Int × (List (Int × ByteArray)) × (List (Int × ByteArray)) × (List (Int × Int × Int × ByteArray × Int)) × Int × Int) × Bool × Unit) × Unit) :=
 Option.bind (feed_twin f_0) fun (r1 : ((Int × Int × (List (Int × ByteArray)) × (List (Int × ByteArray)) × (List (Int × Int × Int × ByteArray × Int)) × Int × Int) × Unit) × Unit) =>
 bif decide ((text_1.size : Int) > 12) then
  some ((r1.1.1, false, ()), ())
 else
 bif decide ((if 1 > r1.1.1.1 then 1 else r1.1.1.1) > 1000000) then
  some ((r1.1.1, false, ()), ())
 else
  Option.bind (log_Tell r1.1.1.2.2.2.2.1 (if 1 > r1.1.1.1 then 1 else r1.1.1.1) text_1) fun (r2 : ((List (Int × Int × Int × ByteArray × Int)) × Unit) × Unit) =>
  Option.bind (ring_Add r1.1.1.2.2.1 (if 1 > r1.1.1.1 then 1 else r1.1.1.1, text_1)) fun (r3 : ((List (Int × ByteArray)) × Unit) × Unit) =>
  some (((IntKind.wrap .i64 ((if 1 > r1.1.1.1 then 1 else r1.1.1.1) + 1), if 1 > r1.1.1.1 then 1 else r1.1.1.1, r3.1.1, r1.1.1.2.2.2.1, r2.1.1, r1.1.1.2.2.2.2.2), true, ()), ())
theorem feed_Say_eq (f_0 : Int × Int × (List (Int × ByteArray)) × (List (Int × ByteArray)) × (List (Int × Int × Int × ByteArray × Int)) × Int × Int) (text_1 : ByteArray) : evFn feed_Say_Γ tab feed_Say_fi 1 [.val t31, .val t9] [⟨t31, [false, false, false, false, false, false, false], none⟩, ⟨t4, [false], none⟩] Tryz.f65 (f_0, text_1, ()) = feed_Say f_0 text_1 := by kernel_rfl
noncomputable def feed_Say_e : Ent := ⟨[.val t31, .val t9], [⟨t31, [false, false, false, false, false, false, false], none⟩, ⟨t4, [false], none⟩], fun x => feed_Say x.1 x.2.1⟩
theorem feed_Say_good : Good tab.ty Tryz.prog 65 feed_Say_e := by
  refine fn_good (Γ := feed_Say_Γ) (fi := feed_Say_fi) (n := 1) follows (gcons feed_twin_good (gcons log_Tell_good (gcons ring_Add_good gnil))) tabok Tryz.func65 (by kernel_rfl) (by kernel_rfl) (fun x r h => ?_)
  obtain ⟨f_0, text_1, _u⟩ := x
  exact (feed_Say_eq f_0 text_1).trans h
noncomputable def feed_Since_Γ : Ctx := [(70, slices_Clone_Event_e)]
def feed_Since_fi : Fi := { keep := [], vty := [], vals := [], live := [(0, [2, 3]), (1, [4])] }
noncomputable def feed_Since (f_0 : Int × Int × (List (Int × ByteArray)) × (List (Int × ByteArray)) × (List (Int × Int × Int × ByteArray × Int)) × Int × Int) (old_1 : Int × Int × (List (Int × ByteArray)) × (List (Int × ByteArray)) × (List (Int × Int × Int × ByteArray × Int)) × Int × Int) : Option (((List (Int × Int × Int × ByteArray × Int)) × Unit) × Unit) :=
 bif (decide (0 ≤ (if (f_0.2.2.2.2.1.length : Int) < (old_1.2.2.2.2.1.length : Int) then (f_0.2.2.2.2.1.length : Int) else (old_1.2.2.2.2.1.length : Int))) && decide ((if (f_0.2.2.2.2.1.length : Int) < (old_1.2.2.2.2.1.length : Int) then (f_0.2.2.2.2.1.length : Int) else (old_1.2.2.2.2.1.length : Int)) ≤ (f_0.2.2.2.2.1.length : Int))) && decide ((f_0.2.2.2.2.1.length : Int) ≤ (f_0.2.2.2.2.1.length : Int)) then
  Option.bind (slices_Clone_Event (List.drop ((if (f_0.2.2.2.2.1.length : Int) < (old_1.2.2.2.2.1.length : Int) then (f_0.2.2.2.2.1.length : Int) else (old_1.2.2.2.2.1.length : Int)).toNat) (List.take ((f_0.2.2.2.2.1.length : Int).toNat) f_0.2.2.2.2.1))) fun (r1 : ((List (Int × Int × Int × ByteArray × Int)) × Unit) × Unit) =>
  some ((r1.1.1, ()), ())
 else none
theorem feed_Since_eq (f_0 : Int × Int × (List (Int × ByteArray)) × (List (Int × ByteArray)) × (List (Int × Int × Int × ByteArray × Int)) × Int × Int) (old_1 : Int × Int × (List (Int × ByteArray)) × (List (Int × ByteArray)) × (List (Int × Int × Int × ByteArray × Int)) × Int × Int) : evFn feed_Since_Γ tab feed_Since_fi 1 [.val t31, .val t31] [⟨t28, [true], none⟩] Tryz.f84 (f_0, old_1, ()) = feed_Since f_0 old_1 := by kernel_rfl
noncomputable def feed_Since_e : Ent := ⟨[.val t31, .val t31], [⟨t28, [true], none⟩], fun x => feed_Since x.1 x.2.1⟩
theorem feed_Since_good : Good tab.ty Tryz.prog 84 feed_Since_e := by
  refine fn_good (Γ := feed_Since_Γ) (fi := feed_Since_fi) (n := 1) follows (gcons slices_Clone_Event_good gnil) tabok Tryz.func84 (by kernel_rfl) (by kernel_rfl) (fun x r h => ?_)
  obtain ⟨f_0, old_1, _u⟩ := x
  exact (feed_Since_eq f_0 old_1).trans h
noncomputable def node_tells_Γ : Ctx := []
def node_tells_fi : Fi := { keep := [], vty := [], vals := [], live := [(0, [1, 2, 3, 4, 5, 6, 12]), (1, [12])] }
noncomputable def node_tells (n_0 : Bool × Int × ByteArray × (Int × Int × Int × Int × Int × Int × (List Int) × Int × Int × Int × Int × Int × List (Int × Int × Int)) × (Int × Int × (List (Int × ByteArray)) × (List (Int × ByteArray)) × (List (Int × Int × Int × ByteArray × Int)) × Int × Int) × Int) (kind_1 : Int) (to_2 : Int) (lo_3 : Int) (hi_4 : Int) (s_5 : ByteArray) : Option (((Int × Int × Int × Int × Int × Int × (List Int) × Int × Int × ByteArray) × Unit) × Unit) :=
 some (((kind_1, n_0.2.2.2.1.1, to_2, n_0.2.2.2.1.2.1, 0, 0, [], lo_3, hi_4, s_5), ()), ())
theorem node_tells_eq (n_0 : Bool × Int × ByteArray × (Int × Int × Int × Int × Int × Int × (List Int) × Int × Int × Int × Int × Int × List (Int × Int × Int)) × (Int × Int × (List (Int × ByteArray)) × (List (Int × ByteArray)) × (List (Int × Int × Int × ByteArray × Int)) × Int × Int) × Int) (kind_1 : Int) (to_2 : Int) (lo_3 : Int) (hi_4 : Int) (s_5 : ByteArray) : evFn node_tells_Γ tab node_tells_fi 1 [.val t33, .val t2, .val t2, .val t2, .val t2, .val t9] [⟨t40, [false, false, false, false, false, false, true, false, false, false], none⟩] Tryz.f32 (n_0, kind_1, to_2, lo_3, hi_4, s_5, ()) = node_tells n_0 kind_1 to_2 lo_3 hi_4 s_5 := by kernel_rfl
noncomputable def node_tells_e : Ent := ⟨[.val t33, .val t2, .val t2, .val t2, .val t2, .val t9], [⟨t40, [false, false, false, false, false, false, true, false, false, false], none⟩], fun x => node_tells x.1 x.2.1 x.2.2.1 x.2.2.2.1 x.2.2.2.2.1 x.2.2.2.2.2.1⟩
theorem node_tells_good : Good tab.ty Tryz.prog 32 node_tells_e := by
  refine fn_good (Γ := node_tells_Γ) (fi := node_tells_fi) (n := 1) follows gnil tabok Tryz.func32 (by kernel_rfl) (by kernel_rfl) (fun x r h => ?_)
  obtain ⟨n_0, kind_1, to_2, lo_3, hi_4, s_5, _u⟩ := x
  exact (node_tells_eq n_0 kind_1 to_2 lo_3 hi_4 s_5).trans h
noncomputable def node_down_Γ : Ctx := [(32, node_tells_e), (84, feed_Since_e)]
def node_down_fi : Fi := { keep := [], vty := [(4, 37), (29, 37), (40, 37), (53, 37)], vals := [], live := [(0, [2, 3, 4]), (1, [2, 4, 12, 13, 14]), (2, [2, 4, 12, 13, 14, 15]), (3, [2, 4, 6, 12, 13, 14]), (4, [2, 4, 6, 12, 13, 14, 20, 21, 22]), (5, [2, 4, 6, 12, 13, 14, 20, 21, 22, 23]), (6, [2, 4, 6, 8, 12, 13, 14, 20, 21, 22]), (7, [2, 4, 6, 8, 12, 13, 14, 20, 21, 22, 28]), (8, [2, 4, 6, 12, 13, 14, 20, 21, 22]), (9, [2, 4, 6, 12, 13, 14, 20, 21, 22]), (10, [2, 4, 6, 12, 13, 14, 20, 21, 22]), (11, [2, 4, 12, 13, 14]), (12, [4])] }
noncomputable def node_down_x (x : PDs [.val t33, .val t31]) : Option (RDs [⟨t37, [true], none⟩] × ODs [.val t33, .val t31]) := evFn node_down_Γ tab node_down_fi 1099511627776 [.val t33, .val t31] [⟨t37, [true], none⟩] Tryz.f33 x
noncomputable def node_down (x0 : Bool × Int × ByteArray × (Int × Int × Int × Int × Int × Int × (List Int) × Int × Int × Int × Int × Int × List (Int × Int × Int)) × (Int × Int × (List (Int × ByteArray)) × (List (Int × ByteArray)) × (List (Int × Int × Int × ByteArray × Int)) × Int × Int) × Int) (x1 : Int × Int × (List (Int × ByteArray)) × (List (Int × ByteArray)) × (List (Int × Int × Int × ByteArray × Int)) × Int × Int) : Option (((List (Int × Int × Int × Int × Int × Int × (List Int) × Int × Int × ByteArray)) × Unit) × Unit) := node_down_x (x0, x1, ())
noncomputable def node_down_e : Ent := ⟨[.val t33, .val t31], [⟨t37, [true], none⟩], fun x => node_down x.1 x.2.1⟩
theorem node_down_good : Good tab.ty Tryz.prog 33 node_down_e := by
  refine fn_good (Γ := node_down_Γ) (fi := node_down_fi) (n := 1099511627776) follows (gcons node_tells_good (gcons feed_Since_good gnil)) tabok Tryz.func33 (by kernel_rfl) (by kernel_rfl) (fun x r h => ?_)
  obtain ⟨x0, x1, _u⟩ := x
  exact h
noncomputable def node_Say_Γ : Ctx := [(28, node_twin_e), (33, node_down_e), (65, feed_Say_e)]
def node_Say_fi : Fi := { keep := [], vty := [], vals := [], live := [(0, [1, 2, 4, 16, 17, 18, 19]), (1, [1, 2, 4, 7, 16, 17, 18, 19]), (2, [1, 2, 4, 7, 20]), (3, [4, 5, 6]), (4, [2, 4, 7, 8, 9]), (5, [2, 4, 7, 8, 30]), (6, [4, 5, 6]), (7, [2, 4, 7]), (8, [4, 5, 6])] }
noncomputable def node_Say (n_0 : Bool × Int × ByteArray × (Int × Int × Int × Int × Int × Int × (List Int) × Int × Int × Int × Int × Int × List (Int × Int × Int)) × (Int × Int × (List (Int × ByteArray)) × (List (Int × ByteArray)) × (List (Int × Int × Int × ByteArray × Int)) × Int × Int) × Int) (s_1 : ByteArray) : Option (((Bool × Int × ByteArray × (Int × Int × Int × Int × Int × Int × (List Int) × Int × Int × Int × Int × Int × List (Int × Int × Int)) × (Int × Int × (List (Int × ByteArray)) × (List (Int × ByteArray)) × (List (Int × Int × Int × ByteArray × Int)) × Int × Int) × Int) × (List (Int × Int × Int × Int × Int × Int × (List Int) × Int × Int × ByteArray)) × Bool × Unit) × Unit) :=
 Option.bind (node_twin n_0) fun (r1 : ((Bool × Int × ByteArray × (Int × Int × Int × Int × Int × Int × (List Int) × Int × Int × Int × Int × Int × List (Int × Int × Int)) × (Int × Int × (List (Int × ByteArray)) × (List (Int × ByteArray)) × (List (Int × Int × Int × ByteArray × Int)) × Int × Int) × Int) × Unit) × Unit) =>
 bif !n_0.1 then
  some ((r1.1.1, [], false, ()), ())
 else
 bif n_0.2.2.2.1.1 != 1 then
  some ((r1.1.1, [], false, ()), ())
 else
  Option.bind (feed_Say n_0.2.2.2.2.1 s_1) fun (r2 : ((Int × Int × (List (Int × ByteArray)) × (List (Int × ByteArray)) × (List (Int × Int × Int × ByteArray × Int)) × Int × Int) × Bool × Unit) × Unit) =>
  bif !r2.1.2.1 then
   some ((r1.1.1, [], false, ()), ())
  else
   Option.bind (node_down (r1.1.1.1, r1.1.1.2.1, r1.1.1.2.2.1, r1.1.1.2.2.2.1, r2.1.1, r1.1.1.2.2.2.2.2) n_0.2.2.2.2.1) fun (r3 : ((List (Int × Int × Int × Int × Int × Int × (List Int) × Int × Int × ByteArray)) × Unit) × Unit) =>
   some (((r1.1.1.1, r1.1.1.2.1, r1.1.1.2.2.1, r1.1.1.2.2.2.1, r2.1.1, r1.1.1.2.2.2.2.2), r3.1.1, true, ()), ())
theorem node_Say_eq (n_0 : Bool × Int × ByteArray × (Int × Int × Int × Int × Int × Int × (List Int) × Int × Int × Int × Int × Int × List (Int × Int × Int)) × (Int × Int × (List (Int × ByteArray)) × (List (Int × ByteArray)) × (List (Int × Int × Int × ByteArray × Int)) × Int × Int) × Int) (s_1 : ByteArray) : evFn node_Say_Γ tab node_Say_fi 1 [.val t33, .val t9] [⟨t33, [false, false, false, false, false, false, false, false, false, false, false, false, false, false, false, false, false, false, false, false, false, false, false, false], none⟩, ⟨t37, [true], none⟩, ⟨t4, [false], none⟩] Tryz.f25 (n_0, s_1, ()) = node_Say n_0 s_1 := by kernel_rfl
noncomputable def node_Say_e : Ent := ⟨[.val t33, .val t9], [⟨t33, [false, false, false, false, false, false, false, false, false, false, false, false, false, false, false, false, false, false, false, false, false, false, false, false], none⟩, ⟨t37, [true], none⟩, ⟨t4, [false], none⟩], fun x => node_Say x.1 x.2.1⟩
theorem node_Say_good : Good tab.ty Tryz.prog 25 node_Say_e := by
  refine fn_good (Γ := node_Say_Γ) (fi := node_Say_fi) (n := 1) follows (gcons node_twin_good (gcons node_down_good (gcons feed_Say_good gnil))) tabok Tryz.func25 (by kernel_rfl) (by kernel_rfl) (fun x r h => ?_)
  obtain ⟨n_0, s_1, _u⟩ := x
  exact (node_Say_eq n_0 s_1).trans h
noncomputable def world_machine_says_Γ : Ctx := [(25, node_Say_e), (207, world_machine_sends_e)]
def world_machine_says_fi : Fi := { keep := [], vty := [(8, 37), (47, 37)], vals := [], live := [(0, [0, 1]), (1, [0, 1, 5, 6]), (2, [0, 1, 5, 6, 16]), (3, [0, 4]), (4, [0, 1, 5, 7, 8, 9]), (5, [0, 1, 5, 7, 8, 28]), (6, [0, 4]), (7, [0, 8]), (8, [0]), (9, [0, 4])] }
noncomputable def world_machine_says_x (x : PDs [.box 108 t107 [true, false, true, false, false, false], .val t9]) : Option (RDs [⟨t20, [false], none⟩] × ODs [.box 108 t107 [true, false, true, false, false, false], .val t9]) := evFn world_machine_says_Γ tab world_machine_says_fi 1099511627776 [.box 108 t107 [true, false, true, false, false, false], .val t9] [⟨t20, [false], none⟩] Tryz.f135 x
noncomputable def world_machine_says (x0 : ((List (Bool × Int × ByteArray × (Int × Int × Int × Int × Int × Int × (List Int) × Int × Int × Int × Int × Int × List (Int × Int × Int)) × (Int × Int × (List (Int × ByteArray)) × (List (Int × ByteArray)) × (List (Int × Int × Int × ByteArray × Int)) × Int × Int) × Int)) × (List (Int × ByteArray × Bool)) × (List ByteArray) × Int × (List (List Int)) × List (List ((List Int) × Int))) × Unit) (x1 : ByteArray) : Option ((IV × Unit) × ((((List (Bool × Int × ByteArray × (Int × Int × Int × Int × Int × Int × (List Int) × Int × Int × Int × Int × Int × List (Int × Int × Int)) × (Int × Int × (List (Int × ByteArray)) × (List (Int × ByteArray)) × (List (Int × Int × Int × ByteArray × Int)) × Int × Int) × Int)) × (List (Int × ByteArray × Bool)) × (List ByteArray) × Int × (List (List Int)) × List (List ((List Int) × Int))) × Unit) × Unit)) := world_machine_says_x (x0, x1, ())
noncomputable def world_machine_says_e : Ent := ⟨[.box 108 t107 [true, false, true, false, false, false], .val t9], [⟨t20, [false], none⟩], fun x => world_machine_says x.1 x.2.1⟩
theorem world_machine_says_good : Good tab.ty Tryz.prog 135 world_machine_says_e := by
  refine fn_good (Γ := world_machine_says_Γ) (fi := world_machine_says_fi) (n := 1099511627776) follows (gcons node_Say_good (gcons world_machine_sends_good gnil)) tabok Tryz.func135 (by kernel_rfl) (by kernel_rfl) (fun x r h => ?_)
  obtain ⟨x0, x1, _u⟩ := x
  exact h
noncomputable def slices_IndexFunc_Kid_Γ : Ctx := []
def slices_IndexFunc_Kid_fi : Fi := { keep := [], vty := [(6, 24), (12, 24)], vals := [], live := [(0, [0, 1]), (1, [0, 1, 7, 8]), (2, [0, 1, 7, 8, 9]), (3, [0, 1, 5, 7, 8]), (4, [0, 1, 5, 7, 8, 16]), (5, [4]), (6, [0, 1, 7, 8]), (7, [4])] }
noncomputable def slices_IndexFunc_Kid_x (x : PDs [.val t24, .fn [t126] [t4]]) : Option (RDs [⟨t2, [false], none⟩] × ODs [.val t24, .fn [t126] [t4]]) := evFn slices_IndexFunc_Kid_Γ tab slices_IndexFunc_Kid_fi 1099511627776 [.val t24, .fn [t126] [t4]] [⟨t2, [false], none⟩] Tryz.f237 x
noncomputable def slices_IndexFunc_Kid (x0 : List (Int × Int × Int)) (x1 : ((Int × Int × Int) × Unit → Option (Bool × Unit))) : Option ((Int × Unit) × Unit) := slices_IndexFunc_Kid_x (x0, x1, ())
noncomputable def slices_IndexFunc_Kid_e : Ent := ⟨[.val t24, .fn [t126] [t4]], [⟨t2, [false], none⟩], fun x => slices_IndexFunc_Kid x.1 x.2.1⟩
theorem slices_IndexFunc_Kid_good : Good tab.ty Tryz.prog 237 slices_IndexFunc_Kid_e := by
  refine fn_good (Γ := slices_IndexFunc_Kid_Γ) (fi := slices_IndexFunc_Kid_fi) (n := 1099511627776) follows gnil tabok Tryz.func237 (by kernel_rfl) (by kernel_rfl) (fun x r h => ?_)
  obtain ⟨x0, x1, _u⟩ := x
  exact h
noncomputable def slices_DeleteFunc_Kid_Γ : Ctx := [(161, markE), (237, slices_IndexFunc_Kid_e)]
def slices_DeleteFunc_Kid_fi : Fi := { keep := [], vty := [(4, 24), (8, 24), (13, 24), (17, 24), (22, 24), (30, 24), (36, 24), (39, 24)], vals := [], live := [(0, [0, 1]), (1, [0, 1, 5]), (2, [0, 1, 5, 12]), (3, [4]), (4, [0, 1, 5, 6]), (5, [0, 1, 5, 6, 19]), (6, [0, 1, 5, 6]), (7, [0, 1, 5, 6, 7]), (8, [0, 1, 5, 6, 7, 29]), (9, [0, 1, 5, 6]), (10, [0, 1, 5, 6]), (11, [0, 5]), (12, [4])], melt := [(11, 1000000), (12, 1000000)] }
noncomputable def slices_DeleteFunc_Kid_x (x : PDs [.own 127 t126, .fn [t126] [t4]]) : Option (RDs [⟨t24, [true], none⟩] × ODs [.own 127 t126, .fn [t126] [t4]]) := evFn slices_DeleteFunc_Kid_Γ tab slices_DeleteFunc_Kid_fi 1099511627776 [.own 127 t126, .fn [t126] [t4]] [⟨t24, [true], none⟩] Tryz.f161 x
noncomputable def slices_DeleteFunc_Kid (x0 : List (Int × Int × Int)) (x1 : ((Int × Int × Int) × Unit → Option (Bool × Unit))) : Option (((List (Int × Int × Int)) × Unit) × Unit) := slices_DeleteFunc_Kid_x (x0, x1, ())
noncomputable def slices_DeleteFunc_Kid_e : Ent := ⟨[.own 127 t126, .fn [t126] [t4]], [⟨t24, [true], none⟩], fun x => slices_DeleteFunc_Kid x.1 x.2.1⟩
theorem slices_DeleteFunc_Kid_good : Good tab.ty Tryz.prog 161 slices_DeleteFunc_Kid_e := by
  refine fn_good (Γ := slices_DeleteFunc_Kid_Γ) (fi := slices_DeleteFunc_Kid_fi) (n := 1099511627776) follows (gcons (gmark Tryz.func161 (by kernel_rfl) (by kernel_rfl)) (gcons slices_IndexFunc_Kid_good gnil)) tabok Tryz.func161 (by kernel_rfl) (by kernel_rfl) (fun x r h => ?_)
  obtain ⟨x0, x1, _u⟩ := x
  exact h
noncomputable def kids_Prune_fn1_Γ : Ctx := []
def kids_Prune_fn1_fi : Fi := { keep := [], vty := [], vals := [], live := [(0, [1, 2]), (1, [3])] }
noncomputable def kids_Prune_fn1 (k_0 : Int × Int × Int) (x_1 : Int) : Option ((Bool × Unit) × Unit) :=
 some ((decide (IntKind.wrap .i64 (x_1 - k_0.2.2) > 20), ()), ())
theorem kids_Prune_fn1_eq (k_0 : Int × Int × Int) (x_1 : Int) : evFn kids_Prune_fn1_Γ tab kids_Prune_fn1_fi 1 [.val t126, .rbox t2] [⟨t4, [false], none⟩] Tryz.f162 (k_0, x_1, ()) = kids_Prune_fn1 k_0 x_1 := by kernel_rfl
noncomputable def kids_Prune_fn1_e : Ent := ⟨[.val t126, .rbox t2], [⟨t4, [false], none⟩], fun x => kids_Prune_fn1 x.1 x.2.1⟩
theorem kids_Prune_fn1_good : Good tab.ty Tryz.prog 162 kids_Prune_fn1_e := by
  refine fn_good (Γ := kids_Prune_fn1_Γ) (fi := kids_Prune_fn1_fi) (n := 1) follows gnil tabok Tryz.func162 (by kernel_rfl) (by kernel_rfl) (fun x r h => ?_)
  obtain ⟨k_0, x_1, _u⟩ := x
  exact (kids_Prune_fn1_eq k_0 x_1).trans h
noncomputable def kids_Prune_Γ : Ctx := [(68, slices_Clone_Kid_e), (161, slices_DeleteFunc_Kid_e), (162, kids_Prune_fn1_e)]
def kids_Prune_fi : Fi := { keep := [], vty := [], vals := [], live := [(0, [0, 3]), (1, [4])] }
noncomputable def kids_Prune (l_0 : List (Int × Int × Int)) (now_1 : Int) : Option (((List (Int × Int × Int)) × Unit) × Unit) :=
 Option.bind (slices_Clone_Kid l_0) fun (r1 : ((List (Int × Int × Int)) × Unit) × Unit) =>
 Option.bind (slices_DeleteFunc_Kid r1.1.1 (fun x => (kids_Prune_fn1 x.1 now_1).bind fun r => some (r.1.1, ()))) fun (r2 : ((List (Int × Int × Int)) × Unit) × Unit) =>
 some ((r2.1.1, ()), ())
theorem kids_Prune_eq (l_0 : List (Int × Int × Int)) (now_1 : Int) : evFn kids_Prune_Γ tab kids_Prune_fi 1 [.val t24, .val t2] [⟨t24, [true], none⟩] Tryz.f72 (l_0, now_1, ()) = kids_Prune l_0 now_1 := by kernel_rfl
noncomputable def kids_Prune_e : Ent := ⟨[.val t24, .val t2], [⟨t24, [true], none⟩], fun x => kids_Prune x.1 x.2.1⟩
theorem kids_Prune_good : Good tab.ty Tryz.prog 72 kids_Prune_e := by
  refine fn_good (Γ := kids_Prune_Γ) (fi := kids_Prune_fi) (n := 1) follows (gcons slices_Clone_Kid_good (gcons slices_DeleteFunc_Kid_good (gcons kids_Prune_fn1_good gnil))) tabok Tryz.func72 (by kernel_rfl) (by kernel_rfl) (fun x r h => ?_)
  obtain ⟨l_0, now_1, _u⟩ := x
  exact (kids_Prune_eq l_0 now_1).trans h
noncomputable def tie_Fresh_Γ : Ctx := []
def tie_Fresh_fi : Fi := { keep := [], vty := [], vals := [], live := [(0, [1, 7, 8, 9, 10, 11, 12, 13, 14, 15, 16, 17]), (1, [2])] }
noncomputable def tie_Fresh (t_0 : Int × Int × Int × Int × Int × Int × (List Int) × Int × Int × Int × Int × Int × List (Int × Int × Int)) : Option ((Bool × Unit) × Unit) :=
 bif t_0.1 == 1 then
  some ((true, ()), ())
 else
 bif t_0.2.2.2.1 != 0 then
  some ((decide (IntKind.wrap .i64 (t_0.2.2.1 - t_0.2.2.2.2.2.2.2.2.1) ≤ 20), ()), ())
 else
  some ((false, ()), ())
theorem tie_Fresh_eq (t_0 : Int × Int × Int × Int × Int × Int × (List Int) × Int × Int × Int × Int × Int × List (Int × Int × Int)) : evFn tie_Fresh_Γ tab tie_Fresh_fi 1 [.val t25] [⟨t4, [false], none⟩] Tryz.f73 (t_0, ()) = tie_Fresh t_0 := by kernel_rfl
noncomputable def tie_Fresh_e : Ent := ⟨[.val t25], [⟨t4, [false], none⟩], fun x => tie_Fresh x.1⟩
theorem tie_Fresh_good : Good tab.ty Tryz.prog 73 tie_Fresh_e := by
  refine fn_good (Γ := tie_Fresh_Γ) (fi := tie_Fresh_fi) (n := 1) follows gnil tabok Tryz.func73 (by kernel_rfl) (by kernel_rfl) (fun x r h => ?_)
  obtain ⟨t_0, _u⟩ := x
  exact (tie_Fresh_eq t_0).trans h
noncomputable def tie_node_lets_Γ : Ctx := []
def tie_node_lets_fi : Fi := { keep := [], vty := [], vals := [], live := [(0, [0])] }
noncomputable def tie_node_lets (n_0 : (Int × Int × Int × Int × Int × Int × (List Int) × Int × Int × Int × Int × Int × List (Int × Int × Int)) × List (Int × Int × Int × Int × Int × Int × (List Int) × Int × Int × ByteArray)) (step_1 : Int) : Option (Unit × (((Int × Int × Int × Int × Int × Int × (List Int) × Int × Int × Int × Int × Int × List (Int × Int × Int)) × List (Int × Int × Int × Int × Int × Int × (List Int) × Int × Int × ByteArray)) × Unit)) :=
 some ((), (((n_0.1.1, n_0.1.2.1, n_0.1.2.2.1, 0, 0, n_0.1.2.2.2.2.2.1, [], n_0.1.2.2.2.2.2.2.2.1, n_0.1.2.2.2.2.2.2.2.2.1, 0, n_0.1.2.2.2.2.2.2.2.2.2.2.1, step_1, n_0.1.2.2.2.2.2.2.2.2.2.2.2.2), n_0.2), ()))
theorem tie_node_lets_eq (n_0 : (Int × Int × Int × Int × Int × Int × (List Int) × Int × Int × Int × Int × Int × List (Int × Int × Int)) × List (Int × Int × Int × Int × Int × Int × (List Int) × Int × Int × ByteArray)) (step_1 : Int) : evFn tie_node_lets_Γ tab tie_node_lets_fi 1 [.box 143 t142 [false, false, false, false, false, false, false, false, false, false, false, false, false, true], .val t2] [] Tryz.f74 (n_0, step_1, ()) = tie_node_lets n_0 step_1 := by kernel_rfl
noncomputable def tie_node_lets_e : Ent := ⟨[.box 143 t142 [false, false, false, false, false, false, false, false, false, false, false, false, false, true], .val t2], [], fun x => tie_node_lets x.1 x.2.1⟩
theorem tie_node_lets_good : Good tab.ty Tryz.prog 74 tie_node_lets_e := by
  refine fn_good (Γ := tie_node_lets_Γ) (fi := tie_node_lets_fi) (n := 1) follows gnil tabok Tryz.func74 (by kernel_rfl) (by kernel_rfl) (fun x r h => ?_)
  obtain ⟨n_0, step_1, _u⟩ := x
  exact (tie_node_lets_eq n_0 step_1).trans h
noncomputable def tie_node_asks_Γ : Ctx := [(163, tie_node_tells_e)]
def tie_node_asks_fi : Fi := { keep := [], vty := [], vals := [], live := [(0, [0, 15, 23, 24, 25, 26, 27, 28, 29, 30, 31, 32, 33, 65, 66, 67, 68, 69, 70, 73, 74, 75, 76, 77, 78, 79, 80, 81, 82, 83]), (1, [0, 34, 65, 66, 67, 68, 69, 70, 73, 74, 75, 76, 77, 78, 79, 80, 81, 82, 83]), (2, [0, 65, 66, 67, 68, 69, 70, 73, 74, 75, 76, 77, 78, 79, 80, 81, 82, 83]), (3, [0, 65, 66, 67, 68, 69, 70, 73, 74, 75, 76, 77, 78, 79, 80, 81, 82, 83]), (4, [0, 53, 65, 66, 67, 68, 69, 70, 73, 74, 75, 76, 77, 78, 79, 80, 81, 82, 83]), (5, [0, 65, 66, 67, 68, 69, 70, 73, 74, 75, 76, 77, 78, 79, 80, 81, 82, 83]), (6, [0, 84]), (7, [0]), (8, [0]), (9, [0])] }
noncomputable def tie_node_asks_x (x : PDs [.box 143 t142 [false, false, false, false, false, false, false, false, false, false, false, false, false, true]]) : Option (RDs [] × ODs [.box 143 t142 [false, false, false, false, false, false, false, false, false, false, false, false, false, true]]) := evFn tie_node_asks_Γ tab tie_node_asks_fi 1099511627776 [.box 143 t142 [false, false, false, false, false, false, false, false, false, false, false, false, false, true]] [] Tryz.f75 x
noncomputable def tie_node_asks (x0 : (Int × Int × Int × Int × Int × Int × (List Int) × Int × Int × Int × Int × Int × List (Int × Int × Int)) × List (Int × Int × Int × Int × Int × Int × (List Int) × Int × Int × ByteArray)) : Option (Unit × (((Int × Int × Int × Int × Int × Int × (List Int) × Int × Int × Int × Int × Int × List (Int × Int × Int)) × List (Int × Int × Int × Int × Int × Int × (List Int) × Int × Int × ByteArray)) × Unit)) := tie_node_asks_x (x0, ())
noncomputable def tie_node_asks_e : Ent := ⟨[.box 143 t142 [false, false, false, false, false, false, false, false, false, false, false, false, false, true]], [], fun x => tie_node_asks x.1⟩
theorem tie_node_asks_good : Good tab.ty Tryz.prog 75 tie_node_asks_e := by
  refine fn_good (Γ := tie_node_asks_Γ) (fi := tie_node_asks_fi) (n := 1099511627776) follows (gcons tie_node_tells_good gnil) tabok Tryz.func75 (by kernel_rfl) (by kernel_rfl) (fun x r h => ?_)
  obtain ⟨x0, _u⟩ := x
  exact h
noncomputable def tie_node_beats_Γ : Ctx := [(73, tie_Fresh_e), (163, tie_node_tells_e)]
def tie_node_beats_fi : Fi := { keep := [], vty := [], vals := [], live := [(0, [0, 10]), (1, [0, 16]), (2, [0]), (3, [0, 28, 29, 30]), (4, [0, 28, 29, 30, 31]), (5, [0, 3, 28, 29, 30]), (6, [0, 3, 28, 29, 30, 38]), (7, [0, 28, 29, 30]), (8, [0, 28, 29, 30])] }
noncomputable def tie_node_beats_x (x : PDs [.box 143 t142 [false, false, false, false, false, false, false, false, false, false, false, false, false, true]]) : Option (RDs [] × ODs [.box 143 t142 [false, false, false, false, false, false, false, false, false, false, false, false, false, true]]) := evFn tie_node_beats_Γ tab tie_node_beats_fi 1099511627776 [.box 143 t142 [false, false, false, false, false, false, false, false, false, false, false, false, false, true]] [] Tryz.f76 x
noncomputable def tie_node_beats (x0 : (Int × Int × Int × Int × Int × Int × (List Int) × Int × Int × Int × Int × Int × List (Int × Int × Int)) × List (Int × Int × Int × Int × Int × Int × (List Int) × Int × Int × ByteArray)) : Option (Unit × (((Int × Int × Int × Int × Int × Int × (List Int) × Int × Int × Int × Int × Int × List (Int × Int × Int)) × List (Int × Int × Int × Int × Int × Int × (List Int) × Int × Int × ByteArray)) × Unit)) := tie_node_beats_x (x0, ())
noncomputable def tie_node_beats_e : Ent := ⟨[.box 143 t142 [false, false, false, false, false, false, false, false, false, false, false, false, false, true]], [], fun x => tie_node_beats x.1⟩
theorem tie_node_beats_good : Good tab.ty Tryz.prog 76 tie_node_beats_e := by
  refine fn_good (Γ := tie_node_beats_Γ) (fi := tie_node_beats_fi) (n := 1099511627776) follows (gcons tie_Fresh_good (gcons tie_node_tells_good gnil)) tabok Tryz.func76 (by kernel_rfl) (by kernel_rfl) (fun x r h => ?_)
  obtain ⟨x0, _u⟩ := x
  exact h
noncomputable def tie_Tick_Γ : Ctx := [(71, tie_of_e), (72, kids_Prune_e), (73, tie_Fresh_e), (74, tie_node_lets_e), (75, tie_node_asks_e), (76, tie_node_beats_e)]
def tie_Tick_fi : Fi := { keep := [], vty := [(3, 37)], vals := [], live := [(0, [1, 2, 39, 40, 41, 42, 43, 44, 45, 74, 75, 76, 77, 78, 79, 82, 83, 84, 85, 86, 87]), (1, [2, 4, 39, 40, 41, 42, 43, 44, 45, 74, 75, 76, 77, 78, 79, 82, 83, 84, 85, 86, 87]), (2, [2, 4, 39, 40, 41, 42, 43, 44, 45, 74, 75, 76, 77, 78, 79, 82, 83, 84, 85, 86, 87]), (3, [2, 4, 39, 40, 41, 42, 43, 44, 45, 74, 75, 76, 77, 78, 79, 82, 83, 84, 85, 86, 87]), (4, [2, 4, 31, 74, 75, 76, 77, 78, 79, 82, 83, 84, 85, 86, 87]), (5, [2, 4]), (6, [2, 4, 66]), (7, [2, 4]), (8, [2, 4]), (9, [2, 4]), (10, [2, 3])] }
noncomputable def tie_Tick_x (x : PDs [.val t25]) : Option (RDs [⟨t25, [false, false, false, false, false, false, false, false, false, false, false, false, false], none⟩, ⟨t37, [true], none⟩] × ODs [.val t25]) := evFn tie_Tick_Γ tab tie_Tick_fi 1099511627776 [.val t25] [⟨t25, [false, false, false, false, false, false, false, false, false, false, false, false, false], none⟩, ⟨t37, [true], none⟩] Tryz.f30 x
noncomputable def tie_Tick (x0 : Int × Int × Int × Int × Int × Int × (List Int) × Int × Int × Int × Int × Int × List (Int × Int × Int)) : Option (((Int × Int × Int × Int × Int × Int × (List Int) × Int × Int × Int × Int × Int × List (Int × Int × Int)) × (List (Int × Int × Int × Int × Int × Int × (List Int) × Int × Int × ByteArray)) × Unit) × Unit) := tie_Tick_x (x0, ())
noncomputable def tie_Tick_e : Ent := ⟨[.val t25], [⟨t25, [false, false, false, false, false, false, false, false, false, false, false, false, false], none⟩, ⟨t37, [true], none⟩], fun x => tie_Tick x.1⟩
theorem tie_Tick_good : Good tab.ty Tryz.prog 30 tie_Tick_e := by
  refine fn_good (Γ := tie_Tick_Γ) (fi := tie_Tick_fi) (n := 1099511627776) follows (gcons tie_of_good (gcons kids_Prune_good (gcons tie_Fresh_good (gcons tie_node_lets_good (gcons tie_node_asks_good (gcons tie_node_beats_good gnil)))))) tabok Tryz.func30 (by kernel_rfl) (by kernel_rfl) (fun x r h => ?_)
  obtain ⟨x0, _u⟩ := x
  exact h
noncomputable def win_First_Γ : Ctx := []
def win_First_fi : Fi := { keep := [], vty := [], vals := [], live := [(0, [0]), (1, [0, 5]), (2, [2]), (3, [2])] }
noncomputable def win_First (l_0 : List (Int × ByteArray)) : Option ((Int × Unit) × Unit) :=
 bif (l_0.length : Int) == 0 then
  some ((0, ()), ())
 else
 bif decide (0 < (l_0.length : Int)) then
  some (((List.getD l_0 0 (0, (⟨#[]⟩ : ByteArray))).1, ()), ())
 else none
theorem win_First_eq (l_0 : List (Int × ByteArray)) : evFn win_First_Γ tab win_First_fi 1 [.val t27] [⟨t2, [false], none⟩] Tryz.f164 (l_0, ()) = win_First l_0 := by kernel_rfl
noncomputable def win_First_e : Ent := ⟨[.val t27], [⟨t2, [false], none⟩], fun x => win_First x.1⟩
theorem win_First_good : Good tab.ty Tryz.prog 164 win_First_e := by
  refine fn_good (Γ := win_First_Γ) (fi := win_First_fi) (n := 1) follows gnil tabok Tryz.func164 (by kernel_rfl) (by kernel_rfl) (fun x r h => ?_)
  obtain ⟨l_0, _u⟩ := x
  exact (win_First_eq l_0).trans h
noncomputable def nak_Wants_Γ : Ctx := [(164, win_First_e)]
def nak_Wants_fi : Fi := { keep := [], vty := [], vals := [], live := [(0, [1, 2, 23, 24, 25, 26, 27]), (1, [1, 2, 4, 23, 24, 25, 26, 27]), (2, [1, 2, 4, 13, 23, 24, 25, 26, 27]), (3, [1, 2, 4, 23, 24, 25, 26, 27]), (4, [2, 4, 28]), (5, [2, 3]), (6, [2, 3])] }
noncomputable def nak_Wants (f_0 : Int × Int × (List (Int × ByteArray)) × (List (Int × ByteArray)) × (List (Int × Int × Int × ByteArray × Int)) × Int × Int) : Option (((Int × Int) × Bool × Unit) × Unit) :=
 bif decide ((f_0.2.2.2.1.length : Int) > 0) then
  Option.bind (win_First f_0.2.2.2.1) fun (r1 : (Int × Unit) × Unit) =>
  bif f_0.1 == 0 then
   some (((0, 0), false, ()), ())
  else
  bif decide (IntKind.wrap .i64 (r1.1.1 - 1) < f_0.1) then
   some (((0, 0), false, ()), ())
  else
   some (((f_0.1, IntKind.wrap .i64 (r1.1.1 - 1)), true, ()), ())
 else
 bif f_0.1 == 0 then
  some (((0, 0), false, ()), ())
 else
 bif decide (f_0.2.1 < f_0.1) then
  some (((0, 0), false, ()), ())
 else
  some (((f_0.1, f_0.2.1), true, ()), ())
theorem nak_Wants_eq (f_0 : Int × Int × (List (Int × ByteArray)) × (List (Int × ByteArray)) × (List (Int × Int × Int × ByteArray × Int)) × Int × Int) : evFn nak_Wants_Γ tab nak_Wants_fi 1 [.val t31] [⟨t29, [false, false], none⟩, ⟨t4, [false], none⟩] Tryz.f77 (f_0, ()) = nak_Wants f_0 := by kernel_rfl
noncomputable def nak_Wants_e : Ent := ⟨[.val t31], [⟨t29, [false, false], none⟩, ⟨t4, [false], none⟩], fun x => nak_Wants x.1⟩
theorem nak_Wants_good : Good tab.ty Tryz.prog 77 nak_Wants_e := by
  refine fn_good (Γ := nak_Wants_Γ) (fi := nak_Wants_fi) (n := 1) follows (gcons win_First_good gnil) tabok Tryz.func77 (by kernel_rfl) (by kernel_rfl) (fun x r h => ?_)
  obtain ⟨f_0, _u⟩ := x
  exact (nak_Wants_eq f_0).trans h
noncomputable def wait_Now_Γ : Ctx := []
def wait_Now_fi : Fi := { keep := [], vty := [], vals := [], live := [(0, [1, 2, 9, 10, 11, 12]), (1, [4])] }
noncomputable def wait_Now (a_0 : Int × Int) (now_1 : Int) : Option ((Bool × Unit) × Unit) :=
 bif a_0.1 == 0 then
  some ((true, ()), ())
 else
  some ((decide (now_1 ≥ a_0.2), ()), ())
theorem wait_Now_eq (a_0 : Int × Int) (now_1 : Int) : evFn wait_Now_Γ tab wait_Now_fi 1 [.val t29, .val t2] [⟨t4, [false], none⟩] Tryz.f78 (a_0, now_1, ()) = wait_Now a_0 now_1 := by kernel_rfl
noncomputable def wait_Now_e : Ent := ⟨[.val t29, .val t2], [⟨t4, [false], none⟩], fun x => wait_Now x.1 x.2.1⟩
theorem wait_Now_good : Good tab.ty Tryz.prog 78 wait_Now_e := by
  refine fn_good (Γ := wait_Now_Γ) (fi := wait_Now_fi) (n := 1) follows gnil tabok Tryz.func78 (by kernel_rfl) (by kernel_rfl) (fun x r h => ?_)
  obtain ⟨a_0, now_1, _u⟩ := x
  exact (wait_Now_eq a_0 now_1).trans h
noncomputable def wait_Tired_Γ : Ctx := []
def wait_Tired_fi : Fi := { keep := [], vty := [], vals := [], live := [(0, [1]), (1, [2])] }
noncomputable def wait_Tired (a_0 : Int × Int) : Option ((Bool × Unit) × Unit) :=
 some ((decide (a_0.1 ≥ 3), ()), ())
theorem wait_Tired_eq (a_0 : Int × Int) : evFn wait_Tired_Γ tab wait_Tired_fi 1 [.val t29] [⟨t4, [false], none⟩] Tryz.f80 (a_0, ()) = wait_Tired a_0 := by kernel_rfl
noncomputable def wait_Tired_e : Ent := ⟨[.val t29], [⟨t4, [false], none⟩], fun x => wait_Tired x.1⟩
theorem wait_Tired_good : Good tab.ty Tryz.prog 80 wait_Tired_e := by
  refine fn_good (Γ := wait_Tired_Γ) (fi := wait_Tired_fi) (n := 1) follows gnil tabok Tryz.func80 (by kernel_rfl) (by kernel_rfl) (fun x r h => ?_)
  obtain ⟨a_0, _u⟩ := x
  exact (wait_Tired_eq a_0).trans h
noncomputable def nak_twin_Γ : Ctx := [(69, slices_Clone_Item_e), (70, slices_Clone_Event_e)]
def nak_twin_fi : Fi := { keep := [], vty := [], vals := [], live := [(0, [1, 2]), (1, [1, 2]), (2, [2])] }
noncomputable def nak_twin (f_0 : Int × Int × (List (Int × ByteArray)) × (List (Int × ByteArray)) × (List (Int × Int × Int × ByteArray × Int)) × Int × Int) : Option (((Int × Int × (List (Int × ByteArray)) × (List (Int × ByteArray)) × (List (Int × Int × Int × ByteArray × Int)) × Int × Int) × Unit) × Unit) :=
 Option.bind (slices_Clone_Item f_0.2.2.1) fun (r1 : ((List (Int × ByteArray)) × Unit) × Unit) =>
 Option.bind (slices_Clone_Item f_0.2.2.2.1) fun (r2 : ((List (Int × ByteArray)) × Unit) × Unit) =>
 Option.bind (slices_Clone_Event f_0.2.2.2.2.1) fun (r3 : ((List (Int × Int × Int × ByteArray × Int)) × Unit) × Unit) =>
 some (((f_0.1, f_0.2.1, r1.1.1, r2.1.1, r3.1.1, f_0.2.2.2.2.2), ()), ())
theorem nak_twin_eq (f_0 : Int × Int × (List (Int × ByteArray)) × (List (Int × ByteArray)) × (List (Int × Int × Int × ByteArray × Int)) × Int × Int) : evFn nak_twin_Γ tab nak_twin_fi 1 [.val t31] [⟨t31, [false, false, true, true, true, false, false], none⟩] Tryz.f165 (f_0, ()) = nak_twin f_0 := by kernel_rfl
noncomputable def nak_twin_e : Ent := ⟨[.val t31], [⟨t31, [false, false, true, true, true, false, false], none⟩], fun x => nak_twin x.1⟩
theorem nak_twin_good : Good tab.ty Tryz.prog 165 nak_twin_e := by
  refine fn_good (Γ := nak_twin_Γ) (fi := nak_twin_fi) (n := 1) follows (gcons slices_Clone_Item_good (gcons slices_Clone_Event_good gnil)) tabok Tryz.func165 (by kernel_rfl) (by kernel_rfl) (fun x r h => ?_)
  obtain ⟨f_0, _u⟩ := x
  exact (nak_twin_eq f_0).trans h
noncomputable def slices_IndexFunc_Item_Γ : Ctx := []
def slices_IndexFunc_Item_fi : Fi := { keep := [], vty := [(6, 27), (12, 27)], vals := [], live := [(0, [0, 1]), (1, [0, 1, 7, 8]), (2, [0, 1, 7, 8, 9]), (3, [0, 1, 5, 7, 8]), (4, [0, 1, 5, 7, 8, 16]), (5, [4]), (6, [0, 1, 7, 8]), (7, [4])] }
noncomputable def slices_IndexFunc_Item_x (x : PDs [.val t27, .fn [t135] [t4]]) : Option (RDs [⟨t2, [false], none⟩] × ODs [.val t27, .fn [t135] [t4]]) := evFn slices_IndexFunc_Item_Γ tab slices_IndexFunc_Item_fi 1099511627776 [.val t27, .fn [t135] [t4]] [⟨t2, [false], none⟩] Tryz.f238 x
noncomputable def slices_IndexFunc_Item (x0 : List (Int × ByteArray)) (x1 : ((Int × ByteArray) × Unit → Option (Bool × Unit))) : Option ((Int × Unit) × Unit) := slices_IndexFunc_Item_x (x0, x1, ())
noncomputable def slices_IndexFunc_Item_e : Ent := ⟨[.val t27, .fn [t135] [t4]], [⟨t2, [false], none⟩], fun x => slices_IndexFunc_Item x.1 x.2.1⟩
theorem slices_IndexFunc_Item_good : Good tab.ty Tryz.prog 238 slices_IndexFunc_Item_e := by
  refine fn_good (Γ := slices_IndexFunc_Item_Γ) (fi := slices_IndexFunc_Item_fi) (n := 1099511627776) follows gnil tabok Tryz.func238 (by kernel_rfl) (by kernel_rfl) (fun x r h => ?_)
  obtain ⟨x0, x1, _u⟩ := x
  exact h
noncomputable def nak_ahead_fn1_Γ : Ctx := []
def nak_ahead_fn1_fi : Fi := { keep := [], vty := [], vals := [], live := [(0, [1, 2]), (1, [3])] }
noncomputable def nak_ahead_fn1 (i_0 : Int × ByteArray) (x_1 : Int × Int × (List (Int × ByteArray)) × (List (Int × ByteArray)) × (List (Int × Int × Int × ByteArray × Int)) × Int × Int) : Option ((Bool × Unit) × Unit) :=
 some ((decide (i_0.1 ≥ x_1.1), ()), ())
theorem nak_ahead_fn1_eq (i_0 : Int × ByteArray) (x_1 : Int × Int × (List (Int × ByteArray)) × (List (Int × ByteArray)) × (List (Int × Int × Int × ByteArray × Int)) × Int × Int) : evFn nak_ahead_fn1_Γ tab nak_ahead_fn1_fi 1 [.val t135, .rbox t31] [⟨t4, [false], none⟩] Tryz.f239 (i_0, x_1, ()) = nak_ahead_fn1 i_0 x_1 := by kernel_rfl
noncomputable def nak_ahead_fn1_e : Ent := ⟨[.val t135, .rbox t31], [⟨t4, [false], none⟩], fun x => nak_ahead_fn1 x.1 x.2.1⟩
theorem nak_ahead_fn1_good : Good tab.ty Tryz.prog 239 nak_ahead_fn1_e := by
  refine fn_good (Γ := nak_ahead_fn1_Γ) (fi := nak_ahead_fn1_fi) (n := 1) follows gnil tabok Tryz.func239 (by kernel_rfl) (by kernel_rfl) (fun x r h => ?_)
  obtain ⟨i_0, x_1, _u⟩ := x
  exact (nak_ahead_fn1_eq i_0 x_1).trans h
noncomputable def nak_ahead_Γ : Ctx := [(238, slices_IndexFunc_Item_e), (239, nak_ahead_fn1_e)]
def nak_ahead_fi : Fi := { keep := [], vty := [], vals := [], live := [(0, [1, 2, 14, 15, 16, 17, 18, 19, 20, 21]), (1, [1, 2, 6, 14, 15, 16, 17, 18, 19, 20, 21]), (2, [1, 2, 6, 22]), (3, [4, 5]), (4, [4, 5])] }
noncomputable def nak_ahead (f_0 : Int × Int × (List (Int × ByteArray)) × (List (Int × ByteArray)) × (List (Int × Int × Int × ByteArray × Int)) × Int × Int) (hi_1 : Int) : Option ((Int × Bool × Unit) × Unit) :=
 Option.bind (slices_IndexFunc_Item f_0.2.2.2.1 (fun x => (nak_ahead_fn1 x.1 f_0).bind fun r => some (r.1.1, ()))) fun (r1 : (Int × Unit) × Unit) =>
 bif decide (r1.1.1 < 0) then
  some ((hi_1, false, ()), ())
 else
 bif decide (0 ≤ r1.1.1) && decide (r1.1.1 < (f_0.2.2.2.1.length : Int)) then
  bif decide ((List.getD f_0.2.2.2.1 r1.1.1.toNat (0, (⟨#[]⟩ : ByteArray))).1 > hi_1) then
   some ((hi_1, false, ()), ())
  else
  bif decide (0 ≤ r1.1.1) && decide (r1.1.1 < (f_0.2.2.2.1.length : Int)) then
   some ((IntKind.wrap .i64 (((List.getD f_0.2.2.2.1 r1.1.1.toNat (0, (⟨#[]⟩ : ByteArray))).1) - 1), true, ()), ())
  else none
 else none
theorem nak_ahead_eq (f_0 : Int × Int × (List (Int × ByteArray)) × (List (Int × ByteArray)) × (List (Int × Int × Int × ByteArray × Int)) × Int × Int) (hi_1 : Int) : evFn nak_ahead_Γ tab nak_ahead_fi 1 [.val t31, .val t2] [⟨t2, [false], none⟩, ⟨t4, [false], none⟩] Tryz.f166 (f_0, hi_1, ()) = nak_ahead f_0 hi_1 := by kernel_rfl
noncomputable def nak_ahead_e : Ent := ⟨[.val t31, .val t2], [⟨t2, [false], none⟩, ⟨t4, [false], none⟩], fun x => nak_ahead x.1 x.2.1⟩
theorem nak_ahead_good : Good tab.ty Tryz.prog 166 nak_ahead_e := by
  refine fn_good (Γ := nak_ahead_Γ) (fi := nak_ahead_fi) (n := 1) follows (gcons slices_IndexFunc_Item_good (gcons nak_ahead_fn1_good gnil)) tabok Tryz.func166 (by kernel_rfl) (by kernel_rfl) (fun x r h => ?_)
  obtain ⟨f_0, hi_1, _u⟩ := x
  exact (nak_ahead_eq f_0 hi_1).trans h
noncomputable def log_Skip_Γ : Ctx := [(70, slices_Clone_Event_e)]
def log_Skip_fi : Fi := { keep := [], vty := [], vals := [], live := [(0, [0, 1, 2, 3]), (1, [8])] }
noncomputable def log_Skip (l_0 : List (Int × Int × Int × ByteArray × Int)) (lo_1 : Int) (hi_2 : Int) (why_3 : Int) : Option (((List (Int × Int × Int × ByteArray × Int)) × Unit) × Unit) :=
 Option.bind (slices_Clone_Event l_0) fun (r1 : ((List (Int × Int × Int × ByteArray × Int)) × Unit) × Unit) =>
 bif Nat.ble (r1.1.1.length + 1) 1073741824 then
  some ((r1.1.1 ++ [(2, lo_1, hi_2, (⟨#[]⟩ : ByteArray), why_3)], ()), ())
 else none
theorem log_Skip_eq (l_0 : List (Int × Int × Int × ByteArray × Int)) (lo_1 : Int) (hi_2 : Int) (why_3 : Int) : evFn log_Skip_Γ tab log_Skip_fi 1 [.val t28, .val t2, .val t2, .val t2] [⟨t28, [true], none⟩] Tryz.f167 (l_0, lo_1, hi_2, why_3, ()) = log_Skip l_0 lo_1 hi_2 why_3 := by kernel_rfl
noncomputable def log_Skip_e : Ent := ⟨[.val t28, .val t2, .val t2, .val t2], [⟨t28, [true], none⟩], fun x => log_Skip x.1 x.2.1 x.2.2.1 x.2.2.2.1⟩
theorem log_Skip_good : Good tab.ty Tryz.prog 167 log_Skip_e := by
  refine fn_good (Γ := log_Skip_Γ) (fi := log_Skip_fi) (n := 1) follows (gcons slices_Clone_Event_good gnil) tabok Tryz.func167 (by kernel_rfl) (by kernel_rfl) (fun x r h => ?_)
  obtain ⟨l_0, lo_1, hi_2, why_3, _u⟩ := x
  exact (log_Skip_eq l_0 lo_1 hi_2 why_3).trans h
noncomputable def win_Take_Γ : Ctx := [(69, slices_Clone_Item_e), (164, win_First_e)]
def win_Take_fi : Fi := { keep := [], vty := [], vals := [], live := [(0, [0, 1, 5, 14, 15, 16]), (1, [0, 1, 4, 5, 14, 15, 16]), (2, [0, 4, 5, 17]), (3, [4, 5, 6]), (4, [4, 5, 6])] }
noncomputable def win_Take (l_0 : List (Int × ByteArray)) (next_1 : Int) : Option (((List (Int × ByteArray)) × (Int × ByteArray) × Bool × Unit) × Unit) :=
 Option.bind (slices_Clone_Item l_0) fun (r1 : ((List (Int × ByteArray)) × Unit) × Unit) =>
 Option.bind (win_First l_0) fun (r2 : (Int × Unit) × Unit) =>
 bif r2.1.1 != next_1 then
  some ((r1.1.1, (0, (⟨#[]⟩ : ByteArray)), false, ()), ())
 else
 bif (l_0.length : Int) == 0 then
  some ((r1.1.1, (0, (⟨#[]⟩ : ByteArray)), false, ()), ())
 else
 bif decide (1 ≤ (r1.1.1.length : Int)) && decide ((r1.1.1.length : Int) ≤ (r1.1.1.length : Int)) then
  bif decide (0 < (l_0.length : Int)) then
   some ((List.drop 1 (List.take ((r1.1.1.length : Int).toNat) r1.1.1), (List.getD l_0 0 (0, (⟨#[]⟩ : ByteArray))), true, ()), ())
  else none
 else none
theorem win_Take_eq (l_0 : List (Int × ByteArray)) (next_1 : Int) : evFn win_Take_Γ tab win_Take_fi 1 [.val t27, .val t2] [⟨t27, [false], none⟩, ⟨t135, [false, false], none⟩, ⟨t4, [false], none⟩] Tryz.f240 (l_0, next_1, ()) = win_Take l_0 next_1 := by kernel_rfl
noncomputable def win_Take_e : Ent := ⟨[.val t27, .val t2], [⟨t27, [false], none⟩, ⟨t135, [false, false], none⟩, ⟨t4, [false], none⟩], fun x => win_Take x.1 x.2.1⟩
theorem win_Take_good : Good tab.ty Tryz.prog 240 win_Take_e := by
  refine fn_good (Γ := win_Take_Γ) (fi := win_Take_fi) (n := 1) follows (gcons slices_Clone_Item_good (gcons win_First_good gnil)) tabok Tryz.func240 (by kernel_rfl) (by kernel_rfl) (fun x r h => ?_)
  obtain ⟨l_0, next_1, _u⟩ := x
  exact (win_Take_eq l_0 next_1).trans h
noncomputable def wait_Start_Γ : Ctx := []
def wait_Start_fi : Fi := { keep := [], vty := [], vals := [], live := [(0, [0]), (1, [0])] }
noncomputable def wait_Start_x (x : PDs []) : Option (RDs [⟨t29, [false, false], none⟩] × ODs []) := evFn wait_Start_Γ tab wait_Start_fi 1099511627776 [] [⟨t29, [false, false], none⟩] Tryz.f169 x
noncomputable def wait_Start  : Option (((Int × Int) × Unit) × Unit) := wait_Start_x (())
noncomputable def wait_Start_e : Ent := ⟨[], [⟨t29, [false, false], none⟩], fun x => wait_Start⟩
theorem wait_Start_good : Good tab.ty Tryz.prog 169 wait_Start_e := by
  refine fn_good (Γ := wait_Start_Γ) (fi := wait_Start_fi) (n := 1099511627776) follows gnil tabok Tryz.func169 (by kernel_rfl) (by kernel_rfl) (fun x r h => ?_)
  exact h
noncomputable def nak_tells_Γ : Ctx := [(157, log_Tell_e), (158, ring_Add_e), (169, wait_Start_e), (240, win_Take_e)]
def nak_tells_fi : Fi := { keep := [], vty := [(3, 27), (4, 27), (5, 27), (19, 27), (38, 27), (42, 27), (48, 27)], vals := [], live := [(0, [1, 2]), (1, [1, 2, 4]), (2, [1, 2, 4, 5, 6, 7]), (3, [1, 2, 4, 5, 6, 18]), (4, [1, 2, 4, 6]), (5, [1, 2, 4, 6]), (6, [1, 2, 4]), (7, [1, 2, 4, 44]), (8, [1, 2, 4]), (9, [2, 3])] }
noncomputable def nak_tells_x (x : PDs [.val t31]) : Option (RDs [⟨t31, [false, false, false, false, false, false, false], none⟩, ⟨t27, [true], none⟩] × ODs [.val t31]) := evFn nak_tells_Γ tab nak_tells_fi 1099511627776 [.val t31] [⟨t31, [false, false, false, false, false, false, false], none⟩, ⟨t27, [true], none⟩] Tryz.f168 x
noncomputable def nak_tells (x0 : Int × Int × (List (Int × ByteArray)) × (List (Int × ByteArray)) × (List (Int × Int × Int × ByteArray × Int)) × Int × Int) : Option (((Int × Int × (List (Int × ByteArray)) × (List (Int × ByteArray)) × (List (Int × Int × Int × ByteArray × Int)) × Int × Int) × (List (Int × ByteArray)) × Unit) × Unit) := nak_tells_x (x0, ())
noncomputable def nak_tells_e : Ent := ⟨[.val t31], [⟨t31, [false, false, false, false, false, false, false], none⟩, ⟨t27, [true], none⟩], fun x => nak_tells x.1⟩
theorem nak_tells_good : Good tab.ty Tryz.prog 168 nak_tells_e := by
  refine fn_good (Γ := nak_tells_Γ) (fi := nak_tells_fi) (n := 1099511627776) follows (gcons log_Tell_good (gcons ring_Add_good (gcons wait_Start_good (gcons win_Take_good gnil)))) tabok Tryz.func168 (by kernel_rfl) (by kernel_rfl) (fun x r h => ?_)
  obtain ⟨x0, _u⟩ := x
  exact h
noncomputable def nak_Skips_Γ : Ctx := [(165, nak_twin_e), (166, nak_ahead_e), (167, log_Skip_e), (168, nak_tells_e), (169, wait_Start_e)]
def nak_Skips_fi : Fi := { keep := [], vty := [(7, 152), (8, 152), (13, 27), (48, 152), (66, 27), (76, 152)], vals := [], live := [(0, [1, 2, 3, 6, 20, 21]), (1, [1, 2, 3, 6, 20, 21]), (2, [1, 2, 3, 6, 22]), (3, [6, 7]), (4, [1, 2, 3, 6, 8]), (5, [1, 2, 3, 6, 8, 9]), (6, [1, 2, 3, 6, 8, 9, 29]), (7, [1, 2, 3, 6, 8, 9, 10, 11]), (8, [1, 2, 3, 6, 8, 9, 10, 11, 39]), (9, [1, 2, 3, 6, 8, 9, 10, 11]), (10, [1, 2, 3, 6, 8, 9, 10, 11]), (11, [1, 2, 3, 6, 8, 9, 11]), (12, [1, 2, 3, 6, 8, 9, 59]), (13, [1, 2, 3, 6, 8, 9, 12, 13]), (14, [1, 2, 3, 6, 8, 9, 13]), (15, [1, 2, 3, 6, 8, 9, 68]), (16, [3, 6, 8, 72]), (17, [3, 6, 8]), (18, [6, 7])] }
noncomputable def nak_Skips_x (x : PDs [.val t31, .val t2, .val t2]) : Option (RDs [⟨t31, [false, false, false, false, false, false, false], none⟩, ⟨t152, [true], none⟩] × ODs [.val t31, .val t2, .val t2]) := evFn nak_Skips_Γ tab nak_Skips_fi 1099511627776 [.val t31, .val t2, .val t2] [⟨t31, [false, false, false, false, false, false, false], none⟩, ⟨t152, [true], none⟩] Tryz.f81 x
noncomputable def nak_Skips (x0 : Int × Int × (List (Int × ByteArray)) × (List (Int × ByteArray)) × (List (Int × Int × Int × ByteArray × Int)) × Int × Int) (x1 : Int) (x2 : Int) : Option (((Int × Int × (List (Int × ByteArray)) × (List (Int × ByteArray)) × (List (Int × Int × Int × ByteArray × Int)) × Int × Int) × (List (Int × Int)) × Unit) × Unit) := nak_Skips_x (x0, x1, x2, ())
noncomputable def nak_Skips_e : Ent := ⟨[.val t31, .val t2, .val t2], [⟨t31, [false, false, false, false, false, false, false], none⟩, ⟨t152, [true], none⟩], fun x => nak_Skips x.1 x.2.1 x.2.2.1⟩
theorem nak_Skips_good : Good tab.ty Tryz.prog 81 nak_Skips_e := by
  refine fn_good (Γ := nak_Skips_Γ) (fi := nak_Skips_fi) (n := 1099511627776) follows (gcons nak_twin_good (gcons nak_ahead_good (gcons log_Skip_good (gcons nak_tells_good (gcons wait_Start_good gnil))))) tabok Tryz.func81 (by kernel_rfl) (by kernel_rfl) (fun x r h => ?_)
  obtain ⟨x0, x1, x2, _u⟩ := x
  exact h
noncomputable def nak_Goes_Γ : Ctx := [(165, nak_twin_e), (168, nak_tells_e)]
def nak_Goes_fi : Fi := { keep := [], vty := [], vals := [], live := [(0, [1, 2]), (1, [2, 3])] }
noncomputable def nak_Goes (f_0 : Int × Int × (List (Int × ByteArray)) × (List (Int × ByteArray)) × (List (Int × Int × Int × ByteArray × Int)) × Int × Int) : Option (((Int × Int × (List (Int × ByteArray)) × (List (Int × ByteArray)) × (List (Int × Int × Int × ByteArray × Int)) × Int × Int) × (List (Int × ByteArray)) × Unit) × Unit) :=
 Option.bind (nak_twin f_0) fun (r1 : ((Int × Int × (List (Int × ByteArray)) × (List (Int × ByteArray)) × (List (Int × Int × Int × ByteArray × Int)) × Int × Int) × Unit) × Unit) =>
 Option.bind (nak_tells r1.1.1) fun (r2 : ((Int × Int × (List (Int × ByteArray)) × (List (Int × ByteArray)) × (List (Int × Int × Int × ByteArray × Int)) × Int × Int) × (List (Int × ByteArray)) × Unit) × Unit) =>
 some ((r2.1.1, r2.1.2.1, ()), ())
theorem nak_Goes_eq (f_0 : Int × Int × (List (Int × ByteArray)) × (List (Int × ByteArray)) × (List (Int × Int × Int × ByteArray × Int)) × Int × Int) : evFn nak_Goes_Γ tab nak_Goes_fi 1 [.val t31] [⟨t31, [false, false, false, false, false, false, false], none⟩, ⟨t27, [true], none⟩] Tryz.f82 (f_0, ()) = nak_Goes f_0 := by kernel_rfl
noncomputable def nak_Goes_e : Ent := ⟨[.val t31], [⟨t31, [false, false, false, false, false, false, false], none⟩, ⟨t27, [true], none⟩], fun x => nak_Goes x.1⟩
theorem nak_Goes_good : Good tab.ty Tryz.prog 82 nak_Goes_e := by
  refine fn_good (Γ := nak_Goes_Γ) (fi := nak_Goes_fi) (n := 1) follows (gcons nak_twin_good (gcons nak_tells_good gnil)) tabok Tryz.func82 (by kernel_rfl) (by kernel_rfl) (fun x r h => ?_)
  obtain ⟨f_0, _u⟩ := x
  exact (nak_Goes_eq f_0).trans h
noncomputable def wait_Tried_Γ : Ctx := []
def wait_Tried_fi : Fi := { keep := [], vty := [], vals := [], live := [(0, [1, 2, 4]), (1, [4])] }
noncomputable def wait_Tried (a_0 : Int × Int) (now_1 : Int) : Option (((Int × Int) × Unit) × Unit) :=
 bif decide (0 ≤ (if 0 > (if 3 < a_0.1 then 3 else a_0.1) then 0 else if 3 < a_0.1 then 3 else a_0.1)) then
  some (((IntKind.wrap .i64 (a_0.1 + 1), IntKind.wrap .i64 (now_1 + (IntKind.wrap .i64 (2 * 2 ^ (min ((if 0 > (if 3 < a_0.1 then 3 else a_0.1) then 0 else if 3 < a_0.1 then 3 else a_0.1).toNat) 64))))), ()), ())
 else none
theorem wait_Tried_eq (a_0 : Int × Int) (now_1 : Int) : evFn wait_Tried_Γ tab wait_Tried_fi 1 [.val t29, .val t2] [⟨t29, [false, false], none⟩] Tryz.f83 (a_0, now_1, ()) = wait_Tried a_0 now_1 := by kernel_rfl
noncomputable def wait_Tried_e : Ent := ⟨[.val t29, .val t2], [⟨t29, [false, false], none⟩], fun x => wait_Tried x.1 x.2.1⟩
theorem wait_Tried_good : Good tab.ty Tryz.prog 83 wait_Tried_e := by
  refine fn_good (Γ := wait_Tried_Γ) (fi := wait_Tried_fi) (n := 1) follows gnil tabok Tryz.func83 (by kernel_rfl) (by kernel_rfl) (fun x r h => ?_)
  obtain ⟨a_0, now_1, _u⟩ := x
  exact (wait_Tried_eq a_0 now_1).trans h
noncomputable def feed_Tick_Γ : Ctx := [(77, nak_Wants_e), (78, wait_Now_e), (79, feed_twin_e), (80, wait_Tired_e), (81, nak_Skips_e), (82, nak_Goes_e), (83, wait_Tried_e)]
def feed_Tick_fi : Fi := { keep := [], vty := [], vals := [], live := [(0, [1, 2, 4, 5, 18, 19, 20, 21, 22]), (1, [1, 2, 4, 5, 7, 8, 18, 19, 20, 21, 22]), (2, [1, 2, 4, 5, 7, 14]), (3, [4, 5, 6]), (4, [1, 2, 4, 5, 7, 27]), (5, [2, 4, 5]), (6, [2, 4, 5]), (7, [4, 5, 6]), (8, [1, 2, 4, 5, 7]), (9, [2, 4, 5, 7]), (10, [4, 5, 6])] }
noncomputable def feed_Tick (f_0 : Int × Int × (List (Int × ByteArray)) × (List (Int × ByteArray)) × (List (Int × Int × Int × ByteArray × Int)) × Int × Int) (now_1 : Int) : Option (((Int × Int × (List (Int × ByteArray)) × (List (Int × ByteArray)) × (List (Int × Int × Int × ByteArray × Int)) × Int × Int) × (Int × Int) × Bool × Unit) × Unit) :=
 Option.bind (nak_Wants f_0) fun (r1 : ((Int × Int) × Bool × Unit) × Unit) =>
 bif !r1.1.2.1 then
  Option.bind (feed_twin f_0) fun (r2 : ((Int × Int × (List (Int × ByteArray)) × (List (Int × ByteArray)) × (List (Int × Int × Int × ByteArray × Int)) × Int × Int) × Unit) × Unit) =>
  some ((r2.1.1, (0, 0), false, ()), ())
 else
  Option.bind (wait_Now f_0.2.2.2.2.2 now_1) fun (r3 : (Bool × Unit) × Unit) =>
  bif !r3.1.1 then
   Option.bind (feed_twin f_0) fun (r4 : ((Int × Int × (List (Int × ByteArray)) × (List (Int × ByteArray)) × (List (Int × Int × Int × ByteArray × Int)) × Int × Int) × Unit) × Unit) =>
   some ((r4.1.1, (0, 0), false, ()), ())
  else
   Option.bind (wait_Tired f_0.2.2.2.2.2) fun (r5 : (Bool × Unit) × Unit) =>
   bif r5.1.1 then
    Option.bind (nak_Skips f_0 r1.1.1.2 2) fun (r6 : ((Int × Int × (List (Int × ByteArray)) × (List (Int × ByteArray)) × (List (Int × Int × Int × ByteArray × Int)) × Int × Int) × (List (Int × Int)) × Unit) × Unit) =>
    Option.bind (nak_Goes r6.1.1) fun (r7 : ((Int × Int × (List (Int × ByteArray)) × (List (Int × ByteArray)) × (List (Int × Int × Int × ByteArray × Int)) × Int × Int) × (List (Int × ByteArray)) × Unit) × Unit) =>
    some ((r7.1.1, (0, 0), false, ()), ())
   else
    Option.bind (feed_twin f_0) fun (r8 : ((Int × Int × (List (Int × ByteArray)) × (List (Int × ByteArray)) × (List (Int × Int × Int × ByteArray × Int)) × Int × Int) × Unit) × Unit) =>
    Option.bind (wait_Tried r8.1.1.2.2.2.2.2 now_1) fun (r9 : ((Int × Int) × Unit) × Unit) =>
    some (((r8.1.1.1, r8.1.1.2.1, r8.1.1.2.2.1, r8.1.1.2.2.2.1, r8.1.1.2.2.2.2.1, r9.1.1), r1.1.1, true, ()), ())
theorem feed_Tick_eq (f_0 : Int × Int × (List (Int × ByteArray)) × (List (Int × ByteArray)) × (List (Int × Int × Int × ByteArray × Int)) × Int × Int) (now_1 : Int) : evFn feed_Tick_Γ tab feed_Tick_fi 1 [.val t31, .val t2] [⟨t31, [false, false, false, false, false, false, false], none⟩, ⟨t29, [false, false], none⟩, ⟨t4, [false], none⟩] Tryz.f31 (f_0, now_1, ()) = feed_Tick f_0 now_1 := by kernel_rfl
noncomputable def feed_Tick_e : Ent := ⟨[.val t31, .val t2], [⟨t31, [false, false, false, false, false, false, false], none⟩, ⟨t29, [false, false], none⟩, ⟨t4, [false], none⟩], fun x => feed_Tick x.1 x.2.1⟩
theorem feed_Tick_good : Good tab.ty Tryz.prog 31 feed_Tick_e := by
  refine fn_good (Γ := feed_Tick_Γ) (fi := feed_Tick_fi) (n := 1) follows (gcons nak_Wants_good (gcons wait_Now_good (gcons feed_twin_good (gcons wait_Tired_good (gcons nak_Skips_good (gcons nak_Goes_good (gcons wait_Tried_good gnil))))))) tabok Tryz.func31 (by kernel_rfl) (by kernel_rfl) (fun x r h => ?_)
  obtain ⟨f_0, now_1, _u⟩ := x
  exact (feed_Tick_eq f_0 now_1).trans h
noncomputable def node_Tick_Γ : Ctx := [(28, node_twin_e), (30, tie_Tick_e), (31, feed_Tick_e), (32, node_tells_e), (33, node_down_e)]
def node_Tick_fi : Fi := { keep := [], vty := [(3, 37), (6, 37), (26, 37), (36, 37), (51, 37), (65, 37), (78, 37)], vals := [], live := [(0, [1, 2]), (1, [1, 2, 4]), (2, [1, 2, 4, 16]), (3, [2, 3]), (4, [1, 2, 4, 5, 6]), (5, [1, 2, 4, 6]), (6, [1, 2, 4, 6, 26, 27, 28]), (7, [1, 2, 4, 6, 26, 27, 28, 29]), (8, [1, 2, 4, 6, 7, 8, 26, 27, 28]), (9, [1, 2, 4, 6, 7, 26, 27, 28, 35]), (10, [1, 2, 4, 6, 26, 27, 28]), (11, [1, 2, 4, 6, 26, 27, 28]), (12, [1, 2, 4, 6, 49]), (13, [2, 3]), (14, [1, 2, 4, 6, 9, 10, 11]), (15, [1, 2, 4, 6, 10, 11]), (16, [1, 2, 4, 6, 10, 64]), (17, [1, 2, 4, 6]), (18, [2, 3])] }
noncomputable def node_Tick_x (x : PDs [.val t33]) : Option (RDs [⟨t33, [false, false, false, false, false, false, false, false, false, false, false, false, false, false, false, false, false, false, false, false, false, false, false, false], none⟩, ⟨t37, [true], none⟩] × ODs [.val t33]) := evFn node_Tick_Γ tab node_Tick_fi 1099511627776 [.val t33] [⟨t33, [false, false, false, false, false, false, false, false, false, false, false, false, false, false, false, false, false, false, false, false, false, false, false, false], none⟩, ⟨t37, [true], none⟩] Tryz.f8 x
noncomputable def node_Tick (x0 : Bool × Int × ByteArray × (Int × Int × Int × Int × Int × Int × (List Int) × Int × Int × Int × Int × Int × List (Int × Int × Int)) × (Int × Int × (List (Int × ByteArray)) × (List (Int × ByteArray)) × (List (Int × Int × Int × ByteArray × Int)) × Int × Int) × Int) : Option (((Bool × Int × ByteArray × (Int × Int × Int × Int × Int × Int × (List Int) × Int × Int × Int × Int × Int × List (Int × Int × Int)) × (Int × Int × (List (Int × ByteArray)) × (List (Int × ByteArray)) × (List (Int × Int × Int × ByteArray × Int)) × Int × Int) × Int) × (List (Int × Int × Int × Int × Int × Int × (List Int) × Int × Int × ByteArray)) × Unit) × Unit) := node_Tick_x (x0, ())
noncomputable def node_Tick_e : Ent := ⟨[.val t33], [⟨t33, [false, false, false, false, false, false, false, false, false, false, false, false, false, false, false, false, false, false, false, false, false, false, false, false], none⟩, ⟨t37, [true], none⟩], fun x => node_Tick x.1⟩
theorem node_Tick_good : Good tab.ty Tryz.prog 8 node_Tick_e := by
  refine fn_good (Γ := node_Tick_Γ) (fi := node_Tick_fi) (n := 1099511627776) follows (gcons node_twin_good (gcons tie_Tick_good (gcons feed_Tick_good (gcons node_tells_good (gcons node_down_good gnil))))) tabok Tryz.func8 (by kernel_rfl) (by kernel_rfl) (fun x r h => ?_)
  obtain ⟨x0, _u⟩ := x
  exact h
noncomputable def world_machine_ticks_Γ : Ctx := [(8, node_Tick_e), (207, world_machine_sends_e)]
def world_machine_ticks_fi : Fi := { keep := [], vty := [(8, 37), (36, 37)], vals := [], live := [(0, [0, 1]), (1, [0, 5, 6]), (2, [0, 5, 6, 16]), (3, [0, 4]), (4, [0, 5, 22]), (5, [0, 4]), (6, [0, 5, 7, 8]), (7, [0, 8]), (8, [0]), (9, [0, 4])] }
noncomputable def world_machine_ticks_x (x : PDs [.box 108 t107 [true, false, true, false, false, false], .val t2]) : Option (RDs [⟨t20, [false], none⟩] × ODs [.box 108 t107 [true, false, true, false, false, false], .val t2]) := evFn world_machine_ticks_Γ tab world_machine_ticks_fi 1099511627776 [.box 108 t107 [true, false, true, false, false, false], .val t2] [⟨t20, [false], none⟩] Tryz.f136 x
noncomputable def world_machine_ticks (x0 : ((List (Bool × Int × ByteArray × (Int × Int × Int × Int × Int × Int × (List Int) × Int × Int × Int × Int × Int × List (Int × Int × Int)) × (Int × Int × (List (Int × ByteArray)) × (List (Int × ByteArray)) × (List (Int × Int × Int × ByteArray × Int)) × Int × Int) × Int)) × (List (Int × ByteArray × Bool)) × (List ByteArray) × Int × (List (List Int)) × List (List ((List Int) × Int))) × Unit) (x1 : Int) : Option ((IV × Unit) × ((((List (Bool × Int × ByteArray × (Int × Int × Int × Int × Int × Int × (List Int) × Int × Int × Int × Int × Int × List (Int × Int × Int)) × (Int × Int × (List (Int × ByteArray)) × (List (Int × ByteArray)) × (List (Int × Int × Int × ByteArray × Int)) × Int × Int) × Int)) × (List (Int × ByteArray × Bool)) × (List ByteArray) × Int × (List (List Int)) × List (List ((List Int) × Int))) × Unit) × Unit)) := world_machine_ticks_x (x0, x1, ())
noncomputable def world_machine_ticks_e : Ent := ⟨[.box 108 t107 [true, false, true, false, false, false], .val t2], [⟨t20, [false], none⟩], fun x => world_machine_ticks x.1 x.2.1⟩
theorem world_machine_ticks_good : Good tab.ty Tryz.prog 136 world_machine_ticks_e := by
  refine fn_good (Γ := world_machine_ticks_Γ) (fi := world_machine_ticks_fi) (n := 1099511627776) follows (gcons node_Tick_good (gcons world_machine_sends_good gnil)) tabok Tryz.func136 (by kernel_rfl) (by kernel_rfl) (fun x r h => ?_)
  obtain ⟨x0, x1, _u⟩ := x
  exact h
noncomputable def net_there_Γ : Ctx := []
def net_there_fi : Fi := { keep := [], vty := [], vals := [], live := [(0, [0, 1, 8, 9, 10, 11]), (1, [4])] }
noncomputable def net_there (l_0 : List (Int × ByteArray × Bool)) (i_1 : Int) : Option ((Bool × Unit) × Unit) :=
 bif decide (i_1 ≥ 0) then
  some ((decide (i_1 < (l_0.length : Int)), ()), ())
 else
  some ((false, ()), ())
theorem net_there_eq (l_0 : List (Int × ByteArray × Bool)) (i_1 : Int) : evFn net_there_Γ tab net_there_fi 1 [.val t47, .val t2] [⟨t4, [false], none⟩] Tryz.f273 (l_0, i_1, ()) = net_there l_0 i_1 := by kernel_rfl
noncomputable def net_there_e : Ent := ⟨[.val t47, .val t2], [⟨t4, [false], none⟩], fun x => net_there x.1 x.2.1⟩
theorem net_there_good : Good tab.ty Tryz.prog 273 net_there_e := by
  refine fn_good (Γ := net_there_Γ) (fi := net_there_fi) (n := 1) follows gnil tabok Tryz.func273 (by kernel_rfl) (by kernel_rfl) (fun x r h => ?_)
  obtain ⟨l_0, i_1, _u⟩ := x
  exact (net_there_eq l_0 i_1).trans h
noncomputable def slices_Delete_Gram_Γ : Ctx := [(274, markE)]
def slices_Delete_Gram_fi : Fi := { keep := [], vty := [], vals := [], live := [(0, [0, 1, 2]), (1, [0, 1, 2]), (2, [0, 1, 2, 16]), (3, [6]), (4, [0, 1, 2, 7]), (5, [0, 7]), (6, [0]), (7, [6])], melt := [(6, 1000000)] }
noncomputable def slices_Delete_Gram_c (c : Nat) (s_0 : List (Int × ByteArray × Bool)) (i_1 : Int) (j_2 : Int) : Option (((List (Int × ByteArray × Bool)) × Unit) × Unit) :=
 bif ((decide (0 ≤ i_1) && decide (i_1 ≤ j_2)) && decide (j_2 ≤ ((s_0.length : Nat) : Int))) && decide (((s_0.length : Nat) : Int) ≤ ((((List.map some s_0 ++ List.replicate c none).length) - 0 : Nat) : Int)) then
  bif i_1 == j_2 then
   bif Nat.ble s_0.length ((List.map some s_0 ++ List.replicate c none).length) then
    Option.bind (allSome (List.take s_0.length (List.map some s_0 ++ List.replicate c none))) fun (z1 : List (Int × ByteArray × Bool)) =>
    some ((z1, ()), ())
   else none
  else
  bif decide (0 ≤ i_1) && decide (i_1 ≤ ((((List.map some s_0 ++ List.replicate c none).length) - 0 : Nat) : Int)) then
   bif (decide (0 ≤ j_2) && decide (j_2 ≤ ((s_0.length : Nat) : Int))) && decide (((s_0.length : Nat) : Int) ≤ ((((List.map some s_0 ++ List.replicate c none).length) - 0 : Nat) : Int)) then
    bif Nat.ble (0 + ((i_1 - 0).toNat)) ((List.map some s_0 ++ List.replicate c none).length) then
     bif Nat.ble ((0 + j_2.toNat) + ((((s_0.length : Nat) : Int) - j_2).toNat)) ((List.map some s_0 ++ List.replicate c none).length) then
      Option.bind (allSome (List.take ((((s_0.length : Nat) : Int) - j_2).toNat) (List.drop (0 + j_2.toNat) (List.map some s_0 ++ List.replicate c none)))) fun (z2 : List (Int × ByteArray × Bool)) =>
      bif Nat.ble (((i_1 - 0).toNat) + z2.length) ((List.map some s_0 ++ List.replicate c none).length) then
       bif (decide (0 ≤ ((((i_1 - 0).toNat) + z2.length : Nat) : Int)) && decide (((((i_1 - 0).toNat) + z2.length : Nat) : Int) ≤ ((s_0.length : Nat) : Int))) && decide (((s_0.length : Nat) : Int) ≤ ((((writeAt (List.map some s_0 ++ List.replicate c none) ((i_1 - 0).toNat) z2).length) - 0 : Nat) : Int)) then
        bif Nat.ble ((0 + (((((i_1 - 0).toNat) + z2.length : Nat) : Int).toNat)) + ((((s_0.length : Nat) : Int) - ((((i_1 - 0).toNat) + z2.length : Nat) : Int)).toNat)) ((writeAt (List.map some s_0 ++ List.replicate c none) ((i_1 - 0).toNat) z2).length) then
         bif Nat.ble (((i_1 - 0).toNat) + z2.length) ((writeAt (writeAt (List.map some s_0 ++ List.replicate c none) ((i_1 - 0).toNat) z2) (0 + (((((i_1 - 0).toNat) + z2.length : Nat) : Int).toNat)) (List.replicate ((((s_0.length : Nat) : Int) - ((((i_1 - 0).toNat) + z2.length : Nat) : Int)).toNat) ((0, (⟨#[]⟩ : ByteArray), false) : Int × ByteArray × Bool))).length) then
          Option.bind (allSome (List.take (((i_1 - 0).toNat) + z2.length) (writeAt (writeAt (List.map some s_0 ++ List.replicate c none) ((i_1 - 0).toNat) z2) (0 + (((((i_1 - 0).toNat) + z2.length : Nat) : Int).toNat)) (List.replicate ((((s_0.length : Nat) : Int) - ((((i_1 - 0).toNat) + z2.length : Nat) : Int)).toNat) ((0, (⟨#[]⟩ : ByteArray), false) : Int × ByteArray × Bool))))) fun (z3 : List (Int × ByteArray × Bool)) =>
          some ((z3, ()), ())
         else none
        else none
       else none
      else
      bif Nat.ble (((i_1 - 0).toNat) + z2.length) 1073741824 then
       Option.bind (allSome (List.take ((i_1 - 0).toNat) (List.map some s_0 ++ List.replicate c none))) fun (z4 : List (Int × ByteArray × Bool)) =>
       bif (decide (0 ≤ (((z4 ++ z2).length : Nat) : Int)) && decide ((((z4 ++ z2).length : Nat) : Int) ≤ ((s_0.length : Nat) : Int))) && decide (((s_0.length : Nat) : Int) ≤ (((List.map some (z4 ++ z2)).length : Nat) : Int)) then
        bif Nat.ble ((0 + ((((z4 ++ z2).length : Nat) : Int).toNat)) + ((((s_0.length : Nat) : Int) - (((z4 ++ z2).length : Nat) : Int)).toNat)) ((List.map some (z4 ++ z2)).length) then
         none
        else none
       else none
      else none
     else none
    else none
   else none
  else none
 else none
theorem slices_Delete_Gram_c_eq (c : Nat) (s_0 : List (Int × ByteArray × Bool)) (i_1 : Int) (j_2 : Int) : evFn slices_Delete_Gram_Γ tab { slices_Delete_Gram_fi with cap := c } 1 [.ownc 118 t117, .val t2, .val t2] [⟨t47, [true], none⟩] Tryz.f274 (s_0, i_1, j_2, ()) = slices_Delete_Gram_c c s_0 i_1 j_2 := by kernel_rfl
theorem slices_Delete_Gram_c_is (c : Nat) (s_0 : List (Int × ByteArray × Bool)) (i_1 : Int) (j_2 : Int) : slices_Delete_Gram_c c s_0 i_1 j_2 = deleteC ((0, (⟨#[]⟩ : ByteArray), false) : Int × ByteArray × Bool) c s_0 i_1 j_2 := by kernel_rfl
noncomputable def slices_Delete_Gram (s_0 : List (Int × ByteArray × Bool)) (i_1 : Int) (j_2 : Int) : Option (((List (Int × ByteArray × Bool)) × Unit) × Unit) := deleteR s_0 i_1 j_2
noncomputable def slices_Delete_Gram_e : Ent := ⟨[.ownc 118 t117, .val t2, .val t2], [⟨t47, [true], none⟩], fun x => slices_Delete_Gram x.1 x.2.1 x.2.2.1⟩
theorem slices_Delete_Gram_good : Good tab.ty Tryz.prog 274 slices_Delete_Gram_e := by
  refine fn_goodC (Γ := slices_Delete_Gram_Γ) (fi := slices_Delete_Gram_fi) (n := 1) follows (gcons (gmark Tryz.func274 (by kernel_rfl) (by kernel_rfl)) gnil) tabok Tryz.func274 (by kernel_rfl) (by kernel_rfl) (fun c x r hc h => ?_)
  obtain ⟨s_0, i_1, j_2, _u⟩ := x
  exact (slices_Delete_Gram_c_eq c s_0 i_1 j_2).trans ((slices_Delete_Gram_c_is c s_0 i_1 j_2).trans (delete_law ((0, (⟨#[]⟩ : ByteArray), false) : Int × ByteArray × Bool) c s_0 i_1 j_2 r hc h))
noncomputable def net_Comes_Γ : Ctx := [(126, slices_Clone_Gram_e), (273, net_there_e), (274, slices_Delete_Gram_e)]
def net_Comes_fi : Fi := { keep := [], vty := [], vals := [], live := [(0, [0, 1, 5]), (1, [0, 1, 5]), (2, [0, 1, 5, 13]), (3, [4, 5, 6]), (4, [0, 1, 5, 7]), (5, [4, 5, 6])] }
noncomputable def net_Comes (l_0 : List (Int × ByteArray × Bool)) (i_1 : Int) : Option (((List (Int × ByteArray × Bool)) × (Int × ByteArray × Bool) × Bool × Unit) × Unit) :=
 Option.bind (slices_Clone_Gram l_0) fun (r1 : ((List (Int × ByteArray × Bool)) × Unit) × Unit) =>
 Option.bind (net_there r1.1.1 i_1) fun (r2 : (Bool × Unit) × Unit) =>
 bif !r2.1.1 then
  some ((r1.1.1, (0, (⟨#[]⟩ : ByteArray), false), false, ()), ())
 else
 bif decide (0 ≤ i_1) && decide (i_1 < (r1.1.1.length : Int)) then
  bif decide (0 ≤ i_1) && decide (i_1 < (r1.1.1.length : Int)) then
   Option.bind (slices_Delete_Gram r1.1.1 i_1 (IntKind.wrap .i64 (i_1 + 1))) fun (r3 : ((List (Int × ByteArray × Bool)) × Unit) × Unit) =>
   some ((r3.1.1, ((List.getD r1.1.1 i_1.toNat (0, (⟨#[]⟩ : ByteArray), false)).1, ((List.getD r1.1.1 i_1.toNat (0, (⟨#[]⟩ : ByteArray), false)).2)), true, ()), ())
  else none
 else none
theorem net_Comes_eq (l_0 : List (Int × ByteArray × Bool)) (i_1 : Int) : evFn net_Comes_Γ tab net_Comes_fi 1 [.val t47, .val t2] [⟨t47, [true], none⟩, ⟨t117, [false, false, false], none⟩, ⟨t4, [false], none⟩] Tryz.f208 (l_0, i_1, ()) = net_Comes l_0 i_1 := by kernel_rfl
noncomputable def net_Comes_e : Ent := ⟨[.val t47, .val t2], [⟨t47, [true], none⟩, ⟨t117, [false, false, false], none⟩, ⟨t4, [false], none⟩], fun x => net_Comes x.1 x.2.1⟩
theorem net_Comes_good : Good tab.ty Tryz.prog 208 net_Comes_e := by
  refine fn_good (Γ := net_Comes_Γ) (fi := net_Comes_fi) (n := 1) follows (gcons slices_Clone_Gram_good (gcons net_there_good (gcons slices_Delete_Gram_good gnil))) tabok Tryz.func208 (by kernel_rfl) (by kernel_rfl) (fun x r h => ?_)
  obtain ⟨l_0, i_1, _u⟩ := x
  exact (net_Comes_eq l_0 i_1).trans h
noncomputable def bits_take_Γ : Ctx := []
def bits_take_fi : Fi := { keep := [], vty := [(7, 43), (14, 43)], vals := [], live := [(0, [0, 2, 3, 11, 12, 33, 34, 37, 38]), (1, [0, 2, 3, 11, 12, 13, 33, 34, 37, 38]), (2, [0, 2, 3, 5, 11, 12, 33, 34, 37, 38]), (3, [0, 2, 3, 5, 11, 12, 33, 34, 37, 38]), (4, [0, 2, 3, 5, 11, 12, 33, 34, 37, 38]), (5, [0, 2, 3, 5, 11, 12, 29, 33, 34, 37, 38]), (6, [2, 3, 39]), (7, [2, 3, 4]), (8, [2, 3, 4])] }
noncomputable def bits_take_x (x : PDs [.val t43]) : Option (RDs [⟨t2, [false], none⟩, ⟨t2, [false], none⟩, ⟨t20, [false], none⟩] × ODs [.val t43]) := evFn bits_take_Γ tab bits_take_fi 1099511627776 [.val t43] [⟨t2, [false], none⟩, ⟨t2, [false], none⟩, ⟨t20, [false], none⟩] Tryz.f300 x
noncomputable def bits_take (x0 : List Int) : Option ((Int × Int × IV × Unit) × Unit) := bits_take_x (x0, ())
noncomputable def bits_take_e : Ent := ⟨[.val t43], [⟨t2, [false], none⟩, ⟨t2, [false], none⟩, ⟨t20, [false], none⟩], fun x => bits_take x.1⟩
theorem bits_take_good : Good tab.ty Tryz.prog 300 bits_take_e := by
  refine fn_good (Γ := bits_take_Γ) (fi := bits_take_fi) (n := 1099511627776) follows gnil tabok Tryz.func300 (by kernel_rfl) (by kernel_rfl) (fun x r h => ?_)
  obtain ⟨x0, _u⟩ := x
  exact h
noncomputable def bits_Take_Γ : Ctx := [(300, bits_take_e)]
def bits_Take_fi : Fi := { keep := [], vty := [], vals := [], live := [(0, [0]), (1, [2, 3, 5]), (2, [2, 3, 7]), (3, [2, 3, 4])] }
noncomputable def bits_Take (b_0 : List Int) : Option ((Int × Int × Bool × Unit) × Unit) :=
 Option.bind (bits_take b_0) fun (r1 : (Int × Int × IV × Unit) × Unit) =>
 some ((r1.1.1, r1.1.2.1, !(IV.is r1.1.2.2.1 309), ()), ())
theorem bits_Take_eq (b_0 : List Int) : evFn bits_Take_Γ tab bits_Take_fi 1 [.val t43] [⟨t2, [false], none⟩, ⟨t2, [false], none⟩, ⟨t4, [false], none⟩] Tryz.f241 (b_0, ()) = bits_Take b_0 := by kernel_rfl
noncomputable def bits_Take_e : Ent := ⟨[.val t43], [⟨t2, [false], none⟩, ⟨t2, [false], none⟩, ⟨t4, [false], none⟩], fun x => bits_Take x.1⟩
theorem bits_Take_good : Good tab.ty Tryz.prog 241 bits_Take_e := by
  refine fn_good (Γ := bits_Take_Γ) (fi := bits_Take_fi) (n := 1) follows (gcons bits_take_good gnil) tabok Tryz.func241 (by kernel_rfl) (by kernel_rfl) (fun x r h => ?_)
  obtain ⟨b_0, _u⟩ := x
  exact (bits_Take_eq b_0).trans h
noncomputable def msg_reader_num_Γ : Ctx := [(241, bits_Take_e)]
def msg_reader_num_fi : Fi := { keep := [], vty := [], vals := [], live := [(0, [0, 1]), (1, [0, 1, 12]), (2, [0, 4]), (3, [0, 1, 5, 6, 7]), (4, [0, 1, 5, 6, 23]), (5, [0, 5, 6]), (6, [0, 5]), (7, [0, 4])] }
noncomputable def msg_reader_num (r_0 : (List Int) × IV) (what_1 : ByteArray) : Option ((Int × Unit) × (((List Int) × IV) × Unit)) :=
 bif !(IV.isNil r_0.2) then
  some ((0, ()), (r_0, ()))
 else
  Option.bind (bits_Take r_0.1) fun (r1 : (Int × Int × Bool × Unit) × Unit) =>
  bif !r1.1.2.2.1 then
   bif (decide (0 ≤ r1.1.2.1) && decide (r1.1.2.1 ≤ (r_0.1.length : Int))) && decide ((r_0.1.length : Int) ≤ (r_0.1.length : Int)) then
    some ((r1.1.1, ()), ((List.drop r1.1.2.1.toNat (List.take ((r_0.1.length : Int).toNat) r_0.1), IV.mk 164 [.str what_1]), ()))
   else none
  else
  bif (decide (0 ≤ r1.1.2.1) && decide (r1.1.2.1 ≤ (r_0.1.length : Int))) && decide ((r_0.1.length : Int) ≤ (r_0.1.length : Int)) then
   some ((r1.1.1, ()), ((List.drop r1.1.2.1.toNat (List.take ((r_0.1.length : Int).toNat) r_0.1), r_0.2), ()))
  else none
theorem msg_reader_num_eq (r_0 : (List Int) × IV) (what_1 : ByteArray) : evFn msg_reader_num_Γ tab msg_reader_num_fi 1 [.box 161 t160 [false, false], .val t9] [⟨t2, [false], none⟩] Tryz.f170 (r_0, what_1, ()) = msg_reader_num r_0 what_1 := by kernel_rfl
noncomputable def msg_reader_num_e : Ent := ⟨[.box 161 t160 [false, false], .val t9], [⟨t2, [false], none⟩], fun x => msg_reader_num x.1 x.2.1⟩
theorem msg_reader_num_good : Good tab.ty Tryz.prog 170 msg_reader_num_e := by
  refine fn_good (Γ := msg_reader_num_Γ) (fi := msg_reader_num_fi) (n := 1) follows (gcons bits_Take_good gnil) tabok Tryz.func170 (by kernel_rfl) (by kernel_rfl) (fun x r h => ?_)
  obtain ⟨r_0, what_1, _u⟩ := x
  exact (msg_reader_num_eq r_0 what_1).trans h
noncomputable def bits_TakeText_Γ : Ctx := [(241, bits_Take_e)]
def bits_TakeText_fi : Fi := { keep := [], vty := [], vals := [], live := [(0, [0, 15, 16, 17, 18, 19, 20]), (1, [0, 3, 4, 5, 15, 16, 17, 18, 19, 20]), (2, [0, 3, 5, 21]), (3, [2, 3, 4]), (4, [2, 3, 4])] }
noncomputable def bits_TakeText (b_0 : List Int) : Option ((ByteArray × Int × Bool × Unit) × Unit) :=
 Option.bind (bits_Take b_0) fun (r1 : (Int × Int × Bool × Unit) × Unit) =>
 bif !r1.1.2.2.1 then
  some (((⟨#[]⟩ : ByteArray), 0, false, ()), ())
 else
 bif decide (r1.1.1 > IntKind.wrap .i64 ((b_0.length : Int) - r1.1.2.1)) then
  some (((⟨#[]⟩ : ByteArray), 0, false, ()), ())
 else
 bif (decide (0 ≤ r1.1.2.1) && decide (r1.1.2.1 ≤ IntKind.wrap .i64 (r1.1.2.1 + r1.1.1))) && decide (IntKind.wrap .i64 (r1.1.2.1 + r1.1.1) ≤ (b_0.length : Int)) then
  some ((bytesOf (List.drop r1.1.2.1.toNat (List.take ((IntKind.wrap .i64 (r1.1.2.1 + r1.1.1)).toNat) b_0)), IntKind.wrap .i64 (r1.1.2.1 + r1.1.1), true, ()), ())
 else none
theorem bits_TakeText_eq (b_0 : List Int) : evFn bits_TakeText_Γ tab bits_TakeText_fi 1 [.val t43] [⟨t9, [false], none⟩, ⟨t2, [false], none⟩, ⟨t4, [false], none⟩] Tryz.f242 (b_0, ()) = bits_TakeText b_0 := by kernel_rfl
noncomputable def bits_TakeText_e : Ent := ⟨[.val t43], [⟨t9, [false], none⟩, ⟨t2, [false], none⟩, ⟨t4, [false], none⟩], fun x => bits_TakeText x.1⟩
theorem bits_TakeText_good : Good tab.ty Tryz.prog 242 bits_TakeText_e := by
  refine fn_good (Γ := bits_TakeText_Γ) (fi := bits_TakeText_fi) (n := 1) follows (gcons bits_Take_good gnil) tabok Tryz.func242 (by kernel_rfl) (by kernel_rfl) (fun x r h => ?_)
  obtain ⟨b_0, _u⟩ := x
  exact (bits_TakeText_eq b_0).trans h
noncomputable def msg_reader_text_Γ : Ctx := [(242, bits_TakeText_e)]
def msg_reader_text_fi : Fi := { keep := [], vty := [], vals := [], live := [(0, [0, 1]), (1, [0, 1, 12]), (2, [0, 4]), (3, [0, 1, 5, 6, 7]), (4, [0, 1, 5, 6, 23]), (5, [0, 5, 6]), (6, [0, 5]), (7, [0, 4])] }
noncomputable def msg_reader_text (r_0 : (List Int) × IV) (what_1 : ByteArray) : Option ((ByteArray × Unit) × (((List Int) × IV) × Unit)) :=
 bif !(IV.isNil r_0.2) then
  some (((⟨#[]⟩ : ByteArray), ()), (r_0, ()))
 else
  Option.bind (bits_TakeText r_0.1) fun (r1 : (ByteArray × Int × Bool × Unit) × Unit) =>
  bif !r1.1.2.2.1 then
   bif (decide (0 ≤ r1.1.2.1) && decide (r1.1.2.1 ≤ (r_0.1.length : Int))) && decide ((r_0.1.length : Int) ≤ (r_0.1.length : Int)) then
    some ((r1.1.1, ()), ((List.drop r1.1.2.1.toNat (List.take ((r_0.1.length : Int).toNat) r_0.1), IV.mk 164 [.str what_1]), ()))
   else none
  else
  bif (decide (0 ≤ r1.1.2.1) && decide (r1.1.2.1 ≤ (r_0.1.length : Int))) && decide ((r_0.1.length : Int) ≤ (r_0.1.length : Int)) then
   some ((r1.1.1, ()), ((List.drop r1.1.2.1.toNat (List.take ((r_0.1.length : Int).toNat) r_0.1), r_0.2), ()))
  else none
theorem msg_reader_text_eq (r_0 : (List Int) × IV) (what_1 : ByteArray) : evFn msg_reader_text_Γ tab msg_reader_text_fi 1 [.box 161 t160 [false, false], .val t9] [⟨t9, [false], none⟩] Tryz.f171 (r_0, what_1, ()) = msg_reader_text r_0 what_1 := by kernel_rfl
noncomputable def msg_reader_text_e : Ent := ⟨[.box 161 t160 [false, false], .val t9], [⟨t9, [false], none⟩], fun x => msg_reader_text x.1 x.2.1⟩
theorem msg_reader_text_good : Good tab.ty Tryz.prog 171 msg_reader_text_e := by
  refine fn_good (Γ := msg_reader_text_Γ) (fi := msg_reader_text_fi) (n := 1) follows (gcons bits_TakeText_good gnil) tabok Tryz.func171 (by kernel_rfl) (by kernel_rfl) (fun x r h => ?_)
  obtain ⟨r_0, what_1, _u⟩ := x
  exact (msg_reader_text_eq r_0 what_1).trans h
noncomputable def msg_reader_msg_Γ : Ctx := [(170, msg_reader_num_e), (171, msg_reader_text_e)]
def msg_reader_msg_fi : Fi := { keep := [], vty := [], vals := [], live := [(0, [0, 2, 34, 35, 36, 37, 38]), (1, [0, 2, 34, 35, 36, 37, 38]), (2, [0, 2, 34, 35, 36, 37, 38]), (3, [0, 2, 3, 34, 35, 36, 37, 38]), (4, [0, 2, 3, 25, 34, 35, 36, 37, 38]), (5, [0, 2, 3, 34, 35, 36, 37, 38]), (6, [0, 2, 3, 34, 35, 36, 37, 38, 39]), (7, [0, 2, 3, 34, 35, 36, 37, 38]), (8, [0, 2, 3, 34, 35, 36, 37, 38]), (9, [0, 2]), (10, [0, 2]), (11, [0, 2])] }
noncomputable def msg_reader_msg_x (x : PDs [.box 161 t160 [false, false]]) : Option (RDs [⟨t40, [false, false, false, false, false, false, true, false, false, false], none⟩] × ODs [.box 161 t160 [false, false]]) := evFn msg_reader_msg_Γ tab msg_reader_msg_fi 1099511627776 [.box 161 t160 [false, false]] [⟨t40, [false, false, false, false, false, false, true, false, false, false], none⟩] Tryz.f85 x
noncomputable def msg_reader_msg (x0 : (List Int) × IV) : Option (((Int × Int × Int × Int × Int × Int × (List Int) × Int × Int × ByteArray) × Unit) × (((List Int) × IV) × Unit)) := msg_reader_msg_x (x0, ())
noncomputable def msg_reader_msg_e : Ent := ⟨[.box 161 t160 [false, false]], [⟨t40, [false, false, false, false, false, false, true, false, false, false], none⟩], fun x => msg_reader_msg x.1⟩
theorem msg_reader_msg_good : Good tab.ty Tryz.prog 85 msg_reader_msg_e := by
  refine fn_good (Γ := msg_reader_msg_Γ) (fi := msg_reader_msg_fi) (n := 1099511627776) follows (gcons msg_reader_num_good (gcons msg_reader_text_good gnil)) tabok Tryz.func85 (by kernel_rfl) (by kernel_rfl) (fun x r h => ?_)
  obtain ⟨x0, _u⟩ := x
  exact h
noncomputable def slices_Equal_byte_Γ : Ctx := []
def slices_Equal_byte_fi : Fi := { keep := [], vty := [], vals := [], live := [(0, [0, 1]), (1, [0, 1, 10]), (2, [4]), (3, [0, 1, 12, 13]), (4, [0, 1, 12, 13, 14]), (5, [0, 1, 5, 12, 13]), (6, [0, 1, 12, 13, 24]), (7, [4]), (8, [0, 1, 12, 13]), (9, [4])] }
noncomputable def slices_Equal_byte_B1 (L1 : List Int → List Int → Int → Int → Option ((Bool × Unit) × Unit)) (v1 : List Int) (v2 : List Int) (v3 : Int) (v4 : Int) : Option ((Bool × Unit) × Unit) :=
 bif decide (v4 < v3) then
  bif decide (0 ≤ v4) && decide (v4 < (v1.length : Int)) then
   bif decide (0 ≤ v4) && decide (v4 < (v2.length : Int)) then
    bif (List.getD v1 v4.toNat 0) != (List.getD v2 v4.toNat 0) then
     some ((false, ()), ())
    else
     L1 v1 v2 v3 (IntKind.wrap .i64 (v4 + 1))
   else none
  else none
 else
  some ((true, ()), ())
noncomputable def slices_Equal_byte_T (L1 : List Int → List Int → Int → Int → Option ((Bool × Unit) × Unit)) (s1_0 : List Int) (s2_1 : List Int) : Option ((Bool × Unit) × Unit) :=
 bif (s1_0.length : Int) != (s2_1.length : Int) then
  some ((false, ()), ())
 else
  L1 s1_0 s2_1 (s1_0.length : Int) 0
noncomputable def slices_Equal_byte_L1 (n : Nat) : Nat → List Int → List Int → Int → Int → Option ((Bool × Unit) × Unit) := iter (fun _ _ _ _ => none) fun L => slices_Equal_byte_B1 L
noncomputable def slices_Equal_byte_X1 (n m : Nat) (v1 : List Int) (v2 : List Int) (v3 : Int) (v4 : Int) : Option ((Bool × Unit) × Unit) :=
 atLoop slices_Equal_byte_Γ tab (fiB [.val t43, .val t43] slices_Equal_byte_fi) n [.val t43, .val t43] [⟨t4, [false], none⟩] Tryz.f87 [1, 1, 0, 1, 0] [] [0, 1, 12, 13] m
 ⟨[(0, SV.cv (CV.one (LV.pure t43 v1))), (1, SV.cv (CV.one (LV.pure t43 v2))), (12, SV.cv (CV.one (LV.pure t2 v3))), (13, SV.cv (CV.one (LV.pure t2 v4)))],
  []⟩
theorem slices_Equal_byte_step1 (n m : Nat) (v1 : List Int) (v2 : List Int) (v3 : Int) (v4 : Int) : slices_Equal_byte_X1 n (m + 1) v1 v2 v3 v4 = slices_Equal_byte_B1 (slices_Equal_byte_X1 n m) v1 v2 v3 v4 := by kernel_rfl
theorem slices_Equal_byte_start (n : Nat) (s1_0 : List Int) (s2_1 : List Int) : evFn slices_Equal_byte_Γ tab slices_Equal_byte_fi n [.val t43, .val t43] [⟨t4, [false], none⟩] Tryz.f87 (s1_0, s2_1, ()) = slices_Equal_byte_T (slices_Equal_byte_X1 n n) s1_0 s2_1 := by kernel_rfl
theorem slices_Equal_byte_XL1 (n : Nat) : ∀ m, slices_Equal_byte_X1 n m = slices_Equal_byte_L1 n m
 | 0 => rfl
 | m + 1 => by
  have ih := slices_Equal_byte_XL1 n m
  funext v1 v2 v3 v4
  rw [slices_Equal_byte_step1, ih]
  rfl
noncomputable def slices_Equal_byte_n (n : Nat) (s1_0 : List Int) (s2_1 : List Int) : Option ((Bool × Unit) × Unit) := slices_Equal_byte_T (slices_Equal_byte_L1 n n) s1_0 s2_1
noncomputable def slices_Equal_byte (s1_0 : List Int) (s2_1 : List Int) : Option ((Bool × Unit) × Unit) := slices_Equal_byte_n 1099511627776 s1_0 s2_1
theorem slices_Equal_byte_eq (n : Nat) (s1_0 : List Int) (s2_1 : List Int) : evFn slices_Equal_byte_Γ tab slices_Equal_byte_fi n [.val t43, .val t43] [⟨t4, [false], none⟩] Tryz.f87 (s1_0, s2_1, ()) = slices_Equal_byte_n n s1_0 s2_1 := by
  rw [slices_Equal_byte_start, slices_Equal_byte_XL1 n n]
  rfl
noncomputable def slices_Equal_byte_e : Ent := ⟨[.val t43, .val t43], [⟨t4, [false], none⟩], fun x => slices_Equal_byte x.1 x.2.1⟩
theorem slices_Equal_byte_good : Good tab.ty Tryz.prog 87 slices_Equal_byte_e := by
  refine fn_good (Γ := slices_Equal_byte_Γ) (fi := slices_Equal_byte_fi) (n := 1099511627776) follows gnil tabok Tryz.func87 (by kernel_rfl) (by kernel_rfl) (fun x r h => ?_)
  obtain ⟨s1_0, s2_1, _u⟩ := x
  exact (slices_Equal_byte_eq 1099511627776 s1_0 s2_1).trans h
noncomputable def msg_Take_Γ : Ctx := [(85, msg_reader_msg_e), (86, msg_Put_e), (87, slices_Equal_byte_e)]
def msg_Take_fi : Fi := { keep := [], vty := [], vals := [], live := [(0, [0, 2, 34, 35, 38, 39, 40, 41]), (1, [0, 2, 11, 34, 35, 38, 39, 40, 41]), (2, [2, 3]), (3, [0, 2, 4, 34, 35, 38, 39, 40, 41]), (4, [0, 2, 4, 5, 34, 35, 38, 39, 40, 41]), (5, [0, 2, 5, 7, 34, 35, 38, 39, 40, 41]), (6, [0, 2, 5, 7, 8, 34, 35, 38, 39, 40, 41]), (7, [2, 5, 42]), (8, [2, 3]), (9, [2, 3])] }
noncomputable def msg_Take_raw (bothEq : Option (((Int × Int × Int × Int × Int × Int × (List Int) × Int × Int × ByteArray) × Bool × Unit) × Unit) → Option (((Int × Int × Int × Int × Int × Int × (List Int) × Int × Int × ByteArray) × Bool × Unit) × Unit) → Option (((Int × Int × Int × Int × Int × Int × (List Int) × Int × Int × ByteArray) × Bool × Unit) × Unit)) (b_0 : List Int) : Option (((Int × Int × Int × Int × Int × Int × (List Int) × Int × Int × ByteArray) × Bool × Unit) × Unit) :=
 bif decide ((b_0.length : Int) < 4) then
  some (((0, 0, 0, 0, 0, 0, [], 0, 0, (⟨#[]⟩ : ByteArray)), false, ()), ())
 else
 bif decide (0 ≤ IntKind.wrap .i64 ((b_0.length : Int) - 4)) && decide (IntKind.wrap .i64 ((b_0.length : Int) - 4) ≤ (b_0.length : Int)) then
  Option.bind (msg_reader_msg (List.drop 0 (List.take ((IntKind.wrap .i64 ((b_0.length : Int) - 4)).toNat) b_0), IV.nil)) fun (r1 : ((Int × Int × Int × Int × Int × Int × (List Int) × Int × Int × ByteArray) × Unit) × (((List Int) × IV) × Unit)) =>
  Option.bind (msg_Put r1.1.1) fun (r2 : ((List Int) × Unit) × Unit) =>
  bif IV.is r1.2.1.2 164 then
   some (((0, 0, 0, 0, 0, 0, [], 0, 0, (⟨#[]⟩ : ByteArray)), false, ()), ())
  else
  bif !(List.isEmpty r2.1.1) then
   Option.bind (slices_Equal_byte r2.1.1 b_0) fun (r3 : (Bool × Unit) × Unit) =>
   bif !r3.1.1 then
    some (((0, 0, 0, 0, 0, 0, [], 0, 0, (⟨#[]⟩ : ByteArray)), false, ()), ())
   else
    some ((r1.1.1, true, ()), ())
  else
   bothEq (
    some (((0, 0, 0, 0, 0, 0, [], 0, 0, (⟨#[]⟩ : ByteArray)), false, ()), ())) (
    Option.bind (slices_Equal_byte r2.1.1 b_0) fun (r4 : (Bool × Unit) × Unit) =>
    bif !r4.1.1 then
     some (((0, 0, 0, 0, 0, 0, [], 0, 0, (⟨#[]⟩ : ByteArray)), false, ()), ())
    else
     some ((r1.1.1, true, ()), ()))
 else none
noncomputable def msg_Take (b_0 : List Int) : Option (((Int × Int × Int × Int × Int × Int × (List Int) × Int × Int × ByteArray) × Bool × Unit) × Unit) := msg_Take_raw (@bothDec _ (@instDecidableEqProd _ _ (@instDecidableEqProd _ _ (@instDecidableEqProd _ _ inferInstance (@instDecidableEqProd _ _ inferInstance (@instDecidableEqProd _ _ inferInstance (@instDecidableEqProd _ _ inferInstance (@instDecidableEqProd _ _ inferInstance (@instDecidableEqProd _ _ inferInstance (@instDecidableEqProd _ _ inferInstance (@instDecidableEqProd _ _ inferInstance (@instDecidableEqProd _ _ inferInstance inferInstance))))))))) (@instDecidableEqProd _ _ inferInstance inferInstance)) inferInstance)) b_0
theorem msg_Take_eq0 (b_0 : List Int) : evFn msg_Take_Γ tab msg_Take_fi 1 [.val t43] [⟨t40, [false, false, false, false, false, false, true, false, false, false], none⟩, ⟨t4, [false], none⟩] Tryz.f34 (b_0, ()) = msg_Take_raw bothEq b_0 := by kernel_rfl
theorem msg_Take_eq (b_0 : List Int) : evFn msg_Take_Γ tab msg_Take_fi 1 [.val t43] [⟨t40, [false, false, false, false, false, false, true, false, false, false], none⟩, ⟨t4, [false], none⟩] Tryz.f34 (b_0, ()) = msg_Take b_0 := (msg_Take_eq0 b_0).trans (congrArg (fun b => msg_Take_raw b b_0) (@bothEq_dec _ (@instDecidableEqProd _ _ (@instDecidableEqProd _ _ (@instDecidableEqProd _ _ inferInstance (@instDecidableEqProd _ _ inferInstance (@instDecidableEqProd _ _ inferInstance (@instDecidableEqProd _ _ inferInstance (@instDecidableEqProd _ _ inferInstance (@instDecidableEqProd _ _ inferInstance (@instDecidableEqProd _ _ inferInstance (@instDecidableEqProd _ _ inferInstance (@instDecidableEqProd _ _ inferInstance inferInstance))))))))) (@instDecidableEqProd _ _ inferInstance inferInstance)) inferInstance)))
noncomputable def msg_Take_e : Ent := ⟨[.val t43], [⟨t40, [false, false, false, false, false, false, true, false, false, false], none⟩, ⟨t4, [false], none⟩], fun x => msg_Take x.1⟩
theorem msg_Take_good : Good tab.ty Tryz.prog 34 msg_Take_e := by
  refine fn_good (Γ := msg_Take_Γ) (fi := msg_Take_fi) (n := 1) follows (gcons msg_reader_msg_good (gcons msg_Put_good (gcons slices_Equal_byte_good gnil))) tabok Tryz.func34 (by kernel_rfl) (by kernel_rfl) (fun x r h => ?_)
  obtain ⟨b_0, _u⟩ := x
  exact (msg_Take_eq b_0).trans h
noncomputable def slices_BinarySearchFunc_Kid_Kid_int_Γ : Ctx := []
def slices_BinarySearchFunc_Kid_Kid_int_fi : Fi := { keep := [], vty := [(12, 24), (25, 24), (41, 24)], vals := [], live := [(0, [0, 1, 2, 40, 41, 42, 43, 44, 45, 46, 47]), (1, [0, 1, 2, 8, 40, 41, 42, 43, 44, 45, 46, 47]), (2, [0, 1, 2, 8, 9, 10, 40, 41, 42, 43, 44, 45, 46, 47]), (3, [0, 1, 2, 8, 9, 10, 17, 40, 41, 42, 43, 44, 45, 46, 47]), (4, [0, 1, 2, 8, 9, 10, 11, 40, 41, 42, 43, 44, 45, 46, 47]), (5, [0, 1, 2, 8, 9, 10, 11, 31, 40, 41, 42, 43, 44, 45, 46, 47]), (6, [0, 1, 2, 8, 9, 10, 40, 41, 42, 43, 44, 45, 46, 47]), (7, [0, 1, 2, 8, 9, 10, 40, 41, 42, 43, 44, 45, 46, 47]), (8, [6, 7])] }
noncomputable def slices_BinarySearchFunc_Kid_Kid_int_x (x : PDs [.val t24, .val t2, .fn [t126, t2] [t2]]) : Option (RDs [⟨t2, [false], none⟩, ⟨t4, [false], none⟩] × ODs [.val t24, .val t2, .fn [t126, t2] [t2]]) := evFn slices_BinarySearchFunc_Kid_Kid_int_Γ tab slices_BinarySearchFunc_Kid_Kid_int_fi 1099511627776 [.val t24, .val t2, .fn [t126, t2] [t2]] [⟨t2, [false], none⟩, ⟨t4, [false], none⟩] Tryz.f249 x
noncomputable def slices_BinarySearchFunc_Kid_Kid_int (x0 : List (Int × Int × Int)) (x1 : Int) (x2 : ((Int × Int × Int) × Int × Unit → Option (Int × Unit))) : Option ((Int × Bool × Unit) × Unit) := slices_BinarySearchFunc_Kid_Kid_int_x (x0, x1, x2, ())
noncomputable def slices_BinarySearchFunc_Kid_Kid_int_e : Ent := ⟨[.val t24, .val t2, .fn [t126, t2] [t2]], [⟨t2, [false], none⟩, ⟨t4, [false], none⟩], fun x => slices_BinarySearchFunc_Kid_Kid_int x.1 x.2.1 x.2.2.1⟩
theorem slices_BinarySearchFunc_Kid_Kid_int_good : Good tab.ty Tryz.prog 249 slices_BinarySearchFunc_Kid_Kid_int_e := by
  refine fn_good (Γ := slices_BinarySearchFunc_Kid_Kid_int_Γ) (fi := slices_BinarySearchFunc_Kid_Kid_int_fi) (n := 1099511627776) follows gnil tabok Tryz.func249 (by kernel_rfl) (by kernel_rfl) (fun x r h => ?_)
  obtain ⟨x0, x1, x2, _u⟩ := x
  exact h
noncomputable def cmp_Compare_int_Γ : Ctx := [(306, cmp_isNaN_int_e)]
def cmp_Compare_int_fi : Fi := { keep := [], vty := [], vals := [], live := [(0, [0, 1]), (1, [0, 1, 5]), (2, [0, 1, 5, 6]), (3, [0, 1, 6, 11]), (4, [12]), (5, [4]), (6, [4]), (7, [0, 1, 13]), (8, [4]), (9, [0, 1, 16]), (10, [4]), (11, [19]), (12, [4]), (13, [4])] }
noncomputable def cmp_Compare_int (x_0 : Int) (y_1 : Int) : Option ((Int × Unit) × Unit) :=
 Option.bind (cmp_isNaN_int x_0) fun (r1 : (Bool × Unit) × Unit) =>
 Option.bind (cmp_isNaN_int y_1) fun (r2 : (Bool × Unit) × Unit) =>
 bif r1.1.1 then
  bif r2.1.1 then
   some ((0, ()), ())
  else
   some (((-1), ()), ())
 else
 bif r2.1.1 then
  some ((1, ()), ())
 else
 bif decide (x_0 < y_1) then
  some (((-1), ()), ())
 else
 bif decide (x_0 > y_1) then
  some ((1, ()), ())
 else
  some ((0, ()), ())
theorem cmp_Compare_int_eq (x_0 : Int) (y_1 : Int) : evFn cmp_Compare_int_Γ tab cmp_Compare_int_fi 1 [.val t2, .val t2] [⟨t2, [false], none⟩] Tryz.f251 (x_0, y_1, ()) = cmp_Compare_int x_0 y_1 := by kernel_rfl
noncomputable def cmp_Compare_int_e : Ent := ⟨[.val t2, .val t2], [⟨t2, [false], none⟩], fun x => cmp_Compare_int x.1 x.2.1⟩
theorem cmp_Compare_int_good : Good tab.ty Tryz.prog 251 cmp_Compare_int_e := by
  refine fn_good (Γ := cmp_Compare_int_Γ) (fi := cmp_Compare_int_fi) (n := 1) follows (gcons cmp_isNaN_int_good gnil) tabok Tryz.func251 (by kernel_rfl) (by kernel_rfl) (fun x r h => ?_)
  obtain ⟨x_0, y_1, _u⟩ := x
  exact (cmp_Compare_int_eq x_0 y_1).trans h
noncomputable def kids_place_fn1_Γ : Ctx := [(251, cmp_Compare_int_e)]
def kids_place_fn1_fi : Fi := { keep := [], vty := [], vals := [], live := [(0, [1, 2]), (1, [4])] }
noncomputable def kids_place_fn1 (k_0 : Int × Int × Int) (id_1 : Int) : Option ((Int × Unit) × Unit) :=
 Option.bind (cmp_Compare_int k_0.1 id_1) fun (r1 : (Int × Unit) × Unit) =>
 some ((r1.1.1, ()), ())
theorem kids_place_fn1_eq (k_0 : Int × Int × Int) (id_1 : Int) : evFn kids_place_fn1_Γ tab kids_place_fn1_fi 1 [.val t126, .val t2] [⟨t2, [false], none⟩] Tryz.f250 (k_0, id_1, ()) = kids_place_fn1 k_0 id_1 := by kernel_rfl
noncomputable def kids_place_fn1_e : Ent := ⟨[.val t126, .val t2], [⟨t2, [false], none⟩], fun x => kids_place_fn1 x.1 x.2.1⟩
theorem kids_place_fn1_good : Good tab.ty Tryz.prog 250 kids_place_fn1_e := by
  refine fn_good (Γ := kids_place_fn1_Γ) (fi := kids_place_fn1_fi) (n := 1) follows (gcons cmp_Compare_int_good gnil) tabok Tryz.func250 (by kernel_rfl) (by kernel_rfl) (fun x r h => ?_)
  obtain ⟨k_0, id_1, _u⟩ := x
  exact (kids_place_fn1_eq k_0 id_1).trans h
noncomputable def kids_place_Γ : Ctx := [(249, slices_BinarySearchFunc_Kid_Kid_int_e), (250, kids_place_fn1_e)]
def kids_place_fi : Fi := { keep := [], vty := [], vals := [], live := [(0, [0, 1]), (1, [4, 5])] }
noncomputable def kids_place (l_0 : List (Int × Int × Int)) (id_1 : Int) : Option ((Int × Bool × Unit) × Unit) :=
 Option.bind (slices_BinarySearchFunc_Kid_Kid_int l_0 id_1 (fun x => (kids_place_fn1 x.1 x.2.1).bind fun r => some (r.1.1, ()))) fun (r1 : (Int × Bool × Unit) × Unit) =>
 some ((r1.1.1, r1.1.2.1, ()), ())
theorem kids_place_eq (l_0 : List (Int × Int × Int)) (id_1 : Int) : evFn kids_place_Γ tab kids_place_fi 1 [.val t24, .val t2] [⟨t2, [false], none⟩, ⟨t4, [false], none⟩] Tryz.f180 (l_0, id_1, ()) = kids_place l_0 id_1 := by kernel_rfl
noncomputable def kids_place_e : Ent := ⟨[.val t24, .val t2], [⟨t2, [false], none⟩, ⟨t4, [false], none⟩], fun x => kids_place x.1 x.2.1⟩
theorem kids_place_good : Good tab.ty Tryz.prog 180 kids_place_e := by
  refine fn_good (Γ := kids_place_Γ) (fi := kids_place_fi) (n := 1) follows (gcons slices_BinarySearchFunc_Kid_Kid_int_good (gcons kids_place_fn1_good gnil)) tabok Tryz.func180 (by kernel_rfl) (by kernel_rfl) (fun x r h => ?_)
  obtain ⟨l_0, id_1, _u⟩ := x
  exact (kids_place_eq l_0 id_1).trans h
noncomputable def kids_Find_Γ : Ctx := [(180, kids_place_e)]
def kids_Find_fi : Fi := { keep := [], vty := [], vals := [], live := [(0, [0, 1, 4]), (1, [0, 4, 6, 7]), (2, [0, 4, 6, 15]), (3, [4, 5]), (4, [4, 5])] }
noncomputable def kids_Find (l_0 : List (Int × Int × Int)) (id_1 : Int) : Option (((Int × Int × Int) × Bool × Unit) × Unit) :=
 Option.bind (kids_place l_0 id_1) fun (r1 : (Int × Bool × Unit) × Unit) =>
 bif !r1.1.2.1 then
  some (((0, 0, 0), false, ()), ())
 else
 bif decide (0 ≤ r1.1.1) && decide (r1.1.1 < (l_0.length : Int)) then
  some ((((List.getD l_0 r1.1.1.toNat (0, 0, 0)).1, ((List.getD l_0 r1.1.1.toNat (0, 0, 0)).2)), true, ()), ())
 else none
theorem kids_Find_eq (l_0 : List (Int × Int × Int)) (id_1 : Int) : evFn kids_Find_Γ tab kids_Find_fi 1 [.val t24, .val t2] [⟨t126, [false, false, false], none⟩, ⟨t4, [false], none⟩] Tryz.f95 (l_0, id_1, ()) = kids_Find l_0 id_1 := by kernel_rfl
noncomputable def kids_Find_e : Ent := ⟨[.val t24, .val t2], [⟨t126, [false, false, false], none⟩, ⟨t4, [false], none⟩], fun x => kids_Find x.1 x.2.1⟩
theorem kids_Find_good : Good tab.ty Tryz.prog 95 kids_Find_e := by
  refine fn_good (Γ := kids_Find_Γ) (fi := kids_Find_fi) (n := 1) follows (gcons kids_place_good gnil) tabok Tryz.func95 (by kernel_rfl) (by kernel_rfl) (fun x r h => ?_)
  obtain ⟨l_0, id_1, _u⟩ := x
  exact (kids_Find_eq l_0 id_1).trans h
noncomputable def kids_Old_Γ : Ctx := [(95, kids_Find_e)]
def kids_Old_fi : Fi := { keep := [], vty := [], vals := [], live := [(0, [0, 1, 2, 17, 18, 19, 20]), (1, [2, 7, 8, 17, 18, 19, 20]), (2, [6])] }
noncomputable def kids_Old (l_0 : List (Int × Int × Int)) (id_1 : Int) (inc_2 : Int) : Option ((Bool × Unit) × Unit) :=
 Option.bind (kids_Find l_0 id_1) fun (r1 : ((Int × Int × Int) × Bool × Unit) × Unit) =>
 bif r1.1.2.1 then
  some ((decide (r1.1.1.2.1 > inc_2), ()), ())
 else
  some ((false, ()), ())
theorem kids_Old_eq (l_0 : List (Int × Int × Int)) (id_1 : Int) (inc_2 : Int) : evFn kids_Old_Γ tab kids_Old_fi 1 [.val t24, .val t2, .val t2] [⟨t4, [false], none⟩] Tryz.f88 (l_0, id_1, inc_2, ()) = kids_Old l_0 id_1 inc_2 := by kernel_rfl
noncomputable def kids_Old_e : Ent := ⟨[.val t24, .val t2, .val t2], [⟨t4, [false], none⟩], fun x => kids_Old x.1 x.2.1 x.2.2.1⟩
theorem kids_Old_good : Good tab.ty Tryz.prog 88 kids_Old_e := by
  refine fn_good (Γ := kids_Old_Γ) (fi := kids_Old_fi) (n := 1) follows (gcons kids_Find_good gnil) tabok Tryz.func88 (by kernel_rfl) (by kernel_rfl) (fun x r h => ?_)
  obtain ⟨l_0, id_1, inc_2, _u⟩ := x
  exact (kids_Old_eq l_0 id_1 inc_2).trans h
noncomputable def path_Has_Γ : Ctx := [(194, slices_Contains_int_e)]
def path_Has_fi : Fi := { keep := [], vty := [], vals := [], live := [(0, [0, 1]), (1, [4])] }
noncomputable def path_Has (p_0 : List Int) (id_1 : Int) : Option ((Bool × Unit) × Unit) :=
 Option.bind (slices_Contains_int p_0 id_1) fun (r1 : (Bool × Unit) × Unit) =>
 some ((r1.1.1, ()), ())
theorem path_Has_eq (p_0 : List Int) (id_1 : Int) : evFn path_Has_Γ tab path_Has_fi 1 [.val t23, .val t2] [⟨t4, [false], none⟩] Tryz.f246 (p_0, id_1, ()) = path_Has p_0 id_1 := by kernel_rfl
noncomputable def path_Has_e : Ent := ⟨[.val t23, .val t2], [⟨t4, [false], none⟩], fun x => path_Has x.1 x.2.1⟩
theorem path_Has_good : Good tab.ty Tryz.prog 246 path_Has_e := by
  refine fn_good (Γ := path_Has_Γ) (fi := path_Has_fi) (n := 1) follows (gcons slices_Contains_int_good gnil) tabok Tryz.func246 (by kernel_rfl) (by kernel_rfl) (fun x r h => ?_)
  obtain ⟨p_0, id_1, _u⟩ := x
  exact (path_Has_eq p_0 id_1).trans h
noncomputable def tie_node_room_Γ : Ctx := [(73, tie_Fresh_e), (95, kids_Find_e), (246, path_Has_e)]
def tie_node_room_fi : Fi := { keep := [], vty := [], vals := [], live := [(0, [0, 1, 30, 31, 32, 33, 34, 35, 36, 37, 40, 41, 42, 43, 44, 45, 46, 47, 48, 49, 50]), (1, [0, 1, 5, 30, 31, 32, 33, 34, 35, 36, 37, 40, 41, 42, 43, 44, 45, 46, 47, 48, 49, 50]), (2, [0, 1, 5, 13, 30, 31, 32, 33, 34, 35, 36, 37, 40, 41, 42, 43, 44, 45, 46, 47, 48, 49, 50]), (3, [0, 1, 5, 30, 31, 32, 33, 34, 35, 36, 37, 40, 41, 42, 43, 44, 45, 46, 47, 48, 49, 50]), (4, [0, 1, 5, 7, 30, 31, 32, 33, 34, 35, 36, 37, 40, 41, 42, 43, 44, 45, 46, 47, 48, 49, 50]), (5, [0, 4])] }
noncomputable def tie_node_room (n_0 : (Int × Int × Int × Int × Int × Int × (List Int) × Int × Int × Int × Int × Int × List (Int × Int × Int)) × List (Int × Int × Int × Int × Int × Int × (List Int) × Int × Int × ByteArray)) (id_1 : Int) : Option ((Bool × Unit) × (((Int × Int × Int × Int × Int × Int × (List Int) × Int × Int × Int × Int × Int × List (Int × Int × Int)) × List (Int × Int × Int × Int × Int × Int × (List Int) × Int × Int × ByteArray)) × Unit)) :=
 bif n_0.1.1 == 1 then
  Option.bind (kids_Find n_0.1.2.2.2.2.2.2.2.2.2.2.2.2 id_1) fun (r1 : ((Int × Int × Int) × Bool × Unit) × Unit) =>
  Option.bind (tie_Fresh n_0.1) fun (r2 : (Bool × Unit) × Unit) =>
  bif r2.1.1 then
   Option.bind (path_Has n_0.1.2.2.2.2.2.2.1 id_1) fun (r3 : (Bool × Unit) × Unit) =>
   bif !r3.1.1 then
    bif r1.1.2.1 then
     some ((true, ()), (n_0, ()))
    else
     some ((decide ((n_0.1.2.2.2.2.2.2.2.2.2.2.2.2.length : Int) < 8), ()), (n_0, ()))
   else
    some ((false, ()), (n_0, ()))
  else
   some ((false, ()), (n_0, ()))
 else
  Option.bind (kids_Find n_0.1.2.2.2.2.2.2.2.2.2.2.2.2 id_1) fun (r4 : ((Int × Int × Int) × Bool × Unit) × Unit) =>
  Option.bind (tie_Fresh n_0.1) fun (r5 : (Bool × Unit) × Unit) =>
  bif r5.1.1 then
   Option.bind (path_Has n_0.1.2.2.2.2.2.2.1 id_1) fun (r6 : (Bool × Unit) × Unit) =>
   bif !r6.1.1 then
    bif r4.1.2.1 then
     some ((true, ()), (n_0, ()))
    else
     some ((decide ((n_0.1.2.2.2.2.2.2.2.2.2.2.2.2.length : Int) < 3), ()), (n_0, ()))
   else
    some ((false, ()), (n_0, ()))
  else
   some ((false, ()), (n_0, ()))
theorem tie_node_room_eq (n_0 : (Int × Int × Int × Int × Int × Int × (List Int) × Int × Int × Int × Int × Int × List (Int × Int × Int)) × List (Int × Int × Int × Int × Int × Int × (List Int) × Int × Int × ByteArray)) (id_1 : Int) : evFn tie_node_room_Γ tab tie_node_room_fi 1 [.box 143 t142 [false, false, false, false, false, false, false, false, false, false, false, false, false, true], .val t2] [⟨t4, [false], none⟩] Tryz.f176 (n_0, id_1, ()) = tie_node_room n_0 id_1 := by kernel_rfl
noncomputable def tie_node_room_e : Ent := ⟨[.box 143 t142 [false, false, false, false, false, false, false, false, false, false, false, false, false, true], .val t2], [⟨t4, [false], none⟩], fun x => tie_node_room x.1 x.2.1⟩
theorem tie_node_room_good : Good tab.ty Tryz.prog 176 tie_node_room_e := by
  refine fn_good (Γ := tie_node_room_Γ) (fi := tie_node_room_fi) (n := 1) follows (gcons tie_Fresh_good (gcons kids_Find_good (gcons path_Has_good gnil))) tabok Tryz.func176 (by kernel_rfl) (by kernel_rfl) (fun x r h => ?_)
  obtain ⟨n_0, id_1, _u⟩ := x
  exact (tie_node_room_eq n_0 id_1).trans h
noncomputable def slices_Insert_Kid_Γ : Ctx := [(305, markE)]
def slices_Insert_Kid_fi : Fi := { keep := [], vty := [], vals := [], live := [(0, [0, 1, 2]), (1, [0, 1, 2]), (2, [0, 1, 2, 7]), (3, [0, 1, 2, 7, 16]), (4, [6]), (5, [0, 1, 2, 7, 8]), (6, [0, 1, 2, 7, 8, 22]), (7, [6]), (8, [0, 1, 2, 7, 8, 31]), (9, [0, 1, 2, 7, 9]), (10, [0, 1, 7, 9]), (11, [9]), (12, [6]), (13, [0, 1, 2, 7, 8]), (14, [0, 1, 2, 7, 8, 68]), (15, [0, 1, 2]), (16, [0]), (17, [6]), (18, [0, 1, 7]), (19, [0]), (20, [6])] }
noncomputable def slices_Insert_Kid_c (c : Nat) (s_0 : List (Int × Int × Int)) (i_1 : Int) (v_2 : List (Int × Int × Int)) : Option (((List (Int × Int × Int)) × Unit) × Unit) :=
 bif (decide (0 ≤ i_1) && decide (i_1 ≤ ((s_0.length : Nat) : Int))) && decide (((s_0.length : Nat) : Int) ≤ ((((List.map some s_0 ++ List.replicate c none).length) - 0 : Nat) : Int)) then
  bif (v_2.length : Int) == 0 then
   bif Nat.ble s_0.length ((List.map some s_0 ++ List.replicate c none).length) then
    Option.bind (allSome (List.take s_0.length (List.map some s_0 ++ List.replicate c none))) fun (z1 : List (Int × Int × Int)) =>
    some ((z1, ()), ())
   else none
  else
  bif i_1 == ((s_0.length : Nat) : Int) then
   bif Nat.ble (0 + s_0.length) ((List.map some s_0 ++ List.replicate c none).length) then
    bif Nat.ble (s_0.length + v_2.length) ((List.map some s_0 ++ List.replicate c none).length) then
     bif Nat.ble (s_0.length + v_2.length) ((writeAt (List.map some s_0 ++ List.replicate c none) s_0.length v_2).length) then
      Option.bind (allSome (List.take (s_0.length + v_2.length) (writeAt (List.map some s_0 ++ List.replicate c none) s_0.length v_2))) fun (z2 : List (Int × Int × Int)) =>
      some ((z2, ()), ())
     else none
    else
    bif Nat.ble (s_0.length + v_2.length) 1073741824 then
     Option.bind (allSome (List.take s_0.length (List.map some s_0 ++ List.replicate c none))) fun (z3 : List (Int × Int × Int)) =>
     some ((z3 ++ v_2, ()), ())
    else none
   else none
  else
  bif Nat.ble (0 + s_0.length) ((List.map some s_0 ++ List.replicate c none).length) then
   bif decide (IntKind.wrap .i64 (((s_0.length : Nat) : Int) + (v_2.length : Int)) > ((((List.map some s_0 ++ List.replicate c none).length) - 0 : Nat) : Int)) then
    bif decide (0 ≤ i_1) && decide (i_1 ≤ ((((List.map some s_0 ++ List.replicate c none).length) - 0 : Nat) : Int)) then
     bif Nat.ble (0 + ((i_1 - 0).toNat)) ((List.map some s_0 ++ List.replicate c none).length) then
      bif decide (0 < IntKind.wrap .i64 ((IntKind.wrap .i64 (((s_0.length : Nat) : Int) + (v_2.length : Int))) - i_1)) && true && Nat.blt ((List.map some s_0 ++ List.replicate c none).length) (((i_1 - 0).toNat) + ((List.replicate ((IntKind.wrap .i64 ((IntKind.wrap .i64 (((s_0.length : Nat) : Int) + (v_2.length : Int))) - i_1)).toNat) ((0, 0, 0) : Int × Int × Int)).length)) && Nat.ble (((List.map some s_0 ++ List.replicate c none).length) + ((List.replicate ((IntKind.wrap .i64 ((IntKind.wrap .i64 (((s_0.length : Nat) : Int) + (v_2.length : Int))) - i_1)).toNat) ((0, 0, 0) : Int × Int × Int)).length)) 536870912 then
       bif (decide (0 ≤ i_1) && decide (i_1 ≤ ((((i_1 - 0).toNat) + ((List.replicate ((IntKind.wrap .i64 ((IntKind.wrap .i64 (((s_0.length : Nat) : Int) + (v_2.length : Int))) - i_1)).toNat) ((0, 0, 0) : Int × Int × Int)).length) : Nat) : Int))) && decide (((((i_1 - 0).toNat) + ((List.replicate ((IntKind.wrap .i64 ((IntKind.wrap .i64 (((s_0.length : Nat) : Int) + (v_2.length : Int))) - i_1)).toNat) ((0, 0, 0) : Int × Int × Int)).length) : Nat) : Int) ≤ ((((List.take ((i_1 - 0).toNat) (List.map some s_0 ++ List.replicate c none) ++ List.map some (List.replicate ((IntKind.wrap .i64 ((IntKind.wrap .i64 (((s_0.length : Nat) : Int) + (v_2.length : Int))) - i_1)).toNat) ((0, 0, 0) : Int × Int × Int))).length) - 0 : Nat) : Int)) then
        bif Nat.ble ((0 + i_1.toNat) + ((((((i_1 - 0).toNat) + ((List.replicate ((IntKind.wrap .i64 ((IntKind.wrap .i64 (((s_0.length : Nat) : Int) + (v_2.length : Int))) - i_1)).toNat) ((0, 0, 0) : Int × Int × Int)).length) : Nat) : Int) - i_1).toNat)) ((List.take ((i_1 - 0).toNat) (List.map some s_0 ++ List.replicate c none) ++ List.map some (List.replicate ((IntKind.wrap .i64 ((IntKind.wrap .i64 (((s_0.length : Nat) : Int) + (v_2.length : Int))) - i_1)).toNat) ((0, 0, 0) : Int × Int × Int))).length) then
         bif (decide (0 ≤ IntKind.wrap .i64 (i_1 + (v_2.length : Int))) && decide (IntKind.wrap .i64 (i_1 + (v_2.length : Int)) ≤ ((((i_1 - 0).toNat) + ((List.replicate ((IntKind.wrap .i64 ((IntKind.wrap .i64 (((s_0.length : Nat) : Int) + (v_2.length : Int))) - i_1)).toNat) ((0, 0, 0) : Int × Int × Int)).length) : Nat) : Int))) && decide (((((i_1 - 0).toNat) + ((List.replicate ((IntKind.wrap .i64 ((IntKind.wrap .i64 (((s_0.length : Nat) : Int) + (v_2.length : Int))) - i_1)).toNat) ((0, 0, 0) : Int × Int × Int)).length) : Nat) : Int) ≤ ((((writeAt (List.take ((i_1 - 0).toNat) (List.map some s_0 ++ List.replicate c none) ++ List.map some (List.replicate ((IntKind.wrap .i64 ((IntKind.wrap .i64 (((s_0.length : Nat) : Int) + (v_2.length : Int))) - i_1)).toNat) ((0, 0, 0) : Int × Int × Int))) (0 + i_1.toNat) (List.take ((((((i_1 - 0).toNat) + ((List.replicate ((IntKind.wrap .i64 ((IntKind.wrap .i64 (((s_0.length : Nat) : Int) + (v_2.length : Int))) - i_1)).toNat) ((0, 0, 0) : Int × Int × Int)).length) : Nat) : Int) - i_1).toNat) v_2)).length) - 0 : Nat) : Int)) then
          bif (decide (0 ≤ i_1) && decide (i_1 ≤ ((s_0.length : Nat) : Int))) && decide (((s_0.length : Nat) : Int) ≤ ((((List.map some s_0 ++ List.replicate c none).length) - 0 : Nat) : Int)) then
           bif Nat.ble ((0 + ((IntKind.wrap .i64 (i_1 + (v_2.length : Int))).toNat)) + ((((((i_1 - 0).toNat) + ((List.replicate ((IntKind.wrap .i64 ((IntKind.wrap .i64 (((s_0.length : Nat) : Int) + (v_2.length : Int))) - i_1)).toNat) ((0, 0, 0) : Int × Int × Int)).length) : Nat) : Int) - (IntKind.wrap .i64 (i_1 + (v_2.length : Int)))).toNat)) ((writeAt (List.take ((i_1 - 0).toNat) (List.map some s_0 ++ List.replicate c none) ++ List.map some (List.replicate ((IntKind.wrap .i64 ((IntKind.wrap .i64 (((s_0.length : Nat) : Int) + (v_2.length : Int))) - i_1)).toNat) ((0, 0, 0) : Int × Int × Int))) (0 + i_1.toNat) (List.take ((((((i_1 - 0).toNat) + ((List.replicate ((IntKind.wrap .i64 ((IntKind.wrap .i64 (((s_0.length : Nat) : Int) + (v_2.length : Int))) - i_1)).toNat) ((0, 0, 0) : Int × Int × Int)).length) : Nat) : Int) - i_1).toNat) v_2)).length) then
            bif Nat.ble ((0 + i_1.toNat) + ((((s_0.length : Nat) : Int) - i_1).toNat)) ((List.map some s_0 ++ List.replicate c none).length) then
            Option.bind (allSome (List.take (min ((((((i_1 - 0).toNat) + ((List.replicate ((IntKind.wrap .i64 ((IntKind.wrap .i64 (((s_0.length : Nat) : Int) + (v_2.length : Int))) - i_1)).toNat) ((0, 0, 0) : Int × Int × Int)).length) : Nat) : Int) - (IntKind.wrap .i64 (i_1 + (v_2.length : Int)))).toNat) ((((s_0.length : Nat) : Int) - i_1).toNat)) (List.drop (0 + i_1.toNat) (List.map some s_0 ++ List.replicate c none)))) fun (z4 : List (Int × Int × Int)) =>
            bif Nat.ble (((i_1 - 0).toNat) + ((List.replicate ((IntKind.wrap .i64 ((IntKind.wrap .i64 (((s_0.length : Nat) : Int) + (v_2.length : Int))) - i_1)).toNat) ((0, 0, 0) : Int × Int × Int)).length)) ((writeAt (writeAt (List.take ((i_1 - 0).toNat) (List.map some s_0 ++ List.replicate c none) ++ List.map some (List.replicate ((IntKind.wrap .i64 ((IntKind.wrap .i64 (((s_0.length : Nat) : Int) + (v_2.length : Int))) - i_1)).toNat) ((0, 0, 0) : Int × Int × Int))) (0 + i_1.toNat) (List.take ((((((i_1 - 0).toNat) + ((List.replicate ((IntKind.wrap .i64 ((IntKind.wrap .i64 (((s_0.length : Nat) : Int) + (v_2.length : Int))) - i_1)).toNat) ((0, 0, 0) : Int × Int × Int)).length) : Nat) : Int) - i_1).toNat) v_2)) (0 + ((IntKind.wrap .i64 (i_1 + (v_2.length : Int))).toNat)) z4).length) then
            Option.bind (allSome (List.take (((i_1 - 0).toNat) + ((List.replicate ((IntKind.wrap .i64 ((IntKind.wrap .i64 (((s_0.length : Nat) : Int) + (v_2.length : Int))) - i_1)).toNat) ((0, 0, 0) : Int × Int × Int)).length)) (writeAt (writeAt (List.take ((i_1 - 0).toNat) (List.map some s_0 ++ List.replicate c none) ++ List.map some (List.replicate ((IntKind.wrap .i64 ((IntKind.wrap .i64 (((s_0.length : Nat) : Int) + (v_2.length : Int))) - i_1)).toNat) ((0, 0, 0) : Int × Int × Int))) (0 + i_1.toNat) (List.take ((((((i_1 - 0).toNat) + ((List.replicate ((IntKind.wrap .i64 ((IntKind.wrap .i64 (((s_0.length : Nat) : Int) + (v_2.length : Int))) - i_1)).toNat) ((0, 0, 0) : Int × Int × Int)).length) : Nat) : Int) - i_1).toNat) v_2)) (0 + ((IntKind.wrap .i64 (i_1 + (v_2.length : Int))).toNat)) z4))) fun (z5 : List (Int × Int × Int)) =>
            some ((z5, ()), ())
            else none
            else none
           else none
          else none
         else none
        else none
       else none
      else none
     else none
    else none
   else
   bif decide (0 ≤ IntKind.wrap .i64 (((s_0.length : Nat) : Int) + (v_2.length : Int))) && decide (IntKind.wrap .i64 (((s_0.length : Nat) : Int) + (v_2.length : Int)) ≤ ((((List.map some s_0 ++ List.replicate c none).length) - 0 : Nat) : Int)) then
    bif (decide (0 ≤ IntKind.wrap .i64 (i_1 + (v_2.length : Int))) && decide (IntKind.wrap .i64 (i_1 + (v_2.length : Int)) ≤ ((((IntKind.wrap .i64 (((s_0.length : Nat) : Int) + (v_2.length : Int))) - 0).toNat : Nat) : Int))) && decide (((((IntKind.wrap .i64 (((s_0.length : Nat) : Int) + (v_2.length : Int))) - 0).toNat : Nat) : Int) ≤ ((((List.map some s_0 ++ List.replicate c none).length) - 0 : Nat) : Int)) then
     bif (decide (0 ≤ IntKind.wrap .i64 (i_1 + (v_2.length : Int))) && decide (IntKind.wrap .i64 (i_1 + (v_2.length : Int)) ≤ ((((IntKind.wrap .i64 (((s_0.length : Nat) : Int) + (v_2.length : Int))) - 0).toNat : Nat) : Int))) && decide (((((IntKind.wrap .i64 (((s_0.length : Nat) : Int) + (v_2.length : Int))) - 0).toNat : Nat) : Int) ≤ ((((List.map some s_0 ++ List.replicate c none).length) - 0 : Nat) : Int)) then
      bif (decide (0 ≤ i_1) && decide (i_1 ≤ ((((IntKind.wrap .i64 (((s_0.length : Nat) : Int) + (v_2.length : Int))) - 0).toNat : Nat) : Int))) && decide (((((IntKind.wrap .i64 (((s_0.length : Nat) : Int) + (v_2.length : Int))) - 0).toNat : Nat) : Int) ≤ ((((List.map some s_0 ++ List.replicate c none).length) - 0 : Nat) : Int)) then
       bif Nat.ble ((0 + ((IntKind.wrap .i64 (i_1 + (v_2.length : Int))).toNat)) + ((((((IntKind.wrap .i64 (((s_0.length : Nat) : Int) + (v_2.length : Int))) - 0).toNat : Nat) : Int) - (IntKind.wrap .i64 (i_1 + (v_2.length : Int)))).toNat)) ((List.map some s_0 ++ List.replicate c none).length) then
        bif Nat.ble ((0 + i_1.toNat) + ((((((IntKind.wrap .i64 (((s_0.length : Nat) : Int) + (v_2.length : Int))) - 0).toNat : Nat) : Int) - i_1).toNat)) ((List.map some s_0 ++ List.replicate c none).length) then
         Option.bind (allSome (List.take (min ((((((IntKind.wrap .i64 (((s_0.length : Nat) : Int) + (v_2.length : Int))) - 0).toNat : Nat) : Int) - (IntKind.wrap .i64 (i_1 + (v_2.length : Int)))).toNat) ((((((IntKind.wrap .i64 (((s_0.length : Nat) : Int) + (v_2.length : Int))) - 0).toNat : Nat) : Int) - i_1).toNat)) (List.drop (0 + i_1.toNat) (List.map some s_0 ++ List.replicate c none)))) fun (z6 : List (Int × Int × Int)) =>
         bif (decide (0 ≤ i_1) && decide (i_1 ≤ ((((IntKind.wrap .i64 (((s_0.length : Nat) : Int) + (v_2.length : Int))) - 0).toNat : Nat) : Int))) && decide (((((IntKind.wrap .i64 (((s_0.length : Nat) : Int) + (v_2.length : Int))) - 0).toNat : Nat) : Int) ≤ ((((writeAt (List.map some s_0 ++ List.replicate c none) (0 + ((IntKind.wrap .i64 (i_1 + (v_2.length : Int))).toNat)) z6).length) - 0 : Nat) : Int)) then
          bif Nat.ble ((0 + i_1.toNat) + ((((((IntKind.wrap .i64 (((s_0.length : Nat) : Int) + (v_2.length : Int))) - 0).toNat : Nat) : Int) - i_1).toNat)) ((writeAt (List.map some s_0 ++ List.replicate c none) (0 + ((IntKind.wrap .i64 (i_1 + (v_2.length : Int))).toNat)) z6).length) then
           bif Nat.ble (((IntKind.wrap .i64 (((s_0.length : Nat) : Int) + (v_2.length : Int))) - 0).toNat) ((writeAt (writeAt (List.map some s_0 ++ List.replicate c none) (0 + ((IntKind.wrap .i64 (i_1 + (v_2.length : Int))).toNat)) z6) (0 + i_1.toNat) (List.take ((((((IntKind.wrap .i64 (((s_0.length : Nat) : Int) + (v_2.length : Int))) - 0).toNat : Nat) : Int) - i_1).toNat) v_2)).length) then
            Option.bind (allSome (List.take (((IntKind.wrap .i64 (((s_0.length : Nat) : Int) + (v_2.length : Int))) - 0).toNat) (writeAt (writeAt (List.map some s_0 ++ List.replicate c none) (0 + ((IntKind.wrap .i64 (i_1 + (v_2.length : Int))).toNat)) z6) (0 + i_1.toNat) (List.take ((((((IntKind.wrap .i64 (((s_0.length : Nat) : Int) + (v_2.length : Int))) - 0).toNat : Nat) : Int) - i_1).toNat) v_2)))) fun (z7 : List (Int × Int × Int)) =>
            some ((z7, ()), ())
           else none
          else none
         else none
        else none
       else none
      else none
     else none
    else none
   else none
  else none
 else none
theorem slices_Insert_Kid_c_eq (c : Nat) (s_0 : List (Int × Int × Int)) (i_1 : Int) (v_2 : List (Int × Int × Int)) : evFn slices_Insert_Kid_Γ tab { slices_Insert_Kid_fi with cap := c } 1 [.ownc 127 t126, .val t2, .own 127 t126] [⟨t24, [true], none⟩] Tryz.f305 (s_0, i_1, v_2, ()) = slices_Insert_Kid_c c s_0 i_1 v_2 := by kernel_rfl
theorem slices_Insert_Kid_c_is (c : Nat) (s_0 : List (Int × Int × Int)) (i_1 : Int) (v_2 : List (Int × Int × Int)) : slices_Insert_Kid_c c s_0 i_1 v_2 = insertC ((0, 0, 0) : Int × Int × Int) c s_0 i_1 v_2 := by kernel_rfl
noncomputable def slices_Insert_Kid (s_0 : List (Int × Int × Int)) (i_1 : Int) (v_2 : List (Int × Int × Int)) : Option (((List (Int × Int × Int)) × Unit) × Unit) := insertR s_0 i_1 v_2
noncomputable def slices_Insert_Kid_e : Ent := ⟨[.ownc 127 t126, .val t2, .own 127 t126], [⟨t24, [true], none⟩], fun x => slices_Insert_Kid x.1 x.2.1 x.2.2.1⟩
theorem slices_Insert_Kid_good : Good tab.ty Tryz.prog 305 slices_Insert_Kid_e := by
  refine fn_goodC (Γ := slices_Insert_Kid_Γ) (fi := slices_Insert_Kid_fi) (n := 1) follows (gcons (gmark Tryz.func305 (by kernel_rfl) (by kernel_rfl)) gnil) tabok Tryz.func305 (by kernel_rfl) (by kernel_rfl) (fun c x r hc h => ?_)
  obtain ⟨s_0, i_1, v_2, _u⟩ := x
  exact (slices_Insert_Kid_c_eq c s_0 i_1 v_2).trans ((slices_Insert_Kid_c_is c s_0 i_1 v_2).trans (insert_law ((0, 0, 0) : Int × Int × Int) c s_0 i_1 v_2 r hc h))
noncomputable def kids_Hear_Γ : Ctx := [(68, slices_Clone_Kid_e), (88, kids_Old_e), (180, kids_place_e), (305, slices_Insert_Kid_e)]
def kids_Hear_fi : Fi := { keep := [], vty := [], vals := [], live := [(0, [0, 3]), (1, [0, 3, 6]), (2, [0, 3, 6, 16]), (3, [4, 5]), (4, [3, 6, 7, 8]), (5, [3, 6, 7, 25]), (6, [6]), (7, [4, 5]), (8, [4, 5])] }
noncomputable def kids_Hear (l_0 : List (Int × Int × Int)) (k_1 : Int × Int × Int) : Option (((List (Int × Int × Int)) × Bool × Unit) × Unit) :=
 Option.bind (slices_Clone_Kid l_0) fun (r1 : ((List (Int × Int × Int)) × Unit) × Unit) =>
 Option.bind (kids_Old l_0 k_1.1 k_1.2.1) fun (r2 : (Bool × Unit) × Unit) =>
 bif r2.1.1 then
  some ((r1.1.1, false, ()), ())
 else
  Option.bind (kids_place l_0 k_1.1) fun (r3 : (Int × Bool × Unit) × Unit) =>
  bif r3.1.2.1 then
   bif decide (0 ≤ r3.1.1) && decide (r3.1.1 < (r1.1.1.length : Int)) then
    bif decide (0 ≤ r3.1.1) && decide (r3.1.1 < (r1.1.1.length : Int)) then
     some ((List.set r1.1.1 r3.1.1.toNat k_1, true, ()), ())
    else none
   else none
  else
   Option.bind (slices_Insert_Kid r1.1.1 r3.1.1 [k_1]) fun (r4 : ((List (Int × Int × Int)) × Unit) × Unit) =>
   some ((r4.1.1, true, ()), ())
theorem kids_Hear_eq (l_0 : List (Int × Int × Int)) (k_1 : Int × Int × Int) : evFn kids_Hear_Γ tab kids_Hear_fi 1 [.val t24, .val t126] [⟨t24, [true], none⟩, ⟨t4, [false], none⟩] Tryz.f247 (l_0, k_1, ()) = kids_Hear l_0 k_1 := by kernel_rfl
noncomputable def kids_Hear_e : Ent := ⟨[.val t24, .val t126], [⟨t24, [true], none⟩, ⟨t4, [false], none⟩], fun x => kids_Hear x.1 x.2.1⟩
theorem kids_Hear_good : Good tab.ty Tryz.prog 247 kids_Hear_e := by
  refine fn_good (Γ := kids_Hear_Γ) (fi := kids_Hear_fi) (n := 1) follows (gcons slices_Clone_Kid_good (gcons kids_Old_good (gcons kids_place_good (gcons slices_Insert_Kid_good gnil)))) tabok Tryz.func247 (by kernel_rfl) (by kernel_rfl) (fun x r h => ?_)
  obtain ⟨l_0, k_1, _u⟩ := x
  exact (kids_Hear_eq l_0 k_1).trans h
noncomputable def tie_node_hears_Γ : Ctx := [(247, kids_Hear_e)]
def tie_node_hears_fi : Fi := { keep := [], vty := [], vals := [], live := [(0, [0, 3]), (1, [0])] }
noncomputable def tie_node_hears (n_0 : (Int × Int × Int × Int × Int × Int × (List Int) × Int × Int × Int × Int × Int × List (Int × Int × Int)) × List (Int × Int × Int × Int × Int × Int × (List Int) × Int × Int × ByteArray)) (m_1 : Int × Int × Int × Int × Int × Int × (List Int) × Int × Int × ByteArray) : Option (Unit × (((Int × Int × Int × Int × Int × Int × (List Int) × Int × Int × Int × Int × Int × List (Int × Int × Int)) × List (Int × Int × Int × Int × Int × Int × (List Int) × Int × Int × ByteArray)) × Unit)) :=
 Option.bind (kids_Hear n_0.1.2.2.2.2.2.2.2.2.2.2.2.2 (m_1.2.1, m_1.2.2.2.1, n_0.1.2.2.1)) fun (r1 : ((List (Int × Int × Int)) × Bool × Unit) × Unit) =>
 some ((), (((n_0.1.1, n_0.1.2.1, n_0.1.2.2.1, n_0.1.2.2.2.1, n_0.1.2.2.2.2.1, n_0.1.2.2.2.2.2.1, n_0.1.2.2.2.2.2.2.1, n_0.1.2.2.2.2.2.2.2.1, n_0.1.2.2.2.2.2.2.2.2.1, n_0.1.2.2.2.2.2.2.2.2.2.1, n_0.1.2.2.2.2.2.2.2.2.2.2.1, n_0.1.2.2.2.2.2.2.2.2.2.2.2.1, r1.1.1), n_0.2), ()))
theorem tie_node_hears_eq (n_0 : (Int × Int × Int × Int × Int × Int × (List Int) × Int × Int × Int × Int × Int × List (Int × Int × Int)) × List (Int × Int × Int × Int × Int × Int × (List Int) × Int × Int × ByteArray)) (m_1 : Int × Int × Int × Int × Int × Int × (List Int) × Int × Int × ByteArray) : evFn tie_node_hears_Γ tab tie_node_hears_fi 1 [.box 143 t142 [false, false, false, false, false, false, false, false, false, false, false, false, false, true], .val t40] [] Tryz.f177 (n_0, m_1, ()) = tie_node_hears n_0 m_1 := by kernel_rfl
noncomputable def tie_node_hears_e : Ent := ⟨[.box 143 t142 [false, false, false, false, false, false, false, false, false, false, false, false, false, true], .val t40], [], fun x => tie_node_hears x.1 x.2.1⟩
theorem tie_node_hears_good : Good tab.ty Tryz.prog 177 tie_node_hears_e := by
  refine fn_good (Γ := tie_node_hears_Γ) (fi := tie_node_hears_fi) (n := 1) follows (gcons kids_Hear_good gnil) tabok Tryz.func177 (by kernel_rfl) (by kernel_rfl) (fun x r h => ?_)
  obtain ⟨n_0, m_1, _u⟩ := x
  exact (tie_node_hears_eq n_0 m_1).trans h
noncomputable def tie_node_attach_Γ : Ctx := [(163, tie_node_tells_e), (176, tie_node_room_e), (177, tie_node_hears_e)]
def tie_node_attach_fi : Fi := { keep := [], vty := [], vals := [], live := [(0, [0, 2, 4]), (1, [0, 2, 4, 10]), (2, [0]), (3, [0, 2, 4]), (4, [0])] }
noncomputable def tie_node_attach (n_0 : (Int × Int × Int × Int × Int × Int × (List Int) × Int × Int × Int × Int × Int × List (Int × Int × Int)) × List (Int × Int × Int × Int × Int × Int × (List Int) × Int × Int × ByteArray)) (m_1 : Int × Int × Int × Int × Int × Int × (List Int) × Int × Int × ByteArray) (lo_2 : Int) : Option (Unit × (((Int × Int × Int × Int × Int × Int × (List Int) × Int × Int × Int × Int × Int × List (Int × Int × Int)) × List (Int × Int × Int × Int × Int × Int × (List Int) × Int × Int × ByteArray)) × Unit)) :=
 Option.bind (tie_node_room n_0 m_1.2.1) fun (r1 : (Bool × Unit) × (((Int × Int × Int × Int × Int × Int × (List Int) × Int × Int × Int × Int × Int × List (Int × Int × Int)) × List (Int × Int × Int × Int × Int × Int × (List Int) × Int × Int × ByteArray)) × Unit)) =>
 bif !r1.1.1 then
  Option.bind (tie_node_tells r1.2.1 3 m_1.2.1 0) fun (r2 : Unit × (((Int × Int × Int × Int × Int × Int × (List Int) × Int × Int × Int × Int × Int × List (Int × Int × Int)) × List (Int × Int × Int × Int × Int × Int × (List Int) × Int × Int × ByteArray)) × Unit)) =>
  some ((), (r2.2.1, ()))
 else
  Option.bind (tie_node_hears r1.2.1 m_1) fun (r3 : Unit × (((Int × Int × Int × Int × Int × Int × (List Int) × Int × Int × Int × Int × Int × List (Int × Int × Int)) × List (Int × Int × Int × Int × Int × Int × (List Int) × Int × Int × ByteArray)) × Unit)) =>
  Option.bind (tie_node_tells r3.2.1 2 m_1.2.1 lo_2) fun (r4 : Unit × (((Int × Int × Int × Int × Int × Int × (List Int) × Int × Int × Int × Int × Int × List (Int × Int × Int)) × List (Int × Int × Int × Int × Int × Int × (List Int) × Int × Int × ByteArray)) × Unit)) =>
  some ((), (r4.2.1, ()))
theorem tie_node_attach_eq (n_0 : (Int × Int × Int × Int × Int × Int × (List Int) × Int × Int × Int × Int × Int × List (Int × Int × Int)) × List (Int × Int × Int × Int × Int × Int × (List Int) × Int × Int × ByteArray)) (m_1 : Int × Int × Int × Int × Int × Int × (List Int) × Int × Int × ByteArray) (lo_2 : Int) : evFn tie_node_attach_Γ tab tie_node_attach_fi 1 [.box 143 t142 [false, false, false, false, false, false, false, false, false, false, false, false, false, true], .val t40, .val t2] [] Tryz.f89 (n_0, m_1, lo_2, ()) = tie_node_attach n_0 m_1 lo_2 := by kernel_rfl
noncomputable def tie_node_attach_e : Ent := ⟨[.box 143 t142 [false, false, false, false, false, false, false, false, false, false, false, false, false, true], .val t40, .val t2], [], fun x => tie_node_attach x.1 x.2.1 x.2.2.1⟩
theorem tie_node_attach_good : Good tab.ty Tryz.prog 89 tie_node_attach_e := by
  refine fn_good (Γ := tie_node_attach_Γ) (fi := tie_node_attach_fi) (n := 1) follows (gcons tie_node_tells_good (gcons tie_node_room_good (gcons tie_node_hears_good gnil))) tabok Tryz.func89 (by kernel_rfl) (by kernel_rfl) (fun x r h => ?_)
  obtain ⟨n_0, m_1, lo_2, _u⟩ := x
  exact (tie_node_attach_eq n_0 m_1 lo_2).trans h
noncomputable def path_Add_Γ : Ctx := [(67, slices_Clone_int_e), (234, path_May_e)]
def path_Add_fi : Fi := { keep := [], vty := [], vals := [], live := [(0, [0, 1]), (1, [6]), (2, [6, 14]), (3, [4, 5]), (4, [4, 5])] }
noncomputable def path_Add (p_0 : List Int) (id_1 : Int) : Option (((List Int) × Bool × Unit) × Unit) :=
 Option.bind (slices_Clone_int p_0) fun (r1 : ((List Int) × Unit) × Unit) =>
 bif Nat.ble (r1.1.1.length + 1) 1073741824 then
  Option.bind (path_May (r1.1.1 ++ [id_1])) fun (r2 : (Bool × Unit) × Unit) =>
  bif !r2.1.1 then
   some (([], false, ()), ())
  else
   some ((r1.1.1 ++ [id_1], true, ()), ())
 else none
theorem path_Add_eq (p_0 : List Int) (id_1 : Int) : evFn path_Add_Γ tab path_Add_fi 1 [.val t23, .val t2] [⟨t23, [true], none⟩, ⟨t4, [false], none⟩] Tryz.f156 (p_0, id_1, ()) = path_Add p_0 id_1 := by kernel_rfl
noncomputable def path_Add_e : Ent := ⟨[.val t23, .val t2], [⟨t23, [true], none⟩, ⟨t4, [false], none⟩], fun x => path_Add x.1 x.2.1⟩
theorem path_Add_good : Good tab.ty Tryz.prog 156 path_Add_e := by
  refine fn_good (Γ := path_Add_Γ) (fi := path_Add_fi) (n := 1) follows (gcons slices_Clone_int_good (gcons path_May_good gnil)) tabok Tryz.func156 (by kernel_rfl) (by kernel_rfl) (fun x r h => ?_)
  obtain ⟨p_0, id_1, _u⟩ := x
  exact (path_Add_eq p_0 id_1).trans h
noncomputable def path_Grand_Γ : Ctx := []
def path_Grand_fi : Fi := { keep := [], vty := [], vals := [], live := [(0, [0]), (1, [0, 5]), (2, [2]), (3, [2])] }
noncomputable def path_Grand (p_0 : List Int) : Option ((Int × Unit) × Unit) :=
 bif decide ((p_0.length : Int) < 2) then
  some ((0, ()), ())
 else
 bif decide (0 ≤ IntKind.wrap .i64 ((p_0.length : Int) - 2)) && decide (IntKind.wrap .i64 ((p_0.length : Int) - 2) < (p_0.length : Int)) then
  some ((List.getD p_0 ((IntKind.wrap .i64 ((p_0.length : Int) - 2)).toNat) 0, ()), ())
 else none
theorem path_Grand_eq (p_0 : List Int) : evFn path_Grand_Γ tab path_Grand_fi 1 [.val t23] [⟨t2, [false], none⟩] Tryz.f248 (p_0, ()) = path_Grand p_0 := by kernel_rfl
noncomputable def path_Grand_e : Ent := ⟨[.val t23], [⟨t2, [false], none⟩], fun x => path_Grand x.1⟩
theorem path_Grand_good : Good tab.ty Tryz.prog 248 path_Grand_e := by
  refine fn_good (Γ := path_Grand_Γ) (fi := path_Grand_fi) (n := 1) follows gnil tabok Tryz.func248 (by kernel_rfl) (by kernel_rfl) (fun x r h => ?_)
  obtain ⟨p_0, _u⟩ := x
  exact (path_Grand_eq p_0).trans h
noncomputable def tie_node_way_Γ : Ctx := [(248, path_Grand_e)]
def tie_node_way_fi : Fi := { keep := [], vty := [], vals := [], live := [(0, [0, 2, 4]), (1, [0]), (2, [0, 23]), (3, [0])] }
noncomputable def tie_node_way (n_0 : (Int × Int × Int × Int × Int × Int × (List Int) × Int × Int × Int × Int × Int × List (Int × Int × Int)) × List (Int × Int × Int × Int × Int × Int × (List Int) × Int × Int × ByteArray)) (m_1 : Int × Int × Int × Int × Int × Int × (List Int) × Int × Int × ByteArray) (p_2 : List Int) : Option (Unit × (((Int × Int × Int × Int × Int × Int × (List Int) × Int × Int × Int × Int × Int × List (Int × Int × Int)) × List (Int × Int × Int × Int × Int × Int × (List Int) × Int × Int × ByteArray)) × Unit)) :=
 Option.bind (path_Grand m_1.2.2.2.2.2.2.1) fun (r1 : (Int × Unit) × Unit) =>
 bif r1.1.1 == 0 then
  some ((), (((n_0.1.1, n_0.1.2.1, n_0.1.2.2.1, n_0.1.2.2.2.1, n_0.1.2.2.2.2.1, 1, p_2, n_0.1.2.2.2.2.2.2.2), n_0.2), ()))
 else
  some ((), (((n_0.1.1, n_0.1.2.1, n_0.1.2.2.1, n_0.1.2.2.2.1, n_0.1.2.2.2.2.1, r1.1.1, p_2, n_0.1.2.2.2.2.2.2.2), n_0.2), ()))
theorem tie_node_way_eq (n_0 : (Int × Int × Int × Int × Int × Int × (List Int) × Int × Int × Int × Int × Int × List (Int × Int × Int)) × List (Int × Int × Int × Int × Int × Int × (List Int) × Int × Int × ByteArray)) (m_1 : Int × Int × Int × Int × Int × Int × (List Int) × Int × Int × ByteArray) (p_2 : List Int) : evFn tie_node_way_Γ tab tie_node_way_fi 1 [.box 143 t142 [false, false, false, false, false, false, false, false, false, false, false, false, false, true], .val t40, .val t23] [] Tryz.f178 (n_0, m_1, p_2, ()) = tie_node_way n_0 m_1 p_2 := by kernel_rfl
noncomputable def tie_node_way_e : Ent := ⟨[.box 143 t142 [false, false, false, false, false, false, false, false, false, false, false, false, false, true], .val t40, .val t23], [], fun x => tie_node_way x.1 x.2.1 x.2.2.1⟩
theorem tie_node_way_good : Good tab.ty Tryz.prog 178 tie_node_way_e := by
  refine fn_good (Γ := tie_node_way_Γ) (fi := tie_node_way_fi) (n := 1) follows (gcons path_Grand_good gnil) tabok Tryz.func178 (by kernel_rfl) (by kernel_rfl) (fun x r h => ?_)
  obtain ⟨n_0, m_1, p_2, _u⟩ := x
  exact (tie_node_way_eq n_0 m_1 p_2).trans h
noncomputable def tie_node_accept_Γ : Ctx := [(156, path_Add_e), (163, tie_node_tells_e), (178, tie_node_way_e)]
def tie_node_accept_fi : Fi := { keep := [], vty := [(4, 23), (71, 23)], vals := [], live := [(0, [0, 3, 15, 16, 17, 18, 19, 20, 52, 53, 54]), (1, [0, 3, 21, 52, 53, 54]), (2, [0, 3, 29]), (3, [0]), (4, [0, 3, 52, 53, 54]), (5, [0, 3, 4, 5, 52, 53, 54]), (6, [0, 3, 4, 55]), (7, [0]), (8, [0]), (9, [0, 3]), (10, [0])] }
noncomputable def tie_node_accept_x (x : PDs [.box 143 t142 [false, false, false, false, false, false, false, false, false, false, false, false, false, true], .val t40]) : Option (RDs [] × ODs [.box 143 t142 [false, false, false, false, false, false, false, false, false, false, false, false, false, true], .val t40]) := evFn tie_node_accept_Γ tab tie_node_accept_fi 1099511627776 [.box 143 t142 [false, false, false, false, false, false, false, false, false, false, false, false, false, true], .val t40] [] Tryz.f90 x
noncomputable def tie_node_accept (x0 : (Int × Int × Int × Int × Int × Int × (List Int) × Int × Int × Int × Int × Int × List (Int × Int × Int)) × List (Int × Int × Int × Int × Int × Int × (List Int) × Int × Int × ByteArray)) (x1 : Int × Int × Int × Int × Int × Int × (List Int) × Int × Int × ByteArray) : Option (Unit × (((Int × Int × Int × Int × Int × Int × (List Int) × Int × Int × Int × Int × Int × List (Int × Int × Int)) × List (Int × Int × Int × Int × Int × Int × (List Int) × Int × Int × ByteArray)) × Unit)) := tie_node_accept_x (x0, x1, ())
noncomputable def tie_node_accept_e : Ent := ⟨[.box 143 t142 [false, false, false, false, false, false, false, false, false, false, false, false, false, true], .val t40], [], fun x => tie_node_accept x.1 x.2.1⟩
theorem tie_node_accept_good : Good tab.ty Tryz.prog 90 tie_node_accept_e := by
  refine fn_good (Γ := tie_node_accept_Γ) (fi := tie_node_accept_fi) (n := 1099511627776) follows (gcons path_Add_good (gcons tie_node_tells_good (gcons tie_node_way_good gnil))) tabok Tryz.func90 (by kernel_rfl) (by kernel_rfl) (fun x r h => ?_)
  obtain ⟨x0, x1, _u⟩ := x
  exact h
noncomputable def tie_node_refuse_Γ : Ctx := [(74, tie_node_lets_e)]
def tie_node_refuse_fi : Fi := { keep := [], vty := [], vals := [], live := [(0, [0, 3]), (1, [0, 5]), (2, [0, 5, 6]), (3, [0]), (4, [0]), (5, [0, 26]), (6, [0])] }
noncomputable def tie_node_refuse (n_0 : (Int × Int × Int × Int × Int × Int × (List Int) × Int × Int × Int × Int × Int × List (Int × Int × Int)) × List (Int × Int × Int × Int × Int × Int × (List Int) × Int × Int × ByteArray)) (m_1 : Int × Int × Int × Int × Int × Int × (List Int) × Int × Int × ByteArray) : Option (Unit × (((Int × Int × Int × Int × Int × Int × (List Int) × Int × Int × Int × Int × Int × List (Int × Int × Int)) × List (Int × Int × Int × Int × Int × Int × (List Int) × Int × Int × ByteArray)) × Unit)) :=
 bif m_1.2.1 == n_0.1.2.2.2.2.2.2.2.2.2.1 then
  some ((), (((n_0.1.1, n_0.1.2.1, n_0.1.2.2.1, n_0.1.2.2.2.1, n_0.1.2.2.2.2.1, n_0.1.2.2.2.2.2.1, n_0.1.2.2.2.2.2.2.1, n_0.1.2.2.2.2.2.2.2.1, n_0.1.2.2.2.2.2.2.2.2.1, 0, n_0.1.2.2.2.2.2.2.2.2.2.2.1, IntKind.wrap .i64 (n_0.1.2.2.2.2.2.2.2.2.2.2.2.1 + 1), n_0.1.2.2.2.2.2.2.2.2.2.2.2.2), n_0.2), ()))
 else
 bif m_1.2.1 == n_0.1.2.2.2.1 then
  Option.bind (tie_node_lets n_0 0) fun (r1 : Unit × (((Int × Int × Int × Int × Int × Int × (List Int) × Int × Int × Int × Int × Int × List (Int × Int × Int)) × List (Int × Int × Int × Int × Int × Int × (List Int) × Int × Int × ByteArray)) × Unit)) =>
  some ((), (r1.2.1, ()))
 else
  some ((), (n_0, ()))
theorem tie_node_refuse_eq (n_0 : (Int × Int × Int × Int × Int × Int × (List Int) × Int × Int × Int × Int × Int × List (Int × Int × Int)) × List (Int × Int × Int × Int × Int × Int × (List Int) × Int × Int × ByteArray)) (m_1 : Int × Int × Int × Int × Int × Int × (List Int) × Int × Int × ByteArray) : evFn tie_node_refuse_Γ tab tie_node_refuse_fi 1 [.box 143 t142 [false, false, false, false, false, false, false, false, false, false, false, false, false, true], .val t40] [] Tryz.f91 (n_0, m_1, ()) = tie_node_refuse n_0 m_1 := by kernel_rfl
noncomputable def tie_node_refuse_e : Ent := ⟨[.box 143 t142 [false, false, false, false, false, false, false, false, false, false, false, false, false, true], .val t40], [], fun x => tie_node_refuse x.1 x.2.1⟩
theorem tie_node_refuse_good : Good tab.ty Tryz.prog 91 tie_node_refuse_e := by
  refine fn_good (Γ := tie_node_refuse_Γ) (fi := tie_node_refuse_fi) (n := 1) follows (gcons tie_node_lets_good gnil) tabok Tryz.func91 (by kernel_rfl) (by kernel_rfl) (fun x r h => ?_)
  obtain ⟨n_0, m_1, _u⟩ := x
  exact (tie_node_refuse_eq n_0 m_1).trans h
noncomputable def tie_node_beatUp_Γ : Ctx := [(95, kids_Find_e), (163, tie_node_tells_e), (177, tie_node_hears_e)]
def tie_node_beatUp_fi : Fi := { keep := [], vty := [], vals := [], live := [(0, [0, 3]), (1, [0, 3, 5]), (2, [0, 3, 17]), (3, [0]), (4, [0])] }
noncomputable def tie_node_beatUp (n_0 : (Int × Int × Int × Int × Int × Int × (List Int) × Int × Int × Int × Int × Int × List (Int × Int × Int)) × List (Int × Int × Int × Int × Int × Int × (List Int) × Int × Int × ByteArray)) (m_1 : Int × Int × Int × Int × Int × Int × (List Int) × Int × Int × ByteArray) : Option (Unit × (((Int × Int × Int × Int × Int × Int × (List Int) × Int × Int × Int × Int × Int × List (Int × Int × Int)) × List (Int × Int × Int × Int × Int × Int × (List Int) × Int × Int × ByteArray)) × Unit)) :=
 Option.bind (kids_Find n_0.1.2.2.2.2.2.2.2.2.2.2.2.2 m_1.2.1) fun (r1 : ((Int × Int × Int) × Bool × Unit) × Unit) =>
 bif r1.1.2.1 then
  Option.bind (tie_node_hears n_0 m_1) fun (r2 : Unit × (((Int × Int × Int × Int × Int × Int × (List Int) × Int × Int × Int × Int × Int × List (Int × Int × Int)) × List (Int × Int × Int × Int × Int × Int × (List Int) × Int × Int × ByteArray)) × Unit)) =>
  some ((), (r2.2.1, ()))
 else
  Option.bind (tie_node_tells n_0 3 m_1.2.1 0) fun (r3 : Unit × (((Int × Int × Int × Int × Int × Int × (List Int) × Int × Int × Int × Int × Int × List (Int × Int × Int)) × List (Int × Int × Int × Int × Int × Int × (List Int) × Int × Int × ByteArray)) × Unit)) =>
  some ((), (r3.2.1, ()))
theorem tie_node_beatUp_eq (n_0 : (Int × Int × Int × Int × Int × Int × (List Int) × Int × Int × Int × Int × Int × List (Int × Int × Int)) × List (Int × Int × Int × Int × Int × Int × (List Int) × Int × Int × ByteArray)) (m_1 : Int × Int × Int × Int × Int × Int × (List Int) × Int × Int × ByteArray) : evFn tie_node_beatUp_Γ tab tie_node_beatUp_fi 1 [.box 143 t142 [false, false, false, false, false, false, false, false, false, false, false, false, false, true], .val t40] [] Tryz.f92 (n_0, m_1, ()) = tie_node_beatUp n_0 m_1 := by kernel_rfl
noncomputable def tie_node_beatUp_e : Ent := ⟨[.box 143 t142 [false, false, false, false, false, false, false, false, false, false, false, false, false, true], .val t40], [], fun x => tie_node_beatUp x.1 x.2.1⟩
theorem tie_node_beatUp_good : Good tab.ty Tryz.prog 92 tie_node_beatUp_e := by
  refine fn_good (Γ := tie_node_beatUp_Γ) (fi := tie_node_beatUp_fi) (n := 1) follows (gcons kids_Find_good (gcons tie_node_tells_good (gcons tie_node_hears_good gnil))) tabok Tryz.func92 (by kernel_rfl) (by kernel_rfl) (fun x r h => ?_)
  obtain ⟨n_0, m_1, _u⟩ := x
  exact (tie_node_beatUp_eq n_0 m_1).trans h
noncomputable def tie_node_beatDn_Γ : Ctx := [(74, tie_node_lets_e), (156, path_Add_e), (163, tie_node_tells_e), (178, tie_node_way_e)]
def tie_node_beatDn_fi : Fi := { keep := [], vty := [], vals := [], live := [(0, [0, 3]), (1, [0, 3, 13]), (2, [0]), (3, [0, 3, 4, 5]), (4, [0, 3, 4, 30]), (5, [0]), (6, [0]), (7, [0, 3]), (8, [0, 3, 54]), (9, [0])] }
noncomputable def tie_node_beatDn (n_0 : (Int × Int × Int × Int × Int × Int × (List Int) × Int × Int × Int × Int × Int × List (Int × Int × Int)) × List (Int × Int × Int × Int × Int × Int × (List Int) × Int × Int × ByteArray)) (m_1 : Int × Int × Int × Int × Int × Int × (List Int) × Int × Int × ByteArray) : Option (Unit × (((Int × Int × Int × Int × Int × Int × (List Int) × Int × Int × Int × Int × Int × List (Int × Int × Int)) × List (Int × Int × Int × Int × Int × Int × (List Int) × Int × Int × ByteArray)) × Unit)) :=
 bif m_1.2.1 != n_0.1.2.2.2.1 then
  Option.bind (tie_node_tells n_0 6 m_1.2.1 0) fun (r1 : Unit × (((Int × Int × Int × Int × Int × Int × (List Int) × Int × Int × Int × Int × Int × List (Int × Int × Int)) × List (Int × Int × Int × Int × Int × Int × (List Int) × Int × Int × ByteArray)) × Unit)) =>
  some ((), (r1.2.1, ()))
 else
  Option.bind (path_Add m_1.2.2.2.2.2.2.1 n_0.1.1) fun (r2 : ((List Int) × Bool × Unit) × Unit) =>
  bif !r2.1.2.1 then
   Option.bind (tie_node_tells n_0 6 m_1.2.1 0) fun (r3 : Unit × (((Int × Int × Int × Int × Int × Int × (List Int) × Int × Int × Int × Int × Int × List (Int × Int × Int)) × List (Int × Int × Int × Int × Int × Int × (List Int) × Int × Int × ByteArray)) × Unit)) =>
   Option.bind (tie_node_lets r3.2.1 1) fun (r4 : Unit × (((Int × Int × Int × Int × Int × Int × (List Int) × Int × Int × Int × Int × Int × List (Int × Int × Int)) × List (Int × Int × Int × Int × Int × Int × (List Int) × Int × Int × ByteArray)) × Unit)) =>
   some ((), (r4.2.1, ()))
  else
   Option.bind (tie_node_way n_0 m_1 r2.1.1) fun (r5 : Unit × (((Int × Int × Int × Int × Int × Int × (List Int) × Int × Int × Int × Int × Int × List (Int × Int × Int)) × List (Int × Int × Int × Int × Int × Int × (List Int) × Int × Int × ByteArray)) × Unit)) =>
   bif decide (IntKind.wrap .i64 (r5.2.1.1.2.2.1 - m_1.2.2.2.2.2.1) > r5.2.1.1.2.2.2.2.2.2.2.2.1) then
    some ((), (((r5.2.1.1.1, r5.2.1.1.2.1, r5.2.1.1.2.2.1, r5.2.1.1.2.2.2.1, r5.2.1.1.2.2.2.2.1, r5.2.1.1.2.2.2.2.2.1, r5.2.1.1.2.2.2.2.2.2.1, m_1.2.2.2.2.1, IntKind.wrap .i64 (r5.2.1.1.2.2.1 - m_1.2.2.2.2.2.1), r5.2.1.1.2.2.2.2.2.2.2.2.2), r5.2.1.2), ()))
   else
    some ((), (r5.2.1, ()))
theorem tie_node_beatDn_eq (n_0 : (Int × Int × Int × Int × Int × Int × (List Int) × Int × Int × Int × Int × Int × List (Int × Int × Int)) × List (Int × Int × Int × Int × Int × Int × (List Int) × Int × Int × ByteArray)) (m_1 : Int × Int × Int × Int × Int × Int × (List Int) × Int × Int × ByteArray) : evFn tie_node_beatDn_Γ tab tie_node_beatDn_fi 1 [.box 143 t142 [false, false, false, false, false, false, false, false, false, false, false, false, false, true], .val t40] [] Tryz.f93 (n_0, m_1, ()) = tie_node_beatDn n_0 m_1 := by kernel_rfl
noncomputable def tie_node_beatDn_e : Ent := ⟨[.box 143 t142 [false, false, false, false, false, false, false, false, false, false, false, false, false, true], .val t40], [], fun x => tie_node_beatDn x.1 x.2.1⟩
theorem tie_node_beatDn_good : Good tab.ty Tryz.prog 93 tie_node_beatDn_e := by
  refine fn_good (Γ := tie_node_beatDn_Γ) (fi := tie_node_beatDn_fi) (n := 1) follows (gcons tie_node_lets_good (gcons path_Add_good (gcons tie_node_tells_good (gcons tie_node_way_good gnil)))) tabok Tryz.func93 (by kernel_rfl) (by kernel_rfl) (fun x r h => ?_)
  obtain ⟨n_0, m_1, _u⟩ := x
  exact (tie_node_beatDn_eq n_0 m_1).trans h
noncomputable def kids_Drop_fn1_Γ : Ctx := []
def kids_Drop_fn1_fi : Fi := { keep := [], vty := [], vals := [], live := [(0, [1, 2]), (1, [3])] }
noncomputable def kids_Drop_fn1 (k_0 : Int × Int × Int) (x_1 : Int) : Option ((Bool × Unit) × Unit) :=
 some ((k_0.1 == x_1, ()), ())
theorem kids_Drop_fn1_eq (k_0 : Int × Int × Int) (x_1 : Int) : evFn kids_Drop_fn1_Γ tab kids_Drop_fn1_fi 1 [.val t126, .rbox t2] [⟨t4, [false], none⟩] Tryz.f179 (k_0, x_1, ()) = kids_Drop_fn1 k_0 x_1 := by kernel_rfl
noncomputable def kids_Drop_fn1_e : Ent := ⟨[.val t126, .rbox t2], [⟨t4, [false], none⟩], fun x => kids_Drop_fn1 x.1 x.2.1⟩
theorem kids_Drop_fn1_good : Good tab.ty Tryz.prog 179 kids_Drop_fn1_e := by
  refine fn_good (Γ := kids_Drop_fn1_Γ) (fi := kids_Drop_fn1_fi) (n := 1) follows gnil tabok Tryz.func179 (by kernel_rfl) (by kernel_rfl) (fun x r h => ?_)
  obtain ⟨k_0, x_1, _u⟩ := x
  exact (kids_Drop_fn1_eq k_0 x_1).trans h
noncomputable def kids_Drop_Γ : Ctx := [(68, slices_Clone_Kid_e), (161, slices_DeleteFunc_Kid_e), (179, kids_Drop_fn1_e)]
def kids_Drop_fi : Fi := { keep := [], vty := [], vals := [], live := [(0, [0, 3]), (1, [4])] }
noncomputable def kids_Drop (l_0 : List (Int × Int × Int)) (id_1 : Int) : Option (((List (Int × Int × Int)) × Unit) × Unit) :=
 Option.bind (slices_Clone_Kid l_0) fun (r1 : ((List (Int × Int × Int)) × Unit) × Unit) =>
 Option.bind (slices_DeleteFunc_Kid r1.1.1 (fun x => (kids_Drop_fn1 x.1 id_1).bind fun r => some (r.1.1, ()))) fun (r2 : ((List (Int × Int × Int)) × Unit) × Unit) =>
 some ((r2.1.1, ()), ())
theorem kids_Drop_eq (l_0 : List (Int × Int × Int)) (id_1 : Int) : evFn kids_Drop_Γ tab kids_Drop_fi 1 [.val t24, .val t2] [⟨t24, [true], none⟩] Tryz.f94 (l_0, id_1, ()) = kids_Drop l_0 id_1 := by kernel_rfl
noncomputable def kids_Drop_e : Ent := ⟨[.val t24, .val t2], [⟨t24, [true], none⟩], fun x => kids_Drop x.1 x.2.1⟩
theorem kids_Drop_good : Good tab.ty Tryz.prog 94 kids_Drop_e := by
  refine fn_good (Γ := kids_Drop_Γ) (fi := kids_Drop_fi) (n := 1) follows (gcons slices_Clone_Kid_good (gcons slices_DeleteFunc_Kid_good (gcons kids_Drop_fn1_good gnil))) tabok Tryz.func94 (by kernel_rfl) (by kernel_rfl) (fun x r h => ?_)
  obtain ⟨l_0, id_1, _u⟩ := x
  exact (kids_Drop_eq l_0 id_1).trans h
noncomputable def tie_Comes_Γ : Ctx := [(71, tie_of_e), (74, tie_node_lets_e), (88, kids_Old_e), (89, tie_node_attach_e), (90, tie_node_accept_e), (91, tie_node_refuse_e), (92, tie_node_beatUp_e), (93, tie_node_beatDn_e), (94, kids_Drop_e)]
def tie_Comes_fi : Fi := { keep := [], vty := [(7, 37)], vals := [], live := [(0, [2, 3, 4, 6, 22, 23, 24, 25, 26, 27, 28, 29, 30, 31, 32, 33, 34, 35, 36, 37, 38, 39, 52, 53, 54, 55, 56, 57, 58, 59, 62, 63, 64, 65, 66, 67, 68, 69]), (1, [2, 4, 6, 8, 22, 23, 24, 25, 26, 27, 28, 29, 30, 31, 32, 33, 34, 35, 36, 37, 38, 39, 52, 53, 54, 55, 56, 57, 58, 59, 62, 63, 64, 65, 66, 67, 68, 69]), (2, [2, 4, 6, 8, 40, 52, 53, 54, 55, 56, 57, 58, 59, 62, 63, 64, 65, 66, 67, 68, 69]), (3, [6, 7]), (4, [2, 4, 6, 8, 70]), (5, [2, 4, 6, 8]), (6, [2, 4, 6, 8, 74]), (7, [2, 4, 6, 8, 74, 75]), (8, [6, 8]), (9, [4, 6, 8, 74, 81]), (10, [6, 8]), (11, [4, 6, 8, 74, 86]), (12, [6, 8]), (13, [4, 6, 8, 74, 91]), (14, [6, 8]), (15, [4, 6, 8, 74, 96]), (16, [6, 8]), (17, [4, 6, 8, 101]), (18, [6, 8]), (19, [6, 7])] }
noncomputable def tie_Comes_x (x : PDs [.val t25, .val t40, .val t2]) : Option (RDs [⟨t25, [false, false, false, false, false, false, false, false, false, false, false, false, false], none⟩, ⟨t37, [true], none⟩] × ODs [.val t25, .val t40, .val t2]) := evFn tie_Comes_Γ tab tie_Comes_fi 1099511627776 [.val t25, .val t40, .val t2] [⟨t25, [false, false, false, false, false, false, false, false, false, false, false, false, false], none⟩, ⟨t37, [true], none⟩] Tryz.f35 x
noncomputable def tie_Comes (x0 : Int × Int × Int × Int × Int × Int × (List Int) × Int × Int × Int × Int × Int × List (Int × Int × Int)) (x1 : Int × Int × Int × Int × Int × Int × (List Int) × Int × Int × ByteArray) (x2 : Int) : Option (((Int × Int × Int × Int × Int × Int × (List Int) × Int × Int × Int × Int × Int × List (Int × Int × Int)) × (List (Int × Int × Int × Int × Int × Int × (List Int) × Int × Int × ByteArray)) × Unit) × Unit) := tie_Comes_x (x0, x1, x2, ())
noncomputable def tie_Comes_e : Ent := ⟨[.val t25, .val t40, .val t2], [⟨t25, [false, false, false, false, false, false, false, false, false, false, false, false, false], none⟩, ⟨t37, [true], none⟩], fun x => tie_Comes x.1 x.2.1 x.2.2.1⟩
theorem tie_Comes_good : Good tab.ty Tryz.prog 35 tie_Comes_e := by
  refine fn_good (Γ := tie_Comes_Γ) (fi := tie_Comes_fi) (n := 1099511627776) follows (gcons tie_of_good (gcons tie_node_lets_good (gcons kids_Old_good (gcons tie_node_attach_good (gcons tie_node_accept_good (gcons tie_node_refuse_good (gcons tie_node_beatUp_good (gcons tie_node_beatDn_good (gcons kids_Drop_good gnil))))))))) tabok Tryz.func35 (by kernel_rfl) (by kernel_rfl) (fun x r h => ?_)
  obtain ⟨x0, x1, x2, _u⟩ := x
  exact h
noncomputable def slices_BinarySearchFunc_Item_Item_int_Γ : Ctx := []
def slices_BinarySearchFunc_Item_Item_int_fi : Fi := { keep := [], vty := [(12, 27), (25, 27), (41, 27)], vals := [], live := [(0, [0, 1, 2, 40, 41, 42, 43, 44, 45, 46, 47]), (1, [0, 1, 2, 8, 40, 41, 42, 43, 44, 45, 46, 47]), (2, [0, 1, 2, 8, 9, 10, 40, 41, 42, 43, 44, 45, 46, 47]), (3, [0, 1, 2, 8, 9, 10, 17, 40, 41, 42, 43, 44, 45, 46, 47]), (4, [0, 1, 2, 8, 9, 10, 11, 40, 41, 42, 43, 44, 45, 46, 47]), (5, [0, 1, 2, 8, 9, 10, 11, 31, 40, 41, 42, 43, 44, 45, 46, 47]), (6, [0, 1, 2, 8, 9, 10, 40, 41, 42, 43, 44, 45, 46, 47]), (7, [0, 1, 2, 8, 9, 10, 40, 41, 42, 43, 44, 45, 46, 47]), (8, [6, 7])] }
noncomputable def slices_BinarySearchFunc_Item_Item_int_x (x : PDs [.val t27, .val t2, .fn [t135, t2] [t2]]) : Option (RDs [⟨t2, [false], none⟩, ⟨t4, [false], none⟩] × ODs [.val t27, .val t2, .fn [t135, t2] [t2]]) := evFn slices_BinarySearchFunc_Item_Item_int_Γ tab slices_BinarySearchFunc_Item_Item_int_fi 1099511627776 [.val t27, .val t2, .fn [t135, t2] [t2]] [⟨t2, [false], none⟩, ⟨t4, [false], none⟩] Tryz.f252 x
noncomputable def slices_BinarySearchFunc_Item_Item_int (x0 : List (Int × ByteArray)) (x1 : Int) (x2 : ((Int × ByteArray) × Int × Unit → Option (Int × Unit))) : Option ((Int × Bool × Unit) × Unit) := slices_BinarySearchFunc_Item_Item_int_x (x0, x1, x2, ())
noncomputable def slices_BinarySearchFunc_Item_Item_int_e : Ent := ⟨[.val t27, .val t2, .fn [t135, t2] [t2]], [⟨t2, [false], none⟩, ⟨t4, [false], none⟩], fun x => slices_BinarySearchFunc_Item_Item_int x.1 x.2.1 x.2.2.1⟩
theorem slices_BinarySearchFunc_Item_Item_int_good : Good tab.ty Tryz.prog 252 slices_BinarySearchFunc_Item_Item_int_e := by
  refine fn_good (Γ := slices_BinarySearchFunc_Item_Item_int_Γ) (fi := slices_BinarySearchFunc_Item_Item_int_fi) (n := 1099511627776) follows gnil tabok Tryz.func252 (by kernel_rfl) (by kernel_rfl) (fun x r h => ?_)
  obtain ⟨x0, x1, x2, _u⟩ := x
  exact h
noncomputable def ring_Get_fn1_Γ : Ctx := [(251, cmp_Compare_int_e)]
def ring_Get_fn1_fi : Fi := { keep := [], vty := [], vals := [], live := [(0, [1, 2]), (1, [4])] }
noncomputable def ring_Get_fn1 (i_0 : Int × ByteArray) (seq_1 : Int) : Option ((Int × Unit) × Unit) :=
 Option.bind (cmp_Compare_int i_0.1 seq_1) fun (r1 : (Int × Unit) × Unit) =>
 some ((r1.1.1, ()), ())
theorem ring_Get_fn1_eq (i_0 : Int × ByteArray) (seq_1 : Int) : evFn ring_Get_fn1_Γ tab ring_Get_fn1_fi 1 [.val t135, .val t2] [⟨t2, [false], none⟩] Tryz.f253 (i_0, seq_1, ()) = ring_Get_fn1 i_0 seq_1 := by kernel_rfl
noncomputable def ring_Get_fn1_e : Ent := ⟨[.val t135, .val t2], [⟨t2, [false], none⟩], fun x => ring_Get_fn1 x.1 x.2.1⟩
theorem ring_Get_fn1_good : Good tab.ty Tryz.prog 253 ring_Get_fn1_e := by
  refine fn_good (Γ := ring_Get_fn1_Γ) (fi := ring_Get_fn1_fi) (n := 1) follows (gcons cmp_Compare_int_good gnil) tabok Tryz.func253 (by kernel_rfl) (by kernel_rfl) (fun x r h => ?_)
  obtain ⟨i_0, seq_1, _u⟩ := x
  exact (ring_Get_fn1_eq i_0 seq_1).trans h
noncomputable def ring_Get_Γ : Ctx := [(252, slices_BinarySearchFunc_Item_Item_int_e), (253, ring_Get_fn1_e)]
def ring_Get_fi : Fi := { keep := [], vty := [], vals := [], live := [(0, [0, 1]), (1, [0, 6, 7]), (2, [0, 6, 15]), (3, [4, 5]), (4, [4, 5])] }
noncomputable def ring_Get (l_0 : List (Int × ByteArray)) (seq_1 : Int) : Option ((ByteArray × Bool × Unit) × Unit) :=
 Option.bind (slices_BinarySearchFunc_Item_Item_int l_0 seq_1 (fun x => (ring_Get_fn1 x.1 x.2.1).bind fun r => some (r.1.1, ()))) fun (r1 : (Int × Bool × Unit) × Unit) =>
 bif !r1.1.2.1 then
  some (((⟨#[]⟩ : ByteArray), false, ()), ())
 else
 bif decide (0 ≤ r1.1.1) && decide (r1.1.1 < (l_0.length : Int)) then
  some (((List.getD l_0 r1.1.1.toNat (0, (⟨#[]⟩ : ByteArray))).2, true, ()), ())
 else none
theorem ring_Get_eq (l_0 : List (Int × ByteArray)) (seq_1 : Int) : evFn ring_Get_Γ tab ring_Get_fi 1 [.val t27, .val t2] [⟨t9, [false], none⟩, ⟨t4, [false], none⟩] Tryz.f181 (l_0, seq_1, ()) = ring_Get l_0 seq_1 := by kernel_rfl
noncomputable def ring_Get_e : Ent := ⟨[.val t27, .val t2], [⟨t9, [false], none⟩, ⟨t4, [false], none⟩], fun x => ring_Get x.1 x.2.1⟩
theorem ring_Get_good : Good tab.ty Tryz.prog 181 ring_Get_e := by
  refine fn_good (Γ := ring_Get_Γ) (fi := ring_Get_fi) (n := 1) follows (gcons slices_BinarySearchFunc_Item_Item_int_good (gcons ring_Get_fn1_good gnil)) tabok Tryz.func181 (by kernel_rfl) (by kernel_rfl) (fun x r h => ?_)
  obtain ⟨l_0, seq_1, _u⟩ := x
  exact (ring_Get_eq l_0 seq_1).trans h
noncomputable def nak_Serves_Γ : Ctx := [(181, ring_Get_e)]
def nak_Serves_fi : Fi := { keep := [], vty := [(6, 27), (7, 152), (40, 27), (55, 152), (60, 152), (70, 152), (76, 152), (82, 27), (83, 152)], vals := [], live := [(0, [1, 2, 3, 6, 7, 25, 26, 27, 28, 48, 49, 52, 53, 60, 61, 62, 63, 64, 65, 66, 67, 68]), (1, [1, 2, 3, 6, 7, 14, 25, 26, 27, 28, 48, 49, 52, 53, 60, 61, 62, 63, 64, 65, 66, 67, 68]), (2, [6, 7]), (3, [1, 2, 3, 6, 7, 25, 26, 27, 28, 48, 49, 52, 53, 60, 61, 62, 63, 64, 65, 66, 67, 68]), (4, [1, 2, 3, 6, 7, 8, 25, 26, 27, 28, 48, 49, 52, 53, 60, 61, 62, 63, 64, 65, 66, 67, 68]), (5, [1, 2, 3, 6, 7, 8, 25, 26, 27, 28, 29, 48, 49, 52, 53, 60, 61, 62, 63, 64, 65, 66, 67, 68]), (6, [1, 2, 3, 6, 7, 8, 25, 26, 27, 28, 48, 49, 52, 53, 60, 61, 62, 63, 64, 65, 66, 67, 68]), (7, [1, 2, 3, 6, 7, 8, 9, 10, 25, 26, 27, 28, 48, 49, 52, 53, 60, 61, 62, 63, 64, 65, 66, 67, 68]), (8, [1, 2, 3, 6, 7, 8, 9, 10, 25, 26, 27, 28, 39, 48, 49, 52, 53, 60, 61, 62, 63, 64, 65, 66, 67, 68]), (9, [1, 2, 3, 6, 7, 8, 10, 25, 26, 27, 28, 48, 49, 52, 53, 60, 61, 62, 63, 64, 65, 66, 67, 68]), (10, [1, 2, 3, 6, 7, 8, 25, 26, 27, 28, 48, 49, 52, 53, 54, 60, 61, 62, 63, 64, 65, 66, 67, 68]), (11, [1, 2, 3, 6, 7, 8, 11, 25, 26, 27, 28, 48, 49, 52, 53, 60, 61, 62, 63, 64, 65, 66, 67, 68]), (12, [1, 2, 3, 6, 7, 8, 11, 25, 26, 27, 28, 48, 49, 52, 53, 60, 61, 62, 63, 64, 65, 66, 67, 68, 69]), (13, [1, 2, 3, 6, 7, 8, 25, 26, 27, 28, 48, 49, 52, 53, 60, 61, 62, 63, 64, 65, 66, 67, 68]), (14, [1, 2, 3, 6, 7, 8, 25, 26, 27, 28, 48, 49, 52, 53, 60, 61, 62, 63, 64, 65, 66, 67, 68]), (15, [6, 7])] }
noncomputable def nak_Serves_x (x : PDs [.val t31, .val t2, .val t2]) : Option (RDs [⟨t27, [true], none⟩, ⟨t152, [true], none⟩] × ODs [.val t31, .val t2, .val t2]) := evFn nak_Serves_Γ tab nak_Serves_fi 1099511627776 [.val t31, .val t2, .val t2] [⟨t27, [true], none⟩, ⟨t152, [true], none⟩] Tryz.f96 x
noncomputable def nak_Serves (x0 : Int × Int × (List (Int × ByteArray)) × (List (Int × ByteArray)) × (List (Int × Int × Int × ByteArray × Int)) × Int × Int) (x1 : Int) (x2 : Int) : Option (((List (Int × ByteArray)) × (List (Int × Int)) × Unit) × Unit) := nak_Serves_x (x0, x1, x2, ())
noncomputable def nak_Serves_e : Ent := ⟨[.val t31, .val t2, .val t2], [⟨t27, [true], none⟩, ⟨t152, [true], none⟩], fun x => nak_Serves x.1 x.2.1 x.2.2.1⟩
theorem nak_Serves_good : Good tab.ty Tryz.prog 96 nak_Serves_e := by
  refine fn_good (Γ := nak_Serves_Γ) (fi := nak_Serves_fi) (n := 1099511627776) follows (gcons ring_Get_good gnil) tabok Tryz.func96 (by kernel_rfl) (by kernel_rfl) (fun x r h => ?_)
  obtain ⟨x0, x1, x2, _u⟩ := x
  exact h
noncomputable def node_serves_Γ : Ctx := [(32, node_tells_e), (95, kids_Find_e), (96, nak_Serves_e)]
def node_serves_fi : Fi := { keep := [], vty := [(4, 37), (7, 27), (8, 152), (41, 27), (47, 37), (59, 152), (65, 37), (77, 37)], vals := [], live := [(0, [2, 3, 4, 25, 26, 27, 28, 29]), (1, [2, 3, 4, 5, 6, 25, 26, 27, 28, 29]), (2, [2, 3, 4, 30]), (3, [4]), (4, [2, 3, 4, 7, 8]), (5, [2, 3, 4, 8, 41, 42, 43]), (6, [2, 3, 4, 8, 41, 42, 43, 44]), (7, [2, 3, 4, 8, 10, 41, 42, 43]), (8, [2, 3, 4, 8, 41, 42, 43]), (9, [2, 3, 4, 8, 41, 42, 43]), (10, [2, 3, 4, 59, 60, 61]), (11, [2, 3, 4, 59, 60, 61, 62]), (12, [2, 3, 4, 12, 59, 60, 61]), (13, [2, 3, 4, 59, 60, 61]), (14, [2, 3, 4, 59, 60, 61]), (15, [4])] }
noncomputable def node_serves_x (x : PDs [.val t33, .val t40]) : Option (RDs [⟨t37, [true], none⟩] × ODs [.val t33, .val t40]) := evFn node_serves_Γ tab node_serves_fi 1099511627776 [.val t33, .val t40] [⟨t37, [true], none⟩] Tryz.f36 x
noncomputable def node_serves (x0 : Bool × Int × ByteArray × (Int × Int × Int × Int × Int × Int × (List Int) × Int × Int × Int × Int × Int × List (Int × Int × Int)) × (Int × Int × (List (Int × ByteArray)) × (List (Int × ByteArray)) × (List (Int × Int × Int × ByteArray × Int)) × Int × Int) × Int) (x1 : Int × Int × Int × Int × Int × Int × (List Int) × Int × Int × ByteArray) : Option (((List (Int × Int × Int × Int × Int × Int × (List Int) × Int × Int × ByteArray)) × Unit) × Unit) := node_serves_x (x0, x1, ())
noncomputable def node_serves_e : Ent := ⟨[.val t33, .val t40], [⟨t37, [true], none⟩], fun x => node_serves x.1 x.2.1⟩
theorem node_serves_good : Good tab.ty Tryz.prog 36 node_serves_e := by
  refine fn_good (Γ := node_serves_Γ) (fi := node_serves_fi) (n := 1099511627776) follows (gcons node_tells_good (gcons kids_Find_good (gcons nak_Serves_good gnil))) tabok Tryz.func36 (by kernel_rfl) (by kernel_rfl) (fun x r h => ?_)
  obtain ⟨x0, x1, _u⟩ := x
  exact h
noncomputable def feed_Knows_Γ : Ctx := [(79, feed_twin_e)]
def feed_Knows_fi : Fi := { keep := [], vty := [], vals := [], live := [(0, [1, 2, 4, 11, 12]), (1, [1, 2, 4, 11, 12]), (2, [1, 2, 4, 13]), (3, [2, 4]), (4, [4])] }
noncomputable def feed_Knows (f_0 : Int × Int × (List (Int × ByteArray)) × (List (Int × ByteArray)) × (List (Int × Int × Int × ByteArray × Int)) × Int × Int) (top_1 : Int) : Option (((Int × Int × (List (Int × ByteArray)) × (List (Int × ByteArray)) × (List (Int × Int × Int × ByteArray × Int)) × Int × Int) × Unit) × Unit) :=
 Option.bind (feed_twin f_0) fun (r1 : ((Int × Int × (List (Int × ByteArray)) × (List (Int × ByteArray)) × (List (Int × Int × Int × ByteArray × Int)) × Int × Int) × Unit) × Unit) =>
 bif decide (r1.1.1.1 > 0) then
  bif decide (top_1 ≤ 1000000) then
   some (((r1.1.1.1, if top_1 > r1.1.1.2.1 then top_1 else r1.1.1.2.1, r1.1.1.2.2), ()), ())
  else
   some ((r1.1.1, ()), ())
 else
  some ((r1.1.1, ()), ())
theorem feed_Knows_eq (f_0 : Int × Int × (List (Int × ByteArray)) × (List (Int × ByteArray)) × (List (Int × Int × Int × ByteArray × Int)) × Int × Int) (top_1 : Int) : evFn feed_Knows_Γ tab feed_Knows_fi 1 [.val t31, .val t2] [⟨t31, [false, false, true, true, true, false, false], none⟩] Tryz.f97 (f_0, top_1, ()) = feed_Knows f_0 top_1 := by kernel_rfl
noncomputable def feed_Knows_e : Ent := ⟨[.val t31, .val t2], [⟨t31, [false, false, true, true, true, false, false], none⟩], fun x => feed_Knows x.1 x.2.1⟩
theorem feed_Knows_good : Good tab.ty Tryz.prog 97 feed_Knows_e := by
  refine fn_good (Γ := feed_Knows_Γ) (fi := feed_Knows_fi) (n := 1) follows (gcons feed_twin_good gnil) tabok Tryz.func97 (by kernel_rfl) (by kernel_rfl) (fun x r h => ?_)
  obtain ⟨f_0, top_1, _u⟩ := x
  exact (feed_Knows_eq f_0 top_1).trans h
noncomputable def feed_Begin_Γ : Ctx := [(79, feed_twin_e), (97, feed_Knows_e)]
def feed_Begin_fi : Fi := { keep := [], vty := [], vals := [], live := [(0, [1, 2, 4, 17, 18]), (1, [1, 2, 4, 7, 17, 18]), (2, [4]), (3, [1, 2, 4, 17, 18]), (4, [1, 2, 4, 19]), (5, [2, 4]), (6, [4])] }
noncomputable def feed_Begin (f_0 : Int × Int × (List (Int × ByteArray)) × (List (Int × ByteArray)) × (List (Int × Int × Int × ByteArray × Int)) × Int × Int) (next_1 : Int) : Option (((Int × Int × (List (Int × ByteArray)) × (List (Int × ByteArray)) × (List (Int × Int × Int × ByteArray × Int)) × Int × Int) × Unit) × Unit) :=
 bif decide (f_0.1 > 0) then
  Option.bind (feed_Knows f_0 (IntKind.wrap .i64 (next_1 - 1))) fun (r1 : ((Int × Int × (List (Int × ByteArray)) × (List (Int × ByteArray)) × (List (Int × Int × Int × ByteArray × Int)) × Int × Int) × Unit) × Unit) =>
  some ((r1.1.1, ()), ())
 else
  Option.bind (feed_twin f_0) fun (r2 : ((Int × Int × (List (Int × ByteArray)) × (List (Int × ByteArray)) × (List (Int × Int × Int × ByteArray × Int)) × Int × Int) × Unit) × Unit) =>
  bif decide (next_1 ≥ 1) then
   bif decide (next_1 ≤ 1000000) then
    some (((next_1, r2.1.1.2), ()), ())
   else
    some ((r2.1.1, ()), ())
  else
   some ((r2.1.1, ()), ())
theorem feed_Begin_eq (f_0 : Int × Int × (List (Int × ByteArray)) × (List (Int × ByteArray)) × (List (Int × Int × Int × ByteArray × Int)) × Int × Int) (next_1 : Int) : evFn feed_Begin_Γ tab feed_Begin_fi 1 [.val t31, .val t2] [⟨t31, [false, false, true, true, true, false, false], none⟩] Tryz.f98 (f_0, next_1, ()) = feed_Begin f_0 next_1 := by kernel_rfl
noncomputable def feed_Begin_e : Ent := ⟨[.val t31, .val t2], [⟨t31, [false, false, true, true, true, false, false], none⟩], fun x => feed_Begin x.1 x.2.1⟩
theorem feed_Begin_good : Good tab.ty Tryz.prog 98 feed_Begin_e := by
  refine fn_good (Γ := feed_Begin_Γ) (fi := feed_Begin_fi) (n := 1) follows (gcons feed_twin_good (gcons feed_Knows_good gnil)) tabok Tryz.func98 (by kernel_rfl) (by kernel_rfl) (fun x r h => ?_)
  obtain ⟨f_0, next_1, _u⟩ := x
  exact (feed_Begin_eq f_0 next_1).trans h
noncomputable def win_Put_fn1_Γ : Ctx := [(251, cmp_Compare_int_e)]
def win_Put_fn1_fi : Fi := { keep := [], vty := [], vals := [], live := [(0, [1, 2]), (1, [4])] }
noncomputable def win_Put_fn1 (x_0 : Int × ByteArray) (seq_1 : Int) : Option ((Int × Unit) × Unit) :=
 Option.bind (cmp_Compare_int x_0.1 seq_1) fun (r1 : (Int × Unit) × Unit) =>
 some ((r1.1.1, ()), ())
theorem win_Put_fn1_eq (x_0 : Int × ByteArray) (seq_1 : Int) : evFn win_Put_fn1_Γ tab win_Put_fn1_fi 1 [.val t135, .val t2] [⟨t2, [false], none⟩] Tryz.f254 (x_0, seq_1, ()) = win_Put_fn1 x_0 seq_1 := by kernel_rfl
noncomputable def win_Put_fn1_e : Ent := ⟨[.val t135, .val t2], [⟨t2, [false], none⟩], fun x => win_Put_fn1 x.1 x.2.1⟩
theorem win_Put_fn1_good : Good tab.ty Tryz.prog 254 win_Put_fn1_e := by
  refine fn_good (Γ := win_Put_fn1_Γ) (fi := win_Put_fn1_fi) (n := 1) follows (gcons cmp_Compare_int_good gnil) tabok Tryz.func254 (by kernel_rfl) (by kernel_rfl) (fun x r h => ?_)
  obtain ⟨x_0, seq_1, _u⟩ := x
  exact (win_Put_fn1_eq x_0 seq_1).trans h
noncomputable def slices_Insert_Item_Γ : Ctx := [(255, markE)]
def slices_Insert_Item_fi : Fi := { keep := [], vty := [], vals := [], live := [(0, [0, 1, 2]), (1, [0, 1, 2]), (2, [0, 1, 2, 7]), (3, [0, 1, 2, 7, 16]), (4, [6]), (5, [0, 1, 2, 7, 8]), (6, [0, 1, 2, 7, 8, 22]), (7, [6]), (8, [0, 1, 2, 7, 8, 31]), (9, [0, 1, 2, 7, 9]), (10, [0, 1, 7, 9]), (11, [9]), (12, [6]), (13, [0, 1, 2, 7, 8]), (14, [0, 1, 2, 7, 8, 68]), (15, [0, 1, 2]), (16, [0]), (17, [6]), (18, [0, 1, 7]), (19, [0]), (20, [6])] }
noncomputable def slices_Insert_Item_c (c : Nat) (s_0 : List (Int × ByteArray)) (i_1 : Int) (v_2 : List (Int × ByteArray)) : Option (((List (Int × ByteArray)) × Unit) × Unit) :=
 bif (decide (0 ≤ i_1) && decide (i_1 ≤ ((s_0.length : Nat) : Int))) && decide (((s_0.length : Nat) : Int) ≤ ((((List.map some s_0 ++ List.replicate c none).length) - 0 : Nat) : Int)) then
  bif (v_2.length : Int) == 0 then
   bif Nat.ble s_0.length ((List.map some s_0 ++ List.replicate c none).length) then
    Option.bind (allSome (List.take s_0.length (List.map some s_0 ++ List.replicate c none))) fun (z1 : List (Int × ByteArray)) =>
    some ((z1, ()), ())
   else none
  else
  bif i_1 == ((s_0.length : Nat) : Int) then
   bif Nat.ble (0 + s_0.length) ((List.map some s_0 ++ List.replicate c none).length) then
    bif Nat.ble (s_0.length + v_2.length) ((List.map some s_0 ++ List.replicate c none).length) then
     bif Nat.ble (s_0.length + v_2.length) ((writeAt (List.map some s_0 ++ List.replicate c none) s_0.length v_2).length) then
      Option.bind (allSome (List.take (s_0.length + v_2.length) (writeAt (List.map some s_0 ++ List.replicate c none) s_0.length v_2))) fun (z2 : List (Int × ByteArray)) =>
      some ((z2, ()), ())
     else none
    else
    bif Nat.ble (s_0.length + v_2.length) 1073741824 then
     Option.bind (allSome (List.take s_0.length (List.map some s_0 ++ List.replicate c none))) fun (z3 : List (Int × ByteArray)) =>
     some ((z3 ++ v_2, ()), ())
    else none
   else none
  else
  bif Nat.ble (0 + s_0.length) ((List.map some s_0 ++ List.replicate c none).length) then
   bif decide (IntKind.wrap .i64 (((s_0.length : Nat) : Int) + (v_2.length : Int)) > ((((List.map some s_0 ++ List.replicate c none).length) - 0 : Nat) : Int)) then
    bif decide (0 ≤ i_1) && decide (i_1 ≤ ((((List.map some s_0 ++ List.replicate c none).length) - 0 : Nat) : Int)) then
     bif Nat.ble (0 + ((i_1 - 0).toNat)) ((List.map some s_0 ++ List.replicate c none).length) then
      bif decide (0 < IntKind.wrap .i64 ((IntKind.wrap .i64 (((s_0.length : Nat) : Int) + (v_2.length : Int))) - i_1)) && true && Nat.blt ((List.map some s_0 ++ List.replicate c none).length) (((i_1 - 0).toNat) + ((List.replicate ((IntKind.wrap .i64 ((IntKind.wrap .i64 (((s_0.length : Nat) : Int) + (v_2.length : Int))) - i_1)).toNat) ((0, (⟨#[]⟩ : ByteArray)) : Int × ByteArray)).length)) && Nat.ble (((List.map some s_0 ++ List.replicate c none).length) + ((List.replicate ((IntKind.wrap .i64 ((IntKind.wrap .i64 (((s_0.length : Nat) : Int) + (v_2.length : Int))) - i_1)).toNat) ((0, (⟨#[]⟩ : ByteArray)) : Int × ByteArray)).length)) 536870912 then
       bif (decide (0 ≤ i_1) && decide (i_1 ≤ ((((i_1 - 0).toNat) + ((List.replicate ((IntKind.wrap .i64 ((IntKind.wrap .i64 (((s_0.length : Nat) : Int) + (v_2.length : Int))) - i_1)).toNat) ((0, (⟨#[]⟩ : ByteArray)) : Int × ByteArray)).length) : Nat) : Int))) && decide (((((i_1 - 0).toNat) + ((List.replicate ((IntKind.wrap .i64 ((IntKind.wrap .i64 (((s_0.length : Nat) : Int) + (v_2.length : Int))) - i_1)).toNat) ((0, (⟨#[]⟩ : ByteArray)) : Int × ByteArray)).length) : Nat) : Int) ≤ ((((List.take ((i_1 - 0).toNat) (List.map some s_0 ++ List.replicate c none) ++ List.map some (List.replicate ((IntKind.wrap .i64 ((IntKind.wrap .i64 (((s_0.length : Nat) : Int) + (v_2.length : Int))) - i_1)).toNat) ((0, (⟨#[]⟩ : ByteArray)) : Int × ByteArray))).length) - 0 : Nat) : Int)) then
        bif Nat.ble ((0 + i_1.toNat) + ((((((i_1 - 0).toNat) + ((List.replicate ((IntKind.wrap .i64 ((IntKind.wrap .i64 (((s_0.length : Nat) : Int) + (v_2.length : Int))) - i_1)).toNat) ((0, (⟨#[]⟩ : ByteArray)) : Int × ByteArray)).length) : Nat) : Int) - i_1).toNat)) ((List.take ((i_1 - 0).toNat) (List.map some s_0 ++ List.replicate c none) ++ List.map some (List.replicate ((IntKind.wrap .i64 ((IntKind.wrap .i64 (((s_0.length : Nat) : Int) + (v_2.length : Int))) - i_1)).toNat) ((0, (⟨#[]⟩ : ByteArray)) : Int × ByteArray))).length) then
         bif (decide (0 ≤ IntKind.wrap .i64 (i_1 + (v_2.length : Int))) && decide (IntKind.wrap .i64 (i_1 + (v_2.length : Int)) ≤ ((((i_1 - 0).toNat) + ((List.replicate ((IntKind.wrap .i64 ((IntKind.wrap .i64 (((s_0.length : Nat) : Int) + (v_2.length : Int))) - i_1)).toNat) ((0, (⟨#[]⟩ : ByteArray)) : Int × ByteArray)).length) : Nat) : Int))) && decide (((((i_1 - 0).toNat) + ((List.replicate ((IntKind.wrap .i64 ((IntKind.wrap .i64 (((s_0.length : Nat) : Int) + (v_2.length : Int))) - i_1)).toNat) ((0, (⟨#[]⟩ : ByteArray)) : Int × ByteArray)).length) : Nat) : Int) ≤ ((((writeAt (List.take ((i_1 - 0).toNat) (List.map some s_0 ++ List.replicate c none) ++ List.map some (List.replicate ((IntKind.wrap .i64 ((IntKind.wrap .i64 (((s_0.length : Nat) : Int) + (v_2.length : Int))) - i_1)).toNat) ((0, (⟨#[]⟩ : ByteArray)) : Int × ByteArray))) (0 + i_1.toNat) (List.take ((((((i_1 - 0).toNat) + ((List.replicate ((IntKind.wrap .i64 ((IntKind.wrap .i64 (((s_0.length : Nat) : Int) + (v_2.length : Int))) - i_1)).toNat) ((0, (⟨#[]⟩ : ByteArray)) : Int × ByteArray)).length) : Nat) : Int) - i_1).toNat) v_2)).length) - 0 : Nat) : Int)) then
          bif (decide (0 ≤ i_1) && decide (i_1 ≤ ((s_0.length : Nat) : Int))) && decide (((s_0.length : Nat) : Int) ≤ ((((List.map some s_0 ++ List.replicate c none).length) - 0 : Nat) : Int)) then
           bif Nat.ble ((0 + ((IntKind.wrap .i64 (i_1 + (v_2.length : Int))).toNat)) + ((((((i_1 - 0).toNat) + ((List.replicate ((IntKind.wrap .i64 ((IntKind.wrap .i64 (((s_0.length : Nat) : Int) + (v_2.length : Int))) - i_1)).toNat) ((0, (⟨#[]⟩ : ByteArray)) : Int × ByteArray)).length) : Nat) : Int) - (IntKind.wrap .i64 (i_1 + (v_2.length : Int)))).toNat)) ((writeAt (List.take ((i_1 - 0).toNat) (List.map some s_0 ++ List.replicate c none) ++ List.map some (List.replicate ((IntKind.wrap .i64 ((IntKind.wrap .i64 (((s_0.length : Nat) : Int) + (v_2.length : Int))) - i_1)).toNat) ((0, (⟨#[]⟩ : ByteArray)) : Int × ByteArray))) (0 + i_1.toNat) (List.take ((((((i_1 - 0).toNat) + ((List.replicate ((IntKind.wrap .i64 ((IntKind.wrap .i64 (((s_0.length : Nat) : Int) + (v_2.length : Int))) - i_1)).toNat) ((0, (⟨#[]⟩ : ByteArray)) : Int × ByteArray)).length) : Nat) : Int) - i_1).toNat) v_2)).length) then
            bif Nat.ble ((0 + i_1.toNat) + ((((s_0.length : Nat) : Int) - i_1).toNat)) ((List.map some s_0 ++ List.replicate c none).length) then
            Option.bind (allSome (List.take (min ((((((i_1 - 0).toNat) + ((List.replicate ((IntKind.wrap .i64 ((IntKind.wrap .i64 (((s_0.length : Nat) : Int) + (v_2.length : Int))) - i_1)).toNat) ((0, (⟨#[]⟩ : ByteArray)) : Int × ByteArray)).length) : Nat) : Int) - (IntKind.wrap .i64 (i_1 + (v_2.length : Int)))).toNat) ((((s_0.length : Nat) : Int) - i_1).toNat)) (List.drop (0 + i_1.toNat) (List.map some s_0 ++ List.replicate c none)))) fun (z4 : List (Int × ByteArray)) =>
            bif Nat.ble (((i_1 - 0).toNat) + ((List.replicate ((IntKind.wrap .i64 ((IntKind.wrap .i64 (((s_0.length : Nat) : Int) + (v_2.length : Int))) - i_1)).toNat) ((0, (⟨#[]⟩ : ByteArray)) : Int × ByteArray)).length)) ((writeAt (writeAt (List.take ((i_1 - 0).toNat) (List.map some s_0 ++ List.replicate c none) ++ List.map some (List.replicate ((IntKind.wrap .i64 ((IntKind.wrap .i64 (((s_0.length : Nat) : Int) + (v_2.length : Int))) - i_1)).toNat) ((0, (⟨#[]⟩ : ByteArray)) : Int × ByteArray))) (0 + i_1.toNat) (List.take ((((((i_1 - 0).toNat) + ((List.replicate ((IntKind.wrap .i64 ((IntKind.wrap .i64 (((s_0.length : Nat) : Int) + (v_2.length : Int))) - i_1)).toNat) ((0, (⟨#[]⟩ : ByteArray)) : Int × ByteArray)).length) : Nat) : Int) - i_1).toNat) v_2)) (0 + ((IntKind.wrap .i64 (i_1 + (v_2.length : Int))).toNat)) z4).length) then
            Option.bind (allSome (List.take (((i_1 - 0).toNat) + ((List.replicate ((IntKind.wrap .i64 ((IntKind.wrap .i64 (((s_0.length : Nat) : Int) + (v_2.length : Int))) - i_1)).toNat) ((0, (⟨#[]⟩ : ByteArray)) : Int × ByteArray)).length)) (writeAt (writeAt (List.take ((i_1 - 0).toNat) (List.map some s_0 ++ List.replicate c none) ++ List.map some (List.replicate ((IntKind.wrap .i64 ((IntKind.wrap .i64 (((s_0.length : Nat) : Int) + (v_2.length : Int))) - i_1)).toNat) ((0, (⟨#[]⟩ : ByteArray)) : Int × ByteArray))) (0 + i_1.toNat) (List.take ((((((i_1 - 0).toNat) + ((List.replicate ((IntKind.wrap .i64 ((IntKind.wrap .i64 (((s_0.length : Nat) : Int) + (v_2.length : Int))) - i_1)).toNat) ((0, (⟨#[]⟩ : ByteArray)) : Int × ByteArray)).length) : Nat) : Int) - i_1).toNat) v_2)) (0 + ((IntKind.wrap .i64 (i_1 + (v_2.length : Int))).toNat)) z4))) fun (z5 : List (Int × ByteArray)) =>
            some ((z5, ()), ())
            else none
            else none
           else none
          else none
         else none
        else none
       else none
      else none
     else none
    else none
   else
   bif decide (0 ≤ IntKind.wrap .i64 (((s_0.length : Nat) : Int) + (v_2.length : Int))) && decide (IntKind.wrap .i64 (((s_0.length : Nat) : Int) + (v_2.length : Int)) ≤ ((((List.map some s_0 ++ List.replicate c none).length) - 0 : Nat) : Int)) then
    bif (decide (0 ≤ IntKind.wrap .i64 (i_1 + (v_2.length : Int))) && decide (IntKind.wrap .i64 (i_1 + (v_2.length : Int)) ≤ ((((IntKind.wrap .i64 (((s_0.length : Nat) : Int) + (v_2.length : Int))) - 0).toNat : Nat) : Int))) && decide (((((IntKind.wrap .i64 (((s_0.length : Nat) : Int) + (v_2.length : Int))) - 0).toNat : Nat) : Int) ≤ ((((List.map some s_0 ++ List.replicate c none).length) - 0 : Nat) : Int)) then
     bif (decide (0 ≤ IntKind.wrap .i64 (i_1 + (v_2.length : Int))) && decide (IntKind.wrap .i64 (i_1 + (v_2.length : Int)) ≤ ((((IntKind.wrap .i64 (((s_0.length : Nat) : Int) + (v_2.length : Int))) - 0).toNat : Nat) : Int))) && decide (((((IntKind.wrap .i64 (((s_0.length : Nat) : Int) + (v_2.length : Int))) - 0).toNat : Nat) : Int) ≤ ((((List.map some s_0 ++ List.replicate c none).length) - 0 : Nat) : Int)) then
      bif (decide (0 ≤ i_1) && decide (i_1 ≤ ((((IntKind.wrap .i64 (((s_0.length : Nat) : Int) + (v_2.length : Int))) - 0).toNat : Nat) : Int))) && decide (((((IntKind.wrap .i64 (((s_0.length : Nat) : Int) + (v_2.length : Int))) - 0).toNat : Nat) : Int) ≤ ((((List.map some s_0 ++ List.replicate c none).length) - 0 : Nat) : Int)) then
       bif Nat.ble ((0 + ((IntKind.wrap .i64 (i_1 + (v_2.length : Int))).toNat)) + ((((((IntKind.wrap .i64 (((s_0.length : Nat) : Int) + (v_2.length : Int))) - 0).toNat : Nat) : Int) - (IntKind.wrap .i64 (i_1 + (v_2.length : Int)))).toNat)) ((List.map some s_0 ++ List.replicate c none).length) then
        bif Nat.ble ((0 + i_1.toNat) + ((((((IntKind.wrap .i64 (((s_0.length : Nat) : Int) + (v_2.length : Int))) - 0).toNat : Nat) : Int) - i_1).toNat)) ((List.map some s_0 ++ List.replicate c none).length) then
         Option.bind (allSome (List.take (min ((((((IntKind.wrap .i64 (((s_0.length : Nat) : Int) + (v_2.length : Int))) - 0).toNat : Nat) : Int) - (IntKind.wrap .i64 (i_1 + (v_2.length : Int)))).toNat) ((((((IntKind.wrap .i64 (((s_0.length : Nat) : Int) + (v_2.length : Int))) - 0).toNat : Nat) : Int) - i_1).toNat)) (List.drop (0 + i_1.toNat) (List.map some s_0 ++ List.replicate c none)))) fun (z6 : List (Int × ByteArray)) =>
         bif (decide (0 ≤ i_1) && decide (i_1 ≤ ((((IntKind.wrap .i64 (((s_0.length : Nat) : Int) + (v_2.length : Int))) - 0).toNat : Nat) : Int))) && decide (((((IntKind.wrap .i64 (((s_0.length : Nat) : Int) + (v_2.length : Int))) - 0).toNat : Nat) : Int) ≤ ((((writeAt (List.map some s_0 ++ List.replicate c none) (0 + ((IntKind.wrap .i64 (i_1 + (v_2.length : Int))).toNat)) z6).length) - 0 : Nat) : Int)) then
          bif Nat.ble ((0 + i_1.toNat) + ((((((IntKind.wrap .i64 (((s_0.length : Nat) : Int) + (v_2.length : Int))) - 0).toNat : Nat) : Int) - i_1).toNat)) ((writeAt (List.map some s_0 ++ List.replicate c none) (0 + ((IntKind.wrap .i64 (i_1 + (v_2.length : Int))).toNat)) z6).length) then
           bif Nat.ble (((IntKind.wrap .i64 (((s_0.length : Nat) : Int) + (v_2.length : Int))) - 0).toNat) ((writeAt (writeAt (List.map some s_0 ++ List.replicate c none) (0 + ((IntKind.wrap .i64 (i_1 + (v_2.length : Int))).toNat)) z6) (0 + i_1.toNat) (List.take ((((((IntKind.wrap .i64 (((s_0.length : Nat) : Int) + (v_2.length : Int))) - 0).toNat : Nat) : Int) - i_1).toNat) v_2)).length) then
            Option.bind (allSome (List.take (((IntKind.wrap .i64 (((s_0.length : Nat) : Int) + (v_2.length : Int))) - 0).toNat) (writeAt (writeAt (List.map some s_0 ++ List.replicate c none) (0 + ((IntKind.wrap .i64 (i_1 + (v_2.length : Int))).toNat)) z6) (0 + i_1.toNat) (List.take ((((((IntKind.wrap .i64 (((s_0.length : Nat) : Int) + (v_2.length : Int))) - 0).toNat : Nat) : Int) - i_1).toNat) v_2)))) fun (z7 : List (Int × ByteArray)) =>
            some ((z7, ()), ())
           else none
          else none
         else none
        else none
       else none
      else none
     else none
    else none
   else none
  else none
 else none
theorem slices_Insert_Item_c_eq (c : Nat) (s_0 : List (Int × ByteArray)) (i_1 : Int) (v_2 : List (Int × ByteArray)) : evFn slices_Insert_Item_Γ tab { slices_Insert_Item_fi with cap := c } 1 [.ownc 136 t135, .val t2, .own 136 t135] [⟨t27, [true], none⟩] Tryz.f255 (s_0, i_1, v_2, ()) = slices_Insert_Item_c c s_0 i_1 v_2 := by kernel_rfl
theorem slices_Insert_Item_c_is (c : Nat) (s_0 : List (Int × ByteArray)) (i_1 : Int) (v_2 : List (Int × ByteArray)) : slices_Insert_Item_c c s_0 i_1 v_2 = insertC ((0, (⟨#[]⟩ : ByteArray)) : Int × ByteArray) c s_0 i_1 v_2 := by kernel_rfl
noncomputable def slices_Insert_Item (s_0 : List (Int × ByteArray)) (i_1 : Int) (v_2 : List (Int × ByteArray)) : Option (((List (Int × ByteArray)) × Unit) × Unit) := insertR s_0 i_1 v_2
noncomputable def slices_Insert_Item_e : Ent := ⟨[.ownc 136 t135, .val t2, .own 136 t135], [⟨t27, [true], none⟩], fun x => slices_Insert_Item x.1 x.2.1 x.2.2.1⟩
theorem slices_Insert_Item_good : Good tab.ty Tryz.prog 255 slices_Insert_Item_e := by
  refine fn_goodC (Γ := slices_Insert_Item_Γ) (fi := slices_Insert_Item_fi) (n := 1) follows (gcons (gmark Tryz.func255 (by kernel_rfl) (by kernel_rfl)) gnil) tabok Tryz.func255 (by kernel_rfl) (by kernel_rfl) (fun c x r hc h => ?_)
  obtain ⟨s_0, i_1, v_2, _u⟩ := x
  exact (slices_Insert_Item_c_eq c s_0 i_1 v_2).trans ((slices_Insert_Item_c_is c s_0 i_1 v_2).trans (insert_law ((0, (⟨#[]⟩ : ByteArray)) : Int × ByteArray) c s_0 i_1 v_2 r hc h))
noncomputable def win_Put_Γ : Ctx := [(69, slices_Clone_Item_e), (252, slices_BinarySearchFunc_Item_Item_int_e), (254, win_Put_fn1_e), (255, slices_Insert_Item_e)]
def win_Put_fi : Fi := { keep := [], vty := [], vals := [], live := [(0, [0, 1, 5, 22, 23, 24, 25, 28, 29, 30, 31, 32]), (1, [0, 1, 5, 8, 22, 23, 24, 25, 28, 29, 30, 31, 32]), (2, [1, 5, 8, 9, 10, 22, 23, 24, 25, 28, 29, 30, 31, 32]), (3, [5, 8, 9, 33]), (4, [6, 7]), (5, [6, 7])] }
noncomputable def win_Put (l_0 : List (Int × ByteArray)) (next_1 : Int) (i_2 : Int × ByteArray) : Option (((List (Int × ByteArray)) × Bool × Unit) × Unit) :=
 Option.bind (slices_Clone_Item l_0) fun (r1 : ((List (Int × ByteArray)) × Unit) × Unit) =>
 Option.bind (slices_BinarySearchFunc_Item_Item_int l_0 i_2.1 (fun x => (win_Put_fn1 x.1 x.2.1).bind fun r => some (r.1.1, ()))) fun (r2 : (Int × Bool × Unit) × Unit) =>
 bif r2.1.2.1 then
  some ((r1.1.1, false, ()), ())
 else
 bif decide (i_2.1 < next_1) then
  some ((r1.1.1, false, ()), ())
 else
 bif decide (IntKind.wrap .i64 (i_2.1 - next_1) ≥ 8) then
  some ((r1.1.1, false, ()), ())
 else
  Option.bind (slices_Insert_Item r1.1.1 r2.1.1 [i_2]) fun (r3 : ((List (Int × ByteArray)) × Unit) × Unit) =>
  some ((r3.1.1, true, ()), ())
theorem win_Put_eq (l_0 : List (Int × ByteArray)) (next_1 : Int) (i_2 : Int × ByteArray) : evFn win_Put_Γ tab win_Put_fi 1 [.val t27, .val t2, .val t135] [⟨t27, [true], none⟩, ⟨t4, [false], none⟩] Tryz.f182 (l_0, next_1, i_2, ()) = win_Put l_0 next_1 i_2 := by kernel_rfl
noncomputable def win_Put_e : Ent := ⟨[.val t27, .val t2, .val t135], [⟨t27, [true], none⟩, ⟨t4, [false], none⟩], fun x => win_Put x.1 x.2.1 x.2.2.1⟩
theorem win_Put_good : Good tab.ty Tryz.prog 182 win_Put_e := by
  refine fn_good (Γ := win_Put_Γ) (fi := win_Put_fi) (n := 1) follows (gcons slices_Clone_Item_good (gcons slices_BinarySearchFunc_Item_Item_int_good (gcons win_Put_fn1_good (gcons slices_Insert_Item_good gnil)))) tabok Tryz.func182 (by kernel_rfl) (by kernel_rfl) (fun x r h => ?_)
  obtain ⟨l_0, next_1, i_2, _u⟩ := x
  exact (win_Put_eq l_0 next_1 i_2).trans h
noncomputable def feed_Comes_Γ : Ctx := [(79, feed_twin_e), (82, nak_Goes_e), (97, feed_Knows_e), (182, win_Put_e)]
def feed_Comes_fi : Fi := { keep := [], vty := [], vals := [], live := [(0, [2, 3, 4, 9, 10, 11, 14, 15, 16, 19, 20, 21, 22]), (1, [2, 3, 4, 23]), (2, [4]), (3, [2, 3, 4]), (4, [2, 4]), (5, [2, 4]), (6, [4])] }
noncomputable def feed_Comes (f_0 : Int × Int × (List (Int × ByteArray)) × (List (Int × ByteArray)) × (List (Int × Int × Int × ByteArray × Int)) × Int × Int) (i_1 : Int × ByteArray) : Option (((Int × Int × (List (Int × ByteArray)) × (List (Int × ByteArray)) × (List (Int × Int × Int × ByteArray × Int)) × Int × Int) × Unit) × Unit) :=
 bif f_0.1 == 0 then
  Option.bind (feed_twin f_0) fun (r1 : ((Int × Int × (List (Int × ByteArray)) × (List (Int × ByteArray)) × (List (Int × Int × Int × ByteArray × Int)) × Int × Int) × Unit) × Unit) =>
  some ((r1.1.1, ()), ())
 else
 bif decide (i_1.1 < 1) then
  Option.bind (feed_twin f_0) fun (r2 : ((Int × Int × (List (Int × ByteArray)) × (List (Int × ByteArray)) × (List (Int × Int × Int × ByteArray × Int)) × Int × Int) × Unit) × Unit) =>
  some ((r2.1.1, ()), ())
 else
 bif decide (i_1.1 > 1000000) then
  Option.bind (feed_twin f_0) fun (r3 : ((Int × Int × (List (Int × ByteArray)) × (List (Int × ByteArray)) × (List (Int × Int × Int × ByteArray × Int)) × Int × Int) × Unit) × Unit) =>
  some ((r3.1.1, ()), ())
 else
 bif decide ((i_1.2.size : Int) > 12) then
  Option.bind (feed_twin f_0) fun (r4 : ((Int × Int × (List (Int × ByteArray)) × (List (Int × ByteArray)) × (List (Int × Int × Int × ByteArray × Int)) × Int × Int) × Unit) × Unit) =>
  some ((r4.1.1, ()), ())
 else
  Option.bind (feed_Knows f_0 i_1.1) fun (r5 : ((Int × Int × (List (Int × ByteArray)) × (List (Int × ByteArray)) × (List (Int × Int × Int × ByteArray × Int)) × Int × Int) × Unit) × Unit) =>
  Option.bind (win_Put r5.1.1.2.2.2.1 r5.1.1.1 i_1) fun (r6 : ((List (Int × ByteArray)) × Bool × Unit) × Unit) =>
  Option.bind (nak_Goes (r5.1.1.1, r5.1.1.2.1, r5.1.1.2.2.1, r6.1.1, r5.1.1.2.2.2.2)) fun (r7 : ((Int × Int × (List (Int × ByteArray)) × (List (Int × ByteArray)) × (List (Int × Int × Int × ByteArray × Int)) × Int × Int) × (List (Int × ByteArray)) × Unit) × Unit) =>
  some ((r7.1.1, ()), ())
theorem feed_Comes_eq (f_0 : Int × Int × (List (Int × ByteArray)) × (List (Int × ByteArray)) × (List (Int × Int × Int × ByteArray × Int)) × Int × Int) (i_1 : Int × ByteArray) : evFn feed_Comes_Γ tab feed_Comes_fi 1 [.val t31, .val t135] [⟨t31, [false, false, false, false, false, false, false], none⟩] Tryz.f99 (f_0, i_1, ()) = feed_Comes f_0 i_1 := by kernel_rfl
noncomputable def feed_Comes_e : Ent := ⟨[.val t31, .val t135], [⟨t31, [false, false, false, false, false, false, false], none⟩], fun x => feed_Comes x.1 x.2.1⟩
theorem feed_Comes_good : Good tab.ty Tryz.prog 99 feed_Comes_e := by
  refine fn_good (Γ := feed_Comes_Γ) (fi := feed_Comes_fi) (n := 1) follows (gcons feed_twin_good (gcons nak_Goes_good (gcons feed_Knows_good (gcons win_Put_good gnil)))) tabok Tryz.func99 (by kernel_rfl) (by kernel_rfl) (fun x r h => ?_)
  obtain ⟨f_0, i_1, _u⟩ := x
  exact (feed_Comes_eq f_0 i_1).trans h
noncomputable def feed_Notes_Γ : Ctx := [(79, feed_twin_e), (81, nak_Skips_e), (82, nak_Goes_e), (97, feed_Knows_e)]
def feed_Notes_fi : Fi := { keep := [], vty := [], vals := [], live := [(0, [1, 2, 3, 6, 11, 12, 15, 16, 17, 20, 21, 30, 31, 32, 33]), (1, [1, 2, 3, 6, 22, 30, 31, 32, 33]), (2, [6]), (3, [2, 3, 6, 34]), (4, [6]), (5, [2, 3, 6]), (6, [3, 6]), (7, [3, 6]), (8, [6])] }
noncomputable def feed_Notes (f_0 : Int × Int × (List (Int × ByteArray)) × (List (Int × ByteArray)) × (List (Int × Int × Int × ByteArray × Int)) × Int × Int) (lo_1 : Int) (hi_2 : Int) : Option (((Int × Int × (List (Int × ByteArray)) × (List (Int × ByteArray)) × (List (Int × Int × Int × ByteArray × Int)) × Int × Int) × Unit) × Unit) :=
 bif f_0.1 == 0 then
  Option.bind (feed_twin f_0) fun (r1 : ((Int × Int × (List (Int × ByteArray)) × (List (Int × ByteArray)) × (List (Int × Int × Int × ByteArray × Int)) × Int × Int) × Unit) × Unit) =>
  some ((r1.1.1, ()), ())
 else
 bif decide (lo_1 < 1) then
  Option.bind (feed_twin f_0) fun (r2 : ((Int × Int × (List (Int × ByteArray)) × (List (Int × ByteArray)) × (List (Int × Int × Int × ByteArray × Int)) × Int × Int) × Unit) × Unit) =>
  some ((r2.1.1, ()), ())
 else
 bif decide (lo_1 > hi_2) then
  Option.bind (feed_twin f_0) fun (r3 : ((Int × Int × (List (Int × ByteArray)) × (List (Int × ByteArray)) × (List (Int × Int × Int × ByteArray × Int)) × Int × Int) × Unit) × Unit) =>
  some ((r3.1.1, ()), ())
 else
 bif decide (hi_2 > 1000000) then
  Option.bind (feed_twin f_0) fun (r4 : ((Int × Int × (List (Int × ByteArray)) × (List (Int × ByteArray)) × (List (Int × Int × Int × ByteArray × Int)) × Int × Int) × Unit) × Unit) =>
  some ((r4.1.1, ()), ())
 else
 bif decide (f_0.1 < lo_1) then
  Option.bind (feed_Knows f_0 hi_2) fun (r5 : ((Int × Int × (List (Int × ByteArray)) × (List (Int × ByteArray)) × (List (Int × Int × Int × ByteArray × Int)) × Int × Int) × Unit) × Unit) =>
  some ((r5.1.1, ()), ())
 else
 bif decide (f_0.1 > hi_2) then
  Option.bind (feed_Knows f_0 hi_2) fun (r6 : ((Int × Int × (List (Int × ByteArray)) × (List (Int × ByteArray)) × (List (Int × Int × Int × ByteArray × Int)) × Int × Int) × Unit) × Unit) =>
  some ((r6.1.1, ()), ())
 else
  Option.bind (nak_Skips f_0 hi_2 1) fun (r7 : ((Int × Int × (List (Int × ByteArray)) × (List (Int × ByteArray)) × (List (Int × Int × Int × ByteArray × Int)) × Int × Int) × (List (Int × Int)) × Unit) × Unit) =>
  Option.bind (nak_Goes (r7.1.1.1, if hi_2 > r7.1.1.2.1 then hi_2 else r7.1.1.2.1, r7.1.1.2.2)) fun (r8 : ((Int × Int × (List (Int × ByteArray)) × (List (Int × ByteArray)) × (List (Int × Int × Int × ByteArray × Int)) × Int × Int) × (List (Int × ByteArray)) × Unit) × Unit) =>
  some ((r8.1.1, ()), ())
theorem feed_Notes_eq (f_0 : Int × Int × (List (Int × ByteArray)) × (List (Int × ByteArray)) × (List (Int × Int × Int × ByteArray × Int)) × Int × Int) (lo_1 : Int) (hi_2 : Int) : evFn feed_Notes_Γ tab feed_Notes_fi 1 [.val t31, .val t2, .val t2] [⟨t31, [false, false, false, false, false, false, false], none⟩] Tryz.f100 (f_0, lo_1, hi_2, ()) = feed_Notes f_0 lo_1 hi_2 := by kernel_rfl
noncomputable def feed_Notes_e : Ent := ⟨[.val t31, .val t2, .val t2], [⟨t31, [false, false, false, false, false, false, false], none⟩], fun x => feed_Notes x.1 x.2.1 x.2.2.1⟩
theorem feed_Notes_good : Good tab.ty Tryz.prog 100 feed_Notes_e := by
  refine fn_good (Γ := feed_Notes_Γ) (fi := feed_Notes_fi) (n := 1) follows (gcons feed_twin_good (gcons nak_Skips_good (gcons nak_Goes_good (gcons feed_Knows_good gnil)))) tabok Tryz.func100 (by kernel_rfl) (by kernel_rfl) (fun x r h => ?_)
  obtain ⟨f_0, lo_1, hi_2, _u⟩ := x
  exact (feed_Notes_eq f_0 lo_1 hi_2).trans h
noncomputable def node_feeds_Γ : Ctx := [(97, feed_Knows_e), (98, feed_Begin_e), (99, feed_Comes_e), (100, feed_Notes_e)]
def node_feeds_fi : Fi := { keep := [], vty := [], vals := [], live := [(0, [2, 3, 4, 6, 15, 16, 17, 18, 19, 20, 32, 33, 34, 35, 51, 52, 53, 54]), (1, [2, 3, 4, 6, 7, 32, 33, 34, 35, 51, 52, 53, 54]), (2, [2, 3, 4, 6, 22, 32, 33, 34, 35, 51, 52, 53, 54]), (3, [6]), (4, [2, 3, 4, 6, 27, 51, 52, 53, 54]), (5, [6]), (6, [3, 4, 6, 46]), (7, [6]), (8, [3, 4, 6, 61]), (9, [6]), (10, [3, 4, 6, 73]), (11, [6]), (12, [6])] }
noncomputable def node_feeds_x (x : PDs [.val t33, .val t40, .val t2]) : Option (RDs [⟨t31, [false, false, false, false, false, false, false], none⟩] × ODs [.val t33, .val t40, .val t2]) := evFn node_feeds_Γ tab node_feeds_fi 1099511627776 [.val t33, .val t40, .val t2] [⟨t31, [false, false, false, false, false, false, false], none⟩] Tryz.f37 x
noncomputable def node_feeds (x0 : Bool × Int × ByteArray × (Int × Int × Int × Int × Int × Int × (List Int) × Int × Int × Int × Int × Int × List (Int × Int × Int)) × (Int × Int × (List (Int × ByteArray)) × (List (Int × ByteArray)) × (List (Int × Int × Int × ByteArray × Int)) × Int × Int) × Int) (x1 : Int × Int × Int × Int × Int × Int × (List Int) × Int × Int × ByteArray) (x2 : Int) : Option (((Int × Int × (List (Int × ByteArray)) × (List (Int × ByteArray)) × (List (Int × Int × Int × ByteArray × Int)) × Int × Int) × Unit) × Unit) := node_feeds_x (x0, x1, x2, ())
noncomputable def node_feeds_e : Ent := ⟨[.val t33, .val t40, .val t2], [⟨t31, [false, false, false, false, false, false, false], none⟩], fun x => node_feeds x.1 x.2.1 x.2.2.1⟩
theorem node_feeds_good : Good tab.ty Tryz.prog 37 node_feeds_e := by
  refine fn_good (Γ := node_feeds_Γ) (fi := node_feeds_fi) (n := 1099511627776) follows (gcons feed_Knows_good (gcons feed_Begin_good (gcons feed_Comes_good (gcons feed_Notes_good gnil)))) tabok Tryz.func37 (by kernel_rfl) (by kernel_rfl) (fun x r h => ?_)
  obtain ⟨x0, x1, x2, _u⟩ := x
  exact h
noncomputable def node_Comes_Γ : Ctx := [(28, node_twin_e), (33, node_down_e), (34, msg_Take_e), (35, tie_Comes_e), (36, node_serves_e), (37, node_feeds_e)]
def node_Comes_fi : Fi := { keep := [], vty := [(5, 37), (10, 37), (18, 43), (54, 37), (68, 37)], vals := [], live := [(0, [1, 2, 4, 25, 26, 27, 28, 29, 30]), (1, [1, 2, 4, 6, 25, 26, 27, 28, 29, 30]), (2, [1, 2, 4, 6, 15, 25, 26, 27, 28, 29, 30]), (3, [4, 5]), (4, [2, 4, 6, 7, 8, 25, 26, 27, 28, 29, 30]), (5, [2, 4, 6, 7, 31]), (6, [4, 6]), (7, [4, 5]), (8, [2, 4, 6, 7, 9, 10]), (9, [2, 4, 6, 7, 10]), (10, [2, 4, 6, 7, 10, 53]), (11, [2, 4, 6, 7, 10]), (12, [2, 4, 6, 10]), (13, [4, 5])] }
noncomputable def node_Comes_x (x : PDs [.val t33, .val t43]) : Option (RDs [⟨t33, [false, false, false, false, false, false, false, false, false, false, false, false, false, false, false, false, false, false, false, false, false, false, false, false], none⟩, ⟨t37, [true], none⟩] × ODs [.val t33, .val t43]) := evFn node_Comes_Γ tab node_Comes_fi 1099511627776 [.val t33, .val t43] [⟨t33, [false, false, false, false, false, false, false, false, false, false, false, false, false, false, false, false, false, false, false, false, false, false, false, false], none⟩, ⟨t37, [true], none⟩] Tryz.f9 x
noncomputable def node_Comes (x0 : Bool × Int × ByteArray × (Int × Int × Int × Int × Int × Int × (List Int) × Int × Int × Int × Int × Int × List (Int × Int × Int)) × (Int × Int × (List (Int × ByteArray)) × (List (Int × ByteArray)) × (List (Int × Int × Int × ByteArray × Int)) × Int × Int) × Int) (x1 : List Int) : Option (((Bool × Int × ByteArray × (Int × Int × Int × Int × Int × Int × (List Int) × Int × Int × Int × Int × Int × List (Int × Int × Int)) × (Int × Int × (List (Int × ByteArray)) × (List (Int × ByteArray)) × (List (Int × Int × Int × ByteArray × Int)) × Int × Int) × Int) × (List (Int × Int × Int × Int × Int × Int × (List Int) × Int × Int × ByteArray)) × Unit) × Unit) := node_Comes_x (x0, x1, ())
noncomputable def node_Comes_e : Ent := ⟨[.val t33, .val t43], [⟨t33, [false, false, false, false, false, false, false, false, false, false, false, false, false, false, false, false, false, false, false, false, false, false, false, false], none⟩, ⟨t37, [true], none⟩], fun x => node_Comes x.1 x.2.1⟩
theorem node_Comes_good : Good tab.ty Tryz.prog 9 node_Comes_e := by
  refine fn_good (Γ := node_Comes_Γ) (fi := node_Comes_fi) (n := 1099511627776) follows (gcons node_twin_good (gcons node_down_good (gcons msg_Take_good (gcons tie_Comes_good (gcons node_serves_good (gcons node_feeds_good gnil)))))) tabok Tryz.func9 (by kernel_rfl) (by kernel_rfl) (fun x r h => ?_)
  obtain ⟨x0, x1, _u⟩ := x
  exact h
noncomputable def world_machine_comes_Γ : Ctx := [(9, node_Comes_e), (207, world_machine_sends_e), (208, net_Comes_e)]
def world_machine_comes_fi : Fi := { keep := [], vty := [(5, 47), (11, 37), (28, 47), (56, 37)], vals := [], live := [(0, [0, 1]), (1, [0, 5, 6, 7]), (2, [0, 5, 6, 24]), (3, [0, 4]), (4, [0, 6]), (5, [0, 6, 8, 9]), (6, [0, 6, 8, 9, 40]), (7, [0, 4]), (8, [0, 8, 10, 11]), (9, [0, 11]), (10, [0]), (11, [0, 4])] }
noncomputable def world_machine_comes_x (x : PDs [.box 108 t107 [true, false, true, false, false, false], .val t2]) : Option (RDs [⟨t20, [false], none⟩] × ODs [.box 108 t107 [true, false, true, false, false, false], .val t2]) := evFn world_machine_comes_Γ tab world_machine_comes_fi 1099511627776 [.box 108 t107 [true, false, true, false, false, false], .val t2] [⟨t20, [false], none⟩] Tryz.f137 x
noncomputable def world_machine_comes (x0 : ((List (Bool × Int × ByteArray × (Int × Int × Int × Int × Int × Int × (List Int) × Int × Int × Int × Int × Int × List (Int × Int × Int)) × (Int × Int × (List (Int × ByteArray)) × (List (Int × ByteArray)) × (List (Int × Int × Int × ByteArray × Int)) × Int × Int) × Int)) × (List (Int × ByteArray × Bool)) × (List ByteArray) × Int × (List (List Int)) × List (List ((List Int) × Int))) × Unit) (x1 : Int) : Option ((IV × Unit) × ((((List (Bool × Int × ByteArray × (Int × Int × Int × Int × Int × Int × (List Int) × Int × Int × Int × Int × Int × List (Int × Int × Int)) × (Int × Int × (List (Int × ByteArray)) × (List (Int × ByteArray)) × (List (Int × Int × Int × ByteArray × Int)) × Int × Int) × Int)) × (List (Int × ByteArray × Bool)) × (List ByteArray) × Int × (List (List Int)) × List (List ((List Int) × Int))) × Unit) × Unit)) := world_machine_comes_x (x0, x1, ())
noncomputable def world_machine_comes_e : Ent := ⟨[.box 108 t107 [true, false, true, false, false, false], .val t2], [⟨t20, [false], none⟩], fun x => world_machine_comes x.1 x.2.1⟩
theorem world_machine_comes_good : Good tab.ty Tryz.prog 137 world_machine_comes_e := by
  refine fn_good (Γ := world_machine_comes_Γ) (fi := world_machine_comes_fi) (n := 1099511627776) follows (gcons node_Comes_good (gcons world_machine_sends_good (gcons net_Comes_good gnil))) tabok Tryz.func137 (by kernel_rfl) (by kernel_rfl) (fun x r h => ?_)
  obtain ⟨x0, x1, _u⟩ := x
  exact h
noncomputable def net_Lost_Γ : Ctx := [(208, net_Comes_e)]
def net_Lost_fi : Fi := { keep := [], vty := [], vals := [], live := [(0, [0, 1]), (1, [0, 7]), (2, [4, 5])] }
noncomputable def net_Lost (l_0 : List (Int × ByteArray × Bool)) (i_1 : Int) : Option (((List (Int × ByteArray × Bool)) × Bool × Unit) × Unit) :=
 Option.bind (net_Comes l_0 i_1) fun (r1 : ((List (Int × ByteArray × Bool)) × (Int × ByteArray × Bool) × Bool × Unit) × Unit) =>
 some ((r1.1.1, r1.1.2.2.1, ()), ())
theorem net_Lost_eq (l_0 : List (Int × ByteArray × Bool)) (i_1 : Int) : evFn net_Lost_Γ tab net_Lost_fi 1 [.val t47, .val t2] [⟨t47, [true], none⟩, ⟨t4, [false], none⟩] Tryz.f209 (l_0, i_1, ()) = net_Lost l_0 i_1 := by kernel_rfl
noncomputable def net_Lost_e : Ent := ⟨[.val t47, .val t2], [⟨t47, [true], none⟩, ⟨t4, [false], none⟩], fun x => net_Lost x.1 x.2.1⟩
theorem net_Lost_good : Good tab.ty Tryz.prog 209 net_Lost_e := by
  refine fn_good (Γ := net_Lost_Γ) (fi := net_Lost_fi) (n := 1) follows (gcons net_Comes_good gnil) tabok Tryz.func209 (by kernel_rfl) (by kernel_rfl) (fun x r h => ?_)
  obtain ⟨l_0, i_1, _u⟩ := x
  exact (net_Lost_eq l_0 i_1).trans h
noncomputable def net_Twice_Γ : Ctx := [(126, slices_Clone_Gram_e), (272, net_Send_e), (273, net_there_e)]
def net_Twice_fi : Fi := { keep := [], vty := [], vals := [], live := [(0, [0, 1, 11, 12, 13]), (1, [0, 1, 14]), (2, [4, 5]), (3, [4, 5])] }
noncomputable def net_Twice (l_0 : List (Int × ByteArray × Bool)) (i_1 : Int) : Option (((List (Int × ByteArray × Bool)) × Bool × Unit) × Unit) :=
 Option.bind (net_there l_0 i_1) fun (r1 : (Bool × Unit) × Unit) =>
 bif !r1.1.1 then
  Option.bind (slices_Clone_Gram l_0) fun (r2 : ((List (Int × ByteArray × Bool)) × Unit) × Unit) =>
  some ((r2.1.1, false, ()), ())
 else
 bif decide ((l_0.length : Int) ≥ 60) then
  Option.bind (slices_Clone_Gram l_0) fun (r3 : ((List (Int × ByteArray × Bool)) × Unit) × Unit) =>
  some ((r3.1.1, false, ()), ())
 else
 bif decide (0 ≤ i_1) && decide (i_1 < (l_0.length : Int)) then
  Option.bind (net_Send l_0 ((List.getD l_0 i_1.toNat (0, (⟨#[]⟩ : ByteArray), false)).1, ((List.getD l_0 i_1.toNat (0, (⟨#[]⟩ : ByteArray), false)).2))) fun (r4 : ((List (Int × ByteArray × Bool)) × Unit) × Unit) =>
  some ((r4.1.1, true, ()), ())
 else none
theorem net_Twice_eq (l_0 : List (Int × ByteArray × Bool)) (i_1 : Int) : evFn net_Twice_Γ tab net_Twice_fi 1 [.val t47, .val t2] [⟨t47, [true], none⟩, ⟨t4, [false], none⟩] Tryz.f210 (l_0, i_1, ()) = net_Twice l_0 i_1 := by kernel_rfl
noncomputable def net_Twice_e : Ent := ⟨[.val t47, .val t2], [⟨t47, [true], none⟩, ⟨t4, [false], none⟩], fun x => net_Twice x.1 x.2.1⟩
theorem net_Twice_good : Good tab.ty Tryz.prog 210 net_Twice_e := by
  refine fn_good (Γ := net_Twice_Γ) (fi := net_Twice_fi) (n := 1) follows (gcons slices_Clone_Gram_good (gcons net_Send_good (gcons net_there_good gnil))) tabok Tryz.func210 (by kernel_rfl) (by kernel_rfl) (fun x r h => ?_)
  obtain ⟨l_0, i_1, _u⟩ := x
  exact (net_Twice_eq l_0 i_1).trans h
noncomputable def net_Turned_Γ : Ctx := [(211, markE), (126, slices_Clone_Gram_e), (273, net_there_e)]
def net_Turned_fi : Fi := { keep := [], vty := [(0, 47), (6, 47), (8, 43), (9, 47), (11, 47), (16, 47), (23, 47), (39, 47), (40, 47), (46, 43), (49, 43), (59, 47), (61, 47), (63, 43), (69, 47)], vals := [], live := [(0, [0, 1, 2, 16, 17, 18, 19, 20, 23, 24, 25, 26, 27, 28, 31, 32, 35, 36, 37]), (1, [0, 1, 2, 16, 17, 18, 19, 20, 23, 24, 25, 26, 27, 28, 31, 32, 35, 36, 37]), (2, [0, 1, 2, 38]), (3, [6, 7]), (4, [0, 1, 2, 8]), (5, [0, 1, 8]), (6, [0]), (7, [6, 7])] }
noncomputable def net_Turned_x (x : PDs [.val t47, .val t2, .val t2]) : Option (RDs [⟨t47, [true], none⟩, ⟨t4, [false], none⟩] × ODs [.val t47, .val t2, .val t2]) := evFn net_Turned_Γ tab net_Turned_fi 1099511627776 [.val t47, .val t2, .val t2] [⟨t47, [true], none⟩, ⟨t4, [false], none⟩] Tryz.f211 x
noncomputable def net_Turned (x0 : List (Int × ByteArray × Bool)) (x1 : Int) (x2 : Int) : Option (((List (Int × ByteArray × Bool)) × Bool × Unit) × Unit) := net_Turned_x (x0, x1, x2, ())
noncomputable def net_Turned_e : Ent := ⟨[.val t47, .val t2, .val t2], [⟨t47, [true], none⟩, ⟨t4, [false], none⟩], fun x => net_Turned x.1 x.2.1 x.2.2.1⟩
theorem net_Turned_good : Good tab.ty Tryz.prog 211 net_Turned_e := by
  refine fn_good (Γ := net_Turned_Γ) (fi := net_Turned_fi) (n := 1099511627776) follows (gcons (gmark Tryz.func211 (by kernel_rfl) (by kernel_rfl)) (gcons slices_Clone_Gram_good (gcons net_there_good gnil))) tabok Tryz.func211 (by kernel_rfl) (by kernel_rfl) (fun x r h => ?_)
  obtain ⟨x0, x1, x2, _u⟩ := x
  exact h
noncomputable def world_machine_ways_Γ : Ctx := [(209, net_Lost_e), (210, net_Twice_e), (211, net_Turned_e)]
def world_machine_ways_fi : Fi := { keep := [], vty := [], vals := [], live := [(0, [0, 3]), (1, [0, 3, 5, 6]), (2, [0, 3, 5, 6, 13]), (3, [0, 3, 5, 6, 13, 14]), (4, [0, 5, 6]), (5, [0, 3, 5, 6, 13, 27]), (6, [0, 5, 6]), (7, [0, 3, 5, 6, 40]), (8, [0, 5, 6]), (9, [0, 5, 56]), (10, [0, 4]), (11, [0]), (12, [0, 4])] }
noncomputable def world_machine_ways (w_0 : ((List (Bool × Int × ByteArray × (Int × Int × Int × Int × Int × Int × (List Int) × Int × Int × Int × Int × Int × List (Int × Int × Int)) × (Int × Int × (List (Int × ByteArray)) × (List (Int × ByteArray)) × (List (Int × Int × Int × ByteArray × Int)) × Int × Int) × Int)) × (List (Int × ByteArray × Bool)) × (List ByteArray) × Int × (List (List Int)) × List (List ((List Int) × Int))) × Unit) (s_1 : Int × Int × Int × Int × ByteArray) : Option ((IV × Unit) × ((((List (Bool × Int × ByteArray × (Int × Int × Int × Int × Int × Int × (List Int) × Int × Int × Int × Int × Int × List (Int × Int × Int)) × (Int × Int × (List (Int × ByteArray)) × (List (Int × ByteArray)) × (List (Int × Int × Int × ByteArray × Int)) × Int × Int) × Int)) × (List (Int × ByteArray × Bool)) × (List ByteArray) × Int × (List (List Int)) × List (List ((List Int) × Int))) × Unit) × Unit)) :=
 bif s_1.1 == 7 then
  Option.bind (net_Lost w_0.1.2.1 s_1.2.2.1) fun (r1 : ((List (Int × ByteArray × Bool)) × Bool × Unit) × Unit) =>
  bif !r1.1.2.1 then
   some ((IV.mk 113 [.int .i64 3], ()), ((w_0.1, ()), ()))
  else
   some ((IV.nil, ()), (((w_0.1.1, r1.1.1, w_0.1.2.2), ()), ()))
 else
 bif s_1.1 == 8 then
  Option.bind (net_Twice w_0.1.2.1 s_1.2.2.1) fun (r2 : ((List (Int × ByteArray × Bool)) × Bool × Unit) × Unit) =>
  bif !r2.1.2.1 then
   some ((IV.mk 113 [.int .i64 3], ()), ((w_0.1, ()), ()))
  else
   some ((IV.nil, ()), (((w_0.1.1, r2.1.1, w_0.1.2.2), ()), ()))
 else
 bif s_1.1 == 9 then
  Option.bind (net_Turned w_0.1.2.1 s_1.2.2.1 s_1.2.2.2.1) fun (r3 : ((List (Int × ByteArray × Bool)) × Bool × Unit) × Unit) =>
  bif !r3.1.2.1 then
   some ((IV.mk 113 [.int .i64 3], ()), ((w_0.1, ()), ()))
  else
   some ((IV.nil, ()), (((w_0.1.1, r3.1.1, w_0.1.2.2), ()), ()))
 else
  some ((IV.mk 113 [.int .i64 3], ()), ((w_0.1, ()), ()))
theorem world_machine_ways_eq (w_0 : ((List (Bool × Int × ByteArray × (Int × Int × Int × Int × Int × Int × (List Int) × Int × Int × Int × Int × Int × List (Int × Int × Int)) × (Int × Int × (List (Int × ByteArray)) × (List (Int × ByteArray)) × (List (Int × Int × Int × ByteArray × Int)) × Int × Int) × Int)) × (List (Int × ByteArray × Bool)) × (List ByteArray) × Int × (List (List Int)) × List (List ((List Int) × Int))) × Unit) (s_1 : Int × Int × Int × Int × ByteArray) : evFn world_machine_ways_Γ tab world_machine_ways_fi 1 [.box 108 t107 [true, false, true, false, false, false], .val t60] [⟨t20, [false], none⟩] Tryz.f138 (w_0, s_1, ()) = world_machine_ways w_0 s_1 := by kernel_rfl
noncomputable def world_machine_ways_e : Ent := ⟨[.box 108 t107 [true, false, true, false, false, false], .val t60], [⟨t20, [false], none⟩], fun x => world_machine_ways x.1 x.2.1⟩
theorem world_machine_ways_good : Good tab.ty Tryz.prog 138 world_machine_ways_e := by
  refine fn_good (Γ := world_machine_ways_Γ) (fi := world_machine_ways_fi) (n := 1) follows (gcons net_Lost_good (gcons net_Twice_good (gcons net_Turned_good gnil))) tabok Tryz.func138 (by kernel_rfl) (by kernel_rfl) (fun x r h => ?_)
  obtain ⟨w_0, s_1, _u⟩ := x
  exact (world_machine_ways_eq w_0 s_1).trans h
noncomputable def world_machine_does_Γ : Ctx := [(133, world_machine_joins_e), (134, world_machine_goes_e), (135, world_machine_says_e), (136, world_machine_ticks_e), (137, world_machine_comes_e), (138, world_machine_ways_e)]
def world_machine_does_fi : Fi := { keep := [], vty := [], vals := [], live := [(0, [0, 3]), (1, [0, 3, 6]), (2, [0, 3, 6, 7]), (3, [0, 4]), (4, [0, 3, 6, 15]), (5, [0, 3, 6, 15]), (6, [0, 4]), (7, [0, 3, 6, 25]), (8, [0, 4]), (9, [0, 3, 6, 31]), (10, [0, 4]), (11, [0, 3, 6, 37]), (12, [0, 4]), (13, [0, 3, 6, 43]), (14, [0, 3, 6, 43]), (15, [0, 3, 43]), (16, [0, 4]), (17, [0, 4])] }
noncomputable def world_machine_does_x (x : PDs [.box 108 t107 [true, false, true, false, false, false], .val t60]) : Option (RDs [⟨t20, [false], none⟩] × ODs [.box 108 t107 [true, false, true, false, false, false], .val t60]) := evFn world_machine_does_Γ tab world_machine_does_fi 1099511627776 [.box 108 t107 [true, false, true, false, false, false], .val t60] [⟨t20, [false], none⟩] Tryz.f50 x
noncomputable def world_machine_does (x0 : ((List (Bool × Int × ByteArray × (Int × Int × Int × Int × Int × Int × (List Int) × Int × Int × Int × Int × Int × List (Int × Int × Int)) × (Int × Int × (List (Int × ByteArray)) × (List (Int × ByteArray)) × (List (Int × Int × Int × ByteArray × Int)) × Int × Int) × Int)) × (List (Int × ByteArray × Bool)) × (List ByteArray) × Int × (List (List Int)) × List (List ((List Int) × Int))) × Unit) (x1 : Int × Int × Int × Int × ByteArray) : Option ((IV × Unit) × ((((List (Bool × Int × ByteArray × (Int × Int × Int × Int × Int × Int × (List Int) × Int × Int × Int × Int × Int × List (Int × Int × Int)) × (Int × Int × (List (Int × ByteArray)) × (List (Int × ByteArray)) × (List (Int × Int × Int × ByteArray × Int)) × Int × Int) × Int)) × (List (Int × ByteArray × Bool)) × (List ByteArray) × Int × (List (List Int)) × List (List ((List Int) × Int))) × Unit) × Unit)) := world_machine_does_x (x0, x1, ())
noncomputable def world_machine_does_e : Ent := ⟨[.box 108 t107 [true, false, true, false, false, false], .val t60], [⟨t20, [false], none⟩], fun x => world_machine_does x.1 x.2.1⟩
theorem world_machine_does_good : Good tab.ty Tryz.prog 50 world_machine_does_e := by
  refine fn_good (Γ := world_machine_does_Γ) (fi := world_machine_does_fi) (n := 1099511627776) follows (gcons world_machine_joins_good (gcons world_machine_goes_good (gcons world_machine_says_good (gcons world_machine_ticks_good (gcons world_machine_comes_good (gcons world_machine_ways_good gnil)))))) tabok Tryz.func50 (by kernel_rfl) (by kernel_rfl) (fun x r h => ?_)
  obtain ⟨x0, x1, _u⟩ := x
  exact h
noncomputable def world_Do_Γ : Ctx := [(49, world_twin_e), (50, world_machine_does_e)]
def world_Do_fi : Fi := { keep := [], vty := [], vals := [], live := [(0, [2, 3, 4]), (1, [3, 4, 6]), (2, [4, 6, 7]), (3, [4, 6, 8, 9]), (4, [4, 6, 8, 22]), (5, [4, 5]), (6, [4, 5])] }
noncomputable def world_Do (w_0 : (List (Bool × Int × ByteArray × (Int × Int × Int × Int × Int × Int × (List Int) × Int × Int × Int × Int × Int × List (Int × Int × Int)) × (Int × Int × (List (Int × ByteArray)) × (List (Int × ByteArray)) × (List (Int × Int × Int × ByteArray × Int)) × Int × Int) × Int)) × (List (Int × ByteArray × Bool)) × (List ByteArray) × Int × (List (List Int)) × List (List ((List Int) × Int))) (s_1 : Int × Int × Int × Int × ByteArray) : Option ((((List (Bool × Int × ByteArray × (Int × Int × Int × Int × Int × Int × (List Int) × Int × Int × Int × Int × Int × List (Int × Int × Int)) × (Int × Int × (List (Int × ByteArray)) × (List (Int × ByteArray)) × (List (Int × Int × Int × ByteArray × Int)) × Int × Int) × Int)) × (List (Int × ByteArray × Bool)) × (List ByteArray) × Int × (List (List Int)) × List (List ((List Int) × Int))) × Int × Unit) × Unit) :=
 Option.bind (world_twin w_0) fun (r1 : (((List (Bool × Int × ByteArray × (Int × Int × Int × Int × Int × Int × (List Int) × Int × Int × Int × Int × Int × List (Int × Int × Int)) × (Int × Int × (List (Int × ByteArray)) × (List (Int × ByteArray)) × (List (Int × Int × Int × ByteArray × Int)) × Int × Int) × Int)) × (List (Int × ByteArray × Bool)) × (List ByteArray) × Int × (List (List Int)) × List (List ((List Int) × Int))) × Unit) × Unit) =>
 Option.bind (world_machine_does (r1.1.1, ()) s_1) fun (r2 : (IV × Unit) × ((((List (Bool × Int × ByteArray × (Int × Int × Int × Int × Int × Int × (List Int) × Int × Int × Int × Int × Int × List (Int × Int × Int)) × (Int × Int × (List (Int × ByteArray)) × (List (Int × ByteArray)) × (List (Int × Int × Int × ByteArray × Int)) × Int × Int) × Int)) × (List (Int × ByteArray × Bool)) × (List ByteArray) × Int × (List (List Int)) × List (List ((List Int) × Int))) × Unit) × Unit)) =>
 bif IV.is r2.1.1 113 then
  some ((r2.2.1.1, (IV.val (bif IV.is r2.1.1 113 then r2.1.1 else IV.nil) t112 : Int × Unit).1, ()), ())
 else
  some ((r2.2.1.1, 0, ()), ())
theorem world_Do_eq (w_0 : (List (Bool × Int × ByteArray × (Int × Int × Int × Int × Int × Int × (List Int) × Int × Int × Int × Int × Int × List (Int × Int × Int)) × (Int × Int × (List (Int × ByteArray)) × (List (Int × ByteArray)) × (List (Int × Int × Int × ByteArray × Int)) × Int × Int) × Int)) × (List (Int × ByteArray × Bool)) × (List ByteArray) × Int × (List (List Int)) × List (List ((List Int) × Int))) (s_1 : Int × Int × Int × Int × ByteArray) : evFn world_Do_Γ tab world_Do_fi 1 [.val t53, .val t60] [⟨t53, [true, false, true, false, false, false], none⟩, ⟨t2, [false], none⟩] Tryz.f16 (w_0, s_1, ()) = world_Do w_0 s_1 := by kernel_rfl
noncomputable def world_Do_e : Ent := ⟨[.val t53, .val t60], [⟨t53, [true, false, true, false, false, false], none⟩, ⟨t2, [false], none⟩], fun x => world_Do x.1 x.2.1⟩
theorem world_Do_good : Good tab.ty Tryz.prog 16 world_Do_e := by
  refine fn_good (Γ := world_Do_Γ) (fi := world_Do_fi) (n := 1) follows (gcons world_twin_good (gcons world_machine_does_good gnil)) tabok Tryz.func16 (by kernel_rfl) (by kernel_rfl) (fun x r h => ?_)
  obtain ⟨w_0, s_1, _u⟩ := x
  exact (world_Do_eq w_0 s_1).trans h
noncomputable def world_Up_Γ : Ctx := []
def world_Up_fi : Fi := { keep := [], vty := [(2, 23), (3, 69), (19, 23), (23, 69), (29, 23), (30, 69)], vals := [], live := [(0, [1, 2, 3]), (1, [2, 3, 8, 9, 10]), (2, [2, 3, 8, 9, 10, 11]), (3, [2, 3, 5, 8, 9, 10]), (4, [2, 3, 5, 6, 8, 9, 10]), (5, [2, 3, 5, 6, 8, 9, 10, 15]), (6, [2, 3, 5, 6, 8, 9, 10]), (7, [2, 3, 8, 9, 10]), (8, [2, 3, 8, 9, 10]), (9, [2, 3])] }
noncomputable def world_Up_x (x : PDs [.val t53]) : Option (RDs [⟨t23, [true], none⟩, ⟨t69, [true], none⟩] × ODs [.val t53]) := evFn world_Up_Γ tab world_Up_fi 1099511627776 [.val t53] [⟨t23, [true], none⟩, ⟨t69, [true], none⟩] Tryz.f44 x
noncomputable def world_Up (x0 : (List (Bool × Int × ByteArray × (Int × Int × Int × Int × Int × Int × (List Int) × Int × Int × Int × Int × Int × List (Int × Int × Int)) × (Int × Int × (List (Int × ByteArray)) × (List (Int × ByteArray)) × (List (Int × Int × Int × ByteArray × Int)) × Int × Int) × Int)) × (List (Int × ByteArray × Bool)) × (List ByteArray) × Int × (List (List Int)) × List (List ((List Int) × Int))) : Option (((List Int) × (List Bool) × Unit) × Unit) := world_Up_x (x0, ())
noncomputable def world_Up_e : Ent := ⟨[.val t53], [⟨t23, [true], none⟩, ⟨t69, [true], none⟩], fun x => world_Up x.1⟩
theorem world_Up_good : Good tab.ty Tryz.prog 44 world_Up_e := by
  refine fn_good (Γ := world_Up_Γ) (fi := world_Up_fi) (n := 1099511627776) follows gnil tabok Tryz.func44 (by kernel_rfl) (by kernel_rfl) (fun x r h => ?_)
  obtain ⟨x0, _u⟩ := x
  exact h
noncomputable def slices_EqualFunc_Node_Node_Node_Node_Γ : Ctx := []
def slices_EqualFunc_Node_Node_Node_Node_fi : Fi := { keep := [], vty := [(10, 46), (12, 46), (15, 46), (22, 46)], vals := [], live := [(0, [0, 1, 2]), (1, [0, 1, 2, 14]), (2, [6]), (3, [1, 2, 15, 16, 17]), (4, [1, 2, 15, 16, 17, 18]), (5, [1, 2, 7, 8, 15, 16, 17]), (6, [1, 2, 8, 9, 15, 16, 17]), (7, [1, 2, 15, 16, 17, 30]), (8, [6]), (9, [1, 2, 15, 16, 17]), (10, [6])] }
noncomputable def slices_EqualFunc_Node_Node_Node_Node_x (x : PDs [.val t46, .val t46, .fn [t33, t33] [t4]]) : Option (RDs [⟨t4, [false], none⟩] × ODs [.val t46, .val t46, .fn [t33, t33] [t4]]) := evFn slices_EqualFunc_Node_Node_Node_Node_Γ tab slices_EqualFunc_Node_Node_Node_Node_fi 1099511627776 [.val t46, .val t46, .fn [t33, t33] [t4]] [⟨t4, [false], none⟩] Tryz.f109 x
noncomputable def slices_EqualFunc_Node_Node_Node_Node (x0 : List (Bool × Int × ByteArray × (Int × Int × Int × Int × Int × Int × (List Int) × Int × Int × Int × Int × Int × List (Int × Int × Int)) × (Int × Int × (List (Int × ByteArray)) × (List (Int × ByteArray)) × (List (Int × Int × Int × ByteArray × Int)) × Int × Int) × Int)) (x1 : List (Bool × Int × ByteArray × (Int × Int × Int × Int × Int × Int × (List Int) × Int × Int × Int × Int × Int × List (Int × Int × Int)) × (Int × Int × (List (Int × ByteArray)) × (List (Int × ByteArray)) × (List (Int × Int × Int × ByteArray × Int)) × Int × Int) × Int)) (x2 : ((Bool × Int × ByteArray × (Int × Int × Int × Int × Int × Int × (List Int) × Int × Int × Int × Int × Int × List (Int × Int × Int)) × (Int × Int × (List (Int × ByteArray)) × (List (Int × ByteArray)) × (List (Int × Int × Int × ByteArray × Int)) × Int × Int) × Int) × (Bool × Int × ByteArray × (Int × Int × Int × Int × Int × Int × (List Int) × Int × Int × Int × Int × Int × List (Int × Int × Int)) × (Int × Int × (List (Int × ByteArray)) × (List (Int × ByteArray)) × (List (Int × Int × Int × ByteArray × Int)) × Int × Int) × Int) × Unit → Option (Bool × Unit))) : Option ((Bool × Unit) × Unit) := slices_EqualFunc_Node_Node_Node_Node_x (x0, x1, x2, ())
noncomputable def slices_EqualFunc_Node_Node_Node_Node_e : Ent := ⟨[.val t46, .val t46, .fn [t33, t33] [t4]], [⟨t4, [false], none⟩], fun x => slices_EqualFunc_Node_Node_Node_Node x.1 x.2.1 x.2.2.1⟩
theorem slices_EqualFunc_Node_Node_Node_Node_good : Good tab.ty Tryz.prog 109 slices_EqualFunc_Node_Node_Node_Node_e := by
  refine fn_good (Γ := slices_EqualFunc_Node_Node_Node_Node_Γ) (fi := slices_EqualFunc_Node_Node_Node_Node_fi) (n := 1099511627776) follows gnil tabok Tryz.func109 (by kernel_rfl) (by kernel_rfl) (fun x r h => ?_)
  obtain ⟨x0, x1, x2, _u⟩ := x
  exact h
noncomputable def slices_Equal_Kid_Γ : Ctx := []
def slices_Equal_Kid_fi : Fi := { keep := [], vty := [(6, 24), (8, 24), (11, 24), (16, 24), (20, 24)], vals := [], live := [(0, [0, 1]), (1, [0, 1, 10]), (2, [4]), (3, [0, 1, 12, 13]), (4, [0, 1, 12, 13, 14]), (5, [0, 1, 5, 12, 13]), (6, [0, 1, 12, 13, 24]), (7, [4]), (8, [0, 1, 12, 13]), (9, [4])] }
noncomputable def slices_Equal_Kid_x (x : PDs [.val t24, .val t24]) : Option (RDs [⟨t4, [false], none⟩] × ODs [.val t24, .val t24]) := evFn slices_Equal_Kid_Γ tab slices_Equal_Kid_fi 1099511627776 [.val t24, .val t24] [⟨t4, [false], none⟩] Tryz.f256 x
noncomputable def slices_Equal_Kid (x0 : List (Int × Int × Int)) (x1 : List (Int × Int × Int)) : Option ((Bool × Unit) × Unit) := slices_Equal_Kid_x (x0, x1, ())
noncomputable def slices_Equal_Kid_e : Ent := ⟨[.val t24, .val t24], [⟨t4, [false], none⟩], fun x => slices_Equal_Kid x.1 x.2.1⟩
theorem slices_Equal_Kid_good : Good tab.ty Tryz.prog 256 slices_Equal_Kid_e := by
  refine fn_good (Γ := slices_Equal_Kid_Γ) (fi := slices_Equal_Kid_fi) (n := 1099511627776) follows gnil tabok Tryz.func256 (by kernel_rfl) (by kernel_rfl) (fun x r h => ?_)
  obtain ⟨x0, x1, _u⟩ := x
  exact h
noncomputable def world_ties_Γ : Ctx := [(114, slices_Equal_int_e), (256, slices_Equal_Kid_e)]
def world_ties_fi : Fi := { keep := [], vty := [], vals := [], live := [(0, [2, 3, 12, 13, 14, 15, 16, 17, 25, 26, 27, 28, 29, 32, 33, 34, 35, 36, 39, 40, 41, 42, 43, 46, 47, 48, 49, 50, 53, 54, 55, 56, 57, 60, 61, 62, 63, 64, 67, 68, 69, 70, 71, 74, 75, 76, 77, 78, 81, 82, 83, 84, 85, 88, 89, 90, 91, 92]), (1, [2, 3, 18, 25, 26, 27, 28, 29, 32, 33, 34, 35, 36, 39, 40, 41, 42, 43, 46, 47, 48, 49, 50, 53, 54, 55, 56, 57, 60, 61, 62, 63, 64, 67, 68, 69, 70, 71, 74, 75, 76, 77, 78, 81, 82, 83, 84, 85, 88, 89, 90, 91, 92]), (2, [4]), (3, [4])] }
noncomputable def world_ties (a_0 : Int × Int × Int × Int × Int × Int × (List Int) × Int × Int × Int × Int × Int × List (Int × Int × Int)) (b_1 : Int × Int × Int × Int × Int × Int × (List Int) × Int × Int × Int × Int × Int × List (Int × Int × Int)) : Option ((Bool × Unit) × Unit) :=
 Option.bind (slices_Equal_int a_0.2.2.2.2.2.2.1 b_1.2.2.2.2.2.2.1) fun (r1 : (Bool × Unit) × Unit) =>
 bif !r1.1.1 then
  some ((false, ()), ())
 else
  Option.bind (slices_Equal_Kid a_0.2.2.2.2.2.2.2.2.2.2.2.2 b_1.2.2.2.2.2.2.2.2.2.2.2.2) fun (r2 : (Bool × Unit) × Unit) =>
  bif !r2.1.1 then
   some ((false, ()), ())
  else
  bif a_0.1 == b_1.1 then
   bif a_0.2.1 == b_1.2.1 then
    bif a_0.2.2.1 == b_1.2.2.1 then
     bif a_0.2.2.2.1 == b_1.2.2.2.1 then
      bif a_0.2.2.2.2.1 == b_1.2.2.2.2.1 then
       bif a_0.2.2.2.2.2.1 == b_1.2.2.2.2.2.1 then
        bif a_0.2.2.2.2.2.2.2.1 == b_1.2.2.2.2.2.2.2.1 then
         bif a_0.2.2.2.2.2.2.2.2.1 == b_1.2.2.2.2.2.2.2.2.1 then
          bif a_0.2.2.2.2.2.2.2.2.2.1 == b_1.2.2.2.2.2.2.2.2.2.1 then
           bif a_0.2.2.2.2.2.2.2.2.2.2.1 == b_1.2.2.2.2.2.2.2.2.2.2.1 then
            some ((a_0.2.2.2.2.2.2.2.2.2.2.2.1 == b_1.2.2.2.2.2.2.2.2.2.2.2.1, ()), ())
           else
            some ((false, ()), ())
          else
           some ((false, ()), ())
         else
          some ((false, ()), ())
        else
         some ((false, ()), ())
       else
        some ((false, ()), ())
      else
       some ((false, ()), ())
     else
      some ((false, ()), ())
    else
     some ((false, ()), ())
   else
    some ((false, ()), ())
  else
   some ((false, ()), ())
theorem world_ties_eq (a_0 : Int × Int × Int × Int × Int × Int × (List Int) × Int × Int × Int × Int × Int × List (Int × Int × Int)) (b_1 : Int × Int × Int × Int × Int × Int × (List Int) × Int × Int × Int × Int × Int × List (Int × Int × Int)) : evFn world_ties_Γ tab world_ties_fi 1 [.val t25, .val t25] [⟨t4, [false], none⟩] Tryz.f184 (a_0, b_1, ()) = world_ties a_0 b_1 := by kernel_rfl
noncomputable def world_ties_e : Ent := ⟨[.val t25, .val t25], [⟨t4, [false], none⟩], fun x => world_ties x.1 x.2.1⟩
theorem world_ties_good : Good tab.ty Tryz.prog 184 world_ties_e := by
  refine fn_good (Γ := world_ties_Γ) (fi := world_ties_fi) (n := 1) follows (gcons slices_Equal_int_good (gcons slices_Equal_Kid_good gnil)) tabok Tryz.func184 (by kernel_rfl) (by kernel_rfl) (fun x r h => ?_)
  obtain ⟨a_0, b_1, _u⟩ := x
  exact (world_ties_eq a_0 b_1).trans h
noncomputable def slices_Equal_Item_Γ : Ctx := []
def slices_Equal_Item_fi : Fi := { keep := [], vty := [(6, 27), (8, 27), (11, 27), (16, 27), (20, 27)], vals := [], live := [(0, [0, 1]), (1, [0, 1, 10]), (2, [4]), (3, [0, 1, 12, 13]), (4, [0, 1, 12, 13, 14]), (5, [0, 1, 5, 12, 13]), (6, [0, 1, 12, 13, 24]), (7, [4]), (8, [0, 1, 12, 13]), (9, [4])] }
noncomputable def slices_Equal_Item_x (x : PDs [.val t27, .val t27]) : Option (RDs [⟨t4, [false], none⟩] × ODs [.val t27, .val t27]) := evFn slices_Equal_Item_Γ tab slices_Equal_Item_fi 1099511627776 [.val t27, .val t27] [⟨t4, [false], none⟩] Tryz.f257 x
noncomputable def slices_Equal_Item (x0 : List (Int × ByteArray)) (x1 : List (Int × ByteArray)) : Option ((Bool × Unit) × Unit) := slices_Equal_Item_x (x0, x1, ())
noncomputable def slices_Equal_Item_e : Ent := ⟨[.val t27, .val t27], [⟨t4, [false], none⟩], fun x => slices_Equal_Item x.1 x.2.1⟩
theorem slices_Equal_Item_good : Good tab.ty Tryz.prog 257 slices_Equal_Item_e := by
  refine fn_good (Γ := slices_Equal_Item_Γ) (fi := slices_Equal_Item_fi) (n := 1099511627776) follows gnil tabok Tryz.func257 (by kernel_rfl) (by kernel_rfl) (fun x r h => ?_)
  obtain ⟨x0, x1, _u⟩ := x
  exact h
noncomputable def slices_Equal_Event_Γ : Ctx := []
def slices_Equal_Event_fi : Fi := { keep := [], vty := [(6, 28), (8, 28), (11, 28), (16, 28), (20, 28)], vals := [], live := [(0, [0, 1]), (1, [0, 1, 10]), (2, [4]), (3, [0, 1, 12, 13]), (4, [0, 1, 12, 13, 14]), (5, [0, 1, 5, 12, 13]), (6, [0, 1, 12, 13, 24]), (7, [4]), (8, [0, 1, 12, 13]), (9, [4])] }
noncomputable def slices_Equal_Event_x (x : PDs [.val t28, .val t28]) : Option (RDs [⟨t4, [false], none⟩] × ODs [.val t28, .val t28]) := evFn slices_Equal_Event_Γ tab slices_Equal_Event_fi 1099511627776 [.val t28, .val t28] [⟨t4, [false], none⟩] Tryz.f258 x
noncomputable def slices_Equal_Event (x0 : List (Int × Int × Int × ByteArray × Int)) (x1 : List (Int × Int × Int × ByteArray × Int)) : Option ((Bool × Unit) × Unit) := slices_Equal_Event_x (x0, x1, ())
noncomputable def slices_Equal_Event_e : Ent := ⟨[.val t28, .val t28], [⟨t4, [false], none⟩], fun x => slices_Equal_Event x.1 x.2.1⟩
theorem slices_Equal_Event_good : Good tab.ty Tryz.prog 258 slices_Equal_Event_e := by
  refine fn_good (Γ := slices_Equal_Event_Γ) (fi := slices_Equal_Event_fi) (n := 1099511627776) follows gnil tabok Tryz.func258 (by kernel_rfl) (by kernel_rfl) (fun x r h => ?_)
  obtain ⟨x0, x1, _u⟩ := x
  exact h
noncomputable def world_feeds_Γ : Ctx := [(257, slices_Equal_Item_e), (258, slices_Equal_Event_e)]
def world_feeds_fi : Fi := { keep := [], vty := [], vals := [], live := [(0, [2, 3, 11, 12, 13, 14, 15, 18, 19, 20, 21, 22, 25, 26, 27, 28, 29, 32, 33, 34, 35, 36, 39, 40, 41, 42, 43]), (1, [4])] }
noncomputable def world_feeds (a_0 : Int × Int × (List (Int × ByteArray)) × (List (Int × ByteArray)) × (List (Int × Int × Int × ByteArray × Int)) × Int × Int) (b_1 : Int × Int × (List (Int × ByteArray)) × (List (Int × ByteArray)) × (List (Int × Int × Int × ByteArray × Int)) × Int × Int) : Option ((Bool × Unit) × Unit) :=
 bif a_0.1 == b_1.1 then
  bif a_0.2.1 == b_1.2.1 then
   Option.bind (slices_Equal_Item a_0.2.2.1 b_1.2.2.1) fun (r1 : (Bool × Unit) × Unit) =>
   bif r1.1.1 then
    Option.bind (slices_Equal_Item a_0.2.2.2.1 b_1.2.2.2.1) fun (r2 : (Bool × Unit) × Unit) =>
    bif r2.1.1 then
     Option.bind (slices_Equal_Event a_0.2.2.2.2.1 b_1.2.2.2.2.1) fun (r3 : (Bool × Unit) × Unit) =>
     bif r3.1.1 then
      some (((a_0.2.2.2.2.2.1 == b_1.2.2.2.2.2.1) && ((a_0.2.2.2.2.2.2 == b_1.2.2.2.2.2.2) && true), ()), ())
     else
      some ((false, ()), ())
    else
     some ((false, ()), ())
   else
    some ((false, ()), ())
  else
   some ((false, ()), ())
 else
  some ((false, ()), ())
theorem world_feeds_eq (a_0 : Int × Int × (List (Int × ByteArray)) × (List (Int × ByteArray)) × (List (Int × Int × Int × ByteArray × Int)) × Int × Int) (b_1 : Int × Int × (List (Int × ByteArray)) × (List (Int × ByteArray)) × (List (Int × Int × Int × ByteArray × Int)) × Int × Int) : evFn world_feeds_Γ tab world_feeds_fi 1 [.val t31, .val t31] [⟨t4, [false], none⟩] Tryz.f185 (a_0, b_1, ()) = world_feeds a_0 b_1 := by kernel_rfl
noncomputable def world_feeds_e : Ent := ⟨[.val t31, .val t31], [⟨t4, [false], none⟩], fun x => world_feeds x.1 x.2.1⟩
theorem world_feeds_good : Good tab.ty Tryz.prog 185 world_feeds_e := by
  refine fn_good (Γ := world_feeds_Γ) (fi := world_feeds_fi) (n := 1) follows (gcons slices_Equal_Item_good (gcons slices_Equal_Event_good gnil)) tabok Tryz.func185 (by kernel_rfl) (by kernel_rfl) (fun x r h => ?_)
  obtain ⟨a_0, b_1, _u⟩ := x
  exact (world_feeds_eq a_0 b_1).trans h
noncomputable def world_nodes_Γ : Ctx := [(184, world_ties_e), (185, world_feeds_e)]
def world_nodes_fi : Fi := { keep := [], vty := [], vals := [], live := [(0, [2, 3, 11, 12, 13, 14, 15, 18, 19, 20, 21, 22, 25, 26, 27, 28, 29, 32, 33, 34, 35, 36, 39, 40, 41, 42, 43]), (1, [4])] }
noncomputable def world_nodes (a_0 : Bool × Int × ByteArray × (Int × Int × Int × Int × Int × Int × (List Int) × Int × Int × Int × Int × Int × List (Int × Int × Int)) × (Int × Int × (List (Int × ByteArray)) × (List (Int × ByteArray)) × (List (Int × Int × Int × ByteArray × Int)) × Int × Int) × Int) (b_1 : Bool × Int × ByteArray × (Int × Int × Int × Int × Int × Int × (List Int) × Int × Int × Int × Int × Int × List (Int × Int × Int)) × (Int × Int × (List (Int × ByteArray)) × (List (Int × ByteArray)) × (List (Int × Int × Int × ByteArray × Int)) × Int × Int) × Int) : Option ((Bool × Unit) × Unit) :=
 bif a_0.1 == b_1.1 then
  bif a_0.2.1 == b_1.2.1 then
   bif strEq a_0.2.2.1 b_1.2.2.1 then
    Option.bind (world_ties a_0.2.2.2.1 b_1.2.2.2.1) fun (r1 : (Bool × Unit) × Unit) =>
    bif r1.1.1 then
     Option.bind (world_feeds a_0.2.2.2.2.1 b_1.2.2.2.2.1) fun (r2 : (Bool × Unit) × Unit) =>
     bif r2.1.1 then
      some ((a_0.2.2.2.2.2 == b_1.2.2.2.2.2, ()), ())
     else
      some ((false, ()), ())
    else
     some ((false, ()), ())
   else
    some ((false, ()), ())
  else
   some ((false, ()), ())
 else
  some ((false, ()), ())
theorem world_nodes_eq (a_0 : Bool × Int × ByteArray × (Int × Int × Int × Int × Int × Int × (List Int) × Int × Int × Int × Int × Int × List (Int × Int × Int)) × (Int × Int × (List (Int × ByteArray)) × (List (Int × ByteArray)) × (List (Int × Int × Int × ByteArray × Int)) × Int × Int) × Int) (b_1 : Bool × Int × ByteArray × (Int × Int × Int × Int × Int × Int × (List Int) × Int × Int × Int × Int × Int × List (Int × Int × Int)) × (Int × Int × (List (Int × ByteArray)) × (List (Int × ByteArray)) × (List (Int × Int × Int × ByteArray × Int)) × Int × Int) × Int) : evFn world_nodes_Γ tab world_nodes_fi 1 [.val t33, .val t33] [⟨t4, [false], none⟩] Tryz.f110 (a_0, b_1, ()) = world_nodes a_0 b_1 := by kernel_rfl
noncomputable def world_nodes_e : Ent := ⟨[.val t33, .val t33], [⟨t4, [false], none⟩], fun x => world_nodes x.1 x.2.1⟩
theorem world_nodes_good : Good tab.ty Tryz.prog 110 world_nodes_e := by
  refine fn_good (Γ := world_nodes_Γ) (fi := world_nodes_fi) (n := 1) follows (gcons world_ties_good (gcons world_feeds_good gnil)) tabok Tryz.func110 (by kernel_rfl) (by kernel_rfl) (fun x r h => ?_)
  obtain ⟨a_0, b_1, _u⟩ := x
  exact (world_nodes_eq a_0 b_1).trans h
noncomputable def slices_Equal_Gram_Γ : Ctx := []
def slices_Equal_Gram_fi : Fi := { keep := [], vty := [(6, 47), (8, 47), (11, 47), (16, 47), (20, 47)], vals := [], live := [(0, [0, 1]), (1, [0, 1, 10]), (2, [4]), (3, [0, 1, 12, 13]), (4, [0, 1, 12, 13, 14]), (5, [0, 1, 5, 12, 13]), (6, [0, 1, 12, 13, 24]), (7, [4]), (8, [0, 1, 12, 13]), (9, [4])] }
noncomputable def slices_Equal_Gram_x (x : PDs [.val t47, .val t47]) : Option (RDs [⟨t4, [false], none⟩] × ODs [.val t47, .val t47]) := evFn slices_Equal_Gram_Γ tab slices_Equal_Gram_fi 1099511627776 [.val t47, .val t47] [⟨t4, [false], none⟩] Tryz.f111 x
noncomputable def slices_Equal_Gram (x0 : List (Int × ByteArray × Bool)) (x1 : List (Int × ByteArray × Bool)) : Option ((Bool × Unit) × Unit) := slices_Equal_Gram_x (x0, x1, ())
noncomputable def slices_Equal_Gram_e : Ent := ⟨[.val t47, .val t47], [⟨t4, [false], none⟩], fun x => slices_Equal_Gram x.1 x.2.1⟩
theorem slices_Equal_Gram_good : Good tab.ty Tryz.prog 111 slices_Equal_Gram_e := by
  refine fn_good (Γ := slices_Equal_Gram_Γ) (fi := slices_Equal_Gram_fi) (n := 1099511627776) follows gnil tabok Tryz.func111 (by kernel_rfl) (by kernel_rfl) (fun x r h => ?_)
  obtain ⟨x0, x1, _u⟩ := x
  exact h
noncomputable def slices_Equal_string_Γ : Ctx := []
def slices_Equal_string_fi : Fi := { keep := [], vty := [], vals := [], live := [(0, [0, 1]), (1, [0, 1, 10]), (2, [4]), (3, [0, 1, 12, 13]), (4, [0, 1, 12, 13, 14]), (5, [0, 1, 5, 12, 13]), (6, [0, 1, 12, 13, 24]), (7, [4]), (8, [0, 1, 12, 13]), (9, [4])] }
noncomputable def slices_Equal_string_B1 (L1 : List ByteArray → List ByteArray → Int → Int → Option ((Bool × Unit) × Unit)) (v1 : List ByteArray) (v2 : List ByteArray) (v3 : Int) (v4 : Int) : Option ((Bool × Unit) × Unit) :=
 bif decide (v4 < v3) then
  bif decide (0 ≤ v4) && decide (v4 < (v1.length : Int)) then
   bif decide (0 ≤ v4) && decide (v4 < (v2.length : Int)) then
    bif !(strEq (List.getD v1 v4.toNat (⟨#[]⟩ : ByteArray)) (List.getD v2 v4.toNat (⟨#[]⟩ : ByteArray))) then
     some ((false, ()), ())
    else
     L1 v1 v2 v3 (IntKind.wrap .i64 (v4 + 1))
   else none
  else none
 else
  some ((true, ()), ())
noncomputable def slices_Equal_string_T (L1 : List ByteArray → List ByteArray → Int → Int → Option ((Bool × Unit) × Unit)) (s1_0 : List ByteArray) (s2_1 : List ByteArray) : Option ((Bool × Unit) × Unit) :=
 bif (s1_0.length : Int) != (s2_1.length : Int) then
  some ((false, ()), ())
 else
  L1 s1_0 s2_1 (s1_0.length : Int) 0
noncomputable def slices_Equal_string_L1 (n : Nat) : Nat → List ByteArray → List ByteArray → Int → Int → Option ((Bool × Unit) × Unit) := iter (fun _ _ _ _ => none) fun L => slices_Equal_string_B1 L
noncomputable def slices_Equal_string_X1 (n m : Nat) (v1 : List ByteArray) (v2 : List ByteArray) (v3 : Int) (v4 : Int) : Option ((Bool × Unit) × Unit) :=
 atLoop slices_Equal_string_Γ tab (fiB [.val t48, .val t48] slices_Equal_string_fi) n [.val t48, .val t48] [⟨t4, [false], none⟩] Tryz.f112 [1, 1, 0, 1, 0] [] [0, 1, 12, 13] m
 ⟨[(0, SV.cv (CV.one (LV.pure t48 v1))), (1, SV.cv (CV.one (LV.pure t48 v2))), (12, SV.cv (CV.one (LV.pure t2 v3))), (13, SV.cv (CV.one (LV.pure t2 v4)))],
  []⟩
theorem slices_Equal_string_step1 (n m : Nat) (v1 : List ByteArray) (v2 : List ByteArray) (v3 : Int) (v4 : Int) : slices_Equal_string_X1 n (m + 1) v1 v2 v3 v4 = slices_Equal_string_B1 (slices_Equal_string_X1 n m) v1 v2 v3 v4 := by kernel_rfl
theorem slices_Equal_string_start (n : Nat) (s1_0 : List ByteArray) (s2_1 : List ByteArray) : evFn slices_Equal_string_Γ tab slices_Equal_string_fi n [.val t48, .val t48] [⟨t4, [false], none⟩] Tryz.f112 (s1_0, s2_1, ()) = slices_Equal_string_T (slices_Equal_string_X1 n n) s1_0 s2_1 := by kernel_rfl
theorem slices_Equal_string_XL1 (n : Nat) : ∀ m, slices_Equal_string_X1 n m = slices_Equal_string_L1 n m
 | 0 => rfl
 | m + 1 => by
  have ih := slices_Equal_string_XL1 n m
  funext v1 v2 v3 v4
  rw [slices_Equal_string_step1, ih]
  rfl
noncomputable def slices_Equal_string_n (n : Nat) (s1_0 : List ByteArray) (s2_1 : List ByteArray) : Option ((Bool × Unit) × Unit) := slices_Equal_string_T (slices_Equal_string_L1 n n) s1_0 s2_1
noncomputable def slices_Equal_string (s1_0 : List ByteArray) (s2_1 : List ByteArray) : Option ((Bool × Unit) × Unit) := slices_Equal_string_n 1099511627776 s1_0 s2_1
theorem slices_Equal_string_eq (n : Nat) (s1_0 : List ByteArray) (s2_1 : List ByteArray) : evFn slices_Equal_string_Γ tab slices_Equal_string_fi n [.val t48, .val t48] [⟨t4, [false], none⟩] Tryz.f112 (s1_0, s2_1, ()) = slices_Equal_string_n n s1_0 s2_1 := by
  rw [slices_Equal_string_start, slices_Equal_string_XL1 n n]
  rfl
noncomputable def slices_Equal_string_e : Ent := ⟨[.val t48, .val t48], [⟨t4, [false], none⟩], fun x => slices_Equal_string x.1 x.2.1⟩
theorem slices_Equal_string_good : Good tab.ty Tryz.prog 112 slices_Equal_string_e := by
  refine fn_good (Γ := slices_Equal_string_Γ) (fi := slices_Equal_string_fi) (n := 1099511627776) follows gnil tabok Tryz.func112 (by kernel_rfl) (by kernel_rfl) (fun x r h => ?_)
  obtain ⟨s1_0, s2_1, _u⟩ := x
  exact (slices_Equal_string_eq 1099511627776 s1_0 s2_1).trans h
noncomputable def slices_EqualFunc_int_int_int_int_Γ : Ctx := []
def slices_EqualFunc_int_int_int_int_fi : Fi := { keep := [], vty := [(8, 23), (9, 23), (10, 49), (12, 49), (15, 49), (22, 49), (27, 23), (28, 23)], vals := [], live := [(0, [0, 1, 2]), (1, [0, 1, 2, 14]), (2, [6]), (3, [1, 2, 15, 16, 17]), (4, [1, 2, 15, 16, 17, 18]), (5, [1, 2, 7, 8, 15, 16, 17]), (6, [1, 2, 8, 9, 15, 16, 17]), (7, [1, 2, 15, 16, 17, 30]), (8, [6]), (9, [1, 2, 15, 16, 17]), (10, [6])] }
noncomputable def slices_EqualFunc_int_int_int_int_x (x : PDs [.val t49, .val t49, .fn [t23, t23] [t4]]) : Option (RDs [⟨t4, [false], none⟩] × ODs [.val t49, .val t49, .fn [t23, t23] [t4]]) := evFn slices_EqualFunc_int_int_int_int_Γ tab slices_EqualFunc_int_int_int_int_fi 1099511627776 [.val t49, .val t49, .fn [t23, t23] [t4]] [⟨t4, [false], none⟩] Tryz.f113 x
noncomputable def slices_EqualFunc_int_int_int_int (x0 : List (List Int)) (x1 : List (List Int)) (x2 : ((List Int) × (List Int) × Unit → Option (Bool × Unit))) : Option ((Bool × Unit) × Unit) := slices_EqualFunc_int_int_int_int_x (x0, x1, x2, ())
noncomputable def slices_EqualFunc_int_int_int_int_e : Ent := ⟨[.val t49, .val t49, .fn [t23, t23] [t4]], [⟨t4, [false], none⟩], fun x => slices_EqualFunc_int_int_int_int x.1 x.2.1 x.2.2.1⟩
theorem slices_EqualFunc_int_int_int_int_good : Good tab.ty Tryz.prog 113 slices_EqualFunc_int_int_int_int_e := by
  refine fn_good (Γ := slices_EqualFunc_int_int_int_int_Γ) (fi := slices_EqualFunc_int_int_int_int_fi) (n := 1099511627776) follows gnil tabok Tryz.func113 (by kernel_rfl) (by kernel_rfl) (fun x r h => ?_)
  obtain ⟨x0, x1, x2, _u⟩ := x
  exact h
noncomputable def slices_EqualFunc_Cluster_Cluster_Cluster_Cluster_Γ : Ctx := []
def slices_EqualFunc_Cluster_Cluster_Cluster_Cluster_fi : Fi := { keep := [], vty := [(8, 190), (9, 190), (10, 50), (12, 50), (15, 50), (22, 50), (27, 190), (28, 190)], vals := [], live := [(0, [0, 1, 2]), (1, [0, 1, 2, 14]), (2, [6]), (3, [1, 2, 15, 16, 17]), (4, [1, 2, 15, 16, 17, 18]), (5, [1, 2, 7, 8, 15, 16, 17]), (6, [1, 2, 8, 9, 15, 16, 17]), (7, [1, 2, 15, 16, 17, 30]), (8, [6]), (9, [1, 2, 15, 16, 17]), (10, [6])] }
noncomputable def slices_EqualFunc_Cluster_Cluster_Cluster_Cluster_x (x : PDs [.val t50, .val t50, .fn [t190, t190] [t4]]) : Option (RDs [⟨t4, [false], none⟩] × ODs [.val t50, .val t50, .fn [t190, t190] [t4]]) := evFn slices_EqualFunc_Cluster_Cluster_Cluster_Cluster_Γ tab slices_EqualFunc_Cluster_Cluster_Cluster_Cluster_fi 1099511627776 [.val t50, .val t50, .fn [t190, t190] [t4]] [⟨t4, [false], none⟩] Tryz.f115 x
noncomputable def slices_EqualFunc_Cluster_Cluster_Cluster_Cluster (x0 : List (List ((List Int) × Int))) (x1 : List (List ((List Int) × Int))) (x2 : ((List ((List Int) × Int)) × (List ((List Int) × Int)) × Unit → Option (Bool × Unit))) : Option ((Bool × Unit) × Unit) := slices_EqualFunc_Cluster_Cluster_Cluster_Cluster_x (x0, x1, x2, ())
noncomputable def slices_EqualFunc_Cluster_Cluster_Cluster_Cluster_e : Ent := ⟨[.val t50, .val t50, .fn [t190, t190] [t4]], [⟨t4, [false], none⟩], fun x => slices_EqualFunc_Cluster_Cluster_Cluster_Cluster x.1 x.2.1 x.2.2.1⟩
theorem slices_EqualFunc_Cluster_Cluster_Cluster_Cluster_good : Good tab.ty Tryz.prog 115 slices_EqualFunc_Cluster_Cluster_Cluster_Cluster_e := by
  refine fn_good (Γ := slices_EqualFunc_Cluster_Cluster_Cluster_Cluster_Γ) (fi := slices_EqualFunc_Cluster_Cluster_Cluster_Cluster_fi) (n := 1099511627776) follows gnil tabok Tryz.func115 (by kernel_rfl) (by kernel_rfl) (fun x r h => ?_)
  obtain ⟨x0, x1, x2, _u⟩ := x
  exact h
end Go.PE
