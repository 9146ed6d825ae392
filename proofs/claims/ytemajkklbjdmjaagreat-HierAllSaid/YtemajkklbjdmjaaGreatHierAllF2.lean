/-
  Functions of the program, each as the evaluator answers it, and its contract.
  Conditions: none.
-/
import Derived.Test.YtemajkklbjdmjaaGreatHierAllF1
set_option linter.unusedVariables false
set_option maxRecDepth 100000
namespace Go.PE
open Go.Proofs
noncomputable def hier_Leave_Γ:Ctx:=[(25,hier_copied_e),(26,hier_find_e),(27,hier_all_e),(28,hier_above_e),(35,clus_Leave_e)]
def hier_Leave_fi:Fi:={ keep:=[],vty:=[],vals:=[],live:=[(0,[1,2,4]),(1,[1,2,4]),(2,[1,2,4,11]),(3,[4]),(4,[4])] }
noncomputable def hier_Leave (h_0:Int × (List (List Int)) × List (List ((List Int) × Int))) (id_1:Int):Option ((Dt30 × Unit) × Unit):=
 Option.bind (hier_copied h_0) fun (r1:(Dt30 × Unit) × Unit)=>
 Option.bind (hier_all r1.1.1) fun (r2:((List ((List Int) × Int)) × Unit) × Unit)=>
 Option.bind (hier_find r2.1.1 id_1) fun (r3:(Int × Unit) × Unit)=>
 bif decide (r3.1.1<0) then
  some ((r1.1.1,()),())
 else
  Option.bind (hier_all r1.1.1) fun (r4:((List ((List Int) × Int)) × Unit) × Unit)=>
  Option.bind (clus_Leave r1.1.1.2.1 r4.1.1 id_1 r1.1.1.1) fun (r5:((List ((List Int) × Int)) × Unit) × Unit)=>
  Option.bind (hier_above r1.1.1 r5.1.1) fun (r6:(Dt30 × Unit) × Unit)=>
  some ((r6.1.1,()),())
theorem hier_Leave_eq (h_0:Int × (List (List Int)) × List (List ((List Int) × Int))) (id_1:Int):evFn hier_Leave_Γ tab hier_Leave_fi 1 [.val t30,.val t2] [⟨t30,[false,false,false],none⟩] Tryz.f13 (h_0,id_1,())=hier_Leave h_0 id_1:=by kernel_rfl
noncomputable def hier_Leave_e:Ent:=⟨[.val t30,.val t2],[⟨t30,[false,false,false],none⟩],fun x=>hier_Leave x.1 x.2.1⟩
theorem hier_Leave_good:Good tab.ty Tryz.prog 13 hier_Leave_e:=by
  refine fn_good (Γ:=hier_Leave_Γ) (fi:=hier_Leave_fi) (n:=1) follows (gcons hier_copied_good (gcons hier_find_good (gcons hier_all_good (gcons hier_above_good (gcons clus_Leave_good gnil))))) tabok Tryz.func13 (by kernel_rfl) (by kernel_rfl) (fun x r h=>?_)
  obtain ⟨h_0,id_1,_u⟩:=x
  exact (hier_Leave_eq h_0 id_1).trans h
noncomputable def hier_Ask_Γ:Ctx:=[(26,hier_find_e)]
def hier_Ask_fi:Fi:={ keep:=[],vty:=[],vals:=[],live:=[(0,[1,2]),(1,[1,9,10,11]),(2,[1,9,10,11,12]),(3,[1,6,9,10,11]),(4,[1,6,7,9,10,11]),(5,[1,6,7,9,10,11,19]),(6,[4]),(7,[1,6,7,9,10,11,26]),(8,[4]),(9,[1,9,10,11]),(10,[4])] }
noncomputable def hier_Ask_B1 (L1:Int→(List (List ((List Int) × Int)))→Int→Int→Option ((Int × Unit) × Unit)) (v1:Int) (v2:List (List ((List Int) × Int))) (v3:Int) (v4:Int):Option ((Int × Unit) × Unit):=
 bif decide (v4<v3) then
  bif decide (0≤v4)&&decide (v4<(v2.length:Int)) then
   Option.bind (hier_find (List.getD v2 v4.toNat []) v1) fun (r5:(Int × Unit) × Unit)=>
   bif decide (r5.1.1<0) then
    some ((0,()),())
   else
   bif decide (0≤r5.1.1)&&decide (r5.1.1<((List.getD v2 v4.toNat []).length:Int)) then
    bif ((List.getD (List.getD v2 v4.toNat []) r5.1.1.toNat ([],0)).2) != v1 then
     bif decide (0≤r5.1.1)&&decide (r5.1.1<((List.getD v2 v4.toNat []).length:Int)) then
      some (((List.getD (List.getD v2 v4.toNat []) r5.1.1.toNat ([],0)).2,()),())
     else none
    else
     L1 v1 v2 v3 (IntKind.wrap .i64 (v4+1))
   else none
  else none
 else
  some ((0,()),())
noncomputable def hier_Ask_T (L1:Int→(List (List ((List Int) × Int)))→Int→Int→Option ((Int × Unit) × Unit)) (h_0:Int × (List (List Int)) × List (List ((List Int) × Int))) (id_1:Int):Option ((Int × Unit) × Unit):=
 L1 id_1 h_0.2.2 (h_0.2.2.length:Int) 0
noncomputable def hier_Ask_L1 (n:Nat):Nat→Int→(List (List ((List Int) × Int)))→Int→Int→Option ((Int × Unit) × Unit):=iter (fun _ _ _ _=>none) fun L=>hier_Ask_B1 L
noncomputable def hier_Ask_X1 (n m:Nat) (v1:Int) (v2:List (List ((List Int) × Int))) (v3:Int) (v4:Int):Option ((Int × Unit) × Unit):=
 atLoop hier_Ask_Γ tab (fiB [.val t30,.val t2] hier_Ask_fi) n [.val t30,.val t2] [⟨t2,[false],none⟩] Tryz.f16 [1,0,1,0] [] [1,9,10,11] m
 ⟨[(1,SV.cv (CV.one (LV.pure t2 v1))),(9,SV.cv (CV.one (LV.pure t29 v2))),(10,SV.cv (CV.one (LV.pure t2 v3))),(11,SV.cv (CV.one (LV.pure t2 v4)))],
  []⟩
theorem hier_Ask_step1 (n m:Nat) (v1:Int) (v2:List (List ((List Int) × Int))) (v3:Int) (v4:Int):hier_Ask_X1 n (m+1) v1 v2 v3 v4=hier_Ask_B1 (hier_Ask_X1 n m) v1 v2 v3 v4:=by kernel_rfl
theorem hier_Ask_start (n:Nat) (h_0:Int × (List (List Int)) × List (List ((List Int) × Int))) (id_1:Int):evFn hier_Ask_Γ tab hier_Ask_fi n [.val t30,.val t2] [⟨t2,[false],none⟩] Tryz.f16 (h_0,id_1,())=hier_Ask_T (hier_Ask_X1 n n) h_0 id_1:=by kernel_rfl
theorem hier_Ask_XL1 (n:Nat):∀ m,hier_Ask_X1 n m=hier_Ask_L1 n m
 | 0=>rfl
 | m+1=>by
  have ih:=hier_Ask_XL1 n m
  funext v1 v2 v3 v4
  rw [hier_Ask_step1,ih]
  rfl
noncomputable def hier_Ask_n (n:Nat) (h_0:Int × (List (List Int)) × List (List ((List Int) × Int))) (id_1:Int):Option ((Int × Unit) × Unit):=hier_Ask_T (hier_Ask_L1 n n) h_0 id_1
noncomputable def hier_Ask (h_0:Int × (List (List Int)) × List (List ((List Int) × Int))) (id_1:Int):Option ((Int × Unit) × Unit):=hier_Ask_n 1099511627776 h_0 id_1
theorem hier_Ask_eq (n:Nat) (h_0:Int × (List (List Int)) × List (List ((List Int) × Int))) (id_1:Int):evFn hier_Ask_Γ tab hier_Ask_fi n [.val t30,.val t2] [⟨t2,[false],none⟩] Tryz.f16 (h_0,id_1,())=hier_Ask_n n h_0 id_1:=by
  rw [hier_Ask_start,hier_Ask_XL1 n n]
  rfl
noncomputable def hier_Ask_e:Ent:=⟨[.val t30,.val t2],[⟨t2,[false],none⟩],fun x=>hier_Ask x.1 x.2.1⟩
theorem hier_Ask_good:Good tab.ty Tryz.prog 16 hier_Ask_e:=by
  refine fn_good (Γ:=hier_Ask_Γ) (fi:=hier_Ask_fi) (n:=1099511627776) follows (gcons hier_find_good gnil) tabok Tryz.func16 (by kernel_rfl) (by kernel_rfl) (fun x r h=>?_)
  obtain ⟨h_0,id_1,_u⟩:=x
  exact (hier_Ask_eq 1099511627776 h_0 id_1).trans h
noncomputable def hier_first_Γ:Ctx:=[(71,mid_Mid_e)]
def hier_first_fi:Fi:={ keep:=[],vty:=[],vals:=[],live:=[(0,[1,2,24,25,26,27,28,29,32,33,34,35,36,37,38,39,40,43,44,45,46,47,48,49,50,63,64,67,68,69]),(1,[1,2,5,24,25,26,27,28,29,32,33,34,35,36,37,38,39,40,43,44,45,46,47,48,49,50,63,64,67,68,69]),(2,[1,2,5,12,13,14,24,25,26,27,28,29,32,33,34,35,36,37,38,39,40,43,44,45,46,47,48,49,50,63,64,67,68,69]),(3,[1,2,5,12,13,14,15,24,25,26,27,28,29,32,33,34,35,36,37,38,39,40,43,44,45,46,47,48,49,50,63,64,67,68,69]),(4,[1,2,5,7,12,13,14,24,25,26,27,28,29,32,33,34,35,36,37,38,39,40,43,44,45,46,47,48,49,50,63,64,67,68,69]),(5,[1,2,5,7,8,12,13,14,24,25,26,27,28,29,32,33,34,35,36,37,38,39,40,43,44,45,46,47,48,49,50,63,64,67,68,69]),(6,[1,2,5,7,12,13,14,24,25,26,27,28,29,32,33,34,35,36,37,38,39,40,43,44,45,46,47,48,49,50,51,63,64,67,68,69]),(7,[4]),(8,[1,2,5,7,9,12,13,14,24,25,26,27,28,29,32,33,34,35,36,37,38,39,40,43,44,45,46,47,48,49,50,63,64,67,68,69]),(9,[1,2,5,9,12,13,14,24,25,26,27,28,29,32,33,34,35,36,37,38,39,40,43,44,45,46,47,48,49,50,53,54,55,63,64,67,68,69]),(10,[1,2,5,9,12,13,14,24,25,26,27,28,29,32,33,34,35,36,37,38,39,40,43,44,45,46,47,48,49,50,53,54,55,56,63,64,67,68,69]),(11,[1,2,5,9,11,12,13,14,24,25,26,27,28,29,32,33,34,35,36,37,38,39,40,43,44,45,46,47,48,49,50,53,54,55,63,64,67,68,69]),(12,[1,2,5,11,12,13,14,24,25,26,27,28,29,32,33,34,35,36,37,38,39,40,43,44,45,46,47,48,49,50,53,54,55,63,64,67,68,69,70]),(13,[4]),(14,[1,2,5,9,12,13,14,24,25,26,27,28,29,32,33,34,35,36,37,38,39,40,43,44,45,46,47,48,49,50,53,54,55,63,64,67,68,69]),(15,[1,2,5,9,12,13,14,24,25,26,27,28,29,32,33,34,35,36,37,38,39,40,43,44,45,46,47,48,49,50,53,54,55,63,64,67,68,69]),(16,[1,2,5,12,13,14,24,25,26,27,28,29,32,33,34,35,36,37,38,39,40,43,44,45,46,47,48,49,50,63,64,67,68,69]),(17,[4])] }
noncomputable def hier_first_B1 (L2:(List ((List Int) × Int))→Int→(List ((List Int) × Int))→Int→Int→Int→Int→Int→Int→Bool→(List ((List Int) × Int))→Int→Bool→Bool→Int→Int→Bool→Bool→Int→List (List Int)→List Int→Int→Bool→List Int→Int→Int→List Bool→Int→List (List Int)→(List (List ((List Int) × Int)))→List Int→Int→Option ((Bool × Unit) × Unit)) (L3:(List ((List Int) × Int))→Int→(List ((List Int) × Int))→Int→Int→Int→Int→Int→Int→Bool→(List ((List Int) × Int))→Int→Bool→Bool→Bool→Int→List (List Int)→List Int→Int→Bool→List Int→Int→Int→List Bool→Int→List (List Int)→(List (List ((List Int) × Int)))→List Int→Int→Option ((Bool × Unit) × Unit)) (v1:List ((List Int) × Int)) (v2:List ((List Int) × Int)) (v3:Int) (v4:Int) (v5:Int) (v6:List (List Int)) (v7:List (List ((List Int) × Int))) (v8:List Bool):Option ((Bool × Unit) × Unit):=
 bif decide (v4<v3) then
  bif decide (0≤v4)&&decide (v4<(v2.length:Int)) then
   bif decide ((((List.getD v2 v4.toNat ([],0)).1).length:Int)<1) then
    some ((false,()),())
   else
   bif decide ((((List.getD v2 v4.toNat ([],0)).1).length:Int)>IntKind.wrap .i64 ((IntKind.wrap .i64 (3*v5)) - 1)) then
    some ((false,()),())
   else
   bif decide ((v1.length:Int)>1) then
    bif decide ((((List.getD v2 v4.toNat ([],0)).1).length:Int)<v5) then
     some ((false,()),())
    else
     Option.bind (mid_Mid v6 ((List.getD v2 v4.toNat ([],0)).1)) fun (r9:(Int × Unit) × Unit)=>
     bif ((List.getD v2 v4.toNat ([],0)).2) != r9.1.1 then
      some ((false,()),())
     else
      L2 v1 0 v2 v3 v4 (((List.getD v2 v4.toNat ([],0)).1).length:Int) v5 (IntKind.wrap .i64 (3*v5)) (IntKind.wrap .i64 ((IntKind.wrap .i64 (3*v5)) - 1)) (decide ((((List.getD v2 v4.toNat ([],0)).1).length:Int)>IntKind.wrap .i64 ((IntKind.wrap .i64 (3*v5)) - 1))) v1 (v1.length:Int) (decide ((v1.length:Int)>1)) true (((List.getD v2 v4.toNat ([],0)).1).length:Int) v5 (decide ((((List.getD v2 v4.toNat ([],0)).1).length:Int)<v5)) (decide ((((List.getD v2 v4.toNat ([],0)).1).length:Int)<v5)) ((List.getD v2 v4.toNat ([],0)).2) v6 ((List.getD v2 v4.toNat ([],0)).1) r9.1.1 (((List.getD v2 v4.toNat ([],0)).2) != r9.1.1) ((List.getD v2 v4.toNat ([],0)).1) (((List.getD v2 v4.toNat ([],0)).1).length:Int) 0 v8 v5 v6 v7 ((List.getD v2 v4.toNat ([],0)).1) ((List.getD v2 v4.toNat ([],0)).2)
   else
    Option.bind (mid_Mid v6 ((List.getD v2 v4.toNat ([],0)).1)) fun (r42:(Int × Unit) × Unit)=>
    bif ((List.getD v2 v4.toNat ([],0)).2) != r42.1.1 then
     some ((false,()),())
    else
     L3 v1 0 v2 v3 v4 (((List.getD v2 v4.toNat ([],0)).1).length:Int) v5 (IntKind.wrap .i64 (3*v5)) (IntKind.wrap .i64 ((IntKind.wrap .i64 (3*v5)) - 1)) (decide ((((List.getD v2 v4.toNat ([],0)).1).length:Int)>IntKind.wrap .i64 ((IntKind.wrap .i64 (3*v5)) - 1))) v1 (v1.length:Int) (decide ((v1.length:Int)>1)) false false ((List.getD v2 v4.toNat ([],0)).2) v6 ((List.getD v2 v4.toNat ([],0)).1) r42.1.1 (((List.getD v2 v4.toNat ([],0)).2) != r42.1.1) ((List.getD v2 v4.toNat ([],0)).1) (((List.getD v2 v4.toNat ([],0)).1).length:Int) 0 v8 v5 v6 v7 ((List.getD v2 v4.toNat ([],0)).1) ((List.getD v2 v4.toNat ([],0)).2)
  else none
 else
  some ((true,()),())
noncomputable def hier_first_B2 (L2:(List ((List Int) × Int))→Int→(List ((List Int) × Int))→Int→Int→Int→Int→Int→Int→Bool→(List ((List Int) × Int))→Int→Bool→Bool→Int→Int→Bool→Bool→Int→List (List Int)→List Int→Int→Bool→List Int→Int→Int→List Bool→Int→List (List Int)→(List (List ((List Int) × Int)))→List Int→Int→Option ((Bool × Unit) × Unit)) (L1:(List ((List Int) × Int))→(List ((List Int) × Int))→Int→Int→Int→List (List Int)→(List (List ((List Int) × Int)))→List Bool→Option ((Bool × Unit) × Unit)) (v10:List ((List Int) × Int)) (v11:Int) (v12:List ((List Int) × Int)) (v13:Int) (v14:Int) (v15:Int) (v16:Int) (v17:Int) (v18:Int) (v19:Bool) (v20:List ((List Int) × Int)) (v21:Int) (v22:Bool) (v23:Bool) (v24:Int) (v25:Int) (v26:Bool) (v27:Bool) (v28:Int) (v29:List (List Int)) (v30:List Int) (v31:Int) (v32:Bool) (v33:List Int) (v34:Int) (v35:Int) (v36:List Bool) (v37:Int) (v38:List (List Int)) (v39:List (List ((List Int) × Int))) (v40:List Int) (v41:Int):Option ((Bool × Unit) × Unit):=
 bif decide (v35<v34) then
  bif decide (0≤v35)&&decide (v35<(v33.length:Int)) then
   bif decide (List.getD v33 v35.toNat 0≤v11) then
    some ((false,()),())
   else
   bif decide (List.getD v33 v35.toNat 0>8) then
    some ((false,()),())
   else
   bif (decide (0≤List.getD v33 v35.toNat 0)&&decide (List.getD v33 v35.toNat 0<9))&&decide (List.getD v33 v35.toNat 0<(v36.length:Int)) then
    bif decide (0≤List.getD v33 v35.toNat 0)&&decide (List.getD v33 v35.toNat 0<(v36.length:Int)) then
     bif List.getD v36 ((List.getD v33 v35.toNat 0).toNat) false then
      some ((false,()),())
     else
     bif (decide (0≤List.getD v33 v35.toNat 0)&&decide (List.getD v33 v35.toNat 0<9))&&decide (List.getD v33 v35.toNat 0<(v36.length:Int)) then
      bif decide (0≤List.getD v33 v35.toNat 0)&&decide (List.getD v33 v35.toNat 0<(v36.length:Int)) then
       L2 v10 (List.getD v33 v35.toNat 0) v12 v13 v14 v15 v16 v17 v18 v19 v20 v21 v22 v23 v24 v25 v26 v27 v28 v29 v30 v31 v32 v33 v34 (IntKind.wrap .i64 (v35+1)) (List.set v36 ((List.getD v33 v35.toNat 0).toNat) true) v37 v38 v39 v40 v41
      else none
     else none
    else none
   else none
  else none
 else
  L1 v10 v12 v13 (IntKind.wrap .i64 (v14+1)) v37 v38 v39 v36
noncomputable def hier_first_B3 (L3:(List ((List Int) × Int))→Int→(List ((List Int) × Int))→Int→Int→Int→Int→Int→Int→Bool→(List ((List Int) × Int))→Int→Bool→Bool→Bool→Int→List (List Int)→List Int→Int→Bool→List Int→Int→Int→List Bool→Int→List (List Int)→(List (List ((List Int) × Int)))→List Int→Int→Option ((Bool × Unit) × Unit)) (L1:(List ((List Int) × Int))→(List ((List Int) × Int))→Int→Int→Int→List (List Int)→(List (List ((List Int) × Int)))→List Bool→Option ((Bool × Unit) × Unit)) (v43:List ((List Int) × Int)) (v44:Int) (v45:List ((List Int) × Int)) (v46:Int) (v47:Int) (v48:Int) (v49:Int) (v50:Int) (v51:Int) (v52:Bool) (v53:List ((List Int) × Int)) (v54:Int) (v55:Bool) (v56:Bool) (v57:Bool) (v58:Int) (v59:List (List Int)) (v60:List Int) (v61:Int) (v62:Bool) (v63:List Int) (v64:Int) (v65:Int) (v66:List Bool) (v67:Int) (v68:List (List Int)) (v69:List (List ((List Int) × Int))) (v70:List Int) (v71:Int):Option ((Bool × Unit) × Unit):=
 bif decide (v65<v64) then
  bif decide (0≤v65)&&decide (v65<(v63.length:Int)) then
   bif decide (List.getD v63 v65.toNat 0≤v44) then
    some ((false,()),())
   else
   bif decide (List.getD v63 v65.toNat 0>8) then
    some ((false,()),())
   else
   bif (decide (0≤List.getD v63 v65.toNat 0)&&decide (List.getD v63 v65.toNat 0<9))&&decide (List.getD v63 v65.toNat 0<(v66.length:Int)) then
    bif decide (0≤List.getD v63 v65.toNat 0)&&decide (List.getD v63 v65.toNat 0<(v66.length:Int)) then
     bif List.getD v66 ((List.getD v63 v65.toNat 0).toNat) false then
      some ((false,()),())
     else
     bif (decide (0≤List.getD v63 v65.toNat 0)&&decide (List.getD v63 v65.toNat 0<9))&&decide (List.getD v63 v65.toNat 0<(v66.length:Int)) then
      bif decide (0≤List.getD v63 v65.toNat 0)&&decide (List.getD v63 v65.toNat 0<(v66.length:Int)) then
       L3 v43 (List.getD v63 v65.toNat 0) v45 v46 v47 v48 v49 v50 v51 v52 v53 v54 v55 v56 v57 v58 v59 v60 v61 v62 v63 v64 (IntKind.wrap .i64 (v65+1)) (List.set v66 ((List.getD v63 v65.toNat 0).toNat) true) v67 v68 v69 v70 v71
      else none
     else none
    else none
   else none
  else none
 else
  L1 v43 v45 v46 (IntKind.wrap .i64 (v47+1)) v67 v68 v69 v66
noncomputable def hier_first_T (L1:(List ((List Int) × Int))→(List ((List Int) × Int))→Int→Int→Int→List (List Int)→(List (List ((List Int) × Int)))→List Bool→Option ((Bool × Unit) × Unit)) (h_0:Int × (List (List Int)) × List (List ((List Int) × Int))) (cs_1:List ((List Int) × Int)):Option ((Bool × Unit) × Unit):=
 L1 cs_1 cs_1 (cs_1.length:Int) 0 h_0.1 h_0.2.1 h_0.2.2 (List.replicate 9 false)
noncomputable def hier_first_L2 (n:Nat) (m1:Nat) (r1:(List ((List Int) × Int))→(List ((List Int) × Int))→Int→Int→Int→List (List Int)→(List (List ((List Int) × Int)))→List Bool→Option ((Bool × Unit) × Unit)):Nat→(List ((List Int) × Int))→Int→(List ((List Int) × Int))→Int→Int→Int→Int→Int→Int→Bool→(List ((List Int) × Int))→Int→Bool→Bool→Int→Int→Bool→Bool→Int→List (List Int)→List Int→Int→Bool→List Int→Int→Int→List Bool→Int→List (List Int)→(List (List ((List Int) × Int)))→List Int→Int→Option ((Bool × Unit) × Unit):=iter (fun _ _ _ _ _ _ _ _ _ _ _ _ _ _ _ _ _ _ _ _ _ _ _ _ _ _ _ _ _ _ _ _=>none) fun L=>hier_first_B2 L r1
noncomputable def hier_first_L3 (n:Nat) (m1:Nat) (r1:(List ((List Int) × Int))→(List ((List Int) × Int))→Int→Int→Int→List (List Int)→(List (List ((List Int) × Int)))→List Bool→Option ((Bool × Unit) × Unit)):Nat→(List ((List Int) × Int))→Int→(List ((List Int) × Int))→Int→Int→Int→Int→Int→Int→Bool→(List ((List Int) × Int))→Int→Bool→Bool→Bool→Int→List (List Int)→List Int→Int→Bool→List Int→Int→Int→List Bool→Int→List (List Int)→(List (List ((List Int) × Int)))→List Int→Int→Option ((Bool × Unit) × Unit):=iter (fun _ _ _ _ _ _ _ _ _ _ _ _ _ _ _ _ _ _ _ _ _ _ _ _ _ _ _ _ _=>none) fun L=>hier_first_B3 L r1
noncomputable def hier_first_L1 (n:Nat):Nat→(List ((List Int) × Int))→(List ((List Int) × Int))→Int→Int→Int→List (List Int)→(List (List ((List Int) × Int)))→List Bool→Option ((Bool × Unit) × Unit):=iterN (fun _ _ _ _ _ _ _ _=>none) fun m L=>hier_first_B1 (hier_first_L2 n m L n) (hier_first_L3 n m L n)
noncomputable def hier_first_X1 (n m:Nat) (v1:List ((List Int) × Int)) (v2:List ((List Int) × Int)) (v3:Int) (v4:Int) (v5:Int) (v6:List (List Int)) (v7:List (List ((List Int) × Int))) (v8:List Bool):Option ((Bool × Unit) × Unit):=
 atLoop hier_first_Γ tab (fiB [.val t30,.val t40] hier_first_fi) n [.val t30,.val t40] [⟨t4,[false],none⟩] Tryz.f37 [1,1,0,1,0] [] [1,2,5,12,13,14] m
 ⟨[(1,SV.cv (CV.one (LV.pure t40 v1))),(2,SV.cv (CV.one (LV.ptr (2,0) 0))),(5,SV.cv (CV.one (LV.ptr (5,0) 0))),(12,SV.cv (CV.one (LV.pure t40 v2))),(13,SV.cv (CV.one (LV.pure t2 v3))),(14,SV.cv (CV.one (LV.pure t2 v4)))],
  [((2,0),Ob.box 31 [LV.pure t2 v5,LV.pure t25 v6,LV.pure t29 v7]),((5,0),Ob.arr 4 t4 v8)]⟩
noncomputable def hier_first_X2 (n m1 m:Nat) (v10:List ((List Int) × Int)) (v11:Int) (v12:List ((List Int) × Int)) (v13:Int) (v14:Int) (v15:Int) (v16:Int) (v17:Int) (v18:Int) (v19:Bool) (v20:List ((List Int) × Int)) (v21:Int) (v22:Bool) (v23:Bool) (v24:Int) (v25:Int) (v26:Bool) (v27:Bool) (v28:Int) (v29:List (List Int)) (v30:List Int) (v31:Int) (v32:Bool) (v33:List Int) (v34:Int) (v35:Int) (v36:List Bool) (v37:Int) (v38:List (List Int)) (v39:List (List ((List Int) × Int))) (v40:List Int) (v41:Int):Option ((Bool × Unit) × Unit):=
 atLoop hier_first_Γ tab (fiB [.val t30,.val t40] hier_first_fi) n [.val t30,.val t40] [⟨t4,[false],none⟩] Tryz.f37 [1,1,0,1,0,0,1,1,0,0,1,1,1,1,1,0] [(m1,[1,2,5,12,13,14])] [1,2,5,9,12,13,14,24,25,26,27,28,29,32,33,34,35,36,37,38,39,40,43,44,45,46,47,48,49,50,53,54,55] m
 ⟨[(1,SV.cv (CV.one (LV.pure t40 v10))),(2,SV.cv (CV.one (LV.ptr (2,0) 0))),(5,SV.cv (CV.one (LV.ptr (5,0) 0))),(9,SV.cv (CV.one (LV.pure t2 v11))),(12,SV.cv (CV.one (LV.pure t40 v12))),(13,SV.cv (CV.one (LV.pure t2 v13))),(14,SV.cv (CV.one (LV.pure t2 v14))),(24,SV.cv (CV.one (LV.pure t2 v15))),(25,SV.cv (CV.one (LV.ptr (2,0) 0))),(26,SV.cv (CV.one (LV.pure t2 v16))),(27,SV.cv (CV.one (LV.pure t2 v17))),(28,SV.cv (CV.one (LV.pure t2 v18))),(29,SV.cv (CV.one (LV.pure t4 v19))),(32,SV.cv (CV.one (LV.pure t40 v20))),(33,SV.cv (CV.one (LV.pure t2 v21))),(34,SV.cv (CV.one (LV.pure t4 v22))),(35,SV.cv (CV.one (LV.pure t4 v23))),(36,SV.cv (CV.one (LV.pure t2 v24))),(37,SV.cv (CV.one (LV.ptr (2,0) 0))),(38,SV.cv (CV.one (LV.pure t2 v25))),(39,SV.cv (CV.one (LV.pure t4 v26))),(40,SV.cv (CV.one (LV.pure t4 v27))),(43,SV.cv (CV.one (LV.ptr (7,0) 1))),(44,SV.cv (CV.one (LV.pure t2 v28))),(45,SV.cv (CV.one (LV.ptr (2,0) 1))),(46,SV.cv (CV.one (LV.pure t25 v29))),(47,SV.cv (CV.one (LV.ptr (7,0) 0))),(48,SV.cv (CV.one (LV.pure t41 v30))),(49,SV.cv (CV.one (LV.pure t2 v31))),(50,SV.cv (CV.one (LV.pure t4 v32))),(53,SV.cv (CV.one (LV.pure t41 v33))),(54,SV.cv (CV.one (LV.pure t2 v34))),(55,SV.cv (CV.one (LV.pure t2 v35)))],
  [((5,0),Ob.arr 4 t4 v36),((2,0),Ob.box 31 [LV.pure t2 v37,LV.pure t25 v38,LV.pure t29 v39]),((7,0),Ob.box 43 [LV.pure t41 v40,LV.pure t2 v41])]⟩
noncomputable def hier_first_X3 (n m1 m:Nat) (v43:List ((List Int) × Int)) (v44:Int) (v45:List ((List Int) × Int)) (v46:Int) (v47:Int) (v48:Int) (v49:Int) (v50:Int) (v51:Int) (v52:Bool) (v53:List ((List Int) × Int)) (v54:Int) (v55:Bool) (v56:Bool) (v57:Bool) (v58:Int) (v59:List (List Int)) (v60:List Int) (v61:Int) (v62:Bool) (v63:List Int) (v64:Int) (v65:Int) (v66:List Bool) (v67:Int) (v68:List (List Int)) (v69:List (List ((List Int) × Int))) (v70:List Int) (v71:Int):Option ((Bool × Unit) × Unit):=
 atLoop hier_first_Γ tab (fiB [.val t30,.val t40] hier_first_fi) n [.val t30,.val t40] [⟨t4,[false],none⟩] Tryz.f37 [1,1,0,1,0,0,1,1,0,0,1,1,1,1,1,0] [(m1,[1,2,5,12,13,14])] [1,2,5,9,12,13,14,24,25,26,27,28,29,32,33,34,35,40,43,44,45,46,47,48,49,50,53,54,55] m
 ⟨[(1,SV.cv (CV.one (LV.pure t40 v43))),(2,SV.cv (CV.one (LV.ptr (2,0) 0))),(5,SV.cv (CV.one (LV.ptr (5,0) 0))),(9,SV.cv (CV.one (LV.pure t2 v44))),(12,SV.cv (CV.one (LV.pure t40 v45))),(13,SV.cv (CV.one (LV.pure t2 v46))),(14,SV.cv (CV.one (LV.pure t2 v47))),(24,SV.cv (CV.one (LV.pure t2 v48))),(25,SV.cv (CV.one (LV.ptr (2,0) 0))),(26,SV.cv (CV.one (LV.pure t2 v49))),(27,SV.cv (CV.one (LV.pure t2 v50))),(28,SV.cv (CV.one (LV.pure t2 v51))),(29,SV.cv (CV.one (LV.pure t4 v52))),(32,SV.cv (CV.one (LV.pure t40 v53))),(33,SV.cv (CV.one (LV.pure t2 v54))),(34,SV.cv (CV.one (LV.pure t4 v55))),(35,SV.cv (CV.one (LV.pure t4 v56))),(40,SV.cv (CV.one (LV.pure t4 v57))),(43,SV.cv (CV.one (LV.ptr (7,0) 1))),(44,SV.cv (CV.one (LV.pure t2 v58))),(45,SV.cv (CV.one (LV.ptr (2,0) 1))),(46,SV.cv (CV.one (LV.pure t25 v59))),(47,SV.cv (CV.one (LV.ptr (7,0) 0))),(48,SV.cv (CV.one (LV.pure t41 v60))),(49,SV.cv (CV.one (LV.pure t2 v61))),(50,SV.cv (CV.one (LV.pure t4 v62))),(53,SV.cv (CV.one (LV.pure t41 v63))),(54,SV.cv (CV.one (LV.pure t2 v64))),(55,SV.cv (CV.one (LV.pure t2 v65)))],
  [((5,0),Ob.arr 4 t4 v66),((2,0),Ob.box 31 [LV.pure t2 v67,LV.pure t25 v68,LV.pure t29 v69]),((7,0),Ob.box 43 [LV.pure t41 v70,LV.pure t2 v71])]⟩
theorem hier_first_step1 (n m:Nat) (v1:List ((List Int) × Int)) (v2:List ((List Int) × Int)) (v3:Int) (v4:Int) (v5:Int) (v6:List (List Int)) (v7:List (List ((List Int) × Int))) (v8:List Bool):hier_first_X1 n (m+1) v1 v2 v3 v4 v5 v6 v7 v8=hier_first_B1 (hier_first_X2 n m n) (hier_first_X3 n m n) v1 v2 v3 v4 v5 v6 v7 v8:=by kernel_rfl
theorem hier_first_step2 (n m1 m:Nat) (v10:List ((List Int) × Int)) (v11:Int) (v12:List ((List Int) × Int)) (v13:Int) (v14:Int) (v15:Int) (v16:Int) (v17:Int) (v18:Int) (v19:Bool) (v20:List ((List Int) × Int)) (v21:Int) (v22:Bool) (v23:Bool) (v24:Int) (v25:Int) (v26:Bool) (v27:Bool) (v28:Int) (v29:List (List Int)) (v30:List Int) (v31:Int) (v32:Bool) (v33:List Int) (v34:Int) (v35:Int) (v36:List Bool) (v37:Int) (v38:List (List Int)) (v39:List (List ((List Int) × Int))) (v40:List Int) (v41:Int):hier_first_X2 n m1 (m+1) v10 v11 v12 v13 v14 v15 v16 v17 v18 v19 v20 v21 v22 v23 v24 v25 v26 v27 v28 v29 v30 v31 v32 v33 v34 v35 v36 v37 v38 v39 v40 v41=hier_first_B2 (hier_first_X2 n m1 m) (hier_first_X1 n m1) v10 v11 v12 v13 v14 v15 v16 v17 v18 v19 v20 v21 v22 v23 v24 v25 v26 v27 v28 v29 v30 v31 v32 v33 v34 v35 v36 v37 v38 v39 v40 v41:=by kernel_rfl
theorem hier_first_step3 (n m1 m:Nat) (v43:List ((List Int) × Int)) (v44:Int) (v45:List ((List Int) × Int)) (v46:Int) (v47:Int) (v48:Int) (v49:Int) (v50:Int) (v51:Int) (v52:Bool) (v53:List ((List Int) × Int)) (v54:Int) (v55:Bool) (v56:Bool) (v57:Bool) (v58:Int) (v59:List (List Int)) (v60:List Int) (v61:Int) (v62:Bool) (v63:List Int) (v64:Int) (v65:Int) (v66:List Bool) (v67:Int) (v68:List (List Int)) (v69:List (List ((List Int) × Int))) (v70:List Int) (v71:Int):hier_first_X3 n m1 (m+1) v43 v44 v45 v46 v47 v48 v49 v50 v51 v52 v53 v54 v55 v56 v57 v58 v59 v60 v61 v62 v63 v64 v65 v66 v67 v68 v69 v70 v71=hier_first_B3 (hier_first_X3 n m1 m) (hier_first_X1 n m1) v43 v44 v45 v46 v47 v48 v49 v50 v51 v52 v53 v54 v55 v56 v57 v58 v59 v60 v61 v62 v63 v64 v65 v66 v67 v68 v69 v70 v71:=by kernel_rfl
theorem hier_first_start (n:Nat) (h_0:Int × (List (List Int)) × List (List ((List Int) × Int))) (cs_1:List ((List Int) × Int)):evFn hier_first_Γ tab hier_first_fi n [.val t30,.val t40] [⟨t4,[false],none⟩] Tryz.f37 (h_0,cs_1,())=hier_first_T (hier_first_X1 n n) h_0 cs_1:=by kernel_rfl
theorem hier_first_XL2 (n:Nat) (m1:Nat) (r1:(List ((List Int) × Int))→(List ((List Int) × Int))→Int→Int→Int→List (List Int)→(List (List ((List Int) × Int)))→List Bool→Option ((Bool × Unit) × Unit)) (h1:hier_first_X1 n m1=r1):∀ m,hier_first_X2 n m1 m=hier_first_L2 n m1 r1 m
 | 0=>rfl
 | m+1=>by
  have ih:=hier_first_XL2 n m1 r1 h1 m
  funext v10 v11 v12 v13 v14 v15 v16 v17 v18 v19 v20 v21 v22 v23 v24 v25 v26 v27 v28 v29 v30 v31 v32 v33 v34 v35 v36 v37 v38 v39 v40 v41
  rw [hier_first_step2,ih,h1]
  rfl
theorem hier_first_XL3 (n:Nat) (m1:Nat) (r1:(List ((List Int) × Int))→(List ((List Int) × Int))→Int→Int→Int→List (List Int)→(List (List ((List Int) × Int)))→List Bool→Option ((Bool × Unit) × Unit)) (h1:hier_first_X1 n m1=r1):∀ m,hier_first_X3 n m1 m=hier_first_L3 n m1 r1 m
 | 0=>rfl
 | m+1=>by
  have ih:=hier_first_XL3 n m1 r1 h1 m
  funext v43 v44 v45 v46 v47 v48 v49 v50 v51 v52 v53 v54 v55 v56 v57 v58 v59 v60 v61 v62 v63 v64 v65 v66 v67 v68 v69 v70 v71
  rw [hier_first_step3,ih,h1]
  rfl
theorem hier_first_XL1 (n:Nat):∀ m,hier_first_X1 n m=hier_first_L1 n m
 | 0=>rfl
 | m+1=>by
  have ih:=hier_first_XL1 n m
  funext v1 v2 v3 v4 v5 v6 v7 v8
  rw [hier_first_step1,hier_first_XL2 n m _ ih n,hier_first_XL3 n m _ ih n]
  rfl
noncomputable def hier_first_n (n:Nat) (h_0:Int × (List (List Int)) × List (List ((List Int) × Int))) (cs_1:List ((List Int) × Int)):Option ((Bool × Unit) × Unit):=hier_first_T (hier_first_L1 n n) h_0 cs_1
noncomputable def hier_first (h_0:Int × (List (List Int)) × List (List ((List Int) × Int))) (cs_1:List ((List Int) × Int)):Option ((Bool × Unit) × Unit):=hier_first_n 1099511627776 h_0 cs_1
theorem hier_first_eq (n:Nat) (h_0:Int × (List (List Int)) × List (List ((List Int) × Int))) (cs_1:List ((List Int) × Int)):evFn hier_first_Γ tab hier_first_fi n [.val t30,.val t40] [⟨t4,[false],none⟩] Tryz.f37 (h_0,cs_1,())=hier_first_n n h_0 cs_1:=by
  rw [hier_first_start,hier_first_XL1 n n]
  rfl
noncomputable def hier_first_e:Ent:=⟨[.val t30,.val t40],[⟨t4,[false],none⟩],fun x=>hier_first x.1 x.2.1⟩
theorem hier_first_good:Good tab.ty Tryz.prog 37 hier_first_e:=by
  refine fn_good (Γ:=hier_first_Γ) (fi:=hier_first_fi) (n:=1099511627776) follows (gcons mid_Mid_good gnil) tabok Tryz.func37 (by kernel_rfl) (by kernel_rfl) (fun x r h=>?_)
  obtain ⟨h_0,cs_1,_u⟩:=x
  exact (hier_first_eq 1099511627776 h_0 cs_1).trans h
noncomputable def slices_EqualFunc_Cluster_Cluster_Cluster_Cluster_Γ:Ctx:=[]
def slices_EqualFunc_Cluster_Cluster_Cluster_Cluster_fi:Fi:={ keep:=[],vty:=[],vals:=[],live:=[(0,[0,1,2]),(1,[0,1,2,14]),(2,[6]),(3,[1,2,15,16,17]),(4,[1,2,15,16,17,18]),(5,[1,2,7,8,15,16,17]),(6,[1,2,8,9,15,16,17]),(7,[1,2,15,16,17,30]),(8,[6]),(9,[1,2,15,16,17]),(10,[6])] }
noncomputable def slices_EqualFunc_Cluster_Cluster_Cluster_Cluster_B1 (L1:(List (List ((List Int) × Int)))→((List ((List Int) × Int)) × (List ((List Int) × Int)) × Unit→Option (Bool × Unit))→(List (List ((List Int) × Int)))→Int→Int→Option ((Bool × Unit) × Unit)) (v1:List (List ((List Int) × Int))) (v2:((List ((List Int) × Int)) × (List ((List Int) × Int)) × Unit→Option (Bool × Unit))) (v3:List (List ((List Int) × Int))) (v4:Int) (v5:Int):Option ((Bool × Unit) × Unit):=
 bif decide (v5<v4) then
  bif decide (0≤v5)&&decide (v5<(v3.length:Int)) then
   bif decide (0≤v5)&&decide (v5<(v1.length:Int)) then
    Option.bind (v2 (List.getD v3 v5.toNat [],List.getD v1 v5.toNat [],())) fun (r6:Bool × Unit)=>
    bif !r6.1 then
     some ((false,()),())
    else
     L1 v1 v2 v3 v4 (IntKind.wrap .i64 (v5+1))
   else none
  else none
 else
  some ((true,()),())
noncomputable def slices_EqualFunc_Cluster_Cluster_Cluster_Cluster_T (L1:(List (List ((List Int) × Int)))→((List ((List Int) × Int)) × (List ((List Int) × Int)) × Unit→Option (Bool × Unit))→(List (List ((List Int) × Int)))→Int→Int→Option ((Bool × Unit) × Unit)) (s1_0:List (List ((List Int) × Int))) (s2_1:List (List ((List Int) × Int))) (eq_2:((List ((List Int) × Int)) × (List ((List Int) × Int)) × Unit→Option (Bool × Unit))):Option ((Bool × Unit) × Unit):=
 bif (s1_0.length:Int) != (s2_1.length:Int) then
  some ((false,()),())
 else
  L1 s2_1 eq_2 s1_0 (s1_0.length:Int) 0
noncomputable def slices_EqualFunc_Cluster_Cluster_Cluster_Cluster_L1 (n:Nat):Nat→(List (List ((List Int) × Int)))→((List ((List Int) × Int)) × (List ((List Int) × Int)) × Unit→Option (Bool × Unit))→(List (List ((List Int) × Int)))→Int→Int→Option ((Bool × Unit) × Unit):=iter (fun _ _ _ _ _=>none) fun L=>slices_EqualFunc_Cluster_Cluster_Cluster_Cluster_B1 L
noncomputable def slices_EqualFunc_Cluster_Cluster_Cluster_Cluster_X1 (n m:Nat) (v1:List (List ((List Int) × Int))) (v2:((List ((List Int) × Int)) × (List ((List Int) × Int)) × Unit→Option (Bool × Unit))) (v3:List (List ((List Int) × Int))) (v4:Int) (v5:Int):Option ((Bool × Unit) × Unit):=
 atLoop slices_EqualFunc_Cluster_Cluster_Cluster_Cluster_Γ tab (fiB [.val t29,.val t29,.fn [t40,t40] [t4]] slices_EqualFunc_Cluster_Cluster_Cluster_Cluster_fi) n [.val t29,.val t29,.fn [t40,t40] [t4]] [⟨t4,[false],none⟩] Tryz.f38 [1,1,0,1,0] [] [1,2,15,16,17] m
 ⟨[(1,SV.cv (CV.one (LV.pure t29 v1))),(2,SV.cv (CV.one (LV.clo [t40,t40] [t4] v2))),(15,SV.cv (CV.one (LV.pure t29 v3))),(16,SV.cv (CV.one (LV.pure t2 v4))),(17,SV.cv (CV.one (LV.pure t2 v5)))],
  []⟩
theorem slices_EqualFunc_Cluster_Cluster_Cluster_Cluster_step1 (n m:Nat) (v1:List (List ((List Int) × Int))) (v2:((List ((List Int) × Int)) × (List ((List Int) × Int)) × Unit→Option (Bool × Unit))) (v3:List (List ((List Int) × Int))) (v4:Int) (v5:Int):slices_EqualFunc_Cluster_Cluster_Cluster_Cluster_X1 n (m+1) v1 v2 v3 v4 v5=slices_EqualFunc_Cluster_Cluster_Cluster_Cluster_B1 (slices_EqualFunc_Cluster_Cluster_Cluster_Cluster_X1 n m) v1 v2 v3 v4 v5:=by kernel_rfl
theorem slices_EqualFunc_Cluster_Cluster_Cluster_Cluster_start (n:Nat) (s1_0:List (List ((List Int) × Int))) (s2_1:List (List ((List Int) × Int))) (eq_2:((List ((List Int) × Int)) × (List ((List Int) × Int)) × Unit→Option (Bool × Unit))):evFn slices_EqualFunc_Cluster_Cluster_Cluster_Cluster_Γ tab slices_EqualFunc_Cluster_Cluster_Cluster_Cluster_fi n [.val t29,.val t29,.fn [t40,t40] [t4]] [⟨t4,[false],none⟩] Tryz.f38 (s1_0,s2_1,eq_2,())=slices_EqualFunc_Cluster_Cluster_Cluster_Cluster_T (slices_EqualFunc_Cluster_Cluster_Cluster_Cluster_X1 n n) s1_0 s2_1 eq_2:=by kernel_rfl
theorem slices_EqualFunc_Cluster_Cluster_Cluster_Cluster_XL1 (n:Nat):∀ m,slices_EqualFunc_Cluster_Cluster_Cluster_Cluster_X1 n m=slices_EqualFunc_Cluster_Cluster_Cluster_Cluster_L1 n m
 | 0=>rfl
 | m+1=>by
  have ih:=slices_EqualFunc_Cluster_Cluster_Cluster_Cluster_XL1 n m
  funext v1 v2 v3 v4 v5
  rw [slices_EqualFunc_Cluster_Cluster_Cluster_Cluster_step1,ih]
  rfl
noncomputable def slices_EqualFunc_Cluster_Cluster_Cluster_Cluster_n (n:Nat) (s1_0:List (List ((List Int) × Int))) (s2_1:List (List ((List Int) × Int))) (eq_2:((List ((List Int) × Int)) × (List ((List Int) × Int)) × Unit→Option (Bool × Unit))):Option ((Bool × Unit) × Unit):=slices_EqualFunc_Cluster_Cluster_Cluster_Cluster_T (slices_EqualFunc_Cluster_Cluster_Cluster_Cluster_L1 n n) s1_0 s2_1 eq_2
noncomputable def slices_EqualFunc_Cluster_Cluster_Cluster_Cluster (s1_0:List (List ((List Int) × Int))) (s2_1:List (List ((List Int) × Int))) (eq_2:((List ((List Int) × Int)) × (List ((List Int) × Int)) × Unit→Option (Bool × Unit))):Option ((Bool × Unit) × Unit):=slices_EqualFunc_Cluster_Cluster_Cluster_Cluster_n 1099511627776 s1_0 s2_1 eq_2
theorem slices_EqualFunc_Cluster_Cluster_Cluster_Cluster_eq (n:Nat) (s1_0:List (List ((List Int) × Int))) (s2_1:List (List ((List Int) × Int))) (eq_2:((List ((List Int) × Int)) × (List ((List Int) × Int)) × Unit→Option (Bool × Unit))):evFn slices_EqualFunc_Cluster_Cluster_Cluster_Cluster_Γ tab slices_EqualFunc_Cluster_Cluster_Cluster_Cluster_fi n [.val t29,.val t29,.fn [t40,t40] [t4]] [⟨t4,[false],none⟩] Tryz.f38 (s1_0,s2_1,eq_2,())=slices_EqualFunc_Cluster_Cluster_Cluster_Cluster_n n s1_0 s2_1 eq_2:=by
  rw [slices_EqualFunc_Cluster_Cluster_Cluster_Cluster_start,slices_EqualFunc_Cluster_Cluster_Cluster_Cluster_XL1 n n]
  rfl
noncomputable def slices_EqualFunc_Cluster_Cluster_Cluster_Cluster_e:Ent:=⟨[.val t29,.val t29,.fn [t40,t40] [t4]],[⟨t4,[false],none⟩],fun x=>slices_EqualFunc_Cluster_Cluster_Cluster_Cluster x.1 x.2.1 x.2.2.1⟩
theorem slices_EqualFunc_Cluster_Cluster_Cluster_Cluster_good:Good tab.ty Tryz.prog 38 slices_EqualFunc_Cluster_Cluster_Cluster_Cluster_e:=by
  refine fn_good (Γ:=slices_EqualFunc_Cluster_Cluster_Cluster_Cluster_Γ) (fi:=slices_EqualFunc_Cluster_Cluster_Cluster_Cluster_fi) (n:=1099511627776) follows gnil tabok Tryz.func38 (by kernel_rfl) (by kernel_rfl) (fun x r h=>?_)
  obtain ⟨s1_0,s2_1,eq_2,_u⟩:=x
  exact (slices_EqualFunc_Cluster_Cluster_Cluster_Cluster_eq 1099511627776 s1_0 s2_1 eq_2).trans h
noncomputable def slices_EqualFunc_Cluster_Cluster_Cluster_Cluster_b_Γ:Ctx:=[]
def slices_EqualFunc_Cluster_Cluster_Cluster_Cluster_b_fi:Fi:={ keep:=[],vty:=[],vals:=[],live:=[(0,[0,1,2]),(1,[0,1,2,14]),(2,[6]),(3,[1,2,15,16,17]),(4,[1,2,15,16,17,18]),(5,[1,2,7,8,15,16,17]),(6,[1,2,8,9,15,16,17]),(7,[1,2,15,16,17,30]),(8,[6]),(9,[1,2,15,16,17]),(10,[6])] }
noncomputable def slices_EqualFunc_Cluster_Cluster_Cluster_Cluster_b_B1 (L1:(List ((List Int) × Int))→(((List Int) × Int) × ((List Int) × Int) × Unit→Option (Bool × Unit))→(List ((List Int) × Int))→Int→Int→Option ((Bool × Unit) × Unit)) (v1:List ((List Int) × Int)) (v2:(((List Int) × Int) × ((List Int) × Int) × Unit→Option (Bool × Unit))) (v3:List ((List Int) × Int)) (v4:Int) (v5:Int):Option ((Bool × Unit) × Unit):=
 bif decide (v5<v4) then
  bif decide (0≤v5)&&decide (v5<(v3.length:Int)) then
   bif decide (0≤v5)&&decide (v5<(v1.length:Int)) then
    Option.bind (v2 ((List.getD v3 v5.toNat ([],0)),(List.getD v1 v5.toNat ([],0)),())) fun (r6:Bool × Unit)=>
    bif !r6.1 then
     some ((false,()),())
    else
     L1 v1 v2 v3 v4 (IntKind.wrap .i64 (v5+1))
   else none
  else none
 else
  some ((true,()),())
noncomputable def slices_EqualFunc_Cluster_Cluster_Cluster_Cluster_b_T (L1:(List ((List Int) × Int))→(((List Int) × Int) × ((List Int) × Int) × Unit→Option (Bool × Unit))→(List ((List Int) × Int))→Int→Int→Option ((Bool × Unit) × Unit)) (s1_0:List ((List Int) × Int)) (s2_1:List ((List Int) × Int)) (eq_2:(((List Int) × Int) × ((List Int) × Int) × Unit→Option (Bool × Unit))):Option ((Bool × Unit) × Unit):=
 bif (s1_0.length:Int) != (s2_1.length:Int) then
  some ((false,()),())
 else
  L1 s2_1 eq_2 s1_0 (s1_0.length:Int) 0
noncomputable def slices_EqualFunc_Cluster_Cluster_Cluster_Cluster_b_L1 (n:Nat):Nat→(List ((List Int) × Int))→(((List Int) × Int) × ((List Int) × Int) × Unit→Option (Bool × Unit))→(List ((List Int) × Int))→Int→Int→Option ((Bool × Unit) × Unit):=iter (fun _ _ _ _ _=>none) fun L=>slices_EqualFunc_Cluster_Cluster_Cluster_Cluster_b_B1 L
noncomputable def slices_EqualFunc_Cluster_Cluster_Cluster_Cluster_b_X1 (n m:Nat) (v1:List ((List Int) × Int)) (v2:(((List Int) × Int) × ((List Int) × Int) × Unit→Option (Bool × Unit))) (v3:List ((List Int) × Int)) (v4:Int) (v5:Int):Option ((Bool × Unit) × Unit):=
 atLoop slices_EqualFunc_Cluster_Cluster_Cluster_Cluster_b_Γ tab (fiB [.val t40,.val t40,.fn [t42,t42] [t4]] slices_EqualFunc_Cluster_Cluster_Cluster_Cluster_b_fi) n [.val t40,.val t40,.fn [t42,t42] [t4]] [⟨t4,[false],none⟩] Tryz.f72 [1,1,0,1,0] [] [1,2,15,16,17] m
 ⟨[(1,SV.cv (CV.one (LV.pure t40 v1))),(2,SV.cv (CV.one (LV.clo [t42,t42] [t4] v2))),(15,SV.cv (CV.one (LV.pure t40 v3))),(16,SV.cv (CV.one (LV.pure t2 v4))),(17,SV.cv (CV.one (LV.pure t2 v5)))],
  []⟩
theorem slices_EqualFunc_Cluster_Cluster_Cluster_Cluster_b_step1 (n m:Nat) (v1:List ((List Int) × Int)) (v2:(((List Int) × Int) × ((List Int) × Int) × Unit→Option (Bool × Unit))) (v3:List ((List Int) × Int)) (v4:Int) (v5:Int):slices_EqualFunc_Cluster_Cluster_Cluster_Cluster_b_X1 n (m+1) v1 v2 v3 v4 v5=slices_EqualFunc_Cluster_Cluster_Cluster_Cluster_b_B1 (slices_EqualFunc_Cluster_Cluster_Cluster_Cluster_b_X1 n m) v1 v2 v3 v4 v5:=by kernel_rfl
theorem slices_EqualFunc_Cluster_Cluster_Cluster_Cluster_b_start (n:Nat) (s1_0:List ((List Int) × Int)) (s2_1:List ((List Int) × Int)) (eq_2:(((List Int) × Int) × ((List Int) × Int) × Unit→Option (Bool × Unit))):evFn slices_EqualFunc_Cluster_Cluster_Cluster_Cluster_b_Γ tab slices_EqualFunc_Cluster_Cluster_Cluster_Cluster_b_fi n [.val t40,.val t40,.fn [t42,t42] [t4]] [⟨t4,[false],none⟩] Tryz.f72 (s1_0,s2_1,eq_2,())=slices_EqualFunc_Cluster_Cluster_Cluster_Cluster_b_T (slices_EqualFunc_Cluster_Cluster_Cluster_Cluster_b_X1 n n) s1_0 s2_1 eq_2:=by kernel_rfl
theorem slices_EqualFunc_Cluster_Cluster_Cluster_Cluster_b_XL1 (n:Nat):∀ m,slices_EqualFunc_Cluster_Cluster_Cluster_Cluster_b_X1 n m=slices_EqualFunc_Cluster_Cluster_Cluster_Cluster_b_L1 n m
 | 0=>rfl
 | m+1=>by
  have ih:=slices_EqualFunc_Cluster_Cluster_Cluster_Cluster_b_XL1 n m
  funext v1 v2 v3 v4 v5
  rw [slices_EqualFunc_Cluster_Cluster_Cluster_Cluster_b_step1,ih]
  rfl
noncomputable def slices_EqualFunc_Cluster_Cluster_Cluster_Cluster_b_n (n:Nat) (s1_0:List ((List Int) × Int)) (s2_1:List ((List Int) × Int)) (eq_2:(((List Int) × Int) × ((List Int) × Int) × Unit→Option (Bool × Unit))):Option ((Bool × Unit) × Unit):=slices_EqualFunc_Cluster_Cluster_Cluster_Cluster_b_T (slices_EqualFunc_Cluster_Cluster_Cluster_Cluster_b_L1 n n) s1_0 s2_1 eq_2
noncomputable def slices_EqualFunc_Cluster_Cluster_Cluster_Cluster_b (s1_0:List ((List Int) × Int)) (s2_1:List ((List Int) × Int)) (eq_2:(((List Int) × Int) × ((List Int) × Int) × Unit→Option (Bool × Unit))):Option ((Bool × Unit) × Unit):=slices_EqualFunc_Cluster_Cluster_Cluster_Cluster_b_n 1099511627776 s1_0 s2_1 eq_2
theorem slices_EqualFunc_Cluster_Cluster_Cluster_Cluster_b_eq (n:Nat) (s1_0:List ((List Int) × Int)) (s2_1:List ((List Int) × Int)) (eq_2:(((List Int) × Int) × ((List Int) × Int) × Unit→Option (Bool × Unit))):evFn slices_EqualFunc_Cluster_Cluster_Cluster_Cluster_b_Γ tab slices_EqualFunc_Cluster_Cluster_Cluster_Cluster_b_fi n [.val t40,.val t40,.fn [t42,t42] [t4]] [⟨t4,[false],none⟩] Tryz.f72 (s1_0,s2_1,eq_2,())=slices_EqualFunc_Cluster_Cluster_Cluster_Cluster_b_n n s1_0 s2_1 eq_2:=by
  rw [slices_EqualFunc_Cluster_Cluster_Cluster_Cluster_b_start,slices_EqualFunc_Cluster_Cluster_Cluster_Cluster_b_XL1 n n]
  rfl
noncomputable def slices_EqualFunc_Cluster_Cluster_Cluster_Cluster_b_e:Ent:=⟨[.val t40,.val t40,.fn [t42,t42] [t4]],[⟨t4,[false],none⟩],fun x=>slices_EqualFunc_Cluster_Cluster_Cluster_Cluster_b x.1 x.2.1 x.2.2.1⟩
theorem slices_EqualFunc_Cluster_Cluster_Cluster_Cluster_b_good:Good tab.ty Tryz.prog 72 slices_EqualFunc_Cluster_Cluster_Cluster_Cluster_b_e:=by
  refine fn_good (Γ:=slices_EqualFunc_Cluster_Cluster_Cluster_Cluster_b_Γ) (fi:=slices_EqualFunc_Cluster_Cluster_Cluster_Cluster_b_fi) (n:=1099511627776) follows gnil tabok Tryz.func72 (by kernel_rfl) (by kernel_rfl) (fun x r h=>?_)
  obtain ⟨s1_0,s2_1,eq_2,_u⟩:=x
  exact (slices_EqualFunc_Cluster_Cluster_Cluster_Cluster_b_eq 1099511627776 s1_0 s2_1 eq_2).trans h
noncomputable def slices_Equal_int_Γ:Ctx:=[]
def slices_Equal_int_fi:Fi:={ keep:=[],vty:=[],vals:=[],live:=[(0,[0,1]),(1,[0,1,10]),(2,[4]),(3,[0,1,12,13]),(4,[0,1,12,13,14]),(5,[0,1,5,12,13]),(6,[0,1,12,13,24]),(7,[4]),(8,[0,1,12,13]),(9,[4])] }
noncomputable def slices_Equal_int_B1 (L1:List Int→List Int→Int→Int→Option ((Bool × Unit) × Unit)) (v1:List Int) (v2:List Int) (v3:Int) (v4:Int):Option ((Bool × Unit) × Unit):=
 bif decide (v4<v3) then
  bif decide (0≤v4)&&decide (v4<(v1.length:Int)) then
   bif decide (0≤v4)&&decide (v4<(v2.length:Int)) then
    bif (List.getD v1 v4.toNat 0) != (List.getD v2 v4.toNat 0) then
     some ((false,()),())
    else
     L1 v1 v2 v3 (IntKind.wrap .i64 (v4+1))
   else none
  else none
 else
  some ((true,()),())
noncomputable def slices_Equal_int_T (L1:List Int→List Int→Int→Int→Option ((Bool × Unit) × Unit)) (s1_0:List Int) (s2_1:List Int):Option ((Bool × Unit) × Unit):=
 bif (s1_0.length:Int) != (s2_1.length:Int) then
  some ((false,()),())
 else
  L1 s1_0 s2_1 (s1_0.length:Int) 0
noncomputable def slices_Equal_int_L1 (n:Nat):Nat→List Int→List Int→Int→Int→Option ((Bool × Unit) × Unit):=iter (fun _ _ _ _=>none) fun L=>slices_Equal_int_B1 L
noncomputable def slices_Equal_int_X1 (n m:Nat) (v1:List Int) (v2:List Int) (v3:Int) (v4:Int):Option ((Bool × Unit) × Unit):=
 atLoop slices_Equal_int_Γ tab (fiB [.val t41,.val t41] slices_Equal_int_fi) n [.val t41,.val t41] [⟨t4,[false],none⟩] Tryz.f74 [1,1,0,1,0] [] [0,1,12,13] m
 ⟨[(0,SV.cv (CV.one (LV.pure t41 v1))),(1,SV.cv (CV.one (LV.pure t41 v2))),(12,SV.cv (CV.one (LV.pure t2 v3))),(13,SV.cv (CV.one (LV.pure t2 v4)))],
  []⟩
theorem slices_Equal_int_step1 (n m:Nat) (v1:List Int) (v2:List Int) (v3:Int) (v4:Int):slices_Equal_int_X1 n (m+1) v1 v2 v3 v4=slices_Equal_int_B1 (slices_Equal_int_X1 n m) v1 v2 v3 v4:=by kernel_rfl
theorem slices_Equal_int_start (n:Nat) (s1_0:List Int) (s2_1:List Int):evFn slices_Equal_int_Γ tab slices_Equal_int_fi n [.val t41,.val t41] [⟨t4,[false],none⟩] Tryz.f74 (s1_0,s2_1,())=slices_Equal_int_T (slices_Equal_int_X1 n n) s1_0 s2_1:=by kernel_rfl
theorem slices_Equal_int_XL1 (n:Nat):∀ m,slices_Equal_int_X1 n m=slices_Equal_int_L1 n m
 | 0=>rfl
 | m+1=>by
  have ih:=slices_Equal_int_XL1 n m
  funext v1 v2 v3 v4
  rw [slices_Equal_int_step1,ih]
  rfl
noncomputable def slices_Equal_int_n (n:Nat) (s1_0:List Int) (s2_1:List Int):Option ((Bool × Unit) × Unit):=slices_Equal_int_T (slices_Equal_int_L1 n n) s1_0 s2_1
noncomputable def slices_Equal_int (s1_0:List Int) (s2_1:List Int):Option ((Bool × Unit) × Unit):=slices_Equal_int_n 1099511627776 s1_0 s2_1
theorem slices_Equal_int_eq (n:Nat) (s1_0:List Int) (s2_1:List Int):evFn slices_Equal_int_Γ tab slices_Equal_int_fi n [.val t41,.val t41] [⟨t4,[false],none⟩] Tryz.f74 (s1_0,s2_1,())=slices_Equal_int_n n s1_0 s2_1:=by
  rw [slices_Equal_int_start,slices_Equal_int_XL1 n n]
  rfl
noncomputable def slices_Equal_int_e:Ent:=⟨[.val t41,.val t41],[⟨t4,[false],none⟩],fun x=>slices_Equal_int x.1 x.2.1⟩
theorem slices_Equal_int_good:Good tab.ty Tryz.prog 74 slices_Equal_int_e:=by
  refine fn_good (Γ:=slices_Equal_int_Γ) (fi:=slices_Equal_int_fi) (n:=1099511627776) follows gnil tabok Tryz.func74 (by kernel_rfl) (by kernel_rfl) (fun x r h=>?_)
  obtain ⟨s1_0,s2_1,_u⟩:=x
  exact (slices_Equal_int_eq 1099511627776 s1_0 s2_1).trans h
noncomputable def hier_same_fn1_Γ:Ctx:=[(74,slices_Equal_int_e)]
def hier_same_fn1_fi:Fi:={ keep:=[],vty:=[],vals:=[],live:=[(0,[2,3,11,12,13,14,15]),(1,[4])] }
noncomputable def hier_same_fn1 (c_0:(List Int) × Int) (x_1:(List Int) × Int):Option ((Bool × Unit) × Unit):=
 bif c_0.2==x_1.2 then
  Option.bind (slices_Equal_int c_0.1 x_1.1) fun (r1:(Bool × Unit) × Unit)=>
  some ((r1.1.1,()),())
 else
  some ((false,()),())
theorem hier_same_fn1_eq (c_0:(List Int) × Int) (x_1:(List Int) × Int):evFn hier_same_fn1_Γ tab hier_same_fn1_fi 1 [.val t42,.val t42] [⟨t4,[false],none⟩] Tryz.f73 (c_0,x_1,())=hier_same_fn1 c_0 x_1:=by kernel_rfl
noncomputable def hier_same_fn1_e:Ent:=⟨[.val t42,.val t42],[⟨t4,[false],none⟩],fun x=>hier_same_fn1 x.1 x.2.1⟩
theorem hier_same_fn1_good:Good tab.ty Tryz.prog 73 hier_same_fn1_e:=by
  refine fn_good (Γ:=hier_same_fn1_Γ) (fi:=hier_same_fn1_fi) (n:=1) follows (gcons slices_Equal_int_good gnil) tabok Tryz.func73 (by kernel_rfl) (by kernel_rfl) (fun x r h=>?_)
  obtain ⟨c_0,x_1,_u⟩:=x
  exact (hier_same_fn1_eq c_0 x_1).trans h
noncomputable def hier_same_Γ:Ctx:=[(72,slices_EqualFunc_Cluster_Cluster_Cluster_Cluster_b_e),(73,hier_same_fn1_e)]
def hier_same_fi:Fi:={ keep:=[],vty:=[],vals:=[],live:=[(0,[0,1]),(1,[4])] }
noncomputable def hier_same (a_0:List ((List Int) × Int)) (b_1:List ((List Int) × Int)):Option ((Bool × Unit) × Unit):=
 Option.bind (slices_EqualFunc_Cluster_Cluster_Cluster_Cluster_b a_0 b_1 (fun x=>(hier_same_fn1 x.1 x.2.1).bind fun r=>some (r.1.1,()))) fun (r1:(Bool × Unit) × Unit)=>
 some ((r1.1.1,()),())
theorem hier_same_eq (a_0:List ((List Int) × Int)) (b_1:List ((List Int) × Int)):evFn hier_same_Γ tab hier_same_fi 1 [.val t40,.val t40] [⟨t4,[false],none⟩] Tryz.f39 (a_0,b_1,())=hier_same a_0 b_1:=by kernel_rfl
noncomputable def hier_same_e:Ent:=⟨[.val t40,.val t40],[⟨t4,[false],none⟩],fun x=>hier_same x.1 x.2.1⟩
theorem hier_same_good:Good tab.ty Tryz.prog 39 hier_same_e:=by
  refine fn_good (Γ:=hier_same_Γ) (fi:=hier_same_fi) (n:=1) follows (gcons slices_EqualFunc_Cluster_Cluster_Cluster_Cluster_b_good (gcons hier_same_fn1_good gnil)) tabok Tryz.func39 (by kernel_rfl) (by kernel_rfl) (fun x r h=>?_)
  obtain ⟨a_0,b_1,_u⟩:=x
  exact (hier_same_eq a_0 b_1).trans h
noncomputable def hier_May_Γ:Ctx:=[(8,hier_New_e),(28,hier_above_e),(37,hier_first_e),(38,slices_EqualFunc_Cluster_Cluster_Cluster_Cluster_e),(39,hier_same_e)]
def hier_May_fi:Fi:={ keep:=[],vty:=[],vals:=[],live:=[(0,[1,26,27,28,29,30,31,32]),(1,[1,4,26,27,28,29,30,31,32]),(2,[1,14,26,27,28,29,30,31,32]),(3,[2]),(4,[1,18,26,27,28,29,30,31,32]),(5,[2]),(6,[1,33]),(7,[2]),(8,[2])] }
noncomputable def hier_May (h_0:Int × (List (List Int)) × List (List ((List Int) × Int))):Option ((Bool × Unit) × Unit):=
 Option.bind (hier_New h_0.2.1 h_0.1) fun (r1:(Dt30 × Bool × Unit) × Unit)=>
 bif !r1.1.2.1 then
  some ((false,()),())
 else
 bif (h_0.2.2.length:Int)==0 then
  some ((true,()),())
 else
 bif decide (0<(h_0.2.2.length:Int)) then
  bif ((List.getD h_0.2.2 0 []).length:Int)==0 then
   some ((false,()),())
  else
  bif decide (0<(h_0.2.2.length:Int)) then
   Option.bind (hier_first h_0 (List.getD h_0.2.2 0 [])) fun (r2:(Bool × Unit) × Unit)=>
   bif !r2.1.1 then
    some ((false,()),())
   else
   bif decide (0<(h_0.2.2.length:Int)) then
    Option.bind (hier_above h_0 (List.getD h_0.2.2 0 [])) fun (r3:(Dt30 × Unit) × Unit)=>
    Option.bind (slices_EqualFunc_Cluster_Cluster_Cluster_Cluster r3.1.1.2.2 h_0.2.2 (fun x=>(hier_same x.1 x.2.1).bind fun r=>some (r.1.1,()))) fun (r4:(Bool × Unit) × Unit)=>
    some ((r4.1.1,()),())
   else none
  else none
 else none
theorem hier_May_eq (h_0:Int × (List (List Int)) × List (List ((List Int) × Int))):evFn hier_May_Γ tab hier_May_fi 1 [.val t30] [⟨t4,[false],none⟩] Tryz.f15 (h_0,())=hier_May h_0:=by kernel_rfl
noncomputable def hier_May_e:Ent:=⟨[.val t30],[⟨t4,[false],none⟩],fun x=>hier_May x.1⟩
theorem hier_May_good:Good tab.ty Tryz.prog 15 hier_May_e:=by
  refine fn_good (Γ:=hier_May_Γ) (fi:=hier_May_fi) (n:=1) follows (gcons hier_New_good (gcons hier_above_good (gcons hier_first_good (gcons slices_EqualFunc_Cluster_Cluster_Cluster_Cluster_good (gcons hier_same_good gnil))))) tabok Tryz.func15 (by kernel_rfl) (by kernel_rfl) (fun x r h=>?_)
  obtain ⟨h_0,_u⟩:=x
  exact (hier_May_eq h_0).trans h
noncomputable def pleachlaw9_begun_Γ:Ctx:=[(6,pleachmade_Made_e),(7,pleachmade_Picks_Dist_e),(8,hier_New_e),(11,hier_Join_e),(13,hier_Leave_e),(15,hier_May_e),(16,hier_Ask_e)]
def pleachlaw9_begun_fi:Fi:={ keep:=[],vty:=[],vals:=[],live:=[(0,[24,25,28,29,30,31,34,35,36,37,38,39,42,43,44,47,48,49,52,53,54,55,58,59,60,63,64,67,68,69]),(1,[1,2,24,25,28,29,30,31,34,35,36,37,38,39,42,43,44,47,48,49,52,53,54,55,58,59,60,63,64,67,68,69]),(2,[1,2,4,24,25,28,29,30,31,34,35,36,37,38,39,42,43,44,47,48,49,52,53,54,55,58,59,60,63,64,67,68,69]),(3,[2,4,5,24,25,28,29,30,31,34,35,36,37,38,39,42,43,44,47,48,49,52,53,54,55,58,59,60,63,64,67,68,69]),(4,[2,4,5,6,24,25,28,29,30,31,34,35,36,37,38,39,42,43,44,47,48,49,52,53,54,55,58,59,60,63,64,67,68,69]),(5,[0])] }
noncomputable def pleachlaw9_begun  : Option ((Bool × Unit) × Unit):=
 Option.bind (pleachmade_Made []) fun (r1:(((List Int) × Int) × Unit) × Unit)=>
 Option.bind (pleachmade_Picks_Dist r1.1.1) fun (r2:((List (List Int)) × Unit) × (((List Int) × Int) × Unit))=>
 Option.bind (hier_New r2.1.1 1) fun (r3:(Dt30 × Bool × Unit) × Unit)=>
 Option.bind (hier_New [] 1) fun (r4:(Dt30 × Bool × Unit) × Unit)=>
 Option.bind (hier_Join r3.1.1 1) fun (r5:(Dt30 × Unit) × Unit)=>
 Option.bind (hier_Join r5.1.1 2) fun (r6:(Dt30 × Unit) × Unit)=>
 Option.bind (hier_Leave r6.1.1 1) fun (r7:(Dt30 × Unit) × Unit)=>
 bif r3.1.2.1 then
  bif !r4.1.2.1 then
   bif (r6.1.1.2.2.length:Int)==1 then
    bif decide (0<(r6.1.1.2.2.length:Int)) then
     bif ((List.getD r6.1.1.2.2 0 []).length:Int)==1 then
      Option.bind (hier_Ask r6.1.1 2) fun (r8:(Int × Unit) × Unit)=>
      bif r8.1.1==1 then
       Option.bind (hier_Ask r6.1.1 1) fun (r9:(Int × Unit) × Unit)=>
       bif r9.1.1==0 then
        bif (r7.1.1.2.2.length:Int)==1 then
         Option.bind (hier_Ask r7.1.1 2) fun (r10:(Int × Unit) × Unit)=>
         bif r10.1.1==0 then
          Option.bind (hier_May r6.1.1) fun (r11:(Bool × Unit) × Unit)=>
          bif r11.1.1 then
           Option.bind (hier_May (0,[],[])) fun (r12:(Bool × Unit) × Unit)=>
           some ((!r12.1.1,()),())
          else
           some ((false,()),())
         else
          some ((false,()),())
        else
         some ((false,()),())
       else
        some ((false,()),())
      else
       some ((false,()),())
     else
      some ((false,()),())
    else none
   else
    some ((false,()),())
  else
   some ((false,()),())
 else
  some ((false,()),())
theorem pleachlaw9_begun_eq  : evFn pleachlaw9_begun_Γ tab pleachlaw9_begun_fi 1 [] [⟨t4,[false],none⟩] Tryz.f5 ()=pleachlaw9_begun :=by kernel_rfl
noncomputable def pleachlaw9_begun_e:Ent:=⟨[],[⟨t4,[false],none⟩],fun x=>pleachlaw9_begun⟩
theorem pleachlaw9_begun_good:Good tab.ty Tryz.prog 5 pleachlaw9_begun_e:=by
  refine fn_good (Γ:=pleachlaw9_begun_Γ) (fi:=pleachlaw9_begun_fi) (n:=1) follows (gcons pleachmade_Made_good (gcons pleachmade_Picks_Dist_good (gcons hier_New_good (gcons hier_Join_good (gcons hier_Leave_good (gcons hier_May_good (gcons hier_Ask_good gnil))))))) tabok Tryz.func5 (by kernel_rfl) (by kernel_rfl) (fun x r h=>?_)
  obtain _u:=x
  exact (pleachlaw9_begun_eq).trans h
noncomputable def pleachref1_MayDist_Γ:Ctx:=[]
def pleachref1_MayDist_fi:Fi:={ keep:=[],vty:=[],vals:=[],live:=[(0,[0,42,43,44,45,46,47,48,49,52,53,54,55,56,57,58,59,60,61,62,63,64,65,66,69,70,71,72,73,74,75,76,77,78,79,80,81]),(1,[0,8,42,43,44,45,46,47,48,49,52,53,54,55,56,57,58,59,60,61,62,63,64,65,66,69,70,71,72,73,74,75,76,77,78,79,80,81]),(2,[2]),(3,[0,3,42,43,44,45,46,47,48,49,52,53,54,55,56,57,58,59,60,61,62,63,64,65,66,69,70,71,72,73,74,75,76,77,78,79,80,81]),(4,[0,3,12,42,43,44,45,46,47,48,49,52,53,54,55,56,57,58,59,60,61,62,63,64,65,66,69,70,71,72,73,74,75,76,77,78,79,80,81]),(5,[0,3,42,43,44,45,46,47,48,49,52,53,54,55,56,57,58,59,60,61,62,63,64,65,66,69,70,71,72,73,74,75,76,77,78,79,80,81]),(6,[0,3,20,42,43,44,45,46,47,48,49,52,53,54,55,56,57,58,59,60,61,62,63,64,65,66,69,70,71,72,73,74,75,76,77,78,79,80,81]),(7,[2]),(8,[0,4,42,43,44,45,46,47,48,49,52,53,54,55,56,57,58,59,60,61,62,63,64,65,66,69,70,71,72,73,74,75,76,77,78,79,80,81]),(9,[0,4,24,42,43,44,45,46,47,48,49,52,53,54,55,56,57,58,59,60,61,62,63,64,65,66,69,70,71,72,73,74,75,76,77,78,79,80,81]),(10,[0,4,42,43,44,45,46,47,48,49,52,53,54,55,56,57,58,59,60,61,62,63,64,65,66,69,70,71,72,73,74,75,76,77,78,79,80,81]),(11,[0,4,5,42,43,44,45,46,47,48,49,52,53,54,55,56,57,58,59,60,61,62,63,64,65,66,69,70,71,72,73,74,75,76,77,78,79,80,81]),(12,[0,4,5,30,42,43,44,45,46,47,48,49,52,53,54,55,56,57,58,59,60,61,62,63,64,65,66,69,70,71,72,73,74,75,76,77,78,79,80,81]),(13,[0,4,5,42,43,44,45,46,47,48,49,52,53,54,55,56,57,58,59,60,61,62,63,64,65,66,69,70,71,72,73,74,75,76,77,78,79,80,81]),(14,[0,4,5,42,43,44,45,46,47,48,49,52,53,54,55,56,57,58,59,60,61,62,63,64,65,66,69,70,71,72,73,74,75,76,77,78,79,80,81,82]),(15,[2]),(16,[2])] }
noncomputable def pleachref1_MayDist_B1 (L1:List (List Int)→Int→Option ((Bool × Unit) × Unit)) (L2:List (List Int)→Int→Option ((Bool × Unit) × Unit)) (v1:List (List Int)) (v2:Int):Option ((Bool × Unit) × Unit):=
 bif decide (v2<(v1.length:Int)) then
  bif decide (0≤v2)&&decide (v2<(v1.length:Int)) then
   bif ((List.getD v1 v2.toNat []).length:Int) != 8 then
    some ((false,()),())
   else
    L1 v1 (IntKind.wrap .i64 (v2+1))
  else none
 else
  L2 v1 0
noncomputable def pleachref1_MayDist_B2 (L3:List (List Int)→Int→Int→Option ((Bool × Unit) × Unit)) (v3:List (List Int)) (v4:Int):Option ((Bool × Unit) × Unit):=
 bif decide (v4<(v3.length:Int)) then
  L3 v3 v4 0
 else
  some ((true,()),())
noncomputable def pleachref1_MayDist_B3 (L3:List (List Int)→Int→Int→Option ((Bool × Unit) × Unit)) (L2:List (List Int)→Int→Option ((Bool × Unit) × Unit)) (v5:List (List Int)) (v6:Int) (v7:Int):Option ((Bool × Unit) × Unit):=
 bif decide (v7<(v5.length:Int)) then
  bif decide (0≤v6)&&decide (v6<(v5.length:Int)) then
   bif decide (0≤v7)&&decide (v7<((List.getD v5 v6.toNat []).length:Int)) then
    bif decide (List.getD (List.getD v5 v6.toNat []) v7.toNat 0<0) then
     some ((false,()),())
    else
    bif decide (0≤v6)&&decide (v6<(v5.length:Int)) then
     bif decide (0≤v7)&&decide (v7<((List.getD v5 v6.toNat []).length:Int)) then
      bif decide (List.getD (List.getD v5 v6.toNat []) v7.toNat 0>1000) then
       some ((false,()),())
      else
      bif decide (0≤v6)&&decide (v6<(v5.length:Int)) then
       bif decide (0≤v7)&&decide (v7<((List.getD v5 v6.toNat []).length:Int)) then
        bif decide (0≤v7)&&decide (v7<(v5.length:Int)) then
         bif decide (0≤v6)&&decide (v6<((List.getD v5 v7.toNat []).length:Int)) then
          bif (List.getD (List.getD v5 v6.toNat []) v7.toNat 0) != (List.getD (List.getD v5 v7.toNat []) v6.toNat 0) then
           some ((false,()),())
          else
          bif v6==v7 then
           bif decide (0≤v6)&&decide (v6<(v5.length:Int)) then
            bif decide (0≤v7)&&decide (v7<((List.getD v5 v6.toNat []).length:Int)) then
            bif (List.getD (List.getD v5 v6.toNat []) v7.toNat 0) != 0 then
            some ((false,()),())
            else
            L3 v5 v6 (IntKind.wrap .i64 (v7+1))
            else none
           else none
          else
           L3 v5 v6 (IntKind.wrap .i64 (v7+1))
         else none
        else none
       else none
      else none
     else none
    else none
   else none
  else none
 else
  L2 v5 (IntKind.wrap .i64 (v6+1))
noncomputable def pleachref1_MayDist_T (L1:List (List Int)→Int→Option ((Bool × Unit) × Unit)) (d_0:List (List Int)):Option ((Bool × Unit) × Unit):=
 bif (d_0.length:Int) != 8 then
  some ((false,()),())
 else
  L1 d_0 0
noncomputable def pleachref1_MayDist_L3 (n:Nat) (m2:Nat) (r2:List (List Int)→Int→Option ((Bool × Unit) × Unit)):Nat→List (List Int)→Int→Int→Option ((Bool × Unit) × Unit):=iter (fun _ _ _=>none) fun L=>pleachref1_MayDist_B3 L r2
noncomputable def pleachref1_MayDist_L2 (n:Nat):Nat→List (List Int)→Int→Option ((Bool × Unit) × Unit):=iterN (fun _ _=>none) fun m L=>pleachref1_MayDist_B2 (pleachref1_MayDist_L3 n m L n)
noncomputable def pleachref1_MayDist_L1 (n:Nat):Nat→List (List Int)→Int→Option ((Bool × Unit) × Unit):=iter (fun _ _=>none) fun L=>pleachref1_MayDist_B1 L (pleachref1_MayDist_L2 n n)
noncomputable def pleachref1_MayDist_X1 (n m:Nat) (v1:List (List Int)) (v2:Int):Option ((Bool × Unit) × Unit):=
 atLoop pleachref1_MayDist_Γ tab (fiB [.val t25] pleachref1_MayDist_fi) n [.val t25] [⟨t4,[false],none⟩] Tryz.f19 [1,1,0,1,0] [] [0,3] m
 ⟨[(0,SV.cv (CV.one (LV.pure t25 v1))),(3,SV.cv (CV.one (LV.pure t2 v2)))],
  []⟩
noncomputable def pleachref1_MayDist_X2 (n m:Nat) (v3:List (List Int)) (v4:Int):Option ((Bool × Unit) × Unit):=
 atLoop pleachref1_MayDist_Γ tab (fiB [.val t25] pleachref1_MayDist_fi) n [.val t25] [⟨t4,[false],none⟩] Tryz.f19 [1,1,1,0,1,0] [] [0,4] m
 ⟨[(0,SV.cv (CV.one (LV.pure t25 v3))),(4,SV.cv (CV.one (LV.pure t2 v4)))],
  []⟩
noncomputable def pleachref1_MayDist_X3 (n m2 m:Nat) (v5:List (List Int)) (v6:Int) (v7:Int):Option ((Bool × Unit) × Unit):=
 atLoop pleachref1_MayDist_Γ tab (fiB [.val t25] pleachref1_MayDist_fi) n [.val t25] [⟨t4,[false],none⟩] Tryz.f19 [1,1,1,0,1,0,0,1,0,0,1,0] [(m2,[0,4])] [0,4,5] m
 ⟨[(0,SV.cv (CV.one (LV.pure t25 v5))),(4,SV.cv (CV.one (LV.pure t2 v6))),(5,SV.cv (CV.one (LV.pure t2 v7)))],
  []⟩
theorem pleachref1_MayDist_step1 (n m:Nat) (v1:List (List Int)) (v2:Int):pleachref1_MayDist_X1 n (m+1) v1 v2=pleachref1_MayDist_B1 (pleachref1_MayDist_X1 n m) (pleachref1_MayDist_X2 n n) v1 v2:=by kernel_rfl
theorem pleachref1_MayDist_step2 (n m:Nat) (v3:List (List Int)) (v4:Int):pleachref1_MayDist_X2 n (m+1) v3 v4=pleachref1_MayDist_B2 (pleachref1_MayDist_X3 n m n) v3 v4:=by kernel_rfl
theorem pleachref1_MayDist_step3 (n m2 m:Nat) (v5:List (List Int)) (v6:Int) (v7:Int):pleachref1_MayDist_X3 n m2 (m+1) v5 v6 v7=pleachref1_MayDist_B3 (pleachref1_MayDist_X3 n m2 m) (pleachref1_MayDist_X2 n m2) v5 v6 v7:=by kernel_rfl
theorem pleachref1_MayDist_start (n:Nat) (d_0:List (List Int)):evFn pleachref1_MayDist_Γ tab pleachref1_MayDist_fi n [.val t25] [⟨t4,[false],none⟩] Tryz.f19 (d_0,())=pleachref1_MayDist_T (pleachref1_MayDist_X1 n n) d_0:=by kernel_rfl
theorem pleachref1_MayDist_XL3 (n:Nat) (m2:Nat) (r2:List (List Int)→Int→Option ((Bool × Unit) × Unit)) (h2:pleachref1_MayDist_X2 n m2=r2):∀ m,pleachref1_MayDist_X3 n m2 m=pleachref1_MayDist_L3 n m2 r2 m
 | 0=>rfl
 | m+1=>by
  have ih:=pleachref1_MayDist_XL3 n m2 r2 h2 m
  funext v5 v6 v7
  rw [pleachref1_MayDist_step3,ih,h2]
  rfl
theorem pleachref1_MayDist_XL2 (n:Nat):∀ m,pleachref1_MayDist_X2 n m=pleachref1_MayDist_L2 n m
 | 0=>rfl
 | m+1=>by
  have ih:=pleachref1_MayDist_XL2 n m
  funext v3 v4
  rw [pleachref1_MayDist_step2,pleachref1_MayDist_XL3 n m _ ih n]
  rfl
theorem pleachref1_MayDist_XL1 (n:Nat):∀ m,pleachref1_MayDist_X1 n m=pleachref1_MayDist_L1 n m
 | 0=>rfl
 | m+1=>by
  have ih:=pleachref1_MayDist_XL1 n m
  funext v1 v2
  rw [pleachref1_MayDist_step1,pleachref1_MayDist_XL2 n n,ih]
  rfl
noncomputable def pleachref1_MayDist_n (n:Nat) (d_0:List (List Int)):Option ((Bool × Unit) × Unit):=pleachref1_MayDist_T (pleachref1_MayDist_L1 n n) d_0
noncomputable def pleachref1_MayDist (d_0:List (List Int)):Option ((Bool × Unit) × Unit):=pleachref1_MayDist_n 1099511627776 d_0
theorem pleachref1_MayDist_eq (n:Nat) (d_0:List (List Int)):evFn pleachref1_MayDist_Γ tab pleachref1_MayDist_fi n [.val t25] [⟨t4,[false],none⟩] Tryz.f19 (d_0,())=pleachref1_MayDist_n n d_0:=by
  rw [pleachref1_MayDist_start,pleachref1_MayDist_XL1 n n]
  rfl
noncomputable def pleachref1_MayDist_e:Ent:=⟨[.val t25],[⟨t4,[false],none⟩],fun x=>pleachref1_MayDist x.1⟩
theorem pleachref1_MayDist_good:Good tab.ty Tryz.prog 19 pleachref1_MayDist_e:=by
  refine fn_good (Γ:=pleachref1_MayDist_Γ) (fi:=pleachref1_MayDist_fi) (n:=1099511627776) follows gnil tabok Tryz.func19 (by kernel_rfl) (by kernel_rfl) (fun x r h=>?_)
  obtain ⟨d_0,_u⟩:=x
  exact (pleachref1_MayDist_eq 1099511627776 d_0).trans h
noncomputable def pleachref7_New_Γ:Ctx:=[(19,pleachref1_MayDist_e)]
def pleachref7_New_fi:Fi:={ keep:=[],vty:=[],vals:=[],live:=[(0,[0,1,4,12,13,16,17]),(1,[0,1,4,18]),(2,[4,5]),(3,[0,4,6]),(4,[0,4,6,7]),(5,[0,4,6,7,25]),(6,[0,4,6,7]),(7,[0,4,6,7]),(8,[4,5])] }
noncomputable def pleachref7_New_B1 (L1:List (List Int)→Int→Int→List (List Int)→(List (List ((List Int) × Int)))→Int→List (List Int)→(List (List ((List Int) × Int)))→Option ((Dt30 × Bool × Unit) × Unit)) (v2:List (List Int)) (v3:Int) (v4:Int) (v5:List (List Int)) (v6:List (List ((List Int) × Int))) (v7:Int) (v8:List (List Int)) (v9:List (List ((List Int) × Int))):Option ((Dt30 × Bool × Unit) × Unit):=
 bif decide (v3<(v2.length:Int)) then
  bif decide (0≤v3)&&decide (v3<(v2.length:Int)) then
   bif Nat.ble (0+(List.getD v2 v3.toNat []).length) 1073741824 then
    bif Nat.ble (v8.length+1) 1073741824 then
     L1 v2 (IntKind.wrap .i64 (v3+1)) v4 v5 v6 v7 (v8++[[]++(List.getD v2 v3.toNat [])]) v9
    else none
   else none
  else none
 else
  some (((v7,v8,v9),true,()),())
noncomputable def pleachref7_New_T (L1:List (List Int)→Int→Int→List (List Int)→(List (List ((List Int) × Int)))→Int→List (List Int)→(List (List ((List Int) × Int)))→Option ((Dt30 × Bool × Unit) × Unit)) (d_0:List (List Int)) (k_1:Int):Option ((Dt30 × Bool × Unit) × Unit):=
 Option.bind (pleachref1_MayDist d_0) fun (r1:(Bool × Unit) × Unit)=>
 bif !r1.1.1 then
  some (((0,[],[]),false,()),())
 else
 bif decide (k_1<1) then
  some (((0,[],[]),false,()),())
 else
 bif decide (k_1>3) then
  some (((0,[],[]),false,()),())
 else
  L1 d_0 0 0 [] [] k_1 [] []
noncomputable def pleachref7_New_L1 (n:Nat):Nat→List (List Int)→Int→Int→List (List Int)→(List (List ((List Int) × Int)))→Int→List (List Int)→(List (List ((List Int) × Int)))→Option ((Dt30 × Bool × Unit) × Unit):=iter (fun _ _ _ _ _ _ _ _=>none) fun L=>pleachref7_New_B1 L
noncomputable def pleachref7_New_X1 (n m:Nat) (v2:List (List Int)) (v3:Int) (v4:Int) (v5:List (List Int)) (v6:List (List ((List Int) × Int))) (v7:Int) (v8:List (List Int)) (v9:List (List ((List Int) × Int))):Option ((Dt30 × Bool × Unit) × Unit):=
 atLoop pleachref7_New_Γ tab (fiB [.val t25,.val t2] pleachref7_New_fi) n [.val t25,.val t2] [⟨t30,[false,false,false],none⟩,⟨t4,[false],none⟩] Tryz.f9 [1,1,1,0,1,0] [] [0,4,6,7] m
 ⟨[(0,SV.cv (CV.one (LV.pure t25 v2))),(4,SV.cv (CV.one (LV.ptr (4,0) 0))),(6,SV.cv (CV.one (LV.ptr (6,0) 0))),(7,SV.cv (CV.one (LV.pure t2 v3)))],
  [((4,0),Ob.box 31 [LV.pure t2 v4,LV.ref (4,2),LV.ref (4,3)]),((4,2),Ob.row 41 t41 v5),((4,3),Ob.row 40 t40 v6),((6,0),Ob.box 31 [LV.pure t2 v7,LV.ref (6,2),LV.ref (6,3)]),((6,2),Ob.row 41 t41 v8),((6,3),Ob.row 40 t40 v9)]⟩
theorem pleachref7_New_step1 (n m:Nat) (v2:List (List Int)) (v3:Int) (v4:Int) (v5:List (List Int)) (v6:List (List ((List Int) × Int))) (v7:Int) (v8:List (List Int)) (v9:List (List ((List Int) × Int))):pleachref7_New_X1 n (m+1) v2 v3 v4 v5 v6 v7 v8 v9=pleachref7_New_B1 (pleachref7_New_X1 n m) v2 v3 v4 v5 v6 v7 v8 v9:=by kernel_rfl
theorem pleachref7_New_start (n:Nat) (d_0:List (List Int)) (k_1:Int):evFn pleachref7_New_Γ tab pleachref7_New_fi n [.val t25,.val t2] [⟨t30,[false,false,false],none⟩,⟨t4,[false],none⟩] Tryz.f9 (d_0,k_1,())=pleachref7_New_T (pleachref7_New_X1 n n) d_0 k_1:=by kernel_rfl
theorem pleachref7_New_XL1 (n:Nat):∀ m,pleachref7_New_X1 n m=pleachref7_New_L1 n m
 | 0=>rfl
 | m+1=>by
  have ih:=pleachref7_New_XL1 n m
  funext v2 v3 v4 v5 v6 v7 v8 v9
  rw [pleachref7_New_step1,ih]
  rfl
noncomputable def pleachref7_New_n (n:Nat) (d_0:List (List Int)) (k_1:Int):Option ((Dt30 × Bool × Unit) × Unit):=pleachref7_New_T (pleachref7_New_L1 n n) d_0 k_1
noncomputable def pleachref7_New (d_0:List (List Int)) (k_1:Int):Option ((Dt30 × Bool × Unit) × Unit):=pleachref7_New_n 1099511627776 d_0 k_1
theorem pleachref7_New_eq (n:Nat) (d_0:List (List Int)) (k_1:Int):evFn pleachref7_New_Γ tab pleachref7_New_fi n [.val t25,.val t2] [⟨t30,[false,false,false],none⟩,⟨t4,[false],none⟩] Tryz.f9 (d_0,k_1,())=pleachref7_New_n n d_0 k_1:=by
  rw [pleachref7_New_start,pleachref7_New_XL1 n n]
  rfl
noncomputable def pleachref7_New_e:Ent:=⟨[.val t25,.val t2],[⟨t30,[false,false,false],none⟩,⟨t4,[false],none⟩],fun x=>pleachref7_New x.1 x.2.1⟩
theorem pleachref7_New_good:Good tab.ty Tryz.prog 9 pleachref7_New_e:=by
  refine fn_good (Γ:=pleachref7_New_Γ) (fi:=pleachref7_New_fi) (n:=1099511627776) follows (gcons pleachref1_MayDist_good gnil) tabok Tryz.func9 (by kernel_rfl) (by kernel_rfl) (fun x r h=>?_)
  obtain ⟨d_0,k_1,_u⟩:=x
  exact (pleachref7_New_eq 1099511627776 d_0 k_1).trans h
noncomputable def pleachref1_SameInts_Γ:Ctx:=[]
def pleachref1_SameInts_fi:Fi:={ keep:=[],vty:=[],vals:=[],live:=[(0,[0,1]),(1,[0,1,10]),(2,[4]),(3,[0,1,5]),(4,[0,1,5,14]),(5,[0,1,5]),(6,[0,1,5,25]),(7,[4]),(8,[4])] }
noncomputable def pleachref1_SameInts_B1 (L1:List Int→List Int→Int→Option ((Bool × Unit) × Unit)) (v1:List Int) (v2:List Int) (v3:Int):Option ((Bool × Unit) × Unit):=
 bif decide (v3<(v1.length:Int)) then
  bif decide (0≤v3)&&decide (v3<(v1.length:Int)) then
   bif decide (0≤v3)&&decide (v3<(v2.length:Int)) then
    bif (List.getD v1 v3.toNat 0) != (List.getD v2 v3.toNat 0) then
     some ((false,()),())
    else
     L1 v1 v2 (IntKind.wrap .i64 (v3+1))
   else none
  else none
 else
  some ((true,()),())
noncomputable def pleachref1_SameInts_T (L1:List Int→List Int→Int→Option ((Bool × Unit) × Unit)) (a_0:List Int) (b_1:List Int):Option ((Bool × Unit) × Unit):=
 bif (a_0.length:Int) != (b_1.length:Int) then
  some ((false,()),())
 else
  L1 a_0 b_1 0
noncomputable def pleachref1_SameInts_L1 (n:Nat):Nat→List Int→List Int→Int→Option ((Bool × Unit) × Unit):=iter (fun _ _ _=>none) fun L=>pleachref1_SameInts_B1 L
noncomputable def pleachref1_SameInts_X1 (n m:Nat) (v1:List Int) (v2:List Int) (v3:Int):Option ((Bool × Unit) × Unit):=
 atLoop pleachref1_SameInts_Γ tab (fiB [.val t41,.val t41] pleachref1_SameInts_fi) n [.val t41,.val t41] [⟨t4,[false],none⟩] Tryz.f46 [1,1,0,1,0] [] [0,1,5] m
 ⟨[(0,SV.cv (CV.one (LV.pure t41 v1))),(1,SV.cv (CV.one (LV.pure t41 v2))),(5,SV.cv (CV.one (LV.pure t2 v3)))],
  []⟩
theorem pleachref1_SameInts_step1 (n m:Nat) (v1:List Int) (v2:List Int) (v3:Int):pleachref1_SameInts_X1 n (m+1) v1 v2 v3=pleachref1_SameInts_B1 (pleachref1_SameInts_X1 n m) v1 v2 v3:=by kernel_rfl
theorem pleachref1_SameInts_start (n:Nat) (a_0:List Int) (b_1:List Int):evFn pleachref1_SameInts_Γ tab pleachref1_SameInts_fi n [.val t41,.val t41] [⟨t4,[false],none⟩] Tryz.f46 (a_0,b_1,())=pleachref1_SameInts_T (pleachref1_SameInts_X1 n n) a_0 b_1:=by kernel_rfl
theorem pleachref1_SameInts_XL1 (n:Nat):∀ m,pleachref1_SameInts_X1 n m=pleachref1_SameInts_L1 n m
 | 0=>rfl
 | m+1=>by
  have ih:=pleachref1_SameInts_XL1 n m
  funext v1 v2 v3
  rw [pleachref1_SameInts_step1,ih]
  rfl
noncomputable def pleachref1_SameInts_n (n:Nat) (a_0:List Int) (b_1:List Int):Option ((Bool × Unit) × Unit):=pleachref1_SameInts_T (pleachref1_SameInts_L1 n n) a_0 b_1
noncomputable def pleachref1_SameInts (a_0:List Int) (b_1:List Int):Option ((Bool × Unit) × Unit):=pleachref1_SameInts_n 1099511627776 a_0 b_1
theorem pleachref1_SameInts_eq (n:Nat) (a_0:List Int) (b_1:List Int):evFn pleachref1_SameInts_Γ tab pleachref1_SameInts_fi n [.val t41,.val t41] [⟨t4,[false],none⟩] Tryz.f46 (a_0,b_1,())=pleachref1_SameInts_n n a_0 b_1:=by
  rw [pleachref1_SameInts_start,pleachref1_SameInts_XL1 n n]
  rfl
noncomputable def pleachref1_SameInts_e:Ent:=⟨[.val t41,.val t41],[⟨t4,[false],none⟩],fun x=>pleachref1_SameInts x.1 x.2.1⟩
theorem pleachref1_SameInts_good:Good tab.ty Tryz.prog 46 pleachref1_SameInts_e:=by
  refine fn_good (Γ:=pleachref1_SameInts_Γ) (fi:=pleachref1_SameInts_fi) (n:=1099511627776) follows gnil tabok Tryz.func46 (by kernel_rfl) (by kernel_rfl) (fun x r h=>?_)
  obtain ⟨a_0,b_1,_u⟩:=x
  exact (pleachref1_SameInts_eq 1099511627776 a_0 b_1).trans h
noncomputable def pleachref1_SameDist_Γ:Ctx:=[(46,pleachref1_SameInts_e)]
def pleachref1_SameDist_fi:Fi:={ keep:=[],vty:=[],vals:=[],live:=[(0,[0,1]),(1,[0,1,10]),(2,[4]),(3,[0,1,5]),(4,[0,1,5,14]),(5,[0,1,5]),(6,[0,1,5,26]),(7,[4]),(8,[4])] }
noncomputable def pleachref1_SameDist_B1 (L1:List (List Int)→List (List Int)→Int→Option ((Bool × Unit) × Unit)) (v1:List (List Int)) (v2:List (List Int)) (v3:Int):Option ((Bool × Unit) × Unit):=
 bif decide (v3<(v1.length:Int)) then
  bif decide (0≤v3)&&decide (v3<(v1.length:Int)) then
   bif decide (0≤v3)&&decide (v3<(v2.length:Int)) then
    Option.bind (pleachref1_SameInts (List.getD v1 v3.toNat []) (List.getD v2 v3.toNat [])) fun (r4:(Bool × Unit) × Unit)=>
    bif !r4.1.1 then
     some ((false,()),())
    else
     L1 v1 v2 (IntKind.wrap .i64 (v3+1))
   else none
  else none
 else
  some ((true,()),())
noncomputable def pleachref1_SameDist_T (L1:List (List Int)→List (List Int)→Int→Option ((Bool × Unit) × Unit)) (a_0:List (List Int)) (b_1:List (List Int)):Option ((Bool × Unit) × Unit):=
 bif (a_0.length:Int) != (b_1.length:Int) then
  some ((false,()),())
 else
  L1 a_0 b_1 0
noncomputable def pleachref1_SameDist_L1 (n:Nat):Nat→List (List Int)→List (List Int)→Int→Option ((Bool × Unit) × Unit):=iter (fun _ _ _=>none) fun L=>pleachref1_SameDist_B1 L
noncomputable def pleachref1_SameDist_X1 (n m:Nat) (v1:List (List Int)) (v2:List (List Int)) (v3:Int):Option ((Bool × Unit) × Unit):=
 atLoop pleachref1_SameDist_Γ tab (fiB [.val t25,.val t25] pleachref1_SameDist_fi) n [.val t25,.val t25] [⟨t4,[false],none⟩] Tryz.f23 [1,1,0,1,0] [] [0,1,5] m
 ⟨[(0,SV.cv (CV.one (LV.pure t25 v1))),(1,SV.cv (CV.one (LV.pure t25 v2))),(5,SV.cv (CV.one (LV.pure t2 v3)))],
  []⟩
theorem pleachref1_SameDist_step1 (n m:Nat) (v1:List (List Int)) (v2:List (List Int)) (v3:Int):pleachref1_SameDist_X1 n (m+1) v1 v2 v3=pleachref1_SameDist_B1 (pleachref1_SameDist_X1 n m) v1 v2 v3:=by kernel_rfl
theorem pleachref1_SameDist_start (n:Nat) (a_0:List (List Int)) (b_1:List (List Int)):evFn pleachref1_SameDist_Γ tab pleachref1_SameDist_fi n [.val t25,.val t25] [⟨t4,[false],none⟩] Tryz.f23 (a_0,b_1,())=pleachref1_SameDist_T (pleachref1_SameDist_X1 n n) a_0 b_1:=by kernel_rfl
theorem pleachref1_SameDist_XL1 (n:Nat):∀ m,pleachref1_SameDist_X1 n m=pleachref1_SameDist_L1 n m
 | 0=>rfl
 | m+1=>by
  have ih:=pleachref1_SameDist_XL1 n m
  funext v1 v2 v3
  rw [pleachref1_SameDist_step1,ih]
  rfl
noncomputable def pleachref1_SameDist_n (n:Nat) (a_0:List (List Int)) (b_1:List (List Int)):Option ((Bool × Unit) × Unit):=pleachref1_SameDist_T (pleachref1_SameDist_L1 n n) a_0 b_1
noncomputable def pleachref1_SameDist (a_0:List (List Int)) (b_1:List (List Int)):Option ((Bool × Unit) × Unit):=pleachref1_SameDist_n 1099511627776 a_0 b_1
theorem pleachref1_SameDist_eq (n:Nat) (a_0:List (List Int)) (b_1:List (List Int)):evFn pleachref1_SameDist_Γ tab pleachref1_SameDist_fi n [.val t25,.val t25] [⟨t4,[false],none⟩] Tryz.f23 (a_0,b_1,())=pleachref1_SameDist_n n a_0 b_1:=by
  rw [pleachref1_SameDist_start,pleachref1_SameDist_XL1 n n]
  rfl
noncomputable def pleachref1_SameDist_e:Ent:=⟨[.val t25,.val t25],[⟨t4,[false],none⟩],fun x=>pleachref1_SameDist x.1 x.2.1⟩
theorem pleachref1_SameDist_good:Good tab.ty Tryz.prog 23 pleachref1_SameDist_e:=by
  refine fn_good (Γ:=pleachref1_SameDist_Γ) (fi:=pleachref1_SameDist_fi) (n:=1099511627776) follows (gcons pleachref1_SameInts_good gnil) tabok Tryz.func23 (by kernel_rfl) (by kernel_rfl) (fun x r h=>?_)
  obtain ⟨a_0,b_1,_u⟩:=x
  exact (pleachref1_SameDist_eq 1099511627776 a_0 b_1).trans h
noncomputable def pleachref7_SameClusters_Γ:Ctx:=[(46,pleachref1_SameInts_e)]
def pleachref7_SameClusters_fi:Fi:={ keep:=[],vty:=[],vals:=[],live:=[(0,[0,1,29,30,31,32,33,34,35,36,37,38,39,40]),(1,[0,1,10,29,30,31,32,33,34,35,36,37,38,39,40]),(2,[4]),(3,[0,1,5,29,30,31,32,33,34,35,36,37,38,39,40]),(4,[0,1,5,14,29,30,31,32,33,34,35,36,37,38,39,40]),(5,[0,1,5,29,30,31,32,33,34,35,36,37,38,39,40]),(6,[0,1,5,29,30,31,32,33,34,35,36,37,38,39,40,41]),(7,[4]),(8,[4])] }
noncomputable def pleachref7_SameClusters_B1 (L1:(List ((List Int) × Int))→(List ((List Int) × Int))→Int→Option ((Bool × Unit) × Unit)) (v1:List ((List Int) × Int)) (v2:List ((List Int) × Int)) (v3:Int):Option ((Bool × Unit) × Unit):=
 bif decide (v3<(v1.length:Int)) then
  bif decide (0≤v3)&&decide (v3<(v1.length:Int)) then
   bif decide (0≤v3)&&decide (v3<(v2.length:Int)) then
    bif ((List.getD v1 v3.toNat ([],0)).2) != ((List.getD v2 v3.toNat ([],0)).2) then
     some ((false,()),())
    else
    bif decide (0≤v3)&&decide (v3<(v1.length:Int)) then
     bif decide (0≤v3)&&decide (v3<(v2.length:Int)) then
      Option.bind (pleachref1_SameInts ((List.getD v1 v3.toNat ([],0)).1) ((List.getD v2 v3.toNat ([],0)).1)) fun (r4:(Bool × Unit) × Unit)=>
      bif !r4.1.1 then
       some ((false,()),())
      else
       L1 v1 v2 (IntKind.wrap .i64 (v3+1))
     else none
    else none
   else none
  else none
 else
  some ((true,()),())
noncomputable def pleachref7_SameClusters_T (L1:(List ((List Int) × Int))→(List ((List Int) × Int))→Int→Option ((Bool × Unit) × Unit)) (a_0:List ((List Int) × Int)) (b_1:List ((List Int) × Int)):Option ((Bool × Unit) × Unit):=
 bif (a_0.length:Int) != (b_1.length:Int) then
  some ((false,()),())
 else
  L1 a_0 b_1 0
noncomputable def pleachref7_SameClusters_L1 (n:Nat):Nat→(List ((List Int) × Int))→(List ((List Int) × Int))→Int→Option ((Bool × Unit) × Unit):=iter (fun _ _ _=>none) fun L=>pleachref7_SameClusters_B1 L
noncomputable def pleachref7_SameClusters_X1 (n m:Nat) (v1:List ((List Int) × Int)) (v2:List ((List Int) × Int)) (v3:Int):Option ((Bool × Unit) × Unit):=
 atLoop pleachref7_SameClusters_Γ tab (fiB [.val t40,.val t40] pleachref7_SameClusters_fi) n [.val t40,.val t40] [⟨t4,[false],none⟩] Tryz.f24 [1,1,0,1,0] [] [0,1,5] m
 ⟨[(0,SV.cv (CV.one (LV.pure t40 v1))),(1,SV.cv (CV.one (LV.pure t40 v2))),(5,SV.cv (CV.one (LV.pure t2 v3)))],
  []⟩
theorem pleachref7_SameClusters_step1 (n m:Nat) (v1:List ((List Int) × Int)) (v2:List ((List Int) × Int)) (v3:Int):pleachref7_SameClusters_X1 n (m+1) v1 v2 v3=pleachref7_SameClusters_B1 (pleachref7_SameClusters_X1 n m) v1 v2 v3:=by kernel_rfl
theorem pleachref7_SameClusters_start (n:Nat) (a_0:List ((List Int) × Int)) (b_1:List ((List Int) × Int)):evFn pleachref7_SameClusters_Γ tab pleachref7_SameClusters_fi n [.val t40,.val t40] [⟨t4,[false],none⟩] Tryz.f24 (a_0,b_1,())=pleachref7_SameClusters_T (pleachref7_SameClusters_X1 n n) a_0 b_1:=by kernel_rfl
theorem pleachref7_SameClusters_XL1 (n:Nat):∀ m,pleachref7_SameClusters_X1 n m=pleachref7_SameClusters_L1 n m
 | 0=>rfl
 | m+1=>by
  have ih:=pleachref7_SameClusters_XL1 n m
  funext v1 v2 v3
  rw [pleachref7_SameClusters_step1,ih]
  rfl
noncomputable def pleachref7_SameClusters_n (n:Nat) (a_0:List ((List Int) × Int)) (b_1:List ((List Int) × Int)):Option ((Bool × Unit) × Unit):=pleachref7_SameClusters_T (pleachref7_SameClusters_L1 n n) a_0 b_1
noncomputable def pleachref7_SameClusters (a_0:List ((List Int) × Int)) (b_1:List ((List Int) × Int)):Option ((Bool × Unit) × Unit):=pleachref7_SameClusters_n 1099511627776 a_0 b_1
theorem pleachref7_SameClusters_eq (n:Nat) (a_0:List ((List Int) × Int)) (b_1:List ((List Int) × Int)):evFn pleachref7_SameClusters_Γ tab pleachref7_SameClusters_fi n [.val t40,.val t40] [⟨t4,[false],none⟩] Tryz.f24 (a_0,b_1,())=pleachref7_SameClusters_n n a_0 b_1:=by
  rw [pleachref7_SameClusters_start,pleachref7_SameClusters_XL1 n n]
  rfl
noncomputable def pleachref7_SameClusters_e:Ent:=⟨[.val t40,.val t40],[⟨t4,[false],none⟩],fun x=>pleachref7_SameClusters x.1 x.2.1⟩
theorem pleachref7_SameClusters_good:Good tab.ty Tryz.prog 24 pleachref7_SameClusters_e:=by
  refine fn_good (Γ:=pleachref7_SameClusters_Γ) (fi:=pleachref7_SameClusters_fi) (n:=1099511627776) follows (gcons pleachref1_SameInts_good gnil) tabok Tryz.func24 (by kernel_rfl) (by kernel_rfl) (fun x r h=>?_)
  obtain ⟨a_0,b_1,_u⟩:=x
  exact (pleachref7_SameClusters_eq 1099511627776 a_0 b_1).trans h
noncomputable def pleachref7_SameHier_Γ:Ctx:=[(23,pleachref1_SameDist_e),(24,pleachref7_SameClusters_e)]
def pleachref7_SameHier_fi:Fi:={ keep:=[],vty:=[],vals:=[],live:=[(0,[2,3,12,13,14,15,16,17,20,21,22,23,24,25,26]),(1,[2,3,27]),(2,[4]),(3,[2,3,5]),(4,[2,3,5,32]),(5,[2,3,5]),(6,[2,3,5,46]),(7,[4]),(8,[4])] }
noncomputable def pleachref7_SameHier_B1 (L1:Int→Int→List (List Int)→(List (List ((List Int) × Int)))→Int→List (List Int)→(List (List ((List Int) × Int)))→Option ((Bool × Unit) × Unit)) (v2:Int) (v3:Int) (v4:List (List Int)) (v5:List (List ((List Int) × Int))) (v6:Int) (v7:List (List Int)) (v8:List (List ((List Int) × Int))):Option ((Bool × Unit) × Unit):=
 bif decide (v2<(v5.length:Int)) then
  bif decide (0≤v2)&&decide (v2<(v5.length:Int)) then
   bif decide (0≤v2)&&decide (v2<(v8.length:Int)) then
    Option.bind (pleachref7_SameClusters (List.getD v5 v2.toNat []) (List.getD v8 v2.toNat [])) fun (r9:(Bool × Unit) × Unit)=>
    bif !r9.1.1 then
     some ((false,()),())
    else
     L1 (IntKind.wrap .i64 (v2+1)) v3 v4 v5 v6 v7 v8
   else none
  else none
 else
  some ((true,()),())
noncomputable def pleachref7_SameHier_T (L1:Int→Int→List (List Int)→(List (List ((List Int) × Int)))→Int→List (List Int)→(List (List ((List Int) × Int)))→Option ((Bool × Unit) × Unit)) (a_0:Int × (List (List Int)) × List (List ((List Int) × Int))) (b_1:Int × (List (List Int)) × List (List ((List Int) × Int))):Option ((Bool × Unit) × Unit):=
 bif a_0.1 != b_1.1 then
  some ((false,()),())
 else
  Option.bind (pleachref1_SameDist a_0.2.1 b_1.2.1) fun (r1:(Bool × Unit) × Unit)=>
  bif !r1.1.1 then
   some ((false,()),())
  else
  bif (a_0.2.2.length:Int) != (b_1.2.2.length:Int) then
   some ((false,()),())
  else
   L1 0 a_0.1 a_0.2.1 a_0.2.2 b_1.1 b_1.2.1 b_1.2.2
noncomputable def pleachref7_SameHier_L1 (n:Nat):Nat→Int→Int→List (List Int)→(List (List ((List Int) × Int)))→Int→List (List Int)→(List (List ((List Int) × Int)))→Option ((Bool × Unit) × Unit):=iter (fun _ _ _ _ _ _ _=>none) fun L=>pleachref7_SameHier_B1 L
noncomputable def pleachref7_SameHier_X1 (n m:Nat) (v2:Int) (v3:Int) (v4:List (List Int)) (v5:List (List ((List Int) × Int))) (v6:Int) (v7:List (List Int)) (v8:List (List ((List Int) × Int))):Option ((Bool × Unit) × Unit):=
 atLoop pleachref7_SameHier_Γ tab (fiB [.val t30,.val t30] pleachref7_SameHier_fi) n [.val t30,.val t30] [⟨t4,[false],none⟩] Tryz.f10 [1,1,0,1,0] [] [2,3,5] m
 ⟨[(2,SV.cv (CV.one (LV.ptr (2,0) 0))),(3,SV.cv (CV.one (LV.ptr (3,0) 0))),(5,SV.cv (CV.one (LV.pure t2 v2)))],
  [((2,0),Ob.box 31 [LV.pure t2 v3,LV.pure t25 v4,LV.pure t29 v5]),((3,0),Ob.box 31 [LV.pure t2 v6,LV.pure t25 v7,LV.pure t29 v8])]⟩
theorem pleachref7_SameHier_step1 (n m:Nat) (v2:Int) (v3:Int) (v4:List (List Int)) (v5:List (List ((List Int) × Int))) (v6:Int) (v7:List (List Int)) (v8:List (List ((List Int) × Int))):pleachref7_SameHier_X1 n (m+1) v2 v3 v4 v5 v6 v7 v8=pleachref7_SameHier_B1 (pleachref7_SameHier_X1 n m) v2 v3 v4 v5 v6 v7 v8:=by kernel_rfl
theorem pleachref7_SameHier_start (n:Nat) (a_0:Int × (List (List Int)) × List (List ((List Int) × Int))) (b_1:Int × (List (List Int)) × List (List ((List Int) × Int))):evFn pleachref7_SameHier_Γ tab pleachref7_SameHier_fi n [.val t30,.val t30] [⟨t4,[false],none⟩] Tryz.f10 (a_0,b_1,())=pleachref7_SameHier_T (pleachref7_SameHier_X1 n n) a_0 b_1:=by kernel_rfl
theorem pleachref7_SameHier_XL1 (n:Nat):∀ m,pleachref7_SameHier_X1 n m=pleachref7_SameHier_L1 n m
 | 0=>rfl
 | m+1=>by
  have ih:=pleachref7_SameHier_XL1 n m
  funext v2 v3 v4 v5 v6 v7 v8
  rw [pleachref7_SameHier_step1,ih]
  rfl
noncomputable def pleachref7_SameHier_n (n:Nat) (a_0:Int × (List (List Int)) × List (List ((List Int) × Int))) (b_1:Int × (List (List Int)) × List (List ((List Int) × Int))):Option ((Bool × Unit) × Unit):=pleachref7_SameHier_T (pleachref7_SameHier_L1 n n) a_0 b_1
noncomputable def pleachref7_SameHier (a_0:Int × (List (List Int)) × List (List ((List Int) × Int))) (b_1:Int × (List (List Int)) × List (List ((List Int) × Int))):Option ((Bool × Unit) × Unit):=pleachref7_SameHier_n 1099511627776 a_0 b_1
theorem pleachref7_SameHier_eq (n:Nat) (a_0:Int × (List (List Int)) × List (List ((List Int) × Int))) (b_1:Int × (List (List Int)) × List (List ((List Int) × Int))):evFn pleachref7_SameHier_Γ tab pleachref7_SameHier_fi n [.val t30,.val t30] [⟨t4,[false],none⟩] Tryz.f10 (a_0,b_1,())=pleachref7_SameHier_n n a_0 b_1:=by
  rw [pleachref7_SameHier_start,pleachref7_SameHier_XL1 n n]
  rfl
noncomputable def pleachref7_SameHier_e:Ent:=⟨[.val t30,.val t30],[⟨t4,[false],none⟩],fun x=>pleachref7_SameHier x.1 x.2.1⟩
theorem pleachref7_SameHier_good:Good tab.ty Tryz.prog 10 pleachref7_SameHier_e:=by
  refine fn_good (Γ:=pleachref7_SameHier_Γ) (fi:=pleachref7_SameHier_fi) (n:=1099511627776) follows (gcons pleachref1_SameDist_good (gcons pleachref7_SameClusters_good gnil)) tabok Tryz.func10 (by kernel_rfl) (by kernel_rfl) (fun x r h=>?_)
  obtain ⟨a_0,b_1,_u⟩:=x
  exact (pleachref7_SameHier_eq 1099511627776 a_0 b_1).trans h
noncomputable def pleachref1_Has_Γ:Ctx:=[]
def pleachref1_Has_fi:Fi:={ keep:=[],vty:=[],vals:=[],live:=[(0,[0,1]),(1,[0,1,5]),(2,[0,1,5,9]),(3,[0,1,5]),(4,[0,1,5,17]),(5,[4]),(6,[4])] }
noncomputable def pleachref1_Has_B1 (L1:List Int→Int→Int→Option ((Bool × Unit) × Unit)) (v1:List Int) (v2:Int) (v3:Int):Option ((Bool × Unit) × Unit):=
 bif decide (v3<(v1.length:Int)) then
  bif decide (0≤v3)&&decide (v3<(v1.length:Int)) then
   bif (List.getD v1 v3.toNat 0)==v2 then
    some ((true,()),())
   else
    L1 v1 v2 (IntKind.wrap .i64 (v3+1))
  else none
 else
  some ((false,()),())
noncomputable def pleachref1_Has_T (L1:List Int→Int→Int→Option ((Bool × Unit) × Unit)) (p_0:List Int) (id_1:Int):Option ((Bool × Unit) × Unit):=
 L1 p_0 id_1 0
noncomputable def pleachref1_Has_L1 (n:Nat):Nat→List Int→Int→Int→Option ((Bool × Unit) × Unit):=iter (fun _ _ _=>none) fun L=>pleachref1_Has_B1 L
noncomputable def pleachref1_Has_X1 (n m:Nat) (v1:List Int) (v2:Int) (v3:Int):Option ((Bool × Unit) × Unit):=
 atLoop pleachref1_Has_Γ tab (fiB [.val t41,.val t2] pleachref1_Has_fi) n [.val t41,.val t2] [⟨t4,[false],none⟩] Tryz.f40 [1,0,1,0] [] [0,1,5] m
 ⟨[(0,SV.cv (CV.one (LV.pure t41 v1))),(1,SV.cv (CV.one (LV.pure t2 v2))),(5,SV.cv (CV.one (LV.pure t2 v3)))],
  []⟩
theorem pleachref1_Has_step1 (n m:Nat) (v1:List Int) (v2:Int) (v3:Int):pleachref1_Has_X1 n (m+1) v1 v2 v3=pleachref1_Has_B1 (pleachref1_Has_X1 n m) v1 v2 v3:=by kernel_rfl
theorem pleachref1_Has_start (n:Nat) (p_0:List Int) (id_1:Int):evFn pleachref1_Has_Γ tab pleachref1_Has_fi n [.val t41,.val t2] [⟨t4,[false],none⟩] Tryz.f40 (p_0,id_1,())=pleachref1_Has_T (pleachref1_Has_X1 n n) p_0 id_1:=by kernel_rfl
theorem pleachref1_Has_XL1 (n:Nat):∀ m,pleachref1_Has_X1 n m=pleachref1_Has_L1 n m
 | 0=>rfl
 | m+1=>by
  have ih:=pleachref1_Has_XL1 n m
  funext v1 v2 v3
  rw [pleachref1_Has_step1,ih]
  rfl
noncomputable def pleachref1_Has_n (n:Nat) (p_0:List Int) (id_1:Int):Option ((Bool × Unit) × Unit):=pleachref1_Has_T (pleachref1_Has_L1 n n) p_0 id_1
noncomputable def pleachref1_Has (p_0:List Int) (id_1:Int):Option ((Bool × Unit) × Unit):=pleachref1_Has_n 1099511627776 p_0 id_1
theorem pleachref1_Has_eq (n:Nat) (p_0:List Int) (id_1:Int):evFn pleachref1_Has_Γ tab pleachref1_Has_fi n [.val t41,.val t2] [⟨t4,[false],none⟩] Tryz.f40 (p_0,id_1,())=pleachref1_Has_n n p_0 id_1:=by
  rw [pleachref1_Has_start,pleachref1_Has_XL1 n n]
  rfl
noncomputable def pleachref1_Has_e:Ent:=⟨[.val t41,.val t2],[⟨t4,[false],none⟩],fun x=>pleachref1_Has x.1 x.2.1⟩
theorem pleachref1_Has_good:Good tab.ty Tryz.prog 40 pleachref1_Has_e:=by
  refine fn_good (Γ:=pleachref1_Has_Γ) (fi:=pleachref1_Has_fi) (n:=1099511627776) follows gnil tabok Tryz.func40 (by kernel_rfl) (by kernel_rfl) (fun x r h=>?_)
  obtain ⟨p_0,id_1,_u⟩:=x
  exact (pleachref1_Has_eq 1099511627776 p_0 id_1).trans h
noncomputable def pleachref7_Home_Γ:Ctx:=[(40,pleachref1_Has_e)]
def pleachref7_Home_fi:Fi:={ keep:=[],vty:=[],vals:=[],live:=[(0,[0,1]),(1,[0,1,5]),(2,[0,1,5,9]),(3,[0,1,5]),(4,[0,1,5,18]),(5,[4]),(6,[4])] }
noncomputable def pleachref7_Home_B1 (L1:(List ((List Int) × Int))→Int→Int→Option ((Int × Unit) × Unit)) (v1:List ((List Int) × Int)) (v2:Int) (v3:Int):Option ((Int × Unit) × Unit):=
 bif decide (v3<(v1.length:Int)) then
  bif decide (0≤v3)&&decide (v3<(v1.length:Int)) then
   Option.bind (pleachref1_Has ((List.getD v1 v3.toNat ([],0)).1) v2) fun (r4:(Bool × Unit) × Unit)=>
   bif r4.1.1 then
    some ((v3,()),())
   else
    L1 v1 v2 (IntKind.wrap .i64 (v3+1))
  else none
 else
  some (((-1),()),())
noncomputable def pleachref7_Home_T (L1:(List ((List Int) × Int))→Int→Int→Option ((Int × Unit) × Unit)) (cs_0:List ((List Int) × Int)) (id_1:Int):Option ((Int × Unit) × Unit):=
 L1 cs_0 id_1 0
noncomputable def pleachref7_Home_L1 (n:Nat):Nat→(List ((List Int) × Int))→Int→Int→Option ((Int × Unit) × Unit):=iter (fun _ _ _=>none) fun L=>pleachref7_Home_B1 L
noncomputable def pleachref7_Home_X1 (n m:Nat) (v1:List ((List Int) × Int)) (v2:Int) (v3:Int):Option ((Int × Unit) × Unit):=
 atLoop pleachref7_Home_Γ tab (fiB [.val t40,.val t2] pleachref7_Home_fi) n [.val t40,.val t2] [⟨t2,[false],none⟩] Tryz.f31 [1,0,1,0] [] [0,1,5] m
 ⟨[(0,SV.cv (CV.one (LV.pure t40 v1))),(1,SV.cv (CV.one (LV.pure t2 v2))),(5,SV.cv (CV.one (LV.pure t2 v3)))],
  []⟩
theorem pleachref7_Home_step1 (n m:Nat) (v1:List ((List Int) × Int)) (v2:Int) (v3:Int):pleachref7_Home_X1 n (m+1) v1 v2 v3=pleachref7_Home_B1 (pleachref7_Home_X1 n m) v1 v2 v3:=by kernel_rfl
theorem pleachref7_Home_start (n:Nat) (cs_0:List ((List Int) × Int)) (id_1:Int):evFn pleachref7_Home_Γ tab pleachref7_Home_fi n [.val t40,.val t2] [⟨t2,[false],none⟩] Tryz.f31 (cs_0,id_1,())=pleachref7_Home_T (pleachref7_Home_X1 n n) cs_0 id_1:=by kernel_rfl
theorem pleachref7_Home_XL1 (n:Nat):∀ m,pleachref7_Home_X1 n m=pleachref7_Home_L1 n m
 | 0=>rfl
 | m+1=>by
  have ih:=pleachref7_Home_XL1 n m
  funext v1 v2 v3
  rw [pleachref7_Home_step1,ih]
  rfl
noncomputable def pleachref7_Home_n (n:Nat) (cs_0:List ((List Int) × Int)) (id_1:Int):Option ((Int × Unit) × Unit):=pleachref7_Home_T (pleachref7_Home_L1 n n) cs_0 id_1
noncomputable def pleachref7_Home (cs_0:List ((List Int) × Int)) (id_1:Int):Option ((Int × Unit) × Unit):=pleachref7_Home_n 1099511627776 cs_0 id_1
theorem pleachref7_Home_eq (n:Nat) (cs_0:List ((List Int) × Int)) (id_1:Int):evFn pleachref7_Home_Γ tab pleachref7_Home_fi n [.val t40,.val t2] [⟨t2,[false],none⟩] Tryz.f31 (cs_0,id_1,())=pleachref7_Home_n n cs_0 id_1:=by
  rw [pleachref7_Home_start,pleachref7_Home_XL1 n n]
  rfl
noncomputable def pleachref7_Home_e:Ent:=⟨[.val t40,.val t2],[⟨t2,[false],none⟩],fun x=>pleachref7_Home x.1 x.2.1⟩
theorem pleachref7_Home_good:Good tab.ty Tryz.prog 31 pleachref7_Home_e:=by
  refine fn_good (Γ:=pleachref7_Home_Γ) (fi:=pleachref7_Home_fi) (n:=1099511627776) follows (gcons pleachref1_Has_good gnil) tabok Tryz.func31 (by kernel_rfl) (by kernel_rfl) (fun x r h=>?_)
  obtain ⟨cs_0,id_1,_u⟩:=x
  exact (pleachref7_Home_eq 1099511627776 cs_0 id_1).trans h
noncomputable def pleachref7_Near_Γ:Ctx:=[(40,pleachref1_Has_e)]
def pleachref7_Near_fi:Fi:={ keep:=[],vty:=[],vals:=[],live:=[(0,[0,1,2,17,18,19,22,23,24,25,26,27,28,29,30,31,32,33,34,35,36,37,38,39,40,41,42,43,44]),(1,[0,1,2,7,17,18,19,22,23,24,25,26,27,28,29,30,31,32,33,34,35,36,37,38,39,40,41,42,43,44]),(2,[0,1,2,7,8,17,18,19,22,23,24,25,26,27,28,29,30,31,32,33,34,35,36,37,38,39,40,41,42,43,44]),(3,[0,1,2,7,8,10,17,18,19,22,23,24,25,26,27,28,29,30,31,32,33,34,35,36,37,38,39,40,41,42,43,44]),(4,[0,1,2,7,8,17,18,19,22,23,24,25,26,27,28,29,30,31,32,33,34,35,36,37,38,39,40,41,42,43,44]),(5,[0,1,2,7,8,17,18,19,22,23,24,25,26,27,28,29,30,31,32,33,34,35,36,37,38,39,40,41,42,43,44,45]),(6,[0,1,2,7,8,17,18,19,22,23,24,25,26,27,28,29,30,31,32,33,34,35,36,37,38,39,40,41,42,43,44]),(7,[6])] }
noncomputable def pleachref7_Near_B1 (L1:List (List Int)→Int→List Int→Int→Int→Option ((Int × Unit) × Unit)) (v1:List (List Int)) (v2:Int) (v3:List Int) (v4:Int) (v5:Int):Option ((Int × Unit) × Unit):=
 bif decide (v5≤8) then
  bif v5 != v2 then
   Option.bind (pleachref1_Has v3 v5) fun (r6:(Bool × Unit) × Unit)=>
   bif r6.1.1 then
    bif v4==0 then
     L1 v1 v2 v3 v5 (IntKind.wrap .i64 (v5+1))
    else
    bif decide (0≤IntKind.wrap .i64 (v2 - 1))&&decide (IntKind.wrap .i64 (v2 - 1)<(v1.length:Int)) then
     bif decide (0≤IntKind.wrap .i64 (v5 - 1))&&decide (IntKind.wrap .i64 (v5 - 1)<((List.getD v1 ((IntKind.wrap .i64 (v2 - 1)).toNat) []).length:Int)) then
      bif decide (0≤IntKind.wrap .i64 (v2 - 1))&&decide (IntKind.wrap .i64 (v2 - 1)<(v1.length:Int)) then
       bif decide (0≤IntKind.wrap .i64 (v4 - 1))&&decide (IntKind.wrap .i64 (v4 - 1)<((List.getD v1 ((IntKind.wrap .i64 (v2 - 1)).toNat) []).length:Int)) then
        bif decide (List.getD (List.getD v1 ((IntKind.wrap .i64 (v2 - 1)).toNat) []) ((IntKind.wrap .i64 (v5 - 1)).toNat) 0<List.getD (List.getD v1 ((IntKind.wrap .i64 (v2 - 1)).toNat) []) ((IntKind.wrap .i64 (v4 - 1)).toNat) 0) then
         L1 v1 v2 v3 v5 (IntKind.wrap .i64 (v5+1))
        else
         L1 v1 v2 v3 v4 (IntKind.wrap .i64 (v5+1))
       else none
      else none
     else none
    else none
   else
    L1 v1 v2 v3 v4 (IntKind.wrap .i64 (v5+1))
  else
   L1 v1 v2 v3 v4 (IntKind.wrap .i64 (v5+1))
 else
  some ((v4,()),())
noncomputable def pleachref7_Near_T (L1:List (List Int)→Int→List Int→Int→Int→Option ((Int × Unit) × Unit)) (d_0:List (List Int)) (m_1:Int) (l_2:List Int):Option ((Int × Unit) × Unit):=
 L1 d_0 m_1 l_2 0 1
noncomputable def pleachref7_Near_L1 (n:Nat):Nat→List (List Int)→Int→List Int→Int→Int→Option ((Int × Unit) × Unit):=iter (fun _ _ _ _ _=>none) fun L=>pleachref7_Near_B1 L
noncomputable def pleachref7_Near_X1 (n m:Nat) (v1:List (List Int)) (v2:Int) (v3:List Int) (v4:Int) (v5:Int):Option ((Int × Unit) × Unit):=
 atLoop pleachref7_Near_Γ tab (fiB [.val t25,.val t2,.val t41] pleachref7_Near_fi) n [.val t25,.val t2,.val t41] [⟨t2,[false],none⟩] Tryz.f32 [1,1,0,1,0] [] [0,1,2,7,8] m
 ⟨[(0,SV.cv (CV.one (LV.pure t25 v1))),(1,SV.cv (CV.one (LV.pure t2 v2))),(2,SV.cv (CV.one (LV.pure t41 v3))),(7,SV.cv (CV.one (LV.pure t2 v4))),(8,SV.cv (CV.one (LV.pure t2 v5)))],
  []⟩
theorem pleachref7_Near_step1 (n m:Nat) (v1:List (List Int)) (v2:Int) (v3:List Int) (v4:Int) (v5:Int):pleachref7_Near_X1 n (m+1) v1 v2 v3 v4 v5=pleachref7_Near_B1 (pleachref7_Near_X1 n m) v1 v2 v3 v4 v5:=by kernel_rfl
theorem pleachref7_Near_start (n:Nat) (d_0:List (List Int)) (m_1:Int) (l_2:List Int):evFn pleachref7_Near_Γ tab pleachref7_Near_fi n [.val t25,.val t2,.val t41] [⟨t2,[false],none⟩] Tryz.f32 (d_0,m_1,l_2,())=pleachref7_Near_T (pleachref7_Near_X1 n n) d_0 m_1 l_2:=by kernel_rfl
theorem pleachref7_Near_XL1 (n:Nat):∀ m,pleachref7_Near_X1 n m=pleachref7_Near_L1 n m
 | 0=>rfl
 | m+1=>by
  have ih:=pleachref7_Near_XL1 n m
  funext v1 v2 v3 v4 v5
  rw [pleachref7_Near_step1,ih]
  rfl
noncomputable def pleachref7_Near_n (n:Nat) (d_0:List (List Int)) (m_1:Int) (l_2:List Int):Option ((Int × Unit) × Unit):=pleachref7_Near_T (pleachref7_Near_L1 n n) d_0 m_1 l_2
noncomputable def pleachref7_Near (d_0:List (List Int)) (m_1:Int) (l_2:List Int):Option ((Int × Unit) × Unit):=pleachref7_Near_n 1099511627776 d_0 m_1 l_2
theorem pleachref7_Near_eq (n:Nat) (d_0:List (List Int)) (m_1:Int) (l_2:List Int):evFn pleachref7_Near_Γ tab pleachref7_Near_fi n [.val t25,.val t2,.val t41] [⟨t2,[false],none⟩] Tryz.f32 (d_0,m_1,l_2,())=pleachref7_Near_n n d_0 m_1 l_2:=by
  rw [pleachref7_Near_start,pleachref7_Near_XL1 n n]
  rfl
noncomputable def pleachref7_Near_e:Ent:=⟨[.val t25,.val t2,.val t41],[⟨t2,[false],none⟩],fun x=>pleachref7_Near x.1 x.2.1 x.2.2.1⟩
theorem pleachref7_Near_good:Good tab.ty Tryz.prog 32 pleachref7_Near_e:=by
  refine fn_good (Γ:=pleachref7_Near_Γ) (fi:=pleachref7_Near_fi) (n:=1099511627776) follows (gcons pleachref1_Has_good gnil) tabok Tryz.func32 (by kernel_rfl) (by kernel_rfl) (fun x r h=>?_)
  obtain ⟨d_0,m_1,l_2,_u⟩:=x
  exact (pleachref7_Near_eq 1099511627776 d_0 m_1 l_2).trans h
noncomputable def pleachref7_Far_Γ:Ctx:=[]
def pleachref7_Far_fi:Fi:={ keep:=[],vty:=[],vals:=[],live:=[(0,[0,1,2]),(1,[0,1,2,7]),(2,[0,1,2,7,8]),(3,[0,1,2,7,8,12]),(4,[0,1,2,7,8]),(5,[0,1,2,7,8]),(6,[6])] }
noncomputable def pleachref7_Far_B1 (L1:List (List Int)→Int→List Int→Int→Int→Option ((Int × Unit) × Unit)) (v1:List (List Int)) (v2:Int) (v3:List Int) (v4:Int) (v5:Int):Option ((Int × Unit) × Unit):=
 bif decide (v5<(v3.length:Int)) then
  bif decide (0≤IntKind.wrap .i64 (v2 - 1))&&decide (IntKind.wrap .i64 (v2 - 1)<(v1.length:Int)) then
   bif decide (0≤v5)&&decide (v5<(v3.length:Int)) then
    bif decide (0≤IntKind.wrap .i64 ((List.getD v3 v5.toNat 0) - 1))&&decide (IntKind.wrap .i64 ((List.getD v3 v5.toNat 0) - 1)<((List.getD v1 ((IntKind.wrap .i64 (v2 - 1)).toNat) []).length:Int)) then
     L1 v1 v2 v3 (if List.getD (List.getD v1 ((IntKind.wrap .i64 (v2 - 1)).toNat) []) ((IntKind.wrap .i64 ((List.getD v3 v5.toNat 0) - 1)).toNat) 0>v4 then List.getD (List.getD v1 ((IntKind.wrap .i64 (v2 - 1)).toNat) []) ((IntKind.wrap .i64 ((List.getD v3 v5.toNat 0) - 1)).toNat) 0 else v4) (IntKind.wrap .i64 (v5+1))
    else none
   else none
  else none
 else
  some ((v4,()),())
noncomputable def pleachref7_Far_T (L1:List (List Int)→Int→List Int→Int→Int→Option ((Int × Unit) × Unit)) (d_0:List (List Int)) (m_1:Int) (l_2:List Int):Option ((Int × Unit) × Unit):=
 L1 d_0 m_1 l_2 0 0
noncomputable def pleachref7_Far_L1 (n:Nat):Nat→List (List Int)→Int→List Int→Int→Int→Option ((Int × Unit) × Unit):=iter (fun _ _ _ _ _=>none) fun L=>pleachref7_Far_B1 L
noncomputable def pleachref7_Far_X1 (n m:Nat) (v1:List (List Int)) (v2:Int) (v3:List Int) (v4:Int) (v5:Int):Option ((Int × Unit) × Unit):=
 atLoop pleachref7_Far_Γ tab (fiB [.val t25,.val t2,.val t41] pleachref7_Far_fi) n [.val t25,.val t2,.val t41] [⟨t2,[false],none⟩] Tryz.f75 [1,1,0,1,0] [] [0,1,2,7,8] m
 ⟨[(0,SV.cv (CV.one (LV.pure t25 v1))),(1,SV.cv (CV.one (LV.pure t2 v2))),(2,SV.cv (CV.one (LV.pure t41 v3))),(7,SV.cv (CV.one (LV.pure t2 v4))),(8,SV.cv (CV.one (LV.pure t2 v5)))],
  []⟩
theorem pleachref7_Far_step1 (n m:Nat) (v1:List (List Int)) (v2:Int) (v3:List Int) (v4:Int) (v5:Int):pleachref7_Far_X1 n (m+1) v1 v2 v3 v4 v5=pleachref7_Far_B1 (pleachref7_Far_X1 n m) v1 v2 v3 v4 v5:=by kernel_rfl
theorem pleachref7_Far_start (n:Nat) (d_0:List (List Int)) (m_1:Int) (l_2:List Int):evFn pleachref7_Far_Γ tab pleachref7_Far_fi n [.val t25,.val t2,.val t41] [⟨t2,[false],none⟩] Tryz.f75 (d_0,m_1,l_2,())=pleachref7_Far_T (pleachref7_Far_X1 n n) d_0 m_1 l_2:=by kernel_rfl
theorem pleachref7_Far_XL1 (n:Nat):∀ m,pleachref7_Far_X1 n m=pleachref7_Far_L1 n m
 | 0=>rfl
 | m+1=>by
  have ih:=pleachref7_Far_XL1 n m
  funext v1 v2 v3 v4 v5
  rw [pleachref7_Far_step1,ih]
  rfl
noncomputable def pleachref7_Far_n (n:Nat) (d_0:List (List Int)) (m_1:Int) (l_2:List Int):Option ((Int × Unit) × Unit):=pleachref7_Far_T (pleachref7_Far_L1 n n) d_0 m_1 l_2
noncomputable def pleachref7_Far (d_0:List (List Int)) (m_1:Int) (l_2:List Int):Option ((Int × Unit) × Unit):=pleachref7_Far_n 1099511627776 d_0 m_1 l_2
theorem pleachref7_Far_eq (n:Nat) (d_0:List (List Int)) (m_1:Int) (l_2:List Int):evFn pleachref7_Far_Γ tab pleachref7_Far_fi n [.val t25,.val t2,.val t41] [⟨t2,[false],none⟩] Tryz.f75 (d_0,m_1,l_2,())=pleachref7_Far_n n d_0 m_1 l_2:=by
  rw [pleachref7_Far_start,pleachref7_Far_XL1 n n]
  rfl
noncomputable def pleachref7_Far_e:Ent:=⟨[.val t25,.val t2,.val t41],[⟨t2,[false],none⟩],fun x=>pleachref7_Far x.1 x.2.1 x.2.2.1⟩
theorem pleachref7_Far_good:Good tab.ty Tryz.prog 75 pleachref7_Far_e:=by
  refine fn_good (Γ:=pleachref7_Far_Γ) (fi:=pleachref7_Far_fi) (n:=1099511627776) follows gnil tabok Tryz.func75 (by kernel_rfl) (by kernel_rfl) (fun x r h=>?_)
  obtain ⟨d_0,m_1,l_2,_u⟩:=x
  exact (pleachref7_Far_eq 1099511627776 d_0 m_1 l_2).trans h
noncomputable def pleachref7_Mid_Γ:Ctx:=[(40,pleachref1_Has_e),(75,pleachref7_Far_e)]
def pleachref7_Mid_fi:Fi:={ keep:=[],vty:=[],vals:=[],live:=[(0,[0,1,15,16,17,18,19,20,21,22,23,24,25,26,27]),(1,[0,1,5,15,16,17,18,19,20,21,22,23,24,25,26,27]),(2,[0,1,5,6,15,16,17,18,19,20,21,22,23,24,25,26,27]),(3,[0,1,5,6,8,15,16,17,18,19,20,21,22,23,24,25,26,27]),(4,[0,1,5,6,15,16,17,18,19,20,21,22,23,24,25,26,27]),(5,[0,1,5,6,15,16,17,18,19,20,21,22,23,24,25,26,27,28]),(6,[0,1,5,6,15,16,17,18,19,20,21,22,23,24,25,26,27]),(7,[4])] }
noncomputable def pleachref7_Mid_B1 (L1:List (List Int)→List Int→Int→Int→Option ((Int × Unit) × Unit)) (v1:List (List Int)) (v2:List Int) (v3:Int) (v4:Int):Option ((Int × Unit) × Unit):=
 bif decide (v4≤8) then
  Option.bind (pleachref1_Has v2 v4) fun (r5:(Bool × Unit) × Unit)=>
  bif r5.1.1 then
   bif v3==0 then
    L1 v1 v2 v4 (IntKind.wrap .i64 (v4+1))
   else
    Option.bind (pleachref7_Far v1 v4 v2) fun (r6:(Int × Unit) × Unit)=>
    Option.bind (pleachref7_Far v1 v3 v2) fun (r7:(Int × Unit) × Unit)=>
    bif decide (r6.1.1<r7.1.1) then
     L1 v1 v2 v4 (IntKind.wrap .i64 (v4+1))
    else
     L1 v1 v2 v3 (IntKind.wrap .i64 (v4+1))
  else
   L1 v1 v2 v3 (IntKind.wrap .i64 (v4+1))
 else
  some ((v3,()),())
noncomputable def pleachref7_Mid_T (L1:List (List Int)→List Int→Int→Int→Option ((Int × Unit) × Unit)) (d_0:List (List Int)) (l_1:List Int):Option ((Int × Unit) × Unit):=
 L1 d_0 l_1 0 1
noncomputable def pleachref7_Mid_L1 (n:Nat):Nat→List (List Int)→List Int→Int→Int→Option ((Int × Unit) × Unit):=iter (fun _ _ _ _=>none) fun L=>pleachref7_Mid_B1 L
noncomputable def pleachref7_Mid_X1 (n m:Nat) (v1:List (List Int)) (v2:List Int) (v3:Int) (v4:Int):Option ((Int × Unit) × Unit):=
 atLoop pleachref7_Mid_Γ tab (fiB [.val t25,.val t41] pleachref7_Mid_fi) n [.val t25,.val t41] [⟨t2,[false],none⟩] Tryz.f41 [1,1,0,1,0] [] [0,1,5,6] m
 ⟨[(0,SV.cv (CV.one (LV.pure t25 v1))),(1,SV.cv (CV.one (LV.pure t41 v2))),(5,SV.cv (CV.one (LV.pure t2 v3))),(6,SV.cv (CV.one (LV.pure t2 v4)))],
  []⟩
theorem pleachref7_Mid_step1 (n m:Nat) (v1:List (List Int)) (v2:List Int) (v3:Int) (v4:Int):pleachref7_Mid_X1 n (m+1) v1 v2 v3 v4=pleachref7_Mid_B1 (pleachref7_Mid_X1 n m) v1 v2 v3 v4:=by kernel_rfl
theorem pleachref7_Mid_start (n:Nat) (d_0:List (List Int)) (l_1:List Int):evFn pleachref7_Mid_Γ tab pleachref7_Mid_fi n [.val t25,.val t41] [⟨t2,[false],none⟩] Tryz.f41 (d_0,l_1,())=pleachref7_Mid_T (pleachref7_Mid_X1 n n) d_0 l_1:=by kernel_rfl
theorem pleachref7_Mid_XL1 (n:Nat):∀ m,pleachref7_Mid_X1 n m=pleachref7_Mid_L1 n m
 | 0=>rfl
 | m+1=>by
  have ih:=pleachref7_Mid_XL1 n m
  funext v1 v2 v3 v4
  rw [pleachref7_Mid_step1,ih]
  rfl
noncomputable def pleachref7_Mid_n (n:Nat) (d_0:List (List Int)) (l_1:List Int):Option ((Int × Unit) × Unit):=pleachref7_Mid_T (pleachref7_Mid_L1 n n) d_0 l_1
noncomputable def pleachref7_Mid (d_0:List (List Int)) (l_1:List Int):Option ((Int × Unit) × Unit):=pleachref7_Mid_n 1099511627776 d_0 l_1
theorem pleachref7_Mid_eq (n:Nat) (d_0:List (List Int)) (l_1:List Int):evFn pleachref7_Mid_Γ tab pleachref7_Mid_fi n [.val t25,.val t41] [⟨t2,[false],none⟩] Tryz.f41 (d_0,l_1,())=pleachref7_Mid_n n d_0 l_1:=by
  rw [pleachref7_Mid_start,pleachref7_Mid_XL1 n n]
  rfl
noncomputable def pleachref7_Mid_e:Ent:=⟨[.val t25,.val t41],[⟨t2,[false],none⟩],fun x=>pleachref7_Mid x.1 x.2.1⟩
theorem pleachref7_Mid_good:Good tab.ty Tryz.prog 41 pleachref7_Mid_e:=by
  refine fn_good (Γ:=pleachref7_Mid_Γ) (fi:=pleachref7_Mid_fi) (n:=1099511627776) follows (gcons pleachref1_Has_good (gcons pleachref7_Far_good gnil)) tabok Tryz.func41 (by kernel_rfl) (by kernel_rfl) (fun x r h=>?_)
  obtain ⟨d_0,l_1,_u⟩:=x
  exact (pleachref7_Mid_eq 1099511627776 d_0 l_1).trans h
noncomputable def pleachref7_Of_Γ:Ctx:=[(41,pleachref7_Mid_e)]
def pleachref7_Of_fi:Fi:={ keep:=[],vty:=[],vals:=[],live:=[(0,[0,1,4]),(1,[4])] }
noncomputable def pleachref7_Of (d_0:List (List Int)) (l_1:List Int):Option ((((List Int) × Int) × Unit) × Unit):=
 bif Nat.ble (0+l_1.length) 1073741824 then
  Option.bind (pleachref7_Mid d_0 l_1) fun (r1:(Int × Unit) × Unit)=>
  some ((([]++l_1,r1.1.1),()),())
 else none
theorem pleachref7_Of_eq (d_0:List (List Int)) (l_1:List Int):evFn pleachref7_Of_Γ tab pleachref7_Of_fi 1 [.val t25,.val t41] [⟨t42,[true,false],none⟩] Tryz.f62 (d_0,l_1,())=pleachref7_Of d_0 l_1:=by kernel_rfl
noncomputable def pleachref7_Of_e:Ent:=⟨[.val t25,.val t41],[⟨t42,[true,false],none⟩],fun x=>pleachref7_Of x.1 x.2.1⟩
theorem pleachref7_Of_good:Good tab.ty Tryz.prog 62 pleachref7_Of_e:=by
  refine fn_good (Γ:=pleachref7_Of_Γ) (fi:=pleachref7_Of_fi) (n:=1) follows (gcons pleachref7_Mid_good gnil) tabok Tryz.func62 (by kernel_rfl) (by kernel_rfl) (fun x r h=>?_)
  obtain ⟨d_0,l_1,_u⟩:=x
  exact (pleachref7_Of_eq d_0 l_1).trans h
noncomputable def pleachref7_Rising_Γ:Ctx:=[(40,pleachref1_Has_e)]
def pleachref7_Rising_fi:Fi:={ keep:=[],vty:=[(3,41)],vals:=[],live:=[(0,[0]),(1,[0,3]),(2,[0,3,4]),(3,[0,3,4,6]),(4,[0,3,4]),(5,[0,3,4,11]),(6,[0,3,4]),(7,[2])] }
noncomputable def pleachref7_Rising_B1 (L1:List Int→Int→List Int→Option (((List Int) × Unit) × Unit)) (v1:List Int) (v2:Int) (v3:List Int):Option (((List Int) × Unit) × Unit):=
 bif decide (v2≤8) then
  Option.bind (pleachref1_Has v1 v2) fun (r4:(Bool × Unit) × Unit)=>
  bif r4.1.1 then
   bif Nat.ble (v3.length+1) 1073741824 then
    L1 v1 (IntKind.wrap .i64 (v2+1)) (v3++[v2])
   else none
  else
   L1 v1 (IntKind.wrap .i64 (v2+1)) v3
 else
  some ((v3,()),())
noncomputable def pleachref7_Rising_T (L1:List Int→Int→List Int→Option (((List Int) × Unit) × Unit)) (l_0:List Int):Option (((List Int) × Unit) × Unit):=
 L1 l_0 1 []
noncomputable def pleachref7_Rising_L1 (n:Nat):Nat→List Int→Int→List Int→Option (((List Int) × Unit) × Unit):=iter (fun _ _ _=>none) fun L=>pleachref7_Rising_B1 L
noncomputable def pleachref7_Rising_X1 (n m:Nat) (v1:List Int) (v2:Int) (v3:List Int):Option (((List Int) × Unit) × Unit):=
 atLoop pleachref7_Rising_Γ tab (fiB [.val t41] pleachref7_Rising_fi) n [.val t41] [⟨t41,[true],none⟩] Tryz.f63 [1,1,0,1,0] [] [0,3,4] m
 ⟨[(0,SV.cv (CV.one (LV.pure t41 v1))),(3,SV.cv (CV.one (LV.ref (888888,3)))),(4,SV.cv (CV.one (LV.pure t2 v2)))],
  [((888888,3),Ob.row 3 t2 v3)]⟩
theorem pleachref7_Rising_step1 (n m:Nat) (v1:List Int) (v2:Int) (v3:List Int):pleachref7_Rising_X1 n (m+1) v1 v2 v3=pleachref7_Rising_B1 (pleachref7_Rising_X1 n m) v1 v2 v3:=by kernel_rfl
theorem pleachref7_Rising_start (n:Nat) (l_0:List Int):evFn pleachref7_Rising_Γ tab pleachref7_Rising_fi n [.val t41] [⟨t41,[true],none⟩] Tryz.f63 (l_0,())=pleachref7_Rising_T (pleachref7_Rising_X1 n n) l_0:=by kernel_rfl
theorem pleachref7_Rising_XL1 (n:Nat):∀ m,pleachref7_Rising_X1 n m=pleachref7_Rising_L1 n m
 | 0=>rfl
 | m+1=>by
  have ih:=pleachref7_Rising_XL1 n m
  funext v1 v2 v3
  rw [pleachref7_Rising_step1,ih]
  rfl
noncomputable def pleachref7_Rising_n (n:Nat) (l_0:List Int):Option (((List Int) × Unit) × Unit):=pleachref7_Rising_T (pleachref7_Rising_L1 n n) l_0
noncomputable def pleachref7_Rising (l_0:List Int):Option (((List Int) × Unit) × Unit):=pleachref7_Rising_n 1099511627776 l_0
theorem pleachref7_Rising_eq (n:Nat) (l_0:List Int):evFn pleachref7_Rising_Γ tab pleachref7_Rising_fi n [.val t41] [⟨t41,[true],none⟩] Tryz.f63 (l_0,())=pleachref7_Rising_n n l_0:=by
  rw [pleachref7_Rising_start,pleachref7_Rising_XL1 n n]
  rfl
noncomputable def pleachref7_Rising_e:Ent:=⟨[.val t41],[⟨t41,[true],none⟩],fun x=>pleachref7_Rising x.1⟩
theorem pleachref7_Rising_good:Good tab.ty Tryz.prog 63 pleachref7_Rising_e:=by
  refine fn_good (Γ:=pleachref7_Rising_Γ) (fi:=pleachref7_Rising_fi) (n:=1099511627776) follows (gcons pleachref1_Has_good gnil) tabok Tryz.func63 (by kernel_rfl) (by kernel_rfl) (fun x r h=>?_)
  obtain ⟨l_0,_u⟩:=x
  exact (pleachref7_Rising_eq 1099511627776 l_0).trans h
noncomputable def pleachref7_without_Γ:Ctx:=[]
def pleachref7_without_fi:Fi:={ keep:=[],vty:=[(5,41)],vals:=[],live:=[(0,[0,1]),(1,[0,1,5]),(2,[0,1,5,6]),(3,[0,1,5,6,10]),(4,[0,1,5,6]),(5,[0,1,5,6,18]),(6,[0,1,5,6]),(7,[4])] }
noncomputable def pleachref7_without_B1 (L1:List Int→Int→Int→List Int→Option (((List Int) × Unit) × Unit)) (v1:List Int) (v2:Int) (v3:Int) (v4:List Int):Option (((List Int) × Unit) × Unit):=
 bif decide (v3<(v1.length:Int)) then
  bif decide (0≤v3)&&decide (v3<(v1.length:Int)) then
   bif (List.getD v1 v3.toNat 0) != v2 then
    bif decide (0≤v3)&&decide (v3<(v1.length:Int)) then
     bif Nat.ble (v4.length+1) 1073741824 then
      L1 v1 v2 (IntKind.wrap .i64 (v3+1)) (v4++[List.getD v1 v3.toNat 0])
     else none
    else none
   else
    L1 v1 v2 (IntKind.wrap .i64 (v3+1)) v4
  else none
 else
  some ((v4,()),())
noncomputable def pleachref7_without_T (L1:List Int→Int→Int→List Int→Option (((List Int) × Unit) × Unit)) (l_0:List Int) (id_1:Int):Option (((List Int) × Unit) × Unit):=
 L1 l_0 id_1 0 []
noncomputable def pleachref7_without_L1 (n:Nat):Nat→List Int→Int→Int→List Int→Option (((List Int) × Unit) × Unit):=iter (fun _ _ _ _=>none) fun L=>pleachref7_without_B1 L
noncomputable def pleachref7_without_X1 (n m:Nat) (v1:List Int) (v2:Int) (v3:Int) (v4:List Int):Option (((List Int) × Unit) × Unit):=
 atLoop pleachref7_without_Γ tab (fiB [.val t41,.val t2] pleachref7_without_fi) n [.val t41,.val t2] [⟨t41,[true],none⟩] Tryz.f70 [1,1,0,1,0] [] [0,1,5,6] m
 ⟨[(0,SV.cv (CV.one (LV.pure t41 v1))),(1,SV.cv (CV.one (LV.pure t2 v2))),(5,SV.cv (CV.one (LV.ref (888888,5)))),(6,SV.cv (CV.one (LV.pure t2 v3)))],
  [((888888,5),Ob.row 3 t2 v4)]⟩
theorem pleachref7_without_step1 (n m:Nat) (v1:List Int) (v2:Int) (v3:Int) (v4:List Int):pleachref7_without_X1 n (m+1) v1 v2 v3 v4=pleachref7_without_B1 (pleachref7_without_X1 n m) v1 v2 v3 v4:=by kernel_rfl
theorem pleachref7_without_start (n:Nat) (l_0:List Int) (id_1:Int):evFn pleachref7_without_Γ tab pleachref7_without_fi n [.val t41,.val t2] [⟨t41,[true],none⟩] Tryz.f70 (l_0,id_1,())=pleachref7_without_T (pleachref7_without_X1 n n) l_0 id_1:=by kernel_rfl
theorem pleachref7_without_XL1 (n:Nat):∀ m,pleachref7_without_X1 n m=pleachref7_without_L1 n m
 | 0=>rfl
 | m+1=>by
  have ih:=pleachref7_without_XL1 n m
  funext v1 v2 v3 v4
  rw [pleachref7_without_step1,ih]
  rfl
noncomputable def pleachref7_without_n (n:Nat) (l_0:List Int) (id_1:Int):Option (((List Int) × Unit) × Unit):=pleachref7_without_T (pleachref7_without_L1 n n) l_0 id_1
noncomputable def pleachref7_without (l_0:List Int) (id_1:Int):Option (((List Int) × Unit) × Unit):=pleachref7_without_n 1099511627776 l_0 id_1
theorem pleachref7_without_eq (n:Nat) (l_0:List Int) (id_1:Int):evFn pleachref7_without_Γ tab pleachref7_without_fi n [.val t41,.val t2] [⟨t41,[true],none⟩] Tryz.f70 (l_0,id_1,())=pleachref7_without_n n l_0 id_1:=by
  rw [pleachref7_without_start,pleachref7_without_XL1 n n]
  rfl
noncomputable def pleachref7_without_e:Ent:=⟨[.val t41,.val t2],[⟨t41,[true],none⟩],fun x=>pleachref7_without x.1 x.2.1⟩
theorem pleachref7_without_good:Good tab.ty Tryz.prog 70 pleachref7_without_e:=by
  refine fn_good (Γ:=pleachref7_without_Γ) (fi:=pleachref7_without_fi) (n:=1099511627776) follows gnil tabok Tryz.func70 (by kernel_rfl) (by kernel_rfl) (fun x r h=>?_)
  obtain ⟨l_0,id_1,_u⟩:=x
  exact (pleachref7_without_eq 1099511627776 l_0 id_1).trans h
noncomputable def pleachref7_Split_Γ:Ctx:=[(32,pleachref7_Near_e),(63,pleachref7_Rising_e),(70,pleachref7_without_e)]
def pleachref7_Split_fi:Fi:={ keep:=[],vty:=[(12,41),(13,41)],vals:=[],live:=[(0,[0,1,2,41,42,43,44,45,46,47,48,49,50,51,52,53,54,55,56,57,58,59,60,61,62,63,64,65,89,90,91,92,93,94,95,96,97,98,99,100,101,102,103,104,105,106,107,108,109,110,111,112,127,128,129,130,151,152,153,154]),(1,[0,1,2,20,41,42,43,44,45,46,47,48,49,50,51,52,53,54,55,56,57,58,59,60,61,62,63,64,65,89,90,91,92,93,94,95,96,97,98,99,100,101,102,103,104,105,106,107,108,109,110,111,112,127,128,129,130,151,152,153,154]),(2,[6,7]),(3,[0,1,2,8,9,41,42,43,44,45,46,47,48,49,50,51,52,53,54,55,56,57,58,59,60,61,62,63,64,65,89,90,91,92,93,94,95,96,97,98,99,100,101,102,103,104,105,106,107,108,109,110,111,112,127,128,129,130,151,152,153,154]),(4,[0,1,2,8,9,10,41,42,43,44,45,46,47,48,49,50,51,52,53,54,55,56,57,58,59,60,61,62,63,64,65,89,90,91,92,93,94,95,96,97,98,99,100,101,102,103,104,105,106,107,108,109,110,111,112,127,128,129,130,151,152,153,154]),(5,[0,1,2,8,9,10,27,41,42,43,44,45,46,47,48,49,50,51,52,53,54,55,56,57,58,59,60,61,62,63,64,65,89,90,91,92,93,94,95,96,97,98,99,100,101,102,103,104,105,106,107,108,109,110,111,112,127,128,129,130,151,152,153,154]),(6,[0,1,2,8,9,10,41,42,43,44,45,46,47,48,49,50,51,52,53,54,55,56,57,58,59,60,61,62,63,64,65,89,90,91,92,93,94,95,96,97,98,99,100,101,102,103,104,105,106,107,108,109,110,111,112,127,128,129,130,151,152,153,154]),(7,[0,1,2,8,9,10,11,41,42,43,44,45,46,47,48,49,50,51,52,53,54,55,56,57,58,59,60,61,62,63,64,65,89,90,91,92,93,94,95,96,97,98,99,100,101,102,103,104,105,106,107,108,109,110,111,112,127,128,129,130,151,152,153,154]),(8,[0,1,2,8,9,10,11,35,41,42,43,44,45,46,47,48,49,50,51,52,53,54,55,56,57,58,59,60,61,62,63,64,65,89,90,91,92,93,94,95,96,97,98,99,100,101,102,103,104,105,106,107,108,109,110,111,112,127,128,129,130,151,152,153,154]),(9,[0,1,2,8,9,10,11,41,42,43,44,45,46,47,48,49,50,51,52,53,54,55,56,57,58,59,60,61,62,63,64,65,89,90,91,92,93,94,95,96,97,98,99,100,101,102,103,104,105,106,107,108,109,110,111,112,127,128,129,130,151,152,153,154]),(10,[0,1,2,8,9,10,11,41,42,43,44,45,46,47,48,49,50,51,52,53,54,55,56,57,58,59,60,61,62,63,64,65,66,89,90,91,92,93,94,95,96,97,98,99,100,101,102,103,104,105,106,107,108,109,110,111,112,127,128,129,130,151,152,153,154]),(11,[0,1,2,8,9,10,11,41,42,43,44,45,46,47,48,49,50,51,52,53,54,55,56,57,58,59,60,61,62,63,64,65,89,90,91,92,93,94,95,96,97,98,99,100,101,102,103,104,105,106,107,108,109,110,111,112,127,128,129,130,151,152,153,154]),(12,[0,1,2,8,9,12,13,89,90,91,92,93,94,95,96,97,98,99,100,101,102,103,104,105,106,107,108,109,110,111,112,127,128,129,130,151,152,153,154]),(13,[0,1,2,8,9,12,13,14,89,90,91,92,93,94,95,96,97,98,99,100,101,102,103,104,105,106,107,108,109,110,111,112,127,128,129,130,151,152,153,154]),(14,[0,1,2,8,9,12,13,14,78,89,90,91,92,93,94,95,96,97,98,99,100,101,102,103,104,105,106,107,108,109,110,111,112,127,128,129,130,151,152,153,154]),(15,[0,1,2,8,9,12,13,14,89,90,91,92,93,94,95,96,97,98,99,100,101,102,103,104,105,106,107,108,109,110,111,112,127,128,129,130,151,152,153,154]),(16,[0,1,2,8,9,12,13,14,15,89,90,91,92,93,94,95,96,97,98,99,100,101,102,103,104,105,106,107,108,109,110,111,112,127,128,129,130,151,152,153,154]),(17,[0,1,2,8,9,12,13,14,15,89,90,91,92,93,94,95,96,97,98,99,100,101,102,103,104,105,106,107,108,109,110,111,112,113,127,128,129,130,151,152,153,154]),(18,[0,1,2,8,9,12,13,14,89,90,91,92,93,94,95,96,97,98,99,100,101,102,103,104,105,106,107,108,109,110,111,112,127,128,129,130,151,152,153,154]),(19,[0,1,2,8,9,12,13,14,89,90,91,92,93,94,95,96,97,98,99,100,101,102,103,104,105,106,107,108,109,110,111,112,127,128,129,130,151,152,153,154]),(20,[0,2,8,9,12,13,127,128,129,130,131,151,152,153,154]),(21,[0,2,8,9,12,13,16,127,128,129,130,151,152,153,154]),(22,[0,2,8,9,12,13,127,128,129,130,151,152,153,154]),(23,[0,2,8,9,12,13,151,152,153,154,155]),(24,[0,2,8,9,12,13,17,151,152,153,154]),(25,[0,2,8,9,12,13,151,152,153,154]),(26,[6,7])] }
noncomputable def pleachref7_Split_B1 (L2:List (List Int)→List Int→Int→Int→Int→Int→Int→Option (((List Int) × (List Int) × Unit) × Unit)) (L3:List (List Int)→List Int→Int→Int→Int→Int→List Int→List Int→Option (((List Int) × (List Int) × Unit) × Unit)) (v1:List (List Int)) (v2:List Int) (v3:Int) (v4:Int) (v5:Int) (v6:Int):Option (((List Int) × (List Int) × Unit) × Unit):=
 bif decide (v6<(v2.length:Int)) then
  L2 v1 v2 v3 v4 v5 v6 (IntKind.wrap .i64 (v6+1))
 else
  L3 v1 v2 v3 v4 v5 0 [] []
noncomputable def pleachref7_Split_B2 (L2:List (List Int)→List Int→Int→Int→Int→Int→Int→Option (((List Int) × (List Int) × Unit) × Unit)) (L1:List (List Int)→List Int→Int→Int→Int→Int→Option (((List Int) × (List Int) × Unit) × Unit)) (v7:List (List Int)) (v8:List Int) (v9:Int) (v10:Int) (v11:Int) (v12:Int) (v13:Int):Option (((List Int) × (List Int) × Unit) × Unit):=
 bif decide (v13<(v8.length:Int)) then
  bif v10==0 then
   bif decide (0≤v12)&&decide (v12<(v8.length:Int)) then
    bif decide (0≤v13)&&decide (v13<(v8.length:Int)) then
     L2 v7 v8 v9 (List.getD v8 v12.toNat 0) (List.getD v8 v13.toNat 0) v12 (IntKind.wrap .i64 (v13+1))
    else none
   else none
  else
  bif decide (0≤v12)&&decide (v12<(v8.length:Int)) then
   bif decide (0≤IntKind.wrap .i64 ((List.getD v8 v12.toNat 0) - 1))&&decide (IntKind.wrap .i64 ((List.getD v8 v12.toNat 0) - 1)<(v7.length:Int)) then
    bif decide (0≤v13)&&decide (v13<(v8.length:Int)) then
     bif decide (0≤IntKind.wrap .i64 ((List.getD v8 v13.toNat 0) - 1))&&decide (IntKind.wrap .i64 ((List.getD v8 v13.toNat 0) - 1)<((List.getD v7 ((IntKind.wrap .i64 ((List.getD v8 v12.toNat 0) - 1)).toNat) []).length:Int)) then
      bif decide (0≤IntKind.wrap .i64 (v10 - 1))&&decide (IntKind.wrap .i64 (v10 - 1)<(v7.length:Int)) then
       bif decide (0≤IntKind.wrap .i64 (v11 - 1))&&decide (IntKind.wrap .i64 (v11 - 1)<((List.getD v7 ((IntKind.wrap .i64 (v10 - 1)).toNat) []).length:Int)) then
        bif decide (List.getD (List.getD v7 ((IntKind.wrap .i64 ((List.getD v8 v12.toNat 0) - 1)).toNat) []) ((IntKind.wrap .i64 ((List.getD v8 v13.toNat 0) - 1)).toNat) 0>List.getD (List.getD v7 ((IntKind.wrap .i64 (v10 - 1)).toNat) []) ((IntKind.wrap .i64 (v11 - 1)).toNat) 0) then
         bif decide (0≤v12)&&decide (v12<(v8.length:Int)) then
          bif decide (0≤v13)&&decide (v13<(v8.length:Int)) then
           L2 v7 v8 v9 (List.getD v8 v12.toNat 0) (List.getD v8 v13.toNat 0) v12 (IntKind.wrap .i64 (v13+1))
          else none
         else none
        else
         L2 v7 v8 v9 v10 v11 v12 (IntKind.wrap .i64 (v13+1))
       else none
      else none
     else none
    else none
   else none
  else none
 else
  L1 v7 v8 v9 v10 v11 (IntKind.wrap .i64 (v12+1))
noncomputable def pleachref7_Split_B3 (L3:List (List Int)→List Int→Int→Int→Int→Int→List Int→List Int→Option (((List Int) × (List Int) × Unit) × Unit)) (L4:List (List Int)→List Int→Int→Int→Int→Int→Bool→List Int→List Int→Option (((List Int) × (List Int) × Unit) × Unit)) (v14:List (List Int)) (v15:List Int) (v16:Int) (v17:Int) (v18:Int) (v19:Int) (v20:List Int) (v21:List Int):Option (((List Int) × (List Int) × Unit) × Unit):=
 bif decide (v19<(v15.length:Int)) then
  bif decide (0≤v19)&&decide (v19<(v15.length:Int)) then
   bif (List.getD v15 v19.toNat 0) != v18 then
    bif (List.getD v15 v19.toNat 0)==v17 then
     bif Nat.ble (v20.length+1) 1073741824 then
      L3 v14 v15 v16 v17 v18 (IntKind.wrap .i64 (v19+1)) (v20++[List.getD v15 v19.toNat 0]) v21
     else none
    else
    bif decide (0≤IntKind.wrap .i64 ((List.getD v15 v19.toNat 0) - 1))&&decide (IntKind.wrap .i64 ((List.getD v15 v19.toNat 0) - 1)<(v14.length:Int)) then
     bif decide (0≤IntKind.wrap .i64 (v17 - 1))&&decide (IntKind.wrap .i64 (v17 - 1)<((List.getD v14 ((IntKind.wrap .i64 ((List.getD v15 v19.toNat 0) - 1)).toNat) []).length:Int)) then
      bif decide (0≤IntKind.wrap .i64 ((List.getD v15 v19.toNat 0) - 1))&&decide (IntKind.wrap .i64 ((List.getD v15 v19.toNat 0) - 1)<(v14.length:Int)) then
       bif decide (0≤IntKind.wrap .i64 (v18 - 1))&&decide (IntKind.wrap .i64 (v18 - 1)<((List.getD v14 ((IntKind.wrap .i64 ((List.getD v15 v19.toNat 0) - 1)).toNat) []).length:Int)) then
        bif decide (List.getD (List.getD v14 ((IntKind.wrap .i64 ((List.getD v15 v19.toNat 0) - 1)).toNat) []) ((IntKind.wrap .i64 (v17 - 1)).toNat) 0≤List.getD (List.getD v14 ((IntKind.wrap .i64 ((List.getD v15 v19.toNat 0) - 1)).toNat) []) ((IntKind.wrap .i64 (v18 - 1)).toNat) 0) then
         bif Nat.ble (v20.length+1) 1073741824 then
          L3 v14 v15 v16 v17 v18 (IntKind.wrap .i64 (v19+1)) (v20++[List.getD v15 v19.toNat 0]) v21
         else none
        else
        bif Nat.ble (v21.length+1) 1073741824 then
         L3 v14 v15 v16 v17 v18 (IntKind.wrap .i64 (v19+1)) v20 (v21++[List.getD v15 v19.toNat 0])
        else none
       else none
      else none
     else none
    else none
   else
   bif Nat.ble (v21.length+1) 1073741824 then
    L3 v14 v15 v16 v17 v18 (IntKind.wrap .i64 (v19+1)) v20 (v21++[List.getD v15 v19.toNat 0])
   else none
  else none
 else
  L4 v14 v15 v16 v17 v18 v19 (decide (v19<(v15.length:Int))) v20 v21
noncomputable def pleachref7_Split_B4 (L5:List (List Int)→Int→Int→Int→List Int→List Int→Option (((List Int) × (List Int) × Unit) × Unit)) (L6:List (List Int)→Int→Int→Int→Int→Int→Bool→Bool→List Int→List Int→Option (((List Int) × (List Int) × Unit) × Unit)) (L8:List (List Int)→Int→Int→Int→Bool→List Int→List Int→Option (((List Int) × (List Int) × Unit) × Unit)) (v22:List (List Int)) (v23:List Int) (v24:Int) (v25:Int) (v26:Int) (v27:Int) (v28:Bool) (v29:List Int) (v30:List Int):Option (((List Int) × (List Int) × Unit) × Unit):=
 bif decide ((v29.length:Int)<v24) then
  bif decide ((v30.length:Int)>v24) then
   Option.bind (pleachref7_without v30 v26) fun (r31:((List Int) × Unit) × Unit)=>
   Option.bind (pleachref7_Near v22 v25 r31.1.1) fun (r32:(Int × Unit) × Unit)=>
   bif Nat.ble (v29.length+1) 1073741824 then
    Option.bind (pleachref7_Rising (v29++[r32.1.1])) fun (r33:((List Int) × Unit) × Unit)=>
    Option.bind (pleachref7_without v30 r32.1.1) fun (r34:((List Int) × Unit) × Unit)=>
    L5 v22 v24 v25 v26 r33.1.1 r34.1.1
   else none
  else
   L6 v22 v24 v25 v26 (v30.length:Int) v24 (decide ((v30.length:Int)>v24)) (decide ((v30.length:Int)>v24)) v29 v30
 else
  L8 v22 v24 v25 v26 false v29 v30
noncomputable def pleachref7_Split_B5 (L5:List (List Int)→Int→Int→Int→List Int→List Int→Option (((List Int) × (List Int) × Unit) × Unit)) (L6:List (List Int)→Int→Int→Int→Int→Int→Bool→Bool→List Int→List Int→Option (((List Int) × (List Int) × Unit) × Unit)) (L8:List (List Int)→Int→Int→Int→Bool→List Int→List Int→Option (((List Int) × (List Int) × Unit) × Unit)) (v35:List (List Int)) (v36:Int) (v37:Int) (v38:Int) (v39:List Int) (v40:List Int):Option (((List Int) × (List Int) × Unit) × Unit):=
 bif decide ((v39.length:Int)<v36) then
  bif decide ((v40.length:Int)>v36) then
   Option.bind (pleachref7_without v40 v38) fun (r41:((List Int) × Unit) × Unit)=>
   Option.bind (pleachref7_Near v35 v37 r41.1.1) fun (r42:(Int × Unit) × Unit)=>
   bif Nat.ble (v39.length+1) 1073741824 then
    Option.bind (pleachref7_Rising (v39++[r42.1.1])) fun (r43:((List Int) × Unit) × Unit)=>
    Option.bind (pleachref7_without v40 r42.1.1) fun (r44:((List Int) × Unit) × Unit)=>
    L5 v35 v36 v37 v38 r43.1.1 r44.1.1
   else none
  else
   L6 v35 v36 v37 v38 (v40.length:Int) v36 (decide ((v40.length:Int)>v36)) (decide ((v40.length:Int)>v36)) v39 v40
 else
  L8 v35 v36 v37 v38 false v39 v40
noncomputable def pleachref7_Split_B6 (L7:List (List Int)→Int→Int→Int→List Int→List Int→Option (((List Int) × (List Int) × Unit) × Unit)) (v45:List (List Int)) (v46:Int) (v47:Int) (v48:Int) (v49:Int) (v50:Int) (v51:Bool) (v52:Bool) (v53:List Int) (v54:List Int):Option (((List Int) × (List Int) × Unit) × Unit):=
 bif decide ((v54.length:Int)<v46) then
  bif decide ((v53.length:Int)>v46) then
   Option.bind (pleachref7_without v53 v47) fun (r55:((List Int) × Unit) × Unit)=>
   Option.bind (pleachref7_Near v45 v48 r55.1.1) fun (r56:(Int × Unit) × Unit)=>
   bif Nat.ble (v54.length+1) 1073741824 then
    Option.bind (pleachref7_Rising (v54++[r56.1.1])) fun (r57:((List Int) × Unit) × Unit)=>
    Option.bind (pleachref7_without v53 r56.1.1) fun (r58:((List Int) × Unit) × Unit)=>
    L7 v45 v46 v47 v48 r58.1.1 r57.1.1
   else none
  else
   some ((v53,v54,()),())
 else
  some ((v53,v54,()),())
noncomputable def pleachref7_Split_B7 (L7:List (List Int)→Int→Int→Int→List Int→List Int→Option (((List Int) × (List Int) × Unit) × Unit)) (v59:List (List Int)) (v60:Int) (v61:Int) (v62:Int) (v63:List Int) (v64:List Int):Option (((List Int) × (List Int) × Unit) × Unit):=
 bif decide ((v64.length:Int)<v60) then
  bif decide ((v63.length:Int)>v60) then
   Option.bind (pleachref7_without v63 v61) fun (r65:((List Int) × Unit) × Unit)=>
   Option.bind (pleachref7_Near v59 v62 r65.1.1) fun (r66:(Int × Unit) × Unit)=>
   bif Nat.ble (v64.length+1) 1073741824 then
    Option.bind (pleachref7_Rising (v64++[r66.1.1])) fun (r67:((List Int) × Unit) × Unit)=>
    Option.bind (pleachref7_without v63 r66.1.1) fun (r68:((List Int) × Unit) × Unit)=>
    L7 v59 v60 v61 v62 r68.1.1 r67.1.1
   else none
  else
   some ((v63,v64,()),())
 else
  some ((v63,v64,()),())
noncomputable def pleachref7_Split_B8 (L9:List (List Int)→Int→Int→Int→List Int→List Int→Option (((List Int) × (List Int) × Unit) × Unit)) (v69:List (List Int)) (v70:Int) (v71:Int) (v72:Int) (v73:Bool) (v74:List Int) (v75:List Int):Option (((List Int) × (List Int) × Unit) × Unit):=
 bif decide ((v75.length:Int)<v70) then
  bif decide ((v74.length:Int)>v70) then
   Option.bind (pleachref7_without v74 v71) fun (r76:((List Int) × Unit) × Unit)=>
   Option.bind (pleachref7_Near v69 v72 r76.1.1) fun (r77:(Int × Unit) × Unit)=>
   bif Nat.ble (v75.length+1) 1073741824 then
    Option.bind (pleachref7_Rising (v75++[r77.1.1])) fun (r78:((List Int) × Unit) × Unit)=>
    Option.bind (pleachref7_without v74 r77.1.1) fun (r79:((List Int) × Unit) × Unit)=>
    L9 v69 v70 v71 v72 r79.1.1 r78.1.1
   else none
  else
   some ((v74,v75,()),())
 else
  some ((v74,v75,()),())
noncomputable def pleachref7_Split_B9 (L9:List (List Int)→Int→Int→Int→List Int→List Int→Option (((List Int) × (List Int) × Unit) × Unit)) (v80:List (List Int)) (v81:Int) (v82:Int) (v83:Int) (v84:List Int) (v85:List Int):Option (((List Int) × (List Int) × Unit) × Unit):=
 bif decide ((v85.length:Int)<v81) then
  bif decide ((v84.length:Int)>v81) then
   Option.bind (pleachref7_without v84 v82) fun (r86:((List Int) × Unit) × Unit)=>
   Option.bind (pleachref7_Near v80 v83 r86.1.1) fun (r87:(Int × Unit) × Unit)=>
   bif Nat.ble (v85.length+1) 1073741824 then
    Option.bind (pleachref7_Rising (v85++[r87.1.1])) fun (r88:((List Int) × Unit) × Unit)=>
    Option.bind (pleachref7_without v84 r87.1.1) fun (r89:((List Int) × Unit) × Unit)=>
    L9 v80 v81 v82 v83 r89.1.1 r88.1.1
   else none
  else
   some ((v84,v85,()),())
 else
  some ((v84,v85,()),())
noncomputable def pleachref7_Split_T (L1:List (List Int)→List Int→Int→Int→Int→Int→Option (((List Int) × (List Int) × Unit) × Unit)) (arr_0:List (List Int)) (x_1:List Int) (x_2:Int):Option (((List Int) × (List Int) × Unit) × Unit):=
 bif decide ((x_1.length:Int)<2) then
  bif Nat.ble (0+x_1.length) 1073741824 then
   some (([]++x_1,[],()),())
  else none
 else
  L1 arr_0 x_1 x_2 0 0 0
noncomputable def pleachref7_Split_L2 (n:Nat) (m1:Nat) (r1:List (List Int)→List Int→Int→Int→Int→Int→Option (((List Int) × (List Int) × Unit) × Unit)):Nat→List (List Int)→List Int→Int→Int→Int→Int→Int→Option (((List Int) × (List Int) × Unit) × Unit):=iter (fun _ _ _ _ _ _ _=>none) fun L=>pleachref7_Split_B2 L r1
noncomputable def pleachref7_Split_L7 (n:Nat):Nat→List (List Int)→Int→Int→Int→List Int→List Int→Option (((List Int) × (List Int) × Unit) × Unit):=iter (fun _ _ _ _ _ _=>none) fun L=>pleachref7_Split_B7 L
noncomputable def pleachref7_Split_L6 (n:Nat):Nat→List (List Int)→Int→Int→Int→Int→Int→Bool→Bool→List Int→List Int→Option (((List Int) × (List Int) × Unit) × Unit):=iterN (fun _ _ _ _ _ _ _ _ _ _=>none) fun m L=>pleachref7_Split_B6 (pleachref7_Split_L7 n m)
noncomputable def pleachref7_Split_L9 (n:Nat):Nat→List (List Int)→Int→Int→Int→List Int→List Int→Option (((List Int) × (List Int) × Unit) × Unit):=iter (fun _ _ _ _ _ _=>none) fun L=>pleachref7_Split_B9 L
noncomputable def pleachref7_Split_L8 (n:Nat):Nat→List (List Int)→Int→Int→Int→Bool→List Int→List Int→Option (((List Int) × (List Int) × Unit) × Unit):=iterN (fun _ _ _ _ _ _ _=>none) fun m L=>pleachref7_Split_B8 (pleachref7_Split_L9 n m)
noncomputable def pleachref7_Split_L5 (n:Nat):Nat→List (List Int)→Int→Int→Int→List Int→List Int→Option (((List Int) × (List Int) × Unit) × Unit):=iter (fun _ _ _ _ _ _=>none) fun L=>pleachref7_Split_B5 L (pleachref7_Split_L6 n n) (pleachref7_Split_L8 n n)
noncomputable def pleachref7_Split_L4 (n:Nat):Nat→List (List Int)→List Int→Int→Int→Int→Int→Bool→List Int→List Int→Option (((List Int) × (List Int) × Unit) × Unit):=iterN (fun _ _ _ _ _ _ _ _ _=>none) fun m L=>pleachref7_Split_B4 (pleachref7_Split_L5 n m) (pleachref7_Split_L6 n n) (pleachref7_Split_L8 n n)
noncomputable def pleachref7_Split_L3 (n:Nat):Nat→List (List Int)→List Int→Int→Int→Int→Int→List Int→List Int→Option (((List Int) × (List Int) × Unit) × Unit):=iter (fun _ _ _ _ _ _ _ _=>none) fun L=>pleachref7_Split_B3 L (pleachref7_Split_L4 n n)
noncomputable def pleachref7_Split_L1 (n:Nat):Nat→List (List Int)→List Int→Int→Int→Int→Int→Option (((List Int) × (List Int) × Unit) × Unit):=iterN (fun _ _ _ _ _ _=>none) fun m L=>pleachref7_Split_B1 (pleachref7_Split_L2 n m L n) (pleachref7_Split_L3 n n)
noncomputable def pleachref7_Split_X1 (n m:Nat) (v1:List (List Int)) (v2:List Int) (v3:Int) (v4:Int) (v5:Int) (v6:Int):Option (((List Int) × (List Int) × Unit) × Unit):=
 atLoop pleachref7_Split_Γ tab (fiB [.val t25,.val t41,.val t2] pleachref7_Split_fi) n [.val t25,.val t41,.val t2] [⟨t41,[true],none⟩,⟨t41,[true],none⟩] Tryz.f87 [1,1,1,0,1,0] [] [0,1,2,8,9,10] m
 ⟨[(0,SV.cv (CV.one (LV.pure t25 v1))),(1,SV.cv (CV.one (LV.pure t41 v2))),(2,SV.cv (CV.one (LV.pure t2 v3))),(8,SV.cv (CV.one (LV.pure t2 v4))),(9,SV.cv (CV.one (LV.pure t2 v5))),(10,SV.cv (CV.one (LV.pure t2 v6)))],
  []⟩
noncomputable def pleachref7_Split_X2 (n m1 m:Nat) (v7:List (List Int)) (v8:List Int) (v9:Int) (v10:Int) (v11:Int) (v12:Int) (v13:Int):Option (((List Int) × (List Int) × Unit) × Unit):=
 atLoop pleachref7_Split_Γ tab (fiB [.val t25,.val t41,.val t2] pleachref7_Split_fi) n [.val t25,.val t41,.val t2] [⟨t41,[true],none⟩,⟨t41,[true],none⟩] Tryz.f87 [1,1,1,0,1,0,0,1,0,0,1,0] [(m1,[0,1,2,8,9,10])] [0,1,2,8,9,10,11] m
 ⟨[(0,SV.cv (CV.one (LV.pure t25 v7))),(1,SV.cv (CV.one (LV.pure t41 v8))),(2,SV.cv (CV.one (LV.pure t2 v9))),(8,SV.cv (CV.one (LV.pure t2 v10))),(9,SV.cv (CV.one (LV.pure t2 v11))),(10,SV.cv (CV.one (LV.pure t2 v12))),(11,SV.cv (CV.one (LV.pure t2 v13)))],
  []⟩
noncomputable def pleachref7_Split_X3 (n m:Nat) (v14:List (List Int)) (v15:List Int) (v16:Int) (v17:Int) (v18:Int) (v19:Int) (v20:List Int) (v21:List Int):Option (((List Int) × (List Int) × Unit) × Unit):=
 atLoop pleachref7_Split_Γ tab (fiB [.val t25,.val t41,.val t2] pleachref7_Split_fi) n [.val t25,.val t41,.val t2] [⟨t41,[true],none⟩,⟨t41,[true],none⟩] Tryz.f87 [1,1,1,1,1,0,1,0] [] [0,1,2,8,9,12,13,14] m
 ⟨[(0,SV.cv (CV.one (LV.pure t25 v14))),(1,SV.cv (CV.one (LV.pure t41 v15))),(2,SV.cv (CV.one (LV.pure t2 v16))),(8,SV.cv (CV.one (LV.pure t2 v17))),(9,SV.cv (CV.one (LV.pure t2 v18))),(12,SV.cv (CV.one (LV.ref (888888,12)))),(13,SV.cv (CV.one (LV.ref (888888,13)))),(14,SV.cv (CV.one (LV.pure t2 v19)))],
  [((888888,12),Ob.row 3 t2 v20),((888888,13),Ob.row 3 t2 v21)]⟩
noncomputable def pleachref7_Split_X4 (n m:Nat) (v22:List (List Int)) (v23:List Int) (v24:Int) (v25:Int) (v26:Int) (v27:Int) (v28:Bool) (v29:List Int) (v30:List Int):Option (((List Int) × (List Int) × Unit) × Unit):=
 atLoop pleachref7_Split_Γ tab (fiB [.val t25,.val t41,.val t2] pleachref7_Split_fi) n [.val t25,.val t41,.val t2] [⟨t41,[true],none⟩,⟨t41,[true],none⟩] Tryz.f87 [1,1,1,1,1,1,0,0] [] [0,1,2,8,9,12,13,14,78] m
 ⟨[(0,SV.cv (CV.one (LV.pure t25 v22))),(1,SV.cv (CV.one (LV.pure t41 v23))),(2,SV.cv (CV.one (LV.pure t2 v24))),(8,SV.cv (CV.one (LV.pure t2 v25))),(9,SV.cv (CV.one (LV.pure t2 v26))),(12,SV.cv (CV.one (LV.ref (888888,12)))),(13,SV.cv (CV.one (LV.ref (888888,13)))),(14,SV.cv (CV.one (LV.pure t2 v27))),(78,SV.cv (CV.one (LV.pure t4 v28)))],
  [((888888,12),Ob.row 3 t2 v29),((888888,13),Ob.row 3 t2 v30)]⟩
noncomputable def pleachref7_Split_X5 (n m:Nat) (v35:List (List Int)) (v36:Int) (v37:Int) (v38:Int) (v39:List Int) (v40:List Int):Option (((List Int) × (List Int) × Unit) × Unit):=
 atLoop pleachref7_Split_Γ tab (fiB [.val t25,.val t41,.val t2] pleachref7_Split_fi) n [.val t25,.val t41,.val t2] [⟨t41,[true],none⟩,⟨t41,[true],none⟩] Tryz.f87 [1,1,1,1,1,1,0,0] [] [0,1,2,8,9,12,13,14,78] m
 ⟨[(0,SV.cv (CV.one (LV.pure t25 v35))),(2,SV.cv (CV.one (LV.pure t2 v36))),(8,SV.cv (CV.one (LV.pure t2 v37))),(9,SV.cv (CV.one (LV.pure t2 v38))),(12,SV.cv (CV.one (LV.ref (888888,12)))),(13,SV.cv (CV.one (LV.ref (888888,13))))],
  [((888888,12),Ob.row 3 t2 v39),((888888,13),Ob.row 3 t2 v40)]⟩
noncomputable def pleachref7_Split_X6 (n m:Nat) (v45:List (List Int)) (v46:Int) (v47:Int) (v48:Int) (v49:Int) (v50:Int) (v51:Bool) (v52:Bool) (v53:List Int) (v54:List Int):Option (((List Int) × (List Int) × Unit) × Unit):=
 atLoop pleachref7_Split_Γ tab (fiB [.val t25,.val t41,.val t2] pleachref7_Split_fi) n [.val t25,.val t41,.val t2] [⟨t41,[true],none⟩,⟨t41,[true],none⟩] Tryz.f87 [1,1,1,1,1,1,1,0,0] [] [0,2,8,9,12,13,127,128,129,130,131] m
 ⟨[(0,SV.cv (CV.one (LV.pure t25 v45))),(2,SV.cv (CV.one (LV.pure t2 v46))),(8,SV.cv (CV.one (LV.pure t2 v47))),(9,SV.cv (CV.one (LV.pure t2 v48))),(12,SV.cv (CV.one (LV.ref (888888,12)))),(13,SV.cv (CV.one (LV.ref (888888,127)))),(127,SV.cv (CV.one (LV.ref (888888,127)))),(128,SV.cv (CV.one (LV.pure t2 v49))),(129,SV.cv (CV.one (LV.pure t2 v50))),(130,SV.cv (CV.one (LV.pure t4 v51))),(131,SV.cv (CV.one (LV.pure t4 v52)))],
  [((888888,12),Ob.row 3 t2 v53),((888888,127),Ob.row 3 t2 v54)]⟩
noncomputable def pleachref7_Split_X7 (n m:Nat) (v59:List (List Int)) (v60:Int) (v61:Int) (v62:Int) (v63:List Int) (v64:List Int):Option (((List Int) × (List Int) × Unit) × Unit):=
 atLoop pleachref7_Split_Γ tab (fiB [.val t25,.val t41,.val t2] pleachref7_Split_fi) n [.val t25,.val t41,.val t2] [⟨t41,[true],none⟩,⟨t41,[true],none⟩] Tryz.f87 [1,1,1,1,1,1,1,0,0] [] [0,2,8,9,12,13,127,128,129,130,131] m
 ⟨[(0,SV.cv (CV.one (LV.pure t25 v59))),(2,SV.cv (CV.one (LV.pure t2 v60))),(8,SV.cv (CV.one (LV.pure t2 v61))),(9,SV.cv (CV.one (LV.pure t2 v62))),(12,SV.cv (CV.one (LV.ref (888888,12)))),(13,SV.cv (CV.one (LV.ref (888888,13))))],
  [((888888,12),Ob.row 3 t2 v63),((888888,13),Ob.row 3 t2 v64)]⟩
noncomputable def pleachref7_Split_X8 (n m:Nat) (v69:List (List Int)) (v70:Int) (v71:Int) (v72:Int) (v73:Bool) (v74:List Int) (v75:List Int):Option (((List Int) × (List Int) × Unit) × Unit):=
 atLoop pleachref7_Split_Γ tab (fiB [.val t25,.val t41,.val t2] pleachref7_Split_fi) n [.val t25,.val t41,.val t2] [⟨t41,[true],none⟩,⟨t41,[true],none⟩] Tryz.f87 [1,1,1,1,1,1,1,0,0] [] [0,2,8,9,12,13,131] m
 ⟨[(0,SV.cv (CV.one (LV.pure t25 v69))),(2,SV.cv (CV.one (LV.pure t2 v70))),(8,SV.cv (CV.one (LV.pure t2 v71))),(9,SV.cv (CV.one (LV.pure t2 v72))),(12,SV.cv (CV.one (LV.ref (888888,12)))),(13,SV.cv (CV.one (LV.ref (888888,13)))),(131,SV.cv (CV.one (LV.pure t4 v73)))],
  [((888888,12),Ob.row 3 t2 v74),((888888,13),Ob.row 3 t2 v75)]⟩
noncomputable def pleachref7_Split_X9 (n m:Nat) (v80:List (List Int)) (v81:Int) (v82:Int) (v83:Int) (v84:List Int) (v85:List Int):Option (((List Int) × (List Int) × Unit) × Unit):=
 atLoop pleachref7_Split_Γ tab (fiB [.val t25,.val t41,.val t2] pleachref7_Split_fi) n [.val t25,.val t41,.val t2] [⟨t41,[true],none⟩,⟨t41,[true],none⟩] Tryz.f87 [1,1,1,1,1,1,1,0,0] [] [0,2,8,9,12,13,131] m
 ⟨[(0,SV.cv (CV.one (LV.pure t25 v80))),(2,SV.cv (CV.one (LV.pure t2 v81))),(8,SV.cv (CV.one (LV.pure t2 v82))),(9,SV.cv (CV.one (LV.pure t2 v83))),(12,SV.cv (CV.one (LV.ref (888888,12)))),(13,SV.cv (CV.one (LV.ref (888888,13))))],
  [((888888,12),Ob.row 3 t2 v84),((888888,13),Ob.row 3 t2 v85)]⟩
theorem pleachref7_Split_step1 (n m:Nat) (v1:List (List Int)) (v2:List Int) (v3:Int) (v4:Int) (v5:Int) (v6:Int):pleachref7_Split_X1 n (m+1) v1 v2 v3 v4 v5 v6=pleachref7_Split_B1 (pleachref7_Split_X2 n m n) (pleachref7_Split_X3 n n) v1 v2 v3 v4 v5 v6:=by kernel_rfl
theorem pleachref7_Split_step2 (n m1 m:Nat) (v7:List (List Int)) (v8:List Int) (v9:Int) (v10:Int) (v11:Int) (v12:Int) (v13:Int):pleachref7_Split_X2 n m1 (m+1) v7 v8 v9 v10 v11 v12 v13=pleachref7_Split_B2 (pleachref7_Split_X2 n m1 m) (pleachref7_Split_X1 n m1) v7 v8 v9 v10 v11 v12 v13:=by kernel_rfl
theorem pleachref7_Split_step3 (n m:Nat) (v14:List (List Int)) (v15:List Int) (v16:Int) (v17:Int) (v18:Int) (v19:Int) (v20:List Int) (v21:List Int):pleachref7_Split_X3 n (m+1) v14 v15 v16 v17 v18 v19 v20 v21=pleachref7_Split_B3 (pleachref7_Split_X3 n m) (pleachref7_Split_X4 n n) v14 v15 v16 v17 v18 v19 v20 v21:=by kernel_rfl
theorem pleachref7_Split_step4 (n m:Nat) (v22:List (List Int)) (v23:List Int) (v24:Int) (v25:Int) (v26:Int) (v27:Int) (v28:Bool) (v29:List Int) (v30:List Int):pleachref7_Split_X4 n (m+1) v22 v23 v24 v25 v26 v27 v28 v29 v30=pleachref7_Split_B4 (pleachref7_Split_X5 n m) (pleachref7_Split_X6 n n) (pleachref7_Split_X8 n n) v22 v23 v24 v25 v26 v27 v28 v29 v30:=by kernel_rfl
theorem pleachref7_Split_step5 (n m:Nat) (v35:List (List Int)) (v36:Int) (v37:Int) (v38:Int) (v39:List Int) (v40:List Int):pleachref7_Split_X5 n (m+1) v35 v36 v37 v38 v39 v40=pleachref7_Split_B5 (pleachref7_Split_X5 n m) (pleachref7_Split_X6 n n) (pleachref7_Split_X8 n n) v35 v36 v37 v38 v39 v40:=by kernel_rfl
theorem pleachref7_Split_step6 (n m:Nat) (v45:List (List Int)) (v46:Int) (v47:Int) (v48:Int) (v49:Int) (v50:Int) (v51:Bool) (v52:Bool) (v53:List Int) (v54:List Int):pleachref7_Split_X6 n (m+1) v45 v46 v47 v48 v49 v50 v51 v52 v53 v54=pleachref7_Split_B6 (pleachref7_Split_X7 n m) v45 v46 v47 v48 v49 v50 v51 v52 v53 v54:=by kernel_rfl
theorem pleachref7_Split_step7 (n m:Nat) (v59:List (List Int)) (v60:Int) (v61:Int) (v62:Int) (v63:List Int) (v64:List Int):pleachref7_Split_X7 n (m+1) v59 v60 v61 v62 v63 v64=pleachref7_Split_B7 (pleachref7_Split_X7 n m) v59 v60 v61 v62 v63 v64:=by kernel_rfl
theorem pleachref7_Split_step8 (n m:Nat) (v69:List (List Int)) (v70:Int) (v71:Int) (v72:Int) (v73:Bool) (v74:List Int) (v75:List Int):pleachref7_Split_X8 n (m+1) v69 v70 v71 v72 v73 v74 v75=pleachref7_Split_B8 (pleachref7_Split_X9 n m) v69 v70 v71 v72 v73 v74 v75:=by kernel_rfl
theorem pleachref7_Split_step9 (n m:Nat) (v80:List (List Int)) (v81:Int) (v82:Int) (v83:Int) (v84:List Int) (v85:List Int):pleachref7_Split_X9 n (m+1) v80 v81 v82 v83 v84 v85=pleachref7_Split_B9 (pleachref7_Split_X9 n m) v80 v81 v82 v83 v84 v85:=by kernel_rfl
theorem pleachref7_Split_start (n:Nat) (arr_0:List (List Int)) (x_1:List Int) (x_2:Int):evFn pleachref7_Split_Γ tab pleachref7_Split_fi n [.val t25,.val t41,.val t2] [⟨t41,[true],none⟩,⟨t41,[true],none⟩] Tryz.f87 (arr_0,x_1,x_2,())=pleachref7_Split_T (pleachref7_Split_X1 n n) arr_0 x_1 x_2:=by kernel_rfl
theorem pleachref7_Split_XL2 (n:Nat) (m1:Nat) (r1:List (List Int)→List Int→Int→Int→Int→Int→Option (((List Int) × (List Int) × Unit) × Unit)) (h1:pleachref7_Split_X1 n m1=r1):∀ m,pleachref7_Split_X2 n m1 m=pleachref7_Split_L2 n m1 r1 m
 | 0=>rfl
 | m+1=>by
  have ih:=pleachref7_Split_XL2 n m1 r1 h1 m
  funext v7 v8 v9 v10 v11 v12 v13
  rw [pleachref7_Split_step2,ih,h1]
  rfl
theorem pleachref7_Split_XL7 (n:Nat):∀ m,pleachref7_Split_X7 n m=pleachref7_Split_L7 n m
 | 0=>rfl
 | m+1=>by
  have ih:=pleachref7_Split_XL7 n m
  funext v59 v60 v61 v62 v63 v64
  rw [pleachref7_Split_step7,ih]
  rfl
theorem pleachref7_Split_XL6 (n:Nat):∀ m,pleachref7_Split_X6 n m=pleachref7_Split_L6 n m
 | 0=>rfl
 | m+1=>by
  have ih:=pleachref7_Split_XL6 n m
  funext v45 v46 v47 v48 v49 v50 v51 v52 v53 v54
  rw [pleachref7_Split_step6,pleachref7_Split_XL7 n m]
  rfl
theorem pleachref7_Split_XL9 (n:Nat):∀ m,pleachref7_Split_X9 n m=pleachref7_Split_L9 n m
 | 0=>rfl
 | m+1=>by
  have ih:=pleachref7_Split_XL9 n m
  funext v80 v81 v82 v83 v84 v85
  rw [pleachref7_Split_step9,ih]
  rfl
theorem pleachref7_Split_XL8 (n:Nat):∀ m,pleachref7_Split_X8 n m=pleachref7_Split_L8 n m
 | 0=>rfl
 | m+1=>by
  have ih:=pleachref7_Split_XL8 n m
  funext v69 v70 v71 v72 v73 v74 v75
  rw [pleachref7_Split_step8,pleachref7_Split_XL9 n m]
  rfl
theorem pleachref7_Split_XL5 (n:Nat):∀ m,pleachref7_Split_X5 n m=pleachref7_Split_L5 n m
 | 0=>rfl
 | m+1=>by
  have ih:=pleachref7_Split_XL5 n m
  funext v35 v36 v37 v38 v39 v40
  rw [pleachref7_Split_step5,pleachref7_Split_XL6 n n,pleachref7_Split_XL8 n n,ih]
  rfl
theorem pleachref7_Split_XL4 (n:Nat):∀ m,pleachref7_Split_X4 n m=pleachref7_Split_L4 n m
 | 0=>rfl
 | m+1=>by
  have ih:=pleachref7_Split_XL4 n m
  funext v22 v23 v24 v25 v26 v27 v28 v29 v30
  rw [pleachref7_Split_step4,pleachref7_Split_XL5 n m,pleachref7_Split_XL6 n n,pleachref7_Split_XL8 n n]
  rfl
theorem pleachref7_Split_XL3 (n:Nat):∀ m,pleachref7_Split_X3 n m=pleachref7_Split_L3 n m
 | 0=>rfl
 | m+1=>by
  have ih:=pleachref7_Split_XL3 n m
  funext v14 v15 v16 v17 v18 v19 v20 v21
  rw [pleachref7_Split_step3,pleachref7_Split_XL4 n n,ih]
  rfl
theorem pleachref7_Split_XL1 (n:Nat):∀ m,pleachref7_Split_X1 n m=pleachref7_Split_L1 n m
 | 0=>rfl
 | m+1=>by
  have ih:=pleachref7_Split_XL1 n m
  funext v1 v2 v3 v4 v5 v6
  rw [pleachref7_Split_step1,pleachref7_Split_XL2 n m _ ih n,pleachref7_Split_XL3 n n]
  rfl
noncomputable def pleachref7_Split_n (n:Nat) (arr_0:List (List Int)) (x_1:List Int) (x_2:Int):Option (((List Int) × (List Int) × Unit) × Unit):=pleachref7_Split_T (pleachref7_Split_L1 n n) arr_0 x_1 x_2
noncomputable def pleachref7_Split (arr_0:List (List Int)) (x_1:List Int) (x_2:Int):Option (((List Int) × (List Int) × Unit) × Unit):=pleachref7_Split_n 1099511627776 arr_0 x_1 x_2
theorem pleachref7_Split_eq (n:Nat) (arr_0:List (List Int)) (x_1:List Int) (x_2:Int):evFn pleachref7_Split_Γ tab pleachref7_Split_fi n [.val t25,.val t41,.val t2] [⟨t41,[true],none⟩,⟨t41,[true],none⟩] Tryz.f87 (arr_0,x_1,x_2,())=pleachref7_Split_n n arr_0 x_1 x_2:=by
  rw [pleachref7_Split_start,pleachref7_Split_XL1 n n]
  rfl
noncomputable def pleachref7_Split_e:Ent:=⟨[.val t25,.val t41,.val t2],[⟨t41,[true],none⟩,⟨t41,[true],none⟩],fun x=>pleachref7_Split x.1 x.2.1 x.2.2.1⟩
theorem pleachref7_Split_good:Good tab.ty Tryz.prog 87 pleachref7_Split_e:=by
  refine fn_good (Γ:=pleachref7_Split_Γ) (fi:=pleachref7_Split_fi) (n:=1099511627776) follows (gcons pleachref7_Near_good (gcons pleachref7_Rising_good (gcons pleachref7_without_good gnil))) tabok Tryz.func87 (by kernel_rfl) (by kernel_rfl) (fun x r h=>?_)
  obtain ⟨arr_0,x_1,x_2,_u⟩:=x
  exact (pleachref7_Split_eq 1099511627776 arr_0 x_1 x_2).trans h
noncomputable def pleachref7_parted_Γ:Ctx:=[(62,pleachref7_Of_e),(87,pleachref7_Split_e)]
def pleachref7_parted_fi:Fi:={ keep:=[],vty:=[],vals:=[],live:=[(0,[0,1,2,3]),(1,[0,1,2,9,10]),(2,[0,1,2,9,10,11]),(3,[8])] }
noncomputable def pleachref7_parted (d_0:List (List Int)) (cs_1:List ((List Int) × Int)) (i_2:Int) (k_3:Int):Option (((List ((List Int) × Int)) × Unit) × Unit):=
 bif decide (0≤i_2)&&decide (i_2<(cs_1.length:Int)) then
  Option.bind (pleachref7_Split d_0 ((List.getD cs_1 i_2.toNat ([],0)).1) k_3) fun (r1:((List Int) × (List Int) × Unit) × Unit)=>
  bif decide (0≤i_2)&&decide (i_2≤(cs_1.length:Int)) then
   bif Nat.ble (0+(List.drop 0 (List.take i_2.toNat cs_1)).length) 1073741824 then
    Option.bind (pleachref7_Of d_0 r1.1.1) fun (r2:(((List Int) × Int) × Unit) × Unit)=>
    Option.bind (pleachref7_Of d_0 r1.1.2.1) fun (r3:(((List Int) × Int) × Unit) × Unit)=>
    bif Nat.ble (([]++(List.drop 0 (List.take i_2.toNat cs_1))).length+2) 1073741824 then
     bif (decide (0≤IntKind.wrap .i64 (i_2+1))&&decide (IntKind.wrap .i64 (i_2+1)≤(cs_1.length:Int)))&&decide ((cs_1.length:Int)≤(cs_1.length:Int)) then
      bif Nat.ble ((([]++(List.drop 0 (List.take i_2.toNat cs_1)))++[r2.1.1,r3.1.1]).length+(List.drop ((IntKind.wrap .i64 (i_2+1)).toNat) (List.take ((cs_1.length:Int).toNat) cs_1)).length) 1073741824 then
       some (((([]++(List.drop 0 (List.take i_2.toNat cs_1)))++[r2.1.1,r3.1.1])++(List.drop ((IntKind.wrap .i64 (i_2+1)).toNat) (List.take ((cs_1.length:Int).toNat) cs_1)),()),())
      else none
     else none
    else none
   else none
  else none
 else none
theorem pleachref7_parted_eq (d_0:List (List Int)) (cs_1:List ((List Int) × Int)) (i_2:Int) (k_3:Int):evFn pleachref7_parted_Γ tab pleachref7_parted_fi 1 [.val t25,.val t40,.val t2,.val t2] [⟨t40,[true],none⟩] Tryz.f64 (d_0,cs_1,i_2,k_3,())=pleachref7_parted d_0 cs_1 i_2 k_3:=by kernel_rfl
noncomputable def pleachref7_parted_e:Ent:=⟨[.val t25,.val t40,.val t2,.val t2],[⟨t40,[true],none⟩],fun x=>pleachref7_parted x.1 x.2.1 x.2.2.1 x.2.2.2.1⟩
theorem pleachref7_parted_good:Good tab.ty Tryz.prog 64 pleachref7_parted_e:=by
  refine fn_good (Γ:=pleachref7_parted_Γ) (fi:=pleachref7_parted_fi) (n:=1) follows (gcons pleachref7_Of_good (gcons pleachref7_Split_good gnil)) tabok Tryz.func64 (by kernel_rfl) (by kernel_rfl) (fun x r h=>?_)
  obtain ⟨d_0,cs_1,i_2,k_3,_u⟩:=x
  exact (pleachref7_parted_eq d_0 cs_1 i_2 k_3).trans h
noncomputable def pleachref7_JoinClus_Γ:Ctx:=[(31,pleachref7_Home_e),(62,pleachref7_Of_e),(63,pleachref7_Rising_e),(64,pleachref7_parted_e)]
def pleachref7_JoinClus_fi:Fi:={ keep:=[],vty:=[],vals:=[],live:=[(0,[0,1,2,3,4,26,27,28,29,32,33,34,35]),(1,[0,1,2,3,4,11,26,27,28,29,32,33,34,35]),(2,[0,1,2,3,4,11,17,26,27,28,29,32,33,34,35]),(3,[10]),(4,[0,1,2,3,4,11,36]),(5,[10]),(6,[0,2,4,11]),(7,[0,2,4,11,63]),(8,[10]),(9,[10])] }
noncomputable def pleachref7_JoinClus (d_0:List (List Int)) (cs_1:List ((List Int) × Int)) (at_2:Int) (id_3:Int) (k_4:Int):Option (((List ((List Int) × Int)) × Unit) × Unit):=
 bif Nat.ble (0+cs_1.length) 1073741824 then
  bif (cs_1.length:Int)==0 then
   Option.bind (pleachref7_Of d_0 [id_3]) fun (r1:(((List Int) × Int) × Unit) × Unit)=>
   some (([r1.1.1],()),())
  else
  bif decide (at_2<0) then
   some (([]++cs_1,()),())
  else
  bif decide (at_2 ≥ (cs_1.length:Int)) then
   some (([]++cs_1,()),())
  else
   Option.bind (pleachref7_Home cs_1 id_3) fun (r2:(Int × Unit) × Unit)=>
   bif decide (r2.1.1 ≥ 0) then
    some (([]++cs_1,()),())
   else
   bif decide (0≤at_2)&&decide (at_2<(cs_1.length:Int)) then
    bif Nat.ble (0+((List.getD cs_1 at_2.toNat ([],0)).1).length) 1073741824 then
     bif Nat.ble (([]++((List.getD cs_1 at_2.toNat ([],0)).1)).length+1) 1073741824 then
      Option.bind (pleachref7_Rising (([]++((List.getD cs_1 at_2.toNat ([],0)).1))++[id_3])) fun (r3:((List Int) × Unit) × Unit)=>
      Option.bind (pleachref7_Of d_0 r3.1.1) fun (r4:(((List Int) × Int) × Unit) × Unit)=>
      bif decide (0≤at_2)&&decide (at_2<(([]++cs_1).length:Int)) then
       bif decide (0≤at_2)&&decide (at_2<(([]++cs_1).length:Int)) then
        bif decide (0≤at_2)&&decide (at_2<((List.set ([]++cs_1) at_2.toNat r4.1.1).length:Int)) then
         bif decide (0≤at_2)&&decide (at_2<((List.set ([]++cs_1) at_2.toNat r4.1.1).length:Int)) then
          bif decide ((((List.getD (List.set ([]++cs_1) at_2.toNat r4.1.1) at_2.toNat ([],0)).1).length:Int)>IntKind.wrap .i64 ((IntKind.wrap .i64 (3*k_4)) - 1)) then
           Option.bind (pleachref7_parted d_0 (List.set ([]++cs_1) at_2.toNat r4.1.1) at_2 k_4) fun (r5:((List ((List Int) × Int)) × Unit) × Unit)=>
           some ((r5.1.1,()),())
          else
           some ((List.set ([]++cs_1) at_2.toNat r4.1.1,()),())
         else none
        else none
       else none
      else none
     else none
    else none
   else none
 else none
theorem pleachref7_JoinClus_eq (d_0:List (List Int)) (cs_1:List ((List Int) × Int)) (at_2:Int) (id_3:Int) (k_4:Int):evFn pleachref7_JoinClus_Γ tab pleachref7_JoinClus_fi 1 [.val t25,.val t40,.val t2,.val t2,.val t2] [⟨t40,[true],none⟩] Tryz.f34 (d_0,cs_1,at_2,id_3,k_4,())=pleachref7_JoinClus d_0 cs_1 at_2 id_3 k_4:=by kernel_rfl
noncomputable def pleachref7_JoinClus_e:Ent:=⟨[.val t25,.val t40,.val t2,.val t2,.val t2],[⟨t40,[true],none⟩],fun x=>pleachref7_JoinClus x.1 x.2.1 x.2.2.1 x.2.2.2.1 x.2.2.2.2.1⟩
theorem pleachref7_JoinClus_good:Good tab.ty Tryz.prog 34 pleachref7_JoinClus_e:=by
  refine fn_good (Γ:=pleachref7_JoinClus_Γ) (fi:=pleachref7_JoinClus_fi) (n:=1) follows (gcons pleachref7_Home_good (gcons pleachref7_Of_good (gcons pleachref7_Rising_good (gcons pleachref7_parted_good gnil)))) tabok Tryz.func34 (by kernel_rfl) (by kernel_rfl) (fun x r h=>?_)
  obtain ⟨d_0,cs_1,at_2,id_3,k_4,_u⟩:=x
  exact (pleachref7_JoinClus_eq d_0 cs_1 at_2 id_3 k_4).trans h
noncomputable def pleachref7_leaders_Γ:Ctx:=[(63,pleachref7_Rising_e)]
def pleachref7_leaders_fi:Fi:={ keep:=[],vty:=[(3,41)],vals:=[],live:=[(0,[0]),(1,[0,3]),(2,[0,3,4]),(3,[0,3,4,8]),(4,[0,3,4]),(5,[0,3,4]),(6,[2])] }
noncomputable def pleachref7_leaders_B1 (L1:(List ((List Int) × Int))→Int→List Int→Option (((List Int) × Unit) × Unit)) (v1:List ((List Int) × Int)) (v2:Int) (v3:List Int):Option (((List Int) × Unit) × Unit):=
 bif decide (v2<(v1.length:Int)) then
  bif decide (0≤v2)&&decide (v2<(v1.length:Int)) then
   bif Nat.ble (v3.length+1) 1073741824 then
    L1 v1 (IntKind.wrap .i64 (v2+1)) (v3++[(List.getD v1 v2.toNat ([],0)).2])
   else none
  else none
 else
  Option.bind (pleachref7_Rising v3) fun (r4:((List Int) × Unit) × Unit)=>
  some ((r4.1.1,()),())
noncomputable def pleachref7_leaders_T (L1:(List ((List Int) × Int))→Int→List Int→Option (((List Int) × Unit) × Unit)) (cs_0:List ((List Int) × Int)):Option (((List Int) × Unit) × Unit):=
 L1 cs_0 0 []
noncomputable def pleachref7_leaders_L1 (n:Nat):Nat→(List ((List Int) × Int))→Int→List Int→Option (((List Int) × Unit) × Unit):=iter (fun _ _ _=>none) fun L=>pleachref7_leaders_B1 L
noncomputable def pleachref7_leaders_X1 (n m:Nat) (v1:List ((List Int) × Int)) (v2:Int) (v3:List Int):Option (((List Int) × Unit) × Unit):=
 atLoop pleachref7_leaders_Γ tab (fiB [.val t40] pleachref7_leaders_fi) n [.val t40] [⟨t41,[true],none⟩] Tryz.f61 [1,1,0,1,0] [] [0,3,4] m
 ⟨[(0,SV.cv (CV.one (LV.pure t40 v1))),(3,SV.cv (CV.one (LV.ref (888888,3)))),(4,SV.cv (CV.one (LV.pure t2 v2)))],
  [((888888,3),Ob.row 3 t2 v3)]⟩
theorem pleachref7_leaders_step1 (n m:Nat) (v1:List ((List Int) × Int)) (v2:Int) (v3:List Int):pleachref7_leaders_X1 n (m+1) v1 v2 v3=pleachref7_leaders_B1 (pleachref7_leaders_X1 n m) v1 v2 v3:=by kernel_rfl
theorem pleachref7_leaders_start (n:Nat) (cs_0:List ((List Int) × Int)):evFn pleachref7_leaders_Γ tab pleachref7_leaders_fi n [.val t40] [⟨t41,[true],none⟩] Tryz.f61 (cs_0,())=pleachref7_leaders_T (pleachref7_leaders_X1 n n) cs_0:=by kernel_rfl
theorem pleachref7_leaders_XL1 (n:Nat):∀ m,pleachref7_leaders_X1 n m=pleachref7_leaders_L1 n m
 | 0=>rfl
 | m+1=>by
  have ih:=pleachref7_leaders_XL1 n m
  funext v1 v2 v3
  rw [pleachref7_leaders_step1,ih]
  rfl
noncomputable def pleachref7_leaders_n (n:Nat) (cs_0:List ((List Int) × Int)):Option (((List Int) × Unit) × Unit):=pleachref7_leaders_T (pleachref7_leaders_L1 n n) cs_0
noncomputable def pleachref7_leaders (cs_0:List ((List Int) × Int)):Option (((List Int) × Unit) × Unit):=pleachref7_leaders_n 1099511627776 cs_0
theorem pleachref7_leaders_eq (n:Nat) (cs_0:List ((List Int) × Int)):evFn pleachref7_leaders_Γ tab pleachref7_leaders_fi n [.val t40] [⟨t41,[true],none⟩] Tryz.f61 (cs_0,())=pleachref7_leaders_n n cs_0:=by
  rw [pleachref7_leaders_start,pleachref7_leaders_XL1 n n]
  rfl
noncomputable def pleachref7_leaders_e:Ent:=⟨[.val t40],[⟨t41,[true],none⟩],fun x=>pleachref7_leaders x.1⟩
theorem pleachref7_leaders_good:Good tab.ty Tryz.prog 61 pleachref7_leaders_e:=by
  refine fn_good (Γ:=pleachref7_leaders_Γ) (fi:=pleachref7_leaders_fi) (n:=1099511627776) follows (gcons pleachref7_Rising_good gnil) tabok Tryz.func61 (by kernel_rfl) (by kernel_rfl) (fun x r h=>?_)
  obtain ⟨cs_0,_u⟩:=x
  exact (pleachref7_leaders_eq 1099511627776 cs_0).trans h
noncomputable def pleachref7_Group_Γ:Ctx:=[(62,pleachref7_Of_e),(64,pleachref7_parted_e)]
def pleachref7_Group_fi:Fi:={ keep:=[],vty:=[],vals:=[],live:=[(0,[0,1,2]),(1,[0,1,2,11]),(2,[6]),(3,[0,2,7]),(4,[0,2,7,8]),(5,[0,2,7,8,19]),(6,[0,2,7,8]),(7,[0,2,7,8,31]),(8,[0,2,7,8]),(9,[6])] }
noncomputable def pleachref7_Group_B1 (L2:List (List Int)→Int→Int→Bool→(List ((List Int) × Int))→Option (((List ((List Int) × Int)) × Unit) × Unit)) (v2:List (List Int)) (v3:Int) (v4:Int) (v5:List ((List Int) × Int)):Option (((List ((List Int) × Int)) × Unit) × Unit):=
 bif decide (v4<(v5.length:Int)) then
  L2 v2 v3 v4 (decide (v4<(v5.length:Int))) v5
 else
  some ((v5,()),())
noncomputable def pleachref7_Group_B2 (L3:List (List Int)→Int→Int→(List ((List Int) × Int))→Option (((List ((List Int) × Int)) × Unit) × Unit)) (L1:List (List Int)→Int→Int→(List ((List Int) × Int))→Option (((List ((List Int) × Int)) × Unit) × Unit)) (v6:List (List Int)) (v7:Int) (v8:Int) (v9:Bool) (v10:List ((List Int) × Int)):Option (((List ((List Int) × Int)) × Unit) × Unit):=
 bif decide (0≤v8)&&decide (v8<(v10.length:Int)) then
  bif decide (0≤v8)&&decide (v8<(v10.length:Int)) then
   bif decide ((((List.getD v10 v8.toNat ([],0)).1).length:Int)>IntKind.wrap .i64 ((IntKind.wrap .i64 (3*v7)) - 1)) then
    Option.bind (pleachref7_parted v6 v10 v8 v7) fun (r11:((List ((List Int) × Int)) × Unit) × Unit)=>
    L3 v6 v7 v8 r11.1.1
   else
    L1 v6 v7 (IntKind.wrap .i64 (v8+1)) v10
  else none
 else none
noncomputable def pleachref7_Group_B3 (L3:List (List Int)→Int→Int→(List ((List Int) × Int))→Option (((List ((List Int) × Int)) × Unit) × Unit)) (L1:List (List Int)→Int→Int→(List ((List Int) × Int))→Option (((List ((List Int) × Int)) × Unit) × Unit)) (v12:List (List Int)) (v13:Int) (v14:Int) (v15:List ((List Int) × Int)):Option (((List ((List Int) × Int)) × Unit) × Unit):=
 bif decide (0≤v14)&&decide (v14<(v15.length:Int)) then
  bif decide (0≤v14)&&decide (v14<(v15.length:Int)) then
   bif decide ((((List.getD v15 v14.toNat ([],0)).1).length:Int)>IntKind.wrap .i64 ((IntKind.wrap .i64 (3*v13)) - 1)) then
    Option.bind (pleachref7_parted v12 v15 v14 v13) fun (r16:((List ((List Int) × Int)) × Unit) × Unit)=>
    L3 v12 v13 v14 r16.1.1
   else
    L1 v12 v13 (IntKind.wrap .i64 (v14+1)) v15
  else none
 else none
noncomputable def pleachref7_Group_T (L1:List (List Int)→Int→Int→(List ((List Int) × Int))→Option (((List ((List Int) × Int)) × Unit) × Unit)) (d_0:List (List Int)) (l_1:List Int) (k_2:Int):Option (((List ((List Int) × Int)) × Unit) × Unit):=
 bif (l_1.length:Int)==0 then
  some (([],()),())
 else
  Option.bind (pleachref7_Of d_0 l_1) fun (r1:(((List Int) × Int) × Unit) × Unit)=>
  L1 d_0 k_2 0 [r1.1.1]
noncomputable def pleachref7_Group_L3 (n:Nat) (m1:Nat) (r1:List (List Int)→Int→Int→(List ((List Int) × Int))→Option (((List ((List Int) × Int)) × Unit) × Unit)):Nat→List (List Int)→Int→Int→(List ((List Int) × Int))→Option (((List ((List Int) × Int)) × Unit) × Unit):=iter (fun _ _ _ _=>none) fun L=>pleachref7_Group_B3 L r1
noncomputable def pleachref7_Group_L2 (n:Nat) (m1:Nat) (r1:List (List Int)→Int→Int→(List ((List Int) × Int))→Option (((List ((List Int) × Int)) × Unit) × Unit)):Nat→List (List Int)→Int→Int→Bool→(List ((List Int) × Int))→Option (((List ((List Int) × Int)) × Unit) × Unit):=iterN (fun _ _ _ _ _=>none) fun m L=>pleachref7_Group_B2 (pleachref7_Group_L3 n m1 r1 m) r1
noncomputable def pleachref7_Group_L1 (n:Nat):Nat→List (List Int)→Int→Int→(List ((List Int) × Int))→Option (((List ((List Int) × Int)) × Unit) × Unit):=iterN (fun _ _ _ _=>none) fun m L=>pleachref7_Group_B1 (pleachref7_Group_L2 n m L n)
noncomputable def pleachref7_Group_X1 (n m:Nat) (v2:List (List Int)) (v3:Int) (v4:Int) (v5:List ((List Int) × Int)):Option (((List ((List Int) × Int)) × Unit) × Unit):=
 atLoop pleachref7_Group_Γ tab (fiB [.val t25,.val t41,.val t2] pleachref7_Group_fi) n [.val t25,.val t41,.val t2] [⟨t40,[true],none⟩] Tryz.f60 [1,1,1,0,1,0] [] [0,2,7,8] m
 ⟨[(0,SV.cv (CV.one (LV.pure t25 v2))),(2,SV.cv (CV.one (LV.pure t2 v3))),(7,SV.cv (CV.one (LV.ref (888888,7)))),(8,SV.cv (CV.one (LV.pure t2 v4)))],
  [((888888,7),Ob.row 43 t42 v5)]⟩
noncomputable def pleachref7_Group_X2 (n m1 m:Nat) (v6:List (List Int)) (v7:Int) (v8:Int) (v9:Bool) (v10:List ((List Int) × Int)):Option (((List ((List Int) × Int)) × Unit) × Unit):=
 atLoop pleachref7_Group_Γ tab (fiB [.val t25,.val t41,.val t2] pleachref7_Group_fi) n [.val t25,.val t41,.val t2] [⟨t40,[true],none⟩] Tryz.f60 [1,1,1,0,1,0,0,1,0,0,0] [(m1,[0,2,7,8])] [0,2,7,8,19] m
 ⟨[(0,SV.cv (CV.one (LV.pure t25 v6))),(2,SV.cv (CV.one (LV.pure t2 v7))),(7,SV.cv (CV.one (LV.ref (888888,7)))),(8,SV.cv (CV.one (LV.pure t2 v8))),(19,SV.cv (CV.one (LV.pure t4 v9)))],
  [((888888,7),Ob.row 43 t42 v10)]⟩
noncomputable def pleachref7_Group_X3 (n m1 m:Nat) (v12:List (List Int)) (v13:Int) (v14:Int) (v15:List ((List Int) × Int)):Option (((List ((List Int) × Int)) × Unit) × Unit):=
 atLoop pleachref7_Group_Γ tab (fiB [.val t25,.val t41,.val t2] pleachref7_Group_fi) n [.val t25,.val t41,.val t2] [⟨t40,[true],none⟩] Tryz.f60 [1,1,1,0,1,0,0,1,0,0,0] [(m1,[0,2,7,8])] [0,2,7,8,19] m
 ⟨[(0,SV.cv (CV.one (LV.pure t25 v12))),(2,SV.cv (CV.one (LV.pure t2 v13))),(7,SV.cv (CV.one (LV.ref (888888,7)))),(8,SV.cv (CV.one (LV.pure t2 v14)))],
  [((888888,7),Ob.row 43 t42 v15)]⟩
theorem pleachref7_Group_step1 (n m:Nat) (v2:List (List Int)) (v3:Int) (v4:Int) (v5:List ((List Int) × Int)):pleachref7_Group_X1 n (m+1) v2 v3 v4 v5=pleachref7_Group_B1 (pleachref7_Group_X2 n m n) v2 v3 v4 v5:=by kernel_rfl
theorem pleachref7_Group_step2 (n m1 m:Nat) (v6:List (List Int)) (v7:Int) (v8:Int) (v9:Bool) (v10:List ((List Int) × Int)):pleachref7_Group_X2 n m1 (m+1) v6 v7 v8 v9 v10=pleachref7_Group_B2 (pleachref7_Group_X3 n m1 m) (pleachref7_Group_X1 n m1) v6 v7 v8 v9 v10:=by kernel_rfl
theorem pleachref7_Group_step3 (n m1 m:Nat) (v12:List (List Int)) (v13:Int) (v14:Int) (v15:List ((List Int) × Int)):pleachref7_Group_X3 n m1 (m+1) v12 v13 v14 v15=pleachref7_Group_B3 (pleachref7_Group_X3 n m1 m) (pleachref7_Group_X1 n m1) v12 v13 v14 v15:=by kernel_rfl
theorem pleachref7_Group_start (n:Nat) (d_0:List (List Int)) (l_1:List Int) (k_2:Int):evFn pleachref7_Group_Γ tab pleachref7_Group_fi n [.val t25,.val t41,.val t2] [⟨t40,[true],none⟩] Tryz.f60 (d_0,l_1,k_2,())=pleachref7_Group_T (pleachref7_Group_X1 n n) d_0 l_1 k_2:=by kernel_rfl
theorem pleachref7_Group_XL3 (n:Nat) (m1:Nat) (r1:List (List Int)→Int→Int→(List ((List Int) × Int))→Option (((List ((List Int) × Int)) × Unit) × Unit)) (h1:pleachref7_Group_X1 n m1=r1):∀ m,pleachref7_Group_X3 n m1 m=pleachref7_Group_L3 n m1 r1 m
 | 0=>rfl
 | m+1=>by
  have ih:=pleachref7_Group_XL3 n m1 r1 h1 m
  funext v12 v13 v14 v15
  rw [pleachref7_Group_step3,ih,h1]
  rfl
theorem pleachref7_Group_XL2 (n:Nat) (m1:Nat) (r1:List (List Int)→Int→Int→(List ((List Int) × Int))→Option (((List ((List Int) × Int)) × Unit) × Unit)) (h1:pleachref7_Group_X1 n m1=r1):∀ m,pleachref7_Group_X2 n m1 m=pleachref7_Group_L2 n m1 r1 m
 | 0=>rfl
 | m+1=>by
  have ih:=pleachref7_Group_XL2 n m1 r1 h1 m
  funext v6 v7 v8 v9 v10
  rw [pleachref7_Group_step2,pleachref7_Group_XL3 n m1 r1 h1 m,h1]
  rfl
theorem pleachref7_Group_XL1 (n:Nat):∀ m,pleachref7_Group_X1 n m=pleachref7_Group_L1 n m
 | 0=>rfl
 | m+1=>by
  have ih:=pleachref7_Group_XL1 n m
  funext v2 v3 v4 v5
  rw [pleachref7_Group_step1,pleachref7_Group_XL2 n m _ ih n]
  rfl
noncomputable def pleachref7_Group_n (n:Nat) (d_0:List (List Int)) (l_1:List Int) (k_2:Int):Option (((List ((List Int) × Int)) × Unit) × Unit):=pleachref7_Group_T (pleachref7_Group_L1 n n) d_0 l_1 k_2
noncomputable def pleachref7_Group (d_0:List (List Int)) (l_1:List Int) (k_2:Int):Option (((List ((List Int) × Int)) × Unit) × Unit):=pleachref7_Group_n 1099511627776 d_0 l_1 k_2
theorem pleachref7_Group_eq (n:Nat) (d_0:List (List Int)) (l_1:List Int) (k_2:Int):evFn pleachref7_Group_Γ tab pleachref7_Group_fi n [.val t25,.val t41,.val t2] [⟨t40,[true],none⟩] Tryz.f60 (d_0,l_1,k_2,())=pleachref7_Group_n n d_0 l_1 k_2:=by
  rw [pleachref7_Group_start,pleachref7_Group_XL1 n n]
  rfl
noncomputable def pleachref7_Group_e:Ent:=⟨[.val t25,.val t41,.val t2],[⟨t40,[true],none⟩],fun x=>pleachref7_Group x.1 x.2.1 x.2.2.1⟩
theorem pleachref7_Group_good:Good tab.ty Tryz.prog 60 pleachref7_Group_e:=by
  refine fn_good (Γ:=pleachref7_Group_Γ) (fi:=pleachref7_Group_fi) (n:=1099511627776) follows (gcons pleachref7_Of_good (gcons pleachref7_parted_good gnil)) tabok Tryz.func60 (by kernel_rfl) (by kernel_rfl) (fun x r h=>?_)
  obtain ⟨d_0,l_1,k_2,_u⟩:=x
  exact (pleachref7_Group_eq 1099511627776 d_0 l_1 k_2).trans h
noncomputable def pleachref7_above_Γ:Ctx:=[(60,pleachref7_Group_e),(61,pleachref7_leaders_e)]
def pleachref7_above_fi:Fi:={ keep:=[],vty:=[],vals:=[],live:=[(0,[1,2,4]),(1,[1,2,4,5]),(2,[1,2,4,5,13]),(3,[1,2,4,5]),(4,[1,2,4,5,22]),(5,[1,2,4,5]),(6,[4])] }
noncomputable def pleachref7_above_B1 (L2:(List ((List Int) × Int))→Int→List (List Int)→(List (List ((List Int) × Int)))→Int→List (List Int)→(List (List ((List Int) × Int)))→Int→List (List Int)→(List (List ((List Int) × Int)))→Option ((Dt30 × Unit) × Unit)) (v1:List ((List Int) × Int)) (v2:Int) (v3:List (List Int)) (v4:List (List ((List Int) × Int))) (v5:Int) (v6:List (List Int)) (v7:List (List ((List Int) × Int))) (v8:Int) (v9:List (List Int)) (v10:List (List ((List Int) × Int))):Option ((Dt30 × Unit) × Unit):=
 bif decide ((v1.length:Int)>0) then
  bif Nat.ble (v10.length+1) 1073741824 then
   bif (v1.length:Int)==1 then
    some (((v8,v9,v10++[v1]),()),())
   else
    Option.bind (pleachref7_leaders v1) fun (r11:((List Int) × Unit) × Unit)=>
    Option.bind (pleachref7_Group v3 r11.1.1 v2) fun (r12:((List ((List Int) × Int)) × Unit) × Unit)=>
    L2 r12.1.1 v2 v3 v4 v5 v6 v7 v8 v9 (v10++[v1])
  else none
 else
  some (((v8,v9,v10),()),())
noncomputable def pleachref7_above_B2 (L2:(List ((List Int) × Int))→Int→List (List Int)→(List (List ((List Int) × Int)))→Int→List (List Int)→(List (List ((List Int) × Int)))→Int→List (List Int)→(List (List ((List Int) × Int)))→Option ((Dt30 × Unit) × Unit)) (v13:List ((List Int) × Int)) (v14:Int) (v15:List (List Int)) (v16:List (List ((List Int) × Int))) (v17:Int) (v18:List (List Int)) (v19:List (List ((List Int) × Int))) (v20:Int) (v21:List (List Int)) (v22:List (List ((List Int) × Int))):Option ((Dt30 × Unit) × Unit):=
 bif decide ((v13.length:Int)>0) then
  bif Nat.ble (v22.length+1) 1073741824 then
   bif (v13.length:Int)==1 then
    some (((v20,v21,v22++[v13]),()),())
   else
    Option.bind (pleachref7_leaders v13) fun (r23:((List Int) × Unit) × Unit)=>
    Option.bind (pleachref7_Group v15 r23.1.1 v14) fun (r24:((List ((List Int) × Int)) × Unit) × Unit)=>
    L2 r24.1.1 v14 v15 v16 v17 v18 v19 v20 v21 (v22++[v13])
  else none
 else
  some (((v20,v21,v22),()),())
noncomputable def pleachref7_above_T (L1:(List ((List Int) × Int))→Int→List (List Int)→(List (List ((List Int) × Int)))→Int→List (List Int)→(List (List ((List Int) × Int)))→Int→List (List Int)→(List (List ((List Int) × Int)))→Option ((Dt30 × Unit) × Unit)) (h_0:Int × (List (List Int)) × List (List ((List Int) × Int))) (low_1:List ((List Int) × Int)):Option ((Dt30 × Unit) × Unit):=
 L1 low_1 h_0.1 h_0.2.1 h_0.2.2 0 [] [] h_0.1 h_0.2.1 []
noncomputable def pleachref7_above_L2 (n:Nat):Nat→(List ((List Int) × Int))→Int→List (List Int)→(List (List ((List Int) × Int)))→Int→List (List Int)→(List (List ((List Int) × Int)))→Int→List (List Int)→(List (List ((List Int) × Int)))→Option ((Dt30 × Unit) × Unit):=iter (fun _ _ _ _ _ _ _ _ _ _=>none) fun L=>pleachref7_above_B2 L
noncomputable def pleachref7_above_L1 (n:Nat):Nat→(List ((List Int) × Int))→Int→List (List Int)→(List (List ((List Int) × Int)))→Int→List (List Int)→(List (List ((List Int) × Int)))→Int→List (List Int)→(List (List ((List Int) × Int)))→Option ((Dt30 × Unit) × Unit):=iterN (fun _ _ _ _ _ _ _ _ _ _=>none) fun m L=>pleachref7_above_B1 (pleachref7_above_L2 n m)
noncomputable def pleachref7_above_X1 (n m:Nat) (v1:List ((List Int) × Int)) (v2:Int) (v3:List (List Int)) (v4:List (List ((List Int) × Int))) (v5:Int) (v6:List (List Int)) (v7:List (List ((List Int) × Int))) (v8:Int) (v9:List (List Int)) (v10:List (List ((List Int) × Int))):Option ((Dt30 × Unit) × Unit):=
 atLoop pleachref7_above_Γ tab (fiB [.val t30,.val t40] pleachref7_above_fi) n [.val t30,.val t40] [⟨t30,[false,false,true],none⟩] Tryz.f33 [1,1,0,0] [] [1,2,4,5] m
 ⟨[(1,SV.cv (CV.one (LV.pure t40 v1))),(2,SV.cv (CV.one (LV.ptr (2,0) 0))),(4,SV.cv (CV.one (LV.ptr (4,0) 0))),(5,SV.cv (CV.one (LV.ptr (5,0) 0)))],
  [((2,0),Ob.box 31 [LV.pure t2 v2,LV.pure t25 v3,LV.pure t29 v4]),((4,0),Ob.box 31 [LV.pure t2 v5,LV.ref (4,2),LV.ref (4,3)]),((4,2),Ob.row 41 t41 v6),((4,3),Ob.row 40 t40 v7),((5,0),Ob.box 31 [LV.pure t2 v8,LV.pure t25 v9,LV.ref (5,3)]),((5,3),Ob.row 40 t40 v10)]⟩
noncomputable def pleachref7_above_X2 (n m:Nat) (v13:List ((List Int) × Int)) (v14:Int) (v15:List (List Int)) (v16:List (List ((List Int) × Int))) (v17:Int) (v18:List (List Int)) (v19:List (List ((List Int) × Int))) (v20:Int) (v21:List (List Int)) (v22:List (List ((List Int) × Int))):Option ((Dt30 × Unit) × Unit):=
 atLoop pleachref7_above_Γ tab (fiB [.val t30,.val t40] pleachref7_above_fi) n [.val t30,.val t40] [⟨t30,[false,false,true],none⟩] Tryz.f33 [1,1,0,0] [] [1,2,4,5] m
 ⟨[(1,SV.cv (CV.one (LV.ref (888888,1)))),(2,SV.cv (CV.one (LV.ptr (2,0) 0))),(4,SV.cv (CV.one (LV.ptr (4,0) 0))),(5,SV.cv (CV.one (LV.ptr (5,0) 0)))],
  [((888888,1),Ob.row 43 t42 v13),((2,0),Ob.box 31 [LV.pure t2 v14,LV.pure t25 v15,LV.pure t29 v16]),((4,0),Ob.box 31 [LV.pure t2 v17,LV.ref (4,2),LV.ref (4,3)]),((4,2),Ob.row 41 t41 v18),((4,3),Ob.row 40 t40 v19),((5,0),Ob.box 31 [LV.pure t2 v20,LV.pure t25 v21,LV.ref (5,3)]),((5,3),Ob.row 40 t40 v22)]⟩
theorem pleachref7_above_step1 (n m:Nat) (v1:List ((List Int) × Int)) (v2:Int) (v3:List (List Int)) (v4:List (List ((List Int) × Int))) (v5:Int) (v6:List (List Int)) (v7:List (List ((List Int) × Int))) (v8:Int) (v9:List (List Int)) (v10:List (List ((List Int) × Int))):pleachref7_above_X1 n (m+1) v1 v2 v3 v4 v5 v6 v7 v8 v9 v10=pleachref7_above_B1 (pleachref7_above_X2 n m) v1 v2 v3 v4 v5 v6 v7 v8 v9 v10:=by kernel_rfl
theorem pleachref7_above_step2 (n m:Nat) (v13:List ((List Int) × Int)) (v14:Int) (v15:List (List Int)) (v16:List (List ((List Int) × Int))) (v17:Int) (v18:List (List Int)) (v19:List (List ((List Int) × Int))) (v20:Int) (v21:List (List Int)) (v22:List (List ((List Int) × Int))):pleachref7_above_X2 n (m+1) v13 v14 v15 v16 v17 v18 v19 v20 v21 v22=pleachref7_above_B2 (pleachref7_above_X2 n m) v13 v14 v15 v16 v17 v18 v19 v20 v21 v22:=by kernel_rfl
theorem pleachref7_above_start (n:Nat) (h_0:Int × (List (List Int)) × List (List ((List Int) × Int))) (low_1:List ((List Int) × Int)):evFn pleachref7_above_Γ tab pleachref7_above_fi n [.val t30,.val t40] [⟨t30,[false,false,true],none⟩] Tryz.f33 (h_0,low_1,())=pleachref7_above_T (pleachref7_above_X1 n n) h_0 low_1:=by kernel_rfl
theorem pleachref7_above_XL2 (n:Nat):∀ m,pleachref7_above_X2 n m=pleachref7_above_L2 n m
 | 0=>rfl
 | m+1=>by
  have ih:=pleachref7_above_XL2 n m
  funext v13 v14 v15 v16 v17 v18 v19 v20 v21 v22
  rw [pleachref7_above_step2,ih]
  rfl
theorem pleachref7_above_XL1 (n:Nat):∀ m,pleachref7_above_X1 n m=pleachref7_above_L1 n m
 | 0=>rfl
 | m+1=>by
  have ih:=pleachref7_above_XL1 n m
  funext v1 v2 v3 v4 v5 v6 v7 v8 v9 v10
  rw [pleachref7_above_step1,pleachref7_above_XL2 n m]
  rfl
noncomputable def pleachref7_above_n (n:Nat) (h_0:Int × (List (List Int)) × List (List ((List Int) × Int))) (low_1:List ((List Int) × Int)):Option ((Dt30 × Unit) × Unit):=pleachref7_above_T (pleachref7_above_L1 n n) h_0 low_1
noncomputable def pleachref7_above (h_0:Int × (List (List Int)) × List (List ((List Int) × Int))) (low_1:List ((List Int) × Int)):Option ((Dt30 × Unit) × Unit):=pleachref7_above_n 1099511627776 h_0 low_1
theorem pleachref7_above_eq (n:Nat) (h_0:Int × (List (List Int)) × List (List ((List Int) × Int))) (low_1:List ((List Int) × Int)):evFn pleachref7_above_Γ tab pleachref7_above_fi n [.val t30,.val t40] [⟨t30,[false,false,true],none⟩] Tryz.f33 (h_0,low_1,())=pleachref7_above_n n h_0 low_1:=by
  rw [pleachref7_above_start,pleachref7_above_XL1 n n]
  rfl
noncomputable def pleachref7_above_e:Ent:=⟨[.val t30,.val t40],[⟨t30,[false,false,true],none⟩],fun x=>pleachref7_above x.1 x.2.1⟩
theorem pleachref7_above_good:Good tab.ty Tryz.prog 33 pleachref7_above_e:=by
  refine fn_good (Γ:=pleachref7_above_Γ) (fi:=pleachref7_above_fi) (n:=1099511627776) follows (gcons pleachref7_Group_good (gcons pleachref7_leaders_good gnil)) tabok Tryz.func33 (by kernel_rfl) (by kernel_rfl) (fun x r h=>?_)
  obtain ⟨h_0,low_1,_u⟩:=x
  exact (pleachref7_above_eq 1099511627776 h_0 low_1).trans h
noncomputable def pleachref7_Join_Γ:Ctx:=[(19,pleachref1_MayDist_e),(31,pleachref7_Home_e),(32,pleachref7_Near_e),(33,pleachref7_above_e),(34,pleachref7_JoinClus_e)]
def pleachref7_Join_fi:Fi:={ keep:=[],vty:=[],vals:=[],live:=[(0,[1,2,4,14,15,18,19,22,23,24,25,26,27,28,29,30,31,32,33,34]),(1,[1,2,4,35]),(2,[4]),(3,[1,2,4,5]),(4,[1,2,4,5,6]),(5,[1,2,4,5,6,42]),(6,[1,2,4,5,6]),(7,[1,2,4,6,7]),(8,[1,2,4,5,6]),(9,[1,2,4,5,8]),(10,[1,2,4,5,8,69]),(11,[1,2,4,5,8]),(12,[4])] }
noncomputable def pleachref7_Join_B1 (L1:Int→Int→Int→Int→List (List Int)→(List (List ((List Int) × Int)))→Int→List (List Int)→(List (List ((List Int) × Int)))→Option ((Dt30 × Unit) × Unit)) (v3:Int) (v4:Int) (v5:Int) (v6:Int) (v7:List (List Int)) (v8:List (List ((List Int) × Int))) (v9:Int) (v10:List (List Int)) (v11:List (List ((List Int) × Int))):Option ((Dt30 × Unit) × Unit):=
 bif decide (v5>0) then
  bif decide (0≤v5)&&decide (v5<(v8.length:Int)) then
   bif decide (0≤v4)&&decide (v4<((List.getD v8 v5.toNat []).length:Int)) then
    Option.bind (pleachref7_Near v7 v3 ((List.getD (List.getD v8 v5.toNat []) v4.toNat ([],0)).1)) fun (r12:(Int × Unit) × Unit)=>
    bif decide (0≤IntKind.wrap .i64 (v5 - 1))&&decide (IntKind.wrap .i64 (v5 - 1)<(v8.length:Int)) then
     Option.bind (pleachref7_Home (List.getD v8 ((IntKind.wrap .i64 (v5 - 1)).toNat) []) r12.1.1) fun (r13:(Int × Unit) × Unit)=>
     L1 v3 r13.1.1 (IntKind.wrap .i64 (v5 - 1)) v6 v7 v8 v9 v10 v11
    else none
   else none
  else none
 else
 bif decide ((v8.length:Int)>0) then
  bif decide (0<(v8.length:Int)) then
   Option.bind (pleachref7_JoinClus v7 (List.getD v8 0 []) v4 v3 v6) fun (r14:((List ((List Int) × Int)) × Unit) × Unit)=>
   Option.bind (pleachref7_above (v6,v7,v8) r14.1.1) fun (r15:(Dt30 × Unit) × Unit)=>
   some ((r15.1.1,()),())
  else none
 else
  Option.bind (pleachref7_JoinClus v7 [] v4 v3 v6) fun (r16:((List ((List Int) × Int)) × Unit) × Unit)=>
  Option.bind (pleachref7_above (v6,v7,v8) r16.1.1) fun (r17:(Dt30 × Unit) × Unit)=>
  some ((r17.1.1,()),())
noncomputable def pleachref7_Join_T (L1:Int→Int→Int→Int→List (List Int)→(List (List ((List Int) × Int)))→Int→List (List Int)→(List (List ((List Int) × Int)))→Option ((Dt30 × Unit) × Unit)) (h_0:Int × (List (List Int)) × List (List ((List Int) × Int))) (id_1:Int):Option ((Dt30 × Unit) × Unit):=
 Option.bind (pleachref1_MayDist h_0.2.1) fun (r1:(Bool × Unit) × Unit)=>
 bif !r1.1.1 then
  some ((h_0,()),())
 else
 bif decide (id_1<1) then
  some ((h_0,()),())
 else
 bif decide (id_1>8) then
  some ((h_0,()),())
 else
 bif decide ((h_0.2.2.length:Int)>0) then
  bif decide (0<(h_0.2.2.length:Int)) then
   Option.bind (pleachref7_Home (List.getD h_0.2.2 0 []) id_1) fun (r2:(Int × Unit) × Unit)=>
   bif decide (r2.1.1 ≥ 0) then
    some ((h_0,()),())
   else
    L1 id_1 0 (IntKind.wrap .i64 ((h_0.2.2.length:Int) - 1)) h_0.1 h_0.2.1 h_0.2.2 0 [] []
  else none
 else
  L1 id_1 0 (IntKind.wrap .i64 ((h_0.2.2.length:Int) - 1)) h_0.1 h_0.2.1 h_0.2.2 0 [] []
noncomputable def pleachref7_Join_L1 (n:Nat):Nat→Int→Int→Int→Int→List (List Int)→(List (List ((List Int) × Int)))→Int→List (List Int)→(List (List ((List Int) × Int)))→Option ((Dt30 × Unit) × Unit):=iter (fun _ _ _ _ _ _ _ _ _=>none) fun L=>pleachref7_Join_B1 L
noncomputable def pleachref7_Join_X1 (n m:Nat) (v3:Int) (v4:Int) (v5:Int) (v6:Int) (v7:List (List Int)) (v8:List (List ((List Int) × Int))) (v9:Int) (v10:List (List Int)) (v11:List (List ((List Int) × Int))):Option ((Dt30 × Unit) × Unit):=
 atLoop pleachref7_Join_Γ tab (fiB [.val t30,.val t2] pleachref7_Join_fi) n [.val t30,.val t2] [⟨t30,[false,false,false],none⟩] Tryz.f12 [1,1,1,0,1,0] [] [1,2,4,5,6] m
 ⟨[(1,SV.cv (CV.one (LV.pure t2 v3))),(2,SV.cv (CV.one (LV.ptr (2,0) 0))),(4,SV.cv (CV.one (LV.ptr (4,0) 0))),(5,SV.cv (CV.one (LV.pure t2 v4))),(6,SV.cv (CV.one (LV.pure t2 v5)))],
  [((2,0),Ob.box 31 [LV.pure t2 v6,LV.pure t25 v7,LV.pure t29 v8]),((4,0),Ob.box 31 [LV.pure t2 v9,LV.ref (4,2),LV.ref (4,3)]),((4,2),Ob.row 41 t41 v10),((4,3),Ob.row 40 t40 v11)]⟩
theorem pleachref7_Join_step1 (n m:Nat) (v3:Int) (v4:Int) (v5:Int) (v6:Int) (v7:List (List Int)) (v8:List (List ((List Int) × Int))) (v9:Int) (v10:List (List Int)) (v11:List (List ((List Int) × Int))):pleachref7_Join_X1 n (m+1) v3 v4 v5 v6 v7 v8 v9 v10 v11=pleachref7_Join_B1 (pleachref7_Join_X1 n m) v3 v4 v5 v6 v7 v8 v9 v10 v11:=by kernel_rfl
theorem pleachref7_Join_start (n:Nat) (h_0:Int × (List (List Int)) × List (List ((List Int) × Int))) (id_1:Int):evFn pleachref7_Join_Γ tab pleachref7_Join_fi n [.val t30,.val t2] [⟨t30,[false,false,false],none⟩] Tryz.f12 (h_0,id_1,())=pleachref7_Join_T (pleachref7_Join_X1 n n) h_0 id_1:=by kernel_rfl
theorem pleachref7_Join_XL1 (n:Nat):∀ m,pleachref7_Join_X1 n m=pleachref7_Join_L1 n m
 | 0=>rfl
 | m+1=>by
  have ih:=pleachref7_Join_XL1 n m
  funext v3 v4 v5 v6 v7 v8 v9 v10 v11
  rw [pleachref7_Join_step1,ih]
  rfl
noncomputable def pleachref7_Join_n (n:Nat) (h_0:Int × (List (List Int)) × List (List ((List Int) × Int))) (id_1:Int):Option ((Dt30 × Unit) × Unit):=pleachref7_Join_T (pleachref7_Join_L1 n n) h_0 id_1
noncomputable def pleachref7_Join (h_0:Int × (List (List Int)) × List (List ((List Int) × Int))) (id_1:Int):Option ((Dt30 × Unit) × Unit):=pleachref7_Join_n 1099511627776 h_0 id_1
theorem pleachref7_Join_eq (n:Nat) (h_0:Int × (List (List Int)) × List (List ((List Int) × Int))) (id_1:Int):evFn pleachref7_Join_Γ tab pleachref7_Join_fi n [.val t30,.val t2] [⟨t30,[false,false,false],none⟩] Tryz.f12 (h_0,id_1,())=pleachref7_Join_n n h_0 id_1:=by
  rw [pleachref7_Join_start,pleachref7_Join_XL1 n n]
  rfl
noncomputable def pleachref7_Join_e:Ent:=⟨[.val t30,.val t2],[⟨t30,[false,false,false],none⟩],fun x=>pleachref7_Join x.1 x.2.1⟩
theorem pleachref7_Join_good:Good tab.ty Tryz.prog 12 pleachref7_Join_e:=by
  refine fn_good (Γ:=pleachref7_Join_Γ) (fi:=pleachref7_Join_fi) (n:=1099511627776) follows (gcons pleachref1_MayDist_good (gcons pleachref7_Home_good (gcons pleachref7_Near_good (gcons pleachref7_above_good (gcons pleachref7_JoinClus_good gnil))))) tabok Tryz.func12 (by kernel_rfl) (by kernel_rfl) (fun x r h=>?_)
  obtain ⟨h_0,id_1,_u⟩:=x
  exact (pleachref7_Join_eq 1099511627776 h_0 id_1).trans h
noncomputable def pleachref7_LeaveClus_Γ:Ctx:=[(36,markE),(31,pleachref7_Home_e),(32,pleachref7_Near_e),(62,pleachref7_Of_e),(63,pleachref7_Rising_e),(64,pleachref7_parted_e),(70,pleachref7_without_e)]
def pleachref7_LeaveClus_fi:Fi:={ keep:=[],vty:=[(12,41)],vals:=[],live:=[(0,[0,1,2,3,53,54,55]),(1,[0,1,2,3,9,53,54,55]),(2,[0,1,2,3,9,10,53,54,55]),(3,[0,1,2,3,9,10,22,53,54,55]),(4,[8]),(5,[0,3,9,10,11,53,54,55]),(6,[0,3,9,10,11,33,53,54,55]),(7,[8]),(8,[0,3,9,10,11,53,54,55]),(9,[0,3,9,10,11,56]),(10,[8]),(11,[0,3,9,10,11,12]),(12,[0,3,9,10,11,12,13]),(13,[0,3,9,10,11,12,13,61]),(14,[0,3,9,10,11,12,13]),(15,[0,3,9,10,11,12,13,66]),(16,[0,3,9,10,11,12,13]),(17,[0,3,9,10,11,14]),(18,[0,3,9,10,14]),(19,[0,3,9,10,14]),(20,[0,3,9,10,112]),(21,[0,3,9,10]),(22,[0,3,9,10,124]),(23,[8]),(24,[8])],melt:=[(7,1000010),(19,1000010)] }
noncomputable def pleachref7_LeaveClus_B1 (L1:List (List Int)→Int→Int→Int→(List ((List Int) × Int))→List Int→List Int→Option (((List ((List Int) × Int)) × Unit) × Unit)) (v6:List (List Int)) (v7:Int) (v8:Int) (v9:Int) (v10:List ((List Int) × Int)) (v11:List Int) (v12:List Int):Option (((List ((List Int) × Int)) × Unit) × Unit):=
 bif decide (v9<(v10.length:Int)) then
  bif v9 != v8 then
   bif decide (0≤v9)&&decide (v9<(v10.length:Int)) then
    bif decide (0≤v9)&&decide (v9<(v10.length:Int)) then
     bif Nat.ble (v12.length+1) 1073741824 then
      L1 v6 v7 v8 (IntKind.wrap .i64 (v9+1)) v10 v11 (v12++[(List.getD v10 v9.toNat ([],0)).2])
     else none
    else none
   else none
  else
   L1 v6 v7 v8 (IntKind.wrap .i64 (v9+1)) v10 v11 v12
 else
 bif decide (0≤v8)&&decide (v8<(v10.length:Int)) then
  bif decide (0≤v8)&&decide (v8<(v10.length:Int)) then
   Option.bind (pleachref7_Near v6 ((List.getD v10 v8.toNat ([],0)).2) v12) fun (r13:(Int × Unit) × Unit)=>
   Option.bind (pleachref7_Home v10 r13.1.1) fun (r14:(Int × Unit) × Unit)=>
   bif Nat.ble (0+v11.length) 1073741824 then
    bif decide (0≤r14.1.1)&&decide (r14.1.1<(v10.length:Int)) then
     bif decide (0≤r14.1.1)&&decide (r14.1.1<(v10.length:Int)) then
      bif Nat.ble (([]++v11).length+((List.getD v10 r14.1.1.toNat ([],0)).1).length) 1073741824 then
       Option.bind (pleachref7_Rising (([]++v11)++((List.getD v10 r14.1.1.toNat ([],0)).1))) fun (r15:((List Int) × Unit) × Unit)=>
       Option.bind (pleachref7_Of v6 r15.1.1) fun (r16:(((List Int) × Int) × Unit) × Unit)=>
       bif decide (0≤v8)&&decide (v8<(v10.length:Int)) then
        bif decide (0≤v8)&&decide (v8<(v10.length:Int)) then
         bif decide (0≤r14.1.1)&&decide (r14.1.1≤(((List.map some (List.set v10 v8.toNat r16.1.1)).length:Nat):Int)) then
          bif Nat.ble (0+((r14.1.1 - 0).toNat)) ((List.map some (List.set v10 v8.toNat r16.1.1)).length) then
           Option.bind (allSome (List.take ((r14.1.1 - 0).toNat) (List.drop 0 (List.map some (List.set v10 v8.toNat r16.1.1))))) fun (z17:List ((List Int) × Int))=>
           bif Nat.ble (0+z17.length) 1073741824 then
            bif (decide (0≤IntKind.wrap .i64 (r14.1.1+1))&&decide (IntKind.wrap .i64 (r14.1.1+1)≤(((List.set v10 v8.toNat r16.1.1).length:Nat):Int)))&&decide ((((List.set v10 v8.toNat r16.1.1).length:Nat):Int)≤(((List.map some (List.set v10 v8.toNat r16.1.1)).length:Nat):Int)) then
            bif Nat.ble ((0+((IntKind.wrap .i64 (r14.1.1+1)).toNat))+(((((List.set v10 v8.toNat r16.1.1).length:Nat):Int) - (IntKind.wrap .i64 (r14.1.1+1))).toNat)) ((List.map some (List.set v10 v8.toNat r16.1.1)).length) then
            Option.bind (allSome (List.take (((((List.set v10 v8.toNat r16.1.1).length:Nat):Int) - (IntKind.wrap .i64 (r14.1.1+1))).toNat) (List.drop (0+((IntKind.wrap .i64 (r14.1.1+1)).toNat)) (List.map some (List.set v10 v8.toNat r16.1.1))))) fun (z18:List ((List Int) × Int))=>
            bif Nat.ble ((([]++z17).length)+z18.length) 1073741824 then
            bif decide (r14.1.1<v8) then
            bif decide (0≤IntKind.wrap .i64 (v8 - 1))&&decide (IntKind.wrap .i64 (v8 - 1)<((([]++z17)++z18).length:Int)) then
            bif decide (0≤IntKind.wrap .i64 (v8 - 1))&&decide (IntKind.wrap .i64 (v8 - 1)<((([]++z17)++z18).length:Int)) then
            bif decide ((((List.getD (([]++z17)++z18) ((IntKind.wrap .i64 (v8 - 1)).toNat) ([],0)).1).length:Int)>IntKind.wrap .i64 ((IntKind.wrap .i64 (3*v7)) - 1)) then
            Option.bind (pleachref7_parted v6 (([]++z17)++z18) (IntKind.wrap .i64 (v8 - 1)) v7) fun (r19:((List ((List Int) × Int)) × Unit) × Unit)=>
            some ((r19.1.1,()),())
            else
            some ((([]++z17)++z18,()),())
            else none
            else none
            else
            bif decide (0≤v8)&&decide (v8<((([]++z17)++z18).length:Int)) then
            bif decide (0≤v8)&&decide (v8<((([]++z17)++z18).length:Int)) then
            bif decide ((((List.getD (([]++z17)++z18) v8.toNat ([],0)).1).length:Int)>IntKind.wrap .i64 ((IntKind.wrap .i64 (3*v7)) - 1)) then
            Option.bind (pleachref7_parted v6 (([]++z17)++z18) v8 v7) fun (r20:((List ((List Int) × Int)) × Unit) × Unit)=>
            some ((r20.1.1,()),())
            else
            some ((([]++z17)++z18,()),())
            else none
            else none
            else none
            else none
            else none
           else none
          else none
         else none
        else none
       else none
      else none
     else none
    else none
   else none
  else none
 else none
noncomputable def pleachref7_LeaveClus_T (L1:List (List Int)→Int→Int→Int→(List ((List Int) × Int))→List Int→List Int→Option (((List ((List Int) × Int)) × Unit) × Unit)) (arr_0:List (List Int)) (x_1:List ((List Int) × Int)) (x_2:Int) (x_3:Int):Option (((List ((List Int) × Int)) × Unit) × Unit):=
 Option.bind (pleachref7_Home x_1 x_2) fun (r1:(Int × Unit) × Unit)=>
 bif Nat.ble (0+x_1.length) 1073741824 then
  bif decide (r1.1.1<0) then
   some (([]++x_1,()),())
  else
  bif decide (0≤r1.1.1)&&decide (r1.1.1<(x_1.length:Int)) then
   Option.bind (pleachref7_without ((List.getD x_1 r1.1.1.toNat ([],0)).1) x_2) fun (r2:((List Int) × Unit) × Unit)=>
   bif (r2.1.1.length:Int)==0 then
    bif decide (0≤r1.1.1)&&decide (r1.1.1≤(((List.map some ([]++x_1)).length:Nat):Int)) then
     bif (decide (0≤IntKind.wrap .i64 (r1.1.1+1))&&decide (IntKind.wrap .i64 (r1.1.1+1)≤((([]++x_1).length:Nat):Int)))&&decide (((([]++x_1).length:Nat):Int)≤(((List.map some ([]++x_1)).length:Nat):Int)) then
      bif Nat.ble (0+((r1.1.1 - 0).toNat)) ((List.map some ([]++x_1)).length) then
       bif Nat.ble ((0+((IntKind.wrap .i64 (r1.1.1+1)).toNat))+((((([]++x_1).length:Nat):Int) - (IntKind.wrap .i64 (r1.1.1+1))).toNat)) ((List.map some ([]++x_1)).length) then
        Option.bind (allSome (List.take ((((([]++x_1).length:Nat):Int) - (IntKind.wrap .i64 (r1.1.1+1))).toNat) (List.drop (0+((IntKind.wrap .i64 (r1.1.1+1)).toNat)) (List.map some ([]++x_1))))) fun (z3:List ((List Int) × Int))=>
        bif Nat.ble (((r1.1.1 - 0).toNat)+z3.length) ((List.map some ([]++x_1)).length) then
         bif Nat.ble (((r1.1.1 - 0).toNat)+z3.length) ((writeAt (List.map some ([]++x_1)) ((r1.1.1 - 0).toNat) z3).length) then
          Option.bind (allSome (List.take (((r1.1.1 - 0).toNat)+z3.length) (writeAt (List.map some ([]++x_1)) ((r1.1.1 - 0).toNat) z3))) fun (z4:List ((List Int) × Int))=>
          some ((z4,()),())
         else none
        else none
       else none
      else none
     else none
    else none
   else
    Option.bind (pleachref7_Of arr_0 r2.1.1) fun (r5:(((List Int) × Int) × Unit) × Unit)=>
    bif decide (0≤r1.1.1)&&decide (r1.1.1<(([]++x_1).length:Int)) then
     bif decide (0≤r1.1.1)&&decide (r1.1.1<(([]++x_1).length:Int)) then
      bif decide ((r2.1.1.length:Int) ≥ x_3) then
       some ((List.set ([]++x_1) r1.1.1.toNat r5.1.1,()),())
      else
      bif ((List.set ([]++x_1) r1.1.1.toNat r5.1.1).length:Int)==1 then
       some ((List.set ([]++x_1) r1.1.1.toNat r5.1.1,()),())
      else
       L1 arr_0 x_3 r1.1.1 0 (List.set ([]++x_1) r1.1.1.toNat r5.1.1) r2.1.1 []
     else none
    else none
  else none
 else none
noncomputable def pleachref7_LeaveClus_L1 (n:Nat):Nat→List (List Int)→Int→Int→Int→(List ((List Int) × Int))→List Int→List Int→Option (((List ((List Int) × Int)) × Unit) × Unit):=iter (fun _ _ _ _ _ _ _=>none) fun L=>pleachref7_LeaveClus_B1 L
noncomputable def pleachref7_LeaveClus_X1 (n m:Nat) (v6:List (List Int)) (v7:Int) (v8:Int) (v9:Int) (v10:List ((List Int) × Int)) (v11:List Int) (v12:List Int):Option (((List ((List Int) × Int)) × Unit) × Unit):=
 atLoop pleachref7_LeaveClus_Γ tab (fiB [.val t25,.val t40,.val t2,.val t2] pleachref7_LeaveClus_fi) n [.val t25,.val t40,.val t2,.val t2] [⟨t40,[true],none⟩] Tryz.f36 [1,1,1,1,1,1,1,1,1,0,1,0] [] [0,3,9,10,11,12,13] m
 ⟨[(0,SV.cv (CV.one (LV.pure t25 v6))),(3,SV.cv (CV.one (LV.pure t2 v7))),(9,SV.cv (CV.one (LV.pure t2 v8))),(10,SV.cv (CV.one (LV.ref (888888,10)))),(11,SV.cv (CV.one (LV.ref (888888,11)))),(12,SV.cv (CV.one (LV.ref (888888,12)))),(13,SV.cv (CV.one (LV.pure t2 v9)))],
  [((888888,10),Ob.row 43 t42 v10),((888888,11),Ob.row 3 t2 v11),((888888,12),Ob.row 3 t2 v12)]⟩
theorem pleachref7_LeaveClus_step1 (n m:Nat) (v6:List (List Int)) (v7:Int) (v8:Int) (v9:Int) (v10:List ((List Int) × Int)) (v11:List Int) (v12:List Int):pleachref7_LeaveClus_X1 n (m+1) v6 v7 v8 v9 v10 v11 v12=pleachref7_LeaveClus_B1 (pleachref7_LeaveClus_X1 n m) v6 v7 v8 v9 v10 v11 v12:=by kernel_rfl
theorem pleachref7_LeaveClus_start (n:Nat) (arr_0:List (List Int)) (x_1:List ((List Int) × Int)) (x_2:Int) (x_3:Int):evFn pleachref7_LeaveClus_Γ tab pleachref7_LeaveClus_fi n [.val t25,.val t40,.val t2,.val t2] [⟨t40,[true],none⟩] Tryz.f36 (arr_0,x_1,x_2,x_3,())=pleachref7_LeaveClus_T (pleachref7_LeaveClus_X1 n n) arr_0 x_1 x_2 x_3:=by kernel_rfl
theorem pleachref7_LeaveClus_XL1 (n:Nat):∀ m,pleachref7_LeaveClus_X1 n m=pleachref7_LeaveClus_L1 n m
 | 0=>rfl
 | m+1=>by
  have ih:=pleachref7_LeaveClus_XL1 n m
  funext v6 v7 v8 v9 v10 v11 v12
  rw [pleachref7_LeaveClus_step1,ih]
  rfl
noncomputable def pleachref7_LeaveClus_n (n:Nat) (arr_0:List (List Int)) (x_1:List ((List Int) × Int)) (x_2:Int) (x_3:Int):Option (((List ((List Int) × Int)) × Unit) × Unit):=pleachref7_LeaveClus_T (pleachref7_LeaveClus_L1 n n) arr_0 x_1 x_2 x_3
noncomputable def pleachref7_LeaveClus (arr_0:List (List Int)) (x_1:List ((List Int) × Int)) (x_2:Int) (x_3:Int):Option (((List ((List Int) × Int)) × Unit) × Unit):=pleachref7_LeaveClus_n 1099511627776 arr_0 x_1 x_2 x_3
theorem pleachref7_LeaveClus_eq (n:Nat) (arr_0:List (List Int)) (x_1:List ((List Int) × Int)) (x_2:Int) (x_3:Int):evFn pleachref7_LeaveClus_Γ tab pleachref7_LeaveClus_fi n [.val t25,.val t40,.val t2,.val t2] [⟨t40,[true],none⟩] Tryz.f36 (arr_0,x_1,x_2,x_3,())=pleachref7_LeaveClus_n n arr_0 x_1 x_2 x_3:=by
  rw [pleachref7_LeaveClus_start,pleachref7_LeaveClus_XL1 n n]
  rfl
noncomputable def pleachref7_LeaveClus_e:Ent:=⟨[.val t25,.val t40,.val t2,.val t2],[⟨t40,[true],none⟩],fun x=>pleachref7_LeaveClus x.1 x.2.1 x.2.2.1 x.2.2.2.1⟩
theorem pleachref7_LeaveClus_good:Good tab.ty Tryz.prog 36 pleachref7_LeaveClus_e:=by
  refine fn_good (Γ:=pleachref7_LeaveClus_Γ) (fi:=pleachref7_LeaveClus_fi) (n:=1099511627776) follows (gcons (gmark Tryz.func36 (by kernel_rfl) (by kernel_rfl)) (gcons pleachref7_Home_good (gcons pleachref7_Near_good (gcons pleachref7_Of_good (gcons pleachref7_Rising_good (gcons pleachref7_parted_good (gcons pleachref7_without_good gnil))))))) tabok Tryz.func36 (by kernel_rfl) (by kernel_rfl) (fun x r h=>?_)
  obtain ⟨arr_0,x_1,x_2,x_3,_u⟩:=x
  exact (pleachref7_LeaveClus_eq 1099511627776 arr_0 x_1 x_2 x_3).trans h
noncomputable def pleachref7_Leave_Γ:Ctx:=[(19,pleachref1_MayDist_e),(31,pleachref7_Home_e),(33,pleachref7_above_e),(36,pleachref7_LeaveClus_e)]
def pleachref7_Leave_fi:Fi:={ keep:=[],vty:=[],vals:=[],live:=[(0,[1,2,4,10,11,12,13,16,17,18,19,20,21,22]),(1,[1,2,4,23]),(2,[4]),(3,[4])] }
noncomputable def pleachref7_Leave (h_0:Int × (List (List Int)) × List (List ((List Int) × Int))) (id_1:Int):Option ((Dt30 × Unit) × Unit):=
 Option.bind (pleachref1_MayDist h_0.2.1) fun (r1:(Bool × Unit) × Unit)=>
 bif !r1.1.1 then
  some ((h_0,()),())
 else
 bif (h_0.2.2.length:Int)==0 then
  some ((h_0,()),())
 else
 bif decide (0<(h_0.2.2.length:Int)) then
  Option.bind (pleachref7_Home (List.getD h_0.2.2 0 []) id_1) fun (r2:(Int × Unit) × Unit)=>
  bif decide (r2.1.1<0) then
   some ((h_0,()),())
  else
  bif decide (0<(h_0.2.2.length:Int)) then
   Option.bind (pleachref7_LeaveClus h_0.2.1 (List.getD h_0.2.2 0 []) id_1 h_0.1) fun (r3:((List ((List Int) × Int)) × Unit) × Unit)=>
   Option.bind (pleachref7_above h_0 r3.1.1) fun (r4:(Dt30 × Unit) × Unit)=>
   some ((r4.1.1,()),())
  else none
 else none
theorem pleachref7_Leave_eq (h_0:Int × (List (List Int)) × List (List ((List Int) × Int))) (id_1:Int):evFn pleachref7_Leave_Γ tab pleachref7_Leave_fi 1 [.val t30,.val t2] [⟨t30,[false,false,false],none⟩] Tryz.f14 (h_0,id_1,())=pleachref7_Leave h_0 id_1:=by kernel_rfl
noncomputable def pleachref7_Leave_e:Ent:=⟨[.val t30,.val t2],[⟨t30,[false,false,false],none⟩],fun x=>pleachref7_Leave x.1 x.2.1⟩
theorem pleachref7_Leave_good:Good tab.ty Tryz.prog 14 pleachref7_Leave_e:=by
  refine fn_good (Γ:=pleachref7_Leave_Γ) (fi:=pleachref7_Leave_fi) (n:=1) follows (gcons pleachref1_MayDist_good (gcons pleachref7_Home_good (gcons pleachref7_above_good (gcons pleachref7_LeaveClus_good gnil)))) tabok Tryz.func14 (by kernel_rfl) (by kernel_rfl) (fun x r h=>?_)
  obtain ⟨h_0,id_1,_u⟩:=x
  exact (pleachref7_Leave_eq h_0 id_1).trans h
noncomputable def pleachref7_Ask_Γ:Ctx:=[(31,pleachref7_Home_e)]
def pleachref7_Ask_fi:Fi:={ keep:=[],vty:=[],vals:=[],live:=[(0,[1,2]),(1,[1,2,5]),(2,[1,2,5,11]),(3,[1,2,5]),(4,[1,2,5,6]),(5,[1,2,5,6,22]),(6,[4]),(7,[1,2,5,6,33]),(8,[4]),(9,[4])] }
noncomputable def pleachref7_Ask_B1 (L1:Int→Int→Int→List (List Int)→(List (List ((List Int) × Int)))→Option ((Int × Unit) × Unit)) (v1:Int) (v2:Int) (v3:Int) (v4:List (List Int)) (v5:List (List ((List Int) × Int))):Option ((Int × Unit) × Unit):=
 bif decide (v2<(v5.length:Int)) then
  bif decide (0≤v2)&&decide (v2<(v5.length:Int)) then
   Option.bind (pleachref7_Home (List.getD v5 v2.toNat []) v1) fun (r6:(Int × Unit) × Unit)=>
   bif decide (r6.1.1<0) then
    some ((0,()),())
   else
   bif decide (0≤v2)&&decide (v2<(v5.length:Int)) then
    bif decide (0≤r6.1.1)&&decide (r6.1.1<((List.getD v5 v2.toNat []).length:Int)) then
     bif ((List.getD (List.getD v5 v2.toNat []) r6.1.1.toNat ([],0)).2) != v1 then
      bif decide (0≤v2)&&decide (v2<(v5.length:Int)) then
       bif decide (0≤r6.1.1)&&decide (r6.1.1<((List.getD v5 v2.toNat []).length:Int)) then
        some (((List.getD (List.getD v5 v2.toNat []) r6.1.1.toNat ([],0)).2,()),())
       else none
      else none
     else
      L1 v1 (IntKind.wrap .i64 (v2+1)) v3 v4 v5
    else none
   else none
  else none
 else
  some ((0,()),())
noncomputable def pleachref7_Ask_T (L1:Int→Int→Int→List (List Int)→(List (List ((List Int) × Int)))→Option ((Int × Unit) × Unit)) (h_0:Int × (List (List Int)) × List (List ((List Int) × Int))) (id_1:Int):Option ((Int × Unit) × Unit):=
 L1 id_1 0 h_0.1 h_0.2.1 h_0.2.2
noncomputable def pleachref7_Ask_L1 (n:Nat):Nat→Int→Int→Int→List (List Int)→(List (List ((List Int) × Int)))→Option ((Int × Unit) × Unit):=iter (fun _ _ _ _ _=>none) fun L=>pleachref7_Ask_B1 L
noncomputable def pleachref7_Ask_X1 (n m:Nat) (v1:Int) (v2:Int) (v3:Int) (v4:List (List Int)) (v5:List (List ((List Int) × Int))):Option ((Int × Unit) × Unit):=
 atLoop pleachref7_Ask_Γ tab (fiB [.val t30,.val t2] pleachref7_Ask_fi) n [.val t30,.val t2] [⟨t2,[false],none⟩] Tryz.f17 [1,0,1,0] [] [1,2,5] m
 ⟨[(1,SV.cv (CV.one (LV.pure t2 v1))),(2,SV.cv (CV.one (LV.ptr (2,0) 0))),(5,SV.cv (CV.one (LV.pure t2 v2)))],
  [((2,0),Ob.box 31 [LV.pure t2 v3,LV.pure t25 v4,LV.pure t29 v5])]⟩
theorem pleachref7_Ask_step1 (n m:Nat) (v1:Int) (v2:Int) (v3:Int) (v4:List (List Int)) (v5:List (List ((List Int) × Int))):pleachref7_Ask_X1 n (m+1) v1 v2 v3 v4 v5=pleachref7_Ask_B1 (pleachref7_Ask_X1 n m) v1 v2 v3 v4 v5:=by kernel_rfl
theorem pleachref7_Ask_start (n:Nat) (h_0:Int × (List (List Int)) × List (List ((List Int) × Int))) (id_1:Int):evFn pleachref7_Ask_Γ tab pleachref7_Ask_fi n [.val t30,.val t2] [⟨t2,[false],none⟩] Tryz.f17 (h_0,id_1,())=pleachref7_Ask_T (pleachref7_Ask_X1 n n) h_0 id_1:=by kernel_rfl
theorem pleachref7_Ask_XL1 (n:Nat):∀ m,pleachref7_Ask_X1 n m=pleachref7_Ask_L1 n m
 | 0=>rfl
 | m+1=>by
  have ih:=pleachref7_Ask_XL1 n m
  funext v1 v2 v3 v4 v5
  rw [pleachref7_Ask_step1,ih]
  rfl
noncomputable def pleachref7_Ask_n (n:Nat) (h_0:Int × (List (List Int)) × List (List ((List Int) × Int))) (id_1:Int):Option ((Int × Unit) × Unit):=pleachref7_Ask_T (pleachref7_Ask_L1 n n) h_0 id_1
noncomputable def pleachref7_Ask (h_0:Int × (List (List Int)) × List (List ((List Int) × Int))) (id_1:Int):Option ((Int × Unit) × Unit):=pleachref7_Ask_n 1099511627776 h_0 id_1
theorem pleachref7_Ask_eq (n:Nat) (h_0:Int × (List (List Int)) × List (List ((List Int) × Int))) (id_1:Int):evFn pleachref7_Ask_Γ tab pleachref7_Ask_fi n [.val t30,.val t2] [⟨t2,[false],none⟩] Tryz.f17 (h_0,id_1,())=pleachref7_Ask_n n h_0 id_1:=by
  rw [pleachref7_Ask_start,pleachref7_Ask_XL1 n n]
  rfl
noncomputable def pleachref7_Ask_e:Ent:=⟨[.val t30,.val t2],[⟨t2,[false],none⟩],fun x=>pleachref7_Ask x.1 x.2.1⟩
theorem pleachref7_Ask_good:Good tab.ty Tryz.prog 17 pleachref7_Ask_e:=by
  refine fn_good (Γ:=pleachref7_Ask_Γ) (fi:=pleachref7_Ask_fi) (n:=1099511627776) follows (gcons pleachref7_Home_good gnil) tabok Tryz.func17 (by kernel_rfl) (by kernel_rfl) (fun x r h=>?_)
  obtain ⟨h_0,id_1,_u⟩:=x
  exact (pleachref7_Ask_eq 1099511627776 h_0 id_1).trans h
noncomputable def pleachlaw9_HierAll_Γ:Ctx:=[(5,pleachlaw9_begun_e),(6,pleachmade_Made_e),(7,pleachmade_Picks_Dist_e),(8,hier_New_e),(9,pleachref7_New_e),(10,pleachref7_SameHier_e),(11,hier_Join_e),(12,pleachref7_Join_e),(13,hier_Leave_e),(14,pleachref7_Leave_e),(15,hier_May_e),(16,hier_Ask_e),(17,pleachref7_Ask_e)]
def pleachlaw9_HierAll_fi:Fi:={ keep:=[],vty:=[],vals:=[],live:=[(0,[0,1,2,3,23,24,25,50,51,52,53,60,95,96,97,113,114,115,116,117,118,119,120,121,122,123,124,125,126,127,128,129,130,131,132,133,134,135,136,137]),(1,[0,1,2,3,18,23,24,25,50,51,52,53,60,95,96,97,113,114,115,116,117,118,119,120,121,122,123,124,125,126,127,128,129,130,131,132,133,134,135,136,137]),(2,[8]),(3,[0,1,2,3,26,50,51,52,53,60,95,96,97,113,114,115,116,117,118,119,120,121,122,123,124,125,126,127,128,129,130,131,132,133,134,135,136,137]),(4,[8]),(5,[1,2,3,9,50,51,52,53,60,95,96,97,113,114,115,116,117,118,119,120,121,122,123,124,125,126,127,128,129,130,131,132,133,134,135,136,137]),(6,[1,2,3,9,10,11,50,51,52,53,60,95,96,97,113,114,115,116,117,118,119,120,121,122,123,124,125,126,127,128,129,130,131,132,133,134,135,136,137]),(7,[1,3,10,11,12,13,50,51,52,53,60,95,96,97,113,114,115,116,117,118,119,120,121,122,123,124,125,126,127,128,129,130,131,132,133,134,135,136,137]),(8,[1,3,10,12,13,54,60,95,96,97,113,114,115,116,117,118,119,120,121,122,123,124,125,126,127,128,129,130,131,132,133,134,135,136,137]),(9,[8]),(10,[1,3,10,12,13,14,60,95,96,97,113,114,115,116,117,118,119,120,121,122,123,124,125,126,127,128,129,130,131,132,133,134,135,136,137]),(11,[1,3,10,12,13,14,60,61,95,96,97,113,114,115,116,117,118,119,120,121,122,123,124,125,126,127,128,129,130,131,132,133,134,135,136,137]),(12,[1,3,10,12,13,14,60,95,96,97,113,114,115,116,117,118,119,120,121,122,123,124,125,126,127,128,129,130,131,132,133,134,135,136,137]),(13,[1,3,10,12,13,14,15,60,95,96,97,113,114,115,116,117,118,119,120,121,122,123,124,125,126,127,128,129,130,131,132,133,134,135,136,137]),(14,[1,3,10,12,13,14,15,60,77,95,96,97,113,114,115,116,117,118,119,120,121,122,123,124,125,126,127,128,129,130,131,132,133,134,135,136,137]),(15,[1,3,10,12,13,14,60,95,96,97,113,114,115,116,117,118,119,120,121,122,123,124,125,126,127,128,129,130,131,132,133,134,135,136,137]),(16,[1,3,10,12,13,14,60,95,96,97,113,114,115,116,117,118,119,120,121,122,123,124,125,126,127,128,129,130,131,132,133,134,135,136,137]),(17,[1,3,10,12,13,14,60,95,96,97,98,113,114,115,116,117,118,119,120,121,122,123,124,125,126,127,128,129,130,131,132,133,134,135,136,137]),(18,[8]),(19,[1,3,10,12,13,14,16,60,95,96,97,113,114,115,116,117,118,119,120,121,122,123,124,125,126,127,128,129,130,131,132,133,134,135,136,137]),(20,[1,3,10,12,13,14,16,60,95,96,97,100,113,114,115,116,117,118,119,120,121,122,123,124,125,126,127,128,129,130,131,132,133,134,135,136,137]),(21,[1,3,10,12,13,14,16,60,95,96,97,113,114,115,116,117,118,119,120,121,122,123,124,125,126,127,128,129,130,131,132,133,134,135,136,137]),(22,[1,3,10,12,13,14,16,60,95,96,97,109,113,114,115,116,117,118,119,120,121,122,123,124,125,126,127,128,129,130,131,132,133,134,135,136,137]),(23,[8]),(24,[8])] }
noncomputable def pleachlaw9_HierAll_B1 (L2:(List (Int × Int))→Int→Bool→Int→Int→Bool→Int→List (List Int)→(List (List ((List Int) × Int)))→Bool→Bool→Int→List (List Int)→(List (List ((List Int) × Int)))→Int→List (List Int)→(List (List ((List Int) × Int)))→Option ((Bool × Unit) × Unit)) (v7:List (Int × Int)) (v8:Int) (v9:Bool) (v10:Int) (v11:Int) (v12:List (List Int)) (v13:List (List ((List Int) × Int))) (v14:Int) (v15:List (List Int)) (v16:List (List ((List Int) × Int))):Option ((Bool × Unit) × Unit):=
 bif decide (v10<(v7.length:Int)) then
  bif v9 then
   bif decide (0≤v10)&&decide (v10<(v7.length:Int)) then
    bif decide (0≤v10)&&decide (v10<(v7.length:Int)) then
     bif decide (Int.tmod ((List.getD v7 v10.toNat (0,0)).2) 3>0) then
      Option.bind (hier_Join (v11,v12,v13) (IntKind.wrap .i64 (Int.tmod ((List.getD v7 v10.toNat (0,0)).1) 10))) fun (r17:(Dt30 × Unit) × Unit)=>
      Option.bind (pleachref7_Join (v14,v15,v16) (IntKind.wrap .i64 (Int.tmod ((List.getD v7 v10.toNat (0,0)).1) 10))) fun (r18:(Dt30 × Unit) × Unit)=>
      Option.bind (pleachref7_SameHier r17.1.1 r18.1.1) fun (r19:(Bool × Unit) × Unit)=>
      bif !r19.1.1 then
       some ((false,()),())
      else
       Option.bind (hier_May r17.1.1) fun (r20:(Bool × Unit) × Unit)=>
       bif !r20.1.1 then
        some ((false,()),())
       else
        L2 v7 v8 v9 v10 0 v9 r17.1.1.1 r17.1.1.2.1 r17.1.1.2.2 r20.1.1 (!r20.1.1) r17.1.1.1 r17.1.1.2.1 r17.1.1.2.2 r18.1.1.1 r18.1.1.2.1 r18.1.1.2.2
     else
      Option.bind (hier_Leave (v11,v12,v13) (IntKind.wrap .i64 (Int.tmod ((List.getD v7 v10.toNat (0,0)).1) 10))) fun (r40:(Dt30 × Unit) × Unit)=>
      Option.bind (pleachref7_Leave (v14,v15,v16) (IntKind.wrap .i64 (Int.tmod ((List.getD v7 v10.toNat (0,0)).1) 10))) fun (r41:(Dt30 × Unit) × Unit)=>
      Option.bind (pleachref7_SameHier r40.1.1 r41.1.1) fun (r42:(Bool × Unit) × Unit)=>
      bif !r42.1.1 then
       some ((false,()),())
      else
       Option.bind (hier_May r40.1.1) fun (r43:(Bool × Unit) × Unit)=>
       bif !r43.1.1 then
        some ((false,()),())
       else
        L2 v7 v8 v9 v10 0 v9 r40.1.1.1 r40.1.1.2.1 r40.1.1.2.2 r43.1.1 (!r43.1.1) r40.1.1.1 r40.1.1.2.1 r40.1.1.2.2 r41.1.1.1 r41.1.1.2.1 r41.1.1.2.2
    else none
   else none
  else
  bif !v9 then
   some ((true,()),())
  else
   Option.bind (hier_Ask (v11,v12,v13) v8) fun (r44:(Int × Unit) × Unit)=>
   Option.bind (pleachref7_Ask (v14,v15,v16) v8) fun (r45:(Int × Unit) × Unit)=>
   bif r44.1.1==r45.1.1 then
    Option.bind (hier_Join (v11,v12,v13) v8) fun (r46:(Dt30 × Unit) × Unit)=>
    Option.bind (pleachref7_Join (v14,v15,v16) v8) fun (r47:(Dt30 × Unit) × Unit)=>
    Option.bind (pleachref7_SameHier r46.1.1 r47.1.1) fun (r48:(Bool × Unit) × Unit)=>
    bif r48.1.1 then
     Option.bind (hier_Leave (v11,v12,v13) v8) fun (r49:(Dt30 × Unit) × Unit)=>
     Option.bind (pleachref7_Leave (v14,v15,v16) v8) fun (r50:(Dt30 × Unit) × Unit)=>
     Option.bind (pleachref7_SameHier r49.1.1 r50.1.1) fun (r51:(Bool × Unit) × Unit)=>
     some ((r51.1.1,()),())
    else
     some ((false,()),())
   else
    some ((false,()),())
 else
 bif !v9 then
  some ((true,()),())
 else
  Option.bind (hier_Ask (v11,v12,v13) v8) fun (r52:(Int × Unit) × Unit)=>
  Option.bind (pleachref7_Ask (v14,v15,v16) v8) fun (r53:(Int × Unit) × Unit)=>
  bif r52.1.1==r53.1.1 then
   Option.bind (hier_Join (v11,v12,v13) v8) fun (r54:(Dt30 × Unit) × Unit)=>
   Option.bind (pleachref7_Join (v14,v15,v16) v8) fun (r55:(Dt30 × Unit) × Unit)=>
   Option.bind (pleachref7_SameHier r54.1.1 r55.1.1) fun (r56:(Bool × Unit) × Unit)=>
   bif r56.1.1 then
    Option.bind (hier_Leave (v11,v12,v13) v8) fun (r57:(Dt30 × Unit) × Unit)=>
    Option.bind (pleachref7_Leave (v14,v15,v16) v8) fun (r58:(Dt30 × Unit) × Unit)=>
    Option.bind (pleachref7_SameHier r57.1.1 r58.1.1) fun (r59:(Bool × Unit) × Unit)=>
    some ((r59.1.1,()),())
   else
    some ((false,()),())
  else
   some ((false,()),())
noncomputable def pleachlaw9_HierAll_B2 (L2:(List (Int × Int))→Int→Bool→Int→Int→Bool→Int→List (List Int)→(List (List ((List Int) × Int)))→Bool→Bool→Int→List (List Int)→(List (List ((List Int) × Int)))→Int→List (List Int)→(List (List ((List Int) × Int)))→Option ((Bool × Unit) × Unit)) (L1:(List (Int × Int))→Int→Bool→Int→Int→List (List Int)→(List (List ((List Int) × Int)))→Int→List (List Int)→(List (List ((List Int) × Int)))→Option ((Bool × Unit) × Unit)) (v21:List (Int × Int)) (v22:Int) (v23:Bool) (v24:Int) (v25:Int) (v26:Bool) (v27:Int) (v28:List (List Int)) (v29:List (List ((List Int) × Int))) (v30:Bool) (v31:Bool) (v32:Int) (v33:List (List Int)) (v34:List (List ((List Int) × Int))) (v35:Int) (v36:List (List Int)) (v37:List (List ((List Int) × Int))):Option ((Bool × Unit) × Unit):=
 bif decide (v25<10) then
  Option.bind (hier_Ask (v32,v33,v34) v25) fun (r38:(Int × Unit) × Unit)=>
  Option.bind (pleachref7_Ask (v35,v36,v37) v25) fun (r39:(Int × Unit) × Unit)=>
  bif r38.1.1 != r39.1.1 then
   some ((false,()),())
  else
   L2 v21 v22 v23 v24 (IntKind.wrap .i64 (v25+1)) v26 v27 v28 v29 v30 v31 v32 v33 v34 v35 v36 v37
 else
  L1 v21 v22 v23 (IntKind.wrap .i64 (v24+1)) v32 v33 v34 v35 v36 v37
noncomputable def pleachlaw9_HierAll_T (L1:(List (Int × Int))→Int→Bool→Int→Int→List (List Int)→(List (List ((List Int) × Int)))→Int→List (List Int)→(List (List ((List Int) × Int)))→Option ((Bool × Unit) × Unit)) (arr_0:List Int) (x_1:List (Int × Int)) (x_2:Int) (x_3:Int):Option ((Bool × Unit) × Unit):=
 Option.bind (pleachlaw9_begun) fun (r1:(Bool × Unit) × Unit)=>
 bif !r1.1.1 then
  some ((false,()),())
 else
 bif decide ((arr_0.length:Int)>30) then
  some ((true,()),())
 else
 bif decide ((x_1.length:Int)>25) then
  some ((true,()),())
 else
  Option.bind (pleachmade_Made arr_0) fun (r2:(((List Int) × Int) × Unit) × Unit)=>
  Option.bind (pleachmade_Picks_Dist r2.1.1) fun (r3:((List (List Int)) × Unit) × (((List Int) × Int) × Unit))=>
  Option.bind (hier_New r3.1.1 (IntKind.wrap .i64 (Int.tmod x_2 5))) fun (r4:(Dt30 × Bool × Unit) × Unit)=>
  Option.bind (pleachref7_New r3.1.1 (IntKind.wrap .i64 (Int.tmod x_2 5))) fun (r5:(Dt30 × Bool × Unit) × Unit)=>
  bif !(r4.1.2.1==r5.1.2.1) then
   some ((false,()),())
  else
   Option.bind (pleachref7_SameHier r4.1.1 r5.1.1) fun (r6:(Bool × Unit) × Unit)=>
   bif !r6.1.1 then
    some ((false,()),())
   else
    L1 x_1 x_3 r5.1.2.1 0 r4.1.1.1 r4.1.1.2.1 r4.1.1.2.2 r5.1.1.1 r5.1.1.2.1 r5.1.1.2.2
noncomputable def pleachlaw9_HierAll_L2 (n:Nat) (m1:Nat) (r1:(List (Int × Int))→Int→Bool→Int→Int→List (List Int)→(List (List ((List Int) × Int)))→Int→List (List Int)→(List (List ((List Int) × Int)))→Option ((Bool × Unit) × Unit)):Nat→(List (Int × Int))→Int→Bool→Int→Int→Bool→Int→List (List Int)→(List (List ((List Int) × Int)))→Bool→Bool→Int→List (List Int)→(List (List ((List Int) × Int)))→Int→List (List Int)→(List (List ((List Int) × Int)))→Option ((Bool × Unit) × Unit):=iter (fun _ _ _ _ _ _ _ _ _ _ _ _ _ _ _ _ _=>none) fun L=>pleachlaw9_HierAll_B2 L r1
noncomputable def pleachlaw9_HierAll_L1 (n:Nat):Nat→(List (Int × Int))→Int→Bool→Int→Int→List (List Int)→(List (List ((List Int) × Int)))→Int→List (List Int)→(List (List ((List Int) × Int)))→Option ((Bool × Unit) × Unit):=iterN (fun _ _ _ _ _ _ _ _ _ _=>none) fun m L=>pleachlaw9_HierAll_B1 (pleachlaw9_HierAll_L2 n m L n)
noncomputable def pleachlaw9_HierAll_X1 (n m:Nat) (v7:List (Int × Int)) (v8:Int) (v9:Bool) (v10:Int) (v11:Int) (v12:List (List Int)) (v13:List (List ((List Int) × Int))) (v14:Int) (v15:List (List Int)) (v16:List (List ((List Int) × Int))):Option ((Bool × Unit) × Unit):=
 atLoop pleachlaw9_HierAll_Γ tab (fiB [.val t22,.val t23,.val t5,.val t2] pleachlaw9_HierAll_fi) n [.val t22,.val t23,.val t5,.val t2] [⟨t4,[false],none⟩] Tryz.f3 [1,1,1,1,1,1,1,0,1,0] [] [1,3,10,12,13,14] m
 ⟨[(1,SV.cv (CV.one (LV.pure t23 v7))),(3,SV.cv (CV.one (LV.pure t2 v8))),(10,SV.cv (CV.one (LV.ptr (10,0) 0))),(12,SV.cv (CV.one (LV.ptr (12,0) 0))),(13,SV.cv (CV.one (LV.pure t4 v9))),(14,SV.cv (CV.one (LV.pure t2 v10)))],
  [((10,0),Ob.box 31 [LV.pure t2 v11,LV.pure t25 v12,LV.pure t29 v13]),((12,0),Ob.box 31 [LV.pure t2 v14,LV.pure t25 v15,LV.pure t29 v16])]⟩
noncomputable def pleachlaw9_HierAll_X2 (n m1 m:Nat) (v21:List (Int × Int)) (v22:Int) (v23:Bool) (v24:Int) (v25:Int) (v26:Bool) (v27:Int) (v28:List (List Int)) (v29:List (List ((List Int) × Int))) (v30:Bool) (v31:Bool) (v32:Int) (v33:List (List Int)) (v34:List (List ((List Int) × Int))) (v35:Int) (v36:List (List Int)) (v37:List (List ((List Int) × Int))):Option ((Bool × Unit) × Unit):=
 atLoop pleachlaw9_HierAll_Γ tab (fiB [.val t22,.val t23,.val t5,.val t2] pleachlaw9_HierAll_fi) n [.val t22,.val t23,.val t5,.val t2] [⟨t4,[false],none⟩] Tryz.f3 [1,1,1,1,1,1,1,0,1,0,0,1,0,0,1,1,1,1,0] [(m1,[1,3,10,12,13,14])] [1,3,10,12,13,14,16,60,95,96,97] m
 ⟨[(1,SV.cv (CV.one (LV.pure t23 v21))),(3,SV.cv (CV.one (LV.pure t2 v22))),(10,SV.cv (CV.one (LV.ptr (10,0) 0))),(12,SV.cv (CV.one (LV.ptr (12,0) 0))),(13,SV.cv (CV.one (LV.pure t4 v23))),(14,SV.cv (CV.one (LV.pure t2 v24))),(16,SV.cv (CV.one (LV.pure t2 v25))),(60,SV.cv (CV.one (LV.pure t4 v26))),(95,SV.cv (CV.agg [LV.pure t2 v27,LV.pure t25 v28,LV.pure t29 v29])),(96,SV.cv (CV.one (LV.pure t4 v30))),(97,SV.cv (CV.one (LV.pure t4 v31)))],
  [((10,0),Ob.box 31 [LV.pure t2 v32,LV.pure t25 v33,LV.pure t29 v34]),((12,0),Ob.box 31 [LV.pure t2 v35,LV.pure t25 v36,LV.pure t29 v37])]⟩
theorem pleachlaw9_HierAll_step1 (n m:Nat) (v7:List (Int × Int)) (v8:Int) (v9:Bool) (v10:Int) (v11:Int) (v12:List (List Int)) (v13:List (List ((List Int) × Int))) (v14:Int) (v15:List (List Int)) (v16:List (List ((List Int) × Int))):pleachlaw9_HierAll_X1 n (m+1) v7 v8 v9 v10 v11 v12 v13 v14 v15 v16=pleachlaw9_HierAll_B1 (pleachlaw9_HierAll_X2 n m n) v7 v8 v9 v10 v11 v12 v13 v14 v15 v16:=by kernel_rfl
theorem pleachlaw9_HierAll_step2 (n m1 m:Nat) (v21:List (Int × Int)) (v22:Int) (v23:Bool) (v24:Int) (v25:Int) (v26:Bool) (v27:Int) (v28:List (List Int)) (v29:List (List ((List Int) × Int))) (v30:Bool) (v31:Bool) (v32:Int) (v33:List (List Int)) (v34:List (List ((List Int) × Int))) (v35:Int) (v36:List (List Int)) (v37:List (List ((List Int) × Int))):pleachlaw9_HierAll_X2 n m1 (m+1) v21 v22 v23 v24 v25 v26 v27 v28 v29 v30 v31 v32 v33 v34 v35 v36 v37=pleachlaw9_HierAll_B2 (pleachlaw9_HierAll_X2 n m1 m) (pleachlaw9_HierAll_X1 n m1) v21 v22 v23 v24 v25 v26 v27 v28 v29 v30 v31 v32 v33 v34 v35 v36 v37:=by kernel_rfl
theorem pleachlaw9_HierAll_start (n:Nat) (arr_0:List Int) (x_1:List (Int × Int)) (x_2:Int) (x_3:Int):evFn pleachlaw9_HierAll_Γ tab pleachlaw9_HierAll_fi n [.val t22,.val t23,.val t5,.val t2] [⟨t4,[false],none⟩] Tryz.f3 (arr_0,x_1,x_2,x_3,())=pleachlaw9_HierAll_T (pleachlaw9_HierAll_X1 n n) arr_0 x_1 x_2 x_3:=by kernel_rfl
theorem pleachlaw9_HierAll_XL2 (n:Nat) (m1:Nat) (r1:(List (Int × Int))→Int→Bool→Int→Int→List (List Int)→(List (List ((List Int) × Int)))→Int→List (List Int)→(List (List ((List Int) × Int)))→Option ((Bool × Unit) × Unit)) (h1:pleachlaw9_HierAll_X1 n m1=r1):∀ m,pleachlaw9_HierAll_X2 n m1 m=pleachlaw9_HierAll_L2 n m1 r1 m
 | 0=>rfl
 | m+1=>by
  have ih:=pleachlaw9_HierAll_XL2 n m1 r1 h1 m
  funext v21 v22 v23 v24 v25 v26 v27 v28 v29 v30 v31 v32 v33 v34 v35 v36 v37
  rw [pleachlaw9_HierAll_step2,ih,h1]
  rfl
theorem pleachlaw9_HierAll_XL1 (n:Nat):∀ m,pleachlaw9_HierAll_X1 n m=pleachlaw9_HierAll_L1 n m
 | 0=>rfl
 | m+1=>by
  have ih:=pleachlaw9_HierAll_XL1 n m
  funext v7 v8 v9 v10 v11 v12 v13 v14 v15 v16
  rw [pleachlaw9_HierAll_step1,pleachlaw9_HierAll_XL2 n m _ ih n]
  rfl
noncomputable def pleachlaw9_HierAll_n (n:Nat) (arr_0:List Int) (x_1:List (Int × Int)) (x_2:Int) (x_3:Int):Option ((Bool × Unit) × Unit):=pleachlaw9_HierAll_T (pleachlaw9_HierAll_L1 n n) arr_0 x_1 x_2 x_3
noncomputable def pleachlaw9_HierAll (arr_0:List Int) (x_1:List (Int × Int)) (x_2:Int) (x_3:Int):Option ((Bool × Unit) × Unit):=pleachlaw9_HierAll_n 1099511627776 arr_0 x_1 x_2 x_3
theorem pleachlaw9_HierAll_eq (n:Nat) (arr_0:List Int) (x_1:List (Int × Int)) (x_2:Int) (x_3:Int):evFn pleachlaw9_HierAll_Γ tab pleachlaw9_HierAll_fi n [.val t22,.val t23,.val t5,.val t2] [⟨t4,[false],none⟩] Tryz.f3 (arr_0,x_1,x_2,x_3,())=pleachlaw9_HierAll_n n arr_0 x_1 x_2 x_3:=by
  rw [pleachlaw9_HierAll_start,pleachlaw9_HierAll_XL1 n n]
  rfl
noncomputable def pleachlaw9_HierAll_e:Ent:=⟨[.val t22,.val t23,.val t5,.val t2],[⟨t4,[false],none⟩],fun x=>pleachlaw9_HierAll x.1 x.2.1 x.2.2.1 x.2.2.2.1⟩
theorem pleachlaw9_HierAll_good:Good tab.ty Tryz.prog 3 pleachlaw9_HierAll_e:=by
  refine fn_good (Γ:=pleachlaw9_HierAll_Γ) (fi:=pleachlaw9_HierAll_fi) (n:=1099511627776) follows (gcons pleachlaw9_begun_good (gcons pleachmade_Made_good (gcons pleachmade_Picks_Dist_good (gcons hier_New_good (gcons pleachref7_New_good (gcons pleachref7_SameHier_good (gcons hier_Join_good (gcons pleachref7_Join_good (gcons hier_Leave_good (gcons pleachref7_Leave_good (gcons hier_May_good (gcons hier_Ask_good (gcons pleachref7_Ask_good gnil))))))))))))) tabok Tryz.func3 (by kernel_rfl) (by kernel_rfl) (fun x r h=>?_)
  obtain ⟨arr_0,x_1,x_2,x_3,_u⟩:=x
  exact (pleachlaw9_HierAll_eq 1099511627776 arr_0 x_1 x_2 x_3).trans h
end Go.PE
