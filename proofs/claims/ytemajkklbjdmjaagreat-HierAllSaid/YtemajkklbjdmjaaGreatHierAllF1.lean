/-
  Functions of the program, each as the evaluator answers it, and its contract.
  Conditions: none.
-/
import Derived.Test.YtemajkklbjdmjaaGreatHierAllT
import Derived.WalkKit
import Derived.BigCall
import Derived.Lib.OthersKept
set_option linter.unusedVariables false
set_option maxRecDepth 100000
namespace Go.PE
open Go.Proofs
noncomputable def pleachmade_Made_Γ:Ctx:=[]
def pleachmade_Made_fi:Fi:={ keep:=[],vty:=[],vals:=[],live:=[(0,[0]),(1,[2])] }
noncomputable def pleachmade_Made (l_0:List Int):Option ((((List Int) × Int) × Unit) × Unit):=
 some (((l_0,0),()),())
theorem pleachmade_Made_eq (l_0:List Int):evFn pleachmade_Made_Γ tab pleachmade_Made_fi 1 [.val t22] [⟨t46,[false,false],some 47⟩] Tryz.f6 (l_0,())=pleachmade_Made l_0:=by kernel_rfl
noncomputable def pleachmade_Made_e:Ent:=⟨[.val t22],[⟨t46,[false,false],some 47⟩],fun x=>pleachmade_Made x.1⟩
theorem pleachmade_Made_good:Good tab.ty Tryz.prog 6 pleachmade_Made_e:=by
  refine fn_good (Γ:=pleachmade_Made_Γ) (fi:=pleachmade_Made_fi) (n:=1) follows gnil tabok Tryz.func6 (by kernel_rfl) (by kernel_rfl) (fun x r h=>?_)
  obtain ⟨l_0,_u⟩:=x
  exact (pleachmade_Made_eq l_0).trans h
noncomputable def pleachmade_Picks_Num_Γ:Ctx:=[]
def pleachmade_Picks_Num_fi:Fi:={ keep:=[],vty:=[],vals:=[],live:=[(0,[0,1,16,17]),(1,[0,1,18]),(2,[0,4]),(3,[0,1]),(4,[0,4])] }
noncomputable def pleachmade_Picks_Num (p_0:(List Int) × Int) (m_1:Int):Option ((Int × Unit) × (((List Int) × Int) × Unit)):=
 bif decide (p_0.2 ≥ (p_0.1.length:Int)) then
  some ((0,()),(p_0,()))
 else
 bif decide (m_1<1) then
  some ((0,()),(p_0,()))
 else
 bif decide (0≤IntKind.wrap .i64 ((IntKind.wrap .i64 (p_0.2+1)) - 1))&&decide (IntKind.wrap .i64 ((IntKind.wrap .i64 (p_0.2+1)) - 1)<(p_0.1.length:Int)) then
  bif !(m_1==0) then
   some ((Int.tmod (IntKind.wrap .i64 (List.getD p_0.1 ((IntKind.wrap .i64 ((IntKind.wrap .i64 (p_0.2+1)) - 1)).toNat) 0)) m_1,()),((p_0.1,IntKind.wrap .i64 (p_0.2+1)),()))
  else none
 else none
theorem pleachmade_Picks_Num_eq (p_0:(List Int) × Int) (m_1:Int):evFn pleachmade_Picks_Num_Γ tab pleachmade_Picks_Num_fi 1 [.box 47 t46 [false,false],.val t2] [⟨t2,[false],none⟩] Tryz.f20 (p_0,m_1,())=pleachmade_Picks_Num p_0 m_1:=by kernel_rfl
noncomputable def pleachmade_Picks_Num_e:Ent:=⟨[.box 47 t46 [false,false],.val t2],[⟨t2,[false],none⟩],fun x=>pleachmade_Picks_Num x.1 x.2.1⟩
theorem pleachmade_Picks_Num_good:Good tab.ty Tryz.prog 20 pleachmade_Picks_Num_e:=by
  refine fn_good (Γ:=pleachmade_Picks_Num_Γ) (fi:=pleachmade_Picks_Num_fi) (n:=1) follows gnil tabok Tryz.func20 (by kernel_rfl) (by kernel_rfl) (fun x r h=>?_)
  obtain ⟨p_0,m_1,_u⟩:=x
  exact (pleachmade_Picks_Num_eq p_0 m_1).trans h
noncomputable def pleachmade_Picks_Dist_Γ:Ctx:=[(20,pleachmade_Picks_Num_e)]
def pleachmade_Picks_Dist_fi:Fi:={ keep:=[],vty:=[],vals:=[(3,999)],live:=[(0,[0]),(1,[0,3]),(2,[0,3,4]),(3,[0,3,4,9]),(4,[0,3,4]),(5,[0,3,4]),(6,[0,3,5]),(7,[0,3,5,17]),(8,[0,3,5]),(9,[0,3,5,6]),(10,[0,3,5,6,22]),(11,[0,3,5,6]),(12,[0,3,5,6,7]),(13,[0,3,5,6]),(14,[0,2])],melt:=[(14,3)] }
noncomputable def pleachmade_Picks_Dist (p_0:(List Int) × Int):Option (((List (List Int)) × Unit) × (((List Int) × Int) × Unit)):=
 Option.bind (pleachmade_Picks_Num p_0 9) fun (r1:(Int × Unit) × (((List Int) × Int) × Unit))=>
 bif decide (0≤r1.1.1)&&decide (r1.1.1<9) then
  bif decide (0≤r1.1.1)&&decide (r1.1.1<9) then
   Option.bind (pleachmade_Picks_Num r1.2.1 9) fun (r2:(Int × Unit) × (((List Int) × Int) × Unit))=>
   bif decide (0≤r2.1.1)&&decide (r2.1.1<9) then
    bif decide (0≤r2.1.1)&&decide (r2.1.1<9) then
     Option.bind (pleachmade_Picks_Num r2.2.1 9) fun (r3:(Int × Unit) × (((List Int) × Int) × Unit))=>
     bif decide (0≤r3.1.1)&&decide (r3.1.1<9) then
      bif decide (0≤r3.1.1)&&decide (r3.1.1<9) then
       Option.bind (pleachmade_Picks_Num r3.2.1 9) fun (r4:(Int × Unit) × (((List Int) × Int) × Unit))=>
       bif decide (0≤r4.1.1)&&decide (r4.1.1<9) then
        bif decide (0≤r4.1.1)&&decide (r4.1.1<9) then
         Option.bind (pleachmade_Picks_Num r4.2.1 9) fun (r5:(Int × Unit) × (((List Int) × Int) × Unit))=>
         bif decide (0≤r5.1.1)&&decide (r5.1.1<9) then
          bif decide (0≤r5.1.1)&&decide (r5.1.1<9) then
           Option.bind (pleachmade_Picks_Num r5.2.1 9) fun (r6:(Int × Unit) × (((List Int) × Int) × Unit))=>
           bif decide (0≤r6.1.1)&&decide (r6.1.1<9) then
            bif decide (0≤r6.1.1)&&decide (r6.1.1<9) then
            Option.bind (pleachmade_Picks_Num r6.2.1 9) fun (r7:(Int × Unit) × (((List Int) × Int) × Unit))=>
            bif decide (0≤r7.1.1)&&decide (r7.1.1<9) then
            bif decide (0≤r7.1.1)&&decide (r7.1.1<9) then
            Option.bind (pleachmade_Picks_Num r7.2.1 9) fun (r8:(Int × Unit) × (((List Int) × Int) × Unit))=>
            bif decide (0≤r8.1.1)&&decide (r8.1.1<9) then
            bif decide (0≤r8.1.1)&&decide (r8.1.1<9) then
            Option.bind (pleachmade_Picks_Num r8.2.1 9) fun (r9:(Int × Unit) × (((List Int) × Int) × Unit))=>
            bif decide (0≤r9.1.1)&&decide (r9.1.1<9) then
            bif decide (0≤r9.1.1)&&decide (r9.1.1<9) then
            Option.bind (pleachmade_Picks_Num r9.2.1 9) fun (r10:(Int × Unit) × (((List Int) × Int) × Unit))=>
            bif decide (0≤r10.1.1)&&decide (r10.1.1<9) then
            bif decide (0≤r10.1.1)&&decide (r10.1.1<9) then
            Option.bind (pleachmade_Picks_Num r10.2.1 9) fun (r11:(Int × Unit) × (((List Int) × Int) × Unit))=>
            bif decide (0≤r11.1.1)&&decide (r11.1.1<9) then
            bif decide (0≤r11.1.1)&&decide (r11.1.1<9) then
            Option.bind (pleachmade_Picks_Num r11.2.1 9) fun (r12:(Int × Unit) × (((List Int) × Int) × Unit))=>
            bif decide (0≤r12.1.1)&&decide (r12.1.1<9) then
            bif decide (0≤r12.1.1)&&decide (r12.1.1<9) then
            Option.bind (pleachmade_Picks_Num r12.2.1 9) fun (r13:(Int × Unit) × (((List Int) × Int) × Unit))=>
            bif decide (0≤r13.1.1)&&decide (r13.1.1<9) then
            bif decide (0≤r13.1.1)&&decide (r13.1.1<9) then
            Option.bind (pleachmade_Picks_Num r13.2.1 9) fun (r14:(Int × Unit) × (((List Int) × Int) × Unit))=>
            bif decide (0≤r14.1.1)&&decide (r14.1.1<9) then
            bif decide (0≤r14.1.1)&&decide (r14.1.1<9) then
            Option.bind (pleachmade_Picks_Num r14.2.1 9) fun (r15:(Int × Unit) × (((List Int) × Int) × Unit))=>
            bif decide (0≤r15.1.1)&&decide (r15.1.1<9) then
            bif decide (0≤r15.1.1)&&decide (r15.1.1<9) then
            Option.bind (pleachmade_Picks_Num r15.2.1 9) fun (r16:(Int × Unit) × (((List Int) × Int) × Unit))=>
            bif decide (0≤r16.1.1)&&decide (r16.1.1<9) then
            bif decide (0≤r16.1.1)&&decide (r16.1.1<9) then
            Option.bind (pleachmade_Picks_Num r16.2.1 9) fun (r17:(Int × Unit) × (((List Int) × Int) × Unit))=>
            bif decide (0≤r17.1.1)&&decide (r17.1.1<9) then
            bif decide (0≤r17.1.1)&&decide (r17.1.1<9) then
            Option.bind (pleachmade_Picks_Num r17.2.1 9) fun (r18:(Int × Unit) × (((List Int) × Int) × Unit))=>
            bif decide (0≤r18.1.1)&&decide (r18.1.1<9) then
            bif decide (0≤r18.1.1)&&decide (r18.1.1<9) then
            Option.bind (pleachmade_Picks_Num r18.2.1 9) fun (r19:(Int × Unit) × (((List Int) × Int) × Unit))=>
            bif decide (0≤r19.1.1)&&decide (r19.1.1<9) then
            bif decide (0≤r19.1.1)&&decide (r19.1.1<9) then
            Option.bind (pleachmade_Picks_Num r19.2.1 9) fun (r20:(Int × Unit) × (((List Int) × Int) × Unit))=>
            bif decide (0≤r20.1.1)&&decide (r20.1.1<9) then
            bif decide (0≤r20.1.1)&&decide (r20.1.1<9) then
            Option.bind (pleachmade_Picks_Num r20.2.1 9) fun (r21:(Int × Unit) × (((List Int) × Int) × Unit))=>
            bif decide (0≤r21.1.1)&&decide (r21.1.1<9) then
            bif decide (0≤r21.1.1)&&decide (r21.1.1<9) then
            Option.bind (pleachmade_Picks_Num r21.2.1 9) fun (r22:(Int × Unit) × (((List Int) × Int) × Unit))=>
            bif decide (0≤r22.1.1)&&decide (r22.1.1<9) then
            bif decide (0≤r22.1.1)&&decide (r22.1.1<9) then
            Option.bind (pleachmade_Picks_Num r22.2.1 9) fun (r23:(Int × Unit) × (((List Int) × Int) × Unit))=>
            bif decide (0≤r23.1.1)&&decide (r23.1.1<9) then
            bif decide (0≤r23.1.1)&&decide (r23.1.1<9) then
            Option.bind (pleachmade_Picks_Num r23.2.1 9) fun (r24:(Int × Unit) × (((List Int) × Int) × Unit))=>
            bif decide (0≤r24.1.1)&&decide (r24.1.1<9) then
            bif decide (0≤r24.1.1)&&decide (r24.1.1<9) then
            Option.bind (pleachmade_Picks_Num r24.2.1 9) fun (r25:(Int × Unit) × (((List Int) × Int) × Unit))=>
            bif decide (0≤r25.1.1)&&decide (r25.1.1<9) then
            bif decide (0≤r25.1.1)&&decide (r25.1.1<9) then
            Option.bind (pleachmade_Picks_Num r25.2.1 9) fun (r26:(Int × Unit) × (((List Int) × Int) × Unit))=>
            bif decide (0≤r26.1.1)&&decide (r26.1.1<9) then
            bif decide (0≤r26.1.1)&&decide (r26.1.1<9) then
            Option.bind (pleachmade_Picks_Num r26.2.1 9) fun (r27:(Int × Unit) × (((List Int) × Int) × Unit))=>
            bif decide (0≤r27.1.1)&&decide (r27.1.1<9) then
            bif decide (0≤r27.1.1)&&decide (r27.1.1<9) then
            Option.bind (pleachmade_Picks_Num r27.2.1 9) fun (r28:(Int × Unit) × (((List Int) × Int) × Unit))=>
            bif decide (0≤r28.1.1)&&decide (r28.1.1<9) then
            bif decide (0≤r28.1.1)&&decide (r28.1.1<9) then
            some (([[0,List.getD [1,2,3,5,9,9,20,1000,0] r1.1.1.toNat 0,List.getD [1,2,3,5,9,9,20,1000,0] r2.1.1.toNat 0,List.getD [1,2,3,5,9,9,20,1000,0] r4.1.1.toNat 0,List.getD [1,2,3,5,9,9,20,1000,0] r7.1.1.toNat 0,List.getD [1,2,3,5,9,9,20,1000,0] r11.1.1.toNat 0,List.getD [1,2,3,5,9,9,20,1000,0] r16.1.1.toNat 0,List.getD [1,2,3,5,9,9,20,1000,0] r22.1.1.toNat 0],[List.getD [1,2,3,5,9,9,20,1000,0] r1.1.1.toNat 0,0,List.getD [1,2,3,5,9,9,20,1000,0] r3.1.1.toNat 0,List.getD [1,2,3,5,9,9,20,1000,0] r5.1.1.toNat 0,List.getD [1,2,3,5,9,9,20,1000,0] r8.1.1.toNat 0,List.getD [1,2,3,5,9,9,20,1000,0] r12.1.1.toNat 0,List.getD [1,2,3,5,9,9,20,1000,0] r17.1.1.toNat 0,List.getD [1,2,3,5,9,9,20,1000,0] r23.1.1.toNat 0],[List.getD [1,2,3,5,9,9,20,1000,0] r2.1.1.toNat 0,List.getD [1,2,3,5,9,9,20,1000,0] r3.1.1.toNat 0,0,List.getD [1,2,3,5,9,9,20,1000,0] r6.1.1.toNat 0,List.getD [1,2,3,5,9,9,20,1000,0] r9.1.1.toNat 0,List.getD [1,2,3,5,9,9,20,1000,0] r13.1.1.toNat 0,List.getD [1,2,3,5,9,9,20,1000,0] r18.1.1.toNat 0,List.getD [1,2,3,5,9,9,20,1000,0] r24.1.1.toNat 0],[List.getD [1,2,3,5,9,9,20,1000,0] r4.1.1.toNat 0,List.getD [1,2,3,5,9,9,20,1000,0] r5.1.1.toNat 0,List.getD [1,2,3,5,9,9,20,1000,0] r6.1.1.toNat 0,0,List.getD [1,2,3,5,9,9,20,1000,0] r10.1.1.toNat 0,List.getD [1,2,3,5,9,9,20,1000,0] r14.1.1.toNat 0,List.getD [1,2,3,5,9,9,20,1000,0] r19.1.1.toNat 0,List.getD [1,2,3,5,9,9,20,1000,0] r25.1.1.toNat 0],[List.getD [1,2,3,5,9,9,20,1000,0] r7.1.1.toNat 0,List.getD [1,2,3,5,9,9,20,1000,0] r8.1.1.toNat 0,List.getD [1,2,3,5,9,9,20,1000,0] r9.1.1.toNat 0,List.getD [1,2,3,5,9,9,20,1000,0] r10.1.1.toNat 0,0,List.getD [1,2,3,5,9,9,20,1000,0] r15.1.1.toNat 0,List.getD [1,2,3,5,9,9,20,1000,0] r20.1.1.toNat 0,List.getD [1,2,3,5,9,9,20,1000,0] r26.1.1.toNat 0],[List.getD [1,2,3,5,9,9,20,1000,0] r11.1.1.toNat 0,List.getD [1,2,3,5,9,9,20,1000,0] r12.1.1.toNat 0,List.getD [1,2,3,5,9,9,20,1000,0] r13.1.1.toNat 0,List.getD [1,2,3,5,9,9,20,1000,0] r14.1.1.toNat 0,List.getD [1,2,3,5,9,9,20,1000,0] r15.1.1.toNat 0,0,List.getD [1,2,3,5,9,9,20,1000,0] r21.1.1.toNat 0,List.getD [1,2,3,5,9,9,20,1000,0] r27.1.1.toNat 0],[List.getD [1,2,3,5,9,9,20,1000,0] r16.1.1.toNat 0,List.getD [1,2,3,5,9,9,20,1000,0] r17.1.1.toNat 0,List.getD [1,2,3,5,9,9,20,1000,0] r18.1.1.toNat 0,List.getD [1,2,3,5,9,9,20,1000,0] r19.1.1.toNat 0,List.getD [1,2,3,5,9,9,20,1000,0] r20.1.1.toNat 0,List.getD [1,2,3,5,9,9,20,1000,0] r21.1.1.toNat 0,0,List.getD [1,2,3,5,9,9,20,1000,0] r28.1.1.toNat 0],[List.getD [1,2,3,5,9,9,20,1000,0] r22.1.1.toNat 0,List.getD [1,2,3,5,9,9,20,1000,0] r23.1.1.toNat 0,List.getD [1,2,3,5,9,9,20,1000,0] r24.1.1.toNat 0,List.getD [1,2,3,5,9,9,20,1000,0] r25.1.1.toNat 0,List.getD [1,2,3,5,9,9,20,1000,0] r26.1.1.toNat 0,List.getD [1,2,3,5,9,9,20,1000,0] r27.1.1.toNat 0,List.getD [1,2,3,5,9,9,20,1000,0] r28.1.1.toNat 0,0]],()),(r28.2.1,()))
            else none
            else none
            else none
            else none
            else none
            else none
            else none
            else none
            else none
            else none
            else none
            else none
            else none
            else none
            else none
            else none
            else none
            else none
            else none
            else none
            else none
            else none
            else none
            else none
            else none
            else none
            else none
            else none
            else none
            else none
            else none
            else none
            else none
            else none
            else none
            else none
            else none
            else none
            else none
            else none
            else none
            else none
            else none
            else none
            else none
           else none
          else none
         else none
        else none
       else none
      else none
     else none
    else none
   else none
  else none
 else none
theorem pleachmade_Picks_Dist_eq (p_0:(List Int) × Int):evFn pleachmade_Picks_Dist_Γ tab pleachmade_Picks_Dist_fi 40 [.box 47 t46 [false,false]] [⟨t25,[true],none⟩] Tryz.f7 (p_0,())=pleachmade_Picks_Dist p_0:=by kernel_rfl
noncomputable def pleachmade_Picks_Dist_e:Ent:=⟨[.box 47 t46 [false,false]],[⟨t25,[true],none⟩],fun x=>pleachmade_Picks_Dist x.1⟩
theorem pleachmade_Picks_Dist_good:Good tab.ty Tryz.prog 7 pleachmade_Picks_Dist_e:=by
  refine fn_good (Γ:=pleachmade_Picks_Dist_Γ) (fi:=pleachmade_Picks_Dist_fi) (n:=40) follows (gcons pleachmade_Picks_Num_good gnil) tabok Tryz.func7 (by kernel_rfl) (by kernel_rfl) (fun x r h=>?_)
  obtain ⟨p_0,_u⟩:=x
  exact (pleachmade_Picks_Dist_eq p_0).trans h
noncomputable def slices_IndexFunc_ints_Γ:Ctx:=[]
def slices_IndexFunc_ints_fi:Fi:={ keep:=[],vty:=[],vals:=[],live:=[(0,[0,1]),(1,[0,1,7,8]),(2,[0,1,7,8,9]),(3,[0,1,5,7,8]),(4,[0,1,5,7,8,16]),(5,[4]),(6,[0,1,7,8]),(7,[4])] }
noncomputable def slices_IndexFunc_ints_B1 (L1:List (List Int)→((List Int) × Unit→Option (Bool × Unit))→Int→Int→Option ((Int × Unit) × Unit)) (v1:List (List Int)) (v2:((List Int) × Unit→Option (Bool × Unit))) (v3:Int) (v4:Int):Option ((Int × Unit) × Unit):=
 bif decide (v4<v3) then
  bif decide (0≤v4)&&decide (v4<(v1.length:Int)) then
   Option.bind (v2 (List.getD v1 v4.toNat [],())) fun (r5:Bool × Unit)=>
   bif r5.1 then
    some ((v4,()),())
   else
    L1 v1 v2 v3 (IntKind.wrap .i64 (v4+1))
  else none
 else
  some (((-1),()),())
noncomputable def slices_IndexFunc_ints_T (L1:List (List Int)→((List Int) × Unit→Option (Bool × Unit))→Int→Int→Option ((Int × Unit) × Unit)) (s_0:List (List Int)) (f_1:((List Int) × Unit→Option (Bool × Unit))):Option ((Int × Unit) × Unit):=
 L1 s_0 f_1 (s_0.length:Int) 0
noncomputable def slices_IndexFunc_ints_L1 (n:Nat):Nat→List (List Int)→((List Int) × Unit→Option (Bool × Unit))→Int→Int→Option ((Int × Unit) × Unit):=iter (fun _ _ _ _=>none) fun L=>slices_IndexFunc_ints_B1 L
noncomputable def slices_IndexFunc_ints_X1 (n m:Nat) (v1:List (List Int)) (v2:((List Int) × Unit→Option (Bool × Unit))) (v3:Int) (v4:Int):Option ((Int × Unit) × Unit):=
 atLoop slices_IndexFunc_ints_Γ tab (fiB [.val t25,.fn [t41] [t4]] slices_IndexFunc_ints_fi) n [.val t25,.fn [t41] [t4]] [⟨t2,[false],none⟩] Tryz.f76 [1,0,1,0] [] [0,1,7,8] m
 ⟨[(0,SV.cv (CV.one (LV.pure t25 v1))),(1,SV.cv (CV.one (LV.clo [t41] [t4] v2))),(7,SV.cv (CV.one (LV.pure t2 v3))),(8,SV.cv (CV.one (LV.pure t2 v4)))],
  []⟩
theorem slices_IndexFunc_ints_step1 (n m:Nat) (v1:List (List Int)) (v2:((List Int) × Unit→Option (Bool × Unit))) (v3:Int) (v4:Int):slices_IndexFunc_ints_X1 n (m+1) v1 v2 v3 v4=slices_IndexFunc_ints_B1 (slices_IndexFunc_ints_X1 n m) v1 v2 v3 v4:=by kernel_rfl
theorem slices_IndexFunc_ints_start (n:Nat) (s_0:List (List Int)) (f_1:((List Int) × Unit→Option (Bool × Unit))):evFn slices_IndexFunc_ints_Γ tab slices_IndexFunc_ints_fi n [.val t25,.fn [t41] [t4]] [⟨t2,[false],none⟩] Tryz.f76 (s_0,f_1,())=slices_IndexFunc_ints_T (slices_IndexFunc_ints_X1 n n) s_0 f_1:=by kernel_rfl
theorem slices_IndexFunc_ints_XL1 (n:Nat):∀ m,slices_IndexFunc_ints_X1 n m=slices_IndexFunc_ints_L1 n m
 | 0=>rfl
 | m+1=>by
  have ih:=slices_IndexFunc_ints_XL1 n m
  funext v1 v2 v3 v4
  rw [slices_IndexFunc_ints_step1,ih]
  rfl
noncomputable def slices_IndexFunc_ints_n (n:Nat) (s_0:List (List Int)) (f_1:((List Int) × Unit→Option (Bool × Unit))):Option ((Int × Unit) × Unit):=slices_IndexFunc_ints_T (slices_IndexFunc_ints_L1 n n) s_0 f_1
noncomputable def slices_IndexFunc_ints (s_0:List (List Int)) (f_1:((List Int) × Unit→Option (Bool × Unit))):Option ((Int × Unit) × Unit):=slices_IndexFunc_ints_n 1099511627776 s_0 f_1
theorem slices_IndexFunc_ints_eq (n:Nat) (s_0:List (List Int)) (f_1:((List Int) × Unit→Option (Bool × Unit))):evFn slices_IndexFunc_ints_Γ tab slices_IndexFunc_ints_fi n [.val t25,.fn [t41] [t4]] [⟨t2,[false],none⟩] Tryz.f76 (s_0,f_1,())=slices_IndexFunc_ints_n n s_0 f_1:=by
  rw [slices_IndexFunc_ints_start,slices_IndexFunc_ints_XL1 n n]
  rfl
noncomputable def slices_IndexFunc_ints_e:Ent:=⟨[.val t25,.fn [t41] [t4]],[⟨t2,[false],none⟩],fun x=>slices_IndexFunc_ints x.1 x.2.1⟩
theorem slices_IndexFunc_ints_good:Good tab.ty Tryz.prog 76 slices_IndexFunc_ints_e:=by
  refine fn_good (Γ:=slices_IndexFunc_ints_Γ) (fi:=slices_IndexFunc_ints_fi) (n:=1099511627776) follows gnil tabok Tryz.func76 (by kernel_rfl) (by kernel_rfl) (fun x r h=>?_)
  obtain ⟨s_0,f_1,_u⟩:=x
  exact (slices_IndexFunc_ints_eq 1099511627776 s_0 f_1).trans h
noncomputable def slices_ContainsFunc_ints_Γ:Ctx:=[(76,slices_IndexFunc_ints_e)]
def slices_ContainsFunc_ints_fi:Fi:={ keep:=[],vty:=[],vals:=[],live:=[(0,[0,1]),(1,[4])] }
noncomputable def slices_ContainsFunc_ints (s_0:List (List Int)) (f_1:((List Int) × Unit→Option (Bool × Unit))):Option ((Bool × Unit) × Unit):=
 Option.bind (slices_IndexFunc_ints s_0 f_1) fun (r1:(Int × Unit) × Unit)=>
 some ((decide (r1.1.1 ≥ 0),()),())
theorem slices_ContainsFunc_ints_eq (s_0:List (List Int)) (f_1:((List Int) × Unit→Option (Bool × Unit))):evFn slices_ContainsFunc_ints_Γ tab slices_ContainsFunc_ints_fi 1 [.val t25,.fn [t41] [t4]] [⟨t4,[false],none⟩] Tryz.f42 (s_0,f_1,())=slices_ContainsFunc_ints s_0 f_1:=by kernel_rfl
noncomputable def slices_ContainsFunc_ints_e:Ent:=⟨[.val t25,.fn [t41] [t4]],[⟨t4,[false],none⟩],fun x=>slices_ContainsFunc_ints x.1 x.2.1⟩
theorem slices_ContainsFunc_ints_good:Good tab.ty Tryz.prog 42 slices_ContainsFunc_ints_e:=by
  refine fn_good (Γ:=slices_ContainsFunc_ints_Γ) (fi:=slices_ContainsFunc_ints_fi) (n:=1) follows (gcons slices_IndexFunc_ints_good gnil) tabok Tryz.func42 (by kernel_rfl) (by kernel_rfl) (fun x r h=>?_)
  obtain ⟨s_0,f_1,_u⟩:=x
  exact (slices_ContainsFunc_ints_eq s_0 f_1).trans h
noncomputable def hier_dist_fn1_Γ:Ctx:=[]
def hier_dist_fn1_fi:Fi:={ keep:=[],vty:=[],vals:=[],live:=[(0,[0]),(1,[2])] }
noncomputable def hier_dist_fn1 (l_0:List Int):Option ((Bool × Unit) × Unit):=
 some (((l_0.length:Int) != 8,()),())
theorem hier_dist_fn1_eq (l_0:List Int):evFn hier_dist_fn1_Γ tab hier_dist_fn1_fi 1 [.val t41] [⟨t4,[false],none⟩] Tryz.f43 (l_0,())=hier_dist_fn1 l_0:=by kernel_rfl
noncomputable def hier_dist_fn1_e:Ent:=⟨[.val t41],[⟨t4,[false],none⟩],fun x=>hier_dist_fn1 x.1⟩
theorem hier_dist_fn1_good:Good tab.ty Tryz.prog 43 hier_dist_fn1_e:=by
  refine fn_good (Γ:=hier_dist_fn1_Γ) (fi:=hier_dist_fn1_fi) (n:=1) follows gnil tabok Tryz.func43 (by kernel_rfl) (by kernel_rfl) (fun x r h=>?_)
  obtain ⟨l_0,_u⟩:=x
  exact (hier_dist_fn1_eq l_0).trans h
noncomputable def hier_dist_Γ:Ctx:=[(42,slices_ContainsFunc_ints_e),(43,hier_dist_fn1_e)]
def hier_dist_fi:Fi:={ keep:=[],vty:=[],vals:=[],live:=[(0,[0,11,12,31,32,35,36,37,38,39,40,41,42,43,46,47,48,49,50,51,52]),(1,[0,13,31,32,35,36,37,38,39,40,41,42,43,46,47,48,49,50,51,52]),(2,[2]),(3,[0,14,15,16,31,32,35,36,37,38,39,40,41,42,43,46,47,48,49,50,51,52]),(4,[0,14,15,16,17,31,32,35,36,37,38,39,40,41,42,43,46,47,48,49,50,51,52]),(5,[0,3,4,14,15,16,31,32,35,36,37,38,39,40,41,42,43,46,47,48,49,50,51,52]),(6,[0,3,14,15,16,21,22,23,31,32,35,36,37,38,39,40,41,42,43,46,47,48,49,50,51,52]),(7,[0,3,14,15,16,21,22,23,24,31,32,35,36,37,38,39,40,41,42,43,46,47,48,49,50,51,52]),(8,[0,3,5,6,14,15,16,21,22,23,31,32,35,36,37,38,39,40,41,42,43,46,47,48,49,50,51,52]),(9,[0,3,14,15,16,21,22,23,31,32,35,36,37,38,39,40,41,42,43,46,47,48,49,50,51,52,53]),(10,[2]),(11,[0,3,14,15,16,21,22,23,31,32,35,36,37,38,39,40,41,42,43,46,47,48,49,50,51,52]),(12,[0,14,15,16,31,32,35,36,37,38,39,40,41,42,43,46,47,48,49,50,51,52]),(13,[2])] }
noncomputable def hier_dist_B1 (L2:List (List Int)→Int→List (List Int)→Int→Int→List Int→Int→Int→Option ((Bool × Unit) × Unit)) (v2:List (List Int)) (v3:List (List Int)) (v4:Int) (v5:Int):Option ((Bool × Unit) × Unit):=
 bif decide (v5<v4) then
  bif decide (0≤v5)&&decide (v5<(v3.length:Int)) then
   L2 v2 v5 v3 v4 v5 (List.getD v3 v5.toNat []) ((List.getD v3 v5.toNat []).length:Int) 0
  else none
 else
  some ((true,()),())
noncomputable def hier_dist_B2 (L2:List (List Int)→Int→List (List Int)→Int→Int→List Int→Int→Int→Option ((Bool × Unit) × Unit)) (L1:List (List Int)→List (List Int)→Int→Int→Option ((Bool × Unit) × Unit)) (v6:List (List Int)) (v7:Int) (v8:List (List Int)) (v9:Int) (v10:Int) (v11:List Int) (v12:Int) (v13:Int):Option ((Bool × Unit) × Unit):=
 bif decide (v13<v12) then
  bif decide (0≤v13)&&decide (v13<(v11.length:Int)) then
   bif decide (List.getD v11 v13.toNat 0<0) then
    some ((false,()),())
   else
   bif decide (List.getD v11 v13.toNat 0>1000) then
    some ((false,()),())
   else
   bif decide (0≤v13)&&decide (v13<(v6.length:Int)) then
    bif decide (0≤v7)&&decide (v7<((List.getD v6 v13.toNat []).length:Int)) then
     bif (List.getD v11 v13.toNat 0) != (List.getD (List.getD v6 v13.toNat []) v7.toNat 0) then
      some ((false,()),())
     else
     bif v7==v13 then
      bif (List.getD v11 v13.toNat 0) != 0 then
       some ((false,()),())
      else
       L2 v6 v7 v8 v9 v10 v11 v12 (IntKind.wrap .i64 (v13+1))
     else
      L2 v6 v7 v8 v9 v10 v11 v12 (IntKind.wrap .i64 (v13+1))
    else none
   else none
  else none
 else
  L1 v6 v8 v9 (IntKind.wrap .i64 (v10+1))
noncomputable def hier_dist_T (L1:List (List Int)→List (List Int)→Int→Int→Option ((Bool × Unit) × Unit)) (d_0:List (List Int)):Option ((Bool × Unit) × Unit):=
 bif (d_0.length:Int) != 8 then
  some ((false,()),())
 else
  Option.bind (slices_ContainsFunc_ints d_0 (fun x=>(hier_dist_fn1 x.1).bind fun r=>some (r.1.1,()))) fun (r1:(Bool × Unit) × Unit)=>
  bif r1.1.1 then
   some ((false,()),())
  else
   L1 d_0 d_0 (d_0.length:Int) 0
noncomputable def hier_dist_L2 (n:Nat) (m1:Nat) (r1:List (List Int)→List (List Int)→Int→Int→Option ((Bool × Unit) × Unit)):Nat→List (List Int)→Int→List (List Int)→Int→Int→List Int→Int→Int→Option ((Bool × Unit) × Unit):=iter (fun _ _ _ _ _ _ _ _=>none) fun L=>hier_dist_B2 L r1
noncomputable def hier_dist_L1 (n:Nat):Nat→List (List Int)→List (List Int)→Int→Int→Option ((Bool × Unit) × Unit):=iterN (fun _ _ _ _=>none) fun m L=>hier_dist_B1 (hier_dist_L2 n m L n)
noncomputable def hier_dist_X1 (n m:Nat) (v2:List (List Int)) (v3:List (List Int)) (v4:Int) (v5:Int):Option ((Bool × Unit) × Unit):=
 atLoop hier_dist_Γ tab (fiB [.val t25] hier_dist_fi) n [.val t25] [⟨t4,[false],none⟩] Tryz.f21 [1,1,0,1,0] [] [0,14,15,16] m
 ⟨[(0,SV.cv (CV.one (LV.pure t25 v2))),(14,SV.cv (CV.one (LV.pure t25 v3))),(15,SV.cv (CV.one (LV.pure t2 v4))),(16,SV.cv (CV.one (LV.pure t2 v5)))],
  []⟩
noncomputable def hier_dist_X2 (n m1 m:Nat) (v6:List (List Int)) (v7:Int) (v8:List (List Int)) (v9:Int) (v10:Int) (v11:List Int) (v12:Int) (v13:Int):Option ((Bool × Unit) × Unit):=
 atLoop hier_dist_Γ tab (fiB [.val t25] hier_dist_fi) n [.val t25] [⟨t4,[false],none⟩] Tryz.f21 [1,1,0,1,0,0,1,1,0,0,1,1,0] [(m1,[0,14,15,16])] [0,3,14,15,16,21,22,23] m
 ⟨[(0,SV.cv (CV.one (LV.pure t25 v6))),(3,SV.cv (CV.one (LV.pure t2 v7))),(14,SV.cv (CV.one (LV.pure t25 v8))),(15,SV.cv (CV.one (LV.pure t2 v9))),(16,SV.cv (CV.one (LV.pure t2 v10))),(21,SV.cv (CV.one (LV.pure t41 v11))),(22,SV.cv (CV.one (LV.pure t2 v12))),(23,SV.cv (CV.one (LV.pure t2 v13)))],
  []⟩
theorem hier_dist_step1 (n m:Nat) (v2:List (List Int)) (v3:List (List Int)) (v4:Int) (v5:Int):hier_dist_X1 n (m+1) v2 v3 v4 v5=hier_dist_B1 (hier_dist_X2 n m n) v2 v3 v4 v5:=by kernel_rfl
theorem hier_dist_step2 (n m1 m:Nat) (v6:List (List Int)) (v7:Int) (v8:List (List Int)) (v9:Int) (v10:Int) (v11:List Int) (v12:Int) (v13:Int):hier_dist_X2 n m1 (m+1) v6 v7 v8 v9 v10 v11 v12 v13=hier_dist_B2 (hier_dist_X2 n m1 m) (hier_dist_X1 n m1) v6 v7 v8 v9 v10 v11 v12 v13:=by kernel_rfl
theorem hier_dist_start (n:Nat) (d_0:List (List Int)):evFn hier_dist_Γ tab hier_dist_fi n [.val t25] [⟨t4,[false],none⟩] Tryz.f21 (d_0,())=hier_dist_T (hier_dist_X1 n n) d_0:=by kernel_rfl
theorem hier_dist_XL2 (n:Nat) (m1:Nat) (r1:List (List Int)→List (List Int)→Int→Int→Option ((Bool × Unit) × Unit)) (h1:hier_dist_X1 n m1=r1):∀ m,hier_dist_X2 n m1 m=hier_dist_L2 n m1 r1 m
 | 0=>rfl
 | m+1=>by
  have ih:=hier_dist_XL2 n m1 r1 h1 m
  funext v6 v7 v8 v9 v10 v11 v12 v13
  rw [hier_dist_step2,ih,h1]
  rfl
theorem hier_dist_XL1 (n:Nat):∀ m,hier_dist_X1 n m=hier_dist_L1 n m
 | 0=>rfl
 | m+1=>by
  have ih:=hier_dist_XL1 n m
  funext v2 v3 v4 v5
  rw [hier_dist_step1,hier_dist_XL2 n m _ ih n]
  rfl
noncomputable def hier_dist_n (n:Nat) (d_0:List (List Int)):Option ((Bool × Unit) × Unit):=hier_dist_T (hier_dist_L1 n n) d_0
noncomputable def hier_dist (d_0:List (List Int)):Option ((Bool × Unit) × Unit):=hier_dist_n 1099511627776 d_0
theorem hier_dist_eq (n:Nat) (d_0:List (List Int)):evFn hier_dist_Γ tab hier_dist_fi n [.val t25] [⟨t4,[false],none⟩] Tryz.f21 (d_0,())=hier_dist_n n d_0:=by
  rw [hier_dist_start,hier_dist_XL1 n n]
  rfl
noncomputable def hier_dist_e:Ent:=⟨[.val t25],[⟨t4,[false],none⟩],fun x=>hier_dist x.1⟩
theorem hier_dist_good:Good tab.ty Tryz.prog 21 hier_dist_e:=by
  refine fn_good (Γ:=hier_dist_Γ) (fi:=hier_dist_fi) (n:=1099511627776) follows (gcons slices_ContainsFunc_ints_good (gcons hier_dist_fn1_good gnil)) tabok Tryz.func21 (by kernel_rfl) (by kernel_rfl) (fun x r h=>?_)
  obtain ⟨d_0,_u⟩:=x
  exact (hier_dist_eq 1099511627776 d_0).trans h
noncomputable def slices_Clone_ints (s:List (List Int)):Option (((List (List Int)) × Unit) × Unit):=bif Nat.ble s.length 1073741824 then some ((s,()),()) else none
theorem slices_Clone_ints_raw (s:List (List Int)):evFn [] tab (fiOf Tryz.f44 []) 1 [.val t25] [⟨t25,[true],none⟩] Tryz.f44 (s,())=bif !(List.isEmpty s) then bif Nat.ble (0+s.length) 1073741824 then some (([]++s,()),()) else none
 else bothEq (some (([],()),())) (bif Nat.ble (0+s.length) 1073741824 then some (([]++s,()),()) else none):=by kernel_rfl
theorem slices_Clone_ints_eq (s:List (List Int)):evFn [] tab (fiOf Tryz.f44 []) 1 [.val t25] [⟨t25,[true],none⟩] Tryz.f44 (s,())=slices_Clone_ints s:=by
  rw [slices_Clone_ints_raw]
  cases s with
  | nil=>exact bothEq_same _
  | cons x q=>rw [Nat.zero_add];rfl
noncomputable def slices_Clone_ints_e:Ent:=⟨[.val t25],[⟨t25,[true],none⟩],fun x=>slices_Clone_ints x.1⟩
theorem slices_Clone_ints_good:Good tab.ty Tryz.prog 44 slices_Clone_ints_e:=by
  refine fn_good (Γ:=[]) (fi:=fiOf Tryz.f44 []) (n:=1) follows gnil tabok Tryz.func44 (by kernel_rfl) (by kernel_rfl) (fun x r h=>?_)
  obtain ⟨s,_u⟩:=x
  exact (slices_Clone_ints_eq s).trans h
noncomputable def slices_Clone_int (s:List Int):Option (((List Int) × Unit) × Unit):=bif Nat.ble s.length 1073741824 then some ((s,()),()) else none
theorem slices_Clone_int_raw (s:List Int):evFn [] tab (fiOf Tryz.f45 []) 1 [.val t41] [⟨t41,[true],none⟩] Tryz.f45 (s,())=bif !(List.isEmpty s) then bif Nat.ble (0+s.length) 1073741824 then some (([]++s,()),()) else none
 else bothEq (some (([],()),())) (bif Nat.ble (0+s.length) 1073741824 then some (([]++s,()),()) else none):=by kernel_rfl
theorem slices_Clone_int_eq (s:List Int):evFn [] tab (fiOf Tryz.f45 []) 1 [.val t41] [⟨t41,[true],none⟩] Tryz.f45 (s,())=slices_Clone_int s:=by
  rw [slices_Clone_int_raw]
  cases s with
  | nil=>exact bothEq_same _
  | cons x q=>rw [Nat.zero_add];rfl
noncomputable def slices_Clone_int_e:Ent:=⟨[.val t41],[⟨t41,[true],none⟩],fun x=>slices_Clone_int x.1⟩
theorem slices_Clone_int_good:Good tab.ty Tryz.prog 45 slices_Clone_int_e:=by
  refine fn_good (Γ:=[]) (fi:=fiOf Tryz.f45 []) (n:=1) follows gnil tabok Tryz.func45 (by kernel_rfl) (by kernel_rfl) (fun x r h=>?_)
  obtain ⟨s,_u⟩:=x
  exact (slices_Clone_int_eq s).trans h
noncomputable def hier_twin_Γ:Ctx:=[(44,slices_Clone_ints_e),(45,slices_Clone_int_e)]
def hier_twin_fi:Fi:={ keep:=[],vty:=[],vals:=[],live:=[(0,[0]),(1,[0,3]),(2,[3,8,9,10]),(3,[3,8,9,10,11]),(4,[3,4,5,8,9,10]),(5,[3,8,9,10]),(6,[3,8,9,10]),(7,[2])] }
noncomputable def hier_twin_B1 (L1:List (List Int)→Int→Int→List (List Int)→Option (((List (List Int)) × Unit) × Unit)) (v2:List (List Int)) (v3:Int) (v4:Int) (v5:List (List Int)):Option (((List (List Int)) × Unit) × Unit):=
 bif decide (v4<v3) then
  bif decide (0≤v4)&&decide (v4<(v2.length:Int)) then
   Option.bind (slices_Clone_int (List.getD v2 v4.toNat [])) fun (r6:((List Int) × Unit) × Unit)=>
   bif decide (0≤v4)&&decide (v4<(v5.length:Int)) then
    bif decide (0≤v4)&&decide (v4<(v5.length:Int)) then
     L1 v2 v3 (IntKind.wrap .i64 (v4+1)) (List.set v5 v4.toNat r6.1.1)
    else none
   else none
  else none
 else
  some ((v5,()),())
noncomputable def hier_twin_T (L1:List (List Int)→Int→Int→List (List Int)→Option (((List (List Int)) × Unit) × Unit)) (d_0:List (List Int)):Option (((List (List Int)) × Unit) × Unit):=
 Option.bind (slices_Clone_ints d_0) fun (r1:((List (List Int)) × Unit) × Unit)=>
 L1 d_0 (d_0.length:Int) 0 r1.1.1
noncomputable def hier_twin_L1 (n:Nat):Nat→List (List Int)→Int→Int→List (List Int)→Option (((List (List Int)) × Unit) × Unit):=iter (fun _ _ _ _=>none) fun L=>hier_twin_B1 L
noncomputable def hier_twin_X1 (n m:Nat) (v2:List (List Int)) (v3:Int) (v4:Int) (v5:List (List Int)):Option (((List (List Int)) × Unit) × Unit):=
 atLoop hier_twin_Γ tab (fiB [.val t25] hier_twin_fi) n [.val t25] [⟨t25,[true],none⟩] Tryz.f22 [1,1,0,1,0] [] [3,8,9,10] m
 ⟨[(3,SV.cv (CV.one (LV.ref (888888,3)))),(8,SV.cv (CV.one (LV.pure t25 v2))),(9,SV.cv (CV.one (LV.pure t2 v3))),(10,SV.cv (CV.one (LV.pure t2 v4)))],
  [((888888,3),Ob.row 41 t41 v5)]⟩
theorem hier_twin_step1 (n m:Nat) (v2:List (List Int)) (v3:Int) (v4:Int) (v5:List (List Int)):hier_twin_X1 n (m+1) v2 v3 v4 v5=hier_twin_B1 (hier_twin_X1 n m) v2 v3 v4 v5:=by kernel_rfl
theorem hier_twin_start (n:Nat) (d_0:List (List Int)):evFn hier_twin_Γ tab hier_twin_fi n [.val t25] [⟨t25,[true],none⟩] Tryz.f22 (d_0,())=hier_twin_T (hier_twin_X1 n n) d_0:=by kernel_rfl
theorem hier_twin_XL1 (n:Nat):∀ m,hier_twin_X1 n m=hier_twin_L1 n m
 | 0=>rfl
 | m+1=>by
  have ih:=hier_twin_XL1 n m
  funext v2 v3 v4 v5
  rw [hier_twin_step1,ih]
  rfl
noncomputable def hier_twin_n (n:Nat) (d_0:List (List Int)):Option (((List (List Int)) × Unit) × Unit):=hier_twin_T (hier_twin_L1 n n) d_0
noncomputable def hier_twin (d_0:List (List Int)):Option (((List (List Int)) × Unit) × Unit):=hier_twin_n 1099511627776 d_0
theorem hier_twin_eq (n:Nat) (d_0:List (List Int)):evFn hier_twin_Γ tab hier_twin_fi n [.val t25] [⟨t25,[true],none⟩] Tryz.f22 (d_0,())=hier_twin_n n d_0:=by
  rw [hier_twin_start,hier_twin_XL1 n n]
  rfl
noncomputable def hier_twin_e:Ent:=⟨[.val t25],[⟨t25,[true],none⟩],fun x=>hier_twin x.1⟩
theorem hier_twin_good:Good tab.ty Tryz.prog 22 hier_twin_e:=by
  refine fn_good (Γ:=hier_twin_Γ) (fi:=hier_twin_fi) (n:=1099511627776) follows (gcons slices_Clone_ints_good (gcons slices_Clone_int_good gnil)) tabok Tryz.func22 (by kernel_rfl) (by kernel_rfl) (fun x r h=>?_)
  obtain ⟨d_0,_u⟩:=x
  exact (hier_twin_eq 1099511627776 d_0).trans h
noncomputable def hier_New_Γ:Ctx:=[(21,hier_dist_e),(22,hier_twin_e)]
def hier_New_fi:Fi:={ keep:=[],vty:=[],vals:=[],live:=[(0,[0,1,4,10,11,14,15]),(1,[0,1,4,16]),(2,[4,5]),(3,[4,5])] }
noncomputable def hier_New (d_0:List (List Int)) (k_1:Int):Option ((Dt30 × Bool × Unit) × Unit):=
 Option.bind (hier_dist d_0) fun (r1:(Bool × Unit) × Unit)=>
 bif !r1.1.1 then
  some (((0,[],[]),false,()),())
 else
 bif decide (k_1<1) then
  some (((0,[],[]),false,()),())
 else
 bif decide (k_1>3) then
  some (((0,[],[]),false,()),())
 else
  Option.bind (hier_twin d_0) fun (r2:((List (List Int)) × Unit) × Unit)=>
  some (((k_1,r2.1.1,[]),true,()),())
theorem hier_New_eq (d_0:List (List Int)) (k_1:Int):evFn hier_New_Γ tab hier_New_fi 1 [.val t25,.val t2] [⟨t30,[false,false,false],none⟩,⟨t4,[false],none⟩] Tryz.f8 (d_0,k_1,())=hier_New d_0 k_1:=by kernel_rfl
noncomputable def hier_New_e:Ent:=⟨[.val t25,.val t2],[⟨t30,[false,false,false],none⟩,⟨t4,[false],none⟩],fun x=>hier_New x.1 x.2.1⟩
theorem hier_New_good:Good tab.ty Tryz.prog 8 hier_New_e:=by
  refine fn_good (Γ:=hier_New_Γ) (fi:=hier_New_fi) (n:=1) follows (gcons hier_dist_good (gcons hier_twin_good gnil)) tabok Tryz.func8 (by kernel_rfl) (by kernel_rfl) (fun x r h=>?_)
  obtain ⟨d_0,k_1,_u⟩:=x
  exact (hier_New_eq d_0 k_1).trans h
noncomputable def slices_Clone_Clusters (s:List (List ((List Int) × Int))):Option (((List (List ((List Int) × Int))) × Unit) × Unit):=bif Nat.ble s.length 1073741824 then some ((s,()),()) else none
theorem slices_Clone_Clusters_raw (s:List (List ((List Int) × Int))):evFn [] tab (fiOf Tryz.f47 []) 1 [.val t29] [⟨t29,[true],none⟩] Tryz.f47 (s,())=bif !(List.isEmpty s) then bif Nat.ble (0+s.length) 1073741824 then some (([]++s,()),()) else none
 else bothEq (some (([],()),())) (bif Nat.ble (0+s.length) 1073741824 then some (([]++s,()),()) else none):=by kernel_rfl
theorem slices_Clone_Clusters_eq (s:List (List ((List Int) × Int))):evFn [] tab (fiOf Tryz.f47 []) 1 [.val t29] [⟨t29,[true],none⟩] Tryz.f47 (s,())=slices_Clone_Clusters s:=by
  rw [slices_Clone_Clusters_raw]
  cases s with
  | nil=>exact bothEq_same _
  | cons x q=>rw [Nat.zero_add];rfl
noncomputable def slices_Clone_Clusters_e:Ent:=⟨[.val t29],[⟨t29,[true],none⟩],fun x=>slices_Clone_Clusters x.1⟩
theorem slices_Clone_Clusters_good:Good tab.ty Tryz.prog 47 slices_Clone_Clusters_e:=by
  refine fn_good (Γ:=[]) (fi:=fiOf Tryz.f47 []) (n:=1) follows gnil tabok Tryz.func47 (by kernel_rfl) (by kernel_rfl) (fun x r h=>?_)
  obtain ⟨s,_u⟩:=x
  exact (slices_Clone_Clusters_eq s).trans h
noncomputable def slices_Clone_Cluster (s:List ((List Int) × Int)):Option (((List ((List Int) × Int)) × Unit) × Unit):=bif Nat.ble s.length 1073741824 then some ((s,()),()) else none
theorem slices_Clone_Cluster_raw (s:List ((List Int) × Int)):evFn [] tab (fiOf Tryz.f77 []) 1 [.val t40] [⟨t40,[true],none⟩] Tryz.f77 (s,())=bif !(List.isEmpty s) then bif Nat.ble (0+s.length) 1073741824 then some (([]++s,()),()) else none
 else bothEq (some (([],()),())) (bif Nat.ble (0+s.length) 1073741824 then some (([]++s,()),()) else none):=by kernel_rfl
theorem slices_Clone_Cluster_eq (s:List ((List Int) × Int)):evFn [] tab (fiOf Tryz.f77 []) 1 [.val t40] [⟨t40,[true],none⟩] Tryz.f77 (s,())=slices_Clone_Cluster s:=by
  rw [slices_Clone_Cluster_raw]
  cases s with
  | nil=>exact bothEq_same _
  | cons x q=>rw [Nat.zero_add];rfl
noncomputable def slices_Clone_Cluster_e:Ent:=⟨[.val t40],[⟨t40,[true],none⟩],fun x=>slices_Clone_Cluster x.1⟩
theorem slices_Clone_Cluster_good:Good tab.ty Tryz.prog 77 slices_Clone_Cluster_e:=by
  refine fn_good (Γ:=[]) (fi:=fiOf Tryz.f77 []) (n:=1) follows gnil tabok Tryz.func77 (by kernel_rfl) (by kernel_rfl) (fun x r h=>?_)
  obtain ⟨s,_u⟩:=x
  exact (slices_Clone_Cluster_eq s).trans h
noncomputable def hier_clusters_Γ:Ctx:=[(45,slices_Clone_int_e),(77,slices_Clone_Cluster_e)]
def hier_clusters_fi:Fi:={ keep:=[],vty:=[],vals:=[],live:=[(0,[0]),(1,[0]),(2,[0,7,8,9]),(3,[0,7,8,9,10]),(4,[0,3,4,7,8,9]),(5,[0,7,8,9]),(6,[0,7,8,9]),(7,[2])] }
noncomputable def hier_clusters_B1 (L1:Int→Int→(List ((List Int) × Int))→Option (((List ((List Int) × Int)) × Unit) × Unit)) (v2:Int) (v3:Int) (v4:List ((List Int) × Int)):Option (((List ((List Int) × Int)) × Unit) × Unit):=
 bif decide (v3<v2) then
  bif decide (0≤v3)&&decide (v3<(v4.length:Int)) then
   bif decide (0≤v3)&&decide (v3<(v4.length:Int)) then
    Option.bind (slices_Clone_int ((List.getD v4 v3.toNat ([],0)).1)) fun (r5:((List Int) × Unit) × Unit)=>
    bif decide (0≤v3)&&decide (v3<(v4.length:Int)) then
     bif decide (0≤v3)&&decide (v3<(v4.length:Int)) then
      L1 v2 (IntKind.wrap .i64 (v3+1)) (List.set v4 v3.toNat (r5.1.1,(List.getD v4 v3.toNat ([],0)).2))
     else none
    else none
   else none
  else none
 else
  some ((v4,()),())
noncomputable def hier_clusters_T (L1:Int→Int→(List ((List Int) × Int))→Option (((List ((List Int) × Int)) × Unit) × Unit)) (cs_0:List ((List Int) × Int)):Option (((List ((List Int) × Int)) × Unit) × Unit):=
 Option.bind (slices_Clone_Cluster cs_0) fun (r1:((List ((List Int) × Int)) × Unit) × Unit)=>
 L1 (r1.1.1.length:Int) 0 r1.1.1
noncomputable def hier_clusters_L1 (n:Nat):Nat→Int→Int→(List ((List Int) × Int))→Option (((List ((List Int) × Int)) × Unit) × Unit):=iter (fun _ _ _=>none) fun L=>hier_clusters_B1 L
noncomputable def hier_clusters_X1 (n m:Nat) (v2:Int) (v3:Int) (v4:List ((List Int) × Int)):Option (((List ((List Int) × Int)) × Unit) × Unit):=
 atLoop hier_clusters_Γ tab (fiB [.val t40] hier_clusters_fi) n [.val t40] [⟨t40,[true],none⟩] Tryz.f48 [1,1,0,1,0] [] [0,7,8,9] m
 ⟨[(0,SV.cv (CV.one (LV.ref (888888,7)))),(7,SV.cv (CV.one (LV.ref (888888,7)))),(8,SV.cv (CV.one (LV.pure t2 v2))),(9,SV.cv (CV.one (LV.pure t2 v3)))],
  [((888888,7),Ob.row 43 t42 v4)]⟩
theorem hier_clusters_step1 (n m:Nat) (v2:Int) (v3:Int) (v4:List ((List Int) × Int)):hier_clusters_X1 n (m+1) v2 v3 v4=hier_clusters_B1 (hier_clusters_X1 n m) v2 v3 v4:=by kernel_rfl
theorem hier_clusters_start (n:Nat) (cs_0:List ((List Int) × Int)):evFn hier_clusters_Γ tab hier_clusters_fi n [.val t40] [⟨t40,[true],none⟩] Tryz.f48 (cs_0,())=hier_clusters_T (hier_clusters_X1 n n) cs_0:=by kernel_rfl
theorem hier_clusters_XL1 (n:Nat):∀ m,hier_clusters_X1 n m=hier_clusters_L1 n m
 | 0=>rfl
 | m+1=>by
  have ih:=hier_clusters_XL1 n m
  funext v2 v3 v4
  rw [hier_clusters_step1,ih]
  rfl
noncomputable def hier_clusters_n (n:Nat) (cs_0:List ((List Int) × Int)):Option (((List ((List Int) × Int)) × Unit) × Unit):=hier_clusters_T (hier_clusters_L1 n n) cs_0
noncomputable def hier_clusters (cs_0:List ((List Int) × Int)):Option (((List ((List Int) × Int)) × Unit) × Unit):=hier_clusters_n 1099511627776 cs_0
theorem hier_clusters_eq (n:Nat) (cs_0:List ((List Int) × Int)):evFn hier_clusters_Γ tab hier_clusters_fi n [.val t40] [⟨t40,[true],none⟩] Tryz.f48 (cs_0,())=hier_clusters_n n cs_0:=by
  rw [hier_clusters_start,hier_clusters_XL1 n n]
  rfl
noncomputable def hier_clusters_e:Ent:=⟨[.val t40],[⟨t40,[true],none⟩],fun x=>hier_clusters x.1⟩
theorem hier_clusters_good:Good tab.ty Tryz.prog 48 hier_clusters_e:=by
  refine fn_good (Γ:=hier_clusters_Γ) (fi:=hier_clusters_fi) (n:=1099511627776) follows (gcons slices_Clone_int_good (gcons slices_Clone_Cluster_good gnil)) tabok Tryz.func48 (by kernel_rfl) (by kernel_rfl) (fun x r h=>?_)
  obtain ⟨cs_0,_u⟩:=x
  exact (hier_clusters_eq 1099511627776 cs_0).trans h
noncomputable def hier_copied_Γ:Ctx:=[(22,hier_twin_e),(47,slices_Clone_Clusters_e),(48,hier_clusters_e)]
def hier_copied_fi:Fi:={ keep:=[],vty:=[],vals:=[],live:=[(0,[1,2]),(1,[1,2]),(2,[1,2,14,15,16]),(3,[1,2,14,15,16,17]),(4,[1,2,3,4,14,15,16]),(5,[1,2,14,15,16]),(6,[1,2,14,15,16]),(7,[2])] }
noncomputable def hier_copied_B1 (L1:Int→Int→Int→List (List Int)→Int→List (List Int)→(List (List ((List Int) × Int)))→(List (List ((List Int) × Int)))→Option ((Dt30 × Unit) × Unit)) (v3:Int) (v4:Int) (v5:Int) (v6:List (List Int)) (v7:Int) (v8:List (List Int)) (v9:List (List ((List Int) × Int))) (v10:List (List ((List Int) × Int))):Option ((Dt30 × Unit) × Unit):=
 bif decide (v4<v3) then
  bif decide (0≤v4)&&decide (v4<(v10.length:Int)) then
   bif decide (0≤v4)&&decide (v4<(v10.length:Int)) then
    Option.bind (hier_clusters (List.getD v10 v4.toNat [])) fun (r11:((List ((List Int) × Int)) × Unit) × Unit)=>
    bif decide (0≤v4)&&decide (v4<(v10.length:Int)) then
     bif decide (0≤v4)&&decide (v4<(v10.length:Int)) then
      L1 v3 (IntKind.wrap .i64 (v4+1)) v5 v6 v7 v8 v9 (List.set v10 v4.toNat r11.1.1)
     else none
    else none
   else none
  else none
 else
  some (((v5,v6,v10),()),())
noncomputable def hier_copied_T (L1:Int→Int→Int→List (List Int)→Int→List (List Int)→(List (List ((List Int) × Int)))→(List (List ((List Int) × Int)))→Option ((Dt30 × Unit) × Unit)) (h_0:Int × (List (List Int)) × List (List ((List Int) × Int))):Option ((Dt30 × Unit) × Unit):=
 Option.bind (hier_twin h_0.2.1) fun (r1:((List (List Int)) × Unit) × Unit)=>
 Option.bind (slices_Clone_Clusters h_0.2.2) fun (r2:((List (List ((List Int) × Int))) × Unit) × Unit)=>
 L1 (r2.1.1.length:Int) 0 h_0.1 r1.1.1 0 [] [] r2.1.1
noncomputable def hier_copied_L1 (n:Nat):Nat→Int→Int→Int→List (List Int)→Int→List (List Int)→(List (List ((List Int) × Int)))→(List (List ((List Int) × Int)))→Option ((Dt30 × Unit) × Unit):=iter (fun _ _ _ _ _ _ _ _=>none) fun L=>hier_copied_B1 L
noncomputable def hier_copied_X1 (n m:Nat) (v3:Int) (v4:Int) (v5:Int) (v6:List (List Int)) (v7:Int) (v8:List (List Int)) (v9:List (List ((List Int) × Int))) (v10:List (List ((List Int) × Int))):Option ((Dt30 × Unit) × Unit):=
 atLoop hier_copied_Γ tab (fiB [.val t30] hier_copied_fi) n [.val t30] [⟨t30,[false,true,true],none⟩] Tryz.f25 [1,1,0,1,0] [] [1,2,14,15,16] m
 ⟨[(1,SV.cv (CV.one (LV.ptr (1,0) 0))),(2,SV.cv (CV.one (LV.ptr (2,0) 0))),(14,SV.cv (CV.one (LV.ref (888888,14)))),(15,SV.cv (CV.one (LV.pure t2 v3))),(16,SV.cv (CV.one (LV.pure t2 v4)))],
  [((1,0),Ob.box 31 [LV.pure t2 v5,LV.ref (1,2),LV.ref (888888,14)]),((1,2),Ob.row 41 t41 v6),((2,0),Ob.box 31 [LV.pure t2 v7,LV.ref (2,2),LV.ref (2,3)]),((2,2),Ob.row 41 t41 v8),((2,3),Ob.row 40 t40 v9),((888888,14),Ob.row 40 t40 v10)]⟩
theorem hier_copied_step1 (n m:Nat) (v3:Int) (v4:Int) (v5:Int) (v6:List (List Int)) (v7:Int) (v8:List (List Int)) (v9:List (List ((List Int) × Int))) (v10:List (List ((List Int) × Int))):hier_copied_X1 n (m+1) v3 v4 v5 v6 v7 v8 v9 v10=hier_copied_B1 (hier_copied_X1 n m) v3 v4 v5 v6 v7 v8 v9 v10:=by kernel_rfl
theorem hier_copied_start (n:Nat) (h_0:Int × (List (List Int)) × List (List ((List Int) × Int))):evFn hier_copied_Γ tab hier_copied_fi n [.val t30] [⟨t30,[false,true,true],none⟩] Tryz.f25 (h_0,())=hier_copied_T (hier_copied_X1 n n) h_0:=by kernel_rfl
theorem hier_copied_XL1 (n:Nat):∀ m,hier_copied_X1 n m=hier_copied_L1 n m
 | 0=>rfl
 | m+1=>by
  have ih:=hier_copied_XL1 n m
  funext v3 v4 v5 v6 v7 v8 v9 v10
  rw [hier_copied_step1,ih]
  rfl
noncomputable def hier_copied_n (n:Nat) (h_0:Int × (List (List Int)) × List (List ((List Int) × Int))):Option ((Dt30 × Unit) × Unit):=hier_copied_T (hier_copied_L1 n n) h_0
noncomputable def hier_copied (h_0:Int × (List (List Int)) × List (List ((List Int) × Int))):Option ((Dt30 × Unit) × Unit):=hier_copied_n 1099511627776 h_0
theorem hier_copied_eq (n:Nat) (h_0:Int × (List (List Int)) × List (List ((List Int) × Int))):evFn hier_copied_Γ tab hier_copied_fi n [.val t30] [⟨t30,[false,true,true],none⟩] Tryz.f25 (h_0,())=hier_copied_n n h_0:=by
  rw [hier_copied_start,hier_copied_XL1 n n]
  rfl
noncomputable def hier_copied_e:Ent:=⟨[.val t30],[⟨t30,[false,true,true],none⟩],fun x=>hier_copied x.1⟩
theorem hier_copied_good:Good tab.ty Tryz.prog 25 hier_copied_e:=by
  refine fn_good (Γ:=hier_copied_Γ) (fi:=hier_copied_fi) (n:=1099511627776) follows (gcons hier_twin_good (gcons slices_Clone_Clusters_good (gcons hier_clusters_good gnil))) tabok Tryz.func25 (by kernel_rfl) (by kernel_rfl) (fun x r h=>?_)
  obtain ⟨h_0,_u⟩:=x
  exact (hier_copied_eq 1099511627776 h_0).trans h
noncomputable def hier_all_Γ:Ctx:=[]
def hier_all_fi:Fi:={ keep:=[],vty:=[],vals:=[],live:=[(0,[1]),(1,[1,6]),(2,[2]),(3,[2])] }
noncomputable def hier_all (h_0:Int × (List (List Int)) × List (List ((List Int) × Int))):Option (((List ((List Int) × Int)) × Unit) × Unit):=
 bif (h_0.2.2.length:Int)==0 then
  some (([],()),())
 else
 bif decide (0<(h_0.2.2.length:Int)) then
  some ((List.getD h_0.2.2 0 [],()),())
 else none
theorem hier_all_eq (h_0:Int × (List (List Int)) × List (List ((List Int) × Int))):evFn hier_all_Γ tab hier_all_fi 1 [.val t30] [⟨t40,[false],none⟩] Tryz.f27 (h_0,())=hier_all h_0:=by kernel_rfl
noncomputable def hier_all_e:Ent:=⟨[.val t30],[⟨t40,[false],none⟩],fun x=>hier_all x.1⟩
theorem hier_all_good:Good tab.ty Tryz.prog 27 hier_all_e:=by
  refine fn_good (Γ:=hier_all_Γ) (fi:=hier_all_fi) (n:=1) follows gnil tabok Tryz.func27 (by kernel_rfl) (by kernel_rfl) (fun x r h=>?_)
  obtain ⟨h_0,_u⟩:=x
  exact (hier_all_eq h_0).trans h
noncomputable def slices_IndexFunc_Cluster_Γ:Ctx:=[]
def slices_IndexFunc_Cluster_fi:Fi:={ keep:=[],vty:=[],vals:=[],live:=[(0,[0,1]),(1,[0,1,7,8]),(2,[0,1,7,8,9]),(3,[0,1,5,7,8]),(4,[0,1,5,7,8,16]),(5,[4]),(6,[0,1,7,8]),(7,[4])] }
noncomputable def slices_IndexFunc_Cluster_B1 (L1:(List ((List Int) × Int))→(((List Int) × Int) × Unit→Option (Bool × Unit))→Int→Int→Option ((Int × Unit) × Unit)) (v1:List ((List Int) × Int)) (v2:(((List Int) × Int) × Unit→Option (Bool × Unit))) (v3:Int) (v4:Int):Option ((Int × Unit) × Unit):=
 bif decide (v4<v3) then
  bif decide (0≤v4)&&decide (v4<(v1.length:Int)) then
   Option.bind (v2 ((List.getD v1 v4.toNat ([],0)),())) fun (r5:Bool × Unit)=>
   bif r5.1 then
    some ((v4,()),())
   else
    L1 v1 v2 v3 (IntKind.wrap .i64 (v4+1))
  else none
 else
  some (((-1),()),())
noncomputable def slices_IndexFunc_Cluster_T (L1:(List ((List Int) × Int))→(((List Int) × Int) × Unit→Option (Bool × Unit))→Int→Int→Option ((Int × Unit) × Unit)) (s_0:List ((List Int) × Int)) (f_1:(((List Int) × Int) × Unit→Option (Bool × Unit))):Option ((Int × Unit) × Unit):=
 L1 s_0 f_1 (s_0.length:Int) 0
noncomputable def slices_IndexFunc_Cluster_L1 (n:Nat):Nat→(List ((List Int) × Int))→(((List Int) × Int) × Unit→Option (Bool × Unit))→Int→Int→Option ((Int × Unit) × Unit):=iter (fun _ _ _ _=>none) fun L=>slices_IndexFunc_Cluster_B1 L
noncomputable def slices_IndexFunc_Cluster_X1 (n m:Nat) (v1:List ((List Int) × Int)) (v2:(((List Int) × Int) × Unit→Option (Bool × Unit))) (v3:Int) (v4:Int):Option ((Int × Unit) × Unit):=
 atLoop slices_IndexFunc_Cluster_Γ tab (fiB [.val t40,.fn [t42] [t4]] slices_IndexFunc_Cluster_fi) n [.val t40,.fn [t42] [t4]] [⟨t2,[false],none⟩] Tryz.f49 [1,0,1,0] [] [0,1,7,8] m
 ⟨[(0,SV.cv (CV.one (LV.pure t40 v1))),(1,SV.cv (CV.one (LV.clo [t42] [t4] v2))),(7,SV.cv (CV.one (LV.pure t2 v3))),(8,SV.cv (CV.one (LV.pure t2 v4)))],
  []⟩
theorem slices_IndexFunc_Cluster_step1 (n m:Nat) (v1:List ((List Int) × Int)) (v2:(((List Int) × Int) × Unit→Option (Bool × Unit))) (v3:Int) (v4:Int):slices_IndexFunc_Cluster_X1 n (m+1) v1 v2 v3 v4=slices_IndexFunc_Cluster_B1 (slices_IndexFunc_Cluster_X1 n m) v1 v2 v3 v4:=by kernel_rfl
theorem slices_IndexFunc_Cluster_start (n:Nat) (s_0:List ((List Int) × Int)) (f_1:(((List Int) × Int) × Unit→Option (Bool × Unit))):evFn slices_IndexFunc_Cluster_Γ tab slices_IndexFunc_Cluster_fi n [.val t40,.fn [t42] [t4]] [⟨t2,[false],none⟩] Tryz.f49 (s_0,f_1,())=slices_IndexFunc_Cluster_T (slices_IndexFunc_Cluster_X1 n n) s_0 f_1:=by kernel_rfl
theorem slices_IndexFunc_Cluster_XL1 (n:Nat):∀ m,slices_IndexFunc_Cluster_X1 n m=slices_IndexFunc_Cluster_L1 n m
 | 0=>rfl
 | m+1=>by
  have ih:=slices_IndexFunc_Cluster_XL1 n m
  funext v1 v2 v3 v4
  rw [slices_IndexFunc_Cluster_step1,ih]
  rfl
noncomputable def slices_IndexFunc_Cluster_n (n:Nat) (s_0:List ((List Int) × Int)) (f_1:(((List Int) × Int) × Unit→Option (Bool × Unit))):Option ((Int × Unit) × Unit):=slices_IndexFunc_Cluster_T (slices_IndexFunc_Cluster_L1 n n) s_0 f_1
noncomputable def slices_IndexFunc_Cluster (s_0:List ((List Int) × Int)) (f_1:(((List Int) × Int) × Unit→Option (Bool × Unit))):Option ((Int × Unit) × Unit):=slices_IndexFunc_Cluster_n 1099511627776 s_0 f_1
theorem slices_IndexFunc_Cluster_eq (n:Nat) (s_0:List ((List Int) × Int)) (f_1:(((List Int) × Int) × Unit→Option (Bool × Unit))):evFn slices_IndexFunc_Cluster_Γ tab slices_IndexFunc_Cluster_fi n [.val t40,.fn [t42] [t4]] [⟨t2,[false],none⟩] Tryz.f49 (s_0,f_1,())=slices_IndexFunc_Cluster_n n s_0 f_1:=by
  rw [slices_IndexFunc_Cluster_start,slices_IndexFunc_Cluster_XL1 n n]
  rfl
noncomputable def slices_IndexFunc_Cluster_e:Ent:=⟨[.val t40,.fn [t42] [t4]],[⟨t2,[false],none⟩],fun x=>slices_IndexFunc_Cluster x.1 x.2.1⟩
theorem slices_IndexFunc_Cluster_good:Good tab.ty Tryz.prog 49 slices_IndexFunc_Cluster_e:=by
  refine fn_good (Γ:=slices_IndexFunc_Cluster_Γ) (fi:=slices_IndexFunc_Cluster_fi) (n:=1099511627776) follows gnil tabok Tryz.func49 (by kernel_rfl) (by kernel_rfl) (fun x r h=>?_)
  obtain ⟨s_0,f_1,_u⟩:=x
  exact (slices_IndexFunc_Cluster_eq 1099511627776 s_0 f_1).trans h
noncomputable def slices_Index_int_Γ:Ctx:=[]
def slices_Index_int_fi:Fi:={ keep:=[],vty:=[],vals:=[],live:=[(0,[0,1]),(1,[0,1,7,8]),(2,[0,1,7,8,9]),(3,[0,1,5,7,8]),(4,[0,1,5,7,8,16]),(5,[4]),(6,[0,1,7,8]),(7,[4])] }
noncomputable def slices_Index_int_B1 (L1:List Int→Int→Int→Int→Option ((Int × Unit) × Unit)) (v1:List Int) (v2:Int) (v3:Int) (v4:Int):Option ((Int × Unit) × Unit):=
 bif decide (v4<v3) then
  bif decide (0≤v4)&&decide (v4<(v1.length:Int)) then
   bif v2==(List.getD v1 v4.toNat 0) then
    some ((v4,()),())
   else
    L1 v1 v2 v3 (IntKind.wrap .i64 (v4+1))
  else none
 else
  some (((-1),()),())
noncomputable def slices_Index_int_T (L1:List Int→Int→Int→Int→Option ((Int × Unit) × Unit)) (s_0:List Int) (v_1:Int):Option ((Int × Unit) × Unit):=
 L1 s_0 v_1 (s_0.length:Int) 0
noncomputable def slices_Index_int_L1 (n:Nat):Nat→List Int→Int→Int→Int→Option ((Int × Unit) × Unit):=iter (fun _ _ _ _=>none) fun L=>slices_Index_int_B1 L
noncomputable def slices_Index_int_X1 (n m:Nat) (v1:List Int) (v2:Int) (v3:Int) (v4:Int):Option ((Int × Unit) × Unit):=
 atLoop slices_Index_int_Γ tab (fiB [.val t41,.val t2] slices_Index_int_fi) n [.val t41,.val t2] [⟨t2,[false],none⟩] Tryz.f78 [1,0,1,0] [] [0,1,7,8] m
 ⟨[(0,SV.cv (CV.one (LV.pure t41 v1))),(1,SV.cv (CV.one (LV.pure t2 v2))),(7,SV.cv (CV.one (LV.pure t2 v3))),(8,SV.cv (CV.one (LV.pure t2 v4)))],
  []⟩
theorem slices_Index_int_step1 (n m:Nat) (v1:List Int) (v2:Int) (v3:Int) (v4:Int):slices_Index_int_X1 n (m+1) v1 v2 v3 v4=slices_Index_int_B1 (slices_Index_int_X1 n m) v1 v2 v3 v4:=by kernel_rfl
theorem slices_Index_int_start (n:Nat) (s_0:List Int) (v_1:Int):evFn slices_Index_int_Γ tab slices_Index_int_fi n [.val t41,.val t2] [⟨t2,[false],none⟩] Tryz.f78 (s_0,v_1,())=slices_Index_int_T (slices_Index_int_X1 n n) s_0 v_1:=by kernel_rfl
theorem slices_Index_int_XL1 (n:Nat):∀ m,slices_Index_int_X1 n m=slices_Index_int_L1 n m
 | 0=>rfl
 | m+1=>by
  have ih:=slices_Index_int_XL1 n m
  funext v1 v2 v3 v4
  rw [slices_Index_int_step1,ih]
  rfl
noncomputable def slices_Index_int_n (n:Nat) (s_0:List Int) (v_1:Int):Option ((Int × Unit) × Unit):=slices_Index_int_T (slices_Index_int_L1 n n) s_0 v_1
noncomputable def slices_Index_int (s_0:List Int) (v_1:Int):Option ((Int × Unit) × Unit):=slices_Index_int_n 1099511627776 s_0 v_1
theorem slices_Index_int_eq (n:Nat) (s_0:List Int) (v_1:Int):evFn slices_Index_int_Γ tab slices_Index_int_fi n [.val t41,.val t2] [⟨t2,[false],none⟩] Tryz.f78 (s_0,v_1,())=slices_Index_int_n n s_0 v_1:=by
  rw [slices_Index_int_start,slices_Index_int_XL1 n n]
  rfl
noncomputable def slices_Index_int_e:Ent:=⟨[.val t41,.val t2],[⟨t2,[false],none⟩],fun x=>slices_Index_int x.1 x.2.1⟩
theorem slices_Index_int_good:Good tab.ty Tryz.prog 78 slices_Index_int_e:=by
  refine fn_good (Γ:=slices_Index_int_Γ) (fi:=slices_Index_int_fi) (n:=1099511627776) follows gnil tabok Tryz.func78 (by kernel_rfl) (by kernel_rfl) (fun x r h=>?_)
  obtain ⟨s_0,v_1,_u⟩:=x
  exact (slices_Index_int_eq 1099511627776 s_0 v_1).trans h
noncomputable def slices_Contains_int_Γ:Ctx:=[(78,slices_Index_int_e)]
def slices_Contains_int_fi:Fi:={ keep:=[],vty:=[],vals:=[],live:=[(0,[0,1]),(1,[4])] }
noncomputable def slices_Contains_int (s_0:List Int) (v_1:Int):Option ((Bool × Unit) × Unit):=
 Option.bind (slices_Index_int s_0 v_1) fun (r1:(Int × Unit) × Unit)=>
 some ((decide (r1.1.1 ≥ 0),()),())
theorem slices_Contains_int_eq (s_0:List Int) (v_1:Int):evFn slices_Contains_int_Γ tab slices_Contains_int_fi 1 [.val t41,.val t2] [⟨t4,[false],none⟩] Tryz.f51 (s_0,v_1,())=slices_Contains_int s_0 v_1:=by kernel_rfl
noncomputable def slices_Contains_int_e:Ent:=⟨[.val t41,.val t2],[⟨t4,[false],none⟩],fun x=>slices_Contains_int x.1 x.2.1⟩
theorem slices_Contains_int_good:Good tab.ty Tryz.prog 51 slices_Contains_int_e:=by
  refine fn_good (Γ:=slices_Contains_int_Γ) (fi:=slices_Contains_int_fi) (n:=1) follows (gcons slices_Index_int_good gnil) tabok Tryz.func51 (by kernel_rfl) (by kernel_rfl) (fun x r h=>?_)
  obtain ⟨s_0,v_1,_u⟩:=x
  exact (slices_Contains_int_eq s_0 v_1).trans h
noncomputable def hier_find_fn1_Γ:Ctx:=[(51,slices_Contains_int_e)]
def hier_find_fn1_fi:Fi:={ keep:=[],vty:=[],vals:=[],live:=[(0,[1,2]),(1,[3])] }
noncomputable def hier_find_fn1 (c_0:(List Int) × Int) (x_1:Int):Option ((Bool × Unit) × Unit):=
 Option.bind (slices_Contains_int c_0.1 x_1) fun (r1:(Bool × Unit) × Unit)=>
 some ((r1.1.1,()),())
theorem hier_find_fn1_eq (c_0:(List Int) × Int) (x_1:Int):evFn hier_find_fn1_Γ tab hier_find_fn1_fi 1 [.val t42,.rbox t2] [⟨t4,[false],none⟩] Tryz.f50 (c_0,x_1,())=hier_find_fn1 c_0 x_1:=by kernel_rfl
noncomputable def hier_find_fn1_e:Ent:=⟨[.val t42,.rbox t2],[⟨t4,[false],none⟩],fun x=>hier_find_fn1 x.1 x.2.1⟩
theorem hier_find_fn1_good:Good tab.ty Tryz.prog 50 hier_find_fn1_e:=by
  refine fn_good (Γ:=hier_find_fn1_Γ) (fi:=hier_find_fn1_fi) (n:=1) follows (gcons slices_Contains_int_good gnil) tabok Tryz.func50 (by kernel_rfl) (by kernel_rfl) (fun x r h=>?_)
  obtain ⟨c_0,x_1,_u⟩:=x
  exact (hier_find_fn1_eq c_0 x_1).trans h
noncomputable def hier_find_Γ:Ctx:=[(49,slices_IndexFunc_Cluster_e),(50,hier_find_fn1_e)]
def hier_find_fi:Fi:={ keep:=[],vty:=[],vals:=[],live:=[(0,[0,3]),(1,[4])] }
noncomputable def hier_find (cs_0:List ((List Int) × Int)) (id_1:Int):Option ((Int × Unit) × Unit):=
 Option.bind (slices_IndexFunc_Cluster cs_0 (fun x=>(hier_find_fn1 x.1 id_1).bind fun r=>some (r.1.1,()))) fun (r1:(Int × Unit) × Unit)=>
 some ((r1.1.1,()),())
theorem hier_find_eq (cs_0:List ((List Int) × Int)) (id_1:Int):evFn hier_find_Γ tab hier_find_fi 1 [.val t40,.val t2] [⟨t2,[false],none⟩] Tryz.f26 (cs_0,id_1,())=hier_find cs_0 id_1:=by kernel_rfl
noncomputable def hier_find_e:Ent:=⟨[.val t40,.val t2],[⟨t2,[false],none⟩],fun x=>hier_find x.1 x.2.1⟩
theorem hier_find_good:Good tab.ty Tryz.prog 26 hier_find_e:=by
  refine fn_good (Γ:=hier_find_Γ) (fi:=hier_find_fi) (n:=1) follows (gcons slices_IndexFunc_Cluster_good (gcons hier_find_fn1_good gnil)) tabok Tryz.func26 (by kernel_rfl) (by kernel_rfl) (fun x r h=>?_)
  obtain ⟨cs_0,id_1,_u⟩:=x
  exact (hier_find_eq cs_0 id_1).trans h
noncomputable def mid_least_Γ:Ctx:=[]
def mid_least_fi:Fi:={ keep:=[],vty:=[],vals:=[],live:=[(0,[0,1,4,24,25,26,27,28,29,30,31,32,33,34,35,36,37,38,39,40]),(1,[0,1,4,5,24,25,26,27,28,29,30,31,32,33,34,35,36,37,38,39,40]),(2,[1,4,5,10,11,12,24,25,26,27,28,29,30,31,32,33,34,35,36,37,38,39,40]),(3,[1,4,5,10,11,12,13,24,25,26,27,28,29,30,31,32,33,34,35,36,37,38,39,40]),(4,[1,4,5,7,10,11,12,24,25,26,27,28,29,30,31,32,33,34,35,36,37,38,39,40]),(5,[1,4,5,7,8,9,10,11,12,24,25,26,27,28,29,30,31,32,33,34,35,36,37,38,39,40]),(6,[1,4,5,7,8,10,11,12,24,25,26,27,28,29,30,31,32,33,34,35,36,37,38,39,40,41]),(7,[1,4,5,10,11,12,24,25,26,27,28,29,30,31,32,33,34,35,36,37,38,39,40]),(8,[1,4,5,10,11,12,24,25,26,27,28,29,30,31,32,33,34,35,36,37,38,39,40]),(9,[4])] }
noncomputable def mid_least_B1 (L1:(Int × Unit→Option (Int × Bool × Unit))→Int→Int→List Int→Int→Int→Option ((Int × Unit) × Unit)) (v1:(Int × Unit→Option (Int × Bool × Unit))) (v2:Int) (v3:Int) (v4:List Int) (v5:Int) (v6:Int):Option ((Int × Unit) × Unit):=
 bif decide (v6<v5) then
  bif decide (0≤v6)&&decide (v6<(v4.length:Int)) then
   Option.bind (v1 (List.getD v4 v6.toNat 0,())) fun (r7:Int × Bool × Unit)=>
   bif r7.2.1 then
    bif v2==0 then
     L1 v1 (List.getD v4 v6.toNat 0) r7.1 v4 v5 (IntKind.wrap .i64 (v6+1))
    else
    bif decide (r7.1<v3) then
     L1 v1 (List.getD v4 v6.toNat 0) r7.1 v4 v5 (IntKind.wrap .i64 (v6+1))
    else
    bif r7.1==v3 then
     bif decide (List.getD v4 v6.toNat 0<v2) then
      L1 v1 (List.getD v4 v6.toNat 0) r7.1 v4 v5 (IntKind.wrap .i64 (v6+1))
     else
      L1 v1 v2 v3 v4 v5 (IntKind.wrap .i64 (v6+1))
    else
     L1 v1 v2 v3 v4 v5 (IntKind.wrap .i64 (v6+1))
   else
    L1 v1 v2 v3 v4 v5 (IntKind.wrap .i64 (v6+1))
  else none
 else
  some ((v2,()),())
noncomputable def mid_least_T (L1:(Int × Unit→Option (Int × Bool × Unit))→Int→Int→List Int→Int→Int→Option ((Int × Unit) × Unit)) (l_0:List Int) (of_1:(Int × Unit→Option (Int × Bool × Unit))):Option ((Int × Unit) × Unit):=
 L1 of_1 0 1001 l_0 (l_0.length:Int) 0
noncomputable def mid_least_L1 (n:Nat):Nat→(Int × Unit→Option (Int × Bool × Unit))→Int→Int→List Int→Int→Int→Option ((Int × Unit) × Unit):=iter (fun _ _ _ _ _ _=>none) fun L=>mid_least_B1 L
noncomputable def mid_least_X1 (n m:Nat) (v1:(Int × Unit→Option (Int × Bool × Unit))) (v2:Int) (v3:Int) (v4:List Int) (v5:Int) (v6:Int):Option ((Int × Unit) × Unit):=
 atLoop mid_least_Γ tab (fiB [.val t41,.fn [t2] [t2,t4]] mid_least_fi) n [.val t41,.fn [t2] [t2,t4]] [⟨t2,[false],none⟩] Tryz.f84 [1,1,0,1,0] [] [1,4,5,10,11,12] m
 ⟨[(1,SV.cv (CV.one (LV.clo [t2] [t2,t4] v1))),(4,SV.cv (CV.one (LV.pure t2 v2))),(5,SV.cv (CV.one (LV.pure t2 v3))),(10,SV.cv (CV.one (LV.pure t41 v4))),(11,SV.cv (CV.one (LV.pure t2 v5))),(12,SV.cv (CV.one (LV.pure t2 v6)))],
  []⟩
theorem mid_least_step1 (n m:Nat) (v1:(Int × Unit→Option (Int × Bool × Unit))) (v2:Int) (v3:Int) (v4:List Int) (v5:Int) (v6:Int):mid_least_X1 n (m+1) v1 v2 v3 v4 v5 v6=mid_least_B1 (mid_least_X1 n m) v1 v2 v3 v4 v5 v6:=by kernel_rfl
theorem mid_least_start (n:Nat) (l_0:List Int) (of_1:(Int × Unit→Option (Int × Bool × Unit))):evFn mid_least_Γ tab mid_least_fi n [.val t41,.fn [t2] [t2,t4]] [⟨t2,[false],none⟩] Tryz.f84 (l_0,of_1,())=mid_least_T (mid_least_X1 n n) l_0 of_1:=by kernel_rfl
theorem mid_least_XL1 (n:Nat):∀ m,mid_least_X1 n m=mid_least_L1 n m
 | 0=>rfl
 | m+1=>by
  have ih:=mid_least_XL1 n m
  funext v1 v2 v3 v4 v5 v6
  rw [mid_least_step1,ih]
  rfl
noncomputable def mid_least_n (n:Nat) (l_0:List Int) (of_1:(Int × Unit→Option (Int × Bool × Unit))):Option ((Int × Unit) × Unit):=mid_least_T (mid_least_L1 n n) l_0 of_1
noncomputable def mid_least (l_0:List Int) (of_1:(Int × Unit→Option (Int × Bool × Unit))):Option ((Int × Unit) × Unit):=mid_least_n 1099511627776 l_0 of_1
theorem mid_least_eq (n:Nat) (l_0:List Int) (of_1:(Int × Unit→Option (Int × Bool × Unit))):evFn mid_least_Γ tab mid_least_fi n [.val t41,.fn [t2] [t2,t4]] [⟨t2,[false],none⟩] Tryz.f84 (l_0,of_1,())=mid_least_n n l_0 of_1:=by
  rw [mid_least_start,mid_least_XL1 n n]
  rfl
noncomputable def mid_least_e:Ent:=⟨[.val t41,.fn [t2] [t2,t4]],[⟨t2,[false],none⟩],fun x=>mid_least x.1 x.2.1⟩
theorem mid_least_good:Good tab.ty Tryz.prog 84 mid_least_e:=by
  refine fn_good (Γ:=mid_least_Γ) (fi:=mid_least_fi) (n:=1099511627776) follows gnil tabok Tryz.func84 (by kernel_rfl) (by kernel_rfl) (fun x r h=>?_)
  obtain ⟨l_0,of_1,_u⟩:=x
  exact (mid_least_eq 1099511627776 l_0 of_1).trans h
noncomputable def mid_dist_Γ:Ctx:=[]
def mid_dist_fi:Fi:={ keep:=[],vty:=[],vals:=[],live:=[(0,[0,1,2,10,11,12,13,16,17,20,21,22,23,24,25,26,27]),(1,[0,1,2,28]),(2,[6]),(3,[6])] }
noncomputable def mid_dist (d_0:List (List Int)) (a_1:Int) (b_2:Int):Option ((Int × Unit) × Unit):=
 bif decide (a_1<1) then
  some ((0,()),())
 else
 bif decide (a_1>(d_0.length:Int)) then
  some ((0,()),())
 else
 bif decide (b_2<1) then
  some ((0,()),())
 else
 bif decide (0≤IntKind.wrap .i64 (a_1 - 1))&&decide (IntKind.wrap .i64 (a_1 - 1)<(d_0.length:Int)) then
  bif decide (b_2>((List.getD d_0 ((IntKind.wrap .i64 (a_1 - 1)).toNat) []).length:Int)) then
   some ((0,()),())
  else
  bif decide (0≤IntKind.wrap .i64 (a_1 - 1))&&decide (IntKind.wrap .i64 (a_1 - 1)<(d_0.length:Int)) then
   bif decide (0≤IntKind.wrap .i64 (b_2 - 1))&&decide (IntKind.wrap .i64 (b_2 - 1)<((List.getD d_0 ((IntKind.wrap .i64 (a_1 - 1)).toNat) []).length:Int)) then
    some ((List.getD (List.getD d_0 ((IntKind.wrap .i64 (a_1 - 1)).toNat) []) ((IntKind.wrap .i64 (b_2 - 1)).toNat) 0,()),())
   else none
  else none
 else none
theorem mid_dist_eq (d_0:List (List Int)) (a_1:Int) (b_2:Int):evFn mid_dist_Γ tab mid_dist_fi 1 [.val t25,.val t2,.val t2] [⟨t2,[false],none⟩] Tryz.f86 (d_0,a_1,b_2,())=mid_dist d_0 a_1 b_2:=by kernel_rfl
noncomputable def mid_dist_e:Ent:=⟨[.val t25,.val t2,.val t2],[⟨t2,[false],none⟩],fun x=>mid_dist x.1 x.2.1 x.2.2.1⟩
theorem mid_dist_good:Good tab.ty Tryz.prog 86 mid_dist_e:=by
  refine fn_good (Γ:=mid_dist_Γ) (fi:=mid_dist_fi) (n:=1) follows gnil tabok Tryz.func86 (by kernel_rfl) (by kernel_rfl) (fun x r h=>?_)
  obtain ⟨d_0,a_1,b_2,_u⟩:=x
  exact (mid_dist_eq d_0 a_1 b_2).trans h
noncomputable def mid_Near_fn1_Γ:Ctx:=[(86,mid_dist_e)]
def mid_Near_fn1_fi:Fi:={ keep:=[],vty:=[],vals:=[],live:=[(0,[0,1,2]),(1,[4,5])] }
noncomputable def mid_Near_fn1 (x_0:Int) (x_1:List (List Int)) (x_2:Int):Option ((Int × Bool × Unit) × Unit):=
 Option.bind (mid_dist x_1 x_2 x_0) fun (r1:(Int × Unit) × Unit)=>
 some ((r1.1.1,x_0 != x_2,()),())
theorem mid_Near_fn1_eq (x_0:Int) (x_1:List (List Int)) (x_2:Int):evFn mid_Near_fn1_Γ tab mid_Near_fn1_fi 1 [.val t2,.rbox t25,.rbox t2] [⟨t2,[false],none⟩,⟨t4,[false],none⟩] Tryz.f85 (x_0,x_1,x_2,())=mid_Near_fn1 x_0 x_1 x_2:=by kernel_rfl
noncomputable def mid_Near_fn1_e:Ent:=⟨[.val t2,.rbox t25,.rbox t2],[⟨t2,[false],none⟩,⟨t4,[false],none⟩],fun x=>mid_Near_fn1 x.1 x.2.1 x.2.2.1⟩
theorem mid_Near_fn1_good:Good tab.ty Tryz.prog 85 mid_Near_fn1_e:=by
  refine fn_good (Γ:=mid_Near_fn1_Γ) (fi:=mid_Near_fn1_fi) (n:=1) follows (gcons mid_dist_good gnil) tabok Tryz.func85 (by kernel_rfl) (by kernel_rfl) (fun x r h=>?_)
  obtain ⟨x_0,x_1,x_2,_u⟩:=x
  exact (mid_Near_fn1_eq x_0 x_1 x_2).trans h
noncomputable def mid_Near_Γ:Ctx:=[(84,mid_least_e),(85,mid_Near_fn1_e)]
def mid_Near_fi:Fi:={ keep:=[],vty:=[],vals:=[],live:=[(0,[2,3,4]),(1,[6])] }
noncomputable def mid_Near (d_0:List (List Int)) (m_1:Int) (l_2:List Int):Option ((Int × Unit) × Unit):=
 Option.bind (mid_least l_2 (fun x=>(mid_Near_fn1 x.1 d_0 m_1).bind fun r=>some (r.1.1,r.1.2.1,()))) fun (r1:(Int × Unit) × Unit)=>
 some ((r1.1.1,()),())
theorem mid_Near_eq (d_0:List (List Int)) (m_1:Int) (l_2:List Int):evFn mid_Near_Γ tab mid_Near_fi 1 [.val t25,.val t2,.val t41] [⟨t2,[false],none⟩] Tryz.f59 (d_0,m_1,l_2,())=mid_Near d_0 m_1 l_2:=by kernel_rfl
noncomputable def mid_Near_e:Ent:=⟨[.val t25,.val t2,.val t41],[⟨t2,[false],none⟩],fun x=>mid_Near x.1 x.2.1 x.2.2.1⟩
theorem mid_Near_good:Good tab.ty Tryz.prog 59 mid_Near_e:=by
  refine fn_good (Γ:=mid_Near_Γ) (fi:=mid_Near_fi) (n:=1) follows (gcons mid_least_good (gcons mid_Near_fn1_good gnil)) tabok Tryz.func59 (by kernel_rfl) (by kernel_rfl) (fun x r h=>?_)
  obtain ⟨d_0,m_1,l_2,_u⟩:=x
  exact (mid_Near_eq d_0 m_1 l_2).trans h
noncomputable def hier_down_Γ:Ctx:=[(26,hier_find_e),(59,mid_Near_e)]
def hier_down_fi:Fi:={ keep:=[],vty:=[],vals:=[],live:=[(0,[1,2,4,18,19,20,21,22,23,24,25]),(1,[1,2,4,5,18,19,20,21,22,23,24,25]),(2,[1,2,4,5,12,18,19,20,21,22,23,24,25]),(3,[1,2,4,5,18,19,20,21,22,23,24,25]),(4,[1,2,4,5,18,19,20,21,22,23,24,25,26]),(5,[4]),(6,[1,2,5,6,18,19,20,21,22,23,24,25]),(7,[1,2,4,5,18,19,20,21,22,23,24,25]),(8,[4])] }
noncomputable def hier_down_B1 (L1:Int→Int→Int→Int→List (List Int)→(List (List ((List Int) × Int)))→Option ((Int × Unit) × Unit)) (v1:Int) (v2:Int) (v3:Int) (v4:Int) (v5:List (List Int)) (v6:List (List ((List Int) × Int))):Option ((Int × Unit) × Unit):=
 bif decide (v3>0) then
  bif decide (v2<0) then
   some (((-1),()),())
  else
  bif decide (0≤v3)&&decide (v3<(v6.length:Int)) then
   bif decide (v2 ≥ ((List.getD v6 v3.toNat []).length:Int)) then
    some (((-1),()),())
   else
   bif decide (0≤v3)&&decide (v3<(v6.length:Int)) then
    bif decide (0≤v2)&&decide (v2<((List.getD v6 v3.toNat []).length:Int)) then
     Option.bind (mid_Near v5 v1 ((List.getD (List.getD v6 v3.toNat []) v2.toNat ([],0)).1)) fun (r7:(Int × Unit) × Unit)=>
     bif decide (0≤IntKind.wrap .i64 (v3 - 1))&&decide (IntKind.wrap .i64 (v3 - 1)<(v6.length:Int)) then
      Option.bind (hier_find (List.getD v6 ((IntKind.wrap .i64 (v3 - 1)).toNat) []) r7.1.1) fun (r8:(Int × Unit) × Unit)=>
      L1 v1 r8.1.1 (IntKind.wrap .i64 (v3 - 1)) v4 v5 v6
     else none
    else none
   else none
  else none
 else
  some ((v2,()),())
noncomputable def hier_down_T (L1:Int→Int→Int→Int→List (List Int)→(List (List ((List Int) × Int)))→Option ((Int × Unit) × Unit)) (h_0:Int × (List (List Int)) × List (List ((List Int) × Int))) (id_1:Int):Option ((Int × Unit) × Unit):=
 L1 id_1 0 (IntKind.wrap .i64 ((h_0.2.2.length:Int) - 1)) h_0.1 h_0.2.1 h_0.2.2
noncomputable def hier_down_L1 (n:Nat):Nat→Int→Int→Int→Int→List (List Int)→(List (List ((List Int) × Int)))→Option ((Int × Unit) × Unit):=iter (fun _ _ _ _ _ _=>none) fun L=>hier_down_B1 L
noncomputable def hier_down_X1 (n m:Nat) (v1:Int) (v2:Int) (v3:Int) (v4:Int) (v5:List (List Int)) (v6:List (List ((List Int) × Int))):Option ((Int × Unit) × Unit):=
 atLoop hier_down_Γ tab (fiB [.val t30,.val t2] hier_down_fi) n [.val t30,.val t2] [⟨t2,[false],none⟩] Tryz.f30 [1,0,1,0] [] [1,2,4,5] m
 ⟨[(1,SV.cv (CV.one (LV.pure t2 v1))),(2,SV.cv (CV.one (LV.ptr (2,0) 0))),(4,SV.cv (CV.one (LV.pure t2 v2))),(5,SV.cv (CV.one (LV.pure t2 v3)))],
  [((2,0),Ob.box 31 [LV.pure t2 v4,LV.pure t25 v5,LV.pure t29 v6])]⟩
theorem hier_down_step1 (n m:Nat) (v1:Int) (v2:Int) (v3:Int) (v4:Int) (v5:List (List Int)) (v6:List (List ((List Int) × Int))):hier_down_X1 n (m+1) v1 v2 v3 v4 v5 v6=hier_down_B1 (hier_down_X1 n m) v1 v2 v3 v4 v5 v6:=by kernel_rfl
theorem hier_down_start (n:Nat) (h_0:Int × (List (List Int)) × List (List ((List Int) × Int))) (id_1:Int):evFn hier_down_Γ tab hier_down_fi n [.val t30,.val t2] [⟨t2,[false],none⟩] Tryz.f30 (h_0,id_1,())=hier_down_T (hier_down_X1 n n) h_0 id_1:=by kernel_rfl
theorem hier_down_XL1 (n:Nat):∀ m,hier_down_X1 n m=hier_down_L1 n m
 | 0=>rfl
 | m+1=>by
  have ih:=hier_down_XL1 n m
  funext v1 v2 v3 v4 v5 v6
  rw [hier_down_step1,ih]
  rfl
noncomputable def hier_down_n (n:Nat) (h_0:Int × (List (List Int)) × List (List ((List Int) × Int))) (id_1:Int):Option ((Int × Unit) × Unit):=hier_down_T (hier_down_L1 n n) h_0 id_1
noncomputable def hier_down (h_0:Int × (List (List Int)) × List (List ((List Int) × Int))) (id_1:Int):Option ((Int × Unit) × Unit):=hier_down_n 1099511627776 h_0 id_1
theorem hier_down_eq (n:Nat) (h_0:Int × (List (List Int)) × List (List ((List Int) × Int))) (id_1:Int):evFn hier_down_Γ tab hier_down_fi n [.val t30,.val t2] [⟨t2,[false],none⟩] Tryz.f30 (h_0,id_1,())=hier_down_n n h_0 id_1:=by
  rw [hier_down_start,hier_down_XL1 n n]
  rfl
noncomputable def hier_down_e:Ent:=⟨[.val t30,.val t2],[⟨t2,[false],none⟩],fun x=>hier_down x.1 x.2.1⟩
theorem hier_down_good:Good tab.ty Tryz.prog 30 hier_down_e:=by
  refine fn_good (Γ:=hier_down_Γ) (fi:=hier_down_fi) (n:=1099511627776) follows (gcons hier_find_good (gcons mid_Near_good gnil)) tabok Tryz.func30 (by kernel_rfl) (by kernel_rfl) (fun x r h=>?_)
  obtain ⟨h_0,id_1,_u⟩:=x
  exact (hier_down_eq 1099511627776 h_0 id_1).trans h
section
open Go.RowKit
theorem clone_use {P:Program} {τ:TypeId→Option Ty} {f:FuncId} {eT:TypeId} {e:Ty} {G:PDs [.val (.sl eT e)]→Option (RDs [⟨.sl eT e,[true],none⟩] × ODs [.val (.sl eT e)])}
    (hg:Good τ P f ⟨[.val (.sl eT e)],[⟨.sl eT e,[true],none⟩],G⟩) {S:Nat→Prop} {w:World} {xs:List e.den} {v:Value} (hS:∀ k,S k→k<w.heap.size) (hr:Rep τ S w (.sl eT e) xs [v])
    (hG:G (xs,())=some ((xs,()),())) :
    Calls P f #[v] w fun ex w'=>∃ v' S',ex=.returned v'∧RowRel τ S' w' eT e xs v' (blk v').toList∧(∀ j,blk v'=some j→¬ S' j∧j<w'.heap.size∧w.heap.size≤j)∧(∀ k,S k→S' k) ∧
      (∀ k,S' k→k<w'.heap.size∧(S k∨w.heap.size≤k))∧Fr (fun _=>False) w w':=by
  refine (hg.2 w S (xs,()) [v] [] ((xs,()),()) hS ⟨v,[],[],[],rfl,rfl,⟨.inr ⟨rfl,hr⟩,rfl⟩,rfl,rfl⟩ List.nodup_nil (by simp) hG).mono ?_
  rintro ex w' ⟨vs,S',B1,B2,rfl,h1,_,_,h3,h4,h5,h6⟩
  obtain ⟨v',vr,b1,b2,rfl,rfl,hres,rfl,rfl⟩:=h1
  obtain ⟨cs,_,hcs,hown⟩:=hres
  have:=hcs rfl;subst this
  obtain ⟨c,cr,b3,b4,e1,rfl,hl,h7⟩:=hown
  obtain ⟨rfl,rfl⟩:=List.cons.inj e1
  obtain ⟨_,rfl⟩:([]:List Value)=[]∧b4=[]:=h7
  have hl:RowRel τ S' w' eT e xs v' b3:=hl
  obtain ⟨g1,g2,g3⟩:=hl
  subst g3
  refine ⟨v',S',rfl,⟨g1,g2,rfl⟩,fun j hj=>?_,h4,fun k hk=>⟨(h5 k hk).1,(h5 k hk).2.imp id (fun h=>h.elim id (fun h=>by cases h))⟩,h6.mono (fun _ h=>by cases h)⟩
  have:=h3 j (by simp [hj])
  exact ⟨this.1,this.2.1,this.2.2.elim id (fun h=>by cases h)⟩
theorem intRowRel {S:Nat→Prop} {w w':World} {xs:List Int} {c:Value} {B:List Nat} (h:RowRel tab.ty S w 3 (.int .i64) xs c B) (hk:∀ j∈B,w'.heap[j]?=w.heap[j]?):RowRel tab.ty (fun _=>False) w' 3 (.int .i64) xs c B:=by
  have key:∀ {xs:List Int} {cs:List Value},RowCells tab.ty S w (.int .i64) xs cs→RowCells tab.ty (fun _=>False) w' (.int .i64) xs cs:=by
    intro xs
    induction xs with
    | nil=>intro cs h;exact h
    | cons x r ih=>intro cs h;obtain ⟨c,cr,hc,h1,h2⟩:=h;exact ⟨c,cr,hc,h1,ih h2⟩
  obtain ⟨h0,⟨cells,hr,hc⟩,hb⟩:=h
  subst hb
  refine ⟨h0,⟨cells,⟨hr.1,?_⟩,key hc⟩,rfl⟩
  rcases hr.2 with hn | ⟨g,cap,cur,rfl,hg,hh',rest⟩
  · exact .inl hn
  · exact .inr ⟨g,cap,cur,rfl,hg,(hk g (by simp [blk])).trans hh',rest⟩
theorem twin_snoc {w:World} {x:List Int × Int} {c:Value} {Bc:List Nat} (hx:RowRel tab.ty (fun _=>False) w 3 (.int .i64) x.1 c Bc):∀ {xs:List (List Int × Int)} {cs:List Value} {B:List Nat},TwinC tab.ty 3 w xs cs B→TwinC tab.ty 3 w (xs++[x]) (cs++[c,Value.int .i64 x.2]) (B++Bc)
  | [],cs,B,h=>by
    obtain ⟨rfl,rfl⟩:=h
    exact ⟨c,[],Bc,[],rfl,(List.append_nil _).symm,hx,rfl,rfl⟩
  | y::r,cs,B,h=>by
    obtain ⟨d,cr,B1,B2,rfl,rfl,h1,h2⟩:=h
    exact ⟨d,_,B1,_,rfl,(List.append_assoc ..),h1,twin_snoc hx h2⟩
def ClRep (S:Nat→Prop) (w:World):List (List Int × Int)→List Value→Prop
  | [],cs=>cs=[]
  | x::r,cs=>∃ c cr,cs=c::Value.int .i64 x.2::cr∧Rep tab.ty S w (.sl 3 (.int .i64)) x.1 [c]∧ClRep S w r cr
theorem ClRep.of {S:Nat→Prop} {w:World}:∀ {xs:List (List Int × Int)} {cs:List Value},RowCells tab.ty S w t43 xs cs→ClRep S w xs cs
  | [],cs,h=>h
  | x::r,cs,h=>by
    obtain ⟨ce,cr,rfl,hrep,h2⟩:=h
    obtain ⟨c1,c2,rfl,hr1,hr2⟩:=hrep
    have hc2:c2=[Value.int .i64 x.2]:=hr2
    subst hc2
    obtain ⟨A',c',e,hh⟩:=hr1
    subst e
    exact ⟨_,cr,rfl,⟨A',c',rfl,hh⟩,ClRep.of h2⟩
theorem ClRep.to {S:Nat→Prop} {w:World}:∀ {xs:List (List Int × Int)} {cs:List Value},ClRep S w xs cs→RowCells tab.ty S w t43 xs cs
  | [],cs,h=>h
  | x::r,cs,h=>by
    obtain ⟨c,cr,rfl,h1,h2⟩:=h
    exact ⟨[c,Value.int .i64 x.2],cr,rfl,⟨[c],[Value.int .i64 x.2],rfl,h1,rfl⟩,ClRep.to h2⟩
theorem ClRep.frame {S S':Nat→Prop} {w w':World} (hS:∀ q,S q→S' q) (hsz:w.heap.size≤w'.heap.size) (hk:∀ q,S q→q<w.heap.size→w'.heap[q]?=w.heap[q]?):∀ {xs:List (List Int × Int)} {cs:List Value},ClRep S w xs cs→ClRep S' w' xs cs
  | [],cs,h=>h
  | x::r,cs,h=>by
    obtain ⟨c,cr,rfl,h1,h2⟩:=h
    exact ⟨c,cr,rfl,Rep.frame (t:=.sl 3 (.int .i64)) hS hsz hk h1,ClRep.frame hS hsz hk h2⟩
theorem own_setCell {w:World} {eT:TypeId} {sz n:Nat} {g n' cp i:Nat} {cells:List Value} {u:Value} (h:w.ownsRow 0 eT sz (.slice (some ⟨g,0,none⟩) n' cp) n cells) (hi:i<cells.length) :
    (w.setCell ⟨g,i,none⟩ u).ownsRow 0 eT sz (.slice (some ⟨g,0,none⟩) n' cp) n (cells.set i u):=by
  refine ⟨by rw [List.length_set];exact h.1,?_⟩
  rcases h.2 with ⟨e,_⟩ | ⟨g2,cap,cur,e,hg,hh,h1,h2,h3,h4⟩
  · cases e
  · injection e with e e2 e3
    have hgg:g=g2:=by injection e with e;injection e
    subst hgg
    have hcl:cells.length≤cur.size:=by rw [← h4,List.length_take,Array.length_toList];omega
    refine .inr ⟨g,cap,cur.setIfInBounds i u,by rw [e2,e3],hg,?_,h1,h2,by simpa using h3,?_⟩
    · obtain ⟨hlt2,hk2⟩:=Array.getElem?_eq_some_iff.1 hh
      show (w.heap.modify g _)[g]?=_
      rw [Array.getElem?_eq_getElem (by rw [Array.size_modify];exact hlt2),Array.getElem_modify_self,hk2]
      rfl
    · rw [← h4,Array.toList_setIfInBounds,List.take_set]
def valNat:Value→Nat
  | .int _ m=>m.toNat
  | _=>0
set_option maxHeartbeats 4000000 in
set_option maxRecDepth 1000000 in
theorem twin_at (w:World) (S:Nat→Prop) (xs:List (List Int × Int)) (v:Value) (hS:∀ k,S k→k<w.heap.size) (hr:Rep tab.ty S w t40 xs [v]) (hl:xs.length≤1073741824) (hx:∀ x∈xs,x.1.length≤1073741824) :
    Calls Tryz.prog 54 #[v] w fun e w'=>∃ v' cells B,e=.returned v'∧w'.ownsRow 0 43 2 v' xs.length cells∧TwinC tab.ty 3 w' xs cells B∧((blk v').toList++B).Nodup∧(∀ j∈(blk v').toList++B,w.heap.size≤j∧j<w'.heap.size)∧Fr (fun _=>False) w w':=by
  have hcl:slices_Clone_Cluster xs=some ((xs,()),()):=by unfold slices_Clone_Cluster;rw [show Nat.ble xs.length 1073741824=true from nble_iff.2 hl];rfl
  have hcc:=clone_use slices_Clone_Cluster_good hS hr hcl
  go_enter Tryz.func54,Tryz.ntmps54
  go_wp2_with (go_at_call 77;refine hcc.mono ?_)
  rintro e W1 ⟨v1,S1,rfl,hrow,hblk,hS1,hS1b,f1⟩
  obtain ⟨h0,⟨cells,hown,hrc⟩,_⟩:=hrow
  obtain ⟨A,n,cp,rfl⟩:=own_slice hown
  have hown:W1.ownsRow 0 43 2 (.slice A n cp) xs.length cells:=hown
  have hrc:=ClRep.of hrc
  go_wp2
  have hn:n=xs.length∧n≤maxLen:=by
    rcases hown.2 with ⟨e5,e6⟩ | ⟨g,cap,cur,e5,_,_,e6,e7,_⟩
    · injection e5 with _ e5 _;exact ⟨by omega,by rw [e5];simp [maxLen]⟩
    · injection e5 with _ e5 _;exact ⟨e5,by omega⟩
  obtain ⟨hnx,hnm⟩:=hn
  subst hnx
  have hblkS:∀ j,blk (Value.slice A xs.length cp)=some j→¬ S1 j:=fun j hj=>(hblk j hj).1
  go_loopw [9] (fun i wr=>∃ (k:Nat) (pre post:List Value) (B:List Nat),k≤xs.length∧i=.int .i64 (k:Int)∧wr.ownsRow 0 43 2 (.slice A xs.length cp) xs.length (pre++post)∧TwinC tab.ty 3 wr (xs.take k) pre B ∧
      ClRep S1 wr (xs.drop k) post∧((blk (.slice A xs.length cp)).toList++B).Nodup∧(∀ j∈B,W1.heap.size≤j∧j<wr.heap.size)∧Fr (fun j=>blk (.slice A xs.length cp)=some j) W1 wr) (fun i wr=>xs.length - valNat i)
  case atStart=>
    refine ⟨0,[],cells,[],Nat.zero_le _,rfl,hown,⟨rfl,rfl⟩,hrc,?_,by simp,Fr.refl _ _⟩
    cases blk (Value.slice A xs.length cp)<;>simp
  case round=>
    obtain ⟨k,pre,post,B,hk,rfl,hown2,htw,hrc2,hnd,hB,hfr⟩:=hrel
    by_cases hlt:k<xs.length
    · have hkl:k<xs.length:=by omega
      obtain ⟨g,rfl⟩:∃ g,A=some ⟨g,0,none⟩:=by
        rcases hown2.2 with ⟨_,h0⟩ | ⟨g,cap,cur,e5,_⟩
        · omega
        · injection e5 with e5 _ _;exact ⟨g,e5⟩
      obtain ⟨cap,cur,e5,hh,hcap,hcm,hcs,htk⟩:=own_cells hown2 (b:=g) rfl
      have hdrop:xs.drop k=xs[k]::xs.drop (k+1):=by rw [List.drop_eq_getElem_cons hkl]
      rw [hdrop] at hrc2
      obtain ⟨hd,cr,hce,hrep,hrc3⟩:=hrc2
      subst hce
      obtain ⟨Ah,ch,ehd,_⟩:=id hrep
      obtain ⟨rfl,_⟩:=List.cons.inj ehd
      have hpl:pre.length=k*2:=by
        rw [htw.length,List.length_take,Nat.min_eq_left (by omega)]
      have hg0:g<W1.heap.size:=(hblk g rfl).2.1
      have hcur:∀ (j:Nat) (u:Value),j<2→([Value.slice Ah xs[k].1.length ch,Value.int .i64 xs[k].2]:List Value)[j]?=some u→cur[k*2+j]?=some u:=fun j u hj hu=>by
        have e1:(pre++Value.slice Ah xs[k].1.length ch::Value.int .i64 xs[k].2::cr)[k*2+j]?=([Value.slice Ah xs[k].1.length ch,Value.int .i64 xs[k].2]:List Value)[j]?:=by
          rw [List.getElem?_append_right (by omega),hpl,show k*2+j - k*2=j by omega]
          match j,hj with
          | 0,_=>rfl
          | 1,_=>rfl
        have htk':cur.toList.take (xs.length*2)=pre++Value.slice Ah xs[k].1.length ch::Value.int .i64 xs[k].2::cr:=htk
        rw [← hu,← e1,← htk',List.getElem?_take,if_pos (by omega),Array.getElem?_toList]
      have hc0:wr.cell? ⟨g,k*2,none⟩=some (.slice Ah xs[k].1.length ch):=by
        have:=hcur 0 _ (by omega) rfl
        rw [Nat.add_zero] at this
        simp [World.cell?,hh,this]
      have hc1:wr.cell? ⟨g,k*2+1,none⟩=some (.int .i64 xs[k].2):=by
        have:=hcur 1 _ (by omega) rfl
        simp [World.cell?,hh,this]
      have hlt':(k:Int)<(xs.length:Int):=by omega
      have hgS:¬ S1 g:=(hblk g rfl).1
      have hgw:g<wr.heap.size:=(Array.getElem?_eq_some_iff.1 hh).1
      have hsz0:W1.heap.size≤wr.heap.size:=hfr.size
      have hci:slices_Clone_int xs[k].1=some ((xs[k].1,()),()):=by unfold slices_Clone_int;rw [show Nat.ble xs[k].1.length 1073741824=true from nble_iff.2 (hx _ (List.getElem_mem _))];rfl
      have hci2:=clone_use (S:=S1) (w:=wr.alloc (.cells #[.slice Ah xs[k].1.length ch,.int .i64 xs[k].2] 43)) (xs:=xs[k].1) (v:=.slice Ah xs[k].1.length ch) slices_Clone_int_good
        (fun q hq=>by have:=(hS1b q hq).1;simp;omega)
        (Rep.frame (t:=.sl 3 (.int .i64)) (fun _ h=>h) (by simp) (fun q hq hql=>RowKit.Below.heap_alloc wr _ q hql) hrep) hci
      go_wp2_with (go_at_call 45;refine hci2.mono ?_)
      rintro e W2 v2 rfl S2 hrow2 hb2 hS2 hS2b f2
      obtain ⟨A2,n2,c2,rfl⟩:∃ A n c,v2=.slice A n c:=by
        obtain ⟨_,⟨_,ho,_⟩,_⟩:=hrow2;exact own_slice ho
      have fa:Fr (fun _=>False) wr W2:=(Fr.alloc _ wr _).trans f2
      have hh2:W2.heap[g]?=some (.cells cur 43 (0,0)):=(fa.block hgw (fun x=>x)).trans hh
      have hc0':W2.cell? ⟨g,k*2,none⟩=some (.slice Ah xs[k].1.length ch):=by
        have:=hcur 0 _ (by omega) rfl
        rw [Nat.add_zero] at this
        simp [World.cell?,hh2,this]
      have hfz:W2.frozen? ⟨g,k*2,none⟩=false:=by simp [World.frozen?,hh2]
      go_wp2
      go_roundw
      case rel=>
        have hb2':∀ q,blk (Value.slice A2 n2 c2)=some q→wr.heap.size<q∧q<W2.heap.size:=fun q hq=>by
          have:=hb2 q hq
          exact ⟨by omega,this.2.1⟩
        have hW2:wr.heap.size≤W2.heap.size:=fa.size
        have hset:∀ q,q≠g→(W2.setCell ⟨g,k*2,none⟩ (.slice A2 n2 c2)).heap[q]?=W2.heap[q]?:=fun q hq=>RowKit.Below.heap_setCell W2 _ _ q hq
        have hBg:∀ q∈B,q≠g:=fun q hq e=>by
          subst e
          have:([q]++B).Nodup:=hnd
          simp at this
          exact this.1 hq
        refine ⟨k+1,pre++[.slice A2 n2 c2,.int .i64 xs[k].2],cr,B++(blk (Value.slice A2 n2 c2)).toList,hkl,by simp,?_,?_,?_,?_,?_,?_⟩
        · have hownW2:W2.ownsRow 0 43 2 (.slice (some ⟨g,0,none⟩) xs.length cp) xs.length (pre++Value.slice Ah xs[k].1.length ch::Value.int .i64 xs[k].2::cr):=by
            refine ⟨hown2.1,?_⟩
            rcases hown2.2 with ⟨e,_⟩ | ⟨g2,cap2,cur2,e,hg2,hh3,r1,r2,r3,r4⟩
            · cases e
            · have hgg:g=g2:=by injection e with e;injection e with e;injection e
              subst hgg
              exact .inr ⟨g,cap2,cur2,e,hg2,(fa.block hgw (fun x=>x)).trans hh3,r1,r2,r3,r4⟩
          have:=own_setCell (i:=k*2) (u:=.slice A2 n2 c2) hownW2 (by simp [hpl])
          rw [List.set_append_right _ _ (by omega),hpl,Nat.sub_self] at this
          simpa using this
        · have h1:=htw.move (w':=W2.setCell ⟨g,k*2,none⟩ (.slice A2 n2 c2)) (fun q hq=>by
            rw [hset q (hBg q hq),fa.block (hB q hq).2 (fun x=>x)])
          have h2:RowRel tab.ty (fun _=>False) (W2.setCell ⟨g,k*2,none⟩ (.slice A2 n2 c2)) 3 (.int .i64) xs[k].1 (.slice A2 n2 c2) (blk (Value.slice A2 n2 c2)).toList:=intRowRel hrow2 (fun q hq=>by
            have:=hb2' q (by simpa using hq)
            exact hset q (by omega))
          have h3:=twin_snoc (x:=xs[k]) h2 h1
          rw [List.take_succ_eq_append_getElem hkl]
          exact h3
        · refine hrc3.frame (fun _ h=>h) (by simp;omega) (fun q hq hql=>?_)
          rw [hset q (fun e=>hgS (by rw [← e];exact hq)),fa.block hql (fun x=>x)]
        · have h1:([g]++B).Nodup:=hnd
          show ([g]++(B++(blk (Value.slice A2 n2 c2)).toList)).Nodup
          rw [← List.append_assoc]
          refine List.nodup_append.2 ⟨h1,by cases blk (Value.slice A2 n2 c2)<;>simp,fun q hq q' hq' e=>?_⟩
          subst e
          have:=hb2' q (by simpa using hq')
          rcases List.mem_append.1 hq with h | h
          · have:q=g:=by simpa using h
            omega
          · have:=(hB q h).2
            omega
        · intro q hq
          rcases List.mem_append.1 hq with hq | hq
          · have:=hB q hq
            exact ⟨this.1,by simp;omega⟩
          · have:=hb2' q (by simpa using hq)
            exact ⟨by omega,by simp;omega⟩
        · refine (hfr.trans' fa (fun _ _ x=>x.elim)).trans' (Fr.setCell W2 _ _) (fun q _ hq=>?_)
          have hq:q=g:=hq
          rw [hq];rfl
      case measure=>simp [valNat];omega
    · have hlt':¬ (k:Int)<(xs.length:Int):=by omega
      go_wp2
      go_ret
      rw [List.drop_eq_nil_of_le (by omega)] at hrc2
      have hrc2:post=[]:=hrc2
      subst hrc2
      rw [List.append_nil] at hown2
      rw [List.take_of_length_le (by omega)] at htw
      refine ⟨_,rfl,pre,hown2,B,htw,hnd,fun j hj=>?_,?_⟩
      · rcases hj with hj | hj
        · have:=hblk j hj
          exact ⟨this.2.2,Nat.lt_of_lt_of_le this.2.1 hfr.size⟩
        · exact ⟨Nat.le_trans f1.size (hB j hj).1,(hB j hj).2⟩
      · exact f1.trans' hfr (fun j h1 h2=>absurd (hblk j h2).2.2 (by omega))
theorem clus_twin_ok:TwinOk Tryz.prog tab.ty 54 43 3:=⟨⟨_,Tryz.func54,by kernel_rfl,by kernel_rfl⟩,fun w S xs v hS hr hl hx=>twin_at w S xs v hS hr hl hx⟩
end
noncomputable def mid_Far_Γ:Ctx:=[(86,mid_dist_e)]
def mid_Far_fi:Fi:={ keep:=[],vty:=[],vals:=[],live:=[(0,[0,1,2,6]),(1,[0,1,6,9,10,11]),(2,[0,1,6,9,10,11,12]),(3,[0,1,6,8,9,10,11]),(4,[0,1,6,9,10,11]),(5,[0,1,6,9,10,11]),(6,[6])] }
noncomputable def mid_Far_B1 (L1:List (List Int)→Int→Int→List Int→Int→Int→Option ((Int × Unit) × Unit)) (v1:List (List Int)) (v2:Int) (v3:Int) (v4:List Int) (v5:Int) (v6:Int):Option ((Int × Unit) × Unit):=
 bif decide (v6<v5) then
  bif decide (0≤v6)&&decide (v6<(v4.length:Int)) then
   Option.bind (mid_dist v1 v2 (List.getD v4 v6.toNat 0)) fun (r7:(Int × Unit) × Unit)=>
   L1 v1 v2 (if r7.1.1>v3 then r7.1.1 else v3) v4 v5 (IntKind.wrap .i64 (v6+1))
  else none
 else
  some ((v3,()),())
noncomputable def mid_Far_T (L1:List (List Int)→Int→Int→List Int→Int→Int→Option ((Int × Unit) × Unit)) (d_0:List (List Int)) (m_1:Int) (l_2:List Int):Option ((Int × Unit) × Unit):=
 L1 d_0 m_1 0 l_2 (l_2.length:Int) 0
noncomputable def mid_Far_L1 (n:Nat):Nat→List (List Int)→Int→Int→List Int→Int→Int→Option ((Int × Unit) × Unit):=iter (fun _ _ _ _ _ _=>none) fun L=>mid_Far_B1 L
noncomputable def mid_Far_X1 (n m:Nat) (v1:List (List Int)) (v2:Int) (v3:Int) (v4:List Int) (v5:Int) (v6:Int):Option ((Int × Unit) × Unit):=
 atLoop mid_Far_Γ tab (fiB [.val t25,.val t2,.val t41] mid_Far_fi) n [.val t25,.val t2,.val t41] [⟨t2,[false],none⟩] Tryz.f90 [1,0,1,0] [] [0,1,6,9,10,11] m
 ⟨[(0,SV.cv (CV.one (LV.pure t25 v1))),(1,SV.cv (CV.one (LV.pure t2 v2))),(6,SV.cv (CV.one (LV.pure t2 v3))),(9,SV.cv (CV.one (LV.pure t41 v4))),(10,SV.cv (CV.one (LV.pure t2 v5))),(11,SV.cv (CV.one (LV.pure t2 v6)))],
  []⟩
theorem mid_Far_step1 (n m:Nat) (v1:List (List Int)) (v2:Int) (v3:Int) (v4:List Int) (v5:Int) (v6:Int):mid_Far_X1 n (m+1) v1 v2 v3 v4 v5 v6=mid_Far_B1 (mid_Far_X1 n m) v1 v2 v3 v4 v5 v6:=by kernel_rfl
theorem mid_Far_start (n:Nat) (d_0:List (List Int)) (m_1:Int) (l_2:List Int):evFn mid_Far_Γ tab mid_Far_fi n [.val t25,.val t2,.val t41] [⟨t2,[false],none⟩] Tryz.f90 (d_0,m_1,l_2,())=mid_Far_T (mid_Far_X1 n n) d_0 m_1 l_2:=by kernel_rfl
theorem mid_Far_XL1 (n:Nat):∀ m,mid_Far_X1 n m=mid_Far_L1 n m
 | 0=>rfl
 | m+1=>by
  have ih:=mid_Far_XL1 n m
  funext v1 v2 v3 v4 v5 v6
  rw [mid_Far_step1,ih]
  rfl
noncomputable def mid_Far_n (n:Nat) (d_0:List (List Int)) (m_1:Int) (l_2:List Int):Option ((Int × Unit) × Unit):=mid_Far_T (mid_Far_L1 n n) d_0 m_1 l_2
noncomputable def mid_Far (d_0:List (List Int)) (m_1:Int) (l_2:List Int):Option ((Int × Unit) × Unit):=mid_Far_n 1099511627776 d_0 m_1 l_2
theorem mid_Far_eq (n:Nat) (d_0:List (List Int)) (m_1:Int) (l_2:List Int):evFn mid_Far_Γ tab mid_Far_fi n [.val t25,.val t2,.val t41] [⟨t2,[false],none⟩] Tryz.f90 (d_0,m_1,l_2,())=mid_Far_n n d_0 m_1 l_2:=by
  rw [mid_Far_start,mid_Far_XL1 n n]
  rfl
noncomputable def mid_Far_e:Ent:=⟨[.val t25,.val t2,.val t41],[⟨t2,[false],none⟩],fun x=>mid_Far x.1 x.2.1 x.2.2.1⟩
theorem mid_Far_good:Good tab.ty Tryz.prog 90 mid_Far_e:=by
  refine fn_good (Γ:=mid_Far_Γ) (fi:=mid_Far_fi) (n:=1099511627776) follows (gcons mid_dist_good gnil) tabok Tryz.func90 (by kernel_rfl) (by kernel_rfl) (fun x r h=>?_)
  obtain ⟨d_0,m_1,l_2,_u⟩:=x
  exact (mid_Far_eq 1099511627776 d_0 m_1 l_2).trans h
noncomputable def mid_Mid_fn1_Γ:Ctx:=[(90,mid_Far_e)]
def mid_Mid_fn1_fi:Fi:={ keep:=[],vty:=[],vals:=[],live:=[(0,[0,1,2]),(1,[4,5])] }
noncomputable def mid_Mid_fn1 (x_0:Int) (x_1:List (List Int)) (x_2:List Int):Option ((Int × Bool × Unit) × Unit):=
 Option.bind (mid_Far x_1 x_0 x_2) fun (r1:(Int × Unit) × Unit)=>
 some ((r1.1.1,true,()),())
theorem mid_Mid_fn1_eq (x_0:Int) (x_1:List (List Int)) (x_2:List Int):evFn mid_Mid_fn1_Γ tab mid_Mid_fn1_fi 1 [.val t2,.rbox t25,.rbox t41] [⟨t2,[false],none⟩,⟨t4,[false],none⟩] Tryz.f89 (x_0,x_1,x_2,())=mid_Mid_fn1 x_0 x_1 x_2:=by kernel_rfl
noncomputable def mid_Mid_fn1_e:Ent:=⟨[.val t2,.rbox t25,.rbox t41],[⟨t2,[false],none⟩,⟨t4,[false],none⟩],fun x=>mid_Mid_fn1 x.1 x.2.1 x.2.2.1⟩
theorem mid_Mid_fn1_good:Good tab.ty Tryz.prog 89 mid_Mid_fn1_e:=by
  refine fn_good (Γ:=mid_Mid_fn1_Γ) (fi:=mid_Mid_fn1_fi) (n:=1) follows (gcons mid_Far_good gnil) tabok Tryz.func89 (by kernel_rfl) (by kernel_rfl) (fun x r h=>?_)
  obtain ⟨x_0,x_1,x_2,_u⟩:=x
  exact (mid_Mid_fn1_eq x_0 x_1 x_2).trans h
noncomputable def mid_Mid_Γ:Ctx:=[(84,mid_least_e),(89,mid_Mid_fn1_e)]
def mid_Mid_fi:Fi:={ keep:=[],vty:=[],vals:=[],live:=[(0,[2,3]),(1,[4])] }
noncomputable def mid_Mid (d_0:List (List Int)) (l_1:List Int):Option ((Int × Unit) × Unit):=
 Option.bind (mid_least l_1 (fun x=>(mid_Mid_fn1 x.1 d_0 l_1).bind fun r=>some (r.1.1,r.1.2.1,()))) fun (r1:(Int × Unit) × Unit)=>
 some ((r1.1.1,()),())
theorem mid_Mid_eq (d_0:List (List Int)) (l_1:List Int):evFn mid_Mid_Γ tab mid_Mid_fi 1 [.val t25,.val t41] [⟨t2,[false],none⟩] Tryz.f71 (d_0,l_1,())=mid_Mid d_0 l_1:=by kernel_rfl
noncomputable def mid_Mid_e:Ent:=⟨[.val t25,.val t41],[⟨t2,[false],none⟩],fun x=>mid_Mid x.1 x.2.1⟩
theorem mid_Mid_good:Good tab.ty Tryz.prog 71 mid_Mid_e:=by
  refine fn_good (Γ:=mid_Mid_Γ) (fi:=mid_Mid_fi) (n:=1) follows (gcons mid_least_good (gcons mid_Mid_fn1_good gnil)) tabok Tryz.func71 (by kernel_rfl) (by kernel_rfl) (fun x r h=>?_)
  obtain ⟨d_0,l_1,_u⟩:=x
  exact (mid_Mid_eq d_0 l_1).trans h
noncomputable def clus_Of_Γ:Ctx:=[(45,slices_Clone_int_e),(71,mid_Mid_e)]
def clus_Of_fi:Fi:={ keep:=[],vty:=[],vals:=[],live:=[(0,[0,1,4]),(1,[4])] }
noncomputable def clus_Of (d_0:List (List Int)) (l_1:List Int):Option ((((List Int) × Int) × Unit) × Unit):=
 Option.bind (slices_Clone_int l_1) fun (r1:((List Int) × Unit) × Unit)=>
 Option.bind (mid_Mid d_0 l_1) fun (r2:(Int × Unit) × Unit)=>
 some (((r1.1.1,r2.1.1),()),())
theorem clus_Of_eq (d_0:List (List Int)) (l_1:List Int):evFn clus_Of_Γ tab clus_Of_fi 1 [.val t25,.val t41] [⟨t42,[true,false],none⟩] Tryz.f55 (d_0,l_1,())=clus_Of d_0 l_1:=by kernel_rfl
noncomputable def clus_Of_e:Ent:=⟨[.val t25,.val t41],[⟨t42,[true,false],none⟩],fun x=>clus_Of x.1 x.2.1⟩
theorem clus_Of_good:Good tab.ty Tryz.prog 55 clus_Of_e:=by
  refine fn_good (Γ:=clus_Of_Γ) (fi:=clus_Of_fi) (n:=1) follows (gcons slices_Clone_int_good (gcons mid_Mid_good gnil)) tabok Tryz.func55 (by kernel_rfl) (by kernel_rfl) (fun x r h=>?_)
  obtain ⟨d_0,l_1,_u⟩:=x
  exact (clus_Of_eq d_0 l_1).trans h
noncomputable def clus_find_fn1_Γ:Ctx:=[(51,slices_Contains_int_e)]
def clus_find_fn1_fi:Fi:={ keep:=[],vty:=[],vals:=[],live:=[(0,[1,2]),(1,[3])] }
noncomputable def clus_find_fn1 (c_0:(List Int) × Int) (x_1:Int):Option ((Bool × Unit) × Unit):=
 Option.bind (slices_Contains_int c_0.1 x_1) fun (r1:(Bool × Unit) × Unit)=>
 some ((r1.1.1,()),())
theorem clus_find_fn1_eq (c_0:(List Int) × Int) (x_1:Int):evFn clus_find_fn1_Γ tab clus_find_fn1_fi 1 [.val t42,.rbox t2] [⟨t4,[false],none⟩] Tryz.f79 (c_0,x_1,())=clus_find_fn1 c_0 x_1:=by kernel_rfl
noncomputable def clus_find_fn1_e:Ent:=⟨[.val t42,.rbox t2],[⟨t4,[false],none⟩],fun x=>clus_find_fn1 x.1 x.2.1⟩
theorem clus_find_fn1_good:Good tab.ty Tryz.prog 79 clus_find_fn1_e:=by
  refine fn_good (Γ:=clus_find_fn1_Γ) (fi:=clus_find_fn1_fi) (n:=1) follows (gcons slices_Contains_int_good gnil) tabok Tryz.func79 (by kernel_rfl) (by kernel_rfl) (fun x r h=>?_)
  obtain ⟨c_0,x_1,_u⟩:=x
  exact (clus_find_fn1_eq c_0 x_1).trans h
noncomputable def clus_find_Γ:Ctx:=[(49,slices_IndexFunc_Cluster_e),(79,clus_find_fn1_e)]
def clus_find_fi:Fi:={ keep:=[],vty:=[],vals:=[],live:=[(0,[0,3]),(1,[4])] }
noncomputable def clus_find (cs_0:List ((List Int) × Int)) (id_1:Int):Option ((Int × Unit) × Unit):=
 Option.bind (slices_IndexFunc_Cluster cs_0 (fun x=>(clus_find_fn1 x.1 id_1).bind fun r=>some (r.1.1,()))) fun (r1:(Int × Unit) × Unit)=>
 some ((r1.1.1,()),())
theorem clus_find_eq (cs_0:List ((List Int) × Int)) (id_1:Int):evFn clus_find_Γ tab clus_find_fi 1 [.val t40,.val t2] [⟨t2,[false],none⟩] Tryz.f56 (cs_0,id_1,())=clus_find cs_0 id_1:=by kernel_rfl
noncomputable def clus_find_e:Ent:=⟨[.val t40,.val t2],[⟨t2,[false],none⟩],fun x=>clus_find x.1 x.2.1⟩
theorem clus_find_good:Good tab.ty Tryz.prog 56 clus_find_e:=by
  refine fn_good (Γ:=clus_find_Γ) (fi:=clus_find_fi) (n:=1) follows (gcons slices_IndexFunc_Cluster_good (gcons clus_find_fn1_good gnil)) tabok Tryz.func56 (by kernel_rfl) (by kernel_rfl) (fun x r h=>?_)
  obtain ⟨cs_0,id_1,_u⟩:=x
  exact (clus_find_eq cs_0 id_1).trans h
noncomputable def math_bits_Len32_Γ:Ctx:=[]
def math_bits_Len32_fi:Fi:={ keep:=[],vty:=[],vals:=[],live:=[(0,[0,2]),(1,[0,2,4]),(2,[0]),(3,[0,2]),(4,[0,2,8]),(5,[0,2]),(6,[0,2]),(7,[2])] }
noncomputable def math_bits_Len32 (x_0:Int):Option ((Int × Unit) × Unit):=
 bif decide (x_0 ≥ 65536) then
  bif decide (Int.fdiv x_0 (2 ^ 16) ≥ 256) then
   bif decide (0≤IntKind.wrap .u8 (Int.fdiv (Int.fdiv x_0 (2 ^ 16)) (2 ^ 8)))&&decide (IntKind.wrap .u8 (Int.fdiv (Int.fdiv x_0 (2 ^ 16)) (2 ^ 8))<256) then
    some ((IntKind.wrap .i64 (24+(IntKind.wrap .i64 (((⟨#[0,1,2,2,3,3,3,3,4,4,4,4,4,4,4,4,5,5,5,5,5,5,5,5,5,5,5,5,5,5,5,5,6,6,6,6,6,6,6,6,6,6,6,6,6,6,6,6,6,6,6,6,6,6,6,6,6,6,6,6,6,6,6,6,7,7,7,7,7,7,7,7,7,7,7,7,7,7,7,7,7,7,7,7,7,7,7,7,7,7,7,7,7,7,7,7,7,7,7,7,7,7,7,7,7,7,7,7,7,7,7,7,7,7,7,7,7,7,7,7,7,7,7,7,7,7,7,7,8,8,8,8,8,8,8,8,8,8,8,8,8,8,8,8,8,8,8,8,8,8,8,8,8,8,8,8,8,8,8,8,8,8,8,8,8,8,8,8,8,8,8,8,8,8,8,8,8,8,8,8,8,8,8,8,8,8,8,8,8,8,8,8,8,8,8,8,8,8,8,8,8,8,8,8,8,8,8,8,8,8,8,8,8,8,8,8,8,8,8,8,8,8,8,8,8,8,8,8,8,8,8,8,8,8,8,8,8,8,8,8,8,8,8,8,8,8,8,8,8,8,8,8,8,8,8,8]⟩:ByteArray).data.getD ((IntKind.wrap .u8 (Int.fdiv (Int.fdiv x_0 (2 ^ 16)) (2 ^ 8))).toNat) 0).toNat:Int))),()),())
   else none
  else
  bif decide (0≤IntKind.wrap .u8 (Int.fdiv x_0 (2 ^ 16)))&&decide (IntKind.wrap .u8 (Int.fdiv x_0 (2 ^ 16))<256) then
   some ((IntKind.wrap .i64 (16+(IntKind.wrap .i64 (((⟨#[0,1,2,2,3,3,3,3,4,4,4,4,4,4,4,4,5,5,5,5,5,5,5,5,5,5,5,5,5,5,5,5,6,6,6,6,6,6,6,6,6,6,6,6,6,6,6,6,6,6,6,6,6,6,6,6,6,6,6,6,6,6,6,6,7,7,7,7,7,7,7,7,7,7,7,7,7,7,7,7,7,7,7,7,7,7,7,7,7,7,7,7,7,7,7,7,7,7,7,7,7,7,7,7,7,7,7,7,7,7,7,7,7,7,7,7,7,7,7,7,7,7,7,7,7,7,7,7,8,8,8,8,8,8,8,8,8,8,8,8,8,8,8,8,8,8,8,8,8,8,8,8,8,8,8,8,8,8,8,8,8,8,8,8,8,8,8,8,8,8,8,8,8,8,8,8,8,8,8,8,8,8,8,8,8,8,8,8,8,8,8,8,8,8,8,8,8,8,8,8,8,8,8,8,8,8,8,8,8,8,8,8,8,8,8,8,8,8,8,8,8,8,8,8,8,8,8,8,8,8,8,8,8,8,8,8,8,8,8,8,8,8,8,8,8,8,8,8,8,8,8,8,8,8,8,8]⟩:ByteArray).data.getD ((IntKind.wrap .u8 (Int.fdiv x_0 (2 ^ 16))).toNat) 0).toNat:Int))),()),())
  else none
 else
 bif decide (x_0 ≥ 256) then
  bif decide (0≤IntKind.wrap .u8 (Int.fdiv x_0 (2 ^ 8)))&&decide (IntKind.wrap .u8 (Int.fdiv x_0 (2 ^ 8))<256) then
   some ((IntKind.wrap .i64 (8+(IntKind.wrap .i64 (((⟨#[0,1,2,2,3,3,3,3,4,4,4,4,4,4,4,4,5,5,5,5,5,5,5,5,5,5,5,5,5,5,5,5,6,6,6,6,6,6,6,6,6,6,6,6,6,6,6,6,6,6,6,6,6,6,6,6,6,6,6,6,6,6,6,6,7,7,7,7,7,7,7,7,7,7,7,7,7,7,7,7,7,7,7,7,7,7,7,7,7,7,7,7,7,7,7,7,7,7,7,7,7,7,7,7,7,7,7,7,7,7,7,7,7,7,7,7,7,7,7,7,7,7,7,7,7,7,7,7,8,8,8,8,8,8,8,8,8,8,8,8,8,8,8,8,8,8,8,8,8,8,8,8,8,8,8,8,8,8,8,8,8,8,8,8,8,8,8,8,8,8,8,8,8,8,8,8,8,8,8,8,8,8,8,8,8,8,8,8,8,8,8,8,8,8,8,8,8,8,8,8,8,8,8,8,8,8,8,8,8,8,8,8,8,8,8,8,8,8,8,8,8,8,8,8,8,8,8,8,8,8,8,8,8,8,8,8,8,8,8,8,8,8,8,8,8,8,8,8,8,8,8,8,8,8,8,8]⟩:ByteArray).data.getD ((IntKind.wrap .u8 (Int.fdiv x_0 (2 ^ 8))).toNat) 0).toNat:Int))),()),())
  else none
 else
 bif decide (0≤IntKind.wrap .u8 x_0)&&decide (IntKind.wrap .u8 x_0<256) then
  some ((IntKind.wrap .i64 (0+(IntKind.wrap .i64 (((⟨#[0,1,2,2,3,3,3,3,4,4,4,4,4,4,4,4,5,5,5,5,5,5,5,5,5,5,5,5,5,5,5,5,6,6,6,6,6,6,6,6,6,6,6,6,6,6,6,6,6,6,6,6,6,6,6,6,6,6,6,6,6,6,6,6,7,7,7,7,7,7,7,7,7,7,7,7,7,7,7,7,7,7,7,7,7,7,7,7,7,7,7,7,7,7,7,7,7,7,7,7,7,7,7,7,7,7,7,7,7,7,7,7,7,7,7,7,7,7,7,7,7,7,7,7,7,7,7,7,8,8,8,8,8,8,8,8,8,8,8,8,8,8,8,8,8,8,8,8,8,8,8,8,8,8,8,8,8,8,8,8,8,8,8,8,8,8,8,8,8,8,8,8,8,8,8,8,8,8,8,8,8,8,8,8,8,8,8,8,8,8,8,8,8,8,8,8,8,8,8,8,8,8,8,8,8,8,8,8,8,8,8,8,8,8,8,8,8,8,8,8,8,8,8,8,8,8,8,8,8,8,8,8,8,8,8,8,8,8,8,8,8,8,8,8,8,8,8,8,8,8,8,8,8,8,8,8]⟩:ByteArray).data.getD ((IntKind.wrap .u8 x_0).toNat) 0).toNat:Int))),()),())
 else none
theorem math_bits_Len32_eq (x_0:Int):evFn math_bits_Len32_Γ tab math_bits_Len32_fi 1 [.val t107] [⟨t2,[false],none⟩] Tryz.f100 (x_0,())=math_bits_Len32 x_0:=by kernel_rfl
noncomputable def math_bits_Len32_e:Ent:=⟨[.val t107],[⟨t2,[false],none⟩],fun x=>math_bits_Len32 x.1⟩
theorem math_bits_Len32_good:Good tab.ty Tryz.prog 100 math_bits_Len32_e:=by
  refine fn_good (Γ:=math_bits_Len32_Γ) (fi:=math_bits_Len32_fi) (n:=1) follows gnil tabok Tryz.func100 (by kernel_rfl) (by kernel_rfl) (fun x r h=>?_)
  obtain ⟨x_0,_u⟩:=x
  exact (math_bits_Len32_eq x_0).trans h
noncomputable def math_bits_Len64_Γ:Ctx:=[]
def math_bits_Len64_fi:Fi:={ keep:=[],vty:=[],vals:=[],live:=[(0,[0,2]),(1,[0,2,4]),(2,[0]),(3,[0,2]),(4,[0,2,8]),(5,[0,2]),(6,[0,2]),(7,[0,2,14]),(8,[0,2]),(9,[0,2]),(10,[2])] }
noncomputable def math_bits_Len64 (x_0:Int):Option ((Int × Unit) × Unit):=
 bif decide (x_0 ≥ 4294967296) then
  bif decide (Int.fdiv x_0 (2 ^ 32) ≥ 65536) then
   bif decide (Int.fdiv (Int.fdiv x_0 (2 ^ 32)) (2 ^ 16) ≥ 256) then
    bif decide (0≤IntKind.wrap .u8 (Int.fdiv (Int.fdiv (Int.fdiv x_0 (2 ^ 32)) (2 ^ 16)) (2 ^ 8)))&&decide (IntKind.wrap .u8 (Int.fdiv (Int.fdiv (Int.fdiv x_0 (2 ^ 32)) (2 ^ 16)) (2 ^ 8))<256) then
     some ((IntKind.wrap .i64 (56+(IntKind.wrap .i64 (((⟨#[0,1,2,2,3,3,3,3,4,4,4,4,4,4,4,4,5,5,5,5,5,5,5,5,5,5,5,5,5,5,5,5,6,6,6,6,6,6,6,6,6,6,6,6,6,6,6,6,6,6,6,6,6,6,6,6,6,6,6,6,6,6,6,6,7,7,7,7,7,7,7,7,7,7,7,7,7,7,7,7,7,7,7,7,7,7,7,7,7,7,7,7,7,7,7,7,7,7,7,7,7,7,7,7,7,7,7,7,7,7,7,7,7,7,7,7,7,7,7,7,7,7,7,7,7,7,7,7,8,8,8,8,8,8,8,8,8,8,8,8,8,8,8,8,8,8,8,8,8,8,8,8,8,8,8,8,8,8,8,8,8,8,8,8,8,8,8,8,8,8,8,8,8,8,8,8,8,8,8,8,8,8,8,8,8,8,8,8,8,8,8,8,8,8,8,8,8,8,8,8,8,8,8,8,8,8,8,8,8,8,8,8,8,8,8,8,8,8,8,8,8,8,8,8,8,8,8,8,8,8,8,8,8,8,8,8,8,8,8,8,8,8,8,8,8,8,8,8,8,8,8,8,8,8,8,8]⟩:ByteArray).data.getD ((IntKind.wrap .u8 (Int.fdiv (Int.fdiv (Int.fdiv x_0 (2 ^ 32)) (2 ^ 16)) (2 ^ 8))).toNat) 0).toNat:Int))),()),())
    else none
   else
   bif decide (0≤IntKind.wrap .u8 (Int.fdiv (Int.fdiv x_0 (2 ^ 32)) (2 ^ 16)))&&decide (IntKind.wrap .u8 (Int.fdiv (Int.fdiv x_0 (2 ^ 32)) (2 ^ 16))<256) then
    some ((IntKind.wrap .i64 (48+(IntKind.wrap .i64 (((⟨#[0,1,2,2,3,3,3,3,4,4,4,4,4,4,4,4,5,5,5,5,5,5,5,5,5,5,5,5,5,5,5,5,6,6,6,6,6,6,6,6,6,6,6,6,6,6,6,6,6,6,6,6,6,6,6,6,6,6,6,6,6,6,6,6,7,7,7,7,7,7,7,7,7,7,7,7,7,7,7,7,7,7,7,7,7,7,7,7,7,7,7,7,7,7,7,7,7,7,7,7,7,7,7,7,7,7,7,7,7,7,7,7,7,7,7,7,7,7,7,7,7,7,7,7,7,7,7,7,8,8,8,8,8,8,8,8,8,8,8,8,8,8,8,8,8,8,8,8,8,8,8,8,8,8,8,8,8,8,8,8,8,8,8,8,8,8,8,8,8,8,8,8,8,8,8,8,8,8,8,8,8,8,8,8,8,8,8,8,8,8,8,8,8,8,8,8,8,8,8,8,8,8,8,8,8,8,8,8,8,8,8,8,8,8,8,8,8,8,8,8,8,8,8,8,8,8,8,8,8,8,8,8,8,8,8,8,8,8,8,8,8,8,8,8,8,8,8,8,8,8,8,8,8,8,8,8]⟩:ByteArray).data.getD ((IntKind.wrap .u8 (Int.fdiv (Int.fdiv x_0 (2 ^ 32)) (2 ^ 16))).toNat) 0).toNat:Int))),()),())
   else none
  else
  bif decide (Int.fdiv x_0 (2 ^ 32) ≥ 256) then
   bif decide (0≤IntKind.wrap .u8 (Int.fdiv (Int.fdiv x_0 (2 ^ 32)) (2 ^ 8)))&&decide (IntKind.wrap .u8 (Int.fdiv (Int.fdiv x_0 (2 ^ 32)) (2 ^ 8))<256) then
    some ((IntKind.wrap .i64 (40+(IntKind.wrap .i64 (((⟨#[0,1,2,2,3,3,3,3,4,4,4,4,4,4,4,4,5,5,5,5,5,5,5,5,5,5,5,5,5,5,5,5,6,6,6,6,6,6,6,6,6,6,6,6,6,6,6,6,6,6,6,6,6,6,6,6,6,6,6,6,6,6,6,6,7,7,7,7,7,7,7,7,7,7,7,7,7,7,7,7,7,7,7,7,7,7,7,7,7,7,7,7,7,7,7,7,7,7,7,7,7,7,7,7,7,7,7,7,7,7,7,7,7,7,7,7,7,7,7,7,7,7,7,7,7,7,7,7,8,8,8,8,8,8,8,8,8,8,8,8,8,8,8,8,8,8,8,8,8,8,8,8,8,8,8,8,8,8,8,8,8,8,8,8,8,8,8,8,8,8,8,8,8,8,8,8,8,8,8,8,8,8,8,8,8,8,8,8,8,8,8,8,8,8,8,8,8,8,8,8,8,8,8,8,8,8,8,8,8,8,8,8,8,8,8,8,8,8,8,8,8,8,8,8,8,8,8,8,8,8,8,8,8,8,8,8,8,8,8,8,8,8,8,8,8,8,8,8,8,8,8,8,8,8,8,8]⟩:ByteArray).data.getD ((IntKind.wrap .u8 (Int.fdiv (Int.fdiv x_0 (2 ^ 32)) (2 ^ 8))).toNat) 0).toNat:Int))),()),())
   else none
  else
  bif decide (0≤IntKind.wrap .u8 (Int.fdiv x_0 (2 ^ 32)))&&decide (IntKind.wrap .u8 (Int.fdiv x_0 (2 ^ 32))<256) then
   some ((IntKind.wrap .i64 (32+(IntKind.wrap .i64 (((⟨#[0,1,2,2,3,3,3,3,4,4,4,4,4,4,4,4,5,5,5,5,5,5,5,5,5,5,5,5,5,5,5,5,6,6,6,6,6,6,6,6,6,6,6,6,6,6,6,6,6,6,6,6,6,6,6,6,6,6,6,6,6,6,6,6,7,7,7,7,7,7,7,7,7,7,7,7,7,7,7,7,7,7,7,7,7,7,7,7,7,7,7,7,7,7,7,7,7,7,7,7,7,7,7,7,7,7,7,7,7,7,7,7,7,7,7,7,7,7,7,7,7,7,7,7,7,7,7,7,8,8,8,8,8,8,8,8,8,8,8,8,8,8,8,8,8,8,8,8,8,8,8,8,8,8,8,8,8,8,8,8,8,8,8,8,8,8,8,8,8,8,8,8,8,8,8,8,8,8,8,8,8,8,8,8,8,8,8,8,8,8,8,8,8,8,8,8,8,8,8,8,8,8,8,8,8,8,8,8,8,8,8,8,8,8,8,8,8,8,8,8,8,8,8,8,8,8,8,8,8,8,8,8,8,8,8,8,8,8,8,8,8,8,8,8,8,8,8,8,8,8,8,8,8,8,8,8]⟩:ByteArray).data.getD ((IntKind.wrap .u8 (Int.fdiv x_0 (2 ^ 32))).toNat) 0).toNat:Int))),()),())
  else none
 else
 bif decide (x_0 ≥ 65536) then
  bif decide (Int.fdiv x_0 (2 ^ 16) ≥ 256) then
   bif decide (0≤IntKind.wrap .u8 (Int.fdiv (Int.fdiv x_0 (2 ^ 16)) (2 ^ 8)))&&decide (IntKind.wrap .u8 (Int.fdiv (Int.fdiv x_0 (2 ^ 16)) (2 ^ 8))<256) then
    some ((IntKind.wrap .i64 (24+(IntKind.wrap .i64 (((⟨#[0,1,2,2,3,3,3,3,4,4,4,4,4,4,4,4,5,5,5,5,5,5,5,5,5,5,5,5,5,5,5,5,6,6,6,6,6,6,6,6,6,6,6,6,6,6,6,6,6,6,6,6,6,6,6,6,6,6,6,6,6,6,6,6,7,7,7,7,7,7,7,7,7,7,7,7,7,7,7,7,7,7,7,7,7,7,7,7,7,7,7,7,7,7,7,7,7,7,7,7,7,7,7,7,7,7,7,7,7,7,7,7,7,7,7,7,7,7,7,7,7,7,7,7,7,7,7,7,8,8,8,8,8,8,8,8,8,8,8,8,8,8,8,8,8,8,8,8,8,8,8,8,8,8,8,8,8,8,8,8,8,8,8,8,8,8,8,8,8,8,8,8,8,8,8,8,8,8,8,8,8,8,8,8,8,8,8,8,8,8,8,8,8,8,8,8,8,8,8,8,8,8,8,8,8,8,8,8,8,8,8,8,8,8,8,8,8,8,8,8,8,8,8,8,8,8,8,8,8,8,8,8,8,8,8,8,8,8,8,8,8,8,8,8,8,8,8,8,8,8,8,8,8,8,8,8]⟩:ByteArray).data.getD ((IntKind.wrap .u8 (Int.fdiv (Int.fdiv x_0 (2 ^ 16)) (2 ^ 8))).toNat) 0).toNat:Int))),()),())
   else none
  else
  bif decide (0≤IntKind.wrap .u8 (Int.fdiv x_0 (2 ^ 16)))&&decide (IntKind.wrap .u8 (Int.fdiv x_0 (2 ^ 16))<256) then
   some ((IntKind.wrap .i64 (16+(IntKind.wrap .i64 (((⟨#[0,1,2,2,3,3,3,3,4,4,4,4,4,4,4,4,5,5,5,5,5,5,5,5,5,5,5,5,5,5,5,5,6,6,6,6,6,6,6,6,6,6,6,6,6,6,6,6,6,6,6,6,6,6,6,6,6,6,6,6,6,6,6,6,7,7,7,7,7,7,7,7,7,7,7,7,7,7,7,7,7,7,7,7,7,7,7,7,7,7,7,7,7,7,7,7,7,7,7,7,7,7,7,7,7,7,7,7,7,7,7,7,7,7,7,7,7,7,7,7,7,7,7,7,7,7,7,7,8,8,8,8,8,8,8,8,8,8,8,8,8,8,8,8,8,8,8,8,8,8,8,8,8,8,8,8,8,8,8,8,8,8,8,8,8,8,8,8,8,8,8,8,8,8,8,8,8,8,8,8,8,8,8,8,8,8,8,8,8,8,8,8,8,8,8,8,8,8,8,8,8,8,8,8,8,8,8,8,8,8,8,8,8,8,8,8,8,8,8,8,8,8,8,8,8,8,8,8,8,8,8,8,8,8,8,8,8,8,8,8,8,8,8,8,8,8,8,8,8,8,8,8,8,8,8,8]⟩:ByteArray).data.getD ((IntKind.wrap .u8 (Int.fdiv x_0 (2 ^ 16))).toNat) 0).toNat:Int))),()),())
  else none
 else
 bif decide (x_0 ≥ 256) then
  bif decide (0≤IntKind.wrap .u8 (Int.fdiv x_0 (2 ^ 8)))&&decide (IntKind.wrap .u8 (Int.fdiv x_0 (2 ^ 8))<256) then
   some ((IntKind.wrap .i64 (8+(IntKind.wrap .i64 (((⟨#[0,1,2,2,3,3,3,3,4,4,4,4,4,4,4,4,5,5,5,5,5,5,5,5,5,5,5,5,5,5,5,5,6,6,6,6,6,6,6,6,6,6,6,6,6,6,6,6,6,6,6,6,6,6,6,6,6,6,6,6,6,6,6,6,7,7,7,7,7,7,7,7,7,7,7,7,7,7,7,7,7,7,7,7,7,7,7,7,7,7,7,7,7,7,7,7,7,7,7,7,7,7,7,7,7,7,7,7,7,7,7,7,7,7,7,7,7,7,7,7,7,7,7,7,7,7,7,7,8,8,8,8,8,8,8,8,8,8,8,8,8,8,8,8,8,8,8,8,8,8,8,8,8,8,8,8,8,8,8,8,8,8,8,8,8,8,8,8,8,8,8,8,8,8,8,8,8,8,8,8,8,8,8,8,8,8,8,8,8,8,8,8,8,8,8,8,8,8,8,8,8,8,8,8,8,8,8,8,8,8,8,8,8,8,8,8,8,8,8,8,8,8,8,8,8,8,8,8,8,8,8,8,8,8,8,8,8,8,8,8,8,8,8,8,8,8,8,8,8,8,8,8,8,8,8,8]⟩:ByteArray).data.getD ((IntKind.wrap .u8 (Int.fdiv x_0 (2 ^ 8))).toNat) 0).toNat:Int))),()),())
  else none
 else
 bif decide (0≤IntKind.wrap .u8 x_0)&&decide (IntKind.wrap .u8 x_0<256) then
  some ((IntKind.wrap .i64 (0+(IntKind.wrap .i64 (((⟨#[0,1,2,2,3,3,3,3,4,4,4,4,4,4,4,4,5,5,5,5,5,5,5,5,5,5,5,5,5,5,5,5,6,6,6,6,6,6,6,6,6,6,6,6,6,6,6,6,6,6,6,6,6,6,6,6,6,6,6,6,6,6,6,6,7,7,7,7,7,7,7,7,7,7,7,7,7,7,7,7,7,7,7,7,7,7,7,7,7,7,7,7,7,7,7,7,7,7,7,7,7,7,7,7,7,7,7,7,7,7,7,7,7,7,7,7,7,7,7,7,7,7,7,7,7,7,7,7,8,8,8,8,8,8,8,8,8,8,8,8,8,8,8,8,8,8,8,8,8,8,8,8,8,8,8,8,8,8,8,8,8,8,8,8,8,8,8,8,8,8,8,8,8,8,8,8,8,8,8,8,8,8,8,8,8,8,8,8,8,8,8,8,8,8,8,8,8,8,8,8,8,8,8,8,8,8,8,8,8,8,8,8,8,8,8,8,8,8,8,8,8,8,8,8,8,8,8,8,8,8,8,8,8,8,8,8,8,8,8,8,8,8,8,8,8,8,8,8,8,8,8,8,8,8,8,8]⟩:ByteArray).data.getD ((IntKind.wrap .u8 x_0).toNat) 0).toNat:Int))),()),())
 else none
theorem math_bits_Len64_eq (x_0:Int):evFn math_bits_Len64_Γ tab math_bits_Len64_fi 1 [.val t12] [⟨t2,[false],none⟩] Tryz.f101 (x_0,())=math_bits_Len64 x_0:=by kernel_rfl
noncomputable def math_bits_Len64_e:Ent:=⟨[.val t12],[⟨t2,[false],none⟩],fun x=>math_bits_Len64 x.1⟩
theorem math_bits_Len64_good:Good tab.ty Tryz.prog 101 math_bits_Len64_e:=by
  refine fn_good (Γ:=math_bits_Len64_Γ) (fi:=math_bits_Len64_fi) (n:=1) follows gnil tabok Tryz.func101 (by kernel_rfl) (by kernel_rfl) (fun x r h=>?_)
  obtain ⟨x_0,_u⟩:=x
  exact (math_bits_Len64_eq x_0).trans h
noncomputable def math_bits_Len_Γ:Ctx:=[(101,math_bits_Len64_e)]
def math_bits_Len_fi:Fi:={ keep:=[],vty:=[],vals:=[],live:=[(0,[0]),(1,[2]),(2,[2])] }
noncomputable def math_bits_Len (x_0:Int):Option ((Int × Unit) × Unit):=
 Option.bind (math_bits_Len64 x_0) fun (r1:(Int × Unit) × Unit)=>
 some ((r1.1.1,()),())
theorem math_bits_Len_eq (x_0:Int):evFn math_bits_Len_Γ tab math_bits_Len_fi 1 [.val t12] [⟨t2,[false],none⟩] Tryz.f81 (x_0,())=math_bits_Len x_0:=by kernel_rfl
noncomputable def math_bits_Len_e:Ent:=⟨[.val t12],[⟨t2,[false],none⟩],fun x=>math_bits_Len x.1⟩
theorem math_bits_Len_good:Good tab.ty Tryz.prog 81 math_bits_Len_e:=by
  refine fn_good (Γ:=math_bits_Len_Γ) (fi:=math_bits_Len_fi) (n:=1) follows (gcons math_bits_Len64_good gnil) tabok Tryz.func81 (by kernel_rfl) (by kernel_rfl) (fun x r h=>?_)
  obtain ⟨x_0,_u⟩:=x
  exact (math_bits_Len_eq x_0).trans h
noncomputable def cmp_isNaN_int_Γ:Ctx:=[]
def cmp_isNaN_int_fi:Fi:={ keep:=[],vty:=[],vals:=[],live:=[(0,[0]),(1,[2])] }
noncomputable def cmp_isNaN_int (x_0:Int):Option ((Bool × Unit) × Unit):=
 some ((x_0 != x_0,()),())
theorem cmp_isNaN_int_eq (x_0:Int):evFn cmp_isNaN_int_Γ tab cmp_isNaN_int_fi 1 [.val t2] [⟨t4,[false],none⟩] Tryz.f111 (x_0,())=cmp_isNaN_int x_0:=by kernel_rfl
noncomputable def cmp_isNaN_int_e:Ent:=⟨[.val t2],[⟨t4,[false],none⟩],fun x=>cmp_isNaN_int x.1⟩
theorem cmp_isNaN_int_good:Good tab.ty Tryz.prog 111 cmp_isNaN_int_e:=by
  refine fn_good (Γ:=cmp_isNaN_int_Γ) (fi:=cmp_isNaN_int_fi) (n:=1) follows gnil tabok Tryz.func111 (by kernel_rfl) (by kernel_rfl) (fun x r h=>?_)
  obtain ⟨x_0,_u⟩:=x
  exact (cmp_isNaN_int_eq x_0).trans h
noncomputable def cmp_Less_int_Γ:Ctx:=[(111,cmp_isNaN_int_e)]
def cmp_Less_int_fi:Fi:={ keep:=[],vty:=[],vals:=[],live:=[(0,[0,1,8,9,10,13,14,15]),(1,[4])] }
noncomputable def cmp_Less_int (x_0:Int) (y_1:Int):Option ((Bool × Unit) × Unit):=
 Option.bind (cmp_isNaN_int x_0) fun (r1:(Bool × Unit) × Unit)=>
 bif r1.1.1 then
  Option.bind (cmp_isNaN_int y_1) fun (r2:(Bool × Unit) × Unit)=>
  bif !r2.1.1 then
   some ((true,()),())
  else
   some ((decide (x_0<y_1),()),())
 else
  some ((decide (x_0<y_1),()),())
theorem cmp_Less_int_eq (x_0:Int) (y_1:Int):evFn cmp_Less_int_Γ tab cmp_Less_int_fi 1 [.val t2,.val t2] [⟨t4,[false],none⟩] Tryz.f97 (x_0,y_1,())=cmp_Less_int x_0 y_1:=by kernel_rfl
noncomputable def cmp_Less_int_e:Ent:=⟨[.val t2,.val t2],[⟨t4,[false],none⟩],fun x=>cmp_Less_int x.1 x.2.1⟩
theorem cmp_Less_int_good:Good tab.ty Tryz.prog 97 cmp_Less_int_e:=by
  refine fn_good (Γ:=cmp_Less_int_Γ) (fi:=cmp_Less_int_fi) (n:=1) follows (gcons cmp_isNaN_int_good gnil) tabok Tryz.func97 (by kernel_rfl) (by kernel_rfl) (fun x r h=>?_)
  obtain ⟨x_0,y_1,_u⟩:=x
  exact (cmp_Less_int_eq x_0 y_1).trans h
noncomputable def slices_insertionSortOrdered_int_Γ:Ctx:=[(97,cmp_Less_int_e)]
def slices_insertionSortOrdered_int_fi:Fi:={ keep:=[],vty:=[],vals:=[],live:=[(0,[0,1,2,6,20,21,22,23,24,25,26,27,28,29]),(1,[0,1,2,6,12,20,21,22,23,24,25,26,27,28,29]),(2,[0,1,2,6,20,21,22,23,24,25,26,27,28,29]),(3,[0,1,2,6,7,20,21,22,23,24,25,26,27,28,29]),(4,[0,1,2,6,7,20,21,22,23,24,25,26,27,28,29,30]),(5,[0,1,2,6,7,20,21,22,23,24,25,26,27,28,29]),(6,[0,1,2,6,7,20,21,22,23,24,25,26,27,28,29])] }
noncomputable def slices_insertionSortOrdered_int_B1 (L2:Int→Int→Int→Int→List Int→Option (Unit × (List Int × Unit))) (v1:Int) (v2:Int) (v3:Int) (v4:List Int):Option (Unit × (List Int × Unit)):=
 bif decide (v3<v2) then
  L2 v1 v2 v3 v3 v4
 else
  some ((),(v4,()))
noncomputable def slices_insertionSortOrdered_int_B2 (L2:Int→Int→Int→Int→List Int→Option (Unit × (List Int × Unit))) (L1:Int→Int→Int→List Int→Option (Unit × (List Int × Unit))) (v5:Int) (v6:Int) (v7:Int) (v8:Int) (v9:List Int):Option (Unit × (List Int × Unit)):=
 bif decide (v8>v5) then
  bif decide (0≤v8)&&decide (v8<(v9.length:Int)) then
   bif decide (0≤v8)&&decide (v8<(v9.length:Int)) then
    bif decide (0≤IntKind.wrap .i64 (v8 - 1))&&decide (IntKind.wrap .i64 (v8 - 1)<(v9.length:Int)) then
     bif decide (0≤IntKind.wrap .i64 (v8 - 1))&&decide (IntKind.wrap .i64 (v8 - 1)<(v9.length:Int)) then
      Option.bind (cmp_Less_int (List.getD v9 v8.toNat 0) (List.getD v9 ((IntKind.wrap .i64 (v8 - 1)).toNat) 0)) fun (r10:(Bool × Unit) × Unit)=>
      bif r10.1.1 then
       bif decide (0≤IntKind.wrap .i64 (v8 - 1))&&decide (IntKind.wrap .i64 (v8 - 1)<(v9.length:Int)) then
        bif decide (0≤IntKind.wrap .i64 (v8 - 1))&&decide (IntKind.wrap .i64 (v8 - 1)<(v9.length:Int)) then
         bif decide (0≤v8)&&decide (v8<(v9.length:Int)) then
          bif decide (0≤v8)&&decide (v8<(v9.length:Int)) then
           bif decide (0≤v8)&&decide (v8<(v9.length:Int)) then
            bif decide (0≤v8)&&decide (v8<(v9.length:Int)) then
            bif decide (0≤IntKind.wrap .i64 (v8 - 1))&&decide (IntKind.wrap .i64 (v8 - 1)<((List.set v9 v8.toNat (List.getD v9 ((IntKind.wrap .i64 (v8 - 1)).toNat) 0)).length:Int)) then
            bif decide (0≤IntKind.wrap .i64 (v8 - 1))&&decide (IntKind.wrap .i64 (v8 - 1)<((List.set v9 v8.toNat (List.getD v9 ((IntKind.wrap .i64 (v8 - 1)).toNat) 0)).length:Int)) then
            L2 v5 v6 v7 (IntKind.wrap .i64 (v8 - 1)) (List.set (List.set v9 v8.toNat (List.getD v9 ((IntKind.wrap .i64 (v8 - 1)).toNat) 0)) ((IntKind.wrap .i64 (v8 - 1)).toNat) (List.getD v9 v8.toNat 0))
            else none
            else none
            else none
           else none
          else none
         else none
        else none
       else none
      else
       L1 v5 v6 (IntKind.wrap .i64 (v7+1)) v9
     else none
    else none
   else none
  else none
 else
  L1 v5 v6 (IntKind.wrap .i64 (v7+1)) v9
noncomputable def slices_insertionSortOrdered_int_T (L1:Int→Int→Int→List Int→Option (Unit × (List Int × Unit))) (data_0:List Int) (a_1:Int) (b_2:Int):Option (Unit × (List Int × Unit)):=
 L1 a_1 b_2 (IntKind.wrap .i64 (a_1+1)) data_0
noncomputable def slices_insertionSortOrdered_int_L2 (n:Nat) (m1:Nat) (r1:Int→Int→Int→List Int→Option (Unit × (List Int × Unit))):Nat→Int→Int→Int→Int→List Int→Option (Unit × (List Int × Unit)):=iter (fun _ _ _ _ _=>none) fun L=>slices_insertionSortOrdered_int_B2 L r1
noncomputable def slices_insertionSortOrdered_int_L1 (n:Nat):Nat→Int→Int→Int→List Int→Option (Unit × (List Int × Unit)):=iterN (fun _ _ _ _=>none) fun m L=>slices_insertionSortOrdered_int_B1 (slices_insertionSortOrdered_int_L2 n m L n)
noncomputable def slices_insertionSortOrdered_int_X1 (n m:Nat) (v1:Int) (v2:Int) (v3:Int) (v4:List Int):Option (Unit × (List Int × Unit)):=
 atLoop slices_insertionSortOrdered_int_Γ tab (fiB [.io 3 t2,.val t2,.val t2] slices_insertionSortOrdered_int_fi) n [.io 3 t2,.val t2,.val t2] [] Tryz.f91 [1,0] [] [0,1,2,6] m
 ⟨[(0,SV.cv (CV.one (LV.ref (888888,0)))),(1,SV.cv (CV.one (LV.pure t2 v1))),(2,SV.cv (CV.one (LV.pure t2 v2))),(6,SV.cv (CV.one (LV.pure t2 v3)))],
  [((888888,0),Ob.row 3 t2 v4)]⟩
noncomputable def slices_insertionSortOrdered_int_X2 (n m1 m:Nat) (v5:Int) (v6:Int) (v7:Int) (v8:Int) (v9:List Int):Option (Unit × (List Int × Unit)):=
 atLoop slices_insertionSortOrdered_int_Γ tab (fiB [.io 3 t2,.val t2,.val t2] slices_insertionSortOrdered_int_fi) n [.io 3 t2,.val t2,.val t2] [] Tryz.f91 [1,0,0,1,0,0,1,0] [(m1,[0,1,2,6])] [0,1,2,6,7] m
 ⟨[(0,SV.cv (CV.one (LV.ref (888888,0)))),(1,SV.cv (CV.one (LV.pure t2 v5))),(2,SV.cv (CV.one (LV.pure t2 v6))),(6,SV.cv (CV.one (LV.pure t2 v7))),(7,SV.cv (CV.one (LV.pure t2 v8)))],
  [((888888,0),Ob.row 3 t2 v9)]⟩
theorem slices_insertionSortOrdered_int_step1 (n m:Nat) (v1:Int) (v2:Int) (v3:Int) (v4:List Int):slices_insertionSortOrdered_int_X1 n (m+1) v1 v2 v3 v4=slices_insertionSortOrdered_int_B1 (slices_insertionSortOrdered_int_X2 n m n) v1 v2 v3 v4:=by kernel_rfl
theorem slices_insertionSortOrdered_int_step2 (n m1 m:Nat) (v5:Int) (v6:Int) (v7:Int) (v8:Int) (v9:List Int):slices_insertionSortOrdered_int_X2 n m1 (m+1) v5 v6 v7 v8 v9=slices_insertionSortOrdered_int_B2 (slices_insertionSortOrdered_int_X2 n m1 m) (slices_insertionSortOrdered_int_X1 n m1) v5 v6 v7 v8 v9:=by kernel_rfl
theorem slices_insertionSortOrdered_int_start (n:Nat) (data_0:List Int) (a_1:Int) (b_2:Int):evFn slices_insertionSortOrdered_int_Γ tab slices_insertionSortOrdered_int_fi n [.io 3 t2,.val t2,.val t2] [] Tryz.f91 (data_0,a_1,b_2,())=slices_insertionSortOrdered_int_T (slices_insertionSortOrdered_int_X1 n n) data_0 a_1 b_2:=by kernel_rfl
theorem slices_insertionSortOrdered_int_XL2 (n:Nat) (m1:Nat) (r1:Int→Int→Int→List Int→Option (Unit × (List Int × Unit))) (h1:slices_insertionSortOrdered_int_X1 n m1=r1):∀ m,slices_insertionSortOrdered_int_X2 n m1 m=slices_insertionSortOrdered_int_L2 n m1 r1 m
 | 0=>rfl
 | m+1=>by
  have ih:=slices_insertionSortOrdered_int_XL2 n m1 r1 h1 m
  funext v5 v6 v7 v8 v9
  rw [slices_insertionSortOrdered_int_step2,ih,h1]
  rfl
theorem slices_insertionSortOrdered_int_XL1 (n:Nat):∀ m,slices_insertionSortOrdered_int_X1 n m=slices_insertionSortOrdered_int_L1 n m
 | 0=>rfl
 | m+1=>by
  have ih:=slices_insertionSortOrdered_int_XL1 n m
  funext v1 v2 v3 v4
  rw [slices_insertionSortOrdered_int_step1,slices_insertionSortOrdered_int_XL2 n m _ ih n]
  rfl
noncomputable def slices_insertionSortOrdered_int_n (n:Nat) (data_0:List Int) (a_1:Int) (b_2:Int):Option (Unit × (List Int × Unit)):=slices_insertionSortOrdered_int_T (slices_insertionSortOrdered_int_L1 n n) data_0 a_1 b_2
noncomputable def slices_insertionSortOrdered_int (data_0:List Int) (a_1:Int) (b_2:Int):Option (Unit × (List Int × Unit)):=slices_insertionSortOrdered_int_n 1099511627776 data_0 a_1 b_2
theorem slices_insertionSortOrdered_int_eq (n:Nat) (data_0:List Int) (a_1:Int) (b_2:Int):evFn slices_insertionSortOrdered_int_Γ tab slices_insertionSortOrdered_int_fi n [.io 3 t2,.val t2,.val t2] [] Tryz.f91 (data_0,a_1,b_2,())=slices_insertionSortOrdered_int_n n data_0 a_1 b_2:=by
  rw [slices_insertionSortOrdered_int_start,slices_insertionSortOrdered_int_XL1 n n]
  rfl
noncomputable def slices_insertionSortOrdered_int_e:Ent:=⟨[.io 3 t2,.val t2,.val t2],[],fun x=>slices_insertionSortOrdered_int x.1 x.2.1 x.2.2.1⟩
theorem slices_insertionSortOrdered_int_good:Good tab.ty Tryz.prog 91 slices_insertionSortOrdered_int_e:=by
  refine fn_good (Γ:=slices_insertionSortOrdered_int_Γ) (fi:=slices_insertionSortOrdered_int_fi) (n:=1099511627776) follows (gcons cmp_Less_int_good gnil) tabok Tryz.func91 (by kernel_rfl) (by kernel_rfl) (fun x r h=>?_)
  obtain ⟨data_0,a_1,b_2,_u⟩:=x
  exact (slices_insertionSortOrdered_int_eq 1099511627776 data_0 a_1 b_2).trans h
noncomputable def slices_nextPowerOfTwo_Γ:Ctx:=[(81,math_bits_Len_e)]
def slices_nextPowerOfTwo_fi:Fi:={ keep:=[],vty:=[],vals:=[],live:=[(0,[0]),(1,[2])] }
noncomputable def slices_nextPowerOfTwo (length_0:Int):Option ((Int × Unit) × Unit):=
 Option.bind (math_bits_Len (IntKind.wrap .u64 length_0)) fun (r1:(Int × Unit) × Unit)=>
 bif decide (0≤r1.1.1) then
  some ((IntKind.wrap .u64 (1*2 ^ (min r1.1.1.toNat 64)),()),())
 else none
theorem slices_nextPowerOfTwo_eq (length_0:Int):evFn slices_nextPowerOfTwo_Γ tab slices_nextPowerOfTwo_fi 1 [.val t2] [⟨t12,[false],none⟩] Tryz.f107 (length_0,())=slices_nextPowerOfTwo length_0:=by kernel_rfl
noncomputable def slices_nextPowerOfTwo_e:Ent:=⟨[.val t2],[⟨t12,[false],none⟩],fun x=>slices_nextPowerOfTwo x.1⟩
theorem slices_nextPowerOfTwo_good:Good tab.ty Tryz.prog 107 slices_nextPowerOfTwo_e:=by
  refine fn_good (Γ:=slices_nextPowerOfTwo_Γ) (fi:=slices_nextPowerOfTwo_fi) (n:=1) follows (gcons math_bits_Len_good gnil) tabok Tryz.func107 (by kernel_rfl) (by kernel_rfl) (fun x r h=>?_)
  obtain ⟨length_0,_u⟩:=x
  exact (slices_nextPowerOfTwo_eq length_0).trans h
noncomputable def slices_xorshift_Next_Γ:Ctx:=[]
def slices_xorshift_Next_fi:Fi:={ keep:=[],vty:=[],vals:=[],live:=[(0,[0]),(1,[0]),(2,[0]),(3,[0]),(4,[0,2])] }
noncomputable def slices_xorshift_Next (r_0:Int):Option ((Int × Unit) × (Int × Unit)):=
 some ((IntKind.wrap .u64 ((BitVec.ofInt 64 (IntKind.wrap .u64 ((BitVec.ofInt 64 (IntKind.wrap .u64 ((BitVec.ofInt 64 r_0 ^^^ BitVec.ofInt 64 (IntKind.wrap .u64 (r_0*2 ^ 13))).toNat)) ^^^ BitVec.ofInt 64 (Int.fdiv (IntKind.wrap .u64 ((BitVec.ofInt 64 r_0 ^^^ BitVec.ofInt 64 (IntKind.wrap .u64 (r_0*2 ^ 13))).toNat)) (2 ^ 7))).toNat)) ^^^ BitVec.ofInt 64 (IntKind.wrap .u64 ((IntKind.wrap .u64 ((BitVec.ofInt 64 (IntKind.wrap .u64 ((BitVec.ofInt 64 r_0 ^^^ BitVec.ofInt 64 (IntKind.wrap .u64 (r_0*2 ^ 13))).toNat)) ^^^ BitVec.ofInt 64 (Int.fdiv (IntKind.wrap .u64 ((BitVec.ofInt 64 r_0 ^^^ BitVec.ofInt 64 (IntKind.wrap .u64 (r_0*2 ^ 13))).toNat)) (2 ^ 7))).toNat))*2 ^ 17))).toNat),()),(IntKind.wrap .u64 ((BitVec.ofInt 64 (IntKind.wrap .u64 ((BitVec.ofInt 64 (IntKind.wrap .u64 ((BitVec.ofInt 64 r_0 ^^^ BitVec.ofInt 64 (IntKind.wrap .u64 (r_0*2 ^ 13))).toNat)) ^^^ BitVec.ofInt 64 (Int.fdiv (IntKind.wrap .u64 ((BitVec.ofInt 64 r_0 ^^^ BitVec.ofInt 64 (IntKind.wrap .u64 (r_0*2 ^ 13))).toNat)) (2 ^ 7))).toNat)) ^^^ BitVec.ofInt 64 (IntKind.wrap .u64 ((IntKind.wrap .u64 ((BitVec.ofInt 64 (IntKind.wrap .u64 ((BitVec.ofInt 64 r_0 ^^^ BitVec.ofInt 64 (IntKind.wrap .u64 (r_0*2 ^ 13))).toNat)) ^^^ BitVec.ofInt 64 (Int.fdiv (IntKind.wrap .u64 ((BitVec.ofInt 64 r_0 ^^^ BitVec.ofInt 64 (IntKind.wrap .u64 (r_0*2 ^ 13))).toNat)) (2 ^ 7))).toNat))*2 ^ 17))).toNat),()))
theorem slices_xorshift_Next_eq (r_0:Int):evFn slices_xorshift_Next_Γ tab slices_xorshift_Next_fi 1 [.box 114 t12 [false]] [⟨t12,[false],none⟩] Tryz.f108 (r_0,())=slices_xorshift_Next r_0:=by kernel_rfl
noncomputable def slices_xorshift_Next_e:Ent:=⟨[.box 114 t12 [false]],[⟨t12,[false],none⟩],fun x=>slices_xorshift_Next x.1⟩
theorem slices_xorshift_Next_good:Good tab.ty Tryz.prog 108 slices_xorshift_Next_e:=by
  refine fn_good (Γ:=slices_xorshift_Next_Γ) (fi:=slices_xorshift_Next_fi) (n:=1) follows gnil tabok Tryz.func108 (by kernel_rfl) (by kernel_rfl) (fun x r h=>?_)
  obtain ⟨r_0,_u⟩:=x
  exact (slices_xorshift_Next_eq r_0).trans h
noncomputable def slices_order2Ordered_int_Γ:Ctx:=[(97,cmp_Less_int_e)]
def slices_order2Ordered_int_fi:Fi:={ keep:=[],vty:=[],vals:=[],live:=[(0,[3,0,1,2]),(1,[3,1,2,18]),(2,[3,1,2]),(3,[3,8,9]),(4,[3,8,9])] }
noncomputable def slices_order2Ordered_int (data_0:List Int) (a_1:Int) (b_2:Int) (swaps_3:Int):Option ((Int × Int × Unit) × (Int × Unit)):=
 bif decide (0≤b_2)&&decide (b_2<(data_0.length:Int)) then
  bif decide (0≤a_1)&&decide (a_1<(data_0.length:Int)) then
   Option.bind (cmp_Less_int (List.getD data_0 b_2.toNat 0) (List.getD data_0 a_1.toNat 0)) fun (r1:(Bool × Unit) × Unit)=>
   bif r1.1.1 then
    some ((b_2,a_1,()),(IntKind.wrap .i64 (swaps_3+1),()))
   else
    some ((a_1,b_2,()),(swaps_3,()))
  else none
 else none
theorem slices_order2Ordered_int_eq (data_0:List Int) (a_1:Int) (b_2:Int) (swaps_3:Int):evFn slices_order2Ordered_int_Γ tab slices_order2Ordered_int_fi 1 [.val t41,.val t2,.val t2,.box 3 t2 [false]] [⟨t2,[false],none⟩,⟨t2,[false],none⟩] Tryz.f114 (data_0,a_1,b_2,swaps_3,())=slices_order2Ordered_int data_0 a_1 b_2 swaps_3:=by kernel_rfl
noncomputable def slices_order2Ordered_int_e:Ent:=⟨[.val t41,.val t2,.val t2,.box 3 t2 [false]],[⟨t2,[false],none⟩,⟨t2,[false],none⟩],fun x=>slices_order2Ordered_int x.1 x.2.1 x.2.2.1 x.2.2.2.1⟩
theorem slices_order2Ordered_int_good:Good tab.ty Tryz.prog 114 slices_order2Ordered_int_e:=by
  refine fn_good (Γ:=slices_order2Ordered_int_Γ) (fi:=slices_order2Ordered_int_fi) (n:=1) follows (gcons cmp_Less_int_good gnil) tabok Tryz.func114 (by kernel_rfl) (by kernel_rfl) (fun x r h=>?_)
  obtain ⟨data_0,a_1,b_2,swaps_3,_u⟩:=x
  exact (slices_order2Ordered_int_eq data_0 a_1 b_2 swaps_3).trans h
noncomputable def slices_medianOrdered_int_Γ:Ctx:=[(114,slices_order2Ordered_int_e)]
def slices_medianOrdered_int_fi:Fi:={ keep:=[],vty:=[],vals:=[],live:=[(0,[4,0,1,2,3]),(1,[4,0,1,2,3]),(2,[4,0,1,2]),(3,[4,2]),(4,[4,10])] }
noncomputable def slices_medianOrdered_int (data_0:List Int) (a_1:Int) (b_2:Int) (c_3:Int) (swaps_4:Int):Option ((Int × Unit) × (Int × Unit)):=
 Option.bind (slices_order2Ordered_int data_0 a_1 b_2 swaps_4) fun (r1:(Int × Int × Unit) × (Int × Unit))=>
 Option.bind (slices_order2Ordered_int data_0 r1.1.2.1 c_3 r1.2.1) fun (r2:(Int × Int × Unit) × (Int × Unit))=>
 Option.bind (slices_order2Ordered_int data_0 r1.1.1 r2.1.1 r2.2.1) fun (r3:(Int × Int × Unit) × (Int × Unit))=>
 some ((r3.1.2.1,()),(r3.2.1,()))
theorem slices_medianOrdered_int_eq (data_0:List Int) (a_1:Int) (b_2:Int) (c_3:Int) (swaps_4:Int):evFn slices_medianOrdered_int_Γ tab slices_medianOrdered_int_fi 1 [.val t41,.val t2,.val t2,.val t2,.box 3 t2 [false]] [⟨t2,[false],none⟩] Tryz.f110 (data_0,a_1,b_2,c_3,swaps_4,())=slices_medianOrdered_int data_0 a_1 b_2 c_3 swaps_4:=by kernel_rfl
noncomputable def slices_medianOrdered_int_e:Ent:=⟨[.val t41,.val t2,.val t2,.val t2,.box 3 t2 [false]],[⟨t2,[false],none⟩],fun x=>slices_medianOrdered_int x.1 x.2.1 x.2.2.1 x.2.2.2.1 x.2.2.2.2.1⟩
theorem slices_medianOrdered_int_good:Good tab.ty Tryz.prog 110 slices_medianOrdered_int_e:=by
  refine fn_good (Γ:=slices_medianOrdered_int_Γ) (fi:=slices_medianOrdered_int_fi) (n:=1) follows (gcons slices_order2Ordered_int_good gnil) tabok Tryz.func110 (by kernel_rfl) (by kernel_rfl) (fun x r h=>?_)
  obtain ⟨data_0,a_1,b_2,c_3,swaps_4,_u⟩:=x
  exact (slices_medianOrdered_int_eq data_0 a_1 b_2 c_3 swaps_4).trans h
noncomputable def slices_medianAdjacentOrdered_int_Γ:Ctx:=[(110,slices_medianOrdered_int_e)]
def slices_medianAdjacentOrdered_int_fi:Fi:={ keep:=[],vty:=[],vals:=[],live:=[(0,[2,0,1]),(1,[2,6])] }
noncomputable def slices_medianAdjacentOrdered_int (data_0:List Int) (a_1:Int) (swaps_2:Int):Option ((Int × Unit) × (Int × Unit)):=
 Option.bind (slices_medianOrdered_int data_0 (IntKind.wrap .i64 (a_1 - 1)) a_1 (IntKind.wrap .i64 (a_1+1)) swaps_2) fun (r1:(Int × Unit) × (Int × Unit))=>
 some ((r1.1.1,()),(r1.2.1,()))
theorem slices_medianAdjacentOrdered_int_eq (data_0:List Int) (a_1:Int) (swaps_2:Int):evFn slices_medianAdjacentOrdered_int_Γ tab slices_medianAdjacentOrdered_int_fi 1 [.val t41,.val t2,.box 3 t2 [false]] [⟨t2,[false],none⟩] Tryz.f109 (data_0,a_1,swaps_2,())=slices_medianAdjacentOrdered_int data_0 a_1 swaps_2:=by kernel_rfl
noncomputable def slices_medianAdjacentOrdered_int_e:Ent:=⟨[.val t41,.val t2,.box 3 t2 [false]],[⟨t2,[false],none⟩],fun x=>slices_medianAdjacentOrdered_int x.1 x.2.1 x.2.2.1⟩
theorem slices_medianAdjacentOrdered_int_good:Good tab.ty Tryz.prog 109 slices_medianAdjacentOrdered_int_e:=by
  refine fn_good (Γ:=slices_medianAdjacentOrdered_int_Γ) (fi:=slices_medianAdjacentOrdered_int_fi) (n:=1) follows (gcons slices_medianOrdered_int_good gnil) tabok Tryz.func109 (by kernel_rfl) (by kernel_rfl) (fun x r h=>?_)
  obtain ⟨data_0,a_1,swaps_2,_u⟩:=x
  exact (slices_medianAdjacentOrdered_int_eq data_0 a_1 swaps_2).trans h
noncomputable def slices_choosePivotOrdered_int_Γ:Ctx:=[(109,slices_medianAdjacentOrdered_int_e),(110,slices_medianOrdered_int_e)]
def slices_choosePivotOrdered_int_fi:Fi:={ keep:=[],vty:=[],vals:=[],live:=[(0,[0,1,2]),(1,[0,1,8]),(2,[0,1,8,9]),(3,[0,1,8,9,10]),(4,[0,1,8,9,10,11]),(5,[0,8,9,10,11,12]),(6,[0,8,9,10,11,12,32]),(7,[0,9,10,11,12,34]),(8,[0,9,10,11,12]),(9,[0,9,10,11,12]),(10,[0,9,10,11,12]),(11,[9,11]),(12,[11,49]),(13,[6,7]),(14,[11,49,51]),(15,[6,7]),(16,[11,54]),(17,[6,7])] }
noncomputable def slices_choosePivotOrdered_int (data_0:List Int) (a_1:Int) (b_2:Int):Option ((Int × Int × Unit) × Unit):=
 bif decide (IntKind.wrap .i64 (b_2 - a_1) ≥ 8) then
  bif decide (IntKind.wrap .i64 (b_2 - a_1) ≥ 50) then
   Option.bind (slices_medianAdjacentOrdered_int data_0 (IntKind.wrap .i64 (a_1+(IntKind.wrap .i64 ((IntKind.wrap .i64 (Int.tdiv (IntKind.wrap .i64 (b_2 - a_1)) 4))*1)))) 0) fun (r1:(Int × Unit) × (Int × Unit))=>
   Option.bind (slices_medianAdjacentOrdered_int data_0 (IntKind.wrap .i64 (a_1+(IntKind.wrap .i64 ((IntKind.wrap .i64 (Int.tdiv (IntKind.wrap .i64 (b_2 - a_1)) 4))*2)))) r1.2.1) fun (r2:(Int × Unit) × (Int × Unit))=>
   Option.bind (slices_medianAdjacentOrdered_int data_0 (IntKind.wrap .i64 (a_1+(IntKind.wrap .i64 ((IntKind.wrap .i64 (Int.tdiv (IntKind.wrap .i64 (b_2 - a_1)) 4))*3)))) r2.2.1) fun (r3:(Int × Unit) × (Int × Unit))=>
   Option.bind (slices_medianOrdered_int data_0 r1.1.1 r2.1.1 r3.1.1 r3.2.1) fun (r4:(Int × Unit) × (Int × Unit))=>
   bif r4.2.1==0 then
    some ((r4.1.1,1,()),())
   else
   bif r4.2.1==12 then
    some ((r4.1.1,2,()),())
   else
    some ((r4.1.1,0,()),())
  else
   Option.bind (slices_medianOrdered_int data_0 (IntKind.wrap .i64 (a_1+(IntKind.wrap .i64 ((IntKind.wrap .i64 (Int.tdiv (IntKind.wrap .i64 (b_2 - a_1)) 4))*1)))) (IntKind.wrap .i64 (a_1+(IntKind.wrap .i64 ((IntKind.wrap .i64 (Int.tdiv (IntKind.wrap .i64 (b_2 - a_1)) 4))*2)))) (IntKind.wrap .i64 (a_1+(IntKind.wrap .i64 ((IntKind.wrap .i64 (Int.tdiv (IntKind.wrap .i64 (b_2 - a_1)) 4))*3)))) 0) fun (r5:(Int × Unit) × (Int × Unit))=>
   bif r5.2.1==0 then
    some ((r5.1.1,1,()),())
   else
   bif r5.2.1==12 then
    some ((r5.1.1,2,()),())
   else
    some ((r5.1.1,0,()),())
 else
  some ((IntKind.wrap .i64 (a_1+(IntKind.wrap .i64 ((IntKind.wrap .i64 (Int.tdiv (IntKind.wrap .i64 (b_2 - a_1)) 4))*2))),1,()),())
theorem slices_choosePivotOrdered_int_eq (data_0:List Int) (a_1:Int) (b_2:Int):evFn slices_choosePivotOrdered_int_Γ tab slices_choosePivotOrdered_int_fi 1 [.val t41,.val t2,.val t2] [⟨t2,[false],none⟩,⟨t2,[false],none⟩] Tryz.f94 (data_0,a_1,b_2,())=slices_choosePivotOrdered_int data_0 a_1 b_2:=by kernel_rfl
noncomputable def slices_choosePivotOrdered_int_e:Ent:=⟨[.val t41,.val t2,.val t2],[⟨t2,[false],none⟩,⟨t2,[false],none⟩],fun x=>slices_choosePivotOrdered_int x.1 x.2.1 x.2.2.1⟩
theorem slices_choosePivotOrdered_int_good:Good tab.ty Tryz.prog 94 slices_choosePivotOrdered_int_e:=by
  refine fn_good (Γ:=slices_choosePivotOrdered_int_Γ) (fi:=slices_choosePivotOrdered_int_fi) (n:=1) follows (gcons slices_medianAdjacentOrdered_int_good (gcons slices_medianOrdered_int_good gnil)) tabok Tryz.func94 (by kernel_rfl) (by kernel_rfl) (fun x r h=>?_)
  obtain ⟨data_0,a_1,b_2,_u⟩:=x
  exact (slices_choosePivotOrdered_int_eq data_0 a_1 b_2).trans h
noncomputable def slices_pdqsortOrdered_int_Γ:Ctx:=[(91,slices_insertionSortOrdered_int_e),(94,slices_choosePivotOrdered_int_e),(97,cmp_Less_int_e)]
def slices_pdqsortOrdered_int_fi:Fi:={ keep:=[],vty:=[],vals:=[],live:=[(0,[0,1,2,3,8,63,66,67,76,77,78,79,80,81,82,83,84,85,86]),(1,[0,1,2,3,8,9,63,66,67,76,77,78,79,80,81,82,83,84,85,86]),(2,[0,1,2,3,8,9,10,63,66,67,76,77,78,79,80,81,82,83,84,85,86]),(3,[0,1,2,3,8,9,10,23,63,66,67,76,77,78,79,80,81,82,83,84,85,86]),(4,[0]),(5,[0,1,2,3,8,9,10,29,63,66,67,76,77,78,79,80,81,82,83,84,85,86]),(6,[0]),(7,[0,1,2,3,8,9,10,35,63,66,67,76,77,78,79,80,81,82,83,84,85,86]),(8,[0,1,2,3,8,9,10,63,66,67,76,77,78,79,80,81,82,83,84,85,86]),(9,[0,1,2,3,8,9,10,63,66,67,76,77,78,79,80,81,82,83,84,85,86]),(10,[0,1,2,3,8,9,10,11,12,63,66,67,76,77,78,79,80,81,82,83,84,85,86]),(11,[0,1,2,3,8,9,10,11,12,50,63,66,67,76,77,78,79,80,81,82,83,84,85,86]),(12,[0,1,2,3,8,9,10,11,63,66,67,76,77,78,79,80,81,82,83,84,85,86]),(13,[0,1,2,3,8,9,10,11,63,66,67,76,77,78,79,80,81,82,83,84,85,86]),(14,[0,1,2,3,8,9,10,11,12,63,66,67,76,77,78,79,80,81,82,83,84,85,86]),(15,[0,1,2,3,8,9,10,11,63,66,67,68,76,77,78,79,80,81,82,83,84,85,86]),(16,[0,1,2,3,8,9,10,11,63,66,67,72,76,77,78,79,80,81,82,83,84,85,86]),(17,[0,1,2,3,8,9,10,11,63,66,67,76,77,78,79,80,81,82,83,84,85,86,87]),(18,[0,2,3,8,9,13,63,66,67,76,77,78,79,80,81,82,83,84,85,86]),(19,[0,1,2,3,8,9,63,66,67,76,77,78,79,80,81,82,83,84,85,86]),(20,[0,1,2,3,10,14,15,63,66,67,76,77,78,79,80,81,82,83,84,85,86]),(21,[0,1,2,3,9,10,14,63,66,67,76,77,78,79,80,81,82,83,84,85,86]),(22,[0,1,2,3,9,10,14,16,17,63,66,67,76,77,78,79,80,81,82,83,84,85,86]),(23,[0,1,2,3,9,14,16,17,18,63,66,67,76,77,78,79,80,81,82,83,84,85,86]),(24,[0,1,2,3,9,14,16,17,18,63,66,67,76,77,78,79,80,81,82,83,84,85,86,113]),(25,[0,1,2,3,8,9,14,63,66,67,76,77,78,79,80,81,82,83,84,85,86]),(26,[0,2,3,8,9,14,63,66,67,76,77,78,79,80,81,82,83,84,85,86]),(27,[0,1,2,3,8,9,63,66,67,76,77,78,79,80,81,82,83,84,85,86]),(28,[0,1,2,3,8,9,14,63,66,67,76,77,78,79,80,81,82,83,84,85,86]),(29,[0,1,3,8,9,14,63,66,67,76,77,78,79,80,81,82,83,84,85,86]),(30,[0,1,2,3,8,9,63,66,67,76,77,78,79,80,81,82,83,84,85,86])] }
noncomputable def slices_pdqsortOrdered_int_B1  (v1:Int) (v2:Int) (v3:Int) (v4:Bool) (v5:Bool) (v6:List Int):Option (Unit × (List Int × Unit)):=
 bif decide (IntKind.wrap .i64 (v2 - v1)≤12) then
  Option.bind (slices_insertionSortOrdered_int v6 v1 v2) fun (r7:Unit × (List Int × Unit))=>
  some ((),(r7.2.1,()))
 else
 bif v3==0 then
  none
 else
 bif !v4 then
  none
 else
  Option.bind (slices_choosePivotOrdered_int v6 v1 v2) fun (r8:(Int × Int × Unit) × Unit)=>
  bif r8.1.2.1==2 then
   none
  else
  bif v4 then
   bif v5 then
    bif r8.1.2.1==1 then
     none
    else
    bif decide (v1>0) then
     bif decide (0≤IntKind.wrap .i64 (v1 - 1))&&decide (IntKind.wrap .i64 (v1 - 1)<(v6.length:Int)) then
      bif decide (0≤IntKind.wrap .i64 (v1 - 1))&&decide (IntKind.wrap .i64 (v1 - 1)<(v6.length:Int)) then
       bif decide (0≤r8.1.1)&&decide (r8.1.1<(v6.length:Int)) then
        bif decide (0≤r8.1.1)&&decide (r8.1.1<(v6.length:Int)) then
         Option.bind (cmp_Less_int (List.getD v6 ((IntKind.wrap .i64 (v1 - 1)).toNat) 0) (List.getD v6 r8.1.1.toNat 0)) fun (r9:(Bool × Unit) × Unit)=>
         bif !r9.1.1 then
          none
         else none
        else none
       else none
      else none
     else none
    else none
   else
   bif decide (v1>0) then
    bif decide (0≤IntKind.wrap .i64 (v1 - 1))&&decide (IntKind.wrap .i64 (v1 - 1)<(v6.length:Int)) then
     bif decide (0≤IntKind.wrap .i64 (v1 - 1))&&decide (IntKind.wrap .i64 (v1 - 1)<(v6.length:Int)) then
      bif decide (0≤r8.1.1)&&decide (r8.1.1<(v6.length:Int)) then
       bif decide (0≤r8.1.1)&&decide (r8.1.1<(v6.length:Int)) then
        Option.bind (cmp_Less_int (List.getD v6 ((IntKind.wrap .i64 (v1 - 1)).toNat) 0) (List.getD v6 r8.1.1.toNat 0)) fun (r10:(Bool × Unit) × Unit)=>
        bif !r10.1.1 then
         none
        else none
       else none
      else none
     else none
    else none
   else none
  else
  bif decide (v1>0) then
   bif decide (0≤IntKind.wrap .i64 (v1 - 1))&&decide (IntKind.wrap .i64 (v1 - 1)<(v6.length:Int)) then
    bif decide (0≤IntKind.wrap .i64 (v1 - 1))&&decide (IntKind.wrap .i64 (v1 - 1)<(v6.length:Int)) then
     bif decide (0≤r8.1.1)&&decide (r8.1.1<(v6.length:Int)) then
      bif decide (0≤r8.1.1)&&decide (r8.1.1<(v6.length:Int)) then
       Option.bind (cmp_Less_int (List.getD v6 ((IntKind.wrap .i64 (v1 - 1)).toNat) 0) (List.getD v6 r8.1.1.toNat 0)) fun (r11:(Bool × Unit) × Unit)=>
       bif !r11.1.1 then
        none
       else none
      else none
     else none
    else none
   else none
  else none
noncomputable def slices_pdqsortOrdered_int_T (L1:Int→Int→Int→Bool→Bool→List Int→Option (Unit × (List Int × Unit))) (arr_0:List Int) (x_1:Int) (x_2:Int) (x_3:Int):Option (Unit × (List Int × Unit)):=
 L1 x_1 x_2 x_3 true true arr_0
noncomputable def slices_pdqsortOrdered_int_L1 (n:Nat):Nat→Int→Int→Int→Bool→Bool→List Int→Option (Unit × (List Int × Unit)):=iter (fun _ _ _ _ _ _=>none) fun L=>slices_pdqsortOrdered_int_B1
noncomputable def slices_pdqsortOrdered_int_X1 (n m:Nat) (v1:Int) (v2:Int) (v3:Int) (v4:Bool) (v5:Bool) (v6:List Int):Option (Unit × (List Int × Unit)):=
 atLoop slices_pdqsortOrdered_int_Γ tab (fiB [.io 3 t2,.val t2,.val t2,.val t2] slices_pdqsortOrdered_int_fi) n [.io 3 t2,.val t2,.val t2,.val t2] [] Tryz.f80 [1,1,0] [] [0,1,2,3,8,9] m
 ⟨[(0,SV.cv (CV.one (LV.ref (888888,0)))),(1,SV.cv (CV.one (LV.pure t2 v1))),(2,SV.cv (CV.one (LV.pure t2 v2))),(3,SV.cv (CV.one (LV.pure t2 v3))),(8,SV.cv (CV.one (LV.pure t4 v4))),(9,SV.cv (CV.one (LV.pure t4 v5)))],
  [((888888,0),Ob.row 3 t2 v6)]⟩
theorem slices_pdqsortOrdered_int_step1 (n m:Nat) (v1:Int) (v2:Int) (v3:Int) (v4:Bool) (v5:Bool) (v6:List Int):slices_pdqsortOrdered_int_X1 n (m+1) v1 v2 v3 v4 v5 v6=slices_pdqsortOrdered_int_B1  v1 v2 v3 v4 v5 v6:=by kernel_rfl
theorem slices_pdqsortOrdered_int_start (n:Nat) (arr_0:List Int) (x_1:Int) (x_2:Int) (x_3:Int):evFn slices_pdqsortOrdered_int_Γ tab slices_pdqsortOrdered_int_fi n [.io 3 t2,.val t2,.val t2,.val t2] [] Tryz.f80 (arr_0,x_1,x_2,x_3,())=slices_pdqsortOrdered_int_T (slices_pdqsortOrdered_int_X1 n n) arr_0 x_1 x_2 x_3:=by kernel_rfl
theorem slices_pdqsortOrdered_int_XL1 (n:Nat):∀ m,slices_pdqsortOrdered_int_X1 n m=slices_pdqsortOrdered_int_L1 n m
 | 0=>rfl
 | m+1=>by
  have ih:=slices_pdqsortOrdered_int_XL1 n m
  funext v1 v2 v3 v4 v5 v6
  rw [slices_pdqsortOrdered_int_step1]
  rfl
noncomputable def slices_pdqsortOrdered_int_n (n:Nat) (arr_0:List Int) (x_1:Int) (x_2:Int) (x_3:Int):Option (Unit × (List Int × Unit)):=slices_pdqsortOrdered_int_T (slices_pdqsortOrdered_int_L1 n n) arr_0 x_1 x_2 x_3
noncomputable def slices_pdqsortOrdered_int (arr_0:List Int) (x_1:Int) (x_2:Int) (x_3:Int):Option (Unit × (List Int × Unit)):=slices_pdqsortOrdered_int_n 1099511627776 arr_0 x_1 x_2 x_3
theorem slices_pdqsortOrdered_int_eq (n:Nat) (arr_0:List Int) (x_1:Int) (x_2:Int) (x_3:Int):evFn slices_pdqsortOrdered_int_Γ tab slices_pdqsortOrdered_int_fi n [.io 3 t2,.val t2,.val t2,.val t2] [] Tryz.f80 (arr_0,x_1,x_2,x_3,())=slices_pdqsortOrdered_int_n n arr_0 x_1 x_2 x_3:=by
  rw [slices_pdqsortOrdered_int_start,slices_pdqsortOrdered_int_XL1 n n]
  rfl
noncomputable def slices_pdqsortOrdered_int_e:Ent:=⟨[.io 3 t2,.val t2,.val t2,.val t2],[],fun x=>slices_pdqsortOrdered_int x.1 x.2.1 x.2.2.1 x.2.2.2.1⟩
theorem slices_pdqsortOrdered_int_good:Good tab.ty Tryz.prog 80 slices_pdqsortOrdered_int_e:=by
  refine fn_good (Γ:=slices_pdqsortOrdered_int_Γ) (fi:=slices_pdqsortOrdered_int_fi) (n:=1099511627776) follows (gcons slices_insertionSortOrdered_int_good (gcons slices_choosePivotOrdered_int_good (gcons cmp_Less_int_good gnil))) tabok Tryz.func80 (by kernel_rfl) (by kernel_rfl) (fun x r h=>?_)
  obtain ⟨arr_0,x_1,x_2,x_3,_u⟩:=x
  exact (slices_pdqsortOrdered_int_eq 1099511627776 arr_0 x_1 x_2 x_3).trans h
noncomputable def slices_Sort_int_Γ:Ctx:=[(80,slices_pdqsortOrdered_int_e),(81,math_bits_Len_e)]
def slices_Sort_int_fi:Fi:={ keep:=[],vty:=[],vals:=[],live:=[(0,[0,2]),(1,[0])] }
noncomputable def slices_Sort_int (x_0:List Int):Option (Unit × (List Int × Unit)):=
 Option.bind (math_bits_Len (IntKind.wrap .u64 (x_0.length:Int))) fun (r1:(Int × Unit) × Unit)=>
 Option.bind (slices_pdqsortOrdered_int x_0 0 (x_0.length:Int) r1.1.1) fun (r2:Unit × (List Int × Unit))=>
 some ((),(r2.2.1,()))
theorem slices_Sort_int_eq (x_0:List Int):evFn slices_Sort_int_Γ tab slices_Sort_int_fi 1 [.io 3 t2] [] Tryz.f57 (x_0,())=slices_Sort_int x_0:=by kernel_rfl
noncomputable def slices_Sort_int_e:Ent:=⟨[.io 3 t2],[],fun x=>slices_Sort_int x.1⟩
theorem slices_Sort_int_good:Good tab.ty Tryz.prog 57 slices_Sort_int_e:=by
  refine fn_good (Γ:=slices_Sort_int_Γ) (fi:=slices_Sort_int_fi) (n:=1) follows (gcons slices_pdqsortOrdered_int_good (gcons math_bits_Len_good gnil)) tabok Tryz.func57 (by kernel_rfl) (by kernel_rfl) (fun x r h=>?_)
  obtain ⟨x_0,_u⟩:=x
  exact (slices_Sort_int_eq x_0).trans h
noncomputable def clus_far_Γ:Ctx:=[(90,mid_Far_e)]
def clus_far_fi:Fi:={ keep:=[],vty:=[],vals:=[],live:=[(0,[0,1,2]),(1,[6])] }
noncomputable def clus_far (d_0:List (List Int)) (a_1:Int) (b_2:Int):Option ((Int × Unit) × Unit):=
 Option.bind (mid_Far d_0 a_1 [b_2]) fun (r1:(Int × Unit) × Unit)=>
 some ((r1.1.1,()),())
theorem clus_far_eq (d_0:List (List Int)) (a_1:Int) (b_2:Int):evFn clus_far_Γ tab clus_far_fi 1 [.val t25,.val t2,.val t2] [⟨t2,[false],none⟩] Tryz.f103 (d_0,a_1,b_2,())=clus_far d_0 a_1 b_2:=by kernel_rfl
noncomputable def clus_far_e:Ent:=⟨[.val t25,.val t2,.val t2],[⟨t2,[false],none⟩],fun x=>clus_far x.1 x.2.1 x.2.2.1⟩
theorem clus_far_good:Good tab.ty Tryz.prog 103 clus_far_e:=by
  refine fn_good (Γ:=clus_far_Γ) (fi:=clus_far_fi) (n:=1) follows (gcons mid_Far_good gnil) tabok Tryz.func103 (by kernel_rfl) (by kernel_rfl) (fun x r h=>?_)
  obtain ⟨d_0,a_1,b_2,_u⟩:=x
  exact (clus_far_eq d_0 a_1 b_2).trans h
noncomputable def clus_ends_Γ:Ctx:=[(103,clus_far_e)]
def clus_ends_fi:Fi:={ keep:=[],vty:=[],vals:=[],live:=[(0,[0,1,4,5]),(1,[0,1,4,5,6]),(2,[0,1,4,5,6,12,13,14]),(3,[0,1,4,5,6,12,13,14,15]),(4,[0,1,4,5,6,7,8,12,13,14]),(5,[0,1,4,5,6,8,12,13,14,22,23,24]),(6,[0,1,4,5,6,8,12,13,14,22,23,24,25]),(7,[0,1,4,5,6,8,10,12,13,14,22,23,24]),(8,[0,1,4,5,6,8,10,11,12,13,14,22,23,24]),(9,[0,1,4,5,6,8,10,11,12,13,14,22,23,24,34]),(10,[0,1,4,5,6,8,12,13,14,22,23,24]),(11,[0,1,4,5,6,8,12,13,14,22,23,24]),(12,[0,1,4,5,6,12,13,14]),(13,[4,5])] }
noncomputable def clus_ends_B1 (L2:List (List Int)→List Int→Int→Int→Int→Int→List Int→Int→Int→List Int→Int→Int→Option ((Int × Int × Unit) × Unit)) (v1:List (List Int)) (v2:List Int) (v3:Int) (v4:Int) (v5:Int) (v6:List Int) (v7:Int) (v8:Int):Option ((Int × Int × Unit) × Unit):=
 bif decide (v8<v7) then
  bif decide (0≤v8)&&decide (v8<(v6.length:Int)) then
   bif (decide (0≤IntKind.wrap .i64 (v8+1))&&decide (IntKind.wrap .i64 (v8+1)≤(v2.length:Int)))&&decide ((v2.length:Int)≤(v2.length:Int)) then
    L2 v1 v2 v3 v4 v5 (List.getD v6 v8.toNat 0) v6 v7 v8 (List.drop ((IntKind.wrap .i64 (v8+1)).toNat) (List.take ((v2.length:Int).toNat) v2)) ((List.drop ((IntKind.wrap .i64 (v8+1)).toNat) (List.take ((v2.length:Int).toNat) v2)).length:Int) 0
   else none
  else none
 else
  some ((v3,v4,()),())
noncomputable def clus_ends_B2 (L2:List (List Int)→List Int→Int→Int→Int→Int→List Int→Int→Int→List Int→Int→Int→Option ((Int × Int × Unit) × Unit)) (L1:List (List Int)→List Int→Int→Int→Int→List Int→Int→Int→Option ((Int × Int × Unit) × Unit)) (v9:List (List Int)) (v10:List Int) (v11:Int) (v12:Int) (v13:Int) (v14:Int) (v15:List Int) (v16:Int) (v17:Int) (v18:List Int) (v19:Int) (v20:Int):Option ((Int × Int × Unit) × Unit):=
 bif decide (v20<v19) then
  bif decide (0≤v20)&&decide (v20<(v18.length:Int)) then
   Option.bind (clus_far v9 v14 (List.getD v18 v20.toNat 0)) fun (r21:(Int × Unit) × Unit)=>
   bif decide (r21.1.1>v13) then
    L2 v9 v10 v14 (List.getD v18 v20.toNat 0) r21.1.1 v14 v15 v16 v17 v18 v19 (IntKind.wrap .i64 (v20+1))
   else
    L2 v9 v10 v11 v12 v13 v14 v15 v16 v17 v18 v19 (IntKind.wrap .i64 (v20+1))
  else none
 else
  L1 v9 v10 v11 v12 v13 v15 v16 (IntKind.wrap .i64 (v17+1))
noncomputable def clus_ends_T (L1:List (List Int)→List Int→Int→Int→Int→List Int→Int→Int→Option ((Int × Int × Unit) × Unit)) (d_0:List (List Int)) (l_1:List Int):Option ((Int × Int × Unit) × Unit):=
 L1 d_0 l_1 0 0 (-1) l_1 (l_1.length:Int) 0
noncomputable def clus_ends_L2 (n:Nat) (m1:Nat) (r1:List (List Int)→List Int→Int→Int→Int→List Int→Int→Int→Option ((Int × Int × Unit) × Unit)):Nat→List (List Int)→List Int→Int→Int→Int→Int→List Int→Int→Int→List Int→Int→Int→Option ((Int × Int × Unit) × Unit):=iter (fun _ _ _ _ _ _ _ _ _ _ _ _=>none) fun L=>clus_ends_B2 L r1
noncomputable def clus_ends_L1 (n:Nat):Nat→List (List Int)→List Int→Int→Int→Int→List Int→Int→Int→Option ((Int × Int × Unit) × Unit):=iterN (fun _ _ _ _ _ _ _ _=>none) fun m L=>clus_ends_B1 (clus_ends_L2 n m L n)
noncomputable def clus_ends_X1 (n m:Nat) (v1:List (List Int)) (v2:List Int) (v3:Int) (v4:Int) (v5:Int) (v6:List Int) (v7:Int) (v8:Int):Option ((Int × Int × Unit) × Unit):=
 atLoop clus_ends_Γ tab (fiB [.val t25,.val t41] clus_ends_fi) n [.val t25,.val t41] [⟨t2,[false],none⟩,⟨t2,[false],none⟩] Tryz.f102 [1,1,0,1,0] [] [0,1,4,5,6,12,13,14] m
 ⟨[(0,SV.cv (CV.one (LV.pure t25 v1))),(1,SV.cv (CV.one (LV.pure t41 v2))),(4,SV.cv (CV.one (LV.pure t2 v3))),(5,SV.cv (CV.one (LV.pure t2 v4))),(6,SV.cv (CV.one (LV.pure t2 v5))),(12,SV.cv (CV.one (LV.pure t41 v6))),(13,SV.cv (CV.one (LV.pure t2 v7))),(14,SV.cv (CV.one (LV.pure t2 v8)))],
  []⟩
noncomputable def clus_ends_X2 (n m1 m:Nat) (v9:List (List Int)) (v10:List Int) (v11:Int) (v12:Int) (v13:Int) (v14:Int) (v15:List Int) (v16:Int) (v17:Int) (v18:List Int) (v19:Int) (v20:Int):Option ((Int × Int × Unit) × Unit):=
 atLoop clus_ends_Γ tab (fiB [.val t25,.val t41] clus_ends_fi) n [.val t25,.val t41] [⟨t2,[false],none⟩,⟨t2,[false],none⟩] Tryz.f102 [1,1,0,1,0,0,1,1,0,0,1,1,0] [(m1,[0,1,4,5,6,12,13,14])] [0,1,4,5,6,8,12,13,14,22,23,24] m
 ⟨[(0,SV.cv (CV.one (LV.pure t25 v9))),(1,SV.cv (CV.one (LV.pure t41 v10))),(4,SV.cv (CV.one (LV.pure t2 v11))),(5,SV.cv (CV.one (LV.pure t2 v12))),(6,SV.cv (CV.one (LV.pure t2 v13))),(8,SV.cv (CV.one (LV.pure t2 v14))),(12,SV.cv (CV.one (LV.pure t41 v15))),(13,SV.cv (CV.one (LV.pure t2 v16))),(14,SV.cv (CV.one (LV.pure t2 v17))),(22,SV.cv (CV.one (LV.pure t41 v18))),(23,SV.cv (CV.one (LV.pure t2 v19))),(24,SV.cv (CV.one (LV.pure t2 v20)))],
  []⟩
theorem clus_ends_step1 (n m:Nat) (v1:List (List Int)) (v2:List Int) (v3:Int) (v4:Int) (v5:Int) (v6:List Int) (v7:Int) (v8:Int):clus_ends_X1 n (m+1) v1 v2 v3 v4 v5 v6 v7 v8=clus_ends_B1 (clus_ends_X2 n m n) v1 v2 v3 v4 v5 v6 v7 v8:=by kernel_rfl
theorem clus_ends_step2 (n m1 m:Nat) (v9:List (List Int)) (v10:List Int) (v11:Int) (v12:Int) (v13:Int) (v14:Int) (v15:List Int) (v16:Int) (v17:Int) (v18:List Int) (v19:Int) (v20:Int):clus_ends_X2 n m1 (m+1) v9 v10 v11 v12 v13 v14 v15 v16 v17 v18 v19 v20=clus_ends_B2 (clus_ends_X2 n m1 m) (clus_ends_X1 n m1) v9 v10 v11 v12 v13 v14 v15 v16 v17 v18 v19 v20:=by kernel_rfl
theorem clus_ends_start (n:Nat) (d_0:List (List Int)) (l_1:List Int):evFn clus_ends_Γ tab clus_ends_fi n [.val t25,.val t41] [⟨t2,[false],none⟩,⟨t2,[false],none⟩] Tryz.f102 (d_0,l_1,())=clus_ends_T (clus_ends_X1 n n) d_0 l_1:=by kernel_rfl
theorem clus_ends_XL2 (n:Nat) (m1:Nat) (r1:List (List Int)→List Int→Int→Int→Int→List Int→Int→Int→Option ((Int × Int × Unit) × Unit)) (h1:clus_ends_X1 n m1=r1):∀ m,clus_ends_X2 n m1 m=clus_ends_L2 n m1 r1 m
 | 0=>rfl
 | m+1=>by
  have ih:=clus_ends_XL2 n m1 r1 h1 m
  funext v9 v10 v11 v12 v13 v14 v15 v16 v17 v18 v19 v20
  rw [clus_ends_step2,ih,h1]
  rfl
theorem clus_ends_XL1 (n:Nat):∀ m,clus_ends_X1 n m=clus_ends_L1 n m
 | 0=>rfl
 | m+1=>by
  have ih:=clus_ends_XL1 n m
  funext v1 v2 v3 v4 v5 v6 v7 v8
  rw [clus_ends_step1,clus_ends_XL2 n m _ ih n]
  rfl
noncomputable def clus_ends_n (n:Nat) (d_0:List (List Int)) (l_1:List Int):Option ((Int × Int × Unit) × Unit):=clus_ends_T (clus_ends_L1 n n) d_0 l_1
noncomputable def clus_ends (d_0:List (List Int)) (l_1:List Int):Option ((Int × Int × Unit) × Unit):=clus_ends_n 1099511627776 d_0 l_1
theorem clus_ends_eq (n:Nat) (d_0:List (List Int)) (l_1:List Int):evFn clus_ends_Γ tab clus_ends_fi n [.val t25,.val t41] [⟨t2,[false],none⟩,⟨t2,[false],none⟩] Tryz.f102 (d_0,l_1,())=clus_ends_n n d_0 l_1:=by
  rw [clus_ends_start,clus_ends_XL1 n n]
  rfl
noncomputable def clus_ends_e:Ent:=⟨[.val t25,.val t41],[⟨t2,[false],none⟩,⟨t2,[false],none⟩],fun x=>clus_ends x.1 x.2.1⟩
theorem clus_ends_good:Good tab.ty Tryz.prog 102 clus_ends_e:=by
  refine fn_good (Γ:=clus_ends_Γ) (fi:=clus_ends_fi) (n:=1099511627776) follows (gcons clus_far_good gnil) tabok Tryz.func102 (by kernel_rfl) (by kernel_rfl) (fun x r h=>?_)
  obtain ⟨d_0,l_1,_u⟩:=x
  exact (clus_ends_eq 1099511627776 d_0 l_1).trans h
noncomputable def slices_IndexFunc_int_Γ:Ctx:=[]
def slices_IndexFunc_int_fi:Fi:={ keep:=[],vty:=[],vals:=[],live:=[(0,[0,1]),(1,[0,1,7,8]),(2,[0,1,7,8,9]),(3,[0,1,5,7,8]),(4,[0,1,5,7,8,16]),(5,[4]),(6,[0,1,7,8]),(7,[4])] }
noncomputable def slices_IndexFunc_int_B1 (L1:List Int→(Int × Unit→Option (Bool × Unit))→Int→Int→Option ((Int × Unit) × Unit)) (v1:List Int) (v2:(Int × Unit→Option (Bool × Unit))) (v3:Int) (v4:Int):Option ((Int × Unit) × Unit):=
 bif decide (v4<v3) then
  bif decide (0≤v4)&&decide (v4<(v1.length:Int)) then
   Option.bind (v2 (List.getD v1 v4.toNat 0,())) fun (r5:Bool × Unit)=>
   bif r5.1 then
    some ((v4,()),())
   else
    L1 v1 v2 v3 (IntKind.wrap .i64 (v4+1))
  else none
 else
  some (((-1),()),())
noncomputable def slices_IndexFunc_int_T (L1:List Int→(Int × Unit→Option (Bool × Unit))→Int→Int→Option ((Int × Unit) × Unit)) (s_0:List Int) (f_1:(Int × Unit→Option (Bool × Unit))):Option ((Int × Unit) × Unit):=
 L1 s_0 f_1 (s_0.length:Int) 0
noncomputable def slices_IndexFunc_int_L1 (n:Nat):Nat→List Int→(Int × Unit→Option (Bool × Unit))→Int→Int→Option ((Int × Unit) × Unit):=iter (fun _ _ _ _=>none) fun L=>slices_IndexFunc_int_B1 L
noncomputable def slices_IndexFunc_int_X1 (n m:Nat) (v1:List Int) (v2:(Int × Unit→Option (Bool × Unit))) (v3:Int) (v4:Int):Option ((Int × Unit) × Unit):=
 atLoop slices_IndexFunc_int_Γ tab (fiB [.val t41,.fn [t2] [t4]] slices_IndexFunc_int_fi) n [.val t41,.fn [t2] [t4]] [⟨t2,[false],none⟩] Tryz.f88 [1,0,1,0] [] [0,1,7,8] m
 ⟨[(0,SV.cv (CV.one (LV.pure t41 v1))),(1,SV.cv (CV.one (LV.clo [t2] [t4] v2))),(7,SV.cv (CV.one (LV.pure t2 v3))),(8,SV.cv (CV.one (LV.pure t2 v4)))],
  []⟩
theorem slices_IndexFunc_int_step1 (n m:Nat) (v1:List Int) (v2:(Int × Unit→Option (Bool × Unit))) (v3:Int) (v4:Int):slices_IndexFunc_int_X1 n (m+1) v1 v2 v3 v4=slices_IndexFunc_int_B1 (slices_IndexFunc_int_X1 n m) v1 v2 v3 v4:=by kernel_rfl
theorem slices_IndexFunc_int_start (n:Nat) (s_0:List Int) (f_1:(Int × Unit→Option (Bool × Unit))):evFn slices_IndexFunc_int_Γ tab slices_IndexFunc_int_fi n [.val t41,.fn [t2] [t4]] [⟨t2,[false],none⟩] Tryz.f88 (s_0,f_1,())=slices_IndexFunc_int_T (slices_IndexFunc_int_X1 n n) s_0 f_1:=by kernel_rfl
theorem slices_IndexFunc_int_XL1 (n:Nat):∀ m,slices_IndexFunc_int_X1 n m=slices_IndexFunc_int_L1 n m
 | 0=>rfl
 | m+1=>by
  have ih:=slices_IndexFunc_int_XL1 n m
  funext v1 v2 v3 v4
  rw [slices_IndexFunc_int_step1,ih]
  rfl
noncomputable def slices_IndexFunc_int_n (n:Nat) (s_0:List Int) (f_1:(Int × Unit→Option (Bool × Unit))):Option ((Int × Unit) × Unit):=slices_IndexFunc_int_T (slices_IndexFunc_int_L1 n n) s_0 f_1
noncomputable def slices_IndexFunc_int (s_0:List Int) (f_1:(Int × Unit→Option (Bool × Unit))):Option ((Int × Unit) × Unit):=slices_IndexFunc_int_n 1099511627776 s_0 f_1
theorem slices_IndexFunc_int_eq (n:Nat) (s_0:List Int) (f_1:(Int × Unit→Option (Bool × Unit))):evFn slices_IndexFunc_int_Γ tab slices_IndexFunc_int_fi n [.val t41,.fn [t2] [t4]] [⟨t2,[false],none⟩] Tryz.f88 (s_0,f_1,())=slices_IndexFunc_int_n n s_0 f_1:=by
  rw [slices_IndexFunc_int_start,slices_IndexFunc_int_XL1 n n]
  rfl
noncomputable def slices_IndexFunc_int_e:Ent:=⟨[.val t41,.fn [t2] [t4]],[⟨t2,[false],none⟩],fun x=>slices_IndexFunc_int x.1 x.2.1⟩
theorem slices_IndexFunc_int_good:Good tab.ty Tryz.prog 88 slices_IndexFunc_int_e:=by
  refine fn_good (Γ:=slices_IndexFunc_int_Γ) (fi:=slices_IndexFunc_int_fi) (n:=1099511627776) follows gnil tabok Tryz.func88 (by kernel_rfl) (by kernel_rfl) (fun x r h=>?_)
  obtain ⟨s_0,f_1,_u⟩:=x
  exact (slices_IndexFunc_int_eq 1099511627776 s_0 f_1).trans h
noncomputable def slices_DeleteFunc_int_Γ:Ctx:=[(65,markE),(88,slices_IndexFunc_int_e)]
def slices_DeleteFunc_int_fi:Fi:={ keep:=[],vty:=[],vals:=[],live:=[(0,[0,1]),(1,[0,1,5]),(2,[0,1,5,12]),(3,[4]),(4,[0,1,5,6]),(5,[0,1,5,6,19]),(6,[0,1,5,6]),(7,[0,1,5,6,7]),(8,[0,1,5,6,7,29]),(9,[0,1,5,6]),(10,[0,1,5,6]),(11,[0,5]),(12,[4])],melt:=[(11,1000000),(12,1000000)] }
noncomputable def slices_DeleteFunc_int_B1 (L1:(Int × Unit→Option (Bool × Unit))→Int→Int→List Int→Option (((List Int) × Unit) × Unit)) (v2:(Int × Unit→Option (Bool × Unit))) (v3:Int) (v4:Int) (v5:List Int):Option (((List Int) × Unit) × Unit):=
 bif decide (v4<(v5.length:Int)) then
  bif decide (0≤v4)&&decide (v4<(v5.length:Int)) then
   bif decide (0≤v4)&&decide (v4<(v5.length:Int)) then
    Option.bind (v2 (List.getD v5 v4.toNat 0,())) fun (r6:Bool × Unit)=>
    bif !r6.1 then
     bif decide (0≤v3)&&decide (v3<(v5.length:Int)) then
      bif decide (0≤v3)&&decide (v3<(v5.length:Int)) then
       L1 v2 (IntKind.wrap .i64 (v3+1)) (IntKind.wrap .i64 (v4+1)) (List.set v5 v3.toNat (List.getD v5 v4.toNat 0))
      else none
     else none
    else
     L1 v2 v3 (IntKind.wrap .i64 (v4+1)) v5
   else none
  else none
 else
 bif (decide (0≤v3)&&decide (v3≤((v5.length:Nat):Int)))&&decide (((v5.length:Nat):Int)≤(((List.map some v5).length:Nat):Int)) then
  bif Nat.ble ((0+v3.toNat)+((((v5.length:Nat):Int) - v3).toNat)) ((List.map some v5).length) then
   bif decide (0≤v3)&&decide (v3≤(((writeAt (List.map some v5) (0+v3.toNat) (List.replicate ((((v5.length:Nat):Int) - v3).toNat) (0:Int))).length:Nat):Int)) then
    bif Nat.ble ((v3 - 0).toNat) ((writeAt (List.map some v5) (0+v3.toNat) (List.replicate ((((v5.length:Nat):Int) - v3).toNat) (0:Int))).length) then
     Option.bind (allSome (List.take ((v3 - 0).toNat) (writeAt (List.map some v5) (0+v3.toNat) (List.replicate ((((v5.length:Nat):Int) - v3).toNat) (0:Int))))) fun (z7:List Int)=>
     some ((z7,()),())
    else none
   else none
  else none
 else none
noncomputable def slices_DeleteFunc_int_T (L1:(Int × Unit→Option (Bool × Unit))→Int→Int→List Int→Option (((List Int) × Unit) × Unit)) (s_0:List Int) (del_1:(Int × Unit→Option (Bool × Unit))):Option (((List Int) × Unit) × Unit):=
 Option.bind (slices_IndexFunc_int s_0 del_1) fun (r1:(Int × Unit) × Unit)=>
 bif r1.1.1==(-1) then
  some ((s_0,()),())
 else
  L1 del_1 r1.1.1 (IntKind.wrap .i64 (r1.1.1+1)) s_0
noncomputable def slices_DeleteFunc_int_L1 (n:Nat):Nat→(Int × Unit→Option (Bool × Unit))→Int→Int→List Int→Option (((List Int) × Unit) × Unit):=iter (fun _ _ _ _=>none) fun L=>slices_DeleteFunc_int_B1 L
noncomputable def slices_DeleteFunc_int_X1 (n m:Nat) (v2:(Int × Unit→Option (Bool × Unit))) (v3:Int) (v4:Int) (v5:List Int):Option (((List Int) × Unit) × Unit):=
 atLoop slices_DeleteFunc_int_Γ tab (fiB [.own 3 t2,.fn [t2] [t4]] slices_DeleteFunc_int_fi) n [.own 3 t2,.fn [t2] [t4]] [⟨t41,[true],none⟩] Tryz.f65 [1,1,1,0,1,0] [] [0,1,5,6] m
 ⟨[(0,SV.cv (CV.one (LV.ref (888888,0)))),(1,SV.cv (CV.one (LV.clo [t2] [t4] v2))),(5,SV.cv (CV.one (LV.pure t2 v3))),(6,SV.cv (CV.one (LV.pure t2 v4)))],
  [((888888,0),Ob.row 3 t2 v5)]⟩
theorem slices_DeleteFunc_int_step1 (n m:Nat) (v2:(Int × Unit→Option (Bool × Unit))) (v3:Int) (v4:Int) (v5:List Int):slices_DeleteFunc_int_X1 n (m+1) v2 v3 v4 v5=slices_DeleteFunc_int_B1 (slices_DeleteFunc_int_X1 n m) v2 v3 v4 v5:=by kernel_rfl
theorem slices_DeleteFunc_int_start (n:Nat) (s_0:List Int) (del_1:(Int × Unit→Option (Bool × Unit))):evFn slices_DeleteFunc_int_Γ tab slices_DeleteFunc_int_fi n [.own 3 t2,.fn [t2] [t4]] [⟨t41,[true],none⟩] Tryz.f65 (s_0,del_1,())=slices_DeleteFunc_int_T (slices_DeleteFunc_int_X1 n n) s_0 del_1:=by kernel_rfl
theorem slices_DeleteFunc_int_XL1 (n:Nat):∀ m,slices_DeleteFunc_int_X1 n m=slices_DeleteFunc_int_L1 n m
 | 0=>rfl
 | m+1=>by
  have ih:=slices_DeleteFunc_int_XL1 n m
  funext v2 v3 v4 v5
  rw [slices_DeleteFunc_int_step1,ih]
  rfl
noncomputable def slices_DeleteFunc_int_n (n:Nat) (s_0:List Int) (del_1:(Int × Unit→Option (Bool × Unit))):Option (((List Int) × Unit) × Unit):=slices_DeleteFunc_int_T (slices_DeleteFunc_int_L1 n n) s_0 del_1
noncomputable def slices_DeleteFunc_int (s_0:List Int) (del_1:(Int × Unit→Option (Bool × Unit))):Option (((List Int) × Unit) × Unit):=slices_DeleteFunc_int_n 1099511627776 s_0 del_1
theorem slices_DeleteFunc_int_eq (n:Nat) (s_0:List Int) (del_1:(Int × Unit→Option (Bool × Unit))):evFn slices_DeleteFunc_int_Γ tab slices_DeleteFunc_int_fi n [.own 3 t2,.fn [t2] [t4]] [⟨t41,[true],none⟩] Tryz.f65 (s_0,del_1,())=slices_DeleteFunc_int_n n s_0 del_1:=by
  rw [slices_DeleteFunc_int_start,slices_DeleteFunc_int_XL1 n n]
  rfl
noncomputable def slices_DeleteFunc_int_e:Ent:=⟨[.own 3 t2,.fn [t2] [t4]],[⟨t41,[true],none⟩],fun x=>slices_DeleteFunc_int x.1 x.2.1⟩
theorem slices_DeleteFunc_int_good:Good tab.ty Tryz.prog 65 slices_DeleteFunc_int_e:=by
  refine fn_good (Γ:=slices_DeleteFunc_int_Γ) (fi:=slices_DeleteFunc_int_fi) (n:=1099511627776) follows (gcons (gmark Tryz.func65 (by kernel_rfl) (by kernel_rfl)) (gcons slices_IndexFunc_int_good gnil)) tabok Tryz.func65 (by kernel_rfl) (by kernel_rfl) (fun x r h=>?_)
  obtain ⟨s_0,del_1,_u⟩:=x
  exact (slices_DeleteFunc_int_eq 1099511627776 s_0 del_1).trans h
noncomputable def clus_over_fn1_Γ:Ctx:=[]
def clus_over_fn1_fi:Fi:={ keep:=[],vty:=[],vals:=[],live:=[(0,[0,1]),(1,[3])] }
noncomputable def clus_over_fn1 (x_0:Int) (x_1:Int):Option ((Bool × Unit) × Unit):=
 some ((x_0==x_1,()),())
theorem clus_over_fn1_eq (x_0:Int) (x_1:Int):evFn clus_over_fn1_Γ tab clus_over_fn1_fi 1 [.val t2,.rbox t2] [⟨t4,[false],none⟩] Tryz.f112 (x_0,x_1,())=clus_over_fn1 x_0 x_1:=by kernel_rfl
noncomputable def clus_over_fn1_e:Ent:=⟨[.val t2,.rbox t2],[⟨t4,[false],none⟩],fun x=>clus_over_fn1 x.1 x.2.1⟩
theorem clus_over_fn1_good:Good tab.ty Tryz.prog 112 clus_over_fn1_e:=by
  refine fn_good (Γ:=clus_over_fn1_Γ) (fi:=clus_over_fn1_fi) (n:=1) follows gnil tabok Tryz.func112 (by kernel_rfl) (by kernel_rfl) (fun x r h=>?_)
  obtain ⟨x_0,x_1,_u⟩:=x
  exact (clus_over_fn1_eq x_0 x_1).trans h
noncomputable def clus_over_fn2_Γ:Ctx:=[]
def clus_over_fn2_fi:Fi:={ keep:=[],vty:=[],vals:=[],live:=[(0,[0,1]),(1,[3])] }
noncomputable def clus_over_fn2 (y_0:Int) (x_1:Int):Option ((Bool × Unit) × Unit):=
 some ((y_0==x_1,()),())
theorem clus_over_fn2_eq (y_0:Int) (x_1:Int):evFn clus_over_fn2_Γ tab clus_over_fn2_fi 1 [.val t2,.rbox t2] [⟨t4,[false],none⟩] Tryz.f113 (y_0,x_1,())=clus_over_fn2 y_0 x_1:=by kernel_rfl
noncomputable def clus_over_fn2_e:Ent:=⟨[.val t2,.rbox t2],[⟨t4,[false],none⟩],fun x=>clus_over_fn2 x.1 x.2.1⟩
theorem clus_over_fn2_good:Good tab.ty Tryz.prog 113 clus_over_fn2_e:=by
  refine fn_good (Γ:=clus_over_fn2_Γ) (fi:=clus_over_fn2_fi) (n:=1) follows gnil tabok Tryz.func113 (by kernel_rfl) (by kernel_rfl) (fun x r h=>?_)
  obtain ⟨y_0,x_1,_u⟩:=x
  exact (clus_over_fn2_eq y_0 x_1).trans h
noncomputable def clus_over_Γ:Ctx:=[(45,slices_Clone_int_e),(51,slices_Contains_int_e),(57,slices_Sort_int_e),(59,mid_Near_e),(65,slices_DeleteFunc_int_e),(112,clus_over_fn1_e),(113,clus_over_fn2_e)]
def clus_over_fi:Fi:={ keep:=[],vty:=[],vals:=[],live:=[(0,[0,1,2,4,8]),(1,[0,1,2,4,12]),(2,[1,2,4,12,13]),(3,[1,2,4,13,24]),(4,[1,2,13]),(5,[1,2,13]),(6,[1,2]),(7,[1,2]),(8,[10,11])] }
noncomputable def clus_over (d_0:List (List Int)) (from_1:List Int) (to_2:List Int) (own_3:Int) (end_4:Int):Option (((List Int) × (List Int) × Unit) × Unit):=
 Option.bind (slices_Clone_int from_1) fun (r1:((List Int) × Unit) × Unit)=>
 Option.bind (slices_DeleteFunc_int r1.1.1 (fun x=>(clus_over_fn1 x.1 own_3).bind fun r=>some (r.1.1,()))) fun (r2:((List Int) × Unit) × Unit)=>
 Option.bind (mid_Near d_0 end_4 r2.1.1) fun (r3:(Int × Unit) × Unit)=>
 Option.bind (slices_Contains_int r2.1.1 end_4) fun (r4:(Bool × Unit) × Unit)=>
 bif r4.1.1 then
  Option.bind (slices_Clone_int from_1) fun (r5:((List Int) × Unit) × Unit)=>
  Option.bind (slices_DeleteFunc_int r5.1.1 (fun x=>(clus_over_fn2 x.1 end_4).bind fun r=>some (r.1.1,()))) fun (r6:((List Int) × Unit) × Unit)=>
  Option.bind (slices_Clone_int to_2) fun (r7:((List Int) × Unit) × Unit)=>
  bif Nat.ble (r7.1.1.length+1) 1073741824 then
   Option.bind (slices_Sort_int (r7.1.1++[end_4])) fun (r8:Unit × (List Int × Unit))=>
   some ((r6.1.1,r8.2.1,()),())
  else none
 else
  Option.bind (slices_Clone_int from_1) fun (r9:((List Int) × Unit) × Unit)=>
  Option.bind (slices_DeleteFunc_int r9.1.1 (fun x=>(clus_over_fn2 x.1 r3.1.1).bind fun r=>some (r.1.1,()))) fun (r10:((List Int) × Unit) × Unit)=>
  Option.bind (slices_Clone_int to_2) fun (r11:((List Int) × Unit) × Unit)=>
  bif Nat.ble (r11.1.1.length+1) 1073741824 then
   Option.bind (slices_Sort_int (r11.1.1++[r3.1.1])) fun (r12:Unit × (List Int × Unit))=>
   some ((r10.1.1,r12.2.1,()),())
  else none
theorem clus_over_eq (d_0:List (List Int)) (from_1:List Int) (to_2:List Int) (own_3:Int) (end_4:Int):evFn clus_over_Γ tab clus_over_fi 1 [.val t25,.val t41,.val t41,.val t2,.val t2] [⟨t41,[true],none⟩,⟨t41,[true],none⟩] Tryz.f104 (d_0,from_1,to_2,own_3,end_4,())=clus_over d_0 from_1 to_2 own_3 end_4:=by kernel_rfl
noncomputable def clus_over_e:Ent:=⟨[.val t25,.val t41,.val t41,.val t2,.val t2],[⟨t41,[true],none⟩,⟨t41,[true],none⟩],fun x=>clus_over x.1 x.2.1 x.2.2.1 x.2.2.2.1 x.2.2.2.2.1⟩
theorem clus_over_good:Good tab.ty Tryz.prog 104 clus_over_e:=by
  refine fn_good (Γ:=clus_over_Γ) (fi:=clus_over_fi) (n:=1) follows (gcons slices_Clone_int_good (gcons slices_Contains_int_good (gcons slices_Sort_int_good (gcons mid_Near_good (gcons slices_DeleteFunc_int_good (gcons clus_over_fn1_good (gcons clus_over_fn2_good gnil))))))) tabok Tryz.func104 (by kernel_rfl) (by kernel_rfl) (fun x r h=>?_)
  obtain ⟨d_0,from_1,to_2,own_3,end_4,_u⟩:=x
  exact (clus_over_eq d_0 from_1 to_2 own_3 end_4).trans h
noncomputable def clus_Split_Γ:Ctx:=[(45,slices_Clone_int_e),(102,clus_ends_e),(103,clus_far_e),(104,clus_over_e)]
def clus_Split_fi:Fi:={ keep:=[],vty:=[(6,41),(7,41)],vals:=[],live:=[(0,[0,1,2,6,7,33,34,35,36,37,38,39,40,41,42,43,44,45,46,62,63,64,65,81,82,83,84]),(1,[0,1,2,6,7,14,33,34,35,36,37,38,39,40,41,42,43,44,45,46,62,63,64,65,81,82,83,84]),(2,[6,7]),(3,[0,1,2,6,7,8,9,33,34,35,36,37,38,39,40,41,42,43,44,45,46,62,63,64,65,81,82,83,84]),(4,[0,2,6,7,8,9,23,24,25,33,34,35,36,37,38,39,40,41,42,43,44,45,46,62,63,64,65,81,82,83,84]),(5,[0,2,6,7,8,9,23,24,25,26,33,34,35,36,37,38,39,40,41,42,43,44,45,46,62,63,64,65,81,82,83,84]),(6,[0,2,6,7,8,9,11,23,24,25,33,34,35,36,37,38,39,40,41,42,43,44,45,46,62,63,64,65,81,82,83,84]),(7,[0,2,6,7,8,9,11,23,24,25,33,34,35,36,37,38,39,40,41,42,43,44,45,46,47,62,63,64,65,81,82,83,84]),(8,[0,2,6,7,8,9,23,24,25,33,34,35,36,37,38,39,40,41,42,43,44,45,46,62,63,64,65,81,82,83,84]),(9,[0,2,6,7,8,9,23,24,25,33,34,35,36,37,38,39,40,41,42,43,44,45,46,62,63,64,65,81,82,83,84]),(10,[0,2,6,7,8,9,23,24,25,33,34,35,36,37,38,39,40,41,42,43,44,45,46,62,63,64,65,81,82,83,84]),(11,[0,2,6,7,8,9,62,63,64,65,66,81,82,83,84]),(12,[0,2,6,7,8,9,62,63,64,65,81,82,83,84]),(13,[0,2,6,7,8,9,81,82,83,84,85]),(14,[0,2,6,7,8,9,81,82,83,84]),(15,[6,7])] }
noncomputable def clus_Split_B1 (L1:List (List Int)→Int→Int→Int→List Int→Int→Int→List Int→List Int→Option (((List Int) × (List Int) × Unit) × Unit)) (L2:List (List Int)→Int→Int→Int→List Int→Int→Int→Bool→List Int→List Int→Option (((List Int) × (List Int) × Unit) × Unit)) (v3:List (List Int)) (v4:Int) (v5:Int) (v6:Int) (v7:List Int) (v8:Int) (v9:Int) (v10:List Int) (v11:List Int):Option (((List Int) × (List Int) × Unit) × Unit):=
 bif decide (v9<v8) then
  bif decide (0≤v9)&&decide (v9<(v7.length:Int)) then
   bif (List.getD v7 v9.toNat 0) != v6 then
    bif (List.getD v7 v9.toNat 0)==v5 then
     bif Nat.ble (v10.length+1) 1073741824 then
      L1 v3 v4 v5 v6 v7 v8 (IntKind.wrap .i64 (v9+1)) (v10++[List.getD v7 v9.toNat 0]) v11
     else none
    else
     Option.bind (clus_far v3 (List.getD v7 v9.toNat 0) v5) fun (r12:(Int × Unit) × Unit)=>
     Option.bind (clus_far v3 (List.getD v7 v9.toNat 0) v6) fun (r13:(Int × Unit) × Unit)=>
     bif decide (r12.1.1≤r13.1.1) then
      bif Nat.ble (v10.length+1) 1073741824 then
       L1 v3 v4 v5 v6 v7 v8 (IntKind.wrap .i64 (v9+1)) (v10++[List.getD v7 v9.toNat 0]) v11
      else none
     else
     bif Nat.ble (v11.length+1) 1073741824 then
      L1 v3 v4 v5 v6 v7 v8 (IntKind.wrap .i64 (v9+1)) v10 (v11++[List.getD v7 v9.toNat 0])
     else none
   else
   bif Nat.ble (v11.length+1) 1073741824 then
    L1 v3 v4 v5 v6 v7 v8 (IntKind.wrap .i64 (v9+1)) v10 (v11++[List.getD v7 v9.toNat 0])
   else none
  else none
 else
  L2 v3 v4 v5 v6 v7 v8 v9 (decide (v9<v8)) v10 v11
noncomputable def clus_Split_B2 (L3:List (List Int)→Int→Int→Int→List Int→List Int→Option (((List Int) × (List Int) × Unit) × Unit)) (L4:List (List Int)→Int→Int→Int→Int→Int→Bool→Bool→List Int→List Int→Option (((List Int) × (List Int) × Unit) × Unit)) (L6:List (List Int)→Int→Int→Int→Bool→List Int→List Int→Option (((List Int) × (List Int) × Unit) × Unit)) (v14:List (List Int)) (v15:Int) (v16:Int) (v17:Int) (v18:List Int) (v19:Int) (v20:Int) (v21:Bool) (v22:List Int) (v23:List Int):Option (((List Int) × (List Int) × Unit) × Unit):=
 bif decide ((v22.length:Int)<v15) then
  bif decide ((v23.length:Int)>v15) then
   Option.bind (clus_over v14 v23 v22 v17 v16) fun (r24:((List Int) × (List Int) × Unit) × Unit)=>
   L3 v14 v15 v16 v17 r24.1.2.1 r24.1.1
  else
   L4 v14 v15 v16 v17 (v23.length:Int) v15 (decide ((v23.length:Int)>v15)) (decide ((v23.length:Int)>v15)) v22 v23
 else
  L6 v14 v15 v16 v17 false v22 v23
noncomputable def clus_Split_B3 (L3:List (List Int)→Int→Int→Int→List Int→List Int→Option (((List Int) × (List Int) × Unit) × Unit)) (L4:List (List Int)→Int→Int→Int→Int→Int→Bool→Bool→List Int→List Int→Option (((List Int) × (List Int) × Unit) × Unit)) (L6:List (List Int)→Int→Int→Int→Bool→List Int→List Int→Option (((List Int) × (List Int) × Unit) × Unit)) (v25:List (List Int)) (v26:Int) (v27:Int) (v28:Int) (v29:List Int) (v30:List Int):Option (((List Int) × (List Int) × Unit) × Unit):=
 bif decide ((v29.length:Int)<v26) then
  bif decide ((v30.length:Int)>v26) then
   Option.bind (clus_over v25 v30 v29 v28 v27) fun (r31:((List Int) × (List Int) × Unit) × Unit)=>
   L3 v25 v26 v27 v28 r31.1.2.1 r31.1.1
  else
   L4 v25 v26 v27 v28 (v30.length:Int) v26 (decide ((v30.length:Int)>v26)) (decide ((v30.length:Int)>v26)) v29 v30
 else
  L6 v25 v26 v27 v28 false v29 v30
noncomputable def clus_Split_B4 (L5:List (List Int)→Int→Int→Int→List Int→List Int→Option (((List Int) × (List Int) × Unit) × Unit)) (v32:List (List Int)) (v33:Int) (v34:Int) (v35:Int) (v36:Int) (v37:Int) (v38:Bool) (v39:Bool) (v40:List Int) (v41:List Int):Option (((List Int) × (List Int) × Unit) × Unit):=
 bif decide ((v41.length:Int)<v33) then
  bif decide ((v40.length:Int)>v33) then
   Option.bind (clus_over v32 v40 v41 v34 v35) fun (r42:((List Int) × (List Int) × Unit) × Unit)=>
   L5 v32 v33 v34 v35 r42.1.1 r42.1.2.1
  else
   some ((v40,v41,()),())
 else
  some ((v40,v41,()),())
noncomputable def clus_Split_B5 (L5:List (List Int)→Int→Int→Int→List Int→List Int→Option (((List Int) × (List Int) × Unit) × Unit)) (v43:List (List Int)) (v44:Int) (v45:Int) (v46:Int) (v47:List Int) (v48:List Int):Option (((List Int) × (List Int) × Unit) × Unit):=
 bif decide ((v48.length:Int)<v44) then
  bif decide ((v47.length:Int)>v44) then
   Option.bind (clus_over v43 v47 v48 v45 v46) fun (r49:((List Int) × (List Int) × Unit) × Unit)=>
   L5 v43 v44 v45 v46 r49.1.1 r49.1.2.1
  else
   some ((v47,v48,()),())
 else
  some ((v47,v48,()),())
noncomputable def clus_Split_B6 (L7:List (List Int)→Int→Int→Int→List Int→List Int→Option (((List Int) × (List Int) × Unit) × Unit)) (v50:List (List Int)) (v51:Int) (v52:Int) (v53:Int) (v54:Bool) (v55:List Int) (v56:List Int):Option (((List Int) × (List Int) × Unit) × Unit):=
 bif decide ((v56.length:Int)<v51) then
  bif decide ((v55.length:Int)>v51) then
   Option.bind (clus_over v50 v55 v56 v52 v53) fun (r57:((List Int) × (List Int) × Unit) × Unit)=>
   L7 v50 v51 v52 v53 r57.1.1 r57.1.2.1
  else
   some ((v55,v56,()),())
 else
  some ((v55,v56,()),())
noncomputable def clus_Split_B7 (L7:List (List Int)→Int→Int→Int→List Int→List Int→Option (((List Int) × (List Int) × Unit) × Unit)) (v58:List (List Int)) (v59:Int) (v60:Int) (v61:Int) (v62:List Int) (v63:List Int):Option (((List Int) × (List Int) × Unit) × Unit):=
 bif decide ((v63.length:Int)<v59) then
  bif decide ((v62.length:Int)>v59) then
   Option.bind (clus_over v58 v62 v63 v60 v61) fun (r64:((List Int) × (List Int) × Unit) × Unit)=>
   L7 v58 v59 v60 v61 r64.1.1 r64.1.2.1
  else
   some ((v62,v63,()),())
 else
  some ((v62,v63,()),())
noncomputable def clus_Split_T (L1:List (List Int)→Int→Int→Int→List Int→Int→Int→List Int→List Int→Option (((List Int) × (List Int) × Unit) × Unit)) (d_0:List (List Int)) (l_1:List Int) (k_2:Int):Option (((List Int) × (List Int) × Unit) × Unit):=
 bif decide ((l_1.length:Int)<2) then
  Option.bind (slices_Clone_int l_1) fun (r1:((List Int) × Unit) × Unit)=>
  some ((r1.1.1,[],()),())
 else
  Option.bind (clus_ends d_0 l_1) fun (r2:(Int × Int × Unit) × Unit)=>
  L1 d_0 k_2 r2.1.1 r2.1.2.1 l_1 (l_1.length:Int) 0 [] []
noncomputable def clus_Split_L5 (n:Nat):Nat→List (List Int)→Int→Int→Int→List Int→List Int→Option (((List Int) × (List Int) × Unit) × Unit):=iter (fun _ _ _ _ _ _=>none) fun L=>clus_Split_B5 L
noncomputable def clus_Split_L4 (n:Nat):Nat→List (List Int)→Int→Int→Int→Int→Int→Bool→Bool→List Int→List Int→Option (((List Int) × (List Int) × Unit) × Unit):=iterN (fun _ _ _ _ _ _ _ _ _ _=>none) fun m L=>clus_Split_B4 (clus_Split_L5 n m)
noncomputable def clus_Split_L7 (n:Nat):Nat→List (List Int)→Int→Int→Int→List Int→List Int→Option (((List Int) × (List Int) × Unit) × Unit):=iter (fun _ _ _ _ _ _=>none) fun L=>clus_Split_B7 L
noncomputable def clus_Split_L6 (n:Nat):Nat→List (List Int)→Int→Int→Int→Bool→List Int→List Int→Option (((List Int) × (List Int) × Unit) × Unit):=iterN (fun _ _ _ _ _ _ _=>none) fun m L=>clus_Split_B6 (clus_Split_L7 n m)
noncomputable def clus_Split_L3 (n:Nat):Nat→List (List Int)→Int→Int→Int→List Int→List Int→Option (((List Int) × (List Int) × Unit) × Unit):=iter (fun _ _ _ _ _ _=>none) fun L=>clus_Split_B3 L (clus_Split_L4 n n) (clus_Split_L6 n n)
noncomputable def clus_Split_L2 (n:Nat):Nat→List (List Int)→Int→Int→Int→List Int→Int→Int→Bool→List Int→List Int→Option (((List Int) × (List Int) × Unit) × Unit):=iterN (fun _ _ _ _ _ _ _ _ _ _=>none) fun m L=>clus_Split_B2 (clus_Split_L3 n m) (clus_Split_L4 n n) (clus_Split_L6 n n)
noncomputable def clus_Split_L1 (n:Nat):Nat→List (List Int)→Int→Int→Int→List Int→Int→Int→List Int→List Int→Option (((List Int) × (List Int) × Unit) × Unit):=iter (fun _ _ _ _ _ _ _ _ _=>none) fun L=>clus_Split_B1 L (clus_Split_L2 n n)
noncomputable def clus_Split_X1 (n m:Nat) (v3:List (List Int)) (v4:Int) (v5:Int) (v6:Int) (v7:List Int) (v8:Int) (v9:Int) (v10:List Int) (v11:List Int):Option (((List Int) × (List Int) × Unit) × Unit):=
 atLoop clus_Split_Γ tab (fiB [.val t25,.val t41,.val t2] clus_Split_fi) n [.val t25,.val t41,.val t2] [⟨t41,[true],none⟩,⟨t41,[true],none⟩] Tryz.f82 [1,1,1,0,1,0] [] [0,2,6,7,8,9,23,24,25] m
 ⟨[(0,SV.cv (CV.one (LV.pure t25 v3))),(2,SV.cv (CV.one (LV.pure t2 v4))),(6,SV.cv (CV.one (LV.ref (888888,6)))),(7,SV.cv (CV.one (LV.ref (888888,7)))),(8,SV.cv (CV.one (LV.pure t2 v5))),(9,SV.cv (CV.one (LV.pure t2 v6))),(23,SV.cv (CV.one (LV.pure t41 v7))),(24,SV.cv (CV.one (LV.pure t2 v8))),(25,SV.cv (CV.one (LV.pure t2 v9)))],
  [((888888,6),Ob.row 3 t2 v10),((888888,7),Ob.row 3 t2 v11)]⟩
noncomputable def clus_Split_X2 (n m:Nat) (v14:List (List Int)) (v15:Int) (v16:Int) (v17:Int) (v18:List Int) (v19:Int) (v20:Int) (v21:Bool) (v22:List Int) (v23:List Int):Option (((List Int) × (List Int) × Unit) × Unit):=
 atLoop clus_Split_Γ tab (fiB [.val t25,.val t41,.val t2] clus_Split_fi) n [.val t25,.val t41,.val t2] [⟨t41,[true],none⟩,⟨t41,[true],none⟩] Tryz.f82 [1,1,1,1,0,0] [] [0,2,6,7,8,9,23,24,25,26] m
 ⟨[(0,SV.cv (CV.one (LV.pure t25 v14))),(2,SV.cv (CV.one (LV.pure t2 v15))),(6,SV.cv (CV.one (LV.ref (888888,6)))),(7,SV.cv (CV.one (LV.ref (888888,7)))),(8,SV.cv (CV.one (LV.pure t2 v16))),(9,SV.cv (CV.one (LV.pure t2 v17))),(23,SV.cv (CV.one (LV.pure t41 v18))),(24,SV.cv (CV.one (LV.pure t2 v19))),(25,SV.cv (CV.one (LV.pure t2 v20))),(26,SV.cv (CV.one (LV.pure t4 v21)))],
  [((888888,6),Ob.row 3 t2 v22),((888888,7),Ob.row 3 t2 v23)]⟩
noncomputable def clus_Split_X3 (n m:Nat) (v25:List (List Int)) (v26:Int) (v27:Int) (v28:Int) (v29:List Int) (v30:List Int):Option (((List Int) × (List Int) × Unit) × Unit):=
 atLoop clus_Split_Γ tab (fiB [.val t25,.val t41,.val t2] clus_Split_fi) n [.val t25,.val t41,.val t2] [⟨t41,[true],none⟩,⟨t41,[true],none⟩] Tryz.f82 [1,1,1,1,0,0] [] [0,2,6,7,8,9,23,24,25,26] m
 ⟨[(0,SV.cv (CV.one (LV.pure t25 v25))),(2,SV.cv (CV.one (LV.pure t2 v26))),(6,SV.cv (CV.one (LV.ref (888888,6)))),(7,SV.cv (CV.one (LV.ref (888888,7)))),(8,SV.cv (CV.one (LV.pure t2 v27))),(9,SV.cv (CV.one (LV.pure t2 v28)))],
  [((888888,6),Ob.row 3 t2 v29),((888888,7),Ob.row 3 t2 v30)]⟩
noncomputable def clus_Split_X4 (n m:Nat) (v32:List (List Int)) (v33:Int) (v34:Int) (v35:Int) (v36:Int) (v37:Int) (v38:Bool) (v39:Bool) (v40:List Int) (v41:List Int):Option (((List Int) × (List Int) × Unit) × Unit):=
 atLoop clus_Split_Γ tab (fiB [.val t25,.val t41,.val t2] clus_Split_fi) n [.val t25,.val t41,.val t2] [⟨t41,[true],none⟩,⟨t41,[true],none⟩] Tryz.f82 [1,1,1,1,1,0,0] [] [0,2,6,7,8,9,62,63,64,65,66] m
 ⟨[(0,SV.cv (CV.one (LV.pure t25 v32))),(2,SV.cv (CV.one (LV.pure t2 v33))),(6,SV.cv (CV.one (LV.ref (888888,6)))),(7,SV.cv (CV.one (LV.ref (888888,62)))),(8,SV.cv (CV.one (LV.pure t2 v34))),(9,SV.cv (CV.one (LV.pure t2 v35))),(62,SV.cv (CV.one (LV.ref (888888,62)))),(63,SV.cv (CV.one (LV.pure t2 v36))),(64,SV.cv (CV.one (LV.pure t2 v37))),(65,SV.cv (CV.one (LV.pure t4 v38))),(66,SV.cv (CV.one (LV.pure t4 v39)))],
  [((888888,6),Ob.row 3 t2 v40),((888888,62),Ob.row 3 t2 v41)]⟩
noncomputable def clus_Split_X5 (n m:Nat) (v43:List (List Int)) (v44:Int) (v45:Int) (v46:Int) (v47:List Int) (v48:List Int):Option (((List Int) × (List Int) × Unit) × Unit):=
 atLoop clus_Split_Γ tab (fiB [.val t25,.val t41,.val t2] clus_Split_fi) n [.val t25,.val t41,.val t2] [⟨t41,[true],none⟩,⟨t41,[true],none⟩] Tryz.f82 [1,1,1,1,1,0,0] [] [0,2,6,7,8,9,62,63,64,65,66] m
 ⟨[(0,SV.cv (CV.one (LV.pure t25 v43))),(2,SV.cv (CV.one (LV.pure t2 v44))),(6,SV.cv (CV.one (LV.ref (888888,6)))),(7,SV.cv (CV.one (LV.ref (888888,7)))),(8,SV.cv (CV.one (LV.pure t2 v45))),(9,SV.cv (CV.one (LV.pure t2 v46)))],
  [((888888,6),Ob.row 3 t2 v47),((888888,7),Ob.row 3 t2 v48)]⟩
noncomputable def clus_Split_X6 (n m:Nat) (v50:List (List Int)) (v51:Int) (v52:Int) (v53:Int) (v54:Bool) (v55:List Int) (v56:List Int):Option (((List Int) × (List Int) × Unit) × Unit):=
 atLoop clus_Split_Γ tab (fiB [.val t25,.val t41,.val t2] clus_Split_fi) n [.val t25,.val t41,.val t2] [⟨t41,[true],none⟩,⟨t41,[true],none⟩] Tryz.f82 [1,1,1,1,1,0,0] [] [0,2,6,7,8,9,66] m
 ⟨[(0,SV.cv (CV.one (LV.pure t25 v50))),(2,SV.cv (CV.one (LV.pure t2 v51))),(6,SV.cv (CV.one (LV.ref (888888,6)))),(7,SV.cv (CV.one (LV.ref (888888,7)))),(8,SV.cv (CV.one (LV.pure t2 v52))),(9,SV.cv (CV.one (LV.pure t2 v53))),(66,SV.cv (CV.one (LV.pure t4 v54)))],
  [((888888,6),Ob.row 3 t2 v55),((888888,7),Ob.row 3 t2 v56)]⟩
noncomputable def clus_Split_X7 (n m:Nat) (v58:List (List Int)) (v59:Int) (v60:Int) (v61:Int) (v62:List Int) (v63:List Int):Option (((List Int) × (List Int) × Unit) × Unit):=
 atLoop clus_Split_Γ tab (fiB [.val t25,.val t41,.val t2] clus_Split_fi) n [.val t25,.val t41,.val t2] [⟨t41,[true],none⟩,⟨t41,[true],none⟩] Tryz.f82 [1,1,1,1,1,0,0] [] [0,2,6,7,8,9,66] m
 ⟨[(0,SV.cv (CV.one (LV.pure t25 v58))),(2,SV.cv (CV.one (LV.pure t2 v59))),(6,SV.cv (CV.one (LV.ref (888888,6)))),(7,SV.cv (CV.one (LV.ref (888888,7)))),(8,SV.cv (CV.one (LV.pure t2 v60))),(9,SV.cv (CV.one (LV.pure t2 v61)))],
  [((888888,6),Ob.row 3 t2 v62),((888888,7),Ob.row 3 t2 v63)]⟩
theorem clus_Split_step1 (n m:Nat) (v3:List (List Int)) (v4:Int) (v5:Int) (v6:Int) (v7:List Int) (v8:Int) (v9:Int) (v10:List Int) (v11:List Int):clus_Split_X1 n (m+1) v3 v4 v5 v6 v7 v8 v9 v10 v11=clus_Split_B1 (clus_Split_X1 n m) (clus_Split_X2 n n) v3 v4 v5 v6 v7 v8 v9 v10 v11:=by kernel_rfl
theorem clus_Split_step2 (n m:Nat) (v14:List (List Int)) (v15:Int) (v16:Int) (v17:Int) (v18:List Int) (v19:Int) (v20:Int) (v21:Bool) (v22:List Int) (v23:List Int):clus_Split_X2 n (m+1) v14 v15 v16 v17 v18 v19 v20 v21 v22 v23=clus_Split_B2 (clus_Split_X3 n m) (clus_Split_X4 n n) (clus_Split_X6 n n) v14 v15 v16 v17 v18 v19 v20 v21 v22 v23:=by kernel_rfl
theorem clus_Split_step3 (n m:Nat) (v25:List (List Int)) (v26:Int) (v27:Int) (v28:Int) (v29:List Int) (v30:List Int):clus_Split_X3 n (m+1) v25 v26 v27 v28 v29 v30=clus_Split_B3 (clus_Split_X3 n m) (clus_Split_X4 n n) (clus_Split_X6 n n) v25 v26 v27 v28 v29 v30:=by kernel_rfl
theorem clus_Split_step4 (n m:Nat) (v32:List (List Int)) (v33:Int) (v34:Int) (v35:Int) (v36:Int) (v37:Int) (v38:Bool) (v39:Bool) (v40:List Int) (v41:List Int):clus_Split_X4 n (m+1) v32 v33 v34 v35 v36 v37 v38 v39 v40 v41=clus_Split_B4 (clus_Split_X5 n m) v32 v33 v34 v35 v36 v37 v38 v39 v40 v41:=by kernel_rfl
theorem clus_Split_step5 (n m:Nat) (v43:List (List Int)) (v44:Int) (v45:Int) (v46:Int) (v47:List Int) (v48:List Int):clus_Split_X5 n (m+1) v43 v44 v45 v46 v47 v48=clus_Split_B5 (clus_Split_X5 n m) v43 v44 v45 v46 v47 v48:=by kernel_rfl
theorem clus_Split_step6 (n m:Nat) (v50:List (List Int)) (v51:Int) (v52:Int) (v53:Int) (v54:Bool) (v55:List Int) (v56:List Int):clus_Split_X6 n (m+1) v50 v51 v52 v53 v54 v55 v56=clus_Split_B6 (clus_Split_X7 n m) v50 v51 v52 v53 v54 v55 v56:=by kernel_rfl
theorem clus_Split_step7 (n m:Nat) (v58:List (List Int)) (v59:Int) (v60:Int) (v61:Int) (v62:List Int) (v63:List Int):clus_Split_X7 n (m+1) v58 v59 v60 v61 v62 v63=clus_Split_B7 (clus_Split_X7 n m) v58 v59 v60 v61 v62 v63:=by kernel_rfl
theorem clus_Split_start (n:Nat) (d_0:List (List Int)) (l_1:List Int) (k_2:Int):evFn clus_Split_Γ tab clus_Split_fi n [.val t25,.val t41,.val t2] [⟨t41,[true],none⟩,⟨t41,[true],none⟩] Tryz.f82 (d_0,l_1,k_2,())=clus_Split_T (clus_Split_X1 n n) d_0 l_1 k_2:=by kernel_rfl
theorem clus_Split_XL5 (n:Nat):∀ m,clus_Split_X5 n m=clus_Split_L5 n m
 | 0=>rfl
 | m+1=>by
  have ih:=clus_Split_XL5 n m
  funext v43 v44 v45 v46 v47 v48
  rw [clus_Split_step5,ih]
  rfl
theorem clus_Split_XL4 (n:Nat):∀ m,clus_Split_X4 n m=clus_Split_L4 n m
 | 0=>rfl
 | m+1=>by
  have ih:=clus_Split_XL4 n m
  funext v32 v33 v34 v35 v36 v37 v38 v39 v40 v41
  rw [clus_Split_step4,clus_Split_XL5 n m]
  rfl
theorem clus_Split_XL7 (n:Nat):∀ m,clus_Split_X7 n m=clus_Split_L7 n m
 | 0=>rfl
 | m+1=>by
  have ih:=clus_Split_XL7 n m
  funext v58 v59 v60 v61 v62 v63
  rw [clus_Split_step7,ih]
  rfl
theorem clus_Split_XL6 (n:Nat):∀ m,clus_Split_X6 n m=clus_Split_L6 n m
 | 0=>rfl
 | m+1=>by
  have ih:=clus_Split_XL6 n m
  funext v50 v51 v52 v53 v54 v55 v56
  rw [clus_Split_step6,clus_Split_XL7 n m]
  rfl
theorem clus_Split_XL3 (n:Nat):∀ m,clus_Split_X3 n m=clus_Split_L3 n m
 | 0=>rfl
 | m+1=>by
  have ih:=clus_Split_XL3 n m
  funext v25 v26 v27 v28 v29 v30
  rw [clus_Split_step3,clus_Split_XL4 n n,clus_Split_XL6 n n,ih]
  rfl
theorem clus_Split_XL2 (n:Nat):∀ m,clus_Split_X2 n m=clus_Split_L2 n m
 | 0=>rfl
 | m+1=>by
  have ih:=clus_Split_XL2 n m
  funext v14 v15 v16 v17 v18 v19 v20 v21 v22 v23
  rw [clus_Split_step2,clus_Split_XL3 n m,clus_Split_XL4 n n,clus_Split_XL6 n n]
  rfl
theorem clus_Split_XL1 (n:Nat):∀ m,clus_Split_X1 n m=clus_Split_L1 n m
 | 0=>rfl
 | m+1=>by
  have ih:=clus_Split_XL1 n m
  funext v3 v4 v5 v6 v7 v8 v9 v10 v11
  rw [clus_Split_step1,clus_Split_XL2 n n,ih]
  rfl
noncomputable def clus_Split_n (n:Nat) (d_0:List (List Int)) (l_1:List Int) (k_2:Int):Option (((List Int) × (List Int) × Unit) × Unit):=clus_Split_T (clus_Split_L1 n n) d_0 l_1 k_2
noncomputable def clus_Split (d_0:List (List Int)) (l_1:List Int) (k_2:Int):Option (((List Int) × (List Int) × Unit) × Unit):=clus_Split_n 1099511627776 d_0 l_1 k_2
theorem clus_Split_eq (n:Nat) (d_0:List (List Int)) (l_1:List Int) (k_2:Int):evFn clus_Split_Γ tab clus_Split_fi n [.val t25,.val t41,.val t2] [⟨t41,[true],none⟩,⟨t41,[true],none⟩] Tryz.f82 (d_0,l_1,k_2,())=clus_Split_n n d_0 l_1 k_2:=by
  rw [clus_Split_start,clus_Split_XL1 n n]
  rfl
noncomputable def clus_Split_e:Ent:=⟨[.val t25,.val t41,.val t2],[⟨t41,[true],none⟩,⟨t41,[true],none⟩],fun x=>clus_Split x.1 x.2.1 x.2.2.1⟩
theorem clus_Split_good:Good tab.ty Tryz.prog 82 clus_Split_e:=by
  refine fn_good (Γ:=clus_Split_Γ) (fi:=clus_Split_fi) (n:=1099511627776) follows (gcons slices_Clone_int_good (gcons clus_ends_good (gcons clus_far_good (gcons clus_over_good gnil)))) tabok Tryz.func82 (by kernel_rfl) (by kernel_rfl) (fun x r h=>?_)
  obtain ⟨d_0,l_1,k_2,_u⟩:=x
  exact (clus_Split_eq 1099511627776 d_0 l_1 k_2).trans h
noncomputable def slices_Grow_Cluster_Γ:Ctx:=[(105,markE)]
def slices_Grow_Cluster_fi:Fi:={ keep:=[],vty:=[],vals:=[],live:=[(0,[0,1]),(1,[0,1,6]),(2,[0,1]),(3,[0,1]),(4,[0,1,16]),(5,[0]),(6,[4])] }
noncomputable def slices_Grow_Cluster_c (c:Nat) (s_0:List ((List Int) × Int)) (n_1:Int):Option (((List ((List Int) × Int)) × Unit) × Unit):=
 bif decide (n_1<0) then
  none
 else
 bif Nat.ble (0+s_0.length) ((List.map some s_0++List.replicate c none).length) then
  bif decide (IntKind.wrap .i64 (n_1 - (IntKind.wrap .i64 (((((List.map some s_0++List.replicate c none).length) - 0:Nat):Int) - ((s_0.length:Nat):Int))))>0) then
   bif Nat.ble (0+s_0.length) ((List.map some s_0++List.replicate c none).length) then
    bif decide (0≤((((List.map some s_0++List.replicate c none).length) - 0:Nat):Int))&&decide (((((List.map some s_0++List.replicate c none).length) - 0:Nat):Int)≤((((List.map some s_0++List.replicate c none).length) - 0:Nat):Int)) then
     bif Nat.ble (0+((((((List.map some s_0++List.replicate c none).length) - 0:Nat):Int) - 0).toNat)) ((List.map some s_0++List.replicate c none).length) then
      bif decide (0<IntKind.wrap .i64 (n_1 - (IntKind.wrap .i64 (((((List.map some s_0++List.replicate c none).length) - 0:Nat):Int) - ((s_0.length:Nat):Int)))))&&true&&Nat.blt ((List.map some s_0++List.replicate c none).length) (((((((List.map some s_0++List.replicate c none).length) - 0:Nat):Int) - 0).toNat)+((List.replicate ((IntKind.wrap .i64 (n_1 - (IntKind.wrap .i64 (((((List.map some s_0++List.replicate c none).length) - 0:Nat):Int) - ((s_0.length:Nat):Int))))).toNat) (([],0):(List Int) × Int)).length))&&Nat.ble (((List.map some s_0++List.replicate c none).length)+((List.replicate ((IntKind.wrap .i64 (n_1 - (IntKind.wrap .i64 (((((List.map some s_0++List.replicate c none).length) - 0:Nat):Int) - ((s_0.length:Nat):Int))))).toNat) (([],0):(List Int) × Int)).length)) 536870912 then
       bif decide (0≤((s_0.length:Nat):Int))&&decide (((s_0.length:Nat):Int)≤((((List.take ((((((List.map some s_0++List.replicate c none).length) - 0:Nat):Int) - 0).toNat) (List.map some s_0++List.replicate c none)++List.map some (List.replicate ((IntKind.wrap .i64 (n_1 - (IntKind.wrap .i64 (((((List.map some s_0++List.replicate c none).length) - 0:Nat):Int) - ((s_0.length:Nat):Int))))).toNat) (([],0):(List Int) × Int))).length) - 0:Nat):Int)) then
        bif Nat.ble ((((s_0.length:Nat):Int) - 0).toNat) ((List.take ((((((List.map some s_0++List.replicate c none).length) - 0:Nat):Int) - 0).toNat) (List.map some s_0++List.replicate c none)++List.map some (List.replicate ((IntKind.wrap .i64 (n_1 - (IntKind.wrap .i64 (((((List.map some s_0++List.replicate c none).length) - 0:Nat):Int) - ((s_0.length:Nat):Int))))).toNat) (([],0):(List Int) × Int))).length) then
         Option.bind (allSome (List.take ((((s_0.length:Nat):Int) - 0).toNat) (List.take ((((((List.map some s_0++List.replicate c none).length) - 0:Nat):Int) - 0).toNat) (List.map some s_0++List.replicate c none)++List.map some (List.replicate ((IntKind.wrap .i64 (n_1 - (IntKind.wrap .i64 (((((List.map some s_0++List.replicate c none).length) - 0:Nat):Int) - ((s_0.length:Nat):Int))))).toNat) (([],0):(List Int) × Int))))) fun (z1:List ((List Int) × Int))=>
         some ((z1,()),())
        else none
       else none
      else none
     else none
    else none
   else none
  else
  bif Nat.ble s_0.length ((List.map some s_0++List.replicate c none).length) then
   Option.bind (allSome (List.take s_0.length (List.map some s_0++List.replicate c none))) fun (z2:List ((List Int) × Int))=>
   some ((z2,()),())
  else none
 else none
theorem slices_Grow_Cluster_c_eq (c:Nat) (s_0:List ((List Int) × Int)) (n_1:Int):evFn slices_Grow_Cluster_Γ tab { slices_Grow_Cluster_fi with cap:=c } 1 [.ownc 43 t42,.val t2] [⟨t40,[true],none⟩] Tryz.f105 (s_0,n_1,())=slices_Grow_Cluster_c c s_0 n_1:=by kernel_rfl
theorem slices_Grow_Cluster_c_is (c:Nat) (s_0:List ((List Int) × Int)) (n_1:Int):slices_Grow_Cluster_c c s_0 n_1=growC (([],0):(List Int) × Int) c s_0 n_1:=by kernel_rfl
noncomputable def slices_Grow_Cluster (s_0:List ((List Int) × Int)) (n_1:Int):Option (((List ((List Int) × Int)) × Unit) × Unit):=growR s_0 n_1
noncomputable def slices_Grow_Cluster_e:Ent:=⟨[.ownc 43 t42,.val t2],[⟨t40,[true],none⟩],fun x=>slices_Grow_Cluster x.1 x.2.1⟩
theorem slices_Grow_Cluster_good:Good tab.ty Tryz.prog 105 slices_Grow_Cluster_e:=by
  refine fn_goodC (Γ:=slices_Grow_Cluster_Γ) (fi:=slices_Grow_Cluster_fi) (n:=1) follows (gcons (gmark Tryz.func105 (by kernel_rfl) (by kernel_rfl)) gnil) tabok Tryz.func105 (by kernel_rfl) (by kernel_rfl) (fun c x r hc h=>?_)
  obtain ⟨s_0,n_1,_u⟩:=x
  exact (slices_Grow_Cluster_c_eq c s_0 n_1).trans ((slices_Grow_Cluster_c_is c s_0 n_1).trans (grow_law (([],0):(List Int) × Int) c s_0 n_1 r hc h))
noncomputable def slices_Concat_Cluster_Γ:Ctx:=[(105,slices_Grow_Cluster_e)]
def slices_Concat_Cluster_fi:Fi:={ keep:=[],vty:=[],vals:=[],live:=[(0,[0]),(1,[0,3]),(2,[0,3,9,10,11]),(3,[0,3,9,10,11,12]),(4,[0,3,5,9,10,11]),(5,[0,3,9,10,11]),(6,[0,3,9,10,11,20]),(7,[0,3,9,10,11]),(8,[0,3,9,10,11]),(9,[0,6]),(10,[6,25,26,27]),(11,[6,25,26,27,28]),(12,[6,8,25,26,27]),(13,[6,25,26,27]),(14,[6,25,26,27]),(15,[2])] }
noncomputable def slices_Concat_Cluster_B1 (L1:(List (List ((List Int) × Int)))→Int→(List (List ((List Int) × Int)))→Int→Int→Option (((List ((List Int) × Int)) × Unit) × Unit)) (L2:(List (List ((List Int) × Int)))→Int→Int→(List ((List Int) × Int))→Option (((List ((List Int) × Int)) × Unit) × Unit)) (v1:List (List ((List Int) × Int))) (v2:Int) (v3:List (List ((List Int) × Int))) (v4:Int) (v5:Int):Option (((List ((List Int) × Int)) × Unit) × Unit):=
 bif decide (v5<v4) then
  bif decide (0≤v5)&&decide (v5<(v3.length:Int)) then
   bif decide (IntKind.wrap .i64 (v2+((List.getD v3 v5.toNat []).length:Int))<0) then
    none
   else
    L1 v1 (IntKind.wrap .i64 (v2+((List.getD v3 v5.toNat []).length:Int))) v3 v4 (IntKind.wrap .i64 (v5+1))
  else none
 else
  Option.bind (slices_Grow_Cluster [] v2) fun (r6:((List ((List Int) × Int)) × Unit) × Unit)=>
  L2 v1 (v1.length:Int) 0 r6.1.1
noncomputable def slices_Concat_Cluster_B2 (L2:(List (List ((List Int) × Int)))→Int→Int→(List ((List Int) × Int))→Option (((List ((List Int) × Int)) × Unit) × Unit)) (v7:List (List ((List Int) × Int))) (v8:Int) (v9:Int) (v10:List ((List Int) × Int)):Option (((List ((List Int) × Int)) × Unit) × Unit):=
 bif decide (v9<v8) then
  bif decide (0≤v9)&&decide (v9<(v7.length:Int)) then
   bif Nat.ble (v10.length+(List.getD v7 v9.toNat []).length) 1073741824 then
    L2 v7 v8 (IntKind.wrap .i64 (v9+1)) (v10++(List.getD v7 v9.toNat []))
   else none
  else none
 else
  some ((v10,()),())
noncomputable def slices_Concat_Cluster_T (L1:(List (List ((List Int) × Int)))→Int→(List (List ((List Int) × Int)))→Int→Int→Option (((List ((List Int) × Int)) × Unit) × Unit)) (slices_0:List (List ((List Int) × Int))):Option (((List ((List Int) × Int)) × Unit) × Unit):=
 L1 slices_0 0 slices_0 (slices_0.length:Int) 0
noncomputable def slices_Concat_Cluster_L2 (n:Nat):Nat→(List (List ((List Int) × Int)))→Int→Int→(List ((List Int) × Int))→Option (((List ((List Int) × Int)) × Unit) × Unit):=iter (fun _ _ _ _=>none) fun L=>slices_Concat_Cluster_B2 L
noncomputable def slices_Concat_Cluster_L1 (n:Nat):Nat→(List (List ((List Int) × Int)))→Int→(List (List ((List Int) × Int)))→Int→Int→Option (((List ((List Int) × Int)) × Unit) × Unit):=iter (fun _ _ _ _ _=>none) fun L=>slices_Concat_Cluster_B1 L (slices_Concat_Cluster_L2 n n)
noncomputable def slices_Concat_Cluster_X1 (n m:Nat) (v1:List (List ((List Int) × Int))) (v2:Int) (v3:List (List ((List Int) × Int))) (v4:Int) (v5:Int):Option (((List ((List Int) × Int)) × Unit) × Unit):=
 atLoop slices_Concat_Cluster_Γ tab (fiB [.val t29] slices_Concat_Cluster_fi) n [.val t29] [⟨t40,[true],none⟩] Tryz.f83 [1,1,0,1,0] [] [0,3,9,10,11] m
 ⟨[(0,SV.cv (CV.one (LV.pure t29 v1))),(3,SV.cv (CV.one (LV.pure t2 v2))),(9,SV.cv (CV.one (LV.pure t29 v3))),(10,SV.cv (CV.one (LV.pure t2 v4))),(11,SV.cv (CV.one (LV.pure t2 v5)))],
  []⟩
noncomputable def slices_Concat_Cluster_X2 (n m:Nat) (v7:List (List ((List Int) × Int))) (v8:Int) (v9:Int) (v10:List ((List Int) × Int)):Option (((List ((List Int) × Int)) × Unit) × Unit):=
 atLoop slices_Concat_Cluster_Γ tab (fiB [.val t29] slices_Concat_Cluster_fi) n [.val t29] [⟨t40,[true],none⟩] Tryz.f83 [1,1,1,1,0,1,0] [] [6,25,26,27] m
 ⟨[(6,SV.cv (CV.one (LV.ref (888888,6)))),(25,SV.cv (CV.one (LV.pure t29 v7))),(26,SV.cv (CV.one (LV.pure t2 v8))),(27,SV.cv (CV.one (LV.pure t2 v9)))],
  [((888888,6),Ob.row 43 t42 v10)]⟩
theorem slices_Concat_Cluster_step1 (n m:Nat) (v1:List (List ((List Int) × Int))) (v2:Int) (v3:List (List ((List Int) × Int))) (v4:Int) (v5:Int):slices_Concat_Cluster_X1 n (m+1) v1 v2 v3 v4 v5=slices_Concat_Cluster_B1 (slices_Concat_Cluster_X1 n m) (slices_Concat_Cluster_X2 n n) v1 v2 v3 v4 v5:=by kernel_rfl
theorem slices_Concat_Cluster_step2 (n m:Nat) (v7:List (List ((List Int) × Int))) (v8:Int) (v9:Int) (v10:List ((List Int) × Int)):slices_Concat_Cluster_X2 n (m+1) v7 v8 v9 v10=slices_Concat_Cluster_B2 (slices_Concat_Cluster_X2 n m) v7 v8 v9 v10:=by kernel_rfl
theorem slices_Concat_Cluster_start (n:Nat) (slices_0:List (List ((List Int) × Int))):evFn slices_Concat_Cluster_Γ tab slices_Concat_Cluster_fi n [.val t29] [⟨t40,[true],none⟩] Tryz.f83 (slices_0,())=slices_Concat_Cluster_T (slices_Concat_Cluster_X1 n n) slices_0:=by kernel_rfl
theorem slices_Concat_Cluster_XL2 (n:Nat):∀ m,slices_Concat_Cluster_X2 n m=slices_Concat_Cluster_L2 n m
 | 0=>rfl
 | m+1=>by
  have ih:=slices_Concat_Cluster_XL2 n m
  funext v7 v8 v9 v10
  rw [slices_Concat_Cluster_step2,ih]
  rfl
theorem slices_Concat_Cluster_XL1 (n:Nat):∀ m,slices_Concat_Cluster_X1 n m=slices_Concat_Cluster_L1 n m
 | 0=>rfl
 | m+1=>by
  have ih:=slices_Concat_Cluster_XL1 n m
  funext v1 v2 v3 v4 v5
  rw [slices_Concat_Cluster_step1,slices_Concat_Cluster_XL2 n n,ih]
  rfl
noncomputable def slices_Concat_Cluster_n (n:Nat) (slices_0:List (List ((List Int) × Int))):Option (((List ((List Int) × Int)) × Unit) × Unit):=slices_Concat_Cluster_T (slices_Concat_Cluster_L1 n n) slices_0
noncomputable def slices_Concat_Cluster (slices_0:List (List ((List Int) × Int))):Option (((List ((List Int) × Int)) × Unit) × Unit):=slices_Concat_Cluster_n 1099511627776 slices_0
theorem slices_Concat_Cluster_eq (n:Nat) (slices_0:List (List ((List Int) × Int))):evFn slices_Concat_Cluster_Γ tab slices_Concat_Cluster_fi n [.val t29] [⟨t40,[true],none⟩] Tryz.f83 (slices_0,())=slices_Concat_Cluster_n n slices_0:=by
  rw [slices_Concat_Cluster_start,slices_Concat_Cluster_XL1 n n]
  rfl
noncomputable def slices_Concat_Cluster_e:Ent:=⟨[.val t29],[⟨t40,[true],none⟩],fun x=>slices_Concat_Cluster x.1⟩
theorem slices_Concat_Cluster_good:Good tab.ty Tryz.prog 83 slices_Concat_Cluster_e:=by
  refine fn_good (Γ:=slices_Concat_Cluster_Γ) (fi:=slices_Concat_Cluster_fi) (n:=1099511627776) follows (gcons slices_Grow_Cluster_good gnil) tabok Tryz.func83 (by kernel_rfl) (by kernel_rfl) (fun x r h=>?_)
  obtain ⟨slices_0,_u⟩:=x
  exact (slices_Concat_Cluster_eq 1099511627776 slices_0).trans h
noncomputable def clus_cut_Γ:Ctx:=[(55,clus_Of_e),(82,clus_Split_e),(83,slices_Concat_Cluster_e)]
def clus_cut_fi:Fi:={ keep:=[],vty:=[],vals:=[],live:=[(0,[0,1,2,3,22,23,24,25,26,27,41,42,43]),(1,[0,1,2,3,10,22,23,24,25,26,27,41,42,43]),(2,[0,1,2,3,10,28,41,42,43]),(3,[8,9]),(4,[0,1,2,11,12,41,42,43]),(5,[0,1,2,11,12,44]),(6,[8,9]),(7,[8,9])] }
noncomputable def clus_cut (d_0:List (List Int)) (cs_1:List ((List Int) × Int)) (at_2:Int) (k_3:Int):Option (((List ((List Int) × Int)) × Bool × Unit) × Unit):=
 bif decide (0≤at_2)&&decide (at_2<(cs_1.length:Int)) then
  bif decide ((((List.getD cs_1 at_2.toNat ([],0)).1).length:Int)<2) then
   some ((cs_1,false,()),())
  else
  bif decide ((((List.getD cs_1 at_2.toNat ([],0)).1).length:Int)≤IntKind.wrap .i64 ((IntKind.wrap .i64 (3*k_3)) - 1)) then
   some ((cs_1,false,()),())
  else
   Option.bind (clus_Split d_0 ((List.getD cs_1 at_2.toNat ([],0)).1) k_3) fun (r1:((List Int) × (List Int) × Unit) × Unit)=>
   bif (r1.1.1.length:Int)==0 then
    some ((cs_1,false,()),())
   else
   bif (r1.1.2.1.length:Int)==0 then
    some ((cs_1,false,()),())
   else
   bif decide (0≤at_2)&&decide (at_2≤(cs_1.length:Int)) then
    Option.bind (clus_Of d_0 r1.1.1) fun (r2:(((List Int) × Int) × Unit) × Unit)=>
    Option.bind (clus_Of d_0 r1.1.2.1) fun (r3:(((List Int) × Int) × Unit) × Unit)=>
    bif (decide (0≤IntKind.wrap .i64 (at_2+1))&&decide (IntKind.wrap .i64 (at_2+1)≤(cs_1.length:Int)))&&decide ((cs_1.length:Int)≤(cs_1.length:Int)) then
     Option.bind (slices_Concat_Cluster [List.drop 0 (List.take at_2.toNat cs_1),[r2.1.1,r3.1.1],List.drop ((IntKind.wrap .i64 (at_2+1)).toNat) (List.take ((cs_1.length:Int).toNat) cs_1)]) fun (r4:((List ((List Int) × Int)) × Unit) × Unit)=>
     some ((r4.1.1,true,()),())
    else none
   else none
 else none
theorem clus_cut_eq (d_0:List (List Int)) (cs_1:List ((List Int) × Int)) (at_2:Int) (k_3:Int):evFn clus_cut_Γ tab clus_cut_fi 1 [.val t25,.val t40,.val t2,.val t2] [⟨t40,[false],none⟩,⟨t4,[false],none⟩] Tryz.f58 (d_0,cs_1,at_2,k_3,())=clus_cut d_0 cs_1 at_2 k_3:=by kernel_rfl
noncomputable def clus_cut_e:Ent:=⟨[.val t25,.val t40,.val t2,.val t2],[⟨t40,[false],none⟩,⟨t4,[false],none⟩],fun x=>clus_cut x.1 x.2.1 x.2.2.1 x.2.2.2.1⟩
theorem clus_cut_good:Good tab.ty Tryz.prog 58 clus_cut_e:=by
  refine fn_good (Γ:=clus_cut_Γ) (fi:=clus_cut_fi) (n:=1) follows (gcons clus_Of_good (gcons clus_Split_good (gcons slices_Concat_Cluster_good gnil))) tabok Tryz.func58 (by kernel_rfl) (by kernel_rfl) (fun x r h=>?_)
  obtain ⟨d_0,cs_1,at_2,k_3,_u⟩:=x
  exact (clus_cut_eq d_0 cs_1 at_2 k_3).trans h
noncomputable def clus_Join_Γ:Ctx:=[(55,clus_Of_e),(56,clus_find_e),(57,slices_Sort_int_e),(58,clus_cut_e)]
def clus_Join_fi:Fi:={ keep:=[],vty:=[(1,40),(10,40),(11,41),(12,40),(15,40),(18,25),(28,40),(33,40),(38,40),(39,40),(47,41),(49,40),(51,25),(52,41),(56,25),(57,40),(63,40)],vals:=[],live:=[(0,[0,1,2,3,4,27,28,29,30,33,34,35,36]),(1,[0,1,2,3,4,27,28,29,30,33,34,35,36]),(2,[0,1,2,3,4,14,27,28,29,30,33,34,35,36]),(3,[10]),(4,[0,1,2,3,4,23]),(5,[10]),(6,[0,1,2,4,11]),(7,[0,1,2,4,11]),(8,[0,1,2,4]),(9,[1]),(10,[10])] }
def clus_Join_cfg:TakeCfg:={ eT:=43,iT:=3,Tcs:=40,Tsl:=41,tD:=t25,cs:=1,ix:=2,tA:=12,tB:=13,q1:=39,q2:=40,q3:=41,q4:=42,q5:=43,ks:=[2,3,4],bx:=none,ft:=54,id6:=6 }
noncomputable def clus_Join_c0:Code:=match Tryz.f29.body with
  | some c=>c
  | none=>.skip
noncomputable def clus_Join_c1:Code:=seqR clus_Join_c0
noncomputable def clus_Join_c2:Code:=seqR clus_Join_c1
noncomputable def clus_Join_Bs:List Code:=[seqL clus_Join_c2]
noncomputable def clus_Join_c3:Code:=seqR (clus_Join_c2)
noncomputable def clus_Join_x (x:PDs [.val t25,.val t40,.val t2,.val t2,.val t2]):Option (RDs [⟨t40,[false],none⟩] × ODs [.val t25,.val t40,.val t2,.val t2,.val t2]):=evTake clus_Join_Γ tab clus_Join_fi 1099511627776 clus_Join_cfg (seqL clus_Join_c0) clus_Join_Bs (regArr (seqL clus_Join_c3)) (seqR clus_Join_c3) [.val t25,.val t40,.val t2,.val t2,.val t2] [⟨t40,[false],none⟩] Tryz.f29 x.1 x
noncomputable def clus_Join (x0:List (List Int)) (x1:List ((List Int) × Int)) (x2:Int) (x3:Int) (x4:Int):Option (((List ((List Int) × Int)) × Unit) × Unit):=clus_Join_x (x0,x1,x2,x3,x4,())
noncomputable def clus_Join_e:Ent:=⟨[.val t25,.val t40,.val t2,.val t2,.val t2],[⟨t40,[false],none⟩],fun x=>clus_Join x.1 x.2.1 x.2.2.1 x.2.2.2.1 x.2.2.2.2.1⟩
theorem clus_Join_ops:TakeOps clus_Join_cfg (opAt (regOps (seqL clus_Join_c1)) 0) (opAt (regOps (seqL clus_Join_c1)) 1) (opAt (regOps (seqL clus_Join_c1)) 2) (opAt (regOps (seqL clus_Join_c3)) 0) (opAt (regOps (seqL clus_Join_c3)) 1) (opAt (regOps (seqL clus_Join_c3)) 2) (opAt (regOps (seqL clus_Join_c3)) 3) (opAt (regOps (seqL clus_Join_c3)) 4):=⟨⟨rfl,rfl,rfl⟩,⟨rfl,rfl,rfl⟩,⟨rfl,rfl,rfl⟩,⟨rfl,rfl,rfl⟩,⟨rfl,rfl,rfl⟩,⟨rfl,rfl,rfl⟩,⟨rfl,rfl,rfl⟩,⟨rfl,rfl,rfl⟩⟩
theorem clus_Join_good:Good tab.ty Tryz.prog 29 clus_Join_e:=by
  refine take_good (c:=clus_Join_cfg) (pr:=[.val t40,.val t2,.val t2,.val t2]) (rs:=[⟨t40,[false],none⟩]) (Γ:=clus_Join_Γ) (fi:=clus_Join_fi) (n:=1099511627776) (id1:=1) (r0:=seqL clus_Join_c0) (Bs:=clus_Join_Bs) (ops1:=regArr (seqL clus_Join_c1)) (ops6:=regArr (seqL clus_Join_c3)) (rest:=(regOps (seqL clus_Join_c3)).drop 5) (tail:=seqR clus_Join_c3) follows (gcons clus_Of_good (gcons clus_find_good (gcons slices_Sort_int_good (gcons clus_cut_good gnil)))) tabok clus_twin_ok Tryz.func29 (by kernel_rfl) (by kernel_rfl) (by kernel_rfl) (by kernel_rfl) clus_Join_ops (by kernel_rfl) (by kernel_rfl) (fun x r h=>?_)
  obtain ⟨x0,x1,x2,x3,x4,_u⟩:=x
  exact h
noncomputable def hier_leaders_Γ:Ctx:=[(57,slices_Sort_int_e)]
def hier_leaders_fi:Fi:={ keep:=[],vty:=[(2,41)],vals:=[],live:=[(0,[0,2]),(1,[2,5,6,7]),(2,[2,5,6,7,8]),(3,[2,4,5,6,7]),(4,[2,5,6,7]),(5,[2,5,6,7]),(6,[2]),(7,[2])] }
noncomputable def hier_leaders_B1 (L1:(List ((List Int) × Int))→Int→Int→List Int→Option (((List Int) × Unit) × Unit)) (v1:List ((List Int) × Int)) (v2:Int) (v3:Int) (v4:List Int):Option (((List Int) × Unit) × Unit):=
 bif decide (v3<v2) then
  bif decide (0≤v3)&&decide (v3<(v1.length:Int)) then
   bif Nat.ble (v4.length+1) 1073741824 then
    L1 v1 v2 (IntKind.wrap .i64 (v3+1)) (v4++[(List.getD v1 v3.toNat ([],0)).2])
   else none
  else none
 else
  Option.bind (slices_Sort_int v4) fun (r5:Unit × (List Int × Unit))=>
  some ((r5.2.1,()),())
noncomputable def hier_leaders_T (L1:(List ((List Int) × Int))→Int→Int→List Int→Option (((List Int) × Unit) × Unit)) (cs_0:List ((List Int) × Int)):Option (((List Int) × Unit) × Unit):=
 L1 cs_0 (cs_0.length:Int) 0 []
noncomputable def hier_leaders_L1 (n:Nat):Nat→(List ((List Int) × Int))→Int→Int→List Int→Option (((List Int) × Unit) × Unit):=iter (fun _ _ _ _=>none) fun L=>hier_leaders_B1 L
noncomputable def hier_leaders_X1 (n m:Nat) (v1:List ((List Int) × Int)) (v2:Int) (v3:Int) (v4:List Int):Option (((List Int) × Unit) × Unit):=
 atLoop hier_leaders_Γ tab (fiB [.val t40] hier_leaders_fi) n [.val t40] [⟨t41,[true],none⟩] Tryz.f53 [1,0,1,0] [] [2,5,6,7] m
 ⟨[(2,SV.cv (CV.one (LV.ref (888888,2)))),(5,SV.cv (CV.one (LV.pure t40 v1))),(6,SV.cv (CV.one (LV.pure t2 v2))),(7,SV.cv (CV.one (LV.pure t2 v3)))],
  [((888888,2),Ob.row 3 t2 v4)]⟩
theorem hier_leaders_step1 (n m:Nat) (v1:List ((List Int) × Int)) (v2:Int) (v3:Int) (v4:List Int):hier_leaders_X1 n (m+1) v1 v2 v3 v4=hier_leaders_B1 (hier_leaders_X1 n m) v1 v2 v3 v4:=by kernel_rfl
theorem hier_leaders_start (n:Nat) (cs_0:List ((List Int) × Int)):evFn hier_leaders_Γ tab hier_leaders_fi n [.val t40] [⟨t41,[true],none⟩] Tryz.f53 (cs_0,())=hier_leaders_T (hier_leaders_X1 n n) cs_0:=by kernel_rfl
theorem hier_leaders_XL1 (n:Nat):∀ m,hier_leaders_X1 n m=hier_leaders_L1 n m
 | 0=>rfl
 | m+1=>by
  have ih:=hier_leaders_XL1 n m
  funext v1 v2 v3 v4
  rw [hier_leaders_step1,ih]
  rfl
noncomputable def hier_leaders_n (n:Nat) (cs_0:List ((List Int) × Int)):Option (((List Int) × Unit) × Unit):=hier_leaders_T (hier_leaders_L1 n n) cs_0
noncomputable def hier_leaders (cs_0:List ((List Int) × Int)):Option (((List Int) × Unit) × Unit):=hier_leaders_n 1099511627776 cs_0
theorem hier_leaders_eq (n:Nat) (cs_0:List ((List Int) × Int)):evFn hier_leaders_Γ tab hier_leaders_fi n [.val t40] [⟨t41,[true],none⟩] Tryz.f53 (cs_0,())=hier_leaders_n n cs_0:=by
  rw [hier_leaders_start,hier_leaders_XL1 n n]
  rfl
noncomputable def hier_leaders_e:Ent:=⟨[.val t40],[⟨t41,[true],none⟩],fun x=>hier_leaders x.1⟩
theorem hier_leaders_good:Good tab.ty Tryz.prog 53 hier_leaders_e:=by
  refine fn_good (Γ:=hier_leaders_Γ) (fi:=hier_leaders_fi) (n:=1099511627776) follows (gcons slices_Sort_int_good gnil) tabok Tryz.func53 (by kernel_rfl) (by kernel_rfl) (fun x r h=>?_)
  obtain ⟨cs_0,_u⟩:=x
  exact (hier_leaders_eq 1099511627776 cs_0).trans h
noncomputable def clus_Group_Γ:Ctx:=[(55,clus_Of_e),(58,clus_cut_e)]
def clus_Group_fi:Fi:={ keep:=[],vty:=[],vals:=[],live:=[(0,[0,1,2]),(1,[0,1,2,12]),(2,[6]),(3,[0,2,6]),(4,[0,2,6,7]),(5,[0,2,6,7,20]),(6,[0,2,7,8,9]),(7,[0,2,6,7,9]),(8,[0,2,6,7,31]),(9,[0,2,6,7]),(10,[6])] }
noncomputable def clus_Group_B1 (L2:List (List Int)→Int→(List ((List Int) × Int))→Int→Option (((List ((List Int) × Int)) × Unit) × Unit)) (v2:List (List Int)) (v3:Int) (v4:Int) (v5:List ((List Int) × Int)):Option (((List ((List Int) × Int)) × Unit) × Unit):=
 bif decide (v4<(v5.length:Int)) then
  Option.bind (clus_cut v2 v5 v4 v3) fun (r6:((List ((List Int) × Int)) × Bool × Unit) × Unit)=>
  bif !r6.1.2.1 then
   L2 v2 v3 r6.1.1 (IntKind.wrap .i64 (v4+1))
  else
   L2 v2 v3 r6.1.1 v4
 else
  some ((v5,()),())
noncomputable def clus_Group_B2 (L2:List (List Int)→Int→(List ((List Int) × Int))→Int→Option (((List ((List Int) × Int)) × Unit) × Unit)) (v7:List (List Int)) (v8:Int) (v9:List ((List Int) × Int)) (v10:Int):Option (((List ((List Int) × Int)) × Unit) × Unit):=
 bif decide (v10<(v9.length:Int)) then
  Option.bind (clus_cut v7 v9 v10 v8) fun (r11:((List ((List Int) × Int)) × Bool × Unit) × Unit)=>
  bif !r11.1.2.1 then
   L2 v7 v8 r11.1.1 (IntKind.wrap .i64 (v10+1))
  else
   L2 v7 v8 r11.1.1 v10
 else
  some ((v9,()),())
noncomputable def clus_Group_T (L1:List (List Int)→Int→Int→(List ((List Int) × Int))→Option (((List ((List Int) × Int)) × Unit) × Unit)) (d_0:List (List Int)) (l_1:List Int) (k_2:Int):Option (((List ((List Int) × Int)) × Unit) × Unit):=
 bif (l_1.length:Int)==0 then
  some (([],()),())
 else
  Option.bind (clus_Of d_0 l_1) fun (r1:(((List Int) × Int) × Unit) × Unit)=>
  L1 d_0 k_2 0 [r1.1.1]
noncomputable def clus_Group_L2 (n:Nat):Nat→List (List Int)→Int→(List ((List Int) × Int))→Int→Option (((List ((List Int) × Int)) × Unit) × Unit):=iter (fun _ _ _ _=>none) fun L=>clus_Group_B2 L
noncomputable def clus_Group_L1 (n:Nat):Nat→List (List Int)→Int→Int→(List ((List Int) × Int))→Option (((List ((List Int) × Int)) × Unit) × Unit):=iterN (fun _ _ _ _=>none) fun m L=>clus_Group_B1 (clus_Group_L2 n m)
noncomputable def clus_Group_X1 (n m:Nat) (v2:List (List Int)) (v3:Int) (v4:Int) (v5:List ((List Int) × Int)):Option (((List ((List Int) × Int)) × Unit) × Unit):=
 atLoop clus_Group_Γ tab (fiB [.val t25,.val t41,.val t2] clus_Group_fi) n [.val t25,.val t41,.val t2] [⟨t40,[false],none⟩] Tryz.f52 [1,1,1,0,1,0] [] [0,2,6,7] m
 ⟨[(0,SV.cv (CV.one (LV.pure t25 v2))),(2,SV.cv (CV.one (LV.pure t2 v3))),(6,SV.cv (CV.one (LV.ref (888888,6)))),(7,SV.cv (CV.one (LV.pure t2 v4)))],
  [((888888,6),Ob.row 43 t42 v5)]⟩
noncomputable def clus_Group_X2 (n m:Nat) (v7:List (List Int)) (v8:Int) (v9:List ((List Int) × Int)) (v10:Int):Option (((List ((List Int) × Int)) × Unit) × Unit):=
 atLoop clus_Group_Γ tab (fiB [.val t25,.val t41,.val t2] clus_Group_fi) n [.val t25,.val t41,.val t2] [⟨t40,[false],none⟩] Tryz.f52 [1,1,1,0,1,0] [] [0,2,6,7] m
 ⟨[(0,SV.cv (CV.one (LV.pure t25 v7))),(2,SV.cv (CV.one (LV.pure t2 v8))),(6,SV.cv (CV.one (LV.pure t40 v9))),(7,SV.cv (CV.one (LV.pure t2 v10)))],
  []⟩
theorem clus_Group_step1 (n m:Nat) (v2:List (List Int)) (v3:Int) (v4:Int) (v5:List ((List Int) × Int)):clus_Group_X1 n (m+1) v2 v3 v4 v5=clus_Group_B1 (clus_Group_X2 n m) v2 v3 v4 v5:=by kernel_rfl
theorem clus_Group_step2 (n m:Nat) (v7:List (List Int)) (v8:Int) (v9:List ((List Int) × Int)) (v10:Int):clus_Group_X2 n (m+1) v7 v8 v9 v10=clus_Group_B2 (clus_Group_X2 n m) v7 v8 v9 v10:=by kernel_rfl
theorem clus_Group_start (n:Nat) (d_0:List (List Int)) (l_1:List Int) (k_2:Int):evFn clus_Group_Γ tab clus_Group_fi n [.val t25,.val t41,.val t2] [⟨t40,[false],none⟩] Tryz.f52 (d_0,l_1,k_2,())=clus_Group_T (clus_Group_X1 n n) d_0 l_1 k_2:=by kernel_rfl
theorem clus_Group_XL2 (n:Nat):∀ m,clus_Group_X2 n m=clus_Group_L2 n m
 | 0=>rfl
 | m+1=>by
  have ih:=clus_Group_XL2 n m
  funext v7 v8 v9 v10
  rw [clus_Group_step2,ih]
  rfl
theorem clus_Group_XL1 (n:Nat):∀ m,clus_Group_X1 n m=clus_Group_L1 n m
 | 0=>rfl
 | m+1=>by
  have ih:=clus_Group_XL1 n m
  funext v2 v3 v4 v5
  rw [clus_Group_step1,clus_Group_XL2 n m]
  rfl
noncomputable def clus_Group_n (n:Nat) (d_0:List (List Int)) (l_1:List Int) (k_2:Int):Option (((List ((List Int) × Int)) × Unit) × Unit):=clus_Group_T (clus_Group_L1 n n) d_0 l_1 k_2
noncomputable def clus_Group (d_0:List (List Int)) (l_1:List Int) (k_2:Int):Option (((List ((List Int) × Int)) × Unit) × Unit):=clus_Group_n 1099511627776 d_0 l_1 k_2
theorem clus_Group_eq (n:Nat) (d_0:List (List Int)) (l_1:List Int) (k_2:Int):evFn clus_Group_Γ tab clus_Group_fi n [.val t25,.val t41,.val t2] [⟨t40,[false],none⟩] Tryz.f52 (d_0,l_1,k_2,())=clus_Group_n n d_0 l_1 k_2:=by
  rw [clus_Group_start,clus_Group_XL1 n n]
  rfl
noncomputable def clus_Group_e:Ent:=⟨[.val t25,.val t41,.val t2],[⟨t40,[false],none⟩],fun x=>clus_Group x.1 x.2.1 x.2.2.1⟩
theorem clus_Group_good:Good tab.ty Tryz.prog 52 clus_Group_e:=by
  refine fn_good (Γ:=clus_Group_Γ) (fi:=clus_Group_fi) (n:=1099511627776) follows (gcons clus_Of_good (gcons clus_cut_good gnil)) tabok Tryz.func52 (by kernel_rfl) (by kernel_rfl) (fun x r h=>?_)
  obtain ⟨d_0,l_1,k_2,_u⟩:=x
  exact (clus_Group_eq 1099511627776 d_0 l_1 k_2).trans h
noncomputable def hier_above_Γ:Ctx:=[(52,clus_Group_e),(53,hier_leaders_e)]
def hier_above_fi:Fi:={ keep:=[],vty:=[],vals:=[],live:=[(0,[1,2,4,19,20,21,22]),(1,[1,2,4,19,20,21,22]),(2,[1,2,4,8,19,20,21,22]),(3,[1,2,4,19,20,21,22]),(4,[1,2,4,19,20,21,22,23]),(5,[1,2,4,19,20,21,22]),(6,[4])] }
noncomputable def hier_above_B1 (L1:(List ((List Int) × Int))→Int→List (List Int)→(List (List ((List Int) × Int)))→Int→List (List Int)→(List (List ((List Int) × Int)))→Option ((Dt30 × Unit) × Unit)) (v1:List ((List Int) × Int)) (v2:Int) (v3:List (List Int)) (v4:List (List ((List Int) × Int))) (v5:Int) (v6:List (List Int)) (v7:List (List ((List Int) × Int))):Option ((Dt30 × Unit) × Unit):=
 bif decide ((v1.length:Int)>0) then
  bif Nat.ble (v4.length+1) 1073741824 then
   bif (v1.length:Int)==1 then
    some (((v2,v3,v4++[v1]),()),())
   else
   bif decide (((v4++[v1]).length:Int)>8) then
    some (((v2,v3,v4++[v1]),()),())
   else
    Option.bind (hier_leaders v1) fun (r8:((List Int) × Unit) × Unit)=>
    Option.bind (clus_Group v3 r8.1.1 v2) fun (r9:((List ((List Int) × Int)) × Unit) × Unit)=>
    L1 r9.1.1 v2 v3 (v4++[v1]) v5 v6 v7
  else none
 else
  some (((v2,v3,v4),()),())
noncomputable def hier_above_T (L1:(List ((List Int) × Int))→Int→List (List Int)→(List (List ((List Int) × Int)))→Int→List (List Int)→(List (List ((List Int) × Int)))→Option ((Dt30 × Unit) × Unit)) (h_0:Int × (List (List Int)) × List (List ((List Int) × Int))) (cs_1:List ((List Int) × Int)):Option ((Dt30 × Unit) × Unit):=
 L1 cs_1 h_0.1 h_0.2.1 [] 0 [] []
noncomputable def hier_above_L1 (n:Nat):Nat→(List ((List Int) × Int))→Int→List (List Int)→(List (List ((List Int) × Int)))→Int→List (List Int)→(List (List ((List Int) × Int)))→Option ((Dt30 × Unit) × Unit):=iter (fun _ _ _ _ _ _ _=>none) fun L=>hier_above_B1 L
noncomputable def hier_above_X1 (n m:Nat) (v1:List ((List Int) × Int)) (v2:Int) (v3:List (List Int)) (v4:List (List ((List Int) × Int))) (v5:Int) (v6:List (List Int)) (v7:List (List ((List Int) × Int))):Option ((Dt30 × Unit) × Unit):=
 atLoop hier_above_Γ tab (fiB [.val t30,.val t40] hier_above_fi) n [.val t30,.val t40] [⟨t30,[false,false,true],none⟩] Tryz.f28 [1,1,0,0] [] [1,2,4] m
 ⟨[(1,SV.cv (CV.one (LV.pure t40 v1))),(2,SV.cv (CV.one (LV.ptr (2,0) 0))),(4,SV.cv (CV.one (LV.ptr (4,0) 0)))],
  [((2,0),Ob.box 31 [LV.pure t2 v2,LV.pure t25 v3,LV.ref (2,3)]),((2,3),Ob.row 40 t40 v4),((4,0),Ob.box 31 [LV.pure t2 v5,LV.ref (4,2),LV.ref (4,3)]),((4,2),Ob.row 41 t41 v6),((4,3),Ob.row 40 t40 v7)]⟩
theorem hier_above_step1 (n m:Nat) (v1:List ((List Int) × Int)) (v2:Int) (v3:List (List Int)) (v4:List (List ((List Int) × Int))) (v5:Int) (v6:List (List Int)) (v7:List (List ((List Int) × Int))):hier_above_X1 n (m+1) v1 v2 v3 v4 v5 v6 v7=hier_above_B1 (hier_above_X1 n m) v1 v2 v3 v4 v5 v6 v7:=by kernel_rfl
theorem hier_above_start (n:Nat) (h_0:Int × (List (List Int)) × List (List ((List Int) × Int))) (cs_1:List ((List Int) × Int)):evFn hier_above_Γ tab hier_above_fi n [.val t30,.val t40] [⟨t30,[false,false,true],none⟩] Tryz.f28 (h_0,cs_1,())=hier_above_T (hier_above_X1 n n) h_0 cs_1:=by kernel_rfl
theorem hier_above_XL1 (n:Nat):∀ m,hier_above_X1 n m=hier_above_L1 n m
 | 0=>rfl
 | m+1=>by
  have ih:=hier_above_XL1 n m
  funext v1 v2 v3 v4 v5 v6 v7
  rw [hier_above_step1,ih]
  rfl
noncomputable def hier_above_n (n:Nat) (h_0:Int × (List (List Int)) × List (List ((List Int) × Int))) (cs_1:List ((List Int) × Int)):Option ((Dt30 × Unit) × Unit):=hier_above_T (hier_above_L1 n n) h_0 cs_1
noncomputable def hier_above (h_0:Int × (List (List Int)) × List (List ((List Int) × Int))) (cs_1:List ((List Int) × Int)):Option ((Dt30 × Unit) × Unit):=hier_above_n 1099511627776 h_0 cs_1
theorem hier_above_eq (n:Nat) (h_0:Int × (List (List Int)) × List (List ((List Int) × Int))) (cs_1:List ((List Int) × Int)):evFn hier_above_Γ tab hier_above_fi n [.val t30,.val t40] [⟨t30,[false,false,true],none⟩] Tryz.f28 (h_0,cs_1,())=hier_above_n n h_0 cs_1:=by
  rw [hier_above_start,hier_above_XL1 n n]
  rfl
noncomputable def hier_above_e:Ent:=⟨[.val t30,.val t40],[⟨t30,[false,false,true],none⟩],fun x=>hier_above x.1 x.2.1⟩
theorem hier_above_good:Good tab.ty Tryz.prog 28 hier_above_e:=by
  refine fn_good (Γ:=hier_above_Γ) (fi:=hier_above_fi) (n:=1099511627776) follows (gcons clus_Group_good (gcons hier_leaders_good gnil)) tabok Tryz.func28 (by kernel_rfl) (by kernel_rfl) (fun x r h=>?_)
  obtain ⟨h_0,cs_1,_u⟩:=x
  exact (hier_above_eq 1099511627776 h_0 cs_1).trans h
noncomputable def hier_Join_Γ:Ctx:=[(25,hier_copied_e),(26,hier_find_e),(27,hier_all_e),(28,hier_above_e),(29,clus_Join_e),(30,hier_down_e)]
def hier_Join_fi:Fi:={ keep:=[],vty:=[],vals:=[],live:=[(0,[1,2,4,10,11,14,15,16,17,18]),(1,[1,2,4,10,11,14,15,16,17,18]),(2,[1,2,4,19]),(3,[4]),(4,[4])] }
noncomputable def hier_Join (h_0:Int × (List (List Int)) × List (List ((List Int) × Int))) (id_1:Int):Option ((Dt30 × Unit) × Unit):=
 Option.bind (hier_copied h_0) fun (r1:(Dt30 × Unit) × Unit)=>
 bif decide (id_1<1) then
  some ((r1.1.1,()),())
 else
 bif decide (id_1>8) then
  some ((r1.1.1,()),())
 else
  Option.bind (hier_all r1.1.1) fun (r2:((List ((List Int) × Int)) × Unit) × Unit)=>
  Option.bind (hier_find r2.1.1 id_1) fun (r3:(Int × Unit) × Unit)=>
  bif decide (r3.1.1 ≥ 0) then
   some ((r1.1.1,()),())
  else
   Option.bind (hier_all r1.1.1) fun (r4:((List ((List Int) × Int)) × Unit) × Unit)=>
   Option.bind (hier_down r1.1.1 id_1) fun (r5:(Int × Unit) × Unit)=>
   Option.bind (clus_Join r1.1.1.2.1 r4.1.1 r5.1.1 id_1 r1.1.1.1) fun (r6:((List ((List Int) × Int)) × Unit) × Unit)=>
   Option.bind (hier_above r1.1.1 r6.1.1) fun (r7:(Dt30 × Unit) × Unit)=>
   some ((r7.1.1,()),())
theorem hier_Join_eq (h_0:Int × (List (List Int)) × List (List ((List Int) × Int))) (id_1:Int):evFn hier_Join_Γ tab hier_Join_fi 1 [.val t30,.val t2] [⟨t30,[false,false,false],none⟩] Tryz.f11 (h_0,id_1,())=hier_Join h_0 id_1:=by kernel_rfl
noncomputable def hier_Join_e:Ent:=⟨[.val t30,.val t2],[⟨t30,[false,false,false],none⟩],fun x=>hier_Join x.1 x.2.1⟩
theorem hier_Join_good:Good tab.ty Tryz.prog 11 hier_Join_e:=by
  refine fn_good (Γ:=hier_Join_Γ) (fi:=hier_Join_fi) (n:=1) follows (gcons hier_copied_good (gcons hier_find_good (gcons hier_all_good (gcons hier_above_good (gcons clus_Join_good (gcons hier_down_good gnil)))))) tabok Tryz.func11 (by kernel_rfl) (by kernel_rfl) (fun x r h=>?_)
  obtain ⟨h_0,id_1,_u⟩:=x
  exact (hier_Join_eq h_0 id_1).trans h
noncomputable def slices_Delete_Cluster_Γ:Ctx:=[(67,markE)]
def slices_Delete_Cluster_fi:Fi:={ keep:=[],vty:=[],vals:=[],live:=[(0,[0,1,2]),(1,[0,1,2]),(2,[0,1,2,16]),(3,[6]),(4,[0,1,2,7]),(5,[0,7]),(6,[0]),(7,[6])],melt:=[(6,1000000)] }
noncomputable def slices_Delete_Cluster_c (c:Nat) (s_0:List (Option ((List Int) × Int))) (i_1:Int) (j_2:Int):Option (((List ((List Int) × Int)) × Unit) × Unit):=
 bif ((decide (0≤i_1)&&decide (i_1≤j_2))&&decide (j_2≤((s_0.length:Nat):Int)))&&decide (((s_0.length:Nat):Int)≤((((List.append s_0 (List.replicate c none)).length) - 0:Nat):Int)) then
  bif i_1==j_2 then
   bif Nat.ble s_0.length ((List.append s_0 (List.replicate c none)).length) then
    Option.bind (allSome (List.take s_0.length (List.append s_0 (List.replicate c none)))) fun (z1:List ((List Int) × Int))=>
    some ((z1,()),())
   else none
  else
  bif decide (0≤i_1)&&decide (i_1≤((((List.append s_0 (List.replicate c none)).length) - 0:Nat):Int)) then
   bif (decide (0≤j_2)&&decide (j_2≤((s_0.length:Nat):Int)))&&decide (((s_0.length:Nat):Int)≤((((List.append s_0 (List.replicate c none)).length) - 0:Nat):Int)) then
    bif Nat.ble (0+((i_1 - 0).toNat)) ((List.append s_0 (List.replicate c none)).length) then
     bif Nat.ble ((0+j_2.toNat)+((((s_0.length:Nat):Int) - j_2).toNat)) ((List.append s_0 (List.replicate c none)).length) then
      Option.bind (allSome (List.take ((((s_0.length:Nat):Int) - j_2).toNat) (List.drop (0+j_2.toNat) (List.append s_0 (List.replicate c none))))) fun (z2:List ((List Int) × Int))=>
      bif Nat.ble (((i_1 - 0).toNat)+z2.length) ((List.append s_0 (List.replicate c none)).length) then
       bif (decide (0≤((((i_1 - 0).toNat)+z2.length:Nat):Int))&&decide (((((i_1 - 0).toNat)+z2.length:Nat):Int)≤((s_0.length:Nat):Int)))&&decide (((s_0.length:Nat):Int)≤((((writeAt (List.append s_0 (List.replicate c none)) ((i_1 - 0).toNat) z2).length) - 0:Nat):Int)) then
        bif Nat.ble ((0+(((((i_1 - 0).toNat)+z2.length:Nat):Int).toNat))+((((s_0.length:Nat):Int) - ((((i_1 - 0).toNat)+z2.length:Nat):Int)).toNat)) ((writeAt (List.append s_0 (List.replicate c none)) ((i_1 - 0).toNat) z2).length) then
         bif Nat.ble (((i_1 - 0).toNat)+z2.length) ((writeAt (writeAt (List.append s_0 (List.replicate c none)) ((i_1 - 0).toNat) z2) (0+(((((i_1 - 0).toNat)+z2.length:Nat):Int).toNat)) (List.replicate ((((s_0.length:Nat):Int) - ((((i_1 - 0).toNat)+z2.length:Nat):Int)).toNat) (([],0):(List Int) × Int))).length) then
          Option.bind (allSome (List.take (((i_1 - 0).toNat)+z2.length) (writeAt (writeAt (List.append s_0 (List.replicate c none)) ((i_1 - 0).toNat) z2) (0+(((((i_1 - 0).toNat)+z2.length:Nat):Int).toNat)) (List.replicate ((((s_0.length:Nat):Int) - ((((i_1 - 0).toNat)+z2.length:Nat):Int)).toNat) (([],0):(List Int) × Int))))) fun (z3:List ((List Int) × Int))=>
          some ((z3,()),())
         else none
        else none
       else none
      else
      bif Nat.ble (((i_1 - 0).toNat)+z2.length) 1073741824 then
       Option.bind (allSome (List.take ((i_1 - 0).toNat) (List.append s_0 (List.replicate c none)))) fun (z4:List ((List Int) × Int))=>
       bif (decide (0≤(((z4++z2).length:Nat):Int))&&decide ((((z4++z2).length:Nat):Int)≤((s_0.length:Nat):Int)))&&decide (((s_0.length:Nat):Int)≤(((List.map some (z4++z2)).length:Nat):Int)) then
        bif Nat.ble ((0+((((z4++z2).length:Nat):Int).toNat))+((((s_0.length:Nat):Int) - (((z4++z2).length:Nat):Int)).toNat)) ((List.map some (z4++z2)).length) then
         none
        else none
       else none
      else none
     else none
    else none
   else none
  else none
 else none
theorem slices_Delete_Cluster_c_eq (c:Nat) (s_0:List (Option ((List Int) × Int))) (i_1:Int) (j_2:Int):evFn slices_Delete_Cluster_Γ tab { slices_Delete_Cluster_fi with cap:=c } 1 [.ownh 43 t42,.val t2,.val t2] [⟨t40,[true],none⟩] Tryz.f67 (s_0,i_1,j_2,())=slices_Delete_Cluster_c c s_0 i_1 j_2:=by kernel_rfl
theorem slices_Delete_Cluster_c_is (c:Nat) (s_0:List (Option ((List Int) × Int))) (i_1:Int) (j_2:Int):slices_Delete_Cluster_c c s_0 i_1 j_2=deleteHC (([],0):(List Int) × Int) c s_0 i_1 j_2:=by kernel_rfl
noncomputable def slices_Delete_Cluster (s_0:List (Option ((List Int) × Int))) (i_1:Int) (j_2:Int):Option (((List ((List Int) × Int)) × Unit) × Unit):=deleteHR s_0 i_1 j_2
noncomputable def slices_Delete_Cluster_e:Ent:=⟨[.ownh 43 t42,.val t2,.val t2],[⟨t40,[true],none⟩],fun x=>slices_Delete_Cluster x.1 x.2.1 x.2.2.1⟩
theorem slices_Delete_Cluster_good:Good tab.ty Tryz.prog 67 slices_Delete_Cluster_e:=by
  refine fn_goodC (Γ:=slices_Delete_Cluster_Γ) (fi:=slices_Delete_Cluster_fi) (n:=1) follows (gcons (gmark Tryz.func67 (by kernel_rfl) (by kernel_rfl)) gnil) tabok Tryz.func67 (by kernel_rfl) (by kernel_rfl) (fun c x r hc h=>?_)
  obtain ⟨s_0,i_1,j_2,_u⟩:=x
  exact (slices_Delete_Cluster_c_eq c s_0 i_1 j_2).trans ((slices_Delete_Cluster_c_is c s_0 i_1 j_2).trans (deleteH_law (([],0):(List Int) × Int) c s_0 i_1 j_2 r hc h))
noncomputable def clus_leaders_Γ:Ctx:=[]
def clus_leaders_fi:Fi:={ keep:=[],vty:=[(4,41)],vals:=[],live:=[(0,[0,1,4]),(1,[1,4,7,8,9]),(2,[1,4,7,8,9,10]),(3,[1,4,5,6,7,8,9]),(4,[1,4,6,7,8,9,16]),(5,[1,4,7,8,9]),(6,[1,4,7,8,9]),(7,[4])] }
noncomputable def clus_leaders_B1 (L1:Int→(List ((List Int) × Int))→Int→Int→List Int→Option (((List Int) × Unit) × Unit)) (v1:Int) (v2:List ((List Int) × Int)) (v3:Int) (v4:Int) (v5:List Int):Option (((List Int) × Unit) × Unit):=
 bif decide (v4<v3) then
  bif decide (0≤v4)&&decide (v4<(v2.length:Int)) then
   bif v4 != v1 then
    bif Nat.ble (v5.length+1) 1073741824 then
     L1 v1 v2 v3 (IntKind.wrap .i64 (v4+1)) (v5++[(List.getD v2 v4.toNat ([],0)).2])
    else none
   else
    L1 v1 v2 v3 (IntKind.wrap .i64 (v4+1)) v5
  else none
 else
  some ((v5,()),())
noncomputable def clus_leaders_T (L1:Int→(List ((List Int) × Int))→Int→Int→List Int→Option (((List Int) × Unit) × Unit)) (cs_0:List ((List Int) × Int)) (at_1:Int):Option (((List Int) × Unit) × Unit):=
 L1 at_1 cs_0 (cs_0.length:Int) 0 []
noncomputable def clus_leaders_L1 (n:Nat):Nat→Int→(List ((List Int) × Int))→Int→Int→List Int→Option (((List Int) × Unit) × Unit):=iter (fun _ _ _ _ _=>none) fun L=>clus_leaders_B1 L
noncomputable def clus_leaders_X1 (n m:Nat) (v1:Int) (v2:List ((List Int) × Int)) (v3:Int) (v4:Int) (v5:List Int):Option (((List Int) × Unit) × Unit):=
 atLoop clus_leaders_Γ tab (fiB [.val t40,.val t2] clus_leaders_fi) n [.val t40,.val t2] [⟨t41,[true],none⟩] Tryz.f68 [1,0,1,0] [] [1,4,7,8,9] m
 ⟨[(1,SV.cv (CV.one (LV.pure t2 v1))),(4,SV.cv (CV.one (LV.ref (888888,4)))),(7,SV.cv (CV.one (LV.pure t40 v2))),(8,SV.cv (CV.one (LV.pure t2 v3))),(9,SV.cv (CV.one (LV.pure t2 v4)))],
  [((888888,4),Ob.row 3 t2 v5)]⟩
theorem clus_leaders_step1 (n m:Nat) (v1:Int) (v2:List ((List Int) × Int)) (v3:Int) (v4:Int) (v5:List Int):clus_leaders_X1 n (m+1) v1 v2 v3 v4 v5=clus_leaders_B1 (clus_leaders_X1 n m) v1 v2 v3 v4 v5:=by kernel_rfl
theorem clus_leaders_start (n:Nat) (cs_0:List ((List Int) × Int)) (at_1:Int):evFn clus_leaders_Γ tab clus_leaders_fi n [.val t40,.val t2] [⟨t41,[true],none⟩] Tryz.f68 (cs_0,at_1,())=clus_leaders_T (clus_leaders_X1 n n) cs_0 at_1:=by kernel_rfl
theorem clus_leaders_XL1 (n:Nat):∀ m,clus_leaders_X1 n m=clus_leaders_L1 n m
 | 0=>rfl
 | m+1=>by
  have ih:=clus_leaders_XL1 n m
  funext v1 v2 v3 v4 v5
  rw [clus_leaders_step1,ih]
  rfl
noncomputable def clus_leaders_n (n:Nat) (cs_0:List ((List Int) × Int)) (at_1:Int):Option (((List Int) × Unit) × Unit):=clus_leaders_T (clus_leaders_L1 n n) cs_0 at_1
noncomputable def clus_leaders (cs_0:List ((List Int) × Int)) (at_1:Int):Option (((List Int) × Unit) × Unit):=clus_leaders_n 1099511627776 cs_0 at_1
theorem clus_leaders_eq (n:Nat) (cs_0:List ((List Int) × Int)) (at_1:Int):evFn clus_leaders_Γ tab clus_leaders_fi n [.val t40,.val t2] [⟨t41,[true],none⟩] Tryz.f68 (cs_0,at_1,())=clus_leaders_n n cs_0 at_1:=by
  rw [clus_leaders_start,clus_leaders_XL1 n n]
  rfl
noncomputable def clus_leaders_e:Ent:=⟨[.val t40,.val t2],[⟨t41,[true],none⟩],fun x=>clus_leaders x.1 x.2.1⟩
theorem clus_leaders_good:Good tab.ty Tryz.prog 68 clus_leaders_e:=by
  refine fn_good (Γ:=clus_leaders_Γ) (fi:=clus_leaders_fi) (n:=1099511627776) follows gnil tabok Tryz.func68 (by kernel_rfl) (by kernel_rfl) (fun x r h=>?_)
  obtain ⟨cs_0,at_1,_u⟩:=x
  exact (clus_leaders_eq 1099511627776 cs_0 at_1).trans h
noncomputable def clus_Leave_fn1_Γ:Ctx:=[]
def clus_Leave_fn1_fi:Fi:={ keep:=[],vty:=[],vals:=[],live:=[(0,[0,1]),(1,[3])] }
noncomputable def clus_Leave_fn1 (x_0:Int) (x_1:Int):Option ((Bool × Unit) × Unit):=
 some ((x_0==x_1,()),())
theorem clus_Leave_fn1_eq (x_0:Int) (x_1:Int):evFn clus_Leave_fn1_Γ tab clus_Leave_fn1_fi 1 [.val t2,.rbox t2] [⟨t4,[false],none⟩] Tryz.f66 (x_0,x_1,())=clus_Leave_fn1 x_0 x_1:=by kernel_rfl
noncomputable def clus_Leave_fn1_e:Ent:=⟨[.val t2,.rbox t2],[⟨t4,[false],none⟩],fun x=>clus_Leave_fn1 x.1 x.2.1⟩
theorem clus_Leave_fn1_good:Good tab.ty Tryz.prog 66 clus_Leave_fn1_e:=by
  refine fn_good (Γ:=clus_Leave_fn1_Γ) (fi:=clus_Leave_fn1_fi) (n:=1) follows gnil tabok Tryz.func66 (by kernel_rfl) (by kernel_rfl) (fun x r h=>?_)
  obtain ⟨x_0,x_1,_u⟩:=x
  exact (clus_Leave_fn1_eq x_0 x_1).trans h
noncomputable def clus_Leave_fn2_Γ:Ctx:=[]
def clus_Leave_fn2_fi:Fi:={ keep:=[],vty:=[],vals:=[],live:=[(0,[1,2]),(1,[3])] }
noncomputable def clus_Leave_fn2 (c_0:(List Int) × Int) (x_1:Int):Option ((Bool × Unit) × Unit):=
 some ((c_0.2==x_1,()),())
theorem clus_Leave_fn2_eq (c_0:(List Int) × Int) (x_1:Int):evFn clus_Leave_fn2_Γ tab clus_Leave_fn2_fi 1 [.val t42,.rbox t2] [⟨t4,[false],none⟩] Tryz.f69 (c_0,x_1,())=clus_Leave_fn2 c_0 x_1:=by kernel_rfl
noncomputable def clus_Leave_fn2_e:Ent:=⟨[.val t42,.rbox t2],[⟨t4,[false],none⟩],fun x=>clus_Leave_fn2 x.1 x.2.1⟩
theorem clus_Leave_fn2_good:Good tab.ty Tryz.prog 69 clus_Leave_fn2_e:=by
  refine fn_good (Γ:=clus_Leave_fn2_Γ) (fi:=clus_Leave_fn2_fi) (n:=1) follows gnil tabok Tryz.func69 (by kernel_rfl) (by kernel_rfl) (fun x r h=>?_)
  obtain ⟨c_0,x_1,_u⟩:=x
  exact (clus_Leave_fn2_eq c_0 x_1).trans h
noncomputable def clus_Leave_Γ:Ctx:=[(56,clus_find_e),(65,slices_DeleteFunc_int_e),(67,slices_Delete_Cluster_e),(55,clus_Of_e),(68,clus_leaders_e),(59,mid_Near_e),(49,slices_IndexFunc_Cluster_e),(57,slices_Sort_int_e),(58,clus_cut_e),(66,clus_Leave_fn1_e),(69,clus_Leave_fn2_e)]
def clus_Leave_fi:Fi:={ keep:=[],vty:=[(1,40),(8,40),(10,41),(13,41),(14,40),(16,40),(21,40),(22,40),(29,41),(32,40),(37,40),(39,25),(40,41),(43,41),(48,40),(52,40),(53,25),(54,40),(59,40),(63,40),(73,40),(74,41),(75,40),(81,41),(83,40),(85,25),(86,41),(89,40),(95,25),(96,40),(97,40),(98,41),(106,40)],vals:=[],live:=[(0,[0,1,3,6,48,49,50,69,70,71]),(1,[0,1,3,6,48,49,50,69,70,71]),(2,[0,1,3,6,9,48,49,50,69,70,71]),(3,[0,1,3,6,9,20,48,49,50,69,70,71]),(4,[8]),(5,[0,1,3,9,10,48,49,50,69,70,71]),(6,[0,1,3,9,10,31,48,49,50,69,70,71]),(7,[8]),(8,[0,1,3,9,10,48,49,50,69,70,71]),(9,[0,1,3,9,10,51,69,70,71]),(10,[8]),(11,[0,1,3,9,10,11,69,70,71]),(12,[0,1,3,9,10,12,69,70,71]),(13,[0,1,3,9,10,12,72]),(14,[8]),(15,[0,1,3,9,12,13]),(16,[0,1,3,9,12,13]),(17,[0,1,3,12,13]),(18,[0,1,3,13]),(19,[1]),(20,[8])] }
def clus_Leave_cfg:TakeCfg:={ eT:=43,iT:=3,Tcs:=40,Tsl:=41,tD:=t25,cs:=1,ix:=9,tA:=14,tB:=15,q1:=22,q2:=23,q3:=24,q4:=25,q5:=26,ks:=[3,9],bx:=some 6,ft:=54,id6:=5 }
noncomputable def clus_Leave_c0:Code:=match Tryz.f35.body with
  | some c=>c
  | none=>.skip
noncomputable def clus_Leave_c1:Code:=seqR clus_Leave_c0
noncomputable def clus_Leave_c2:Code:=seqR clus_Leave_c1
noncomputable def clus_Leave_Bs:List Code:=[seqL clus_Leave_c2,seqL (seqR clus_Leave_c2)]
noncomputable def clus_Leave_c3:Code:=seqR (seqR (clus_Leave_c2))
noncomputable def clus_Leave_x (x:PDs [.val t25,.val t40,.val t2,.val t2]):Option (RDs [⟨t40,[false],none⟩] × ODs [.val t25,.val t40,.val t2,.val t2]):=evTake clus_Leave_Γ tab clus_Leave_fi 1099511627776 clus_Leave_cfg (seqL clus_Leave_c0) clus_Leave_Bs (regArr (seqL clus_Leave_c3)) (seqR clus_Leave_c3) [.val t25,.val t40,.val t2,.val t2] [⟨t40,[false],none⟩] Tryz.f35 x.1 x
noncomputable def clus_Leave (x0:List (List Int)) (x1:List ((List Int) × Int)) (x2:Int) (x3:Int):Option (((List ((List Int) × Int)) × Unit) × Unit):=clus_Leave_x (x0,x1,x2,x3,())
noncomputable def clus_Leave_e:Ent:=⟨[.val t25,.val t40,.val t2,.val t2],[⟨t40,[false],none⟩],fun x=>clus_Leave x.1 x.2.1 x.2.2.1 x.2.2.2.1⟩
theorem clus_Leave_ops:TakeOps clus_Leave_cfg (opAt (regOps (seqL clus_Leave_c1)) 0) (opAt (regOps (seqL clus_Leave_c1)) 1) (opAt (regOps (seqL clus_Leave_c1)) 2) (opAt (regOps (seqL clus_Leave_c3)) 0) (opAt (regOps (seqL clus_Leave_c3)) 1) (opAt (regOps (seqL clus_Leave_c3)) 2) (opAt (regOps (seqL clus_Leave_c3)) 3) (opAt (regOps (seqL clus_Leave_c3)) 4):=⟨⟨rfl,rfl,rfl⟩,⟨rfl,rfl,rfl⟩,⟨rfl,rfl,rfl⟩,⟨rfl,rfl,rfl⟩,⟨rfl,rfl,rfl⟩,⟨rfl,rfl,rfl⟩,⟨rfl,rfl,rfl⟩,⟨rfl,rfl,rfl⟩⟩
theorem clus_Leave_good:Good tab.ty Tryz.prog 35 clus_Leave_e:=by
  refine take_good (c:=clus_Leave_cfg) (pr:=[.val t40,.val t2,.val t2]) (rs:=[⟨t40,[false],none⟩]) (Γ:=clus_Leave_Γ) (fi:=clus_Leave_fi) (n:=1099511627776) (id1:=1) (r0:=seqL clus_Leave_c0) (Bs:=clus_Leave_Bs) (ops1:=regArr (seqL clus_Leave_c1)) (ops6:=regArr (seqL clus_Leave_c3)) (rest:=(regOps (seqL clus_Leave_c3)).drop 5) (tail:=seqR clus_Leave_c3) follows (gcons clus_find_good (gcons slices_DeleteFunc_int_good (gcons slices_Delete_Cluster_good (gcons clus_Of_good (gcons clus_leaders_good (gcons mid_Near_good (gcons slices_IndexFunc_Cluster_good (gcons slices_Sort_int_good (gcons clus_cut_good (gcons clus_Leave_fn1_good (gcons clus_Leave_fn2_good gnil))))))))))) tabok clus_twin_ok Tryz.func35 (by kernel_rfl) (by kernel_rfl) (by kernel_rfl) (by kernel_rfl) clus_Leave_ops (by kernel_rfl) (by kernel_rfl) (fun x r h=>?_)
  obtain ⟨x0,x1,x2,x3,_u⟩:=x
  exact h
end Go.PE
