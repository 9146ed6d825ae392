/-
  Functions of the program, each as the evaluator answers it, and its contract.
  Conditions: none.
-/
import Derived.Test.YtaoeefmiogchdaaGreatDoorQuietFormsF3
set_option linter.unusedVariables false
set_option maxRecDepth 100000
namespace Go.PE
open Go.Proofs
noncomputable def X47 (x_0:Int × ByteArray) (seq_1:Int):Option ((Int × Unit) × Unit):=
 Option.bind (Qzh x_0.1 seq_1) fun r1=>
 some ((r1.1.1,()),())
noncomputable def Zuu:Ent:=⟨[.val Qyo,.val t2],[⟨t2,[false],none⟩],fun x=>X47 x.1 x.2.1⟩
theorem X0l:Q4j tab.ty Tryz.prog 304 Zuu:=
 Qjd (Γ:=[(128,Qur)]) (fi:={ keep:=[],vty:=[],vals:=[],live:=[(0,[1,2]),(1,[4])] }) (n:=1) follows (Qjq Qvv Qju) Qjz Tryz.func304 (by kernel_rfl) (by kernel_rfl) fun x r h=>Eq.trans (by kernel_rfl) h
noncomputable def Z85:Ctx:=[(305,Qjc)]
def Z4n:Fi:={ keep:=[],vty:=[],vals:=[],live:=[(0,[0,1,2]),(1,[0,1,2]),(2,[0,1,2,7]),(3,[0,1,2,7,16]),(4,[6]),(5,[0,1,2,7,8]),(6,[0,1,2,7,8,22]),(7,[6]),(8,[0,1,2,7,8,31]),(9,[0,1,2,7,9]),(10,[0,1,7,9]),(11,[9]),(12,[6]),(13,[0,1,2,7,8]),(14,[0,1,2,7,8,68]),(15,[0,1,2]),(16,[0]),(17,[6]),(18,[0,1,7]),(19,[0]),(20,[6])] }
noncomputable def Z75 (c:Nat) (s_0:List Qk2) (i_1:Int) (v_2:List Qk2):Option ((Qkg × Unit) × Unit):=
 bif (decide (0≤i_1)&&decide (i_1≤((s_0.length:Nat):Int)))&&decide (((s_0.length:Nat):Int)≤((((List.map some s_0++List.replicate c none).length) - 0:Nat):Int)) then
  bif (v_2.length:Int)==0 then
   bif Nat.ble s_0.length ((List.map some s_0++List.replicate c none).length) then
    Option.bind (Qd (List.take s_0.length (List.map some s_0++List.replicate c none))) fun (z1:List Qk2)=>
    some ((z1,()),())
   else none
  else
  bif i_1==((s_0.length:Nat):Int) then
   bif Nat.ble (0+s_0.length) ((List.map some s_0++List.replicate c none).length) then
    bif Nat.ble (s_0.length+v_2.length) ((List.map some s_0++List.replicate c none).length) then
     bif Nat.ble (s_0.length+v_2.length) ((Q6 (List.map some s_0++List.replicate c none) s_0.length v_2).length) then
      Option.bind (Qd (List.take (s_0.length+v_2.length) (Q6 (List.map some s_0++List.replicate c none) s_0.length v_2))) fun (z2:List Qk2)=>
      some ((z2,()),())
     else none
    else
    bif Nat.ble (s_0.length+v_2.length) 1073741824 then
     Option.bind (Qd (List.take s_0.length (List.map some s_0++List.replicate c none))) fun (z3:List Qk2)=>
     some ((z3++v_2,()),())
    else none
   else none
  else
  bif Nat.ble (0+s_0.length) ((List.map some s_0++List.replicate c none).length) then
   bif decide (IntKind.wrap .i64 (((s_0.length:Nat):Int)+(v_2.length:Int))>((((List.map some s_0++List.replicate c none).length) - 0:Nat):Int)) then
    bif decide (0≤i_1)&&decide (i_1≤((((List.map some s_0++List.replicate c none).length) - 0:Nat):Int)) then
     bif Nat.ble (0+((i_1 - 0).toNat)) ((List.map some s_0++List.replicate c none).length) then
      bif decide (0<IntKind.wrap .i64 ((IntKind.wrap .i64 (((s_0.length:Nat):Int)+(v_2.length:Int))) - i_1))&&true&&Nat.blt ((List.map some s_0++List.replicate c none).length) (((i_1 - 0).toNat)+((List.replicate ((IntKind.wrap .i64 ((IntKind.wrap .i64 (((s_0.length:Nat):Int)+(v_2.length:Int))) - i_1)).toNat) ((0,(⟨#[]⟩:ByteArray)):Int × ByteArray)).length))&&Nat.ble (((List.map some s_0++List.replicate c none).length)+((List.replicate ((IntKind.wrap .i64 ((IntKind.wrap .i64 (((s_0.length:Nat):Int)+(v_2.length:Int))) - i_1)).toNat) ((0,(⟨#[]⟩:ByteArray)):Int × ByteArray)).length)) 536870912 then
       bif (decide (0≤i_1)&&decide (i_1≤((((i_1 - 0).toNat)+((List.replicate ((IntKind.wrap .i64 ((IntKind.wrap .i64 (((s_0.length:Nat):Int)+(v_2.length:Int))) - i_1)).toNat) ((0,(⟨#[]⟩:ByteArray)):Int × ByteArray)).length):Nat):Int)))&&decide (((((i_1 - 0).toNat)+((List.replicate ((IntKind.wrap .i64 ((IntKind.wrap .i64 (((s_0.length:Nat):Int)+(v_2.length:Int))) - i_1)).toNat) ((0,(⟨#[]⟩:ByteArray)):Int × ByteArray)).length):Nat):Int)≤((((List.take ((i_1 - 0).toNat) (List.map some s_0++List.replicate c none)++List.map some (List.replicate ((IntKind.wrap .i64 ((IntKind.wrap .i64 (((s_0.length:Nat):Int)+(v_2.length:Int))) - i_1)).toNat) ((0,(⟨#[]⟩:ByteArray)):Int × ByteArray))).length) - 0:Nat):Int)) then
        bif Nat.ble ((0+i_1.toNat)+((((((i_1 - 0).toNat)+((List.replicate ((IntKind.wrap .i64 ((IntKind.wrap .i64 (((s_0.length:Nat):Int)+(v_2.length:Int))) - i_1)).toNat) ((0,(⟨#[]⟩:ByteArray)):Int × ByteArray)).length):Nat):Int) - i_1).toNat)) ((List.take ((i_1 - 0).toNat) (List.map some s_0++List.replicate c none)++List.map some (List.replicate ((IntKind.wrap .i64 ((IntKind.wrap .i64 (((s_0.length:Nat):Int)+(v_2.length:Int))) - i_1)).toNat) ((0,(⟨#[]⟩:ByteArray)):Int × ByteArray))).length) then
         bif (decide (0≤IntKind.wrap .i64 (i_1+(v_2.length:Int)))&&decide (IntKind.wrap .i64 (i_1+(v_2.length:Int))≤((((i_1 - 0).toNat)+((List.replicate ((IntKind.wrap .i64 ((IntKind.wrap .i64 (((s_0.length:Nat):Int)+(v_2.length:Int))) - i_1)).toNat) ((0,(⟨#[]⟩:ByteArray)):Int × ByteArray)).length):Nat):Int)))&&decide (((((i_1 - 0).toNat)+((List.replicate ((IntKind.wrap .i64 ((IntKind.wrap .i64 (((s_0.length:Nat):Int)+(v_2.length:Int))) - i_1)).toNat) ((0,(⟨#[]⟩:ByteArray)):Int × ByteArray)).length):Nat):Int)≤((((Q6 (List.take ((i_1 - 0).toNat) (List.map some s_0++List.replicate c none)++List.map some (List.replicate ((IntKind.wrap .i64 ((IntKind.wrap .i64 (((s_0.length:Nat):Int)+(v_2.length:Int))) - i_1)).toNat) ((0,(⟨#[]⟩:ByteArray)):Int × ByteArray))) (0+i_1.toNat) (List.take ((((((i_1 - 0).toNat)+((List.replicate ((IntKind.wrap .i64 ((IntKind.wrap .i64 (((s_0.length:Nat):Int)+(v_2.length:Int))) - i_1)).toNat) ((0,(⟨#[]⟩:ByteArray)):Int × ByteArray)).length):Nat):Int) - i_1).toNat) v_2)).length) - 0:Nat):Int)) then
          bif (decide (0≤i_1)&&decide (i_1≤((s_0.length:Nat):Int)))&&decide (((s_0.length:Nat):Int)≤((((List.map some s_0++List.replicate c none).length) - 0:Nat):Int)) then
           bif Nat.ble ((0+((IntKind.wrap .i64 (i_1+(v_2.length:Int))).toNat))+((((((i_1 - 0).toNat)+((List.replicate ((IntKind.wrap .i64 ((IntKind.wrap .i64 (((s_0.length:Nat):Int)+(v_2.length:Int))) - i_1)).toNat) ((0,(⟨#[]⟩:ByteArray)):Int × ByteArray)).length):Nat):Int) - (IntKind.wrap .i64 (i_1+(v_2.length:Int)))).toNat)) ((Q6 (List.take ((i_1 - 0).toNat) (List.map some s_0++List.replicate c none)++List.map some (List.replicate ((IntKind.wrap .i64 ((IntKind.wrap .i64 (((s_0.length:Nat):Int)+(v_2.length:Int))) - i_1)).toNat) ((0,(⟨#[]⟩:ByteArray)):Int × ByteArray))) (0+i_1.toNat) (List.take ((((((i_1 - 0).toNat)+((List.replicate ((IntKind.wrap .i64 ((IntKind.wrap .i64 (((s_0.length:Nat):Int)+(v_2.length:Int))) - i_1)).toNat) ((0,(⟨#[]⟩:ByteArray)):Int × ByteArray)).length):Nat):Int) - i_1).toNat) v_2)).length) then
            bif Nat.ble ((0+i_1.toNat)+((((s_0.length:Nat):Int) - i_1).toNat)) ((List.map some s_0++List.replicate c none).length) then
            Option.bind (Qd (List.take (min ((((((i_1 - 0).toNat)+((List.replicate ((IntKind.wrap .i64 ((IntKind.wrap .i64 (((s_0.length:Nat):Int)+(v_2.length:Int))) - i_1)).toNat) ((0,(⟨#[]⟩:ByteArray)):Int × ByteArray)).length):Nat):Int) - (IntKind.wrap .i64 (i_1+(v_2.length:Int)))).toNat) ((((s_0.length:Nat):Int) - i_1).toNat)) (List.drop (0+i_1.toNat) (List.map some s_0++List.replicate c none)))) fun (z4:List Qk2)=>
            bif Nat.ble (((i_1 - 0).toNat)+((List.replicate ((IntKind.wrap .i64 ((IntKind.wrap .i64 (((s_0.length:Nat):Int)+(v_2.length:Int))) - i_1)).toNat) ((0,(⟨#[]⟩:ByteArray)):Int × ByteArray)).length)) ((Q6 (Q6 (List.take ((i_1 - 0).toNat) (List.map some s_0++List.replicate c none)++List.map some (List.replicate ((IntKind.wrap .i64 ((IntKind.wrap .i64 (((s_0.length:Nat):Int)+(v_2.length:Int))) - i_1)).toNat) ((0,(⟨#[]⟩:ByteArray)):Int × ByteArray))) (0+i_1.toNat) (List.take ((((((i_1 - 0).toNat)+((List.replicate ((IntKind.wrap .i64 ((IntKind.wrap .i64 (((s_0.length:Nat):Int)+(v_2.length:Int))) - i_1)).toNat) ((0,(⟨#[]⟩:ByteArray)):Int × ByteArray)).length):Nat):Int) - i_1).toNat) v_2)) (0+((IntKind.wrap .i64 (i_1+(v_2.length:Int))).toNat)) z4).length) then
            Option.bind (Qd (List.take (((i_1 - 0).toNat)+((List.replicate ((IntKind.wrap .i64 ((IntKind.wrap .i64 (((s_0.length:Nat):Int)+(v_2.length:Int))) - i_1)).toNat) ((0,(⟨#[]⟩:ByteArray)):Int × ByteArray)).length)) (Q6 (Q6 (List.take ((i_1 - 0).toNat) (List.map some s_0++List.replicate c none)++List.map some (List.replicate ((IntKind.wrap .i64 ((IntKind.wrap .i64 (((s_0.length:Nat):Int)+(v_2.length:Int))) - i_1)).toNat) ((0,(⟨#[]⟩:ByteArray)):Int × ByteArray))) (0+i_1.toNat) (List.take ((((((i_1 - 0).toNat)+((List.replicate ((IntKind.wrap .i64 ((IntKind.wrap .i64 (((s_0.length:Nat):Int)+(v_2.length:Int))) - i_1)).toNat) ((0,(⟨#[]⟩:ByteArray)):Int × ByteArray)).length):Nat):Int) - i_1).toNat) v_2)) (0+((IntKind.wrap .i64 (i_1+(v_2.length:Int))).toNat)) z4))) fun (z5:List Qk2)=>
            some ((z5,()),())
            else none
            else none
           else none
          else none
         else none
        else none
       else none
      else none
     else none
    else none
   else
   bif decide (0≤IntKind.wrap .i64 (((s_0.length:Nat):Int)+(v_2.length:Int)))&&decide (IntKind.wrap .i64 (((s_0.length:Nat):Int)+(v_2.length:Int))≤((((List.map some s_0++List.replicate c none).length) - 0:Nat):Int)) then
    bif (decide (0≤IntKind.wrap .i64 (i_1+(v_2.length:Int)))&&decide (IntKind.wrap .i64 (i_1+(v_2.length:Int))≤((((IntKind.wrap .i64 (((s_0.length:Nat):Int)+(v_2.length:Int))) - 0).toNat:Nat):Int)))&&decide (((((IntKind.wrap .i64 (((s_0.length:Nat):Int)+(v_2.length:Int))) - 0).toNat:Nat):Int)≤((((List.map some s_0++List.replicate c none).length) - 0:Nat):Int)) then
     bif (decide (0≤IntKind.wrap .i64 (i_1+(v_2.length:Int)))&&decide (IntKind.wrap .i64 (i_1+(v_2.length:Int))≤((((IntKind.wrap .i64 (((s_0.length:Nat):Int)+(v_2.length:Int))) - 0).toNat:Nat):Int)))&&decide (((((IntKind.wrap .i64 (((s_0.length:Nat):Int)+(v_2.length:Int))) - 0).toNat:Nat):Int)≤((((List.map some s_0++List.replicate c none).length) - 0:Nat):Int)) then
      bif (decide (0≤i_1)&&decide (i_1≤((((IntKind.wrap .i64 (((s_0.length:Nat):Int)+(v_2.length:Int))) - 0).toNat:Nat):Int)))&&decide (((((IntKind.wrap .i64 (((s_0.length:Nat):Int)+(v_2.length:Int))) - 0).toNat:Nat):Int)≤((((List.map some s_0++List.replicate c none).length) - 0:Nat):Int)) then
       bif Nat.ble ((0+((IntKind.wrap .i64 (i_1+(v_2.length:Int))).toNat))+((((((IntKind.wrap .i64 (((s_0.length:Nat):Int)+(v_2.length:Int))) - 0).toNat:Nat):Int) - (IntKind.wrap .i64 (i_1+(v_2.length:Int)))).toNat)) ((List.map some s_0++List.replicate c none).length) then
        bif Nat.ble ((0+i_1.toNat)+((((((IntKind.wrap .i64 (((s_0.length:Nat):Int)+(v_2.length:Int))) - 0).toNat:Nat):Int) - i_1).toNat)) ((List.map some s_0++List.replicate c none).length) then
         Option.bind (Qd (List.take (min ((((((IntKind.wrap .i64 (((s_0.length:Nat):Int)+(v_2.length:Int))) - 0).toNat:Nat):Int) - (IntKind.wrap .i64 (i_1+(v_2.length:Int)))).toNat) ((((((IntKind.wrap .i64 (((s_0.length:Nat):Int)+(v_2.length:Int))) - 0).toNat:Nat):Int) - i_1).toNat)) (List.drop (0+i_1.toNat) (List.map some s_0++List.replicate c none)))) fun (z6:List Qk2)=>
         bif (decide (0≤i_1)&&decide (i_1≤((((IntKind.wrap .i64 (((s_0.length:Nat):Int)+(v_2.length:Int))) - 0).toNat:Nat):Int)))&&decide (((((IntKind.wrap .i64 (((s_0.length:Nat):Int)+(v_2.length:Int))) - 0).toNat:Nat):Int)≤((((Q6 (List.map some s_0++List.replicate c none) (0+((IntKind.wrap .i64 (i_1+(v_2.length:Int))).toNat)) z6).length) - 0:Nat):Int)) then
          bif Nat.ble ((0+i_1.toNat)+((((((IntKind.wrap .i64 (((s_0.length:Nat):Int)+(v_2.length:Int))) - 0).toNat:Nat):Int) - i_1).toNat)) ((Q6 (List.map some s_0++List.replicate c none) (0+((IntKind.wrap .i64 (i_1+(v_2.length:Int))).toNat)) z6).length) then
           bif Nat.ble (((IntKind.wrap .i64 (((s_0.length:Nat):Int)+(v_2.length:Int))) - 0).toNat) ((Q6 (Q6 (List.map some s_0++List.replicate c none) (0+((IntKind.wrap .i64 (i_1+(v_2.length:Int))).toNat)) z6) (0+i_1.toNat) (List.take ((((((IntKind.wrap .i64 (((s_0.length:Nat):Int)+(v_2.length:Int))) - 0).toNat:Nat):Int) - i_1).toNat) v_2)).length) then
            Option.bind (Qd (List.take (((IntKind.wrap .i64 (((s_0.length:Nat):Int)+(v_2.length:Int))) - 0).toNat) (Q6 (Q6 (List.map some s_0++List.replicate c none) (0+((IntKind.wrap .i64 (i_1+(v_2.length:Int))).toNat)) z6) (0+i_1.toNat) (List.take ((((((IntKind.wrap .i64 (((s_0.length:Nat):Int)+(v_2.length:Int))) - 0).toNat:Nat):Int) - i_1).toNat) v_2)))) fun (z7:List Qk2)=>
            some ((z7,()),())
           else none
          else none
         else none
        else none
       else none
      else none
     else none
    else none
   else none
  else none
 else none
theorem Zk3 (c:Nat) (s_0:List Qk2) (i_1:Int) (v_2:List Qk2):Qdf Z85 tab { Z4n with cap:=c } 1 [.ownc 142 Qyo,.val t2,.own 142 Qyo] [⟨t52,[true],none⟩] Tryz.f305 (s_0,i_1,v_2,())=Z75 c s_0 i_1 v_2:=by kernel_rfl
theorem Zjl (c:Nat) (s_0:List Qk2) (i_1:Int) (v_2:List Qk2):Z75 c s_0 i_1 v_2=Qet ((0,(⟨#[]⟩:ByteArray)):Int × ByteArray) c s_0 i_1 v_2:=by kernel_rfl
noncomputable def Zd0 (s_0:List Qk2) (i_1:Int) (v_2:List Qk2):Option ((Qkg × Unit) × Unit):=Qe5 s_0 i_1 v_2
noncomputable def Z6i:Ent:=⟨[.ownc 142 Qyo,.val t2,.own 142 Qyo],[⟨t52,[true],none⟩],fun x=>Zd0 x.1 x.2.1 x.2.2.1⟩
theorem Zkj:Q4j tab.ty Tryz.prog 305 Z6i:=by
  refine Qgb (Γ:=Z85) (fi:=Z4n) (n:=1) follows (Qjq (Qjr Tryz.func305 (by kernel_rfl) (by kernel_rfl)) Qju) Qjz Tryz.func305 (by kernel_rfl) (by kernel_rfl) (fun c x r hc h=>?_)
  obtain ⟨s_0,i_1,v_2,_u⟩:=x
  exact (Zk3 c s_0 i_1 v_2).trans ((Zjl c s_0 i_1 v_2).trans (Qin ((0,(⟨#[]⟩:ByteArray)):Int × ByteArray) c s_0 i_1 v_2 r hc h))
noncomputable def Xbq (l_0:List Qk2) (next_1:Int) (i_2:Int × ByteArray):Option ((Qkg × Bool × Unit) × Unit):=
 Option.bind (Qka l_0) fun r1=>
 Option.bind (Qll l_0 i_2.1 (fun x=>(X47 x.1 x.2.1).bind fun r=>some (r.1.1,()))) fun r2=>
 bif r2.1.2.1 then
  some ((r1.1.1,false,()),())
 else
 bif decide (i_2.1<next_1) then
  some ((r1.1.1,false,()),())
 else
 bif decide (IntKind.wrap .i64 (i_2.1 - next_1) ≥ 8) then
  some ((r1.1.1,false,()),())
 else
  Option.bind (Zd0 r1.1.1 r2.1.1 [i_2]) fun r3=>
  some ((r3.1.1,true,()),())
noncomputable def X9y:Ent:=⟨[.val t52,.val t2,.val Qyo],[⟨t52,[true],none⟩,⟨t4,[false],none⟩],fun x=>Xbq x.1 x.2.1 x.2.2.1⟩
theorem X9o:Q4j tab.ty Tryz.prog 270 X9y:=
 Qjd (Γ:=[(131,Qlc),(302,Qlb),(304,Zuu),(305,Z6i)]) (fi:={ keep:=[],vty:=[],vals:=[],live:=[(0,[0,1,5,22,23,24,25,28,29,30,31,32]),(1,[0,1,5,8,22,23,24,25,28,29,30,31,32]),(2,[1,5,8,9,10,22,23,24,25,28,29,30,31,32]),(3,[5,8,9,33]),(4,[6,7]),(5,[6,7])] }) (n:=1) follows (Qjq Qkz (Qjq Qmf (Qjq X0l (Qjq Zkj Qju)))) Qjz Tryz.func270 (by kernel_rfl) (by kernel_rfl) fun x r h=>Eq.trans (by kernel_rfl) h
noncomputable def X64 (f_0:Int × Int × Qkg × Qkg × Qpf × Int × Int) (i_1:Int × ByteArray):Option ((Qnc × Unit) × Unit):=
 bif f_0.1==0 then
  Option.bind (Qov f_0) fun r1=>
  some ((r1.1.1,()),())
 else
 bif decide (i_1.1<1) then
  Option.bind (Qov f_0) fun r2=>
  some ((r2.1.1,()),())
 else
 bif decide (i_1.1>1000000) then
  Option.bind (Qov f_0) fun r3=>
  some ((r3.1.1,()),())
 else
 bif decide ((i_1.2.size:Int)>12) then
  Option.bind (Qov f_0) fun r4=>
  some ((r4.1.1,()),())
 else
  Option.bind (Z2n f_0 i_1.1) fun r5=>
  Option.bind (Xbq (g3 r5.1.1) r5.1.1.1 i_1) fun r6=>
  Option.bind (X0z (u3 r5.1.1 r6.1.1)) fun r7=>
  some ((r7.1.1,()),())
noncomputable def X0c:Ent:=⟨[.val t56,.val Qyo],[⟨t56,(nF 7),none⟩],fun x=>X64 x.1 x.2.1⟩
theorem X4b:Q4j tab.ty Tryz.prog 238 X0c:=
 Qjd (Γ:=[(212,Qx0),(224,Zqf),(236,Z4h),(270,X9y)]) (fi:={ keep:=[],vty:=[],vals:=[],live:=[(0,[2,3,4,9,10,11,14,15,16,19,20,21,22]),(1,[2,3,4,23]),(2,[4]),(3,[2,3,4]),(4,[2,4]),(5,[2,4]),(6,[4])] }) (n:=1) follows (Qjq Qso (Qjq Zjs (Qjq Qyq (Qjq X9o Qju)))) Qjz Tryz.func238 (by kernel_rfl) (by kernel_rfl) fun x r h=>Eq.trans (by kernel_rfl) h
noncomputable def X6f (f_0:Int × Int × Qkg × Qkg × Qpf × Int × Int) (lo_1 hi_2:Int):Option ((Qnc × Unit) × Unit):=
 bif f_0.1==0 then
  Option.bind (Qov f_0) fun r1=>
  some ((r1.1.1,()),())
 else
 bif decide (lo_1<1) then
  Option.bind (Qov f_0) fun r2=>
  some ((r2.1.1,()),())
 else
 bif decide (lo_1>hi_2) then
  Option.bind (Qov f_0) fun r3=>
  some ((r3.1.1,()),())
 else
 bif decide (hi_2>1000000) then
  Option.bind (Qov f_0) fun r4=>
  some ((r4.1.1,()),())
 else
 bif decide (f_0.1<lo_1) then
  Option.bind (Z2n f_0 hi_2) fun r5=>
  some ((r5.1.1,()),())
 else
 bif decide (f_0.1>hi_2) then
  Option.bind (Z2n f_0 hi_2) fun r6=>
  some ((r6.1.1,()),())
 else
  Option.bind (X2g f_0 hi_2 1) fun r7=>
  Option.bind (X0z (u1 r7.1.1 (if hi_2>r7.1.1.2.1 then hi_2 else r7.1.1.2.1))) fun r8=>
  some ((r8.1.1,()),())
noncomputable def Zzz:Ent:=⟨[.val t56,.val t2,.val t2],[⟨t56,(nF 7),none⟩],fun x=>X6f x.1 x.2.1 x.2.2.1⟩
theorem X49:Q4j tab.ty Tryz.prog 239 Zzz:=
 Qjd (Γ:=[(212,Qx0),(223,Ztq),(224,Zqf),(236,Z4h)]) (fi:={ keep:=[],vty:=[],vals:=[],live:=[(0,[1,2,3,6,11,12,15,16,17,20,21,30,31,32,33]),(1,[1,2,3,6,22,30,31,32,33]),(2,[6]),(3,[2,3,6,34]),(4,[6]),(5,[2,3,6]),(6,[3,6]),(7,[3,6]),(8,[6])] }) (n:=1) follows (Qjq Qso (Qjq Zry (Qjq Zjs (Qjq Qyq Qju)))) Qjz Tryz.func239 (by kernel_rfl) (by kernel_rfl) fun x r h=>Eq.trans (by kernel_rfl) h
noncomputable def Zw6 (m_1:Int × Int × Int × Int × Int × Int × (List Int) × Int × Int × ByteArray) (n_0:Bool × Int × ByteArray × Qli × Qnc × Int):Option ((Qnc × Unit) × Unit):=
 bif m_1.1==7 then
  Option.bind (X64 (g4 n_0) ((g7 m_1),(h9 m_1))) fun r4=>
  some ((r4.1.1,()),())
 else
 bif m_1.1==9 then
  Option.bind (X6f (g4 n_0) (g7 m_1) (g8 m_1)) fun r5=>
  some ((r5.1.1,()),())
 else
  some (((g4 n_0),()),())
noncomputable def Zuf (m_1:Int × Int × Int × Int × Int × Int × (List Int) × Int × Int × ByteArray) (was_2:Int) (n_0:Bool × Int × ByteArray × Qli × Qnc × Int):Option ((Qnc × Unit) × Unit):=
 bif m_1.1==5 then
  bif was_2==m_1.2.1 then
   Option.bind (Z2n (g4 n_0) (g8 m_1)) fun r3=>
   some ((r3.1.1,()),())
  else
   Zw6 m_1 n_0
 else
  Zw6 m_1 n_0
noncomputable def Zxr (n_0:Bool × Int × ByteArray × Qli × Qnc × Int) (m_1:Int × Int × Int × Int × Int × Int × (List Int) × Int × Int × ByteArray) (was_2:Int):Option ((Qnc × Unit) × Unit):=
 bif m_1.2.1==(g3 (g3 n_0)) then
  bif !((g3 m_1)==(g4 (g3 n_0))) then
   some (((g4 n_0),()),())
  else
  bif m_1.1==2 then
   bif was_2 != m_1.2.1 then
    Option.bind (X5f (g4 n_0) (g7 m_1)) fun r1=>
    Option.bind (Z2n r1.1.1 (IntKind.wrap .i64 ((g7 m_1) - 1))) fun r2=>
    some ((r2.1.1,()),())
   else
    Zuf m_1 was_2 n_0
  else
   Zuf m_1 was_2 n_0
 else
  some (((g4 n_0),()),())
noncomputable def Zya:Ent:=⟨[.val t58,.val Qsi,.val t2],[⟨t56,(nF 7),none⟩],fun x=>Zxr x.1 x.2.1 x.2.2.1⟩
theorem X3h:Q4j tab.ty Tryz.prog 185 Zya:=
 Qjd (Γ:=[(236,Z4h),(237,Zz9),(238,X0c),(239,Zzz)]) (fi:={ keep:=[],vty:=[],vals:=[],live:=[(0,[2,3,4,6,15,16,17,18,19,20,32,33,34,35,51,52,53,54]),(1,[2,3,4,6,7,32,33,34,35,51,52,53,54]),(2,[2,3,4,6,22,32,33,34,35,51,52,53,54]),(3,[6]),(4,[2,3,4,6,27,51,52,53,54]),(5,[6]),(6,[3,4,6,46]),(7,[6]),(8,[3,4,6,61]),(9,[6]),(10,[3,4,6,73]),(11,[6]),(12,[6])] }) (n:=1) follows (Qjq Qyq (Qjq X2j (Qjq X4b (Qjq X49 Qju)))) Qjz Tryz.func185 (by kernel_rfl) (by kernel_rfl) fun x r h=>Eq.trans (by kernel_rfl) h
noncomputable def X6d (n_0:Bool × Int × ByteArray × Qli × Qnc × Int) (b_1:List Int):Option ((Z3k × Qtq × Unit) × Unit):=
 Option.bind (Qqn n_0) fun r1=>
 bif !n_0.1 then
  some ((r1.1.1,[],()),())
 else
  Option.bind (X73 b_1) fun r2=>
  bif !r2.1.2.1 then
   some (((e5 r1.1.1 (if 1073741824<IntKind.wrap .i64 ((h5 r1.1.1)+1) then 1073741824 else IntKind.wrap .i64 ((h5 r1.1.1)+1))),[],()),())
  else
  bif r2.1.1.2.2.1 != (g3 n_0).1 then
   some (((e5 r1.1.1 (if 1073741824<IntKind.wrap .i64 ((h5 r1.1.1)+1) then 1073741824 else IntKind.wrap .i64 ((h5 r1.1.1)+1))),[],()),())
  else
   Option.bind (X9g (g3 n_0) r2.1.1 (if 1>(g4 n_0).1 then 1 else (g4 n_0).1)) fun r3=>
   bif r2.1.1.1==8 then
    Option.bind (X1h (u3 r1.1.1 r3.1.1) r2.1.1) fun r4=>
    bif Nat.ble (r3.1.2.1.length+r4.1.1.length) 1073741824 then
     Option.bind (Zxr (u3 r1.1.1 r3.1.1) r2.1.1 (g3 (g3 n_0))) fun r5=>
     Option.bind (Qqn (u4 (u3 r1.1.1 r3.1.1) r5.1.1)) fun r6=>
     Option.bind (Ziv (u4 (u3 r1.1.1 r3.1.1) r5.1.1) (g4 n_0)) fun r7=>
     bif Nat.ble ((r3.1.2.1++r4.1.1).length+r7.1.1.length) 1073741824 then
      some ((r6.1.1,(r3.1.2.1++r4.1.1)++r7.1.1,()),())
     else none
    else none
   else
    Option.bind (Zxr (u3 r1.1.1 r3.1.1) r2.1.1 (g3 (g3 n_0))) fun r8=>
    Option.bind (Qqn (u4 (u3 r1.1.1 r3.1.1) r8.1.1)) fun r9=>
    Option.bind (Ziv (u4 (u3 r1.1.1 r3.1.1) r8.1.1) (g4 n_0)) fun r10=>
    bif Nat.ble (r3.1.2.1.length+r10.1.1.length) 1073741824 then
     some ((r9.1.1,r3.1.2.1++r10.1.1,()),())
    else none
noncomputable def Zza:Ent:=⟨[.val t58,.val t66],[⟨t58,(nF 24),none⟩,⟨t70,[true],none⟩],fun x=>X6d x.1 x.2.1⟩
theorem X3x:Q4j tab.ty Tryz.prog 146 Zza:=
 Qjd (Γ:=[(169,Qxa),(176,Zk9),(182,X5v),(183,X28),(184,Zvf),(185,Zya)]) (fi:={ keep:=[],vty:=[],vals:=[],live:=[(0,[1,2,4,25,26,27,28,29,30]),(1,[1,2,4,6,25,26,27,28,29,30]),(2,[1,2,4,6,15,25,26,27,28,29,30]),(3,[4,5]),(4,[2,4,6,7,8,25,26,27,28,29,30]),(5,[2,4,6,7,31]),(6,[4,6]),(7,[4,5]),(8,[2,4,6,7,9,10]),(9,[2,4,6,7,10]),(10,[2,4,6,7,10,53]),(11,[2,4,6,7,10]),(12,[2,4,6,10]),(13,[4,5])] }) (n:=1) follows (Qjq Qsq (Qjq Zg6 (Qjq X7g (Qjq X4z (Qjq X0p (Qjq X3h Qju)))))) Qjz Tryz.func146 (by kernel_rfl) (by kernel_rfl) fun x r h=>Eq.trans (by kernel_rfl) h
noncomputable def Zc3 (w_0:Zmw × Unit) (i_1:Int):Option ((IV × Unit) × (Zka × Unit)):=
 Option.bind (X34 w_0.1.2.1 i_1) fun r1=>
 bif !r1.1.2.2.1 then
  some ((IV.mk 122 [.int .i64 3],()),((w_0.1,()),()))
 else
 bif decide (r1.1.2.1.1<1)||decide (r1.1.2.1.1>(w_0.1.1.length:Int)) then
  some ((IV.mk 122 [.int .i64 1],()),(((u1 w_0.1 r1.1.1),()),()))
 else
 bif decide (0≤r1.1.2.1.1 - 1)&&decide (r1.1.2.1.1 - 1<(w_0.1.1.length:Int)) then
  bif Nat.ble r1.1.2.1.2.1.size 1073741824 then
   Option.bind (X6d ((List.getD w_0.1.1 ((r1.1.2.1.1 - 1).toNat) Qk4).1,((List.getD w_0.1.1 ((r1.1.2.1.1 - 1).toNat) Qk4).2).1,(((List.getD w_0.1.1 ((r1.1.2.1.1 - 1).toNat) Qk4).2).2).1,((((((List.getD w_0.1.1 ((r1.1.2.1.1 - 1).toNat) Qk4).2).2).2).1).1,((((((List.getD w_0.1.1 ((r1.1.2.1.1 - 1).toNat) Qk4).2).2).2).1).2).1,(((((((List.getD w_0.1.1 ((r1.1.2.1.1 - 1).toNat) Qk4).2).2).2).1).2).2).1,((((((((List.getD w_0.1.1 ((r1.1.2.1.1 - 1).toNat) Qk4).2).2).2).1).2).2).2).1,(((((((((List.getD w_0.1.1 ((r1.1.2.1.1 - 1).toNat) Qk4).2).2).2).1).2).2).2).2).1,((((((((((List.getD w_0.1.1 ((r1.1.2.1.1 - 1).toNat) Qk4).2).2).2).1).2).2).2).2).2).1,(((((((((((List.getD w_0.1.1 ((r1.1.2.1.1 - 1).toNat) Qk4).2).2).2).1).2).2).2).2).2).2).1,((((((((((((List.getD w_0.1.1 ((r1.1.2.1.1 - 1).toNat) Qk4).2).2).2).1).2).2).2).2).2).2).2).1,(((((((((((((List.getD w_0.1.1 ((r1.1.2.1.1 - 1).toNat) Qk4).2).2).2).1).2).2).2).2).2).2).2).2).1,((((((((((((((List.getD w_0.1.1 ((r1.1.2.1.1 - 1).toNat) Qk4).2).2).2).1).2).2).2).2).2).2).2).2).2).1,(((((((((((((((List.getD w_0.1.1 ((r1.1.2.1.1 - 1).toNat) Qk4).2).2).2).1).2).2).2).2).2).2).2).2).2).2).1,((((((((((((((((List.getD w_0.1.1 ((r1.1.2.1.1 - 1).toNat) Qk4).2).2).2).1).2).2).2).2).2).2).2).2).2).2).2)),(((((((List.getD w_0.1.1 ((r1.1.2.1.1 - 1).toNat) Qk4).2).2).2).2).1).1,(((((((List.getD w_0.1.1 ((r1.1.2.1.1 - 1).toNat) Qk4).2).2).2).2).1).2).1,((((((((List.getD w_0.1.1 ((r1.1.2.1.1 - 1).toNat) Qk4).2).2).2).2).1).2).2).1,(((((((((List.getD w_0.1.1 ((r1.1.2.1.1 - 1).toNat) Qk4).2).2).2).2).1).2).2).2).1,((((((((((List.getD w_0.1.1 ((r1.1.2.1.1 - 1).toNat) Qk4).2).2).2).2).1).2).2).2).2).1,(((((((((((List.getD w_0.1.1 ((r1.1.2.1.1 - 1).toNat) Qk4).2).2).2).2).1).2).2).2).2).2)),(((((List.getD w_0.1.1 ((r1.1.2.1.1 - 1).toNat) Qk4).2).2).2).2).2) (r1.1.2.1.2.1.data.toList.map fun b=>(b.toNat:Int))) fun r2=>
   bif decide (0≤r1.1.2.1.1 - 1)&&decide (r1.1.2.1.1 - 1<(w_0.1.1.length:Int)) then
    Option.bind (Qoq ((List.set w_0.1.1 ((r1.1.2.1.1 - 1).toNat) r2.1.1,r1.1.1,w_0.1.2.2),()) r2.1.2.1) fun r3=>
    some ((IV.nil,()),((r3.2.1.1,()),()))
   else none
  else none
 else none
noncomputable def Z48:Ent:=⟨[.box 117 Xao [true,false,true,false,false,false],.val t2],[⟨t20,[false],none⟩],fun x=>Zc3 x.1 x.2.1⟩
theorem Zgb:Q4j tab.ty Tryz.prog 97 Z48:=
 Qjd (Γ:=[(141,Qn1),(145,Ztc),(146,Zza)]) (fi:={ keep:=[],vty:=[],vals:=[],live:=[(0,[0,1]),(1,[0,5,6,7]),(2,[0,5,6,24]),(3,[0,4]),(4,[0,6]),(5,[0,6,8,9]),(6,[0,6,8,9,40]),(7,[0,4]),(8,[0,8,10,11]),(9,[0,11]),(10,[0]),(11,[0,4])] }) (n:=1) follows (Qjq Qnh (Qjq Zsf (Qjq X3x Qju))) Qjz Tryz.func97 (by kernel_rfl) (by kernel_rfl) fun x r h=>Eq.trans (by kernel_rfl) h
noncomputable def Xaq (l_0:List Z8z) (i_1:Int):Option ((Qq2 × Bool × Unit) × Unit):=
 Option.bind (X34 l_0 i_1) fun r1=>
 some ((r1.1.1,r1.1.2.2.1,()),())
noncomputable def X6i:Ent:=⟨[.val t24,.val t2],[⟨t24,[true],none⟩,⟨t4,[false],none⟩],fun x=>Xaq x.1 x.2.1⟩
theorem X6y:Q4j tab.ty Tryz.prog 147 X6i:=
 Qjd (Γ:=[(145,Ztc)]) (fi:={ keep:=[],vty:=[],vals:=[],live:=[(0,[0,1]),(1,[0,7]),(2,[4,5])] }) (n:=1) follows (Qjq Zsf Qju) Qjz Tryz.func147 (by kernel_rfl) (by kernel_rfl) fun x r h=>Eq.trans (by kernel_rfl) h
noncomputable def X9k (l_0:List Z8z) (i_1:Int):Option ((Qq2 × Bool × Unit) × Unit):=
 Option.bind (Zup l_0 i_1) fun r1=>
 bif !r1.1.1 then
  Option.bind (Qly l_0) fun r2=>
  some ((r2.1.1,false,()),())
 else
 bif decide ((l_0.length:Int) ≥ 60) then
  Option.bind (Qly l_0) fun r3=>
  some ((r3.1.1,false,()),())
 else
 bif decide (0≤i_1)&&decide (i_1<(l_0.length:Int)) then
  Option.bind (X0w l_0 (List.getD l_0 i_1.toNat Qn2)) fun r4=>
  some ((r4.1.1,true,()),())
 else none
noncomputable def X3g:Ent:=⟨[.val t24,.val t2],[⟨t24,[true],none⟩,⟨t4,[false],none⟩],fun x=>X9k x.1 x.2.1⟩
theorem X4y:Q4j tab.ty Tryz.prog 148 X3g:=
 Qjd (Γ:=[(86,Qmo),(174,Zxa),(180,Zk6)]) (fi:={ keep:=[],vty:=[],vals:=[],live:=[(0,[0,1,11,12,13]),(1,[0,1,14]),(2,[4,5]),(3,[4,5])] }) (n:=1) follows (Qjq Qmk (Qjq Zx0 (Qjq Zfo Qju))) Qjz Tryz.func148 (by kernel_rfl) (by kernel_rfl) fun x r h=>Eq.trans (by kernel_rfl) h
noncomputable def X5p (l_0:List Z8z) (i_1 to_2:Int):Option ((Qq2 × Bool × Unit) × Unit):=
 Option.bind (Qly l_0) fun r1=>
 Option.bind (Zup r1.1.1 i_1) fun r2=>
 bif !r2.1.1 then
  some ((r1.1.1,false,()),())
 else
 bif decide (0≤i_1)&&decide (i_1<(r1.1.1.length:Int)) then
  bif decide (0≤i_1)&&decide (i_1<(r1.1.1.length:Int)) then
   bif ((List.getD r1.1.1 i_1.toNat Qn2).2).2 then
    some ((r1.1.1,false,()),())
   else
   bif decide (0≤i_1)&&decide (i_1<(r1.1.1.length:Int)) then
    bif decide (0≤i_1)&&decide (i_1<(r1.1.1.length:Int)) then
     bif Qev (((List.getD r1.1.1 i_1.toNat Qn2).2).1) (⟨#[]⟩:ByteArray) then
      some ((r1.1.1,false,()),())
     else
     bif decide (to_2<0) then
      some ((r1.1.1,false,()),())
     else
     bif (Int.tmod to_2 256)==0 then
      some ((r1.1.1,false,()),())
     else
     bif decide (0≤i_1)&&decide (i_1<(r1.1.1.length:Int)) then
      bif decide (0≤i_1)&&decide (i_1<(r1.1.1.length:Int)) then
       bif Nat.ble (((List.getD r1.1.1 i_1.toNat Qn2).2).1).size 1073741824 then
        bif !((((((List.getD r1.1.1 i_1.toNat Qn2).2).1).data.toList.map fun b=>(b.toNat:Int)).length:Int)==0) then
         bif decide (0≤Int.tmod (IntKind.wrap .i64 (Int.tdiv to_2 256)) (((((List.getD r1.1.1 i_1.toNat Qn2).2).1).data.toList.map fun b=>(b.toNat:Int)).length:Int))&&decide (Int.tmod (IntKind.wrap .i64 (Int.tdiv to_2 256)) (((((List.getD r1.1.1 i_1.toNat Qn2).2).1).data.toList.map fun b=>(b.toNat:Int)).length:Int)<(((((List.getD r1.1.1 i_1.toNat Qn2).2).1).data.toList.map fun b=>(b.toNat:Int)).length:Int)) then
          bif decide (0≤Int.tmod (IntKind.wrap .i64 (Int.tdiv to_2 256)) (((((List.getD r1.1.1 i_1.toNat Qn2).2).1).data.toList.map fun b=>(b.toNat:Int)).length:Int))&&decide (Int.tmod (IntKind.wrap .i64 (Int.tdiv to_2 256)) (((((List.getD r1.1.1 i_1.toNat Qn2).2).1).data.toList.map fun b=>(b.toNat:Int)).length:Int)<(((((List.getD r1.1.1 i_1.toNat Qn2).2).1).data.toList.map fun b=>(b.toNat:Int)).length:Int)) then
           bif decide (0≤Int.tmod (IntKind.wrap .i64 (Int.tdiv to_2 256)) (((((List.getD r1.1.1 i_1.toNat Qn2).2).1).data.toList.map fun b=>(b.toNat:Int)).length:Int))&&decide (Int.tmod (IntKind.wrap .i64 (Int.tdiv to_2 256)) (((((List.getD r1.1.1 i_1.toNat Qn2).2).1).data.toList.map fun b=>(b.toNat:Int)).length:Int)<(((((List.getD r1.1.1 i_1.toNat Qn2).2).1).data.toList.map fun b=>(b.toNat:Int)).length:Int)) then
            bif decide (0≤Int.tmod (IntKind.wrap .i64 (Int.tdiv to_2 256)) (((((List.getD r1.1.1 i_1.toNat Qn2).2).1).data.toList.map fun b=>(b.toNat:Int)).length:Int))&&decide (Int.tmod (IntKind.wrap .i64 (Int.tdiv to_2 256)) (((((List.getD r1.1.1 i_1.toNat Qn2).2).1).data.toList.map fun b=>(b.toNat:Int)).length:Int)<(((((List.getD r1.1.1 i_1.toNat Qn2).2).1).data.toList.map fun b=>(b.toNat:Int)).length:Int)) then
            bif decide (0≤i_1)&&decide (i_1<(r1.1.1.length:Int)) then
            bif decide (0≤i_1)&&decide (i_1<(r1.1.1.length:Int)) then
            bif decide (0≤i_1)&&decide (i_1<((List.set r1.1.1 i_1.toNat ((List.getD r1.1.1 i_1.toNat Qn2).1,Q4w (List.set ((((List.getD r1.1.1 i_1.toNat Qn2).2).1).data.toList.map fun b=>(b.toNat:Int)) ((Int.tmod (IntKind.wrap .i64 (Int.tdiv to_2 256)) (((((List.getD r1.1.1 i_1.toNat Qn2).2).1).data.toList.map fun b=>(b.toNat:Int)).length:Int)).toNat) (IntKind.wrap .u8 ((BitVec.ofInt 8 (List.getD ((((List.getD r1.1.1 i_1.toNat Qn2).2).1).data.toList.map fun b=>(b.toNat:Int)) ((Int.tmod (IntKind.wrap .i64 (Int.tdiv to_2 256)) (((((List.getD r1.1.1 i_1.toNat Qn2).2).1).data.toList.map fun b=>(b.toNat:Int)).length:Int)).toNat) 0) ^^^ BitVec.ofInt 8 (IntKind.wrap .u8 (Int.tmod to_2 256))).toNat))),((List.getD r1.1.1 i_1.toNat Qn2).2).2)).length:Int)) then
            bif decide (0≤i_1)&&decide (i_1<((List.set r1.1.1 i_1.toNat ((List.getD r1.1.1 i_1.toNat Qn2).1,Q4w (List.set ((((List.getD r1.1.1 i_1.toNat Qn2).2).1).data.toList.map fun b=>(b.toNat:Int)) ((Int.tmod (IntKind.wrap .i64 (Int.tdiv to_2 256)) (((((List.getD r1.1.1 i_1.toNat Qn2).2).1).data.toList.map fun b=>(b.toNat:Int)).length:Int)).toNat) (IntKind.wrap .u8 ((BitVec.ofInt 8 (List.getD ((((List.getD r1.1.1 i_1.toNat Qn2).2).1).data.toList.map fun b=>(b.toNat:Int)) ((Int.tmod (IntKind.wrap .i64 (Int.tdiv to_2 256)) (((((List.getD r1.1.1 i_1.toNat Qn2).2).1).data.toList.map fun b=>(b.toNat:Int)).length:Int)).toNat) 0) ^^^ BitVec.ofInt 8 (IntKind.wrap .u8 (Int.tmod to_2 256))).toNat))),((List.getD r1.1.1 i_1.toNat Qn2).2).2)).length:Int)) then
            some ((List.set (List.set r1.1.1 i_1.toNat ((List.getD r1.1.1 i_1.toNat Qn2).1,Q4w (List.set ((((List.getD r1.1.1 i_1.toNat Qn2).2).1).data.toList.map fun b=>(b.toNat:Int)) ((Int.tmod (IntKind.wrap .i64 (Int.tdiv to_2 256)) (((((List.getD r1.1.1 i_1.toNat Qn2).2).1).data.toList.map fun b=>(b.toNat:Int)).length:Int)).toNat) (IntKind.wrap .u8 ((BitVec.ofInt 8 (List.getD ((((List.getD r1.1.1 i_1.toNat Qn2).2).1).data.toList.map fun b=>(b.toNat:Int)) ((Int.tmod (IntKind.wrap .i64 (Int.tdiv to_2 256)) (((((List.getD r1.1.1 i_1.toNat Qn2).2).1).data.toList.map fun b=>(b.toNat:Int)).length:Int)).toNat) 0) ^^^ BitVec.ofInt 8 (IntKind.wrap .u8 (Int.tmod to_2 256))).toNat))),((List.getD r1.1.1 i_1.toNat Qn2).2).2)) i_1.toNat ((List.getD (List.set r1.1.1 i_1.toNat ((List.getD r1.1.1 i_1.toNat Qn2).1,Q4w (List.set ((((List.getD r1.1.1 i_1.toNat Qn2).2).1).data.toList.map fun b=>(b.toNat:Int)) ((Int.tmod (IntKind.wrap .i64 (Int.tdiv to_2 256)) (((((List.getD r1.1.1 i_1.toNat Qn2).2).1).data.toList.map fun b=>(b.toNat:Int)).length:Int)).toNat) (IntKind.wrap .u8 ((BitVec.ofInt 8 (List.getD ((((List.getD r1.1.1 i_1.toNat Qn2).2).1).data.toList.map fun b=>(b.toNat:Int)) ((Int.tmod (IntKind.wrap .i64 (Int.tdiv to_2 256)) (((((List.getD r1.1.1 i_1.toNat Qn2).2).1).data.toList.map fun b=>(b.toNat:Int)).length:Int)).toNat) 0) ^^^ BitVec.ofInt 8 (IntKind.wrap .u8 (Int.tmod to_2 256))).toNat))),((List.getD r1.1.1 i_1.toNat Qn2).2).2)) i_1.toNat Qn2).1,((List.getD (List.set r1.1.1 i_1.toNat ((List.getD r1.1.1 i_1.toNat Qn2).1,Q4w (List.set ((((List.getD r1.1.1 i_1.toNat Qn2).2).1).data.toList.map fun b=>(b.toNat:Int)) ((Int.tmod (IntKind.wrap .i64 (Int.tdiv to_2 256)) (((((List.getD r1.1.1 i_1.toNat Qn2).2).1).data.toList.map fun b=>(b.toNat:Int)).length:Int)).toNat) (IntKind.wrap .u8 ((BitVec.ofInt 8 (List.getD ((((List.getD r1.1.1 i_1.toNat Qn2).2).1).data.toList.map fun b=>(b.toNat:Int)) ((Int.tmod (IntKind.wrap .i64 (Int.tdiv to_2 256)) (((((List.getD r1.1.1 i_1.toNat Qn2).2).1).data.toList.map fun b=>(b.toNat:Int)).length:Int)).toNat) 0) ^^^ BitVec.ofInt 8 (IntKind.wrap .u8 (Int.tmod to_2 256))).toNat))),((List.getD r1.1.1 i_1.toNat Qn2).2).2)) i_1.toNat Qn2).2).1,true),true,()),())
            else none
            else none
            else none
            else none
            else none
           else none
          else none
         else none
        else none
       else none
      else none
     else none
    else none
   else none
  else none
 else none
noncomputable def Zyd:Ent:=⟨[.val t24,.val t2,.val t2],[⟨t24,[true],none⟩,⟨t4,[false],none⟩],fun x=>X5p x.1 x.2.1 x.2.2.1⟩
theorem X3t:Q4j tab.ty Tryz.prog 149 Zyd:=
 Qjd (Γ:=[(149,Qjc),(86,Qmo),(180,Zk6)]) (fi:={ keep:=[],vty:=[],vals:=[],live:=[(0,[0,1,2,16,17,18,19,20,23,24,25,26,27,28,31,32,35,36,37]),(1,[0,1,2,16,17,18,19,20,23,24,25,26,27,28,31,32,35,36,37]),(2,[0,1,2,38]),(3,[6,7]),(4,[0,1,2,8]),(5,[0,1,8]),(6,[0]),(7,[6,7])] }) (n:=1) follows (Qjq (Qjr Tryz.func149 (by kernel_rfl) (by kernel_rfl)) (Qjq Qmk (Qjq Zfo Qju))) Qjz Tryz.func149 (by kernel_rfl) (by kernel_rfl) fun x r h=>Eq.trans (by kernel_rfl) h
noncomputable def Qtm (w_0:Zmw × Unit) (s_1:Int × Int × Int × Int × ByteArray):Option ((IV × Unit) × (Zka × Unit)):=
 bif s_1.1==7 then
  Option.bind (Xaq w_0.1.2.1 s_1.2.2.1) fun r1=>
  bif !r1.1.2.1 then
   some ((IV.mk 122 [.int .i64 3],()),((w_0.1,()),()))
  else
   some ((IV.nil,()),(((u1 w_0.1 r1.1.1),()),()))
 else
 bif s_1.1==8 then
  Option.bind (X9k w_0.1.2.1 s_1.2.2.1) fun r2=>
  bif !r2.1.2.1 then
   some ((IV.mk 122 [.int .i64 3],()),((w_0.1,()),()))
  else
   some ((IV.nil,()),(((u1 w_0.1 r2.1.1),()),()))
 else
 bif s_1.1==9 then
  Option.bind (X5p w_0.1.2.1 s_1.2.2.1 (g3 s_1)) fun r3=>
  bif !r3.1.2.1 then
   some ((IV.mk 122 [.int .i64 3],()),((w_0.1,()),()))
  else
   some ((IV.nil,()),(((u1 w_0.1 r3.1.1),()),()))
 else
  some ((IV.mk 122 [.int .i64 3],()),((w_0.1,()),()))
noncomputable def Z8g:Ent:=⟨[.box 117 Xao [true,false,true,false,false,false],.val t40],[⟨t20,[false],none⟩],fun x=>Qtm x.1 x.2.1⟩
theorem Zkm:Q4j tab.ty Tryz.prog 98 Z8g:=
 Qjd (Γ:=[(147,X6i),(148,X3g),(149,Zyd)]) (fi:={ keep:=[],vty:=[],vals:=[],live:=[(0,[0,3]),(1,[0,3,5,6]),(2,[0,3,5,6,13]),(3,[0,3,5,6,13,14]),(4,[0,5,6]),(5,[0,3,5,6,13,27]),(6,[0,5,6]),(7,[0,3,5,6,40]),(8,[0,5,6]),(9,[0,5,56]),(10,[0,4]),(11,[0]),(12,[0,4])] }) (n:=1) follows (Qjq X6y (Qjq X4y (Qjq X3t Qju))) Qjz Tryz.func98 (by kernel_rfl) (by kernel_rfl) fun x r h=>Eq.trans (by kernel_rfl) h
noncomputable def Z55 (s_1:Int × Int × Int × Int × ByteArray) (w_0:Zmw × Unit):Option ((IV × Unit) × (Zka × Unit)):=
 bif s_1.1==4 then
  Option.bind (Ze4 (w_0.1,()) (h4 s_1)) fun r3=>
  some ((r3.1.1,()),((r3.2.1.1,()),()))
 else
 bif s_1.1==5 then
  Option.bind (Zax (w_0.1,()) s_1.2.1) fun r4=>
  some ((r4.1.1,()),((r4.2.1.1,()),()))
 else
 bif s_1.1==6 then
  Option.bind (Zc3 (w_0.1,()) s_1.2.2.1) fun r5=>
  some ((r5.1.1,()),((r5.2.1.1,()),()))
 else
 bif s_1.1==7 then
  bif s_1.1==7 then
   Option.bind (Qtm (w_0.1,()) s_1) fun r6=>
   some ((r6.1.1,()),((r6.2.1.1,()),()))
  else
   some ((IV.mk 122 [.int .i64 1],()),((w_0.1,()),()))
 else
 bif s_1.1==8 then
  bif s_1.1==8 then
   Option.bind (Qtm (w_0.1,()) s_1) fun r7=>
   some ((r7.1.1,()),((r7.2.1.1,()),()))
  else
   some ((IV.mk 122 [.int .i64 1],()),((w_0.1,()),()))
 else
 bif s_1.1==9 then
  Option.bind (Qtm (w_0.1,()) s_1) fun r8=>
  some ((r8.1.1,()),((r8.2.1.1,()),()))
 else
  some ((IV.mk 122 [.int .i64 1],()),((w_0.1,()),()))
noncomputable def Zcz (w_0:Zmw × Unit) (s_1:Int × Int × Int × Int × ByteArray):Option ((IV × Unit) × (Zka × Unit)):=
 bif s_1.1==1 then
  Option.bind (Z9m (w_0.1,()) s_1.2.1 (h4 s_1)) fun r1=>
  some ((r1.1.1,()),((r1.2.1.1,()),()))
 else
 bif s_1.1==2 then
  bif s_1.1==2 then
   Option.bind (Z07 (w_0.1,()) s_1.2.1 (s_1.1==2)) fun r2=>
   some ((r2.1.1,()),((r2.2.1.1,()),()))
  else
   Z55 s_1 w_0
 else
 bif s_1.1==3 then
  Option.bind (Z07 (w_0.1,()) s_1.2.1 (s_1.1==2)) fun r9=>
  some ((r9.1.1,()),((r9.2.1.1,()),()))
 else
  Z55 s_1 w_0
noncomputable def Z8q:Ent:=⟨[.box 117 Xao [true,false,true,false,false,false],.val t40],[⟨t20,[false],none⟩],fun x=>Zcz x.1 x.2.1⟩
theorem Zjx:Q4j tab.ty Tryz.prog 54 Z8q:=
 Qjd (Γ:=[(93,Z3o),(94,Z6f),(95,Z7j),(96,Z4d),(97,Z48),(98,Z8g)]) (fi:={ keep:=[],vty:=[],vals:=[],live:=[(0,[0,3]),(1,[0,3,6]),(2,[0,3,6,7]),(3,[0,4]),(4,[0,3,6,15]),(5,[0,3,6,15]),(6,[0,4]),(7,[0,3,6,25]),(8,[0,4]),(9,[0,3,6,31]),(10,[0,4]),(11,[0,3,6,37]),(12,[0,4]),(13,[0,3,6,43]),(14,[0,3,6,43]),(15,[0,3,43]),(16,[0,4]),(17,[0,4])] }) (n:=1) follows (Qjq Zh8 (Qjq Zkb (Qjq Zk5 (Qjq Ziw (Qjq Zgb (Qjq Zkm Qju)))))) Qjz Tryz.func54 (by kernel_rfl) (by kernel_rfl) fun x r h=>Eq.trans (by kernel_rfl) h
noncomputable def Ql8 (w_0:Qsj × Qq2 × (List ByteArray) × Int × Qp3 × List Qkr) (s_1:Int × Int × Int × Int × ByteArray):Option ((Zmw × Int × Unit) × Unit):=
 Option.bind (X5o w_0) fun r1=>
 Option.bind (Zcz (r1.1.1,()) s_1) fun r2=>
 bif IV.is r2.1.1 122 then
  some ((r2.2.1.1,(IV.val (bif IV.is r2.1.1 122 then r2.1.1 else IV.nil) Xdg:Int × Unit).1,()),())
 else
  some ((r2.2.1.1,0,()),())
noncomputable def X5w:Ent:=⟨[.val t30,.val t40],[⟨t30,[true,false,true,false,false,false],none⟩,⟨t2,[false],none⟩],fun x=>Ql8 x.1 x.2.1⟩
theorem Zwg:Q4j tab.ty Tryz.prog 29 X5w:=
 Qjd (Γ:=[(53,Zy9),(54,Z8q)]) (fi:={ keep:=[],vty:=[],vals:=[],live:=[(0,[2,3,4]),(1,[3,4,6]),(2,[4,6,7]),(3,[4,6,8,9]),(4,[4,6,8,22]),(5,[4,5]),(6,[4,5])] }) (n:=1) follows (Qjq X3p (Qjq Zjx Qju)) Qjz Tryz.func29 (by kernel_rfl) (by kernel_rfl) fun x r h=>Eq.trans (by kernel_rfl) h
noncomputable def Zvj:Ctx:=[(29,X5w)]
def Zs1:Fi:={ keep:=[],vty:=[],vals:=[],live:=[(0,[1,2,28,29,30,31]),(1,[1,2,7,8,9,28,29,30,31]),(2,[1,2,7,8,9,10,28,29,30,31]),(3,[1,2,3,4,7,8,9,28,29,30,31]),(4,[1,2,3,7,8,9,15,28,29,30,31]),(5,[1,2,7,8,9,28,29,30,31]),(6,[1,2,7,8,9,28,29,30,31]),(7,[1,2,5,28,29,30,31]),(8,[1,2,5,28,29,30,31,32]),(9,[1,2,5,28,29,30,31]),(10,[1,2,5,28,29,30,31]),(11,[2])] }
noncomputable def X89 (x:PDs [.val t30]):Option (RDs [⟨t30,[false,false,false,false,false,false],none⟩] × ODs [.val t30]):=Qdf Zvj tab Zs1 1099511627776 [.val t30] [⟨t30,[false,false,false,false,false,false],none⟩] Tryz.f11 x
noncomputable def Xae (x0:Qsj × Qq2 × (List ByteArray) × Int × Qp3 × List Qkr):Option (Zka × Unit):=X89 (x0,())
noncomputable def Zks:Ent:=⟨[.val t30],[⟨t30,[false,false,false,false,false,false],none⟩],fun x=>Xae x.1⟩
theorem Zlb:Q4j tab.ty Tryz.prog 11 Zks:=by
  refine Qjd (Γ:=Zvj) (fi:=Zs1) (n:=1099511627776) follows (Qjq Zwg Qju) Qjz Tryz.func11 (by kernel_rfl) (by kernel_rfl) (fun x r h=>?_)
  obtain ⟨x0,_u⟩:=x
  exact h
abbrev Z99:Type:=((List Int) × (List Bool) × Unit) × Unit
noncomputable def Zxk:Ctx:=[]
def Zuc:Fi:={ keep:=[],vty:=[(2,44),(3,45)],vals:=[],live:=[(0,[1,2,3]),(1,[2,3,8,9,10]),(2,[2,3,8,9,10,11]),(3,[2,3,5,8,9,10]),(4,[2,3,5,6,8,9,10]),(5,[2,3,5,6,8,9,10,15]),(6,[2,3,5,6,8,9,10]),(7,[2,3,8,9,10]),(8,[2,3,8,9,10]),(9,[2,3])] }
abbrev Zu4:Type:=Qsj→Int→Int→List Int→List Bool→Option Z99
noncomputable def X2m (L1:Zu4) (v1:List Z3k) (v2 v3:Int) (v4:List Int) (v5:List Bool):Option Z99:=
 bif decide (v3<v2) then
  bif decide (0≤v3)&&decide (v3<(v1.length:Int)) then
   bif (List.getD v1 v3.toNat Qk4).1 then
    bif Nat.ble (v4.length+1) 1073741824 then
     bif Nat.ble (v5.length+1) 1073741824 then
      L1 v1 v2 (IntKind.wrap .i64 (v3+1)) (v4++[((((((((List.getD v1 v3.toNat Qk4).2).2).2).1).2).2).2).1]) (v5++[(List.getD v1 v3.toNat Qk4).1])
     else none
    else none
   else
   bif Nat.ble (v4.length+1) 1073741824 then
    bif Nat.ble (v5.length+1) 1073741824 then
     L1 v1 v2 (IntKind.wrap .i64 (v3+1)) (v4++[0]) (v5++[(List.getD v1 v3.toNat Qk4).1])
    else none
   else none
  else none
 else
  some ((v4,v5,()),())
noncomputable def X66 (L1:Zu4) (w_0:Qsj × Qq2 × (List ByteArray) × Int × Qp3 × List Qkr):Option Z99:=
 L1 w_0.1 (w_0.1.length:Int) 0 [] []
noncomputable def X3m (n:Nat):Nat→Zu4:=iter (fun _ _ _ _ _=>none) fun L=>X2m L
noncomputable def Zju (n m:Nat) (v1:List Z3k) (v2 v3:Int) (v4:List Int) (v5:List Bool):Option Z99:=
 Qjl Zxk tab (fiB [.val t30] Zuc) n [.val t30] [⟨t44,[true],none⟩,⟨t45,[true],none⟩] Tryz.f27 [1,0,1,0] [] [2,3,8,9,10] m
 ⟨[(2,V1 (.ref (888888,2))),(3,V1 (.ref (888888,3))),(8,Vp t23 v1),(9,Vp t2 v2),(10,Vp t2 v3)],[((888888,2),Ob.row 3 t2 v4),((888888,3),Ob.row 4 t4 v5)]⟩
theorem X4x (n m:Nat):Zju n (m+1)=X2m (Zju n m):=by kernel_rfl
theorem Zz8 (n:Nat):∀ m,Zju n m=X3m n m
 | 0=>rfl
 | m+1=>by rw [X4x n m,Zz8 n m];rfl
noncomputable def X5y (n:Nat) (w_0:Qsj × Qq2 × (List ByteArray) × Int × Qp3 × List Qkr):Option Z99:=X66 (X3m n n) w_0
noncomputable def Xai (w_0:Qsj × Qq2 × (List ByteArray) × Int × Qp3 × List Qkr):Option Z99:=X5y 1099511627776 w_0
noncomputable def X6e:Ent:=⟨[.val t30],[⟨t44,[true],none⟩,⟨t45,[true],none⟩],fun x=>Xai x.1⟩
theorem Xa4 (n:Nat) (w_0:Qsj × Qq2 × (List ByteArray) × Int × Qp3 × List Qkr):Qdf Zxk tab Zuc n [.val t30] [⟨t44,[true],none⟩,⟨t45,[true],none⟩] Tryz.f27 (w_0,())=X5y n w_0:=Eq.trans (b:=X66 (Zju n n) w_0) (by kernel_rfl) (by rw [Zz8 n n];rfl)
theorem X7s:Q4j tab.ty Tryz.prog 27 X6e:=
 Qjd (Γ:=Zxk) (fi:=Zuc) (n:=1099511627776) follows Qju Qjz Tryz.func27 (by kernel_rfl) (by kernel_rfl) fun x r h=>(Xa4 1099511627776 x.1).trans h
noncomputable def Xbj (up_0:List Int) (id_1:Int):Option ((Int × Unit) × Unit):=
 bif decide (id_1<1) then
  some ((0,()),())
 else
 bif decide (id_1>(up_0.length:Int)) then
  some ((0,()),())
 else
 bif decide (0≤IntKind.wrap .i64 (id_1 - 1))&&decide (IntKind.wrap .i64 (id_1 - 1)<(up_0.length:Int)) then
  some ((List.getD up_0 ((IntKind.wrap .i64 (id_1 - 1)).toNat) 0,()),())
 else none
noncomputable def X3v:Ent:=⟨[.val t44,.val t2],[⟨t2,[false],none⟩],fun x=>Xbj x.1 x.2.1⟩
theorem X5b:Q4j tab.ty Tryz.prog 81 X3v:=
 Qjd (Γ:=[]) (fi:={ keep:=[],vty:=[],vals:=[],live:=[(0,[0,1,8,9,10,11]),(1,[0,1,12]),(2,[4]),(3,[4])] }) (n:=1) follows Qju Qjz Tryz.func81 (by kernel_rfl) (by kernel_rfl) fun x r h=>Eq.trans (by kernel_rfl) h
noncomputable def Zw4:Ctx:=[(81,X3v)]
def Zsc:Fi:={ keep:=[],vty:=[(7,44),(15,45),(20,45),(29,44)],vals:=[],live:=[(0,[0,1,2,14,15,16,17,20,21,22,23,24,25]),(1,[0,1,2,8,9,14,15,16,17,20,21,22,23,24,25]),(2,[0,1,2,8,9,10,14,15,16,17,20,21,22,23,24,25]),(3,[0,1,2,8,9,14,15,16,17,20,21,22,23,24,25,26]),(4,[6]),(5,[0,1,2,8,9,14,15,16,17,20,21,22,23,24,25,28]),(6,[6]),(7,[0,1,2,8,9,14,15,16,17,20,21,22,23,24,25]),(8,[0,1,2,8,9,14,15,16,17,20,21,22,23,24,25]),(9,[6])] }
noncomputable def X70 (x:PDs [.val t44,.val t45,.val t2]):Option (RDs [⟨t4,[false],none⟩] × ODs [.val t44,.val t45,.val t2]):=Qdf Zw4 tab Zsc 1099511627776 [.val t44,.val t45,.val t2] [⟨t4,[false],none⟩] Tryz.f48 x
noncomputable def Xa8 (x0:List Int) (x1:List Bool) (x2:Int):Option ((Bool × Unit) × Unit):=X70 (x0,x1,x2,())
noncomputable def Zvs:Ent:=⟨[.val t44,.val t45,.val t2],[⟨t4,[false],none⟩],fun x=>Xa8 x.1 x.2.1 x.2.2.1⟩
theorem X0e:Q4j tab.ty Tryz.prog 48 Zvs:=by
  refine Qjd (Γ:=Zw4) (fi:=Zsc) (n:=1099511627776) follows (Qjq X5b Qju) Qjz Tryz.func48 (by kernel_rfl) (by kernel_rfl) (fun x r h=>?_)
  obtain ⟨x0,x1,x2,_u⟩:=x
  exact h
noncomputable def Zwr:Ctx:=[(48,Zvs)]
def Zsr:Fi:={ keep:=[],vty:=[(7,44),(9,45),(13,44),(18,45),(24,44),(29,45),(38,44),(39,45)],vals:=[],live:=[(0,[0,1,13,14,15,18,19,20,21,24,25,26,27,38,39,40,41,42,43]),(1,[0,1,28,38,39,40,41,42,43]),(2,[4]),(3,[0,1,29,30,31,38,39,40,41,42,43]),(4,[0,1,29,30,31,32,38,39,40,41,42,43]),(5,[0,1,5,6,29,30,31,38,39,40,41,42,43]),(6,[0,1,29,30,31,38,39,40,41,42,43,44]),(7,[4]),(8,[0,1,29,30,31,38,39,40,41,42,43]),(9,[4])] }
noncomputable def X7f (x:PDs [.val t44,.val t45]):Option (RDs [⟨t4,[false],none⟩] × ODs [.val t44,.val t45]):=Qdf Zwr tab Zsr 1099511627776 [.val t44,.val t45] [⟨t4,[false],none⟩] Tryz.f26 x
noncomputable def X39 (x0:List Int) (x1:List Bool):Option ((Bool × Unit) × Unit):=X7f (x0,x1,())
noncomputable def Zwb:Ent:=⟨[.val t44,.val t45],[⟨t4,[false],none⟩],fun x=>X39 x.1 x.2.1⟩
theorem X0j:Q4j tab.ty Tryz.prog 26 Zwb:=by
  refine Qjd (Γ:=Zwr) (fi:=Zsr) (n:=1099511627776) follows (Qjq X0e Qju) Qjz Tryz.func26 (by kernel_rfl) (by kernel_rfl) (fun x r h=>?_)
  obtain ⟨x0,x1,_u⟩:=x
  exact h
noncomputable def Xb7 (w_0:Qsj × Qq2 × (List ByteArray) × Int × Qp3 × List Qkr):Option ((Bool × Unit) × Unit):=
 Option.bind (Xai w_0) fun r1=>
 Option.bind (X39 r1.1.1 r1.1.2.1) fun r2=>
 some ((r2.1.1,()),())
noncomputable def Qyb:Ent:=⟨[.val t30],[⟨t4,[false],none⟩],fun x=>Xb7 x.1⟩
theorem Qub:Q4j tab.ty Tryz.prog 9 Qyb:=
 Qjd (Γ:=[(26,Zwb),(27,X6e)]) (fi:={ keep:=[],vty:=[],vals:=[],live:=[(0,[1]),(1,[2])] }) (n:=1) follows (Qjq X0j (Qjq X7s Qju)) Qjz Tryz.func9 (by kernel_rfl) (by kernel_rfl) fun x r h=>Eq.trans (by kernel_rfl) h
noncomputable def Xa7 (w_0:Qsj × Qq2 × (List ByteArray) × Int × Qp3 × List Qkr) (n_1:Bool × Int × ByteArray × Qli × Qnc × Int):Option ((Bool × Unit) × Unit):=
 bif decide (0≤IntKind.wrap .i64 ((g3 (g3 n_1)) - 1))&&decide (IntKind.wrap .i64 ((g3 (g3 n_1)) - 1)<(w_0.1.length:Int)) then
  Option.bind (Z9g (((((((((((((((((List.getD w_0.1 ((IntKind.wrap .i64 ((g3 (g3 n_1)) - 1)).toNat) Qk4).2).2).2).1).2).2).2).2).2).2).2).2).2).2).2).2) (g3 n_1).1) fun r1=>
  Option.bind (X0y ((((((((((((List.getD w_0.1 ((IntKind.wrap .i64 ((g3 (g3 n_1)) - 1)).toNat) Qk4).2).2).2).1).2).2).2).2).2).2).1) (g3 n_1).1) fun r2=>
  bif r1.1.2.1 then
   bif r1.1.1.2.1==(g3 n_1).2.1 then
    bif r2.1.2.1 then
     Option.bind (Z65 r2.1.1 (g6 (g3 n_1))) fun r3=>
     bif r3.1.1 then
      Option.bind (Zhn (g3 n_1)) fun r4=>
      some ((r4.1.1,()),())
     else
      some ((false,()),())
    else
     some ((false,()),())
   else
    some ((false,()),())
  else
   some ((false,()),())
 else none
noncomputable def Zv8:Ent:=⟨[.val t30,.val t58],[⟨t4,[false],none⟩],fun x=>Xa7 x.1 x.2.1⟩
theorem X0i:Q4j tab.ty Tryz.prog 28 Zv8:=
 Qjd (Γ:=[(49,Z2l),(50,Zqd),(51,Z05),(52,Z9l)]) (fi:={ keep:=[],vty:=[],vals:=[],live:=[(0,[2,3,40,41,42,43,44,45,48,51,52,53,54,55,58,59,60]),(1,[3,5,40,41,42,43,44,45,48,51,52,53,54,55,58,59,60]),(2,[3,5,6,7,40,41,42,43,44,45,48,51,52,53,54,55,58,59,60]),(3,[3,6,7,8,9,40,41,42,43,44,45,48,51,52,53,54,55,58,59,60]),(4,[4])] }) (n:=1) follows (Qjq Qw7 (Qjq Zjz (Qjq Z4u (Qjq Z3g Qju)))) Qjz Tryz.func28 (by kernel_rfl) (by kernel_rfl) fun x r h=>Eq.trans (by kernel_rfl) h
noncomputable def Zwj:Ctx:=[(9,Qyb),(28,Zv8)]
def Zs8:Fi:={ keep:=[],vty:=[],vals:=[],live:=[(0,[1,21,22,25,26,27,28,42,43,44,45,46,47,50,51,52,53,54,55,56,57,58,61,62,63,64,65,66,67,68,69,70,71,72]),(1,[1,9,21,22,25,26,27,28,42,43,44,45,46,47,50,51,52,53,54,55,56,57,58,61,62,63,64,65,66,67,68,69,70,71,72]),(2,[2]),(3,[1,11,12,13,21,22,25,26,27,28,42,43,44,45,46,47,50,51,52,53,54,55,56,57,58,61,62,63,64,65,66,67,68,69,70,71,72]),(4,[1,11,12,13,14,21,22,25,26,27,28,42,43,44,45,46,47,50,51,52,53,54,55,56,57,58,61,62,63,64,65,66,67,68,69,70,71,72]),(5,[1,3,4,11,12,13,21,22,25,26,27,28,42,43,44,45,46,47,50,51,52,53,54,55,56,57,58,61,62,63,64,65,66,67,68,69,70,71,72]),(6,[1,3,4,11,12,13,21,22,25,26,27,28,29,42,43,44,45,46,47,50,51,52,53,54,55,56,57,58,61,62,63,64,65,66,67,68,69,70,71,72]),(7,[2]),(8,[1,3,11,12,13,21,22,25,26,27,28,32,33,34,42,43,44,45,46,47,50,51,52,53,54,55,56,57,58,61,62,63,64,65,66,67,68,69,70,71,72]),(9,[1,3,11,12,13,21,22,25,26,27,28,32,33,34,35,42,43,44,45,46,47,50,51,52,53,54,55,56,57,58,61,62,63,64,65,66,67,68,69,70,71,72]),(10,[1,3,6,11,12,13,21,22,25,26,27,28,32,33,34,42,43,44,45,46,47,50,51,52,53,54,55,56,57,58,61,62,63,64,65,66,67,68,69,70,71,72]),(11,[1,3,11,12,13,21,22,25,26,27,28,32,33,34,42,43,44,45,46,47,50,51,52,53,54,55,56,57,58,61,62,63,64,65,66,67,68,69,70,71,72,73]),(12,[2]),(13,[1,3,11,12,13,21,22,25,26,27,28,32,33,34,42,43,44,45,46,47,50,51,52,53,54,55,56,57,58,61,62,63,64,65,66,67,68,69,70,71,72]),(14,[1,11,12,13,21,22,25,26,27,28,42,43,44,45,46,47,50,51,52,53,54,55,56,57,58,61,62,63,64,65,66,67,68,69,70,71,72]),(15,[2])] }
noncomputable def X7q (x:PDs [.val t30]):Option (RDs [⟨t4,[false],none⟩] × ODs [.val t30]):=Qdf Zwj tab Zs8 1099511627776 [.val t30] [⟨t4,[false],none⟩] Tryz.f10 x
noncomputable def Qon (x0:Qsj × Qq2 × (List ByteArray) × Int × Qp3 × List Qkr):Option ((Bool × Unit) × Unit):=X7q (x0,())
noncomputable def Zkd:Ent:=⟨[.val t30],[⟨t4,[false],none⟩],fun x=>Qon x.1⟩
theorem Z5w:Q4j tab.ty Tryz.prog 10 Zkd:=by
  refine Qjd (Γ:=Zwj) (fi:=Zs8) (n:=1099511627776) follows (Qjq Qub (Qjq X0i Qju)) Qjz Tryz.func10 (by kernel_rfl) (by kernel_rfl) (fun x r h=>?_)
  obtain ⟨x0,_u⟩:=x
  exact h
noncomputable def Zv4:Ctx:=[]
def Zsw:Fi:={ keep:=[],vty:=[],vals:=[],live:=[(0,[]),(1,[0])] }
noncomputable def X6z (x:PDs []):Option (RDs [⟨t2,[false],none⟩] × ODs []):=Qdf Zv4 tab Zsw 1099511627776 [] [⟨t2,[false],none⟩] Tryz.f14 x
noncomputable def Xa5  : Option ((Int × Unit) × Unit):=X6z (())
noncomputable def Zku:Ent:=⟨[],[⟨t2,[false],none⟩],fun x=>Xa5⟩
theorem Zlv:Q4j tab.ty Tryz.prog 14 Zku:=by
  refine Qjd (Γ:=Zv4) (fi:=Zsw) (n:=1099511627776) follows Qju Qjz Tryz.func14 (by kernel_rfl) (by kernel_rfl) (fun x r h=>?_)
  exact h
noncomputable def Zb6:Ctx:=[(5,Z2q),(6,Qqo),(7,Qs1),(8,Z5v),(9,Qyb),(10,Zkd),(11,Zks),(14,Zku)]
def Z8a:Fi:={ keep:=[],vty:=[],vals:=[],live:=[(0,[23,24,27,28,29,32,33,34,35,38,39,40,41,42,43,44,47,48]),(1,[1,23,24,27,28,29,32,33,34,35,38,39,40,41,42,43,44,47,48]),(2,[1,3,23,24,27,28,29,32,33,34,35,38,39,40,41,42,43,44,47,48]),(3,[1,3,5,23,24,27,28,29,32,33,34,35,38,39,40,41,42,43,44,47,48]),(4,[0])] }
noncomputable def Zsz (x:PDs []):Option (RDs [⟨t4,[false],none⟩] × ODs []):=Qdf Zb6 tab Z8a 1099511627776 [] [⟨t4,[false],none⟩] Tryz.f4 x
noncomputable def Zxy  : Option ((Bool × Unit) × Unit):=Zsz (())
noncomputable def Zce:Ent:=⟨[],[⟨t4,[false],none⟩],fun x=>Zxy⟩
theorem Znc:Q4j tab.ty Tryz.prog 4 Zce:=by
  refine Qjd (Γ:=Zb6) (fi:=Z8a) (n:=1099511627776) follows (Qjq Qw4 (Qjq Qqg (Qjq Qp6 (Qjq Qxf (Qjq Qub (Qjq Z5w (Qjq Zlb (Qjq Zlv Qju)))))))) Qjz Tryz.func4 (by kernel_rfl) (by kernel_rfl) (fun x r h=>?_)
  exact h
abbrev Qpd:Type:=((List Int) × (List Bool) × Unit) × Unit
noncomputable def Z64:Ctx:=[]
def Z2z:Fi:={ keep:=[],vty:=[(4,44),(5,45)],vals:=[],live:=[(0,[1]),(1,[1,4]),(2,[1,4,5]),(3,[1,4,5,6]),(4,[1,4,5,6,12]),(5,[1,4,5,6]),(6,[1,4,5,6,7]),(7,[1,4,5,6,7]),(8,[1,4,5,6,7,26]),(9,[1,4,5,6]),(10,[1,4,5,6]),(11,[2,3])] }
abbrev Z32:Type:=Int→Qsj→Qq2→List ByteArray→Int→List (List Int)→X4e→List Int→List Bool→Option Qpd
noncomputable def Zit (L1:Z32) (v1:Int) (v2:List Z3k) (v3:List Z8z) (v4:List ByteArray) (v5:Int) (v6:List (List Int)) (v7:List Qkr) (v8:List Int) (v9:List Bool):Option Qpd:=
 bif decide (v1<(v2.length:Int)) then
  bif decide (0≤v1)&&decide (v1<(v2.length:Int)) then
   bif Nat.ble (v9.length+1) 1073741824 then
    bif (List.getD v2 v1.toNat Qk4).1 then
     bif Nat.ble (v8.length+1) 1073741824 then
      L1 (IntKind.wrap .i64 (v1+1)) v2 v3 v4 v5 v6 v7 (v8++[((((((((List.getD v2 v1.toNat Qk4).2).2).2).1).2).2).2).1]) (v9++[(List.getD v2 v1.toNat Qk4).1])
     else none
    else
    bif Nat.ble (v8.length+1) 1073741824 then
     L1 (IntKind.wrap .i64 (v1+1)) v2 v3 v4 v5 v6 v7 (v8++[0]) (v9++[(List.getD v2 v1.toNat Qk4).1])
    else none
   else none
  else none
 else
  some ((v8,v9,()),())
noncomputable def Zld (L1:Z32) (w_0:Qsj × Qq2 × (List ByteArray) × Int × Qp3 × List Qkr):Option Qpd:=
 L1 0 w_0.1 w_0.2.1 w_0.2.2.1 (g3 w_0) (g4 w_0) (h5 w_0) [] []
noncomputable def Zj7 (n:Nat):Nat→Z32:=iter (fun _ _ _ _ _ _ _ _ _=>none) fun L=>Zit L
noncomputable def Quq (n m:Nat) (v1:Int) (v2:List Z3k) (v3:List Z8z) (v4:List ByteArray) (v5:Int) (v6:List (List Int)) (v7:List Qkr) (v8:List Int) (v9:List Bool):Option Qpd:=
 Qjl Z64 tab (fiB [.val t30] Z2z) n [.val t30] [⟨t44,[true],none⟩,⟨t45,[true],none⟩] Tryz.f12 [1,1,1,0,1,0] [] [1,4,5,6] m
 ⟨[(1,V1 (.ptr (1,0) 0)),(4,V1 (.ref (888888,4))),(5,V1 (.ref (888888,5))),(6,Vp t2 v1)],[((1,0),Ob.box 31 [LV.pure t23 v2,LV.pure t24 v3,LV.pure t25 v4,LV.pure t2 v5,LV.pure t26 v6,LV.pure t27 v7]),((888888,4),Ob.row 3 t2 v8),((888888,5),Ob.row 4 t4 v9)]⟩
theorem Zro (n m:Nat):Quq n (m+1)=Zit (Quq n m):=by kernel_rfl
theorem Zeq (n:Nat):∀ m,Quq n m=Zj7 n m
 | 0=>rfl
 | m+1=>by rw [Zro n m,Zeq n m];rfl
noncomputable def Zlw (n:Nat) (w_0:Qsj × Qq2 × (List ByteArray) × Int × Qp3 × List Qkr):Option Qpd:=Zld (Zj7 n n) w_0
noncomputable def X4j (w_0:Qsj × Qq2 × (List ByteArray) × Int × Qp3 × List Qkr):Option Qpd:=Zlw 1099511627776 w_0
noncomputable def Z66:Ent:=⟨[.val t30],[⟨t44,[true],none⟩,⟨t45,[true],none⟩],fun x=>X4j x.1⟩
theorem Zx9 (n:Nat) (w_0:Qsj × Qq2 × (List ByteArray) × Int × Qp3 × List Qkr):Qdf Z64 tab Z2z n [.val t30] [⟨t44,[true],none⟩,⟨t45,[true],none⟩] Tryz.f12 (w_0,())=Zlw n w_0:=Eq.trans (b:=Zld (Quq n n) w_0) (by kernel_rfl) (by rw [Zeq n n];rfl)
theorem Zai:Q4j tab.ty Tryz.prog 12 Z66:=
 Qjd (Γ:=Z64) (fi:=Z2z) (n:=1099511627776) follows Qju Qjz Tryz.func12 (by kernel_rfl) (by kernel_rfl) fun x r h=>(Zx9 1099511627776 x.1).trans h
abbrev Qn8:Type:=(Int × Unit) × Unit
noncomputable def Qz3:Ctx:=[]
def Qx7:Fi:={ keep:=[],vty:=[],vals:=[],live:=[(0,[0,1,17,18,19,20]),(1,[0,5,17,18,19,20]),(2,[0,5,6,17,18,19,20]),(3,[0,5,6,11,17,18,19,20]),(4,[0,5,6,17,18,19,20]),(5,[0,5,6,17,18,19,20,21]),(6,[4]),(7,[0,5,6,17,18,19,20,23]),(8,[4]),(9,[0,5,6,17,18,19,20]),(10,[4])] }
abbrev Qxd:Type:=List Int→Int→Int→Option Qn8
noncomputable def Zbs (L1:Qxd) (v1:List Int) (v2 v3:Int):Option Qn8:=
 bif decide (v3≤(v1.length:Int)) then
  bif decide (v2<1) then
   some (((-1),()),())
  else
  bif decide (v2>(v1.length:Int)) then
   some (((-1),()),())
  else
  bif v2==1 then
   some ((v3,()),())
  else
  bif decide (0≤IntKind.wrap .i64 (v2 - 1))&&decide (IntKind.wrap .i64 (v2 - 1)<(v1.length:Int)) then
   L1 v1 (List.getD v1 ((IntKind.wrap .i64 (v2 - 1)).toNat) 0) (IntKind.wrap .i64 (v3+1))
  else none
 else
  some (((-1),()),())
noncomputable def Ze1 (L1:Qxd) (up_0:List Int) (id_1:Int):Option Qn8:=
 L1 up_0 id_1 0
noncomputable def Z9t (n:Nat):Nat→Qxd:=iter (fun _ _ _=>none) fun L=>Zbs L
noncomputable def Qri (n m:Nat) (v1:List Int) (v2 v3:Int):Option Qn8:=
 Qjl Qz3 tab (fiB [.val t44,.val t2] Qx7) n [.val t44,.val t2] [⟨t2,[false],none⟩] Tryz.f30 [1,1,0,1,0] [] [0,5,6] m
 ⟨[(0,Vp t44 v1),(5,Vp t2 v2),(6,Vp t2 v3)],[]⟩
theorem Zmc (n m:Nat):Qri n (m+1)=Zbs (Qri n m):=by kernel_rfl
theorem Z6p (n:Nat):∀ m,Qri n m=Z9t n m
 | 0=>rfl
 | m+1=>by rw [Zmc n m,Z6p n m];rfl
noncomputable def Zdd (n:Nat) (up_0:List Int) (id_1:Int):Option Qn8:=Ze1 (Z9t n n) up_0 id_1
noncomputable def Zl1 (up_0:List Int) (id_1:Int):Option Qn8:=Zdd 1099511627776 up_0 id_1
noncomputable def Zda:Ent:=⟨[.val t44,.val t2],[⟨t2,[false],none⟩],fun x=>Zl1 x.1 x.2.1⟩
theorem Zu6 (n:Nat) (up_0:List Int) (id_1:Int):Qdf Qz3 tab Qx7 n [.val t44,.val t2] [⟨t2,[false],none⟩] Tryz.f30 (up_0,id_1,())=Zdd n up_0 id_1:=Eq.trans (b:=Ze1 (Qri n n) up_0 id_1) (by kernel_rfl) (by rw [Z6p n n];rfl)
theorem Zo7:Q4j tab.ty Tryz.prog 30 Zda:=
 Qjd (Γ:=Qz3) (fi:=Qx7) (n:=1099511627776) follows Qju Qjz Tryz.func30 (by kernel_rfl) (by kernel_rfl) fun x r h=>(Zu6 1099511627776 x.1 x.2.1).trans h
abbrev Qm7:Type:=(Bool × Unit) × Unit
noncomputable def Qvm:Ctx:=[(30,Zda)]
def Qu3:Fi:={ keep:=[],vty:=[],vals:=[],live:=[(0,[0,1,12,13,14,17,18,19,20,23,24,25,26,45,46,47,48,49,50,51,52,53]),(1,[0,1,27,45,46,47,48,49,50,51,52,53]),(2,[4]),(3,[0,1,5,45,46,47,48,49,50,51,52,53]),(4,[0,1,5,31,45,46,47,48,49,50,51,52,53]),(5,[0,1,5,45,46,47,48,49,50,51,52,53]),(6,[0,1,5,38,45,46,47,48,49,50,51,52,53]),(7,[0,1,5,45,46,47,48,49,50,51,52,53,54]),(8,[4]),(9,[4])] }
abbrev Qua:Type:=List Int→List Bool→Int→Option Qm7
noncomputable def Z44 (L1:Qua) (v1:List Int) (v2:List Bool) (v3:Int):Option Qm7:=
 bif decide (v3<(v1.length:Int)) then
  bif decide (0≤v3)&&decide (v3<(v2.length:Int)) then
   bif !(List.getD v2 v3.toNat false) then
    L1 v1 v2 (IntKind.wrap .i64 (v3+1))
   else
    Option.bind (Zl1 v1 (IntKind.wrap .i64 (v3+1))) fun r4=>
    bif decide (r4.1.1<0) then
     some ((false,()),())
    else
    bif decide (0≤v3)&&decide (v3<(v1.length:Int)) then
     bif decide (0≤IntKind.wrap .i64 ((List.getD v1 v3.toNat 0) - 1))&&decide (IntKind.wrap .i64 ((List.getD v1 v3.toNat 0) - 1)<(v2.length:Int)) then
      bif !(List.getD v2 ((IntKind.wrap .i64 ((List.getD v1 v3.toNat 0) - 1)).toNat) false) then
       some ((false,()),())
      else
       L1 v1 v2 (IntKind.wrap .i64 (v3+1))
     else none
    else none
  else none
 else
  some ((true,()),())
noncomputable def Z84 (L1:Qua) (up_0:List Int) (on_1:List Bool):Option Qm7:=
 bif (up_0.length:Int) != (on_1.length:Int) then
  some ((false,()),())
 else
 bif decide ((up_0.length:Int)<1) then
  some ((false,()),())
 else
 bif decide (0<(on_1.length:Int)) then
  bif !(List.getD on_1 0 false) then
   some ((false,()),())
  else
  bif decide (0<(up_0.length:Int)) then
   bif (List.getD up_0 0 0) != 0 then
    some ((false,()),())
   else
    L1 up_0 on_1 1
  else none
 else none
noncomputable def Z4f (n:Nat):Nat→Qua:=iter (fun _ _ _=>none) fun L=>Z44 L
noncomputable def Qq1 (n m:Nat) (v1:List Int) (v2:List Bool) (v3:Int):Option Qm7:=
 Qjl Qvm tab (fiB [.val t44,.val t45] Qu3) n [.val t44,.val t45] [⟨t4,[false],none⟩] Tryz.f13 [1,1,0,1,0] [] [0,1,5] m
 ⟨[(0,Vp t44 v1),(1,Vp t45 v2),(5,Vp t2 v3)],[]⟩
theorem Zgk (n m:Nat):Qq1 n (m+1)=Z44 (Qq1 n m):=by kernel_rfl
theorem Z1q (n:Nat):∀ m,Qq1 n m=Z4f n m
 | 0=>rfl
 | m+1=>by rw [Zgk n m,Z1q n m];rfl
noncomputable def Z7a (n:Nat) (up_0:List Int) (on_1:List Bool):Option Qm7:=Z84 (Z4f n n) up_0 on_1
noncomputable def Zur (up_0:List Int) (on_1:List Bool):Option Qm7:=Z7a 1099511627776 up_0 on_1
noncomputable def Qvp:Ent:=⟨[.val t44,.val t45],[⟨t4,[false],none⟩],fun x=>Zur x.1 x.2.1⟩
theorem Zq1 (n:Nat) (up_0:List Int) (on_1:List Bool):Qdf Qvm tab Qu3 n [.val t44,.val t45] [⟨t4,[false],none⟩] Tryz.f13 (up_0,on_1,())=Z7a n up_0 on_1:=Eq.trans (b:=Z84 (Qq1 n n) up_0 on_1) (by kernel_rfl) (by rw [Z1q n n];rfl)
theorem Z0e:Q4j tab.ty Tryz.prog 13 Qvp:=
 Qjd (Γ:=Qvm) (fi:=Qu3) (n:=1099511627776) follows (Qjq Zo7 Qju) Qjz Tryz.func13 (by kernel_rfl) (by kernel_rfl) fun x r h=>(Zq1 1099511627776 x.1 x.2.1).trans h
noncomputable def Qxv:Ctx:=[(4,Zce),(5,Z2q),(6,Qqo),(7,Qs1),(8,Z5v),(9,Qyb),(10,Zkd),(11,Zks),(12,Z66),(13,Qvp)]
def Qwd:Fi:={ keep:=[],vty:=[(5,44),(6,45),(55,44),(56,45),(60,44)],vals:=[],live:=[(0,[29,30,35,36,37,51,52,55,56,57,60,61,62,65,66,67,68]),(1,[8,29,30,35,36,37,51,52,55,56,57,60,61,62,65,66,67,68]),(2,[0]),(3,[1,29,30,35,36,37,51,52,55,56,57,60,61,62,65,66,67,68]),(4,[1,3,29,30,35,36,37,51,52,55,56,57,60,61,62,65,66,67,68]),(5,[1,3,16,29,30,35,36,37,51,52,55,56,57,60,61,62,65,66,67,68]),(6,[1,3,29,30,35,36,37,51,52,55,56,57,60,61,62,65,66,67,68]),(7,[1,3,29,30,35,36,37,51,52,55,56,57,60,61,62,65,66,67,68]),(8,[1,3,29,30,31,35,36,37,51,52,55,56,57,60,61,62,65,66,67,68]),(9,[0]),(10,[1,4,35,36,37,51,52,55,56,57,60,61,62,65,66,67,68]),(11,[1,4,35,36,37,38,51,52,55,56,57,60,61,62,65,66,67,68]),(12,[1,4,35,36,37,51,52,55,56,57,60,61,62,65,66,67,68]),(13,[1,4,35,36,37,51,52,55,56,57,60,61,62,65,66,67,68]),(14,[1,4,5,6,51,52,55,56,57,60,61,62,65,66,67,68]),(15,[0])] }
noncomputable def Zgj (x:PDs []):Option (RDs [⟨t4,[false],none⟩] × ODs []):=Qdf Qxv tab Qwd 1099511627776 [] [⟨t4,[false],none⟩] Tryz.f3 x
noncomputable def Znj  : Option ((Bool × Unit) × Unit):=Zgj (())
noncomputable def Zj5:Ent:=⟨[],[⟨t4,[false],none⟩],fun x=>Znj⟩
theorem X41:Q4j tab.ty Tryz.prog 3 Zj5:=by
  refine Qjd (Γ:=Qxv) (fi:=Qwd) (n:=1099511627776) follows (Qjq Znc (Qjq Qw4 (Qjq Qqg (Qjq Qp6 (Qjq Qxf (Qjq Qub (Qjq Z5w (Qjq Zlb (Qjq Zai (Qjq Z0e Qju)))))))))) Qjz Tryz.func3 (by kernel_rfl) (by kernel_rfl) (fun x r h=>?_)
  exact h
end Go.PE
