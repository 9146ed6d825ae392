/-
  Functions of the program, each as the evaluator answers it, and its contract.
  Conditions: none.
-/
import Derived.Test.YtaoeefmiogchdaaGreatDoorQuietFormsF2
set_option linter.unusedVariables false
set_option maxRecDepth 100000
namespace Go.PE
open Go.Proofs
noncomputable def Zzy:Ctx:=[(197,Ztu),(203,Qs3),(205,Qzv),(196,Zo2),(206,Zs3),(200,Zqj),(191,Qmj),(198,Qqv),(199,Zqb),(204,Zl3),(207,Zlx)]
def Zvl:Fi:={ keep:=[],vty:=[(1,88),(8,88),(10,44),(13,44),(14,88),(16,88),(21,88),(22,88),(29,44),(32,88),(37,88),(39,26),(40,44),(43,44),(48,88),(52,88),(53,26),(54,88),(59,88),(63,88),(73,88),(74,44),(75,88),(81,44),(83,88),(85,26),(86,44),(89,88),(95,26),(96,88),(97,88),(98,44),(106,88)],vals:=[],live:=[(0,[0,1,3,6,48,49,50,69,70,71]),(1,[0,1,3,6,48,49,50,69,70,71]),(2,[0,1,3,6,9,48,49,50,69,70,71]),(3,[0,1,3,6,9,20,48,49,50,69,70,71]),(4,[8]),(5,[0,1,3,9,10,48,49,50,69,70,71]),(6,[0,1,3,9,10,31,48,49,50,69,70,71]),(7,[8]),(8,[0,1,3,9,10,48,49,50,69,70,71]),(9,[0,1,3,9,10,51,69,70,71]),(10,[8]),(11,[0,1,3,9,10,11,69,70,71]),(12,[0,1,3,9,10,12,69,70,71]),(13,[0,1,3,9,10,12,72]),(14,[8]),(15,[0,1,3,9,12,13]),(16,[0,1,3,9,12,13]),(17,[0,1,3,12,13]),(18,[0,1,3,13]),(19,[1]),(20,[8])] }
def Zfr:Q1b:={ eT:=91,iT:=3,Tcs:=88,Tsl:=44,tD:=t26,cs:=1,ix:=9,tA:=14,tB:=15,q1:=22,q2:=23,q3:=24,q4:=25,q5:=26,ks:=[3,9],bx:=some 6,ft:=195,id6:=5 }
noncomputable def Zjq:Code:=match Tryz.f172.body with
  | some c=>c
  | none=>.skip
noncomputable def Qzs:Code:=Qjx Zjq
noncomputable def Zji:Code:=Qjx Qzs
noncomputable def Zv5:List Code:=[Qjw Zji,Qjw (Qjx Zji)]
noncomputable def Qmu:Code:=Qjx (Qjx (Zji))
noncomputable def X8o (x:PDs [.val t26,.val t88,.val t2,.val t2]):Option (RDs [⟨t88,[false],none⟩] × ODs [.val t26,.val t88,.val t2,.val t2]):=Qfo Zzy tab Zvl 1099511627776 Zfr (Qjw Zjq) Zv5 (Qji (Qjw Qmu)) (Qjx Qmu) [.val t26,.val t88,.val t2,.val t2] [⟨t88,[false],none⟩] Tryz.f172 x.1 x
noncomputable def X6h (x0:List (List Int)) (x1:List Qq3) (x2:Int) (x3:Int):Option ((Qkr × Unit) × Unit):=X8o (x0,x1,x2,x3,())
noncomputable def Zye:Ent:=⟨[.val t26,.val t88,.val t2,.val t2],[⟨t88,[false],none⟩],fun x=>X6h x.1 x.2.1 x.2.2.1 x.2.2.2.1⟩
theorem X50:Qhp Zfr (Qjv (Qjm (Qjw Qzs)) 0) (Qjv (Qjm (Qjw Qzs)) 1) (Qjv (Qjm (Qjw Qzs)) 2) (Qjv (Qjm (Qjw Qmu)) 0) (Qjv (Qjm (Qjw Qmu)) 1) (Qjv (Qjm (Qjw Qmu)) 2) (Qjv (Qjm (Qjw Qmu)) 3) (Qjv (Qjm (Qjw Qmu)) 4):=⟨⟨rfl,rfl,rfl⟩,⟨rfl,rfl,rfl⟩,⟨rfl,rfl,rfl⟩,⟨rfl,rfl,rfl⟩,⟨rfl,rfl,rfl⟩,⟨rfl,rfl,rfl⟩,⟨rfl,rfl,rfl⟩,⟨rfl,rfl,rfl⟩⟩
theorem X15:Q4j tab.ty Tryz.prog 172 Zye:=by
  refine Qiy (c:=Zfr) (pr:=[.val t88,.val t2,.val t2]) (rs:=[⟨t88,[false],none⟩]) (Γ:=Zzy) (fi:=Zvl) (n:=1099511627776) (id1:=1) (r0:=Qjw Zjq) (Bs:=Zv5) (ops1:=Qji (Qjw Qzs)) (ops6:=Qji (Qjw Qmu)) (rest:=(Qjm (Qjw Qmu)).drop 5) (tail:=Qjx Qmu) follows (Qjq Zsi (Qjq Qv6 (Qjq Zcw (Qjq Zfn (Qjq Zx8 (Qjq Zje (Qjq Qnl (Qjq Qqd (Qjq Zjm (Qjq Ztd (Qjq Zt7 Qju))))))))))) Qjz Zyk Tryz.func172 (by kernel_rfl) (by kernel_rfl) (by kernel_rfl) (by kernel_rfl) X50 (by kernel_rfl) (by kernel_rfl) (fun x r h=>?_)
  obtain ⟨x0,x1,x2,x3,_u⟩:=x
  exact h
noncomputable def X67 (h_0:Int × Qp3 × List Qkr) (id_1:Int):Option ((Xcm × Unit) × Unit):=
 Option.bind (Ztn h_0) fun r1=>
 Option.bind (Zvx r1.1.1) fun r2=>
 Option.bind (X1a r2.1.1 id_1) fun r3=>
 bif decide (r3.1.1<0) then
  some ((r1.1.1,()),())
 else
  Option.bind (Zvx r1.1.1) fun r4=>
  Option.bind (X6h r1.1.1.2.1 r4.1.1 id_1 r1.1.1.1) fun r5=>
  Option.bind (Zxw r1.1.1 r5.1.1) fun r6=>
  some ((r6.1.1,()),())
noncomputable def Zzq:Ent:=⟨[.val t28,.val t2],[⟨t28,[false,false,false],none⟩],fun x=>X67 x.1 x.2.1⟩
theorem X2s:Q4j tab.ty Tryz.prog 140 Zzq:=
 Qjd (Γ:=[(163,Zjr),(164,Zby),(165,Zxz),(166,Zpp),(172,Zye)]) (fi:={ keep:=[],vty:=[],vals:=[],live:=[(0,[1,2,4]),(1,[1,2,4]),(2,[1,2,4,11]),(3,[4]),(4,[4])] }) (n:=1) follows (Qjq Zkz (Qjq Z3h (Qjq Zvt (Qjq Zo1 (Qjq X15 Qju))))) Qjz Tryz.func140 (by kernel_rfl) (by kernel_rfl) fun x r h=>Eq.trans (by kernel_rfl) h
noncomputable def Z0a (s_0:List Int) (f_1:(Int × Unit→Option (Bool × Unit))):Option ((Bool × Unit) × Unit):=
 Option.bind (Qvz s_0 f_1) fun r1=>
 some ((decide (r1.1.1 ≥ 0),()),())
noncomputable def Qwc:Ent:=⟨[.val t44,.fn [t2] [t4]],[⟨t4,[false],none⟩],fun x=>Z0a x.1 x.2.1⟩
theorem Z94:Q4j tab.ty Tryz.prog 289 Qwc:=
 Qjd (Γ:=[(251,Qst)]) (fi:={ keep:=[],vty:=[],vals:=[],live:=[(0,[0,1]),(1,[4])] }) (n:=1) follows (Qjq Qw9 Qju) Qjz Tryz.func289 (by kernel_rfl) (by kernel_rfl) fun x r h=>Eq.trans (by kernel_rfl) h
noncomputable def Zz1 (v_0 x_1 x_2:Int):Option ((Bool × Unit) × Unit):=
 bif decide (v_0<x_1) then
  some ((true,()),())
 else
  some ((decide (v_0>x_2),()),())
noncomputable def Zsn:Ent:=⟨[.val t2,.rbox t2,.rbox t2],[⟨t4,[false],none⟩],fun x=>Zz1 x.1 x.2.1 x.2.2.1⟩
theorem Zxd:Q4j tab.ty Tryz.prog 290 Zsn:=
 Qjd (Γ:=[]) (fi:={ keep:=[],vty:=[],vals:=[],live:=[(0,[0,1,2,9,10,11]),(1,[4])] }) (n:=1) follows Qju Qjz Tryz.func290 (by kernel_rfl) (by kernel_rfl) fun x r h=>Eq.trans (by kernel_rfl) h
noncomputable def Qox (lo_0 hi_1:Int) (l_2:List Int):Option ((Bool × Unit) × Unit):=
 Option.bind (Z0a l_2 (fun x=>(Zz1 x.1 lo_0 hi_1).bind fun r=>some (r.1.1,()))) fun r1=>
 some ((!r1.1.1,()),())
noncomputable def Zxl:Ent:=⟨[.val t2,.val t2,.val t44],[⟨t4,[false],none⟩],fun x=>Qox x.1 x.2.1 x.2.2.1⟩
theorem Zun:Q4j tab.ty Tryz.prog 252 Zxl:=
 Qjd (Γ:=[(289,Qwc),(290,Zsn)]) (fi:={ keep:=[],vty:=[],vals:=[],live:=[(0,[2,3,4]),(1,[6])] }) (n:=1) follows (Qjq Z94 (Qjq Zxd Qju)) Qjz Tryz.func252 (by kernel_rfl) (by kernel_rfl) fun x r h=>Eq.trans (by kernel_rfl) h
noncomputable def Xax (m_0:Int × Int × Int × Int × Int × Int × (List Int) × Int × Int × ByteArray):Option ((Qko × Unit) × Unit):=
 some (((m_0.1,m_0.2.1,m_0.2.2.1,m_0.2.2.2.1,0,0,[],0,0,(⟨#[]⟩:ByteArray)),()),())
noncomputable def X5k:Ent:=⟨[.val Qsi],[⟨Qsi,(nF 6++[true,false,false,false]),none⟩],fun x=>Xax x.1⟩
theorem X7d:Q4j tab.ty Tryz.prog 291 X5k:=
 Qjd (Γ:=[]) (fi:={ keep:=[],vty:=[],vals:=[],live:=[(0,[1,2]),(1,[2])] }) (n:=1) follows Qju Qjz Tryz.func291 (by kernel_rfl) (by kernel_rfl) fun x r h=>Eq.trans (by kernel_rfl) h
abbrev Z39:Type:=(IV × Unit) × Unit
noncomputable def Ztk:Ctx:=[(161,Qlv)]
def Zq2:Fi:={ keep:=[],vty:=[],vals:=[],live:=[(0,[0,9,10,11,14,15,16,17,31,32,35,36,37,38,39]),(1,[0,18,31,32,35,36,37,38,39]),(2,[2]),(3,[0,21,22,23,31,32,35,36,37,38,39]),(4,[0,21,22,23,24,31,32,35,36,37,38,39]),(5,[0,3,4,21,22,23,31,32,35,36,37,38,39]),(6,[0,3,21,22,23,31,32,35,36,37,38,39,40]),(7,[2]),(8,[0,21,22,23,31,32,35,36,37,38,39]),(9,[2])] }
abbrev Zp2:Type:=List Int→List Int→Int→Int→Option Z39
noncomputable def Zz3 (L1:Zp2) (v1 v2:List Int) (v3 v4:Int):Option Z39:=
 bif decide (v4<v3) then
  bif decide (0≤v4)&&decide (v4<(v2.length:Int)) then
   bif decide (List.getD v2 v4.toNat 0<1) then
    some ((IV.mk 210 [.int .i64 v4],()),())
   else
   bif decide (List.getD v2 v4.toNat 0>8) then
    some ((IV.mk 210 [.int .i64 v4],()),())
   else
   bif decide (0≤v4)&&decide (v4≤(v1.length:Int)) then
    Option.bind (Qos (List.drop 0 (List.take v4.toNat v1)) (List.getD v2 v4.toNat 0)) fun r5=>
    bif r5.1.1 then
     some ((IV.mk 210 [.int .i64 v4],()),())
    else
     L1 v1 v2 v3 (IntKind.wrap .i64 (v4+1))
   else none
  else none
 else
  some ((IV.nil,()),())
noncomputable def X2c (L1:Zp2) (p_0:List Int):Option Z39:=
 bif decide ((p_0.length:Int)<1) then
  some ((IV.mk 210 [.int .i64 0],()),())
 else
 bif decide ((p_0.length:Int)>10) then
  some ((IV.mk 210 [.int .i64 0],()),())
 else
 bif decide (0<(p_0.length:Int)) then
  bif (List.getD p_0 0 0) != 1 then
   some ((IV.mk 210 [.int .i64 0],()),())
  else
   L1 p_0 p_0 (p_0.length:Int) 0
 else none
noncomputable def Zzl (n:Nat):Nat→Zp2:=iter (fun _ _ _ _=>none) fun L=>Zz3 L
noncomputable def Zdq (n m:Nat) (v1 v2:List Int) (v3 v4:Int):Option Z39:=
 Qjl Ztk tab (fiB [.val t44] Zq2) n [.val t44] [⟨t20,[false],none⟩] Tryz.f129 [1,1,0,1,0] [] [0,21,22,23] m
 ⟨[(0,Vp t44 v1),(21,Vp t44 v2),(22,Vp t2 v3),(23,Vp t2 v4)],[]⟩
theorem X2b (n m:Nat):Zdq n (m+1)=Zz3 (Zdq n m):=by kernel_rfl
theorem Zw3 (n:Nat):∀ m,Zdq n m=Zzl n m
 | 0=>rfl
 | m+1=>by rw [X2b n m,Zw3 n m];rfl
noncomputable def X2y (n:Nat) (p_0:List Int):Option Z39:=X2c (Zzl n n) p_0
noncomputable def X8s (p_0:List Int):Option Z39:=X2y 1099511627776 p_0
noncomputable def X1t:Ent:=⟨[.val t44],[⟨t20,[false],none⟩],fun x=>X8s x.1⟩
theorem X9r (n:Nat) (p_0:List Int):Qdf Ztk tab Zq2 n [.val t44] [⟨t20,[false],none⟩] Tryz.f129 (p_0,())=X2y n p_0:=Eq.trans (b:=X2c (Zdq n n) p_0) (by kernel_rfl) (by rw [Zw3 n n];rfl)
theorem X4p:Q4j tab.ty Tryz.prog 129 X1t:=
 Qjd (Γ:=Ztk) (fi:=Zq2) (n:=1099511627776) follows (Qjq Qlx Qju) Qjz Tryz.func129 (by kernel_rfl) (by kernel_rfl) fun x r h=>(X9r 1099511627776 x.1).trans h
noncomputable def Zqg (p_0:List Int):Option ((Bool × Unit) × Unit):=
 Option.bind (X8s p_0) fun r1=>
 some ((!(IV.is r1.1.1 210),()),())
noncomputable def Zxo:Ent:=⟨[.val t44],[⟨t4,[false],none⟩],fun x=>Zqg x.1⟩
theorem Zux:Q4j tab.ty Tryz.prog 84 Zxo:=
 Qjd (Γ:=[(129,X1t)]) (fi:={ keep:=[],vty:=[],vals:=[],live:=[(0,[0]),(1,[4]),(2,[2])] }) (n:=1) follows (Qjq X4p Qju) Qjz Tryz.func84 (by kernel_rfl) (by kernel_rfl) fun x r h=>Eq.trans (by kernel_rfl) h
abbrev Qn4:Type:=(Bool × Unit) × Unit
noncomputable def Z0u:Ctx:=[]
def Qxb:Fi:={ keep:=[],vty:=[],vals:=[],live:=[(0,[0,1]),(1,[0,1,10]),(2,[4]),(3,[0,1,12,13]),(4,[0,1,12,13,14]),(5,[0,1,5,12,13]),(6,[0,1,12,13,24]),(7,[4]),(8,[0,1,12,13]),(9,[4])] }
abbrev Qwy:Type:=List Int→List Int→Int→Int→Option Qn4
noncomputable def Zap (L1:Qwy) (v1 v2:List Int) (v3 v4:Int):Option Qn4:=
 bif decide (v4<v3) then
  bif decide (0≤v4)&&decide (v4<(v1.length:Int)) then
   bif decide (0≤v4)&&decide (v4<(v2.length:Int)) then
    bif (List.getD v1 v4.toNat 0) != (List.getD v2 v4.toNat 0) then
     some ((false,()),())
    else
     L1 v1 v2 v3 (IntKind.wrap .i64 (v4+1))
   else none
  else none
 else
  some ((true,()),())
noncomputable def Zez (L1:Qwy) (s1_0 s2_1:List Int):Option Qn4:=
 bif (s1_0.length:Int) != (s2_1.length:Int) then
  some ((false,()),())
 else
  L1 s1_0 s2_1 (s1_0.length:Int) 0
noncomputable def Zbt (n:Nat):Nat→Qwy:=iter (fun _ _ _ _=>none) fun L=>Zap L
noncomputable def Qs8 (n m:Nat) (v1 v2:List Int) (v3 v4:Int):Option Qn4:=
 Qjl Z0u tab (fiB [.val t44,.val t44] Qxb) n [.val t44,.val t44] [⟨t4,[false],none⟩] Tryz.f51 [1,1,0,1,0] [] [0,1,12,13] m
 ⟨[(0,Vp t44 v1),(1,Vp t44 v2),(12,Vp t2 v3),(13,Vp t2 v4)],[]⟩
theorem Zn8 (n m:Nat):Qs8 n (m+1)=Zap (Qs8 n m):=by kernel_rfl
theorem Z6e (n:Nat):∀ m,Qs8 n m=Zbt n m
 | 0=>rfl
 | m+1=>by rw [Zn8 n m,Z6e n m];rfl
noncomputable def Zdh (n:Nat) (s1_0 s2_1:List Int):Option Qn4:=Zez (Zbt n n) s1_0 s2_1
noncomputable def Z65 (s1_0 s2_1:List Int):Option Qn4:=Zdh 1099511627776 s1_0 s2_1
noncomputable def Z05:Ent:=⟨[.val t44,.val t44],[⟨t4,[false],none⟩],fun x=>Z65 x.1 x.2.1⟩
theorem Zud (n:Nat) (s1_0 s2_1:List Int):Qdf Z0u tab Qxb n [.val t44,.val t44] [⟨t4,[false],none⟩] Tryz.f51 (s1_0,s2_1,())=Zdh n s1_0 s2_1:=Eq.trans (b:=Zez (Qs8 n n) s1_0 s2_1) (by kernel_rfl) (by rw [Z6e n n];rfl)
theorem Z4u:Q4j tab.ty Tryz.prog 51 Z05:=
 Qjd (Γ:=Z0u) (fi:=Qxb) (n:=1099511627776) follows Qju Qjz Tryz.func51 (by kernel_rfl) (by kernel_rfl) fun x r h=>(Zud 1099511627776 x.1 x.2.1).trans h
noncomputable def Qrr (a_0 b_1:Int × Int × Int × Int × Int × Int × (List Int) × Int × Int × ByteArray):Option ((Bool × Unit) × Unit):=
 bif a_0.1==b_1.1 then
  bif a_0.2.1==b_1.2.1 then
   bif a_0.2.2.1==b_1.2.2.1 then
    bif a_0.2.2.2.1==b_1.2.2.2.1 then
     bif a_0.2.2.2.2.1==b_1.2.2.2.2.1 then
      bif a_0.2.2.2.2.2.1==b_1.2.2.2.2.2.1 then
       Option.bind (Z65 a_0.2.2.2.2.2.2.1 b_1.2.2.2.2.2.2.1) fun r1=>
       bif r1.1.1 then
        bif a_0.2.2.2.2.2.2.2.1==b_1.2.2.2.2.2.2.2.1 then
         bif a_0.2.2.2.2.2.2.2.2.1==b_1.2.2.2.2.2.2.2.2.1 then
          some ((Qev a_0.2.2.2.2.2.2.2.2.2 b_1.2.2.2.2.2.2.2.2.2,()),())
         else
          some ((false,()),())
        else
         some ((false,()),())
       else
        some ((false,()),())
      else
       some ((false,()),())
     else
      some ((false,()),())
    else
     some ((false,()),())
   else
    some ((false,()),())
  else
   some ((false,()),())
 else
  some ((false,()),())
noncomputable def X6n:Ent:=⟨[.val Qsi,.val Qsi],[⟨t4,[false],none⟩],fun x=>Qrr x.1 x.2.1⟩
theorem X7e:Q4j tab.ty Tryz.prog 292 X6n:=
 Qjd (Γ:=[(51,Z05)]) (fi:={ keep:=[],vty:=[],vals:=[],live:=[(0,[2,3,11,12,13,14,15,18,19,20,21,22,25,26,27,28,29,32,33,34,35,36,39,40,41,42,43,46,47,48,49,50,53,54,55,56,57,60,61,62,63,64,67,68,69,70,71]),(1,[4])] }) (n:=1) follows (Qjq Z4u Qju) Qjz Tryz.func292 (by kernel_rfl) (by kernel_rfl) fun x r h=>Eq.trans (by kernel_rfl) h
noncomputable def X5z (m_0:Int × Int × Int × Int × Int × Int × (List Int) × Int × Int × ByteArray):Option ((Bool × Unit) × Unit):=
 Option.bind (Xax m_0) fun r1=>
 bif m_0.1==2 then
  bif m_0.1==2 then
   bif m_0.1==2 then
    Option.bind (Qox 0 1073741824 [m_0.2.2.2.2.1,m_0.2.2.2.2.2.1]) fun r2=>
    bif r2.1.1 then
     Option.bind (Zqg m_0.2.2.2.2.2.2.1) fun r3=>
     bif r3.1.1 then
      Option.bind (Qox 0 1000000 [m_0.2.2.2.2.2.2.2.1,r1.1.1.2.2.2.2.2.2.2.2.1]) fun r4=>
      bif r4.1.1 then
       Option.bind (Qrr m_0 (r1.1.1.1,r1.1.1.2.1,r1.1.1.2.2.1,r1.1.1.2.2.2.1,m_0.2.2.2.2.1,m_0.2.2.2.2.2.1,m_0.2.2.2.2.2.2.1,m_0.2.2.2.2.2.2.2.1,r1.1.1.2.2.2.2.2.2.2.2)) fun r5=>
       some ((r5.1.1,()),())
      else
       some ((false,()),())
     else
      some ((false,()),())
    else
     some ((false,()),())
   else
    Option.bind (Qox 0 1073741824 [m_0.2.2.2.2.1,m_0.2.2.2.2.2.1]) fun r6=>
    bif r6.1.1 then
     Option.bind (Zqg m_0.2.2.2.2.2.2.1) fun r7=>
     bif r7.1.1 then
      Option.bind (Qox 0 1000000 [r1.1.1.2.2.2.2.2.2.2.1,m_0.2.2.2.2.2.2.2.2.1]) fun r8=>
      bif r8.1.1 then
       Option.bind (Qrr m_0 (r1.1.1.1,r1.1.1.2.1,r1.1.1.2.2.1,r1.1.1.2.2.2.1,m_0.2.2.2.2.1,m_0.2.2.2.2.2.1,m_0.2.2.2.2.2.2.1,r1.1.1.2.2.2.2.2.2.2.1,m_0.2.2.2.2.2.2.2.2.1,r1.1.1.2.2.2.2.2.2.2.2.2)) fun r9=>
       some ((r9.1.1,()),())
      else
       some ((false,()),())
     else
      some ((false,()),())
    else
     some ((false,()),())
  else
  bif m_0.1==7 then
   Option.bind (Qox 1 1000000 [m_0.2.2.2.2.2.2.2.1]) fun r10=>
   bif r10.1.1 then
    bif decide ((m_0.2.2.2.2.2.2.2.2.2.size:Int)≤12) then
     Option.bind (Qrr m_0 (r1.1.1.1,r1.1.1.2.1,r1.1.1.2.2.1,r1.1.1.2.2.2.1,r1.1.1.2.2.2.2.1,r1.1.1.2.2.2.2.2.1,r1.1.1.2.2.2.2.2.2.1,m_0.2.2.2.2.2.2.2.1,r1.1.1.2.2.2.2.2.2.2.2.1,m_0.2.2.2.2.2.2.2.2.2)) fun r11=>
     some ((r11.1.1,()),())
    else
     some ((false,()),())
   else
    some ((false,()),())
  else
  bif m_0.1==8 then
   bif m_0.1==8 then
    bif decide (m_0.2.2.2.2.2.2.2.1≤m_0.2.2.2.2.2.2.2.2.1) then
     Option.bind (Qox 1 1000000 [m_0.2.2.2.2.2.2.2.1,m_0.2.2.2.2.2.2.2.2.1]) fun r12=>
     bif r12.1.1 then
      Option.bind (Qrr m_0 (r1.1.1.1,r1.1.1.2.1,r1.1.1.2.2.1,r1.1.1.2.2.2.1,r1.1.1.2.2.2.2.1,r1.1.1.2.2.2.2.2.1,r1.1.1.2.2.2.2.2.2.1,m_0.2.2.2.2.2.2.2.1,m_0.2.2.2.2.2.2.2.2.1,r1.1.1.2.2.2.2.2.2.2.2.2)) fun r13=>
      some ((r13.1.1,()),())
     else
      some ((false,()),())
    else
     some ((false,()),())
   else
    Option.bind (Qrr m_0 r1.1.1) fun r14=>
    some ((r14.1.1,()),())
  else
  bif m_0.1==9 then
   bif decide (m_0.2.2.2.2.2.2.2.1≤m_0.2.2.2.2.2.2.2.2.1) then
    Option.bind (Qox 1 1000000 [m_0.2.2.2.2.2.2.2.1,m_0.2.2.2.2.2.2.2.2.1]) fun r15=>
    bif r15.1.1 then
     Option.bind (Qrr m_0 (r1.1.1.1,r1.1.1.2.1,r1.1.1.2.2.1,r1.1.1.2.2.2.1,r1.1.1.2.2.2.2.1,r1.1.1.2.2.2.2.2.1,r1.1.1.2.2.2.2.2.2.1,m_0.2.2.2.2.2.2.2.1,m_0.2.2.2.2.2.2.2.2.1,r1.1.1.2.2.2.2.2.2.2.2.2)) fun r16=>
     some ((r16.1.1,()),())
    else
     some ((false,()),())
   else
    some ((false,()),())
  else
   Option.bind (Qrr m_0 r1.1.1) fun r17=>
   some ((r17.1.1,()),())
 else
 bif m_0.1==5 then
  bif m_0.1==2 then
   Option.bind (Qox 0 1073741824 [m_0.2.2.2.2.1,m_0.2.2.2.2.2.1]) fun r18=>
   bif r18.1.1 then
    Option.bind (Zqg m_0.2.2.2.2.2.2.1) fun r19=>
    bif r19.1.1 then
     Option.bind (Qox 0 1000000 [m_0.2.2.2.2.2.2.2.1,r1.1.1.2.2.2.2.2.2.2.2.1]) fun r20=>
     bif r20.1.1 then
      Option.bind (Qrr m_0 (r1.1.1.1,r1.1.1.2.1,r1.1.1.2.2.1,r1.1.1.2.2.2.1,m_0.2.2.2.2.1,m_0.2.2.2.2.2.1,m_0.2.2.2.2.2.2.1,m_0.2.2.2.2.2.2.2.1,r1.1.1.2.2.2.2.2.2.2.2)) fun r21=>
      some ((r21.1.1,()),())
     else
      some ((false,()),())
    else
     some ((false,()),())
   else
    some ((false,()),())
  else
   Option.bind (Qox 0 1073741824 [m_0.2.2.2.2.1,m_0.2.2.2.2.2.1]) fun r22=>
   bif r22.1.1 then
    Option.bind (Zqg m_0.2.2.2.2.2.2.1) fun r23=>
    bif r23.1.1 then
     Option.bind (Qox 0 1000000 [r1.1.1.2.2.2.2.2.2.2.1,m_0.2.2.2.2.2.2.2.2.1]) fun r24=>
     bif r24.1.1 then
      Option.bind (Qrr m_0 (r1.1.1.1,r1.1.1.2.1,r1.1.1.2.2.1,r1.1.1.2.2.2.1,m_0.2.2.2.2.1,m_0.2.2.2.2.2.1,m_0.2.2.2.2.2.2.1,r1.1.1.2.2.2.2.2.2.2.1,m_0.2.2.2.2.2.2.2.2.1,r1.1.1.2.2.2.2.2.2.2.2.2)) fun r25=>
      some ((r25.1.1,()),())
     else
      some ((false,()),())
    else
     some ((false,()),())
   else
    some ((false,()),())
 else
 bif m_0.1==7 then
  Option.bind (Qox 1 1000000 [m_0.2.2.2.2.2.2.2.1]) fun r26=>
  bif r26.1.1 then
   bif decide ((m_0.2.2.2.2.2.2.2.2.2.size:Int)≤12) then
    Option.bind (Qrr m_0 (r1.1.1.1,r1.1.1.2.1,r1.1.1.2.2.1,r1.1.1.2.2.2.1,r1.1.1.2.2.2.2.1,r1.1.1.2.2.2.2.2.1,r1.1.1.2.2.2.2.2.2.1,m_0.2.2.2.2.2.2.2.1,r1.1.1.2.2.2.2.2.2.2.2.1,m_0.2.2.2.2.2.2.2.2.2)) fun r27=>
    some ((r27.1.1,()),())
   else
    some ((false,()),())
  else
   some ((false,()),())
 else
 bif m_0.1==8 then
  bif m_0.1==8 then
   bif decide (m_0.2.2.2.2.2.2.2.1≤m_0.2.2.2.2.2.2.2.2.1) then
    Option.bind (Qox 1 1000000 [m_0.2.2.2.2.2.2.2.1,m_0.2.2.2.2.2.2.2.2.1]) fun r28=>
    bif r28.1.1 then
     Option.bind (Qrr m_0 (r1.1.1.1,r1.1.1.2.1,r1.1.1.2.2.1,r1.1.1.2.2.2.1,r1.1.1.2.2.2.2.1,r1.1.1.2.2.2.2.2.1,r1.1.1.2.2.2.2.2.2.1,m_0.2.2.2.2.2.2.2.1,m_0.2.2.2.2.2.2.2.2.1,r1.1.1.2.2.2.2.2.2.2.2.2)) fun r29=>
     some ((r29.1.1,()),())
    else
     some ((false,()),())
   else
    some ((false,()),())
  else
   Option.bind (Qrr m_0 r1.1.1) fun r30=>
   some ((r30.1.1,()),())
 else
 bif m_0.1==9 then
  bif decide (m_0.2.2.2.2.2.2.2.1≤m_0.2.2.2.2.2.2.2.2.1) then
   Option.bind (Qox 1 1000000 [m_0.2.2.2.2.2.2.2.1,m_0.2.2.2.2.2.2.2.2.1]) fun r31=>
   bif r31.1.1 then
    Option.bind (Qrr m_0 (r1.1.1.1,r1.1.1.2.1,r1.1.1.2.2.1,r1.1.1.2.2.2.1,r1.1.1.2.2.2.2.1,r1.1.1.2.2.2.2.2.1,r1.1.1.2.2.2.2.2.2.1,m_0.2.2.2.2.2.2.2.1,m_0.2.2.2.2.2.2.2.2.1,r1.1.1.2.2.2.2.2.2.2.2.2)) fun r32=>
    some ((r32.1.1,()),())
   else
    some ((false,()),())
  else
   some ((false,()),())
 else
  Option.bind (Qrr m_0 r1.1.1) fun r33=>
  some ((r33.1.1,()),())
noncomputable def Zzd:Ent:=⟨[.val Qsi],[⟨t4,[false],none⟩],fun x=>X5z x.1⟩
theorem X1z:Q4j tab.ty Tryz.prog 253 Zzd:=
 Qjd (Γ:=[(84,Zxo),(252,Zxl),(291,X5k),(292,X6n)]) (fi:={ keep:=[],vty:=[],vals:=[],live:=[(0,[1,36,37,38,41,42,43,44,45,46,49,50,51,66,67,68,69,72,73,74,91,92,93,94,95,96,99,100,101]),(1,[1,3,36,37,38,41,42,43,44,45,46,49,50,51,66,67,68,69,72,73,74,91,92,93,94,95,96,99,100,101]),(2,[1,3,7,36,37,38,41,42,43,44,45,46,49,50,51,66,67,68,69,72,73,74,91,92,93,94,95,96,99,100,101]),(3,[1,3,7,8,36,37,38,41,42,43,44,45,46,49,50,51,66,67,68,69,72,73,74,91,92,93,94,95,96,99,100,101]),(4,[1,3,7,8,36,37,38,41,42,43,44,45,46,49,50,51,66,67,68,69,72,73,74,91,92,93,94,95,96,99,100,101]),(5,[1,3,36,37,38,41,42,43,44,45,46,49,50,51]),(6,[1,3,22,36,37,38,41,42,43,44,45,46,49,50,51]),(7,[1,3,36,37,38,41,42,43,44,45,46,49,50,51]),(8,[1,3,36,37,38,41,42,43,44,45,46,49,50,51]),(9,[2]),(10,[1,3,7,53,66,67,68,69,72,73,74,91,92,93,94,95,96,99,100,101]),(11,[1,3,66,67,68,69,72,73,74]),(12,[2]),(13,[1,3,7,76,91,92,93,94,95,96,99,100,101]),(14,[1,3,76,91,92,93,94,95,96,99,100,101]),(15,[1,3,91,92,93,94,95,96,99,100,101]),(16,[2]),(17,[2])] }) (n:=1) follows (Qjq Zux (Qjq Zun (Qjq X7d (Qjq X7e Qju)))) Qjz Tryz.func253 (by kernel_rfl) (by kernel_rfl) fun x r h=>Eq.trans (by kernel_rfl) h
noncomputable def Xbp (m_0:Int × Int × Int × Int × Int × Int × (List Int) × Int × Int × ByteArray):Option ((Bool × Unit) × Unit):=
 Option.bind (Qox 1 9 [m_0.1]) fun r1=>
 bif r1.1.1 then
  Option.bind (Qox 1 8 [m_0.2.1,m_0.2.2.1]) fun r2=>
  bif r2.1.1 then
   bif m_0.2.1 != m_0.2.2.1 then
    Option.bind (Qox 1 1073741824 [m_0.2.2.2.1]) fun r3=>
    bif r3.1.1 then
     Option.bind (X5z m_0) fun r4=>
     some ((r4.1.1,()),())
    else
     some ((false,()),())
   else
    some ((false,()),())
  else
   some ((false,()),())
 else
  some ((false,()),())
noncomputable def X9e:Ent:=⟨[.val Qsi],[⟨t4,[false],none⟩],fun x=>Xbp x.1⟩
theorem X9s:Q4j tab.ty Tryz.prog 208 X9e:=
 Qjd (Γ:=[(252,Zxl),(253,Zzd)]) (fi:={ keep:=[],vty:=[],vals:=[],live:=[(0,[1,8,9,10,11,12,13,16,17,18,19,20,23,24,25,26,29,30]),(1,[2])] }) (n:=1) follows (Qjq Zun (Qjq X1z Qju)) Qjz Tryz.func208 (by kernel_rfl) (by kernel_rfl) fun x r h=>Eq.trans (by kernel_rfl) h
noncomputable def Z2g (s:List Int):Option (((List Int) × Unit) × Unit):=bif Nat.ble s.length 1073741824 then some ((s,()),()) else none
theorem Zpi (s:List Int):Qdf [] tab (Qjy Tryz.f254 []) 1 [.val t66] [⟨t66,[true],none⟩] Tryz.f254 (s,())=bif !(List.isEmpty s) then bif Nat.ble (0+s.length) 1073741824 then some (([]++s,()),()) else none
 else Q38 (some (([],()),())) (bif Nat.ble (0+s.length) 1073741824 then some (([]++s,()),()) else none):=by kernel_rfl
theorem Zqw (s:List Int):Qdf [] tab (Qjy Tryz.f254 []) 1 [.val t66] [⟨t66,[true],none⟩] Tryz.f254 (s,())=Z2g s:=by
  rw [Zpi]
  cases s with
  | nil=>exact Qbo _
  | cons x q=>rw [Nat.zero_add];rfl
noncomputable def Zat:Ent:=⟨[.val t66],[⟨t66,[true],none⟩],fun x=>Z2g x.1⟩
theorem Zm8:Q4j tab.ty Tryz.prog 254 Zat:=by
  refine Qjd (Γ:=[]) (fi:=Qjy Tryz.f254 []) (n:=1) follows Qju Qjz Tryz.func254 (by kernel_rfl) (by kernel_rfl) (fun x r h=>?_)
  obtain ⟨s,_u⟩:=x
  exact (Zqw s).trans h
abbrev Z98:Type:=((List Int) × Unit) × Unit
noncomputable def Zy8:Ctx:=[(254,Zat)]
def Zt1:Fi:={ keep:=[],vty:=[],vals:=[],live:=[(0,[0,1]),(1,[0,1]),(2,[0,5]),(3,[0,5,11]),(4,[0,5]),(5,[0,5]),(6,[4])] }
abbrev Zt4:Type:=Int→List Int→Option Z98
noncomputable def X2t (L1:Zt4) (v2:Int) (v3:List Int):Option Z98:=
 bif decide (v2 ≥ 128) then
  bif Nat.ble (v3.length+1) 1073741824 then
   L1 (Int.fdiv v2 (2 ^ 7)) (v3++[IntKind.wrap .u8 ((BitVec.ofInt 8 (IntKind.wrap .u8 v2) ||| BitVec.ofInt 8 128).toNat)])
  else none
 else
 bif Nat.ble (v3.length+1) 1073741824 then
  some ((v3++[IntKind.wrap .u8 v2],()),())
 else none
noncomputable def X6l (L1:Zt4) (b_0:List Int) (v_1:Int):Option Z98:=
 Option.bind (Z2g b_0) fun r1=>
 L1 (IntKind.wrap .u64 v_1) r1.1.1
noncomputable def X2d (n:Nat):Nat→Zt4:=iter (fun _ _=>none) fun L=>X2t L
noncomputable def Zkh (n m:Nat) (v2:Int) (v3:List Int):Option Z98:=
 Qjl Zy8 tab (fiB [.val t66,.val t2] Zt1) n [.val t66,.val t2] [⟨t66,[true],none⟩] Tryz.f209 [1,1,1,0,0] [] [0,5] m
 ⟨[(0,V1 (.ref (888888,0))),(5,Vp t12 v2)],[((888888,0),Ob.row 5 t5 v3)]⟩
theorem X53 (n m:Nat):Zkh n (m+1)=X2t (Zkh n m):=by kernel_rfl
theorem X0b (n:Nat):∀ m,Zkh n m=X2d n m
 | 0=>rfl
 | m+1=>by rw [X53 n m,X0b n m];rfl
noncomputable def X6m (n:Nat) (b_0:List Int) (v_1:Int):Option Z98:=X6l (X2d n n) b_0 v_1
noncomputable def X88 (b_0:List Int) (v_1:Int):Option Z98:=X6m 1099511627776 b_0 v_1
noncomputable def Zxi:Ent:=⟨[.val t66,.val t2],[⟨t66,[true],none⟩],fun x=>X88 x.1 x.2.1⟩
theorem Xac (n:Nat) (b_0:List Int) (v_1:Int):Qdf Zy8 tab Zt1 n [.val t66,.val t2] [⟨t66,[true],none⟩] Tryz.f209 (b_0,v_1,())=X6m n b_0 v_1:=Eq.trans (b:=X6l (Zkh n n) b_0 v_1) (by kernel_rfl) (by rw [X0b n n];rfl)
theorem Zwn:Q4j tab.ty Tryz.prog 209 Zxi:=
 Qjd (Γ:=Zy8) (fi:=Zt1) (n:=1099511627776) follows (Qjq Zm8 Qju) Qjz Tryz.func209 (by kernel_rfl) (by kernel_rfl) fun x r h=>(Xac 1099511627776 x.1 x.2.1).trans h
noncomputable def Zze (b_0:List Int) (s_1:ByteArray):Option (((List Int) × Unit) × Unit):=
 Option.bind (X88 b_0 (s_1.size:Int)) fun r1=>
 bif Nat.ble (r1.1.1.length+(s_1.data.toList.map fun b=>(b.toNat:Int)).length) 1073741824 then
  some ((r1.1.1++(s_1.data.toList.map fun b=>(b.toNat:Int)),()),())
 else none
noncomputable def Zrv:Ent:=⟨[.val t66,.val t9],[⟨t66,[true],none⟩],fun x=>Zze x.1 x.2.1⟩
theorem Zxm:Q4j tab.ty Tryz.prog 210 Zrv:=
 Qjd (Γ:=[(209,Zxi)]) (fi:={ keep:=[],vty:=[],vals:=[],live:=[(0,[0,1]),(1,[4])] }) (n:=1) follows (Qjq Zwn Qju) Qjz Tryz.func210 (by kernel_rfl) (by kernel_rfl) fun x r h=>Eq.trans (by kernel_rfl) h
abbrev Qzd:Type:=(Int × Unit) × Unit
noncomputable def Zw5:Ctx:=[]
def Zqe:Fi:={ keep:=[],vty:=[],vals:=[],live:=[(0,[0]),(1,[0,3]),(2,[3,7,8,9]),(3,[3,7,8,9,10]),(4,[3,5,7,8,9]),(5,[3,7,8,9]),(6,[3,7,8,9,17]),(7,[3,7,8,9,17,18]),(8,[3,6,7,8,9,17]),(9,[3,6,7,8,9,17]),(10,[3,7,8,9,17,24]),(11,[3,7,8,9,17]),(12,[3,7,8,9,17]),(13,[3,7,8,9]),(14,[2])] }
abbrev Zqc:Type:=Int→List Int→Int→Int→Option Qzd
abbrev Zxg:Type:=Int→List Int→Int→Int→Int→Option Qzd
noncomputable def X68 (L2:Zxg) (v1:Int) (v2:List Int) (v3 v4:Int):Option Qzd:=
 bif decide (v4<v3) then
  bif decide (0≤v4)&&decide (v4<(v2.length:Int)) then
   L2 (IntKind.wrap .u32 ((BitVec.ofInt 32 v1 ^^^ BitVec.ofInt 32 (IntKind.wrap .u32 (List.getD v2 v4.toNat 0))).toNat)) v2 v3 v4 0
  else none
 else
  some ((IntKind.wrap .u32 ((BitVec.ofInt 32 v1 ^^^ BitVec.ofInt 32 4294967295).toNat),()),())
noncomputable def X5h (L2:Zxg) (L1:Zqc) (v5:Int) (v6:List Int) (v7 v8 v9:Int):Option Qzd:=
 bif decide (v9<8) then
  bif (IntKind.wrap .u32 ((BitVec.ofInt 32 v5 &&& BitVec.ofInt 32 1).toNat))==1 then
   L2 (IntKind.wrap .u32 ((BitVec.ofInt 32 (Int.fdiv v5 (2 ^ 1)) ^^^ BitVec.ofInt 32 3988292384).toNat)) v6 v7 v8 (IntKind.wrap .i64 (v9+1))
  else
   L2 (Int.fdiv v5 (2 ^ 1)) v6 v7 v8 (IntKind.wrap .i64 (v9+1))
 else
  L1 v5 v6 v7 (IntKind.wrap .i64 (v8+1))
noncomputable def X8c (L1:Zqc) (b_0:List Int):Option Qzd:=
 L1 4294967295 b_0 (b_0.length:Int) 0
noncomputable def X69 (n:Nat) (m1:Nat) (r1:Zqc):Nat→Zxg:=iter (fun _ _ _ _ _=>none) fun L=>X5h L r1
noncomputable def X61 (n:Nat):Nat→Zqc:=Qj7 (fun _ _ _ _=>none) fun m L=>X68 (X69 n m L n)
noncomputable def Zha (n m:Nat) (v1:Int) (v2:List Int) (v3 v4:Int):Option Qzd:=
 Qjl Zw5 tab (fiB [.val t66] Zqe) n [.val t66] [⟨Xar,[false],none⟩] Tryz.f211 [1,1,0,1,0] [] [3,7,8,9] m
 ⟨[(3,Vp Xar v1),(7,Vp t66 v2),(8,Vp t2 v3),(9,Vp t2 v4)],[]⟩
noncomputable def Zqi (n m1 m:Nat) (v5:Int) (v6:List Int) (v7 v8 v9:Int):Option Qzd:=
 Qjl Zw5 tab (fiB [.val t66] Zqe) n [.val t66] [⟨Xar,[false],none⟩] Tryz.f211 [1,1,0,1,0,0,1,1,0,0,1,1,1,0] [(m1,[3,7,8,9])] [3,7,8,9,17] m
 ⟨[(3,Vp Xar v5),(7,Vp t66 v6),(8,Vp t2 v7),(9,Vp t2 v8),(17,Vp t2 v9)],[]⟩
theorem X87 (n m:Nat):Zha n (m+1)=X68 (Zqi n m n):=by kernel_rfl
theorem X6v (n m1 m:Nat):Zqi n m1 (m+1)=X5h (Zqi n m1 m) (Zha n m1):=by kernel_rfl
theorem X3k (n m1:Nat):∀ m,Zqi n m1 m=X69 n m1 (Zha n m1) m
 | 0=>rfl
 | m+1=>by rw [X6v n m1 m,X3k n m1 m];rfl
theorem X1d (n:Nat):∀ m,Zha n m=X61 n m
 | 0=>rfl
 | m+1=>by rw [X87 n m,X3k n m n,X1d n m];rfl
noncomputable def X92 (n:Nat) (b_0:List Int):Option Qzd:=X8c (X61 n n) b_0
noncomputable def Xbi (b_0:List Int):Option Qzd:=X92 1099511627776 b_0
noncomputable def X9m:Ent:=⟨[.val t66],[⟨Xar,[false],none⟩],fun x=>Xbi x.1⟩
theorem Xbg (n:Nat) (b_0:List Int):Qdf Zw5 tab Zqe n [.val t66] [⟨Xar,[false],none⟩] Tryz.f211 (b_0,())=X92 n b_0:=Eq.trans (b:=X8c (Zha n n) b_0) (by kernel_rfl) (by rw [X1d n n];rfl)
theorem X9b:Q4j tab.ty Tryz.prog 211 X9m:=
 Qjd (Γ:=Zw5) (fi:=Zqe) (n:=1099511627776) follows Qju Qjz Tryz.func211 (by kernel_rfl) (by kernel_rfl) fun x r h=>(Xbg 1099511627776 x.1).trans h
abbrev Zhj:Type:=((List Int) × Unit) × Unit
noncomputable def X3i:Ctx:=[(208,X9e),(209,Zxi),(210,Zrv),(211,X9m)]
def Zx1:Fi:={ keep:=[],vty:=[(4,66)],vals:=[],live:=[(0,[1]),(1,[1,10]),(2,[2]),(3,[1,3]),(4,[1,3]),(5,[1,3,4]),(6,[1,4,37,38,39]),(7,[1,4,37,38,39,40]),(8,[1,4,6,37,38,39]),(9,[1,4,37,38,39]),(10,[1,4,37,38,39]),(11,[4]),(12,[4,7]),(13,[2])] }
abbrev Zy3:Type:=Int→Int→Int→Int→Int→Int→Int→Int→List Int→Int→Int→ByteArray→List Int→List Int→Option Zhj
noncomputable def X6a (L1:Zy3) (v2 v3 v4 v5 v6 v7 v8 v9:Int) (v10:List Int) (v11 v12:Int) (v13:ByteArray) (v14 v15:List Int):Option Zhj:=
 bif decide (v3<v2) then
  bif decide (0≤v3)&&decide (v3<(v15.length:Int)) then
   bif decide (0≤v3)&&decide (v3<(v15.length:Int)) then
    Option.bind (X88 v14 (List.getD v15 v3.toNat 0)) fun r16=>
    L1 v2 (IntKind.wrap .i64 (v3+1)) v4 v5 v6 v7 v8 v9 v10 v11 v12 v13 r16.1.1 v15
   else none
  else none
 else
  Option.bind (Zze v14 v13) fun r17=>
  Option.bind (Xbi r17.1.1) fun r18=>
  bif Nat.ble (r17.1.1.length+4) 1073741824 then
   some ((r17.1.1++[IntKind.wrap .u8 (Int.fdiv r18.1.1 (2 ^ 24)),IntKind.wrap .u8 (Int.fdiv r18.1.1 (2 ^ 16)),IntKind.wrap .u8 (Int.fdiv r18.1.1 (2 ^ 8)),IntKind.wrap .u8 r18.1.1],()),())
  else none
noncomputable def X9x (L1:Zy3) (m_0:Int × Int × Int × Int × Int × Int × (List Int) × Int × Int × ByteArray):Option Zhj:=
 Option.bind (Xbp m_0) fun r1=>
 bif !r1.1.1 then
  some (([],()),())
 else
 bif Nat.ble (7+m_0.2.2.2.2.2.2.1.length) 1073741824 then
  bif Nat.ble (([m_0.1,m_0.2.1,m_0.2.2.1,m_0.2.2.2.1,m_0.2.2.2.2.1,m_0.2.2.2.2.2.1,(m_0.2.2.2.2.2.2.1.length:Int)]++m_0.2.2.2.2.2.2.1).length+2) 1073741824 then
   L1 ((([m_0.1,m_0.2.1,m_0.2.2.1,m_0.2.2.2.1,m_0.2.2.2.2.1,m_0.2.2.2.2.2.1,(m_0.2.2.2.2.2.2.1.length:Int)]++m_0.2.2.2.2.2.2.1)++[m_0.2.2.2.2.2.2.2.1,m_0.2.2.2.2.2.2.2.2.1]).length:Int) 0 m_0.1 m_0.2.1 m_0.2.2.1 m_0.2.2.2.1 m_0.2.2.2.2.1 m_0.2.2.2.2.2.1 m_0.2.2.2.2.2.2.1 m_0.2.2.2.2.2.2.2.1 m_0.2.2.2.2.2.2.2.2.1 m_0.2.2.2.2.2.2.2.2.2 [] (([m_0.1,m_0.2.1,m_0.2.2.1,m_0.2.2.2.1,m_0.2.2.2.2.1,m_0.2.2.2.2.2.1,(m_0.2.2.2.2.2.2.1.length:Int)]++m_0.2.2.2.2.2.2.1)++[m_0.2.2.2.2.2.2.2.1,m_0.2.2.2.2.2.2.2.2.1])
  else none
 else none
noncomputable def X6j (n:Nat):Nat→Zy3:=iter (fun _ _ _ _ _ _ _ _ _ _ _ _ _ _=>none) fun L=>X6a L
noncomputable def Zqh (n m:Nat) (v2 v3 v4 v5 v6 v7 v8 v9:Int) (v10:List Int) (v11 v12:Int) (v13:ByteArray) (v14 v15:List Int):Option Zhj:=
 Qjl X3i tab (fiB [.val Qsi] Zx1) n [.val Qsi] [⟨t66,[true],none⟩] Tryz.f173 [1,1,1,1,1,0,1,0] [] [1,4,37,38,39] m
 ⟨[(1,V1 (.ptr (1,0) 0)),(4,V1 (.ref (888888,4))),(37,V1 (.ref (888888,37))),(38,Vp t2 v2),(39,Vp t2 v3)],[((1,0),Ob.box 105 [LV.pure t2 v4,LV.pure t2 v5,LV.pure t2 v6,LV.pure t2 v7,LV.pure t2 v8,LV.pure t2 v9,LV.pure t44 v10,LV.pure t2 v11,LV.pure t2 v12,LV.pure t9 v13]),((888888,4),Ob.row 5 t5 v14),((888888,37),Ob.row 3 t2 v15)]⟩
theorem X7t (n m:Nat):Zqh n (m+1)=X6a (Zqh n m):=by kernel_rfl
theorem X1g (n:Nat):∀ m,Zqh n m=X6j n m
 | 0=>rfl
 | m+1=>by rw [X7t n m,X1g n m];rfl
noncomputable def X98 (n:Nat) (m_0:Int × Int × Int × Int × Int × Int × (List Int) × Int × Int × ByteArray):Option Zhj:=X9x (X6j n n) m_0
noncomputable def X7p (m_0:Int × Int × Int × Int × Int × Int × (List Int) × Int × Int × ByteArray):Option Zhj:=X98 1099511627776 m_0
noncomputable def X3z:Ent:=⟨[.val Qsi],[⟨t66,[true],none⟩],fun x=>X7p x.1⟩
theorem Xb3 (n:Nat) (m_0:Int × Int × Int × Int × Int × Int × (List Int) × Int × Int × ByteArray):Qdf X3i tab Zx1 n [.val Qsi] [⟨t66,[true],none⟩] Tryz.f173 (m_0,())=X98 n m_0:=Eq.trans (b:=X9x (Zqh n n) m_0) (by kernel_rfl) (by rw [X1g n n];rfl)
theorem Zzn:Q4j tab.ty Tryz.prog 173 X3z:=
 Qjd (Γ:=X3i) (fi:=Zx1) (n:=1099511627776) follows (Qjq X9s (Qjq Zwn (Qjq Zxm (Qjq X9b Qju)))) Qjz Tryz.func173 (by kernel_rfl) (by kernel_rfl) fun x r h=>(Xb3 1099511627776 x.1).trans h
noncomputable def X0w (l_0:List Z8z) (g_1:Int × ByteArray × Bool):Option ((Qq2 × Unit) × Unit):=
 Option.bind (Qly l_0) fun r1=>
 bif decide ((r1.1.1.length:Int) ≥ 60) then
  some ((r1.1.1,()),())
 else
 bif Nat.ble (r1.1.1.length+1) 1073741824 then
  some ((r1.1.1++[g_1],()),())
 else none
noncomputable def Zxa:Ent:=⟨[.val t24,.val t74],[⟨t24,[true],none⟩],fun x=>X0w x.1 x.2.1⟩
theorem Zx0:Q4j tab.ty Tryz.prog 174 Zxa:=
 Qjd (Γ:=[(86,Qmo)]) (fi:={ keep:=[],vty:=[],vals:=[],live:=[(0,[0,3]),(1,[0,3]),(2,[0,3,9]),(3,[4]),(4,[4])] }) (n:=1) follows (Qjq Qmk Qju) Qjz Tryz.func174 (by kernel_rfl) (by kernel_rfl) fun x r h=>Eq.trans (by kernel_rfl) h
abbrev Qki:Type:=Unit × (Zka × Unit)
noncomputable def Qpi:Ctx:=[(173,X3z),(174,Zxa)]
def Qp2:Fi:={ keep:=[],vty:=[],vals:=[],live:=[(0,[0,7,8,9]),(1,[0,7,8,9,10]),(2,[0,5,7,8,9]),(3,[0,5,6,7,8,9]),(4,[0,5,6,7,8,9,17]),(5,[0,7,8,9]),(6,[0,7,8,9])] }
abbrev Qt2:Type:=Qtq→Int→Int→Qq2→Int→List (List Int)→X4e→Qsj→List ByteArray→Option Qki
abbrev Qsx:Type:=Qtq→Int→Int→Int→List (List Int)→X4e→Qsj→Qq2→List ByteArray→Option Qki
noncomputable def Z1i (L2:Qsx) (L1:Qt2) (v1:List Qko) (v2 v3:Int) (v4:List Z8z) (v5:Int) (v6:List (List Int)) (v7:List Qkr) (v8:List Z3k) (v9:List ByteArray):Option Qki:=
 bif decide (v3<v2) then
  bif decide (0≤v3)&&decide (v3<(v1.length:Int)) then
   Option.bind (X7p ((List.getD v1 v3.toNat Ql1).1,((List.getD v1 v3.toNat Ql1).2).1,(((List.getD v1 v3.toNat Ql1).2).2).1,((((List.getD v1 v3.toNat Ql1).2).2).2).1,(((((List.getD v1 v3.toNat Ql1).2).2).2).2).1,((((((List.getD v1 v3.toNat Ql1).2).2).2).2).2).1,(((((((List.getD v1 v3.toNat Ql1).2).2).2).2).2).2).1,((((((((List.getD v1 v3.toNat Ql1).2).2).2).2).2).2).2).1,(((((((((List.getD v1 v3.toNat Ql1).2).2).2).2).2).2).2).2))) fun r10=>
   bif decide ((r10.1.1.length:Int)>0) then
    Option.bind (X0w v4 ((((List.getD v1 v3.toNat Ql1).2).2).1,Q4w r10.1.1,false)) fun r11=>
    L2 v1 v2 (IntKind.wrap .i64 (v3+1)) v5 v6 v7 v8 r11.1.1 v9
   else
    L1 v1 v2 (IntKind.wrap .i64 (v3+1)) v4 v5 v6 v7 v8 v9
  else none
 else
  some ((),(((v8,v4,v9,v5,v6,v7),()),()))
noncomputable def Z1y (L2:Qsx) (v12:List Qko) (v13 v14 v15:Int) (v16:List (List Int)) (v17:List Qkr) (v18:List Z3k) (v19:List Z8z) (v20:List ByteArray):Option Qki:=
 bif decide (v14<v13) then
  bif decide (0≤v14)&&decide (v14<(v12.length:Int)) then
   Option.bind (X7p ((List.getD v12 v14.toNat Ql1).1,((List.getD v12 v14.toNat Ql1).2).1,(((List.getD v12 v14.toNat Ql1).2).2).1,((((List.getD v12 v14.toNat Ql1).2).2).2).1,(((((List.getD v12 v14.toNat Ql1).2).2).2).2).1,((((((List.getD v12 v14.toNat Ql1).2).2).2).2).2).1,(((((((List.getD v12 v14.toNat Ql1).2).2).2).2).2).2).1,((((((((List.getD v12 v14.toNat Ql1).2).2).2).2).2).2).2).1,(((((((((List.getD v12 v14.toNat Ql1).2).2).2).2).2).2).2).2))) fun r21=>
   bif decide ((r21.1.1.length:Int)>0) then
    Option.bind (X0w v19 ((((List.getD v12 v14.toNat Ql1).2).2).1,Q4w r21.1.1,false)) fun r22=>
    L2 v12 v13 (IntKind.wrap .i64 (v14+1)) v15 v16 v17 v18 r22.1.1 v20
   else
    L2 v12 v13 (IntKind.wrap .i64 (v14+1)) v15 v16 v17 v18 v19 v20
  else none
 else
  some ((),(((v18,v19,v20,v15,v16,v17),()),()))
noncomputable def Z3q (L1:Qt2) (w_0:Zmw × Unit) (l_1:List Qko):Option Qki:=
 L1 l_1 (l_1.length:Int) 0 w_0.1.2.1 (g3 w_0.1) (g4 w_0.1) (h5 w_0.1) w_0.1.1 w_0.1.2.2.1
noncomputable def Z12 (n:Nat):Nat→Qsx:=iter (fun _ _ _ _ _ _ _ _ _=>none) fun L=>Z1y L
noncomputable def Z1r (n:Nat):Nat→Qt2:=Qj7 (fun _ _ _ _ _ _ _ _ _=>none) fun m L=>Z1i (Z12 n m) L
noncomputable def Qp0 (n m:Nat) (v1:List Qko) (v2 v3:Int) (v4:List Z8z) (v5:Int) (v6:List (List Int)) (v7:List Qkr) (v8:List Z3k) (v9:List ByteArray):Option Qki:=
 Qjl Qpi tab (fiB [.box 117 Xao [true,false,true,false,false,false],.val t70] Qp2) n [.box 117 Xao [true,false,true,false,false,false],.val t70] [] Tryz.f141 [1,0] [] [0,7,8,9] m
 ⟨[(0,V1 (.ptr (0,0) 0)),(7,Vp t70 v1),(8,Vp t2 v2),(9,Vp t2 v3)],[((0,0),Ob.box 117 [LV.ref (0,1),LV.pure t24 v4,LV.ref (0,3),LV.pure t2 v5,LV.pure t26 v6,LV.pure t27 v7]),((0,1),Ob.row 59 t58 v8),((0,3),Ob.row 9 t9 v9)]⟩
noncomputable def Qoy (n m:Nat) (v12:List Qko) (v13 v14 v15:Int) (v16:List (List Int)) (v17:List Qkr) (v18:List Z3k) (v19:List Z8z) (v20:List ByteArray):Option Qki:=
 Qjl Qpi tab (fiB [.box 117 Xao [true,false,true,false,false,false],.val t70] Qp2) n [.box 117 Xao [true,false,true,false,false,false],.val t70] [] Tryz.f141 [1,0] [] [0,7,8,9] m
 ⟨[(0,V1 (.ptr (0,0) 0)),(7,Vp t70 v12),(8,Vp t2 v13),(9,Vp t2 v14)],[((0,0),Ob.box 117 [LV.ref (0,1),LV.ref (0,2),LV.ref (0,3),LV.pure t2 v15,LV.pure t26 v16,LV.pure t27 v17]),((0,1),Ob.row 59 t58 v18),((0,2),Ob.row 75 t74 v19),((0,3),Ob.row 9 t9 v20)]⟩
theorem Zg0 (n m:Nat):Qp0 n (m+1)=Z1i (Qoy n m) (Qp0 n m):=by kernel_rfl
theorem Zg1 (n m:Nat):Qoy n (m+1)=Z1y (Qoy n m):=by kernel_rfl
theorem Z0o (n:Nat):∀ m,Qoy n m=Z12 n m
 | 0=>rfl
 | m+1=>by rw [Zg1 n m,Z0o n m];rfl
theorem Z0i (n:Nat):∀ m,Qp0 n m=Z1r n m
 | 0=>rfl
 | m+1=>by rw [Zg0 n m,Z0o n m,Z0i n m];rfl
noncomputable def Z4v (n:Nat) (w_0:Zmw × Unit) (l_1:List Qko):Option Qki:=Z3q (Z1r n n) w_0 l_1
noncomputable def Qoq (w_0:Zmw × Unit) (l_1:List Qko):Option Qki:=Z4v 1099511627776 w_0 l_1
noncomputable def Qn1:Ent:=⟨[.box 117 Xao [true,false,true,false,false,false],.val t70],[],fun x=>Qoq x.1 x.2.1⟩
theorem Zmz (n:Nat) (w_0:Zmw × Unit) (l_1:List Qko):Qdf Qpi tab Qp2 n [.box 117 Xao [true,false,true,false,false,false],.val t70] [] Tryz.f141 (w_0,l_1,())=Z4v n w_0 l_1:=Eq.trans (b:=Z3q (Qp0 n n) w_0 l_1) (by kernel_rfl) (by rw [Z0i n n];rfl)
theorem Qnh:Q4j tab.ty Tryz.prog 141 Qn1:=
 Qjd (Γ:=Qpi) (fi:=Qp2) (n:=1099511627776) follows (Qjq Zzn (Qjq Zx0 Qju)) Qjz Tryz.func141 (by kernel_rfl) (by kernel_rfl) fun x r h=>(Zmz 1099511627776 x.1 x.2.1).trans h
noncomputable def Z07 (w_0:Zmw × Unit) (r_1:Int) (leaves_2:Bool):Option ((IV × Unit) × (Zka × Unit)):=
 bif decide (r_1<1)||decide (r_1>(w_0.1.1.length:Int)) then
  some ((IV.mk 122 [.int .i64 1],()),((w_0.1,()),()))
 else
 bif decide (0≤r_1 - 1)&&decide (r_1 - 1<(w_0.1.1.length:Int)) then
  bif !((List.getD w_0.1.1 ((r_1 - 1).toNat) Qk4).1) then
   some ((IV.mk 122 [.int .i64 3],()),((w_0.1,()),()))
  else
  bif r_1==1 then
   some ((IV.mk 122 [.int .i64 1],()),((w_0.1,()),()))
  else
  bif leaves_2 then
   bif decide (0≤r_1 - 1)&&decide (r_1 - 1<(w_0.1.1.length:Int)) then
    Option.bind (Xay ((List.getD w_0.1.1 ((r_1 - 1).toNat) Qk4).1,((List.getD w_0.1.1 ((r_1 - 1).toNat) Qk4).2).1,(((List.getD w_0.1.1 ((r_1 - 1).toNat) Qk4).2).2).1,((((((List.getD w_0.1.1 ((r_1 - 1).toNat) Qk4).2).2).2).1).1,((((((List.getD w_0.1.1 ((r_1 - 1).toNat) Qk4).2).2).2).1).2).1,(((((((List.getD w_0.1.1 ((r_1 - 1).toNat) Qk4).2).2).2).1).2).2).1,((((((((List.getD w_0.1.1 ((r_1 - 1).toNat) Qk4).2).2).2).1).2).2).2).1,(((((((((List.getD w_0.1.1 ((r_1 - 1).toNat) Qk4).2).2).2).1).2).2).2).2).1,((((((((((List.getD w_0.1.1 ((r_1 - 1).toNat) Qk4).2).2).2).1).2).2).2).2).2).1,(((((((((((List.getD w_0.1.1 ((r_1 - 1).toNat) Qk4).2).2).2).1).2).2).2).2).2).2).1,((((((((((((List.getD w_0.1.1 ((r_1 - 1).toNat) Qk4).2).2).2).1).2).2).2).2).2).2).2).1,(((((((((((((List.getD w_0.1.1 ((r_1 - 1).toNat) Qk4).2).2).2).1).2).2).2).2).2).2).2).2).1,((((((((((((((List.getD w_0.1.1 ((r_1 - 1).toNat) Qk4).2).2).2).1).2).2).2).2).2).2).2).2).2).1,(((((((((((((((List.getD w_0.1.1 ((r_1 - 1).toNat) Qk4).2).2).2).1).2).2).2).2).2).2).2).2).2).2).1,((((((((((((((((List.getD w_0.1.1 ((r_1 - 1).toNat) Qk4).2).2).2).1).2).2).2).2).2).2).2).2).2).2).2)),(((((((List.getD w_0.1.1 ((r_1 - 1).toNat) Qk4).2).2).2).2).1).1,(((((((List.getD w_0.1.1 ((r_1 - 1).toNat) Qk4).2).2).2).2).1).2).1,((((((((List.getD w_0.1.1 ((r_1 - 1).toNat) Qk4).2).2).2).2).1).2).2).1,(((((((((List.getD w_0.1.1 ((r_1 - 1).toNat) Qk4).2).2).2).2).1).2).2).2).1,((((((((((List.getD w_0.1.1 ((r_1 - 1).toNat) Qk4).2).2).2).2).1).2).2).2).2).1,(((((((((((List.getD w_0.1.1 ((r_1 - 1).toNat) Qk4).2).2).2).2).1).2).2).2).2).2)),(((((List.getD w_0.1.1 ((r_1 - 1).toNat) Qk4).2).2).2).2).2)) fun r1=>
    Option.bind (X67 (h3 w_0.1) r_1) fun r2=>
    bif decide (0≤r_1 - 1)&&decide (r_1 - 1<(w_0.1.1.length:Int)) then
     Option.bind (Qoq ((e3 (u0 w_0.1 (List.set w_0.1.1 ((r_1 - 1).toNat) r1.1.1)) r2.1.1),()) r1.1.2.1) fun r3=>
     some ((IV.nil,()),((r3.2.1.1,()),()))
    else none
   else none
  else
  bif decide (0≤r_1 - 1)&&decide (r_1 - 1<(w_0.1.1.length:Int)) then
   Option.bind (Zx7 ((List.getD w_0.1.1 ((r_1 - 1).toNat) Qk4).1,((List.getD w_0.1.1 ((r_1 - 1).toNat) Qk4).2).1,(((List.getD w_0.1.1 ((r_1 - 1).toNat) Qk4).2).2).1,((((((List.getD w_0.1.1 ((r_1 - 1).toNat) Qk4).2).2).2).1).1,((((((List.getD w_0.1.1 ((r_1 - 1).toNat) Qk4).2).2).2).1).2).1,(((((((List.getD w_0.1.1 ((r_1 - 1).toNat) Qk4).2).2).2).1).2).2).1,((((((((List.getD w_0.1.1 ((r_1 - 1).toNat) Qk4).2).2).2).1).2).2).2).1,(((((((((List.getD w_0.1.1 ((r_1 - 1).toNat) Qk4).2).2).2).1).2).2).2).2).1,((((((((((List.getD w_0.1.1 ((r_1 - 1).toNat) Qk4).2).2).2).1).2).2).2).2).2).1,(((((((((((List.getD w_0.1.1 ((r_1 - 1).toNat) Qk4).2).2).2).1).2).2).2).2).2).2).1,((((((((((((List.getD w_0.1.1 ((r_1 - 1).toNat) Qk4).2).2).2).1).2).2).2).2).2).2).2).1,(((((((((((((List.getD w_0.1.1 ((r_1 - 1).toNat) Qk4).2).2).2).1).2).2).2).2).2).2).2).2).1,((((((((((((((List.getD w_0.1.1 ((r_1 - 1).toNat) Qk4).2).2).2).1).2).2).2).2).2).2).2).2).2).1,(((((((((((((((List.getD w_0.1.1 ((r_1 - 1).toNat) Qk4).2).2).2).1).2).2).2).2).2).2).2).2).2).2).1,((((((((((((((((List.getD w_0.1.1 ((r_1 - 1).toNat) Qk4).2).2).2).1).2).2).2).2).2).2).2).2).2).2).2)),(((((((List.getD w_0.1.1 ((r_1 - 1).toNat) Qk4).2).2).2).2).1).1,(((((((List.getD w_0.1.1 ((r_1 - 1).toNat) Qk4).2).2).2).2).1).2).1,((((((((List.getD w_0.1.1 ((r_1 - 1).toNat) Qk4).2).2).2).2).1).2).2).1,(((((((((List.getD w_0.1.1 ((r_1 - 1).toNat) Qk4).2).2).2).2).1).2).2).2).1,((((((((((List.getD w_0.1.1 ((r_1 - 1).toNat) Qk4).2).2).2).2).1).2).2).2).2).1,(((((((((((List.getD w_0.1.1 ((r_1 - 1).toNat) Qk4).2).2).2).2).1).2).2).2).2).2)),(((((List.getD w_0.1.1 ((r_1 - 1).toNat) Qk4).2).2).2).2).2)) fun r4=>
   bif decide (0≤r_1 - 1)&&decide (r_1 - 1<(w_0.1.1.length:Int)) then
    some ((IV.nil,()),(((List.set w_0.1.1 ((r_1 - 1).toNat) r4.1.1,w_0.1.2),()),()))
   else none
  else none
 else none
noncomputable def Z6f:Ent:=⟨[.box 117 Xao [true,false,true,false,false,false],.val t2,.val t4],[⟨t20,[false],none⟩],fun x=>Z07 x.1 x.2.1 x.2.2.1⟩
theorem Zkb:Q4j tab.ty Tryz.prog 94 Z6f:=
 Qjd (Γ:=[(139,X6g),(140,Zzq),(141,Qn1),(142,Zom)]) (fi:={ keep:=[],vty:=[],vals:=[],live:=[(0,[0,1,2]),(1,[0,1,2,7,8]),(2,[0]),(3,[0,1,2,7,8,23]),(4,[0,6]),(5,[0,1,2,7,27]),(6,[0,6]),(7,[0,1,2,7,35]),(8,[0,6]),(9,[0,1,7,40]),(10,[0,1,7,9,10]),(11,[0,10]),(12,[0]),(13,[0,6])] }) (n:=1) follows (Qjq X7o (Qjq X2s (Qjq Qnh (Qjq Zo4 Qju)))) Qjz Tryz.func94 (by kernel_rfl) (by kernel_rfl) fun x r h=>Eq.trans (by kernel_rfl) h
noncomputable def Qov (f_0:Int × Int × Qkg × Qkg × Qpf × Int × Int):Option ((Qnc × Unit) × Unit):=
 Option.bind (Qka f_0.2.2.1) fun r1=>
 Option.bind (Qka (g3 f_0)) fun r2=>
 Option.bind (Ql5 (g4 f_0)) fun r3=>
 some (((u4 (u3 (u2 f_0 r1.1.1) r2.1.1) r3.1.1),()),())
noncomputable def Qx0:Ent:=⟨[.val t56],[⟨t56,[false,false,true,true,true,false,false],none⟩],fun x=>Qov x.1⟩
theorem Qso:Q4j tab.ty Tryz.prog 212 Qx0:=
 Qjd (Γ:=[(131,Qlc),(132,Qky)]) (fi:={ keep:=[],vty:=[],vals:=[],live:=[(0,[1,2]),(1,[1,2]),(2,[2])] }) (n:=1) follows (Qjq Qkz (Qjq Qkv Qju)) Qjz Tryz.func212 (by kernel_rfl) (by kernel_rfl) fun x r h=>Eq.trans (by kernel_rfl) h
noncomputable def X0v (l_0:List Qkq) (seq_1:Int) (text_2:ByteArray):Option ((Qpf × Unit) × Unit):=
 Option.bind (Ql5 l_0) fun r1=>
 bif Nat.ble (r1.1.1.length+1) 1073741824 then
  some ((r1.1.1++[(1,seq_1,seq_1,text_2,0)],()),())
 else none
noncomputable def Zy5:Ent:=⟨[.val t53,.val t2,.val t9],[⟨t53,[true],none⟩],fun x=>X0v x.1 x.2.1 x.2.2.1⟩
theorem Zv2:Q4j tab.ty Tryz.prog 213 Zy5:=
 Qjd (Γ:=[(132,Qky)]) (fi:={ keep:=[],vty:=[],vals:=[],live:=[(0,[0,1,2]),(1,[6])] }) (n:=1) follows (Qjq Qkv Qju) Qjz Tryz.func213 (by kernel_rfl) (by kernel_rfl) fun x r h=>Eq.trans (by kernel_rfl) h
noncomputable def X3a (r1:(Qkg × Unit) × Unit) (i_1:Int × ByteArray):Option ((Qkg × Unit) × Unit):=
 bif Nat.ble (r1.1.1.length+1) 1073741824 then
  bif (decide (0≤(if 0>IntKind.wrap .i64 (((r1.1.1++[i_1]).length:Int) - 6) then 0 else IntKind.wrap .i64 (((r1.1.1++[i_1]).length:Int) - 6)))&&decide ((if 0>IntKind.wrap .i64 (((r1.1.1++[i_1]).length:Int) - 6) then 0 else IntKind.wrap .i64 (((r1.1.1++[i_1]).length:Int) - 6))≤((r1.1.1++[i_1]).length:Int)))&&decide (((r1.1.1++[i_1]).length:Int)≤((r1.1.1++[i_1]).length:Int)) then
   Option.bind (Qka (List.drop ((if 0>IntKind.wrap .i64 (((r1.1.1++[i_1]).length:Int) - 6) then 0 else IntKind.wrap .i64 (((r1.1.1++[i_1]).length:Int) - 6)).toNat) (List.take (((r1.1.1++[i_1]).length:Int).toNat) (r1.1.1++[i_1])))) fun r2=>
   some ((r2.1.1,()),())
  else none
 else none
noncomputable def X0x (l_0:List Qk2) (i_1:Int × ByteArray):Option ((Qkg × Unit) × Unit):=
 Option.bind (Qka l_0) fun r1=>
 bif decide ((l_0.length:Int)>0) then
  bif decide (0≤IntKind.wrap .i64 ((l_0.length:Int) - 1))&&decide (IntKind.wrap .i64 ((l_0.length:Int) - 1)<(l_0.length:Int)) then
   bif decide (i_1.1≤(List.getD l_0 ((IntKind.wrap .i64 ((l_0.length:Int) - 1)).toNat) (0,(⟨#[]⟩:ByteArray))).1) then
    some ((r1.1.1,()),())
   else
    X3a r1 i_1
  else none
 else
  X3a r1 i_1
noncomputable def Zx4:Ent:=⟨[.val t52,.val Qyo],[⟨t52,[true],none⟩],fun x=>X0x x.1 x.2.1⟩
theorem Zw1:Q4j tab.ty Tryz.prog 214 Zx4:=
 Qjd (Γ:=[(131,Qlc)]) (fi:={ keep:=[],vty:=[],vals:=[],live:=[(0,[0,3,12,13,14,15,16,17,18,19,20,21]),(1,[0,3,5,12,13,14,15,16,17,18,19,20,21]),(2,[3,5,22]),(3,[4]),(4,[5]),(5,[4])] }) (n:=1) follows (Qjq Qkz Qju) Qjz Tryz.func214 (by kernel_rfl) (by kernel_rfl) fun x r h=>Eq.trans (by kernel_rfl) h
noncomputable def Xaj (f_0:Int × Int × Qkg × Qkg × Qpf × Int × Int) (text_1:ByteArray):Option ((Qnc × Bool × Unit) × Unit):=
 Option.bind (Qov f_0) fun r1=>
 bif decide ((text_1.size:Int)>12) then
  some ((r1.1.1,false,()),())
 else
 bif decide ((if 1>r1.1.1.1 then 1 else r1.1.1.1)>1000000) then
  some ((r1.1.1,false,()),())
 else
  Option.bind (X0v (g4 r1.1.1) (if 1>r1.1.1.1 then 1 else r1.1.1.1) text_1) fun r2=>
  Option.bind (X0x r1.1.1.2.2.1 (if 1>r1.1.1.1 then 1 else r1.1.1.1,text_1)) fun r3=>
  some (((u4 (u2 (u1 (u0 r1.1.1 (IntKind.wrap .i64 ((if 1>r1.1.1.1 then 1 else r1.1.1.1)+1))) (if 1>r1.1.1.1 then 1 else r1.1.1.1)) r3.1.1) r2.1.1),true,()),())
noncomputable def X5s:Ent:=⟨[.val t56,.val t9],[⟨t56,(nF 7),none⟩,⟨t4,[false],none⟩],fun x=>Xaj x.1 x.2.1⟩
theorem X7i:Q4j tab.ty Tryz.prog 175 X5s:=
 Qjd (Γ:=[(212,Qx0),(213,Zy5),(214,Zx4)]) (fi:={ keep:=[],vty:=[],vals:=[],live:=[(0,[1,2,4,16,17]),(1,[1,2,4,16,17]),(2,[1,2,4,6,16,17]),(3,[1,2,4,6,18]),(4,[4,5]),(5,[2,4,6]),(6,[2,4]),(7,[4,5])] }) (n:=1) follows (Qjq Qso (Qjq Zv2 (Qjq Zw1 Qju))) Qjz Tryz.func175 (by kernel_rfl) (by kernel_rfl) fun x r h=>Eq.trans (by kernel_rfl) h
noncomputable def X6c (f_0 old_1:Int × Int × Qkg × Qkg × Qpf × Int × Int):Option ((Qpf × Unit) × Unit):=
 bif (decide (0≤(if ((g4 f_0).length:Int)<((g4 old_1).length:Int) then ((g4 f_0).length:Int) else ((g4 old_1).length:Int)))&&decide ((if ((g4 f_0).length:Int)<((g4 old_1).length:Int) then ((g4 f_0).length:Int) else ((g4 old_1).length:Int))≤((g4 f_0).length:Int)))&&decide (((g4 f_0).length:Int)≤((g4 f_0).length:Int)) then
  Option.bind (Ql5 (List.drop ((if ((g4 f_0).length:Int)<((g4 old_1).length:Int) then ((g4 f_0).length:Int) else ((g4 old_1).length:Int)).toNat) (List.take (((g4 f_0).length:Int).toNat) (g4 f_0)))) fun r1=>
  some ((r1.1.1,()),())
 else none
noncomputable def Zzm:Ent:=⟨[.val t56,.val t56],[⟨t53,[true],none⟩],fun x=>X6c x.1 x.2.1⟩
theorem X1p:Q4j tab.ty Tryz.prog 215 Zzm:=
 Qjd (Γ:=[(132,Qky)]) (fi:={ keep:=[],vty:=[],vals:=[],live:=[(0,[2,3]),(1,[4])] }) (n:=1) follows (Qjq Qkv Qju) Qjz Tryz.func215 (by kernel_rfl) (by kernel_rfl) fun x r h=>Eq.trans (by kernel_rfl) h
noncomputable def Z9a (n_0:Bool × Int × ByteArray × Qli × Qnc × Int) (kind_1 to_2 lo_3 hi_4:Int) (s_5:ByteArray):Option ((Qko × Unit) × Unit):=
 some (((kind_1,(g3 n_0).1,to_2,(g3 n_0).2.1,0,0,[],lo_3,hi_4,s_5),()),())
noncomputable def Zf3:Ent:=⟨[.val t58,.val t2,.val t2,.val t2,.val t2,.val t9],[⟨Qsi,(nF 6++[true,false,false,false]),none⟩],fun x=>Z9a x.1 x.2.1 x.2.2.1 x.2.2.2.1 x.2.2.2.2.1 x.2.2.2.2.2.1⟩
theorem Zc8:Q4j tab.ty Tryz.prog 179 Zf3:=
 Qjd (Γ:=[]) (fi:={ keep:=[],vty:=[],vals:=[],live:=[(0,[1,2,3,4,5,6,12]),(1,[12])] }) (n:=1) follows Qju Qjz Tryz.func179 (by kernel_rfl) (by kernel_rfl) fun x r h=>Eq.trans (by kernel_rfl) h
abbrev Qq5:Type:=(Qtq × Unit) × Unit
noncomputable def Zkq:Ctx:=[(179,Zf3),(215,Zzm)]
def Zfc:Fi:={ keep:=[],vty:=[(4,70)],vals:=[],live:=[(0,[2,3,4]),(1,[2,4,12,13,14]),(2,[2,4,12,13,14,15]),(3,[2,4,6,12,13,14]),(4,[2,4,6,12,13,14,20,21,22]),(5,[2,4,6,12,13,14,20,21,22,23]),(6,[2,4,6,8,12,13,14,20,21,22]),(7,[2,4,6,8,12,13,14,20,21,22,28]),(8,[2,4,6,12,13,14,20,21,22]),(9,[2,4,6,12,13,14,20,21,22]),(10,[2,4,6,12,13,14,20,21,22]),(11,[2,4,12,13,14]),(12,[4])] }
abbrev Zdb:Type:=Int→Int→Bool→Int→ByteArray→Int→Int→Int→Int→Int→Int→List Int→Int→Int→Int→Int→Int→Zjb→Int→Int→Qkg→Qkg→Qpf→Int→Int→Int→Qtq→Qpf→Option Qq5
abbrev Zdy:Type:=Int→Int→Zjb→Int→Int→Bool→Int→ByteArray→Int→Int→Int→Int→Int→Int→List Int→Int→Int→Int→Int→Int→Zjb→Int→Int→Qkg→Qkg→Qpf→Int→Int→Int→Qtq→Int→Int→Int→ByteArray→Int→Qpf→Option Qq5
noncomputable def Zzv (v59:List Qko) (L2:Zdy) (v30 v31:Int) (v32:List Qkm) (v33 v34:Int) (v35:Bool) (v36:Int) (v37:ByteArray) (v38 v39 v40 v41 v42 v43:Int) (v44:List Int) (v45 v46 v47 v48 v49:Int) (v50:List Qkm) (v51 v52:Int) (v53 v54:List Qk2) (v55:List Qkq) (v56 v57 v58:Int) (r66:(Qko × Unit) × Unit) (v60 v61 v62:Int) (v63:ByteArray) (v64:Int) (v65:List Qkq):Option Qq5:=
 bif Nat.ble (v59.length+1) 1073741824 then
  L2 v30 v31 v32 v33 (IntKind.wrap .i64 (v34+1)) v35 v36 v37 v38 v39 v40 v41 v42 v43 v44 v45 v46 v47 v48 v49 v50 v51 v52 v53 v54 v55 v56 v57 v58 (v59++[r66.1.1]) v60 v61 v62 v63 v64 v65
 else none
noncomputable def Zyl (L2:Zdy) (v2 v3:Int) (v4:Bool) (v5:Int) (v6:ByteArray) (v7 v8 v9 v10 v11 v12:Int) (v13:List Int) (v14 v15 v16 v17 v18:Int) (v19:List Qkm) (v20 v21:Int) (v22 v23:List Qk2) (v24:List Qkq) (v25 v26 v27:Int) (v28:List Qko) (v29:List Qkq):Option Qq5:=
 bif decide (v3<v2) then
  bif decide (0≤v3)&&decide (v3<(v29.length:Int)) then
   bif decide (0≤v3)&&decide (v3<(v29.length:Int)) then
    L2 v2 v3 v19 (v19.length:Int) 0 v4 v5 v6 v7 v8 v9 v10 v11 v12 v13 v14 v15 v16 v17 v18 v19 v20 v21 v22 v23 v24 v25 v26 v27 v28 ((List.getD v29 v3.toNat X5a).1) (((List.getD v29 v3.toNat X5a).2).1) ((((List.getD v29 v3.toNat X5a).2).2).1) (((((List.getD v29 v3.toNat X5a).2).2).2).1) (((((List.getD v29 v3.toNat X5a).2).2).2).2) v29
   else none
  else none
 else
  some ((v28,()),())
noncomputable def Zz0 (L2:Zdy) (L1:Zdb) (v30 v31:Int) (v32:List Qkm) (v33 v34:Int) (v35:Bool) (v36:Int) (v37:ByteArray) (v38 v39 v40 v41 v42 v43:Int) (v44:List Int) (v45 v46 v47 v48 v49:Int) (v50:List Qkm) (v51 v52:Int) (v53 v54:List Qk2) (v55:List Qkq) (v56 v57 v58:Int) (v59:List Qko) (v60 v61 v62:Int) (v63:ByteArray) (v64:Int) (v65:List Qkq):Option Qq5:=
 bif decide (v34<v33) then
  bif decide (0≤v34)&&decide (v34<(v32.length:Int)) then
   bif v60==1 then
    Option.bind (Z9a (v35,v36,v37,(v38,v39,v40,v41,v42,v43,v44,v45,v46,v47,v48,v49,v50),(v51,v52,v53,v54,v55,v56,v57),v58) 7 ((List.getD v32 v34.toNat (0,0,0)).1) v61 0 v63) fun r66=>
    Zzv v59 L2 v30 v31 v32 v33 v34 v35 v36 v37 v38 v39 v40 v41 v42 v43 v44 v45 v46 v47 v48 v49 v50 v51 v52 v53 v54 v55 v56 v57 v58 r66 v60 v61 v62 v63 v64 v65
   else
    Option.bind (Z9a (v35,v36,v37,(v38,v39,v40,v41,v42,v43,v44,v45,v46,v47,v48,v49,v50),(v51,v52,v53,v54,v55,v56,v57),v58) 9 ((List.getD v32 v34.toNat (0,0,0)).1) v61 v62 (⟨#[]⟩:ByteArray)) fun r67=>
    Zzv v59 L2 v30 v31 v32 v33 v34 v35 v36 v37 v38 v39 v40 v41 v42 v43 v44 v45 v46 v47 v48 v49 v50 v51 v52 v53 v54 v55 v56 v57 v58 r67 v60 v61 v62 v63 v64 v65
  else none
 else
  L1 v30 (IntKind.wrap .i64 (v31+1)) v35 v36 v37 v38 v39 v40 v41 v42 v43 v44 v45 v46 v47 v48 v49 v50 v51 v52 v53 v54 v55 v56 v57 v58 v59 v65
noncomputable def X3o (L1:Zdb) (n_0:Bool × Int × ByteArray × Qli × Qnc × Int) (old_1:Int × Int × Qkg × Qkg × Qpf × Int × Int):Option Qq5:=
 Option.bind (X6c (g4 n_0) old_1) fun r1=>
 L1 (r1.1.1.length:Int) 0 n_0.1 n_0.2.1 n_0.2.2.1 (g3 n_0).1 (g3 n_0).2.1 (g3 n_0).2.2.1 (g3 (g3 n_0)) (g4 (g3 n_0)) (g5 (g3 n_0)) (g6 (g3 n_0)) (g7 (g3 n_0)) (g8 (g3 n_0)) (g9 (g3 n_0)) (g10 (g3 n_0)) (g11 (g3 n_0)) (h12 (g3 n_0)) (g4 n_0).1 (g4 n_0).2.1 (g4 n_0).2.2.1 (g3 (g4 n_0)) (g4 (g4 n_0)) (g5 (g4 n_0)) (h6 (g4 n_0)) (h5 n_0) [] r1.1.1
noncomputable def X04 (n:Nat) (m1:Nat) (r1:Zdb):Nat→Zdy:=iter (fun _ _ _ _ _ _ _ _ _ _ _ _ _ _ _ _ _ _ _ _ _ _ _ _ _ _ _ _ _ _ _ _ _ _ _ _=>none) fun L=>Zz0 L r1
noncomputable def Zzb (n:Nat):Nat→Zdb:=Qj7 (fun _ _ _ _ _ _ _ _ _ _ _ _ _ _ _ _ _ _ _ _ _ _ _ _ _ _ _ _=>none) fun m L=>Zyl (X04 n m L n)
noncomputable def Z5l (n m:Nat) (v2 v3:Int) (v4:Bool) (v5:Int) (v6:ByteArray) (v7 v8 v9 v10 v11 v12:Int) (v13:List Int) (v14 v15 v16 v17 v18:Int) (v19:List Qkm) (v20 v21:Int) (v22 v23:List Qk2) (v24:List Qkq) (v25 v26 v27:Int) (v28:List Qko) (v29:List Qkq):Option Qq5:=
 Qjl Zkq tab (fiB [.val t58,.val t56] Zfc) n [.val t58,.val t56] [⟨t70,[true],none⟩] Tryz.f176 [1,0,1,0] [] [2,4,12,13,14] m
 ⟨[(2,V1 (.ptr (2,0) 0)),(4,V1 (.ref (888888,4))),(12,V1 (.ref (888888,12))),(13,Vp t2 v2),(14,Vp t2 v3)],[((2,0),Ob.box 59 [LV.pure t4 v4,LV.pure t2 v5,LV.pure t9 v6,LV.pure t2 v7,LV.pure t2 v8,LV.pure t2 v9,LV.pure t2 v10,LV.pure t2 v11,LV.pure t2 v12,LV.pure t44 v13,LV.pure t2 v14,LV.pure t2 v15,LV.pure t2 v16,LV.pure t2 v17,LV.pure t2 v18,LV.pure t49 v19,LV.pure t2 v20,LV.pure t2 v21,LV.pure t52 v22,LV.pure t52 v23,LV.pure t53 v24,LV.pure t2 v25,LV.pure t2 v26,LV.pure t2 v27]),((888888,4),Ob.row 105 Qsi v28),((888888,12),Ob.row 144 Xa0 v29)]⟩
noncomputable def Zd5 (n m1 m:Nat) (v30 v31:Int) (v32:List Qkm) (v33 v34:Int) (v35:Bool) (v36:Int) (v37:ByteArray) (v38 v39 v40 v41 v42 v43:Int) (v44:List Int) (v45 v46 v47 v48 v49:Int) (v50:List Qkm) (v51 v52:Int) (v53 v54:List Qk2) (v55:List Qkq) (v56 v57 v58:Int) (v59:List Qko) (v60 v61 v62:Int) (v63:ByteArray) (v64:Int) (v65:List Qkq):Option Qq5:=
 Qjl Zkq tab (fiB [.val t58,.val t56] Zfc) n [.val t58,.val t56] [⟨t70,[true],none⟩] Tryz.f176 [1,0,1,0,0,1,1,0,0,1,1,0] [(m1,[2,4,12,13,14])] [2,4,6,12,13,14,20,21,22] m
 ⟨[(2,V1 (.ptr (2,0) 0)),(4,V1 (.ref (888888,4))),(6,V1 (.ptr (6,0) 0)),(12,V1 (.ref (888888,12))),(13,Vp t2 v30),(14,Vp t2 v31),(20,Vp t49 v32),(21,Vp t2 v33),(22,Vp t2 v34)],[((2,0),Ob.box 59 [LV.pure t4 v35,LV.pure t2 v36,LV.pure t9 v37,LV.pure t2 v38,LV.pure t2 v39,LV.pure t2 v40,LV.pure t2 v41,LV.pure t2 v42,LV.pure t2 v43,LV.pure t44 v44,LV.pure t2 v45,LV.pure t2 v46,LV.pure t2 v47,LV.pure t2 v48,LV.pure t2 v49,LV.pure t49 v50,LV.pure t2 v51,LV.pure t2 v52,LV.pure t52 v53,LV.pure t52 v54,LV.pure t53 v55,LV.pure t2 v56,LV.pure t2 v57,LV.pure t2 v58]),((888888,4),Ob.row 105 Qsi v59),((6,0),Ob.box 144 [LV.pure t2 v60,LV.pure t2 v61,LV.pure t2 v62,LV.pure t9 v63,LV.pure t2 v64]),((888888,12),Ob.row 144 Xa0 v65)]⟩
theorem X29 (n m:Nat):Z5l n (m+1)=Zyl (Zd5 n m n):=by kernel_rfl
theorem X3b (n m1 m:Nat):Zd5 n m1 (m+1)=Zz0 (Zd5 n m1 m) (Z5l n m1):=by kernel_rfl
theorem Zwa (n m1:Nat):∀ m,Zd5 n m1 m=X04 n m1 (Z5l n m1) m
 | 0=>rfl
 | m+1=>by rw [X3b n m1 m,Zwa n m1 m];rfl
theorem Zum (n:Nat):∀ m,Z5l n m=Zzb n m
 | 0=>rfl
 | m+1=>by rw [X29 n m,Zwa n m n,Zum n m];rfl
noncomputable def X1f (n:Nat) (n_0:Bool × Int × ByteArray × Qli × Qnc × Int) (old_1:Int × Int × Qkg × Qkg × Qpf × Int × Int):Option Qq5:=X3o (Zzb n n) n_0 old_1
noncomputable def Ziv (n_0:Bool × Int × ByteArray × Qli × Qnc × Int) (old_1:Int × Int × Qkg × Qkg × Qpf × Int × Int):Option Qq5:=X1f 1099511627776 n_0 old_1
noncomputable def Zk9:Ent:=⟨[.val t58,.val t56],[⟨t70,[true],none⟩],fun x=>Ziv x.1 x.2.1⟩
theorem X8q (n:Nat) (n_0:Bool × Int × ByteArray × Qli × Qnc × Int) (old_1:Int × Int × Qkg × Qkg × Qpf × Int × Int):Qdf Zkq tab Zfc n [.val t58,.val t56] [⟨t70,[true],none⟩] Tryz.f176 (n_0,old_1,())=X1f n n_0 old_1:=Eq.trans (b:=X3o (Z5l n n) n_0 old_1) (by kernel_rfl) (by rw [Zum n n];rfl)
theorem Zg6:Q4j tab.ty Tryz.prog 176 Zk9:=
 Qjd (Γ:=Zkq) (fi:=Zfc) (n:=1099511627776) follows (Qjq Zc8 (Qjq X1p Qju)) Qjz Tryz.func176 (by kernel_rfl) (by kernel_rfl) fun x r h=>(X8q 1099511627776 x.1 x.2.1).trans h
noncomputable def Xas (n_0:Bool × Int × ByteArray × Qli × Qnc × Int) (s_1:ByteArray):Option ((Z3k × Qtq × Bool × Unit) × Unit):=
 Option.bind (Qqn n_0) fun r1=>
 bif !n_0.1 then
  some ((r1.1.1,[],false,()),())
 else
 bif (g3 n_0).1 != 1 then
  some ((r1.1.1,[],false,()),())
 else
  Option.bind (Xaj (g4 n_0) s_1) fun r2=>
  bif !r2.1.2.1 then
   some ((r1.1.1,[],false,()),())
  else
   Option.bind (Ziv (u4 r1.1.1 r2.1.1) (g4 n_0)) fun r3=>
   some (((u4 r1.1.1 r2.1.1),r3.1.1,true,()),())
noncomputable def X5j:Ent:=⟨[.val t58,.val t9],[⟨t58,(nF 24),none⟩,⟨t70,[true],none⟩,⟨t4,[false],none⟩],fun x=>Xas x.1 x.2.1⟩
theorem X7j:Q4j tab.ty Tryz.prog 143 X5j:=
 Qjd (Γ:=[(169,Qxa),(175,X5s),(176,Zk9)]) (fi:={ keep:=[],vty:=[],vals:=[],live:=[(0,[1,2,4,16,17,18,19]),(1,[1,2,4,7,16,17,18,19]),(2,[1,2,4,7,20]),(3,[4,5,6]),(4,[2,4,7,8,9]),(5,[2,4,7,8,30]),(6,[4,5,6]),(7,[2,4,7]),(8,[4,5,6])] }) (n:=1) follows (Qjq Qsq (Qjq X7i (Qjq Zg6 Qju))) Qjz Tryz.func143 (by kernel_rfl) (by kernel_rfl) fun x r h=>Eq.trans (by kernel_rfl) h
noncomputable def Ze4 (w_0:Zmw × Unit) (s_1:ByteArray):Option ((IV × Unit) × (Zka × Unit)):=
 bif false||decide (1>(w_0.1.1.length:Int)) then
  some ((IV.mk 122 [.int .i64 1],()),((w_0.1,()),()))
 else
 bif decide (0<(w_0.1.1.length:Int)) then
  Option.bind (Xas ((List.getD w_0.1.1 0 Qk4).1,((List.getD w_0.1.1 0 Qk4).2).1,(((List.getD w_0.1.1 0 Qk4).2).2).1,((((((List.getD w_0.1.1 0 Qk4).2).2).2).1).1,((((((List.getD w_0.1.1 0 Qk4).2).2).2).1).2).1,(((((((List.getD w_0.1.1 0 Qk4).2).2).2).1).2).2).1,((((((((List.getD w_0.1.1 0 Qk4).2).2).2).1).2).2).2).1,(((((((((List.getD w_0.1.1 0 Qk4).2).2).2).1).2).2).2).2).1,((((((((((List.getD w_0.1.1 0 Qk4).2).2).2).1).2).2).2).2).2).1,(((((((((((List.getD w_0.1.1 0 Qk4).2).2).2).1).2).2).2).2).2).2).1,((((((((((((List.getD w_0.1.1 0 Qk4).2).2).2).1).2).2).2).2).2).2).2).1,(((((((((((((List.getD w_0.1.1 0 Qk4).2).2).2).1).2).2).2).2).2).2).2).2).1,((((((((((((((List.getD w_0.1.1 0 Qk4).2).2).2).1).2).2).2).2).2).2).2).2).2).1,(((((((((((((((List.getD w_0.1.1 0 Qk4).2).2).2).1).2).2).2).2).2).2).2).2).2).2).1,((((((((((((((((List.getD w_0.1.1 0 Qk4).2).2).2).1).2).2).2).2).2).2).2).2).2).2).2)),(((((((List.getD w_0.1.1 0 Qk4).2).2).2).2).1).1,(((((((List.getD w_0.1.1 0 Qk4).2).2).2).2).1).2).1,((((((((List.getD w_0.1.1 0 Qk4).2).2).2).2).1).2).2).1,(((((((((List.getD w_0.1.1 0 Qk4).2).2).2).2).1).2).2).2).1,((((((((((List.getD w_0.1.1 0 Qk4).2).2).2).2).1).2).2).2).2).1,(((((((((((List.getD w_0.1.1 0 Qk4).2).2).2).2).1).2).2).2).2).2)),(((((List.getD w_0.1.1 0 Qk4).2).2).2).2).2) s_1) fun r1=>
  bif !r1.1.2.2.1 then
   some ((IV.mk 122 [.int .i64 1],()),((w_0.1,()),()))
  else
  bif Nat.ble (w_0.1.2.2.1.length+1) 1073741824 then
   bif decide (0<(w_0.1.1.length:Int)) then
    Option.bind (Qoq ((u2 (u0 w_0.1 (List.set w_0.1.1 0 r1.1.1)) (w_0.1.2.2.1++[s_1])),()) r1.1.2.1) fun r2=>
    some ((IV.nil,()),((r2.2.1.1,()),()))
   else none
  else none
 else none
noncomputable def Z7j:Ent:=⟨[.box 117 Xao [true,false,true,false,false,false],.val t9],[⟨t20,[false],none⟩],fun x=>Ze4 x.1 x.2.1⟩
theorem Zk5:Q4j tab.ty Tryz.prog 95 Z7j:=
 Qjd (Γ:=[(141,Qn1),(143,X5j)]) (fi:={ keep:=[],vty:=[],vals:=[],live:=[(0,[0,1]),(1,[0,1,5,6]),(2,[0,1,5,6,16]),(3,[0,4]),(4,[0,1,5,7,8,9]),(5,[0,1,5,7,8,28]),(6,[0,4]),(7,[0,8]),(8,[0]),(9,[0,4])] }) (n:=1) follows (Qjq Qnh (Qjq X7j Qju)) Qjz Tryz.func95 (by kernel_rfl) (by kernel_rfl) fun x r h=>Eq.trans (by kernel_rfl) h
abbrev Qln:Type:=(Int × Unit) × Unit
noncomputable def Qss:Ctx:=[]
def Qs2:Fi:={ keep:=[],vty:=[],vals:=[],live:=[(0,[0,1]),(1,[0,1,7,8]),(2,[0,1,7,8,9]),(3,[0,1,5,7,8]),(4,[0,1,5,7,8,16]),(5,[4]),(6,[0,1,7,8]),(7,[4])] }
abbrev Qro:Type:=Zjb→(Qkm × Unit→Option (Bool × Unit))→Int→Int→Option Qln
noncomputable def Qza (L1:Qro) (v1:List Qkm) (v2:(Qkm × Unit→Option (Bool × Unit))) (v3 v4:Int):Option Qln:=
 bif decide (v4<v3) then
  bif decide (0≤v4)&&decide (v4<(v1.length:Int)) then
   Option.bind (v2 ((List.getD v1 v4.toNat (0,0,0)),())) fun r5=>
   bif r5.1 then
    some ((v4,()),())
   else
    L1 v1 v2 v3 (IntKind.wrap .i64 (v4+1))
  else none
 else
  some (((-1),()),())
noncomputable def Z11 (L1:Qro) (s_0:List Qkm) (f_1:(Qkm × Unit→Option (Bool × Unit))):Option Qln:=
 L1 s_0 f_1 (s_0.length:Int) 0
noncomputable def Z0w (n:Nat):Nat→Qro:=iter (fun _ _ _ _=>none) fun L=>Qza L
noncomputable def Qnx (n m:Nat) (v1:List Qkm) (v2:(Qkm × Unit→Option (Bool × Unit))) (v3 v4:Int):Option Qln:=
 Qjl Qss tab (fiB [.val t49,.fn [t83] [t4]] Qs2) n [.val t49,.fn [t83] [t4]] [⟨t2,[false],none⟩] Tryz.f293 [1,0,1,0] [] [0,1,7,8] m
 ⟨[(0,Vp t49 v1),(1,V1 (.clo [t83] [t4] v2)),(7,Vp t2 v3),(8,Vp t2 v4)],[]⟩
theorem Zco (n m:Nat):Qnx n (m+1)=Qza (Qnx n m):=by kernel_rfl
theorem Qyc (n:Nat):∀ m,Qnx n m=Z0w n m
 | 0=>rfl
 | m+1=>by rw [Zco n m,Qyc n m];rfl
noncomputable def Z10 (n:Nat) (s_0:List Qkm) (f_1:(Qkm × Unit→Option (Bool × Unit))):Option Qln:=Z11 (Z0w n n) s_0 f_1
noncomputable def Z7w (s_0:List Qkm) (f_1:(Qkm × Unit→Option (Bool × Unit))):Option Qln:=Z10 1099511627776 s_0 f_1
noncomputable def Z1t:Ent:=⟨[.val t49,.fn [t83] [t4]],[⟨t2,[false],none⟩],fun x=>Z7w x.1 x.2.1⟩
theorem Zkn (n:Nat) (s_0:List Qkm) (f_1:(Qkm × Unit→Option (Bool × Unit))):Qdf Qss tab Qs2 n [.val t49,.fn [t83] [t4]] [⟨t2,[false],none⟩] Tryz.f293 (s_0,f_1,())=Z10 n s_0 f_1:=Eq.trans (b:=Z11 (Qnx n n) s_0 f_1) (by kernel_rfl) (by rw [Qyc n n];rfl)
theorem Zfx:Q4j tab.ty Tryz.prog 293 Z1t:=
 Qjd (Γ:=Qss) (fi:=Qs2) (n:=1099511627776) follows Qju Qjz Tryz.func293 (by kernel_rfl) (by kernel_rfl) fun x r h=>(Zkn 1099511627776 x.1 x.2.1).trans h
abbrev Qlg:Type:=(Zjb × Unit) × Unit
noncomputable def Qrb:Ctx:=[(255,Qjc),(293,Z1t)]
def Qqs:Fi:={ keep:=[],vty:=[],vals:=[],live:=[(0,[0,1]),(1,[0,1,5]),(2,[0,1,5,12]),(3,[4]),(4,[0,1,5,6]),(5,[0,1,5,6,19]),(6,[0,1,5,6]),(7,[0,1,5,6,7]),(8,[0,1,5,6,7,29]),(9,[0,1,5,6]),(10,[0,1,5,6]),(11,[0,5]),(12,[4])],melt:=[(11,1000000),(12,1000000)] }
abbrev Qqr:Type:=(Qkm × Unit→Option (Bool × Unit))→Int→Int→Zjb→Option Qlg
noncomputable def Qyd (L1:Qqr) (v2:(Qkm × Unit→Option (Bool × Unit))) (v3 v4:Int) (v5:List Qkm):Option Qlg:=
 bif decide (v4<(v5.length:Int)) then
  bif decide (0≤v4)&&decide (v4<(v5.length:Int)) then
   bif decide (0≤v4)&&decide (v4<(v5.length:Int)) then
    Option.bind (v2 ((List.getD v5 v4.toNat (0,0,0)),())) fun r6=>
    bif !r6.1 then
     bif decide (0≤v3)&&decide (v3<(v5.length:Int)) then
      bif decide (0≤v3)&&decide (v3<(v5.length:Int)) then
       L1 v2 (IntKind.wrap .i64 (v3+1)) (IntKind.wrap .i64 (v4+1)) (List.set v5 v3.toNat (List.getD v5 v4.toNat (0,0,0)))
      else none
     else none
    else
     L1 v2 v3 (IntKind.wrap .i64 (v4+1)) v5
   else none
  else none
 else
 bif (decide (0≤v3)&&decide (v3≤((v5.length:Nat):Int)))&&decide (((v5.length:Nat):Int)≤(((List.map some v5).length:Nat):Int)) then
  bif Nat.ble ((0+v3.toNat)+((((v5.length:Nat):Int) - v3).toNat)) ((List.map some v5).length) then
   bif decide (0≤v3)&&decide (v3≤(((Q6 (List.map some v5) (0+v3.toNat) (List.replicate ((((v5.length:Nat):Int) - v3).toNat) ((0,0,0):Int × Int × Int))).length:Nat):Int)) then
    bif Nat.ble ((v3 - 0).toNat) ((Q6 (List.map some v5) (0+v3.toNat) (List.replicate ((((v5.length:Nat):Int) - v3).toNat) ((0,0,0):Int × Int × Int))).length) then
     Option.bind (Qd (List.take ((v3 - 0).toNat) (Q6 (List.map some v5) (0+v3.toNat) (List.replicate ((((v5.length:Nat):Int) - v3).toNat) ((0,0,0):Int × Int × Int))))) fun z7=>
     some ((z7,()),())
    else none
   else none
  else none
 else none
noncomputable def Qzm (L1:Qqr) (s_0:List Qkm) (del_1:(Qkm × Unit→Option (Bool × Unit))):Option Qlg:=
 Option.bind (Z7w s_0 del_1) fun r1=>
 bif r1.1.1==(-1) then
  some ((s_0,()),())
 else
  L1 del_1 r1.1.1 (IntKind.wrap .i64 (r1.1.1+1)) s_0
noncomputable def Qy1 (n:Nat):Nat→Qqr:=iter (fun _ _ _ _=>none) fun L=>Qyd L
noncomputable def Qn3 (n m:Nat) (v2:(Qkm × Unit→Option (Bool × Unit))) (v3 v4:Int) (v5:List Qkm):Option Qlg:=
 Qjl Qrb tab (fiB [.own 84 t83,.fn [t83] [t4]] Qqs) n [.own 84 t83,.fn [t83] [t4]] [⟨t49,[true],none⟩] Tryz.f255 [1,1,1,0,1,0] [] [0,1,5,6] m
 ⟨[(0,V1 (.ref (888888,0))),(1,V1 (.clo [t83] [t4] v2)),(5,Vp t2 v3),(6,Vp t2 v4)],[((888888,0),Ob.row 84 t83 v5)]⟩
theorem Zc7 (n m:Nat):Qn3 n (m+1)=Qyd (Qn3 n m):=by kernel_rfl
theorem Qwe (n:Nat):∀ m,Qn3 n m=Qy1 n m
 | 0=>rfl
 | m+1=>by rw [Zc7 n m,Qwe n m];rfl
noncomputable def Qzk (n:Nat) (s_0:List Qkm) (del_1:(Qkm × Unit→Option (Bool × Unit))):Option Qlg:=Qzm (Qy1 n n) s_0 del_1
noncomputable def Qu6 (s_0:List Qkm) (del_1:(Qkm × Unit→Option (Bool × Unit))):Option Qlg:=Qzk 1099511627776 s_0 del_1
noncomputable def Qrq:Ent:=⟨[.own 84 t83,.fn [t83] [t4]],[⟨t49,[true],none⟩],fun x=>Qu6 x.1 x.2.1⟩
theorem Zih (n:Nat) (s_0:List Qkm) (del_1:(Qkm × Unit→Option (Bool × Unit))):Qdf Qrb tab Qqs n [.own 84 t83,.fn [t83] [t4]] [⟨t49,[true],none⟩] Tryz.f255 (s_0,del_1,())=Qzk n s_0 del_1:=Eq.trans (b:=Qzm (Qn3 n n) s_0 del_1) (by kernel_rfl) (by rw [Qwe n n];rfl)
theorem Qv8:Q4j tab.ty Tryz.prog 255 Qrq:=
 Qjd (Γ:=Qrb) (fi:=Qqs) (n:=1099511627776) follows (Qjq (Qjr Tryz.func255 (by kernel_rfl) (by kernel_rfl)) (Qjq Zfx Qju)) Qjz Tryz.func255 (by kernel_rfl) (by kernel_rfl) fun x r h=>(Zih 1099511627776 x.1 x.2.1).trans h
noncomputable def Zsg (k_0:Int × Int × Int) (x_1:Int):Option ((Bool × Unit) × Unit):=
 some ((decide (IntKind.wrap .i64 (x_1 - k_0.2.2)>20),()),())
noncomputable def Zlg:Ent:=⟨[.val t83,.rbox t2],[⟨t4,[false],none⟩],fun x=>Zsg x.1 x.2.1⟩
theorem Zu7:Q4j tab.ty Tryz.prog 256 Zlg:=
 Qjd (Γ:=[]) (fi:={ keep:=[],vty:=[],vals:=[],live:=[(0,[1,2]),(1,[3])] }) (n:=1) follows Qju Qjz Tryz.func256 (by kernel_rfl) (by kernel_rfl) fun x r h=>Eq.trans (by kernel_rfl) h
noncomputable def X5i (l_0:List Qkm) (now_1:Int):Option ((Zjb × Unit) × Unit):=
 Option.bind (Qme l_0) fun r1=>
 Option.bind (Qu6 r1.1.1 (fun x=>(Zsg x.1 now_1).bind fun r=>some (r.1.1,()))) fun r2=>
 some ((r2.1.1,()),())
noncomputable def Zys:Ent:=⟨[.val t49,.val t2],[⟨t49,[true],none⟩],fun x=>X5i x.1 x.2.1⟩
theorem X2z:Q4j tab.ty Tryz.prog 216 Zys:=
 Qjd (Γ:=[(130,Qm5),(255,Qrq),(256,Zlg)]) (fi:={ keep:=[],vty:=[],vals:=[],live:=[(0,[0,3]),(1,[4])] }) (n:=1) follows (Qjq Qm0 (Qjq Qv8 (Qjq Zu7 Qju))) Qjz Tryz.func216 (by kernel_rfl) (by kernel_rfl) fun x r h=>Eq.trans (by kernel_rfl) h
noncomputable def Zhn (t_0:Int × Int × Int × Int × Int × Int × (List Int) × Int × Int × Int × Int × Int × List Qkm):Option ((Bool × Unit) × Unit):=
 bif t_0.1==1 then
  some ((true,()),())
 else
 bif (g3 t_0) != 0 then
  some ((decide (IntKind.wrap .i64 (t_0.2.2.1 - (g8 t_0))≤20),()),())
 else
  some ((false,()),())
noncomputable def Z9l:Ent:=⟨[.val t50],[⟨t4,[false],none⟩],fun x=>Zhn x.1⟩
theorem Z3g:Q4j tab.ty Tryz.prog 52 Z9l:=
 Qjd (Γ:=[]) (fi:={ keep:=[],vty:=[],vals:=[],live:=[(0,[1,7,8,9,10,11,12,13,14,15,16,17]),(1,[2])] }) (n:=1) follows Qju Qjz Tryz.func52 (by kernel_rfl) (by kernel_rfl) fun x r h=>Eq.trans (by kernel_rfl) h
noncomputable def Qzy (n_0:Qli × List Qko) (step_1:Int):Option (Unit × (Zcr × Unit)):=
 some ((),(((u11 (u9 (u6 (u4 (u3 n_0.1 0) 0) []) 0) step_1),n_0.2),()))
noncomputable def Qu0:Ent:=⟨[.box 249 X8n (nF 13++[true]),.val t2],[],fun x=>Qzy x.1 x.2.1⟩
theorem Qth:Q4j tab.ty Tryz.prog 217 Qu0:=
 Qjd (Γ:=[]) (fi:={ keep:=[],vty:=[],vals:=[],live:=[(0,[0])] }) (n:=1) follows Qju Qjz Tryz.func217 (by kernel_rfl) (by kernel_rfl) fun x r h=>Eq.trans (by kernel_rfl) h
noncomputable def Z63 (n_0:Qli × List Qko):Option (Unit × (Zcr × Unit)):=
 Option.bind (Qkd ((u11 (u10 (u9 n_0.1 1) (IntKind.wrap .i64 (n_0.1.2.2.1+3))) (IntKind.wrap .i64 ((g11 n_0.1)+1))),n_0.2) 1 1 0) fun r2=>
 some ((),(r2.2.1,()))
noncomputable def Z69 (n_0:Qli × List Qko):Option (Unit × (Zcr × Unit)):=
 Option.bind (Qkd ((u10 (u9 n_0.1 1) (IntKind.wrap .i64 (n_0.1.2.2.1+3))),n_0.2) 1 1 0) fun r6=>
 some ((),(r6.2.1,()))
noncomputable def Zlq (n_0:Qli × List Qko):Option (Unit × (Zcr × Unit)):=
 bif (g9 n_0.1) != 0 then
  some ((),(n_0,()))
 else
 bif (g11 n_0.1)==0 then
  bif (g5 n_0.1) != 0 then
   bif (g5 n_0.1) != n_0.1.1 then
    Option.bind (Qkd ((u10 (u9 n_0.1 (g5 n_0.1)) (IntKind.wrap .i64 (n_0.1.2.2.1+3))),n_0.2) 1 (g5 n_0.1) 0) fun r5=>
    some ((),(r5.2.1,()))
   else
    Z69 n_0
  else
   Z69 n_0
 else
  Z69 n_0
noncomputable def Z8x (n_0:Qli × List Qko):Option (Unit × (Zcr × Unit)):=
 bif n_0.1.1==1 then
  some ((),(n_0,()))
 else
 bif (g3 n_0.1) != 0 then
  some ((),(n_0,()))
 else
 bif (g9 n_0.1) != 0 then
  bif decide (n_0.1.2.2.1 ≥ (g10 n_0.1)) then
   bif (IntKind.wrap .i64 ((g11 n_0.1)+1))==0 then
    bif (g5 n_0.1) != 0 then
     bif (g5 n_0.1) != n_0.1.1 then
      Option.bind (Qkd ((u11 (u10 (u9 n_0.1 (g5 n_0.1)) (IntKind.wrap .i64 (n_0.1.2.2.1+3))) (IntKind.wrap .i64 ((g11 n_0.1)+1))),n_0.2) 1 (g5 n_0.1) 0) fun r1=>
      some ((),(r1.2.1,()))
     else
      Z63 n_0
    else
     Z63 n_0
   else
    Z63 n_0
  else
   Zlq n_0
 else
  Zlq n_0
noncomputable def Zpa:Ent:=⟨[.box 249 X8n (nF 13++[true])],[],fun x=>Z8x x.1⟩
theorem Zv7:Q4j tab.ty Tryz.prog 218 Zpa:=
 Qjd (Γ:=[(202,Qmg)]) (fi:={ keep:=[],vty:=[],vals:=[],live:=[(0,[0,15,23,24,25,26,27,28,29,30,31,32,33,65,66,67,68,69,70,73,74,75,76,77,78,79,80,81,82,83]),(1,[0,34,65,66,67,68,69,70,73,74,75,76,77,78,79,80,81,82,83]),(2,[0,65,66,67,68,69,70,73,74,75,76,77,78,79,80,81,82,83]),(3,[0,65,66,67,68,69,70,73,74,75,76,77,78,79,80,81,82,83]),(4,[0,53,65,66,67,68,69,70,73,74,75,76,77,78,79,80,81,82,83]),(5,[0,65,66,67,68,69,70,73,74,75,76,77,78,79,80,81,82,83]),(6,[0,84]),(7,[0]),(8,[0]),(9,[0])] }) (n:=1) follows (Qjq Qls Qju) Qjz Tryz.func218 (by kernel_rfl) (by kernel_rfl) fun x r h=>Eq.trans (by kernel_rfl) h
abbrev Qpa:Type:=Unit × (Zcr × Unit)
noncomputable def Z62:Ctx:=[(52,Z9l),(202,Qmg)]
def Z34:Fi:={ keep:=[],vty:=[],vals:=[],live:=[(0,[0,10]),(1,[0,16]),(2,[0]),(3,[0,28,29,30]),(4,[0,28,29,30,31]),(5,[0,3,28,29,30]),(6,[0,3,28,29,30,38]),(7,[0,28,29,30]),(8,[0,28,29,30])] }
abbrev Z2w:Type:=Zjb→Int→Int→Int→Int→Int→Int→Int→Int→List Int→Int→Int→Int→Int→Int→Zjb→Qtq→Option Qpa
noncomputable def Zil (L1:Z2w) (v2:List Qkm) (v3 v4 v5 v6 v7 v8 v9 v10:Int) (v11:List Int) (v12 v13 v14 v15 v16:Int) (v17:List Qkm) (v18:List Qko):Option Qpa:=
 bif decide (v4<v3) then
  bif decide (0≤v4)&&decide (v4<(v2.length:Int)) then
   Option.bind (Zhn (v5,v6,v7,v8,v9,v10,v11,v12,v13,v14,v15,v16,v17)) fun r19=>
   bif r19.1.1 then
    Option.bind (Qkd ((v5,v6,v7,v8,v9,v10,v11,v12,v13,v14,v15,v16,v17),v18) 5 ((List.getD v2 v4.toNat (0,0,0)).1) 0) fun r20=>
    L1 v2 v3 (IntKind.wrap .i64 (v4+1)) r20.2.1.1.1 r20.2.1.1.2.1 r20.2.1.1.2.2.1 (g3 r20.2.1.1) (g4 r20.2.1.1) (g5 r20.2.1.1) (g6 r20.2.1.1) (g7 r20.2.1.1) (g8 r20.2.1.1) (g9 r20.2.1.1) (g10 r20.2.1.1) (g11 r20.2.1.1) (h12 r20.2.1.1) r20.2.1.2
   else
    L1 v2 v3 (IntKind.wrap .i64 (v4+1)) v5 v6 v7 v8 v9 v10 v11 v12 v13 v14 v15 v16 v17 v18
  else none
 else
  some ((),(((v5,v6,v7,v8,v9,v10,v11,v12,v13,v14,v15,v16,v17),v18),()))
noncomputable def Zm3 (L1:Z2w) (n_0:Qli × List Qko):Option Qpa:=
 bif (Int.tmod n_0.1.2.2.1 2) != 0 then
  some ((),(n_0,()))
 else
 bif (g3 n_0.1) != 0 then
  Option.bind (Qkd n_0 4 (g3 n_0.1) 0) fun r1=>
  L1 (h12 r1.2.1.1) ((h12 r1.2.1.1).length:Int) 0 r1.2.1.1.1 r1.2.1.1.2.1 r1.2.1.1.2.2.1 (g3 r1.2.1.1) (g4 r1.2.1.1) (g5 r1.2.1.1) (g6 r1.2.1.1) (g7 r1.2.1.1) (g8 r1.2.1.1) (g9 r1.2.1.1) (g10 r1.2.1.1) (g11 r1.2.1.1) (h12 r1.2.1.1) r1.2.1.2
 else
  L1 (h12 n_0.1) ((h12 n_0.1).length:Int) 0 n_0.1.1 n_0.1.2.1 n_0.1.2.2.1 (g3 n_0.1) (g4 n_0.1) (g5 n_0.1) (g6 n_0.1) (g7 n_0.1) (g8 n_0.1) (g9 n_0.1) (g10 n_0.1) (g11 n_0.1) (h12 n_0.1) n_0.2
noncomputable def Zi6 (n:Nat):Nat→Z2w:=iter (fun _ _ _ _ _ _ _ _ _ _ _ _ _ _ _ _ _=>none) fun L=>Zil L
noncomputable def Qut (n m:Nat) (v2:List Qkm) (v3 v4 v5 v6 v7 v8 v9 v10:Int) (v11:List Int) (v12 v13 v14 v15 v16:Int) (v17:List Qkm) (v18:List Qko):Option Qpa:=
 Qjl Z62 tab (fiB [.box 249 X8n (nF 13++[true])] Z34) n [.box 249 X8n (nF 13++[true])] [] Tryz.f219 [1,1,1,0] [] [0,28,29,30] m
 ⟨[(0,V1 (.ptr (0,0) 0)),(28,Vp t49 v2),(29,Vp t2 v3),(30,Vp t2 v4)],[((0,0),Ob.box 249 [LV.pure t2 v5,LV.pure t2 v6,LV.pure t2 v7,LV.pure t2 v8,LV.pure t2 v9,LV.pure t2 v10,LV.pure t44 v11,LV.pure t2 v12,LV.pure t2 v13,LV.pure t2 v14,LV.pure t2 v15,LV.pure t2 v16,LV.pure t49 v17,LV.ref (0,14)]),((0,14),Ob.row 105 Qsi v18)]⟩
theorem Zri (n m:Nat):Qut n (m+1)=Zil (Qut n m):=by kernel_rfl
theorem Ze3 (n:Nat):∀ m,Qut n m=Zi6 n m
 | 0=>rfl
 | m+1=>by rw [Zri n m,Ze3 n m];rfl
noncomputable def Zl0 (n:Nat) (n_0:Qli × List Qko):Option Qpa:=Zm3 (Zi6 n n) n_0
noncomputable def Z3f (n_0:Qli × List Qko):Option Qpa:=Zl0 1099511627776 n_0
noncomputable def Zl8:Ent:=⟨[.box 249 X8n (nF 13++[true])],[],fun x=>Z3f x.1⟩
theorem Zxu (n:Nat) (n_0:Qli × List Qko):Qdf Z62 tab Z34 n [.box 249 X8n (nF 13++[true])] [] Tryz.f219 (n_0,())=Zl0 n n_0:=Eq.trans (b:=Zm3 (Qut n n) n_0) (by kernel_rfl) (by rw [Ze3 n n];rfl)
theorem Zts:Q4j tab.ty Tryz.prog 219 Zl8:=
 Qjd (Γ:=Z62) (fi:=Z34) (n:=1099511627776) follows (Qjq Z3g (Qjq Qls Qju)) Qjz Tryz.func219 (by kernel_rfl) (by kernel_rfl) fun x r h=>(Zxu 1099511627776 x.1).trans h
noncomputable def Zt8 (r1:(Zcr × Unit) × Unit) (r2:(Zjb × Unit) × Unit):Option ((Qli × Qtq × Unit) × Unit):=
 Option.bind (Z8x ((e12 (u2 r1.1.1.1 (IntKind.wrap .i64 (r1.1.1.1.2.2.1+1))) r2.1.1),r1.1.1.2)) fun r9=>
 Option.bind (Z3f r9.2.1) fun r10=>
 some ((r10.2.1.1,r10.2.1.2,()),())
noncomputable def X1s (r1:(Zcr × Unit) × Unit) (r2:(Zjb × Unit) × Unit):Option ((Qli × Qtq × Unit) × Unit):=
 bif r1.1.1.1.1 != 1 then
  bif (g3 r1.1.1.1) != 0 then
   Option.bind (Zhn (e12 (u2 r1.1.1.1 (IntKind.wrap .i64 (r1.1.1.1.2.2.1+1))) r2.1.1)) fun r5=>
   bif !r5.1.1 then
    Option.bind (Qzy ((e12 (u2 r1.1.1.1 (IntKind.wrap .i64 (r1.1.1.1.2.2.1+1))) r2.1.1),r1.1.1.2) 0) fun r6=>
    Option.bind (Z8x r6.2.1) fun r7=>
    Option.bind (Z3f r7.2.1) fun r8=>
    some ((r8.2.1.1,r8.2.1.2,()),())
   else
    Zt8 r1 r2
  else
   Zt8 r1 r2
 else
  Zt8 r1 r2
noncomputable def Xb0 (t_0:Int × Int × Int × Int × Int × Int × (List Int) × Int × Int × Int × Int × Int × List Qkm):Option ((Qli × Qtq × Unit) × Unit):=
 Option.bind (Xap t_0) fun r1=>
 Option.bind (X5i (h12 r1.1.1.1) (IntKind.wrap .i64 (r1.1.1.1.2.2.1+1))) fun r2=>
 bif r1.1.1.1.1==1 then
  bif (Int.tmod (IntKind.wrap .i64 (r1.1.1.1.2.2.1+1)) 2)==0 then
   Option.bind (Z8x ((e12 (u8 (u7 (u2 r1.1.1.1 (IntKind.wrap .i64 (r1.1.1.1.2.2.1+1))) (IntKind.wrap .i64 ((g7 r1.1.1.1)+1))) (IntKind.wrap .i64 (r1.1.1.1.2.2.1+1))) r2.1.1),r1.1.1.2)) fun r3=>
   Option.bind (Z3f r3.2.1) fun r4=>
   some ((r4.2.1.1,r4.2.1.2,()),())
  else
   X1s r1 r2
 else
  X1s r1 r2
noncomputable def X5l:Ent:=⟨[.val t50],[⟨t50,(nF 13),none⟩,⟨t70,[true],none⟩],fun x=>Xb0 x.1⟩
theorem X79:Q4j tab.ty Tryz.prog 177 X5l:=
 Qjd (Γ:=[(52,Z9l),(201,X10),(216,Zys),(217,Qu0),(218,Zpa),(219,Zl8)]) (fi:={ keep:=[],vty:=[],vals:=[],live:=[(0,[1,2,39,40,41,42,43,44,45,74,75,76,77,78,79,82,83,84,85,86,87]),(1,[2,4,39,40,41,42,43,44,45,74,75,76,77,78,79,82,83,84,85,86,87]),(2,[2,4,39,40,41,42,43,44,45,74,75,76,77,78,79,82,83,84,85,86,87]),(3,[2,4,39,40,41,42,43,44,45,74,75,76,77,78,79,82,83,84,85,86,87]),(4,[2,4,31,74,75,76,77,78,79,82,83,84,85,86,87]),(5,[2,4]),(6,[2,4,66]),(7,[2,4]),(8,[2,4]),(9,[2,4]),(10,[2,3])] }) (n:=1) follows (Qjq Z3g (Qjq Zu2 (Qjq X2z (Qjq Qth (Qjq Zv7 (Qjq Zts Qju)))))) Qjz Tryz.func177 (by kernel_rfl) (by kernel_rfl) fun x r h=>Eq.trans (by kernel_rfl) h
noncomputable def X30 (l_0:List Qk2):Option ((Int × Unit) × Unit):=
 bif (l_0.length:Int)==0 then
  some ((0,()),())
 else
 bif decide (0<(l_0.length:Int)) then
  some (((List.getD l_0 0 (0,(⟨#[]⟩:ByteArray))).1,()),())
 else none
noncomputable def Ztb:Ent:=⟨[.val t52],[⟨t2,[false],none⟩],fun x=>X30 x.1⟩
theorem Zrw:Q4j tab.ty Tryz.prog 257 Ztb:=
 Qjd (Γ:=[]) (fi:={ keep:=[],vty:=[],vals:=[],live:=[(0,[0]),(1,[0,5]),(2,[2]),(3,[2])] }) (n:=1) follows Qju Qjz Tryz.func257 (by kernel_rfl) (by kernel_rfl) fun x r h=>Eq.trans (by kernel_rfl) h
noncomputable def X9q (f_0:Int × Int × Qkg × Qkg × Qpf × Int × Int):Option (((Int × Int) × Bool × Unit) × Unit):=
 bif decide (((g3 f_0).length:Int)>0) then
  Option.bind (X30 (g3 f_0)) fun r1=>
  bif f_0.1==0 then
   some (((0,0),false,()),())
  else
  bif decide (IntKind.wrap .i64 (r1.1.1 - 1)<f_0.1) then
   some (((0,0),false,()),())
  else
   some (((f_0.1,IntKind.wrap .i64 (r1.1.1 - 1)),true,()),())
 else
 bif f_0.1==0 then
  some (((0,0),false,()),())
 else
 bif decide (f_0.2.1<f_0.1) then
  some (((0,0),false,()),())
 else
  some (((f_0.1,f_0.2.1),true,()),())
noncomputable def X3s:Ent:=⟨[.val t56],[⟨t54,[false,false],none⟩,⟨t4,[false],none⟩],fun x=>X9q x.1⟩
theorem X4t:Q4j tab.ty Tryz.prog 220 X3s:=
 Qjd (Γ:=[(257,Ztb)]) (fi:={ keep:=[],vty:=[],vals:=[],live:=[(0,[1,2,23,24,25,26,27]),(1,[1,2,4,23,24,25,26,27]),(2,[1,2,4,13,23,24,25,26,27]),(3,[1,2,4,23,24,25,26,27]),(4,[2,4,28]),(5,[2,3]),(6,[2,3])] }) (n:=1) follows (Qjq Zrw Qju) Qjz Tryz.func220 (by kernel_rfl) (by kernel_rfl) fun x r h=>Eq.trans (by kernel_rfl) h
noncomputable def Xat (a_0:Int × Int) (now_1:Int):Option ((Bool × Unit) × Unit):=
 bif a_0.1==0 then
  some ((true,()),())
 else
  some ((decide (now_1 ≥ a_0.2),()),())
noncomputable def X5r:Ent:=⟨[.val t54,.val t2],[⟨t4,[false],none⟩],fun x=>Xat x.1 x.2.1⟩
theorem X7b:Q4j tab.ty Tryz.prog 221 X5r:=
 Qjd (Γ:=[]) (fi:={ keep:=[],vty:=[],vals:=[],live:=[(0,[1,2,9,10,11,12]),(1,[4])] }) (n:=1) follows Qju Qjz Tryz.func221 (by kernel_rfl) (by kernel_rfl) fun x r h=>Eq.trans (by kernel_rfl) h
noncomputable def X5x (a_0:Int × Int):Option ((Bool × Unit) × Unit):=
 some ((decide (a_0.1 ≥ 3),()),())
noncomputable def Zyh:Ent:=⟨[.val t54],[⟨t4,[false],none⟩],fun x=>X5x x.1⟩
theorem X1x:Q4j tab.ty Tryz.prog 222 Zyh:=
 Qjd (Γ:=[]) (fi:={ keep:=[],vty:=[],vals:=[],live:=[(0,[1]),(1,[2])] }) (n:=1) follows Qju Qjz Tryz.func222 (by kernel_rfl) (by kernel_rfl) fun x r h=>Eq.trans (by kernel_rfl) h
noncomputable def X6t (f_0:Int × Int × Qkg × Qkg × Qpf × Int × Int):Option ((Qnc × Unit) × Unit):=
 Option.bind (Qka f_0.2.2.1) fun r1=>
 Option.bind (Qka (g3 f_0)) fun r2=>
 Option.bind (Ql5 (g4 f_0)) fun r3=>
 some (((u4 (u3 (u2 f_0 r1.1.1) r2.1.1) r3.1.1),()),())
noncomputable def Zy0:Ent:=⟨[.val t56],[⟨t56,[false,false,true,true,true,false,false],none⟩],fun x=>X6t x.1⟩
theorem Zvn:Q4j tab.ty Tryz.prog 258 Zy0:=
 Qjd (Γ:=[(131,Qlc),(132,Qky)]) (fi:={ keep:=[],vty:=[],vals:=[],live:=[(0,[1,2]),(1,[1,2]),(2,[2])] }) (n:=1) follows (Qjq Qkz (Qjq Qkv Qju)) Qjz Tryz.func258 (by kernel_rfl) (by kernel_rfl) fun x r h=>Eq.trans (by kernel_rfl) h
abbrev Qlh:Type:=(Int × Unit) × Unit
noncomputable def Qs7:Ctx:=[]
def Qr1:Fi:={ keep:=[],vty:=[],vals:=[],live:=[(0,[0,1]),(1,[0,1,7,8]),(2,[0,1,7,8,9]),(3,[0,1,5,7,8]),(4,[0,1,5,7,8,16]),(5,[4]),(6,[0,1,7,8]),(7,[4])] }
abbrev Qqy:Type:=Qkg→(Qk2 × Unit→Option (Bool × Unit))→Int→Int→Option Qlh
noncomputable def Qye (L1:Qqy) (v1:List Qk2) (v2:(Qk2 × Unit→Option (Bool × Unit))) (v3 v4:Int):Option Qlh:=
 bif decide (v4<v3) then
  bif decide (0≤v4)&&decide (v4<(v1.length:Int)) then
   Option.bind (v2 ((List.getD v1 v4.toNat (0,(⟨#[]⟩:ByteArray))),())) fun r5=>
   bif r5.1 then
    some ((v4,()),())
   else
    L1 v1 v2 v3 (IntKind.wrap .i64 (v4+1))
  else none
 else
  some (((-1),()),())
noncomputable def Z0l (L1:Qqy) (s_0:List Qk2) (f_1:(Qk2 × Unit→Option (Bool × Unit))):Option Qlh:=
 L1 s_0 f_1 (s_0.length:Int) 0
noncomputable def Qy2 (n:Nat):Nat→Qqy:=iter (fun _ _ _ _=>none) fun L=>Qye L
noncomputable def Qnk (n m:Nat) (v1:List Qk2) (v2:(Qk2 × Unit→Option (Bool × Unit))) (v3 v4:Int):Option Qlh:=
 Qjl Qs7 tab (fiB [.val t52,.fn [Qyo] [t4]] Qr1) n [.val t52,.fn [Qyo] [t4]] [⟨t2,[false],none⟩] Tryz.f294 [1,0,1,0] [] [0,1,7,8] m
 ⟨[(0,Vp t52 v1),(1,V1 (.clo [Qyo] [t4] v2)),(7,Vp t2 v3),(8,Vp t2 v4)],[]⟩
theorem Zaw (n m:Nat):Qnk n (m+1)=Qye (Qnk n m):=by kernel_rfl
theorem Qwj (n:Nat):∀ m,Qnk n m=Qy2 n m
 | 0=>rfl
 | m+1=>by rw [Zaw n m,Qwj n m];rfl
noncomputable def Qzc (n:Nat) (s_0:List Qk2) (f_1:(Qk2 × Unit→Option (Bool × Unit))):Option Qlh:=Z0l (Qy2 n n) s_0 f_1
noncomputable def Z53 (s_0:List Qk2) (f_1:(Qk2 × Unit→Option (Bool × Unit))):Option Qlh:=Qzc 1099511627776 s_0 f_1
noncomputable def Qzf:Ent:=⟨[.val t52,.fn [Qyo] [t4]],[⟨t2,[false],none⟩],fun x=>Z53 x.1 x.2.1⟩
theorem Zht (n:Nat) (s_0:List Qk2) (f_1:(Qk2 × Unit→Option (Bool × Unit))):Qdf Qs7 tab Qr1 n [.val t52,.fn [Qyo] [t4]] [⟨t2,[false],none⟩] Tryz.f294 (s_0,f_1,())=Qzc n s_0 f_1:=Eq.trans (b:=Z0l (Qnk n n) s_0 f_1) (by kernel_rfl) (by rw [Qwj n n];rfl)
theorem Zcx:Q4j tab.ty Tryz.prog 294 Qzf:=
 Qjd (Γ:=Qs7) (fi:=Qr1) (n:=1099511627776) follows Qju Qjz Tryz.func294 (by kernel_rfl) (by kernel_rfl) fun x r h=>(Zht 1099511627776 x.1 x.2.1).trans h
noncomputable def Zvp (i_0:Int × ByteArray) (x_1:Int × Int × Qkg × Qkg × Qpf × Int × Int):Option ((Bool × Unit) × Unit):=
 some ((decide (i_0.1 ≥ x_1.1),()),())
noncomputable def Zoz:Ent:=⟨[.val Qyo,.rbox t56],[⟨t4,[false],none⟩],fun x=>Zvp x.1 x.2.1⟩
theorem Zwu:Q4j tab.ty Tryz.prog 295 Zoz:=
 Qjd (Γ:=[]) (fi:={ keep:=[],vty:=[],vals:=[],live:=[(0,[1,2]),(1,[3])] }) (n:=1) follows Qju Qjz Tryz.func295 (by kernel_rfl) (by kernel_rfl) fun x r h=>Eq.trans (by kernel_rfl) h
noncomputable def X27 (f_0:Int × Int × Qkg × Qkg × Qpf × Int × Int) (hi_1:Int):Option ((Int × Bool × Unit) × Unit):=
 Option.bind (Z53 (g3 f_0) (fun x=>(Zvp x.1 f_0).bind fun r=>some (r.1.1,()))) fun r1=>
 bif decide (r1.1.1<0) then
  some ((hi_1,false,()),())
 else
 bif decide (0≤r1.1.1)&&decide (r1.1.1<((g3 f_0).length:Int)) then
  bif decide ((List.getD (g3 f_0) r1.1.1.toNat (0,(⟨#[]⟩:ByteArray))).1>hi_1) then
   some ((hi_1,false,()),())
  else
  bif decide (0≤r1.1.1)&&decide (r1.1.1<((g3 f_0).length:Int)) then
   some ((IntKind.wrap .i64 (((List.getD (g3 f_0) r1.1.1.toNat (0,(⟨#[]⟩:ByteArray))).1) - 1),true,()),())
  else none
 else none
noncomputable def X3j:Ent:=⟨[.val t56,.val t2],[⟨t2,[false],none⟩,⟨t4,[false],none⟩],fun x=>X27 x.1 x.2.1⟩
theorem X4m:Q4j tab.ty Tryz.prog 259 X3j:=
 Qjd (Γ:=[(294,Qzf),(295,Zoz)]) (fi:={ keep:=[],vty:=[],vals:=[],live:=[(0,[1,2,14,15,16,17,18,19,20,21]),(1,[1,2,6,14,15,16,17,18,19,20,21]),(2,[1,2,6,22]),(3,[4,5]),(4,[4,5])] }) (n:=1) follows (Qjq Zcx (Qjq Zwu Qju)) Qjz Tryz.func259 (by kernel_rfl) (by kernel_rfl) fun x r h=>Eq.trans (by kernel_rfl) h
noncomputable def X77 (l_0:List Qkq) (lo_1 hi_2 why_3:Int):Option ((Qpf × Unit) × Unit):=
 Option.bind (Ql5 l_0) fun r1=>
 bif Nat.ble (r1.1.1.length+1) 1073741824 then
  some ((r1.1.1++[(2,lo_1,hi_2,(⟨#[]⟩:ByteArray),why_3)],()),())
 else none
noncomputable def X6b:Ent:=⟨[.val t53,.val t2,.val t2,.val t2],[⟨t53,[true],none⟩],fun x=>X77 x.1 x.2.1 x.2.2.1 x.2.2.2.1⟩
theorem X76:Q4j tab.ty Tryz.prog 260 X6b:=
 Qjd (Γ:=[(132,Qky)]) (fi:={ keep:=[],vty:=[],vals:=[],live:=[(0,[0,1,2,3]),(1,[8])] }) (n:=1) follows (Qjq Qkv Qju) Qjz Tryz.func260 (by kernel_rfl) (by kernel_rfl) fun x r h=>Eq.trans (by kernel_rfl) h
noncomputable def X78 (l_0:List Qk2) (next_1:Int):Option ((Qkg × Qk2 × Bool × Unit) × Unit):=
 Option.bind (Qka l_0) fun r1=>
 Option.bind (X30 l_0) fun r2=>
 bif r2.1.1 != next_1 then
  some ((r1.1.1,(0,(⟨#[]⟩:ByteArray)),false,()),())
 else
 bif (l_0.length:Int)==0 then
  some ((r1.1.1,(0,(⟨#[]⟩:ByteArray)),false,()),())
 else
 bif decide (1≤(r1.1.1.length:Int))&&decide ((r1.1.1.length:Int)≤(r1.1.1.length:Int)) then
  bif decide (0<(l_0.length:Int)) then
   some ((List.drop 1 (List.take ((r1.1.1.length:Int).toNat) r1.1.1),(List.getD l_0 0 (0,(⟨#[]⟩:ByteArray))),true,()),())
  else none
 else none
noncomputable def X5g:Ent:=⟨[.val t52,.val t2],[⟨t52,[false],none⟩,⟨Qyo,[false,false],none⟩,⟨t4,[false],none⟩],fun x=>X78 x.1 x.2.1⟩
theorem X7v:Q4j tab.ty Tryz.prog 296 X5g:=
 Qjd (Γ:=[(131,Qlc),(257,Ztb)]) (fi:={ keep:=[],vty:=[],vals:=[],live:=[(0,[0,1,5,14,15,16]),(1,[0,1,4,5,14,15,16]),(2,[0,4,5,17]),(3,[4,5,6]),(4,[4,5,6])] }) (n:=1) follows (Qjq Qkz (Qjq Zrw Qju)) Qjz Tryz.func296 (by kernel_rfl) (by kernel_rfl) fun x r h=>Eq.trans (by kernel_rfl) h
noncomputable def Zzx:Ctx:=[]
def Zwh:Fi:={ keep:=[],vty:=[],vals:=[],live:=[(0,[0]),(1,[0])] }
noncomputable def X9j (x:PDs []):Option (RDs [⟨t54,[false,false],none⟩] × ODs []):=Qdf Zzx tab Zwh 1099511627776 [] [⟨t54,[false,false],none⟩] Tryz.f262 x
noncomputable def Qsp  : Option (((Int × Int) × Unit) × Unit):=X9j (())
noncomputable def Zpe:Ent:=⟨[],[⟨t54,[false,false],none⟩],fun x=>Qsp⟩
theorem Zpj:Q4j tab.ty Tryz.prog 262 Zpe:=by
  refine Qjd (Γ:=Zzx) (fi:=Zwh) (n:=1099511627776) follows Qju Qjz Tryz.func262 (by kernel_rfl) (by kernel_rfl) (fun x r h=>?_)
  exact h
abbrev Qrf:Type:=(Qnc × Qkg × Unit) × Unit
noncomputable def Zkt:Ctx:=[(213,Zy5),(214,Zx4),(262,Zpe),(296,X5g)]
def Zf6:Fi:={ keep:=[],vty:=[(4,52)],vals:=[],live:=[(0,[1,2]),(1,[1,2,4]),(2,[1,2,4,5,6,7]),(3,[1,2,4,5,6,18]),(4,[1,2,4,6]),(5,[1,2,4,6]),(6,[1,2,4]),(7,[1,2,4,44]),(8,[1,2,4]),(9,[2,3])] }
abbrev X0a:Type:=Int→Int→Qkg→Qkg→Qpf→Int→Int→Int→Int→Int→Int→Qkg→Qkg→Qpf→Qkg→Option Qrf
abbrev Zoo:Type:=Int→Int→Qkg→Int→Int→Qkg→Qpf→Int→Int→Int→Int→Qkg→Qkg→Qpf→Qkg→Option Qrf
noncomputable def X03 (L2:Zoo) (v1 v2:Int) (v3 v4:List Qk2) (v5:List Qkq) (v6 v7 v8 v9 v10 v11:Int) (v12 v13:List Qk2) (v14:List Qkq) (v15:List Qk2):Option Qrf:=
 Option.bind (X78 v4 v1) fun r16=>
 bif !r16.1.2.2.1 then
  bif decide ((v15.length:Int)>0) then
   Option.bind (Qsp) fun r17=>
   some (((v1,v2,v3,v4,v5,r17.1.1),v15,()),())
  else
   some (((v1,v2,v3,v4,v5,v6,v7),v15,()),())
 else
  Option.bind (X0v v5 r16.1.2.1.1 r16.1.2.1.2) fun r18=>
  Option.bind (X0x v3 r16.1.2.1) fun r19=>
  bif Nat.ble (v15.length+1) 1073741824 then
   L2 (IntKind.wrap .i64 (v1+1)) v2 r16.1.1 v6 v7 r19.1.1 r18.1.1 v8 v9 v10 v11 v12 v13 v14 (v15++[r16.1.2.1])
  else none
noncomputable def X09 (L2:Zoo) (v20 v21:Int) (v22:List Qk2) (v23 v24:Int) (v25:List Qk2) (v26:List Qkq) (v27 v28 v29 v30:Int) (v31 v32:List Qk2) (v33:List Qkq) (v34:List Qk2):Option Qrf:=
 Option.bind (X78 v22 v20) fun r35=>
 bif !r35.1.2.2.1 then
  bif decide ((v34.length:Int)>0) then
   Option.bind (Qsp) fun r36=>
   some (((v20,v21,v25,v22,v26,r36.1.1),v34,()),())
  else
   some (((v20,v21,v25,v22,v26,v23,v24),v34,()),())
 else
  Option.bind (X0v v26 r35.1.2.1.1 r35.1.2.1.2) fun r37=>
  Option.bind (X0x v25 r35.1.2.1) fun r38=>
  bif Nat.ble (v34.length+1) 1073741824 then
   L2 (IntKind.wrap .i64 (v20+1)) v21 r35.1.1 v23 v24 r38.1.1 r37.1.1 v27 v28 v29 v30 v31 v32 v33 (v34++[r35.1.2.1])
  else none
noncomputable def X48 (L1:X0a) (f_0:Int × Int × Qkg × Qkg × Qpf × Int × Int):Option Qrf:=
 L1 f_0.1 f_0.2.1 f_0.2.2.1 (g3 f_0) (g4 f_0) (g5 f_0) (h6 f_0) 0 0 0 0 [] [] [] []
noncomputable def Zz2 (n:Nat):Nat→Zoo:=iter (fun _ _ _ _ _ _ _ _ _ _ _ _ _ _ _=>none) fun L=>X09 L
noncomputable def Zyf (n:Nat):Nat→X0a:=Qj7 (fun _ _ _ _ _ _ _ _ _ _ _ _ _ _ _=>none) fun m L=>X03 (Zz2 n m)
noncomputable def Znz (n m:Nat) (v1 v2:Int) (v3 v4:List Qk2) (v5:List Qkq) (v6 v7 v8 v9 v10 v11:Int) (v12 v13:List Qk2) (v14:List Qkq) (v15:List Qk2):Option Qrf:=
 Qjl Zkt tab (fiB [.val t56] Zf6) n [.val t56] [⟨t56,(nF 7),none⟩,⟨t52,[true],none⟩] Tryz.f261 [1,1,0,0] [] [1,2,4] m
 ⟨[(1,V1 (.ptr (1,0) 0)),(2,V1 (.ptr (2,0) 0)),(4,V1 (.ref (888888,4)))],[((1,0),Ob.box 57 [LV.pure t2 v1,LV.pure t2 v2,LV.pure t52 v3,LV.pure t52 v4,LV.pure t53 v5,LV.pure t2 v6,LV.pure t2 v7]),((2,0),Ob.box 57 [LV.pure t2 v8,LV.pure t2 v9,LV.ref (2,3),LV.ref (2,4),LV.ref (2,5),LV.pure t2 v10,LV.pure t2 v11]),((2,3),Ob.row 142 Qyo v12),((2,4),Ob.row 142 Qyo v13),((2,5),Ob.row 144 Xa0 v14),((888888,4),Ob.row 142 Qyo v15)]⟩
noncomputable def Zen (n m:Nat) (v20 v21:Int) (v22:List Qk2) (v23 v24:Int) (v25:List Qk2) (v26:List Qkq) (v27 v28 v29 v30:Int) (v31 v32:List Qk2) (v33:List Qkq) (v34:List Qk2):Option Qrf:=
 Qjl Zkt tab (fiB [.val t56] Zf6) n [.val t56] [⟨t56,(nF 7),none⟩,⟨t52,[true],none⟩] Tryz.f261 [1,1,0,0] [] [1,2,4] m
 ⟨[(1,V1 (.ptr (1,0) 0)),(2,V1 (.ptr (2,0) 0)),(4,V1 (.ref (888888,4)))],[((1,0),Ob.box 57 [LV.pure t2 v20,LV.pure t2 v21,LV.ref (1,3),LV.pure t52 v22,LV.ref (1,5),LV.pure t2 v23,LV.pure t2 v24]),((1,3),Ob.row 142 Qyo v25),((1,5),Ob.row 144 Xa0 v26),((2,0),Ob.box 57 [LV.pure t2 v27,LV.pure t2 v28,LV.ref (2,3),LV.ref (2,4),LV.ref (2,5),LV.pure t2 v29,LV.pure t2 v30]),((2,3),Ob.row 142 Qyo v31),((2,4),Ob.row 142 Qyo v32),((2,5),Ob.row 144 Xa0 v33),((888888,4),Ob.row 142 Qyo v34)]⟩
theorem X1l (n m:Nat):Znz n (m+1)=X03 (Zen n m):=by kernel_rfl
theorem X46 (n m:Nat):Zen n (m+1)=X09 (Zen n m):=by kernel_rfl
theorem Zui (n:Nat):∀ m,Zen n m=Zz2 n m
 | 0=>rfl
 | m+1=>by rw [X46 n m,Zui n m];rfl
theorem X83 (n:Nat):∀ m,Znz n m=Zyf n m
 | 0=>rfl
 | m+1=>by rw [X1l n m,Zui n m];rfl
noncomputable def X3l (n:Nat) (f_0:Int × Int × Qkg × Qkg × Qpf × Int × Int):Option Qrf:=X48 (Zyf n n) f_0
noncomputable def Zi8 (f_0:Int × Int × Qkg × Qkg × Qpf × Int × Int):Option Qrf:=X3l 1099511627776 f_0
noncomputable def Zub:Ent:=⟨[.val t56],[⟨t56,(nF 7),none⟩,⟨t52,[true],none⟩],fun x=>Zi8 x.1⟩
theorem X8y (n:Nat) (f_0:Int × Int × Qkg × Qkg × Qpf × Int × Int):Qdf Zkt tab Zf6 n [.val t56] [⟨t56,(nF 7),none⟩,⟨t52,[true],none⟩] Tryz.f261 (f_0,())=X3l n f_0:=Eq.trans (b:=X48 (Znz n n) f_0) (by kernel_rfl) (by rw [X83 n n];rfl)
theorem Zsj:Q4j tab.ty Tryz.prog 261 Zub:=
 Qjd (Γ:=Zkt) (fi:=Zf6) (n:=1099511627776) follows (Qjq Zv2 (Qjq Zw1 (Qjq Zpj (Qjq X7v Qju)))) Qjz Tryz.func261 (by kernel_rfl) (by kernel_rfl) fun x r h=>(X8y 1099511627776 x.1).trans h
abbrev Qq6:Type:=(Qnc × Zng × Unit) × Unit
noncomputable def Zkp:Ctx:=[(258,Zy0),(259,X3j),(260,X6b),(261,Zub),(262,Zpe)]
def Zdt:Fi:={ keep:=[],vty:=[(8,183)],vals:=[],live:=[(0,[1,2,3,6,20,21]),(1,[1,2,3,6,20,21]),(2,[1,2,3,6,22]),(3,[6,7]),(4,[1,2,3,6,8]),(5,[1,2,3,6,8,9]),(6,[1,2,3,6,8,9,29]),(7,[1,2,3,6,8,9,10,11]),(8,[1,2,3,6,8,9,10,11,39]),(9,[1,2,3,6,8,9,10,11]),(10,[1,2,3,6,8,9,10,11]),(11,[1,2,3,6,8,9,11]),(12,[1,2,3,6,8,9,59]),(13,[1,2,3,6,8,9,12,13]),(14,[1,2,3,6,8,9,13]),(15,[1,2,3,6,8,9,68]),(16,[3,6,8,72]),(17,[3,6,8]),(18,[6,7])] }
abbrev Zzc:Type:=Int→Int→Int→Int→Int→Int→Int→Qkg→Qkg→Qpf→Int→Int→Int→Int→Qkg→Qkg→Qpf→Zng→Option Qq6
abbrev Zox:Type:=Int→Int→Int→Int→Int→Qkg→Qkg→Qpf→Int→Int→Int→Int→Int→Int→Qkg→Qkg→Qpf→Zng→Option Qq6
noncomputable def Zeu (v5 v4 v6:Int) (v9 v10:List Qk2) (v11:List Qkq) (v19:List (Int × Int)) (v7 v8:Int):Option Qq6:=
 bif v5 != v4 then
  Option.bind (Qsp) fun r52=>
  some (((v5,v6,v9,v10,v11,r52.1.1),v19,()),())
 else
  some (((v5,v6,v9,v10,v11,v7,v8),v19,()),())
noncomputable def X05 (L2:Zox) (v2 v3 v4 v5 v6 v7 v8:Int) (v9 v10:List Qk2) (v11:List Qkq) (v12 v13 v14 v15:Int) (v16 v17:List Qk2) (v18:List Qkq) (v19:List (Int × Int)):Option Qq6:=
 bif decide (v5≤v2) then
  Option.bind (X27 (v5,v6,v9,v10,v11,v7,v8) v2) fun r20=>
  bif decide (r20.1.1 ≥ v5) then
   Option.bind (X77 v11 v5 r20.1.1 v3) fun r21=>
   bif Nat.ble (v19.length+1) 1073741824 then
    bif !r20.1.2.1 then
     bif (IntKind.wrap .i64 (r20.1.1+1)) != v4 then
      Option.bind (Qsp) fun r22=>
      some (((IntKind.wrap .i64 (r20.1.1+1),v6,v9,v10,r21.1.1,r22.1.1),v19++[(v5,r20.1.1)],()),())
     else
      some (((IntKind.wrap .i64 (r20.1.1+1),v6,v9,v10,r21.1.1,v7,v8),v19++[(v5,r20.1.1)],()),())
    else
     Option.bind (Zi8 (IntKind.wrap .i64 (r20.1.1+1),v6,v9,v10,r21.1.1,v7,v8)) fun r23=>
     bif (r23.1.2.1.length:Int)==0 then
      bif r23.1.1.1 != v4 then
       Option.bind (Qsp) fun r24=>
       some (((e5 r23.1.1 r24.1.1),v19++[(v5,r20.1.1)],()),())
      else
       some ((r23.1.1,v19++[(v5,r20.1.1)],()),())
     else
      L2 v2 v3 v4 r23.1.1.1 r23.1.1.2.1 r23.1.1.2.2.1 (g3 r23.1.1) (g4 r23.1.1) (g5 r23.1.1) (h6 r23.1.1) v12 v13 v14 v15 v16 v17 v18 (v19++[(v5,r20.1.1)])
   else none
  else
  bif !r20.1.2.1 then
   Zeu v5 v4 v6 v9 v10 v11 v19 v7 v8
  else
   Option.bind (Zi8 (v5,v6,v9,v10,v11,v7,v8)) fun r53=>
   bif (r53.1.2.1.length:Int)==0 then
    bif r53.1.1.1 != v4 then
     Option.bind (Qsp) fun r54=>
     some (((e5 r53.1.1 r54.1.1),v19,()),())
    else
     some ((r53.1.1,v19,()),())
   else
    L2 v2 v3 v4 r53.1.1.1 r53.1.1.2.1 r53.1.1.2.2.1 (g3 r53.1.1) (g4 r53.1.1) (g5 r53.1.1) (h6 r53.1.1) v12 v13 v14 v15 v16 v17 v18 v19
 else
  Zeu v5 v4 v6 v9 v10 v11 v19 v7 v8
noncomputable def Zyi (L2:Zox) (v25 v26 v27 v28 v29:Int) (v30 v31:List Qk2) (v32:List Qkq) (v33 v34 v35 v36 v37 v38:Int) (v39 v40:List Qk2) (v41:List Qkq) (v42:List (Int × Int)):Option Qq6:=
 bif decide (v28≤v25) then
  Option.bind (X27 (v28,v29,v30,v31,v32,v33,v34) v25) fun r43=>
  bif decide (r43.1.1 ≥ v28) then
   Option.bind (X77 v32 v28 r43.1.1 v26) fun r44=>
   bif Nat.ble (v42.length+1) 1073741824 then
    bif !r43.1.2.1 then
     bif (IntKind.wrap .i64 (r43.1.1+1)) != v27 then
      Option.bind (Qsp) fun r45=>
      some (((IntKind.wrap .i64 (r43.1.1+1),v29,v30,v31,r44.1.1,r45.1.1),v42++[(v28,r43.1.1)],()),())
     else
      some (((IntKind.wrap .i64 (r43.1.1+1),v29,v30,v31,r44.1.1,v33,v34),v42++[(v28,r43.1.1)],()),())
    else
     Option.bind (Zi8 (IntKind.wrap .i64 (r43.1.1+1),v29,v30,v31,r44.1.1,v33,v34)) fun r46=>
     bif (r46.1.2.1.length:Int)==0 then
      bif r46.1.1.1 != v27 then
       Option.bind (Qsp) fun r47=>
       some (((e5 r46.1.1 r47.1.1),v42++[(v28,r43.1.1)],()),())
      else
       some ((r46.1.1,v42++[(v28,r43.1.1)],()),())
     else
      L2 v25 v26 v27 r46.1.1.1 r46.1.1.2.1 r46.1.1.2.2.1 (g3 r46.1.1) (g4 r46.1.1) (g5 r46.1.1) (h6 r46.1.1) v35 v36 v37 v38 v39 v40 v41 (v42++[(v28,r43.1.1)])
   else none
  else
  bif !r43.1.2.1 then
   Zeu v28 v27 v29 v30 v31 v32 v42 v33 v34
  else
   Option.bind (Zi8 (v28,v29,v30,v31,v32,v33,v34)) fun r49=>
   bif (r49.1.2.1.length:Int)==0 then
    bif r49.1.1.1 != v27 then
     Option.bind (Qsp) fun r50=>
     some (((e5 r49.1.1 r50.1.1),v42,()),())
    else
     some ((r49.1.1,v42,()),())
   else
    L2 v25 v26 v27 r49.1.1.1 r49.1.1.2.1 r49.1.1.2.2.1 (g3 r49.1.1) (g4 r49.1.1) (g5 r49.1.1) (h6 r49.1.1) v35 v36 v37 v38 v39 v40 v41 v42
 else
  Zeu v28 v27 v29 v30 v31 v32 v42 v33 v34
noncomputable def X1u (L1:Zzc) (f_0:Int × Int × Qkg × Qkg × Qpf × Int × Int) (hi_1 why_2:Int):Option Qq6:=
 Option.bind (X6t f_0) fun r1=>
 bif decide (r1.1.1.1<1) then
  some ((r1.1.1,[],()),())
 else
 bif decide (hi_1>1000000) then
  some ((r1.1.1,[],()),())
 else
  L1 hi_1 why_2 r1.1.1.1 r1.1.1.1 r1.1.1.2.1 (g5 r1.1.1) (h6 r1.1.1) r1.1.1.2.2.1 (g3 r1.1.1) (g4 r1.1.1) 0 0 0 0 [] [] [] []
noncomputable def Zyg (n:Nat):Nat→Zox:=iter (fun _ _ _ _ _ _ _ _ _ _ _ _ _ _ _ _ _ _=>none) fun L=>Zyi L
noncomputable def Zzt (n:Nat):Nat→Zzc:=Qj7 (fun _ _ _ _ _ _ _ _ _ _ _ _ _ _ _ _ _ _=>none) fun m L=>X05 (Zyg n m)
noncomputable def Zp5 (n m:Nat) (v2 v3 v4 v5 v6 v7 v8:Int) (v9 v10:List Qk2) (v11:List Qkq) (v12 v13 v14 v15:Int) (v16 v17:List Qk2) (v18:List Qkq) (v19:List (Int × Int)):Option Qq6:=
 Qjl Zkp tab (fiB [.val t56,.val t2,.val t2] Zdt) n [.val t56,.val t2,.val t2] [⟨t56,(nF 7),none⟩,⟨X20,[true],none⟩] Tryz.f223 [1,1,1,1,1,0,0] [] [1,2,3,6,8,9] m
 ⟨[(1,Vp t2 v2),(2,Vp t2 v3),(3,V1 (.ptr (3,0) 0)),(6,V1 (.ptr (6,0) 0)),(8,V1 (.ref (888888,8))),(9,Vp t2 v4)],[((3,0),Ob.box 57 [LV.pure t2 v5,LV.pure t2 v6,LV.ref (3,3),LV.ref (3,4),LV.ref (3,5),LV.pure t2 v7,LV.pure t2 v8]),((3,3),Ob.row 142 Qyo v9),((3,4),Ob.row 142 Qyo v10),((3,5),Ob.row 144 Xa0 v11),((6,0),Ob.box 57 [LV.pure t2 v12,LV.pure t2 v13,LV.ref (6,3),LV.ref (6,4),LV.ref (6,5),LV.pure t2 v14,LV.pure t2 v15]),((6,3),Ob.row 142 Qyo v16),((6,4),Ob.row 142 Qyo v17),((6,5),Ob.row 144 Xa0 v18),((888888,8),Ob.row 134 t54 v19)]⟩
noncomputable def Zfi (n m:Nat) (v25 v26 v27 v28 v29:Int) (v30 v31:List Qk2) (v32:List Qkq) (v33 v34 v35 v36 v37 v38:Int) (v39 v40:List Qk2) (v41:List Qkq) (v42:List (Int × Int)):Option Qq6:=
 Qjl Zkp tab (fiB [.val t56,.val t2,.val t2] Zdt) n [.val t56,.val t2,.val t2] [⟨t56,(nF 7),none⟩,⟨X20,[true],none⟩] Tryz.f223 [1,1,1,1,1,0,0] [] [1,2,3,6,8,9] m
 ⟨[(1,Vp t2 v25),(2,Vp t2 v26),(3,V1 (.ptr (3,0) 0)),(6,V1 (.ptr (6,0) 0)),(8,V1 (.ref (888888,8))),(9,Vp t2 v27)],[((3,0),Ob.box 57 [LV.pure t2 v28,LV.pure t2 v29,LV.pure t52 v30,LV.pure t52 v31,LV.pure t53 v32,LV.pure t2 v33,LV.pure t2 v34]),((6,0),Ob.box 57 [LV.pure t2 v35,LV.pure t2 v36,LV.ref (6,3),LV.ref (6,4),LV.ref (6,5),LV.pure t2 v37,LV.pure t2 v38]),((6,3),Ob.row 142 Qyo v39),((6,4),Ob.row 142 Qyo v40),((6,5),Ob.row 144 Xa0 v41),((888888,8),Ob.row 134 t54 v42)]⟩
theorem X3r (n m:Nat):Zp5 n (m+1)=X05 (Zfi n m):=by kernel_rfl
theorem X2n (n m:Nat):Zfi n (m+1)=Zyi (Zfi n m):=by kernel_rfl
theorem Zvu (n:Nat):∀ m,Zfi n m=Zyg n m
 | 0=>rfl
 | m+1=>by rw [X2n n m,Zvu n m];rfl
theorem X7h (n:Nat):∀ m,Zp5 n m=Zzt n m
 | 0=>rfl
 | m+1=>by rw [X3r n m,Zvu n m];rfl
noncomputable def X45 (n:Nat) (f_0:Int × Int × Qkg × Qkg × Qpf × Int × Int) (hi_1 why_2:Int):Option Qq6:=X1u (Zzt n n) f_0 hi_1 why_2
noncomputable def X2g (f_0:Int × Int × Qkg × Qkg × Qpf × Int × Int) (hi_1 why_2:Int):Option Qq6:=X45 1099511627776 f_0 hi_1 why_2
noncomputable def Ztq:Ent:=⟨[.val t56,.val t2,.val t2],[⟨t56,(nF 7),none⟩,⟨X20,[true],none⟩],fun x=>X2g x.1 x.2.1 x.2.2.1⟩
theorem X96 (n:Nat) (f_0:Int × Int × Qkg × Qkg × Qpf × Int × Int) (hi_1 why_2:Int):Qdf Zkp tab Zdt n [.val t56,.val t2,.val t2] [⟨t56,(nF 7),none⟩,⟨X20,[true],none⟩] Tryz.f223 (f_0,hi_1,why_2,())=X45 n f_0 hi_1 why_2:=Eq.trans (b:=X1u (Zp5 n n) f_0 hi_1 why_2) (by kernel_rfl) (by rw [X7h n n];rfl)
theorem Zry:Q4j tab.ty Tryz.prog 223 Ztq:=
 Qjd (Γ:=Zkp) (fi:=Zdt) (n:=1099511627776) follows (Qjq Zvn (Qjq X4m (Qjq X76 (Qjq Zsj (Qjq Zpj Qju))))) Qjz Tryz.func223 (by kernel_rfl) (by kernel_rfl) fun x r h=>(X96 1099511627776 x.1 x.2.1 x.2.2.1).trans h
noncomputable def X0z (f_0:Int × Int × Qkg × Qkg × Qpf × Int × Int):Option ((Qnc × Qkg × Unit) × Unit):=
 Option.bind (X6t f_0) fun r1=>
 Option.bind (Zi8 r1.1.1) fun r2=>
 some ((r2.1.1,r2.1.2.1,()),())
noncomputable def Zqf:Ent:=⟨[.val t56],[⟨t56,(nF 7),none⟩,⟨t52,[true],none⟩],fun x=>X0z x.1⟩
theorem Zjs:Q4j tab.ty Tryz.prog 224 Zqf:=
 Qjd (Γ:=[(258,Zy0),(261,Zub)]) (fi:={ keep:=[],vty:=[],vals:=[],live:=[(0,[1,2]),(1,[2,3])] }) (n:=1) follows (Qjq Zvn (Qjq Zsj Qju)) Qjz Tryz.func224 (by kernel_rfl) (by kernel_rfl) fun x r h=>Eq.trans (by kernel_rfl) h
noncomputable def X6k (a_0:Int × Int) (now_1:Int):Option (((Int × Int) × Unit) × Unit):=
 bif decide (0≤(if 0>(if 3<a_0.1 then 3 else a_0.1) then 0 else if 3<a_0.1 then 3 else a_0.1)) then
  some (((IntKind.wrap .i64 (a_0.1+1),IntKind.wrap .i64 (now_1+(IntKind.wrap .i64 (2*2 ^ (min ((if 0>(if 3<a_0.1 then 3 else a_0.1) then 0 else if 3<a_0.1 then 3 else a_0.1).toNat) 64))))),()),())
 else none
noncomputable def Zzu:Ent:=⟨[.val t54,.val t2],[⟨t54,[false,false],none⟩],fun x=>X6k x.1 x.2.1⟩
theorem X44:Q4j tab.ty Tryz.prog 225 Zzu:=
 Qjd (Γ:=[]) (fi:={ keep:=[],vty:=[],vals:=[],live:=[(0,[1,2,4]),(1,[4])] }) (n:=1) follows Qju Qjz Tryz.func225 (by kernel_rfl) (by kernel_rfl) fun x r h=>Eq.trans (by kernel_rfl) h
noncomputable def X95 (f_0:Int × Int × Qkg × Qkg × Qpf × Int × Int) (now_1:Int):Option ((Qnc × (Int × Int) × Bool × Unit) × Unit):=
 Option.bind (X9q f_0) fun r1=>
 bif !r1.1.2.1 then
  Option.bind (Qov f_0) fun r2=>
  some ((r2.1.1,(0,0),false,()),())
 else
  Option.bind (Xat (h5 f_0) now_1) fun r3=>
  bif !r3.1.1 then
   Option.bind (Qov f_0) fun r4=>
   some ((r4.1.1,(0,0),false,()),())
  else
   Option.bind (X5x (h5 f_0)) fun r5=>
   bif r5.1.1 then
    Option.bind (X2g f_0 r1.1.1.2 2) fun r6=>
    Option.bind (X0z r6.1.1) fun r7=>
    some ((r7.1.1,(0,0),false,()),())
   else
    Option.bind (Qov f_0) fun r8=>
    Option.bind (X6k (h5 r8.1.1) now_1) fun r9=>
    some (((e5 r8.1.1 r9.1.1),r1.1.1,true,()),())
noncomputable def X37:Ent:=⟨[.val t56,.val t2],[⟨t56,(nF 7),none⟩,⟨t54,[false,false],none⟩,⟨t4,[false],none⟩],fun x=>X95 x.1 x.2.1⟩
theorem X4q:Q4j tab.ty Tryz.prog 178 X37:=
 Qjd (Γ:=[(212,Qx0),(220,X3s),(221,X5r),(222,Zyh),(223,Ztq),(224,Zqf),(225,Zzu)]) (fi:={ keep:=[],vty:=[],vals:=[],live:=[(0,[1,2,4,5,18,19,20,21,22]),(1,[1,2,4,5,7,8,18,19,20,21,22]),(2,[1,2,4,5,7,14]),(3,[4,5,6]),(4,[1,2,4,5,7,27]),(5,[2,4,5]),(6,[2,4,5]),(7,[4,5,6]),(8,[1,2,4,5,7]),(9,[2,4,5,7]),(10,[4,5,6])] }) (n:=1) follows (Qjq Qso (Qjq X4t (Qjq X7b (Qjq X1x (Qjq Zry (Qjq Zjs (Qjq X44 Qju))))))) Qjz Tryz.func178 (by kernel_rfl) (by kernel_rfl) fun x r h=>Eq.trans (by kernel_rfl) h
abbrev Z35:Type:=(Z3k × Qtq × Unit) × Unit
noncomputable def Zua:Ctx:=[(169,Qxa),(176,Zk9),(177,X5l),(178,X37),(179,Zf3)]
def Znq:Fi:={ keep:=[],vty:=[],vals:=[],live:=[(0,[1,2]),(1,[1,2,4]),(2,[1,2,4,16]),(3,[2,3]),(4,[1,2,4,5,6]),(5,[1,2,4,6]),(6,[1,2,4,6,26,27,28]),(7,[1,2,4,6,26,27,28,29]),(8,[1,2,4,6,7,8,26,27,28]),(9,[1,2,4,6,7,26,27,28,35]),(10,[1,2,4,6,26,27,28]),(11,[1,2,4,6,26,27,28]),(12,[1,2,4,6,49]),(13,[2,3]),(14,[1,2,4,6,9,10,11]),(15,[1,2,4,6,10,11]),(16,[1,2,4,6,10,64]),(17,[1,2,4,6]),(18,[2,3])] }
abbrev Zns:Type:=Int→Int→Bool→Int→ByteArray→Int→Int→Int→Int→Int→Int→List Int→Int→Int→Int→Int→Int→Zjb→Int→Int→Qkg→Qkg→Qpf→Int→Int→Int→Int→ByteArray→Int→Int→Int→Int→Int→Int→Int→Int→Int→Int→Int→Int→Int→Int→Int→Int→List Int→Zjb→Qkg→Qkg→Qpf→Bool→Int→ByteArray→Int→Int→Int→Int→Int→Int→List Int→Int→Int→Int→Int→Int→Zjb→Int→Int→Qkg→Qkg→Qpf→Int→Int→Int→Qtq→Option Z35
noncomputable def Zzp (L1:Zns) (v3 v4:Int) (v5:Bool) (v6:Int) (v7:ByteArray) (v8 v9 v10 v11 v12 v13:Int) (v14:List Int) (v15 v16 v17 v18 v19:Int) (v20:List Qkm) (v21 v22:Int) (v23 v24:List Qk2) (v25:List Qkq) (v26 v27 v28 v29:Int) (v30:ByteArray) (v31 v32 v33 v34 v35 v36 v37 v38 v39 v40 v41 v42 v43 v44 v45 v46:Int) (v47:List Int) (v48:List Qkm) (v49 v50:List Qk2) (v51:List Qkq) (v52:Bool) (v53:Int) (v54:ByteArray) (v55 v56 v57 v58 v59 v60:Int) (v61:List Int) (v62 v63 v64 v65 v66:Int) (v67:List Qkm) (v68 v69:Int) (v70 v71:List Qk2) (v72:List Qkq) (v73 v74 v75:Int) (v76:List Qko):Option Z35:=
 bif decide (v4<v3) then
  bif decide (0≤v4)&&decide (v4<(v76.length:Int)) then
   bif decide (0≤v4)&&decide (v4<(v76.length:Int)) then
    bif ((List.getD v76 v4.toNat Ql1).1)==5 then
     bif decide (0≤v4)&&decide (v4<(v76.length:Int)) then
      bif decide (0≤v4)&&decide (v4<(v76.length:Int)) then
       L1 v3 (IntKind.wrap .i64 (v4+1)) v5 v6 v7 v8 v9 v10 v11 v12 v13 v14 v15 v16 v17 v18 v19 v20 v21 v22 v23 v24 v25 v26 v27 v28 v29 v30 v31 v32 v33 v34 v35 v36 v37 v38 v39 v40 v41 v42 v43 v44 v45 v46 v47 v48 v49 v50 v51 v52 v53 v54 v55 v56 v57 v58 v59 v60 v61 v62 v63 v64 v65 v66 v67 v68 v69 v70 v71 v72 v73 v74 v75 (List.set v76 v4.toNat ((List.getD v76 v4.toNat Ql1).1,((List.getD v76 v4.toNat Ql1).2).1,(((List.getD v76 v4.toNat Ql1).2).2).1,((((List.getD v76 v4.toNat Ql1).2).2).2).1,(((((List.getD v76 v4.toNat Ql1).2).2).2).2).1,((((((List.getD v76 v4.toNat Ql1).2).2).2).2).2).1,(((((((List.getD v76 v4.toNat Ql1).2).2).2).2).2).2).1,((((((((List.getD v76 v4.toNat Ql1).2).2).2).2).2).2).2).1,if 0>IntKind.wrap .i64 (v21 - 1) then 0 else IntKind.wrap .i64 (v21 - 1),(((((((((List.getD v76 v4.toNat Ql1).2).2).2).2).2).2).2).2).2))
      else none
     else none
    else
     L1 v3 (IntKind.wrap .i64 (v4+1)) v5 v6 v7 v8 v9 v10 v11 v12 v13 v14 v15 v16 v17 v18 v19 v20 v21 v22 v23 v24 v25 v26 v27 v28 v29 v30 v31 v32 v33 v34 v35 v36 v37 v38 v39 v40 v41 v42 v43 v44 v45 v46 v47 v48 v49 v50 v51 v52 v53 v54 v55 v56 v57 v58 v59 v60 v61 v62 v63 v64 v65 v66 v67 v68 v69 v70 v71 v72 v73 v74 v75 v76
   else none
  else none
 else
 bif v58==0 then
  some (((v52,v53,v54,(v55,v56,v57,v58,v59,v60,v61,v62,v63,v64,v65,v66,v67),(v68,v69,v70,v71,v72,v73,v74),v75),v76,()),())
 else
  Option.bind (X95 (v21,v22,v23,v24,v25,v26,v27) v57) fun r77=>
  bif r77.1.2.2.1 then
   Option.bind (Z9a (v52,v53,v54,(v55,v56,v57,v58,v59,v60,v61,v62,v63,v64,v65,v66,v67),r77.1.1,v75) 8 v58 r77.1.2.1.1 r77.1.2.1.2 (⟨#[]⟩:ByteArray)) fun r78=>
   bif Nat.ble (v76.length+1) 1073741824 then
    Option.bind (Ziv (v52,v53,v54,(v55,v56,v57,v58,v59,v60,v61,v62,v63,v64,v65,v66,v67),r77.1.1,v75) (v21,v22,v23,v24,v25,v26,v27)) fun r79=>
    bif Nat.ble ((v76++[r78.1.1]).length+r79.1.1.length) 1073741824 then
     some (((v52,v53,v54,(v55,v56,v57,v58,v59,v60,v61,v62,v63,v64,v65,v66,v67),r77.1.1,v75),(v76++[r78.1.1])++r79.1.1,()),())
    else none
   else none
  else
   Option.bind (Ziv (v52,v53,v54,(v55,v56,v57,v58,v59,v60,v61,v62,v63,v64,v65,v66,v67),r77.1.1,v75) (v21,v22,v23,v24,v25,v26,v27)) fun r80=>
   bif Nat.ble (v76.length+r80.1.1.length) 1073741824 then
    some (((v52,v53,v54,(v55,v56,v57,v58,v59,v60,v61,v62,v63,v64,v65,v66,v67),r77.1.1,v75),v76++r80.1.1,()),())
   else none
noncomputable def X1r (L1:Zns) (n_0:Bool × Int × ByteArray × Qli × Qnc × Int):Option Z35:=
 Option.bind (Qqn n_0) fun r1=>
 bif !n_0.1 then
  some ((r1.1.1,[],()),())
 else
  Option.bind (Xb0 (g3 n_0)) fun r2=>
  L1 (r2.1.2.1.length:Int) 0 n_0.1 n_0.2.1 n_0.2.2.1 (g3 n_0).1 (g3 n_0).2.1 (g3 n_0).2.2.1 (g3 (g3 n_0)) (g4 (g3 n_0)) (g5 (g3 n_0)) (g6 (g3 n_0)) (g7 (g3 n_0)) (g8 (g3 n_0)) (g9 (g3 n_0)) (g10 (g3 n_0)) (g11 (g3 n_0)) (h12 (g3 n_0)) (g4 n_0).1 (g4 n_0).2.1 (g4 n_0).2.2.1 (g3 (g4 n_0)) (g4 (g4 n_0)) (g5 (g4 n_0)) (h6 (g4 n_0)) (h5 n_0) 0 (⟨#[]⟩:ByteArray) 0 0 0 0 0 0 0 0 0 0 0 0 0 0 0 0 [] [] [] [] [] r1.1.1.1 r1.1.1.2.1 r1.1.1.2.2.1 r2.1.1.1 r2.1.1.2.1 r2.1.1.2.2.1 (g3 r2.1.1) (g4 r2.1.1) (g5 r2.1.1) (g6 r2.1.1) (g7 r2.1.1) (g8 r2.1.1) (g9 r2.1.1) (g10 r2.1.1) (g11 r2.1.1) (h12 r2.1.1) (g4 r1.1.1).1 (g4 r1.1.1).2.1 (g4 r1.1.1).2.2.1 (g3 (g4 r1.1.1)) (g4 (g4 r1.1.1)) (g5 (g4 r1.1.1)) (h6 (g4 r1.1.1)) (h5 r1.1.1) r2.1.2.1
noncomputable def Zym (n:Nat):Nat→Zns:=iter (fun _ _ _ _ _ _ _ _ _ _ _ _ _ _ _ _ _ _ _ _ _ _ _ _ _ _ _ _ _ _ _ _ _ _ _ _ _ _ _ _ _ _ _ _ _ _ _ _ _ _ _ _ _ _ _ _ _ _ _ _ _ _ _ _ _ _ _ _ _ _ _ _ _ _=>none) fun L=>Zzp L
noncomputable def Ze9 (n m:Nat) (v3 v4:Int) (v5:Bool) (v6:Int) (v7:ByteArray) (v8 v9 v10 v11 v12 v13:Int) (v14:List Int) (v15 v16 v17 v18 v19:Int) (v20:List Qkm) (v21 v22:Int) (v23 v24:List Qk2) (v25:List Qkq) (v26 v27 v28 v29:Int) (v30:ByteArray) (v31 v32 v33 v34 v35 v36 v37 v38 v39 v40 v41 v42 v43 v44 v45 v46:Int) (v47:List Int) (v48:List Qkm) (v49 v50:List Qk2) (v51:List Qkq) (v52:Bool) (v53:Int) (v54:ByteArray) (v55 v56 v57 v58 v59 v60:Int) (v61:List Int) (v62 v63 v64 v65 v66:Int) (v67:List Qkm) (v68 v69:Int) (v70 v71:List Qk2) (v72:List Qkq) (v73 v74 v75:Int) (v76:List Qko):Option Z35:=
 Qjl Zua tab (fiB [.val t58] Znq) n [.val t58] [⟨t58,(nF 24),none⟩,⟨t70,[true],none⟩] Tryz.f144 [1,1,1,1,1,0,1,0] [] [1,2,4,6,26,27,28] m
 ⟨[(1,V1 (.ptr (1,0) 0)),(2,V1 (.ptr (2,0) 0)),(4,V1 (.ptr (4,0) 0)),(6,V1 (.ref (888888,26))),(26,V1 (.ref (888888,26))),(27,Vp t2 v3),(28,Vp t2 v4)],[((1,0),Ob.box 59 [LV.pure t4 v5,LV.pure t2 v6,LV.pure t9 v7,LV.pure t2 v8,LV.pure t2 v9,LV.pure t2 v10,LV.pure t2 v11,LV.pure t2 v12,LV.pure t2 v13,LV.pure t44 v14,LV.pure t2 v15,LV.pure t2 v16,LV.pure t2 v17,LV.pure t2 v18,LV.pure t2 v19,LV.pure t49 v20,LV.pure t2 v21,LV.pure t2 v22,LV.pure t52 v23,LV.pure t52 v24,LV.pure t53 v25,LV.pure t2 v26,LV.pure t2 v27,LV.pure t2 v28]),((2,0),Ob.box 59 [LV.lit false,LV.pure t2 v29,LV.pure t9 v30,LV.pure t2 v31,LV.pure t2 v32,LV.pure t2 v33,LV.pure t2 v34,LV.pure t2 v35,LV.pure t2 v36,LV.ref (2,10),LV.pure t2 v37,LV.pure t2 v38,LV.pure t2 v39,LV.pure t2 v40,LV.pure t2 v41,LV.ref (2,16),LV.pure t2 v42,LV.pure t2 v43,LV.ref (2,19),LV.ref (2,20),LV.ref (2,21),LV.pure t2 v44,LV.pure t2 v45,LV.pure t2 v46]),((2,10),Ob.row 3 t2 v47),((2,16),Ob.row 84 t83 v48),((2,19),Ob.row 142 Qyo v49),((2,20),Ob.row 142 Qyo v50),((2,21),Ob.row 144 Xa0 v51),((4,0),Ob.box 59 [LV.pure t4 v52,LV.pure t2 v53,LV.pure t9 v54,LV.pure t2 v55,LV.pure t2 v56,LV.pure t2 v57,LV.pure t2 v58,LV.pure t2 v59,LV.pure t2 v60,LV.pure t44 v61,LV.pure t2 v62,LV.pure t2 v63,LV.pure t2 v64,LV.pure t2 v65,LV.pure t2 v66,LV.pure t49 v67,LV.pure t2 v68,LV.pure t2 v69,LV.pure t52 v70,LV.pure t52 v71,LV.pure t53 v72,LV.pure t2 v73,LV.pure t2 v74,LV.pure t2 v75]),((888888,26),Ob.row 105 Qsi v76)]⟩
theorem X2k (n m:Nat):Ze9 n (m+1)=Zzp (Ze9 n m):=by kernel_rfl
theorem Zw8 (n:Nat):∀ m,Ze9 n m=Zym n m
 | 0=>rfl
 | m+1=>by rw [X2k n m,Zw8 n m];rfl
noncomputable def X1m (n:Nat) (n_0:Bool × Int × ByteArray × Qli × Qnc × Int):Option Z35:=X1r (Zym n n) n_0
noncomputable def X91 (n_0:Bool × Int × ByteArray × Qli × Qnc × Int):Option Z35:=X1m 1099511627776 n_0
noncomputable def X2w:Ent:=⟨[.val t58],[⟨t58,(nF 24),none⟩,⟨t70,[true],none⟩],fun x=>X91 x.1⟩
theorem X9p (n:Nat) (n_0:Bool × Int × ByteArray × Qli × Qnc × Int):Qdf Zua tab Znq n [.val t58] [⟨t58,(nF 24),none⟩,⟨t70,[true],none⟩] Tryz.f144 (n_0,())=X1m n n_0:=Eq.trans (b:=X1r (Ze9 n n) n_0) (by kernel_rfl) (by rw [Zw8 n n];rfl)
theorem X55:Q4j tab.ty Tryz.prog 144 X2w:=
 Qjd (Γ:=Zua) (fi:=Znq) (n:=1099511627776) follows (Qjq Qsq (Qjq Zg6 (Qjq X79 (Qjq X4q (Qjq Zc8 Qju))))) Qjz Tryz.func144 (by kernel_rfl) (by kernel_rfl) fun x r h=>(X9p 1099511627776 x.1).trans h
noncomputable def Zax (w_0:Zmw × Unit) (r_1:Int):Option ((IV × Unit) × (Zka × Unit)):=
 bif decide (r_1<1)||decide (r_1>(w_0.1.1.length:Int)) then
  some ((IV.mk 122 [.int .i64 1],()),((w_0.1,()),()))
 else
 bif decide (0≤r_1 - 1)&&decide (r_1 - 1<(w_0.1.1.length:Int)) then
  bif !((List.getD w_0.1.1 ((r_1 - 1).toNat) Qk4).1) then
   some ((IV.mk 122 [.int .i64 3],()),((w_0.1,()),()))
  else
  bif decide (0≤r_1 - 1)&&decide (r_1 - 1<(w_0.1.1.length:Int)) then
   Option.bind (X91 ((List.getD w_0.1.1 ((r_1 - 1).toNat) Qk4).1,((List.getD w_0.1.1 ((r_1 - 1).toNat) Qk4).2).1,(((List.getD w_0.1.1 ((r_1 - 1).toNat) Qk4).2).2).1,((((((List.getD w_0.1.1 ((r_1 - 1).toNat) Qk4).2).2).2).1).1,((((((List.getD w_0.1.1 ((r_1 - 1).toNat) Qk4).2).2).2).1).2).1,(((((((List.getD w_0.1.1 ((r_1 - 1).toNat) Qk4).2).2).2).1).2).2).1,((((((((List.getD w_0.1.1 ((r_1 - 1).toNat) Qk4).2).2).2).1).2).2).2).1,(((((((((List.getD w_0.1.1 ((r_1 - 1).toNat) Qk4).2).2).2).1).2).2).2).2).1,((((((((((List.getD w_0.1.1 ((r_1 - 1).toNat) Qk4).2).2).2).1).2).2).2).2).2).1,(((((((((((List.getD w_0.1.1 ((r_1 - 1).toNat) Qk4).2).2).2).1).2).2).2).2).2).2).1,((((((((((((List.getD w_0.1.1 ((r_1 - 1).toNat) Qk4).2).2).2).1).2).2).2).2).2).2).2).1,(((((((((((((List.getD w_0.1.1 ((r_1 - 1).toNat) Qk4).2).2).2).1).2).2).2).2).2).2).2).2).1,((((((((((((((List.getD w_0.1.1 ((r_1 - 1).toNat) Qk4).2).2).2).1).2).2).2).2).2).2).2).2).2).1,(((((((((((((((List.getD w_0.1.1 ((r_1 - 1).toNat) Qk4).2).2).2).1).2).2).2).2).2).2).2).2).2).2).1,((((((((((((((((List.getD w_0.1.1 ((r_1 - 1).toNat) Qk4).2).2).2).1).2).2).2).2).2).2).2).2).2).2).2)),(((((((List.getD w_0.1.1 ((r_1 - 1).toNat) Qk4).2).2).2).2).1).1,(((((((List.getD w_0.1.1 ((r_1 - 1).toNat) Qk4).2).2).2).2).1).2).1,((((((((List.getD w_0.1.1 ((r_1 - 1).toNat) Qk4).2).2).2).2).1).2).2).1,(((((((((List.getD w_0.1.1 ((r_1 - 1).toNat) Qk4).2).2).2).2).1).2).2).2).1,((((((((((List.getD w_0.1.1 ((r_1 - 1).toNat) Qk4).2).2).2).2).1).2).2).2).2).1,(((((((((((List.getD w_0.1.1 ((r_1 - 1).toNat) Qk4).2).2).2).2).1).2).2).2).2).2)),(((((List.getD w_0.1.1 ((r_1 - 1).toNat) Qk4).2).2).2).2).2)) fun r1=>
   bif decide (0≤r_1 - 1)&&decide (r_1 - 1<(w_0.1.1.length:Int)) then
    Option.bind (Qoq ((List.set w_0.1.1 ((r_1 - 1).toNat) r1.1.1,w_0.1.2),()) r1.1.2.1) fun r2=>
    some ((IV.nil,()),((r2.2.1.1,()),()))
   else none
  else none
 else none
noncomputable def Z4d:Ent:=⟨[.box 117 Xao [true,false,true,false,false,false],.val t2],[⟨t20,[false],none⟩],fun x=>Zax x.1 x.2.1⟩
theorem Ziw:Q4j tab.ty Tryz.prog 96 Z4d:=
 Qjd (Γ:=[(141,Qn1),(144,X2w)]) (fi:={ keep:=[],vty:=[],vals:=[],live:=[(0,[0,1]),(1,[0,5,6]),(2,[0,5,6,16]),(3,[0,4]),(4,[0,5,22]),(5,[0,4]),(6,[0,5,7,8]),(7,[0,8]),(8,[0]),(9,[0,4])] }) (n:=1) follows (Qjq Qnh (Qjq X55 Qju)) Qjz Tryz.func96 (by kernel_rfl) (by kernel_rfl) fun x r h=>Eq.trans (by kernel_rfl) h
noncomputable def Zup (l_0:List Z8z) (i_1:Int):Option ((Bool × Unit) × Unit):=
 bif decide (i_1 ≥ 0) then
  some ((decide (i_1<(l_0.length:Int)),()),())
 else
  some ((false,()),())
noncomputable def Zk6:Ent:=⟨[.val t24,.val t2],[⟨t4,[false],none⟩],fun x=>Zup x.1 x.2.1⟩
theorem Zfo:Q4j tab.ty Tryz.prog 180 Zk6:=
 Qjd (Γ:=[]) (fi:={ keep:=[],vty:=[],vals:=[],live:=[(0,[0,1,8,9,10,11]),(1,[4])] }) (n:=1) follows Qju Qjz Tryz.func180 (by kernel_rfl) (by kernel_rfl) fun x r h=>Eq.trans (by kernel_rfl) h
noncomputable def Z73:Ctx:=[(181,Qjc)]
def Z57:Fi:={ keep:=[],vty:=[],vals:=[],live:=[(0,[0,1,2]),(1,[0,1,2]),(2,[0,1,2,16]),(3,[6]),(4,[0,1,2,7]),(5,[0,7]),(6,[0]),(7,[6])],melt:=[(6,1000000)] }
noncomputable def Z70 (c:Nat) (s_0:List Z8z) (i_1:Int) (j_2:Int):Option ((Qq2 × Unit) × Unit):=
 bif ((decide (0≤i_1)&&decide (i_1≤j_2))&&decide (j_2≤((s_0.length:Nat):Int)))&&decide (((s_0.length:Nat):Int)≤((((List.map some s_0++List.replicate c none).length) - 0:Nat):Int)) then
  bif i_1==j_2 then
   bif Nat.ble s_0.length ((List.map some s_0++List.replicate c none).length) then
    Option.bind (Qd (List.take s_0.length (List.map some s_0++List.replicate c none))) fun (z1:List Z8z)=>
    some ((z1,()),())
   else none
  else
  bif decide (0≤i_1)&&decide (i_1≤((((List.map some s_0++List.replicate c none).length) - 0:Nat):Int)) then
   bif (decide (0≤j_2)&&decide (j_2≤((s_0.length:Nat):Int)))&&decide (((s_0.length:Nat):Int)≤((((List.map some s_0++List.replicate c none).length) - 0:Nat):Int)) then
    bif Nat.ble (0+((i_1 - 0).toNat)) ((List.map some s_0++List.replicate c none).length) then
     bif Nat.ble ((0+j_2.toNat)+((((s_0.length:Nat):Int) - j_2).toNat)) ((List.map some s_0++List.replicate c none).length) then
      Option.bind (Qd (List.take ((((s_0.length:Nat):Int) - j_2).toNat) (List.drop (0+j_2.toNat) (List.map some s_0++List.replicate c none)))) fun (z2:List Z8z)=>
      bif Nat.ble (((i_1 - 0).toNat)+z2.length) ((List.map some s_0++List.replicate c none).length) then
       bif (decide (0≤((((i_1 - 0).toNat)+z2.length:Nat):Int))&&decide (((((i_1 - 0).toNat)+z2.length:Nat):Int)≤((s_0.length:Nat):Int)))&&decide (((s_0.length:Nat):Int)≤((((Q6 (List.map some s_0++List.replicate c none) ((i_1 - 0).toNat) z2).length) - 0:Nat):Int)) then
        bif Nat.ble ((0+(((((i_1 - 0).toNat)+z2.length:Nat):Int).toNat))+((((s_0.length:Nat):Int) - ((((i_1 - 0).toNat)+z2.length:Nat):Int)).toNat)) ((Q6 (List.map some s_0++List.replicate c none) ((i_1 - 0).toNat) z2).length) then
         bif Nat.ble (((i_1 - 0).toNat)+z2.length) ((Q6 (Q6 (List.map some s_0++List.replicate c none) ((i_1 - 0).toNat) z2) (0+(((((i_1 - 0).toNat)+z2.length:Nat):Int).toNat)) (List.replicate ((((s_0.length:Nat):Int) - ((((i_1 - 0).toNat)+z2.length:Nat):Int)).toNat) (Qn2:Int × ByteArray × Bool))).length) then
          Option.bind (Qd (List.take (((i_1 - 0).toNat)+z2.length) (Q6 (Q6 (List.map some s_0++List.replicate c none) ((i_1 - 0).toNat) z2) (0+(((((i_1 - 0).toNat)+z2.length:Nat):Int).toNat)) (List.replicate ((((s_0.length:Nat):Int) - ((((i_1 - 0).toNat)+z2.length:Nat):Int)).toNat) (Qn2:Int × ByteArray × Bool))))) fun (z3:List Z8z)=>
          some ((z3,()),())
         else none
        else none
       else none
      else
      bif Nat.ble (((i_1 - 0).toNat)+z2.length) 1073741824 then
       Option.bind (Qd (List.take ((i_1 - 0).toNat) (List.map some s_0++List.replicate c none))) fun (z4:List Z8z)=>
       bif (decide (0≤(((z4++z2).length:Nat):Int))&&decide ((((z4++z2).length:Nat):Int)≤((s_0.length:Nat):Int)))&&decide (((s_0.length:Nat):Int)≤(((List.map some (z4++z2)).length:Nat):Int)) then
        bif Nat.ble ((0+((((z4++z2).length:Nat):Int).toNat))+((((s_0.length:Nat):Int) - (((z4++z2).length:Nat):Int)).toNat)) ((List.map some (z4++z2)).length) then
         none
        else none
       else none
      else none
     else none
    else none
   else none
  else none
 else none
theorem Zjc (c:Nat) (s_0:List Z8z) (i_1:Int) (j_2:Int):Qdf Z73 tab { Z57 with cap:=c } 1 [.ownc 75 t74,.val t2,.val t2] [⟨t24,[true],none⟩] Tryz.f181 (s_0,i_1,j_2,())=Z70 c s_0 i_1 j_2:=by kernel_rfl
theorem Zkv (c:Nat) (s_0:List Z8z) (i_1:Int) (j_2:Int):Z70 c s_0 i_1 j_2=Qen (Qn2:Int × ByteArray × Bool) c s_0 i_1 j_2:=by kernel_rfl
noncomputable def Zdc (s_0:List Z8z) (i_1:Int) (j_2:Int):Option ((Qq2 × Unit) × Unit):=Qeg s_0 i_1 j_2
noncomputable def Z8j:Ent:=⟨[.ownc 75 t74,.val t2,.val t2],[⟨t24,[true],none⟩],fun x=>Zdc x.1 x.2.1 x.2.2.1⟩
theorem Zjw:Q4j tab.ty Tryz.prog 181 Z8j:=by
  refine Qgb (Γ:=Z73) (fi:=Z57) (n:=1) follows (Qjq (Qjr Tryz.func181 (by kernel_rfl) (by kernel_rfl)) Qju) Qjz Tryz.func181 (by kernel_rfl) (by kernel_rfl) (fun c x r hc h=>?_)
  obtain ⟨s_0,i_1,j_2,_u⟩:=x
  exact (Zjc c s_0 i_1 j_2).trans ((Zkv c s_0 i_1 j_2).trans (Qis (Qn2:Int × ByteArray × Bool) c s_0 i_1 j_2 r hc h))
noncomputable def X34 (l_0:List Z8z) (i_1:Int):Option ((Qq2 × Z8z × Bool × Unit) × Unit):=
 Option.bind (Qly l_0) fun r1=>
 Option.bind (Zup r1.1.1 i_1) fun r2=>
 bif !r2.1.1 then
  some ((r1.1.1,Qn2,false,()),())
 else
 bif decide (0≤i_1)&&decide (i_1<(r1.1.1.length:Int)) then
  bif decide (0≤i_1)&&decide (i_1<(r1.1.1.length:Int)) then
   Option.bind (Zdc r1.1.1 i_1 (IntKind.wrap .i64 (i_1+1))) fun r3=>
   some ((r3.1.1,(List.getD r1.1.1 i_1.toNat Qn2),true,()),())
  else none
 else none
noncomputable def Ztc:Ent:=⟨[.val t24,.val t2],[⟨t24,[true],none⟩,⟨t74,[false,false,false],none⟩,⟨t4,[false],none⟩],fun x=>X34 x.1 x.2.1⟩
theorem Zsf:Q4j tab.ty Tryz.prog 145 Ztc:=
 Qjd (Γ:=[(86,Qmo),(180,Zk6),(181,Z8j)]) (fi:={ keep:=[],vty:=[],vals:=[],live:=[(0,[0,1,5]),(1,[0,1,5]),(2,[0,1,5,13]),(3,[4,5,6]),(4,[0,1,5,7]),(5,[4,5,6])] }) (n:=1) follows (Qjq Qmk (Qjq Zfo (Qjq Zjw Qju))) Qjz Tryz.func145 (by kernel_rfl) (by kernel_rfl) fun x r h=>Eq.trans (by kernel_rfl) h
abbrev Z2y:Type:=(Int × Int × IV × Unit) × Unit
noncomputable def Zt3:Ctx:=[]
def Znu:Fi:={ keep:=[],vty:=[],vals:=[],live:=[(0,[0,2,3,11,12,33,34,37,38]),(1,[0,2,3,11,12,13,33,34,37,38]),(2,[0,2,3,5,11,12,33,34,37,38]),(3,[0,2,3,5,11,12,33,34,37,38]),(4,[0,2,3,5,11,12,33,34,37,38]),(5,[0,2,3,5,11,12,29,33,34,37,38]),(6,[2,3,39]),(7,[2,3,4]),(8,[2,3,4])] }
abbrev Zol:Type:=List Int→Int→Int→Option Z2y
noncomputable def Zyz (L1:Zol) (v1:List Int) (v2 v3:Int):Option Z2y:=
 bif decide (v3<(v1.length:Int)) then
  bif decide (v3<5) then
   bif decide (0≤v3)&&decide (v3<(v1.length:Int)) then
    bif decide (0≤IntKind.wrap .i64 (7*v3)) then
     bif decide (List.getD v1 v3.toNat 0 ≥ 128) then
      L1 v1 (IntKind.wrap .i64 ((BitVec.ofInt 64 v2 ||| BitVec.ofInt 64 (IntKind.wrap .i64 ((IntKind.wrap .i64 (IntKind.wrap .u8 ((BitVec.ofInt 8 (List.getD v1 v3.toNat 0) &&& BitVec.ofInt 8 127).toNat)))*2 ^ (min ((IntKind.wrap .i64 (7*v3)).toNat) 64)))).toNat)) (IntKind.wrap .i64 (v3+1))
     else
     bif decide (IntKind.wrap .i64 (v3+1)>1) then
      bif (List.getD v1 v3.toNat 0)==0 then
       some ((0,0,IV.mk 321 [],()),())
      else
      bif decide (IntKind.wrap .i64 ((BitVec.ofInt 64 v2 ||| BitVec.ofInt 64 (IntKind.wrap .i64 ((IntKind.wrap .i64 (IntKind.wrap .u8 ((BitVec.ofInt 8 (List.getD v1 v3.toNat 0) &&& BitVec.ofInt 8 127).toNat)))*2 ^ (min ((IntKind.wrap .i64 (7*v3)).toNat) 64)))).toNat)>1073741824) then
       some ((0,0,IV.mk 321 [],()),())
      else
       some ((IntKind.wrap .i64 ((BitVec.ofInt 64 v2 ||| BitVec.ofInt 64 (IntKind.wrap .i64 ((IntKind.wrap .i64 (IntKind.wrap .u8 ((BitVec.ofInt 8 (List.getD v1 v3.toNat 0) &&& BitVec.ofInt 8 127).toNat)))*2 ^ (min ((IntKind.wrap .i64 (7*v3)).toNat) 64)))).toNat),IntKind.wrap .i64 (v3+1),IV.nil,()),())
     else
     bif decide (IntKind.wrap .i64 ((BitVec.ofInt 64 v2 ||| BitVec.ofInt 64 (IntKind.wrap .i64 ((IntKind.wrap .i64 (IntKind.wrap .u8 ((BitVec.ofInt 8 (List.getD v1 v3.toNat 0) &&& BitVec.ofInt 8 127).toNat)))*2 ^ (min ((IntKind.wrap .i64 (7*v3)).toNat) 64)))).toNat)>1073741824) then
      some ((0,0,IV.mk 321 [],()),())
     else
      some ((IntKind.wrap .i64 ((BitVec.ofInt 64 v2 ||| BitVec.ofInt 64 (IntKind.wrap .i64 ((IntKind.wrap .i64 (IntKind.wrap .u8 ((BitVec.ofInt 8 (List.getD v1 v3.toNat 0) &&& BitVec.ofInt 8 127).toNat)))*2 ^ (min ((IntKind.wrap .i64 (7*v3)).toNat) 64)))).toNat),IntKind.wrap .i64 (v3+1),IV.nil,()),())
    else none
   else none
  else
   some ((0,0,IV.mk 321 [],()),())
 else
  some ((0,0,IV.mk 321 [],()),())
noncomputable def X3d (L1:Zol) (b_0:List Int):Option Z2y:=
 L1 b_0 0 0
noncomputable def Zyw (n:Nat):Nat→Zol:=iter (fun _ _ _=>none) fun L=>Zyz L
noncomputable def Zeg (n m:Nat) (v1:List Int) (v2 v3:Int):Option Z2y:=
 Qjl Zt3 tab (fiB [.val t66] Znu) n [.val t66] [⟨t2,[false],none⟩,⟨t2,[false],none⟩,⟨t20,[false],none⟩] Tryz.f313 [1,0,0] [] [0,2,3] m
 ⟨[(0,Vp t66 v1),(2,Vp t2 v2),(3,Vp t2 v3)],[]⟩
theorem X4a (n m:Nat):Zeg n (m+1)=Zyz (Zeg n m):=by kernel_rfl
theorem Zus (n:Nat):∀ m,Zeg n m=Zyw n m
 | 0=>rfl
 | m+1=>by rw [X4a n m,Zus n m];rfl
noncomputable def X31 (n:Nat) (b_0:List Int):Option Z2y:=X3d (Zyw n n) b_0
noncomputable def X97 (b_0:List Int):Option Z2y:=X31 1099511627776 b_0
noncomputable def X23:Ent:=⟨[.val t66],[⟨t2,[false],none⟩,⟨t2,[false],none⟩,⟨t20,[false],none⟩],fun x=>X97 x.1⟩
theorem X8m (n:Nat) (b_0:List Int):Qdf Zt3 tab Znu n [.val t66] [⟨t2,[false],none⟩,⟨t2,[false],none⟩,⟨t20,[false],none⟩] Tryz.f313 (b_0,())=X31 n b_0:=Eq.trans (b:=X3d (Zeg n n) b_0) (by kernel_rfl) (by rw [Zus n n];rfl)
theorem X4s:Q4j tab.ty Tryz.prog 313 X23:=
 Qjd (Γ:=Zt3) (fi:=Znu) (n:=1099511627776) follows Qju Qjz Tryz.func313 (by kernel_rfl) (by kernel_rfl) fun x r h=>(X8m 1099511627776 x.1).trans h
noncomputable def X1i (b_0:List Int):Option ((Int × Int × Bool × Unit) × Unit):=
 Option.bind (X97 b_0) fun r1=>
 some ((r1.1.1,r1.1.2.1,!(IV.is r1.1.2.2.1 321),()),())
noncomputable def Ztz:Ent:=⟨[.val t66],[⟨t2,[false],none⟩,⟨t2,[false],none⟩,⟨t4,[false],none⟩],fun x=>X1i x.1⟩
theorem Zse:Q4j tab.ty Tryz.prog 297 Ztz:=
 Qjd (Γ:=[(313,X23)]) (fi:={ keep:=[],vty:=[],vals:=[],live:=[(0,[0]),(1,[2,3,5]),(2,[2,3,7]),(3,[2,3,4])] }) (n:=1) follows (Qjq X4s Qju) Qjz Tryz.func297 (by kernel_rfl) (by kernel_rfl) fun x r h=>Eq.trans (by kernel_rfl) h
noncomputable def Qk3 (r_0:(List Int) × IV) (what_1:ByteArray):Option ((Int × Unit) × (Xcg × Unit)):=
 bif !(IV.isNil r_0.2) then
  some ((0,()),(r_0,()))
 else
  Option.bind (X1i r_0.1) fun r1=>
  bif !r1.1.2.2.1 then
   bif (decide (0≤r1.1.2.1)&&decide (r1.1.2.1≤(r_0.1.length:Int)))&&decide ((r_0.1.length:Int)≤(r_0.1.length:Int)) then
    some ((r1.1.1,()),((List.drop r1.1.2.1.toNat (List.take ((r_0.1.length:Int).toNat) r_0.1),IV.mk 262 [.str what_1]),()))
   else none
  else
  bif (decide (0≤r1.1.2.1)&&decide (r1.1.2.1≤(r_0.1.length:Int)))&&decide ((r_0.1.length:Int)≤(r_0.1.length:Int)) then
   some ((r1.1.1,()),((List.drop r1.1.2.1.toNat (List.take ((r_0.1.length:Int).toNat) r_0.1),r_0.2),()))
  else none
noncomputable def Zll:Ent:=⟨[.box 259 Xbr [false,false],.val t9],[⟨t2,[false],none⟩],fun x=>Qk3 x.1 x.2.1⟩
theorem Ztp:Q4j tab.ty Tryz.prog 263 Zll:=
 Qjd (Γ:=[(297,Ztz)]) (fi:={ keep:=[],vty:=[],vals:=[],live:=[(0,[0,1]),(1,[0,1,12]),(2,[0,4]),(3,[0,1,5,6,7]),(4,[0,1,5,6,23]),(5,[0,5,6]),(6,[0,5]),(7,[0,4])] }) (n:=1) follows (Qjq Zse Qju) Qjz Tryz.func263 (by kernel_rfl) (by kernel_rfl) fun x r h=>Eq.trans (by kernel_rfl) h
noncomputable def Zul (b_0:List Int):Option ((ByteArray × Int × Bool × Unit) × Unit):=
 Option.bind (X1i b_0) fun r1=>
 bif !r1.1.2.2.1 then
  some (((⟨#[]⟩:ByteArray),0,false,()),())
 else
 bif decide (r1.1.1>IntKind.wrap .i64 ((b_0.length:Int) - r1.1.2.1)) then
  some (((⟨#[]⟩:ByteArray),0,false,()),())
 else
 bif (decide (0≤r1.1.2.1)&&decide (r1.1.2.1≤IntKind.wrap .i64 (r1.1.2.1+r1.1.1)))&&decide (IntKind.wrap .i64 (r1.1.2.1+r1.1.1)≤(b_0.length:Int)) then
  some ((Q4w (List.drop r1.1.2.1.toNat (List.take ((IntKind.wrap .i64 (r1.1.2.1+r1.1.1)).toNat) b_0)),IntKind.wrap .i64 (r1.1.2.1+r1.1.1),true,()),())
 else none
noncomputable def Zo5:Ent:=⟨[.val t66],[⟨t9,[false],none⟩,⟨t2,[false],none⟩,⟨t4,[false],none⟩],fun x=>Zul x.1⟩
theorem Zvz:Q4j tab.ty Tryz.prog 298 Zo5:=
 Qjd (Γ:=[(297,Ztz)]) (fi:={ keep:=[],vty:=[],vals:=[],live:=[(0,[0,15,16,17,18,19,20]),(1,[0,3,4,5,15,16,17,18,19,20]),(2,[0,3,5,21]),(3,[2,3,4]),(4,[2,3,4])] }) (n:=1) follows (Qjq Zse Qju) Qjz Tryz.func298 (by kernel_rfl) (by kernel_rfl) fun x r h=>Eq.trans (by kernel_rfl) h
noncomputable def Qor (r_0:(List Int) × IV) (what_1:ByteArray):Option (Xd3 × (Xcg × Unit)):=
 bif !(IV.isNil r_0.2) then
  some (((⟨#[]⟩:ByteArray),()),(r_0,()))
 else
  Option.bind (Zul r_0.1) fun r1=>
  bif !r1.1.2.2.1 then
   bif (decide (0≤r1.1.2.1)&&decide (r1.1.2.1≤(r_0.1.length:Int)))&&decide ((r_0.1.length:Int)≤(r_0.1.length:Int)) then
    some ((r1.1.1,()),((List.drop r1.1.2.1.toNat (List.take ((r_0.1.length:Int).toNat) r_0.1),IV.mk 262 [.str what_1]),()))
   else none
  else
  bif (decide (0≤r1.1.2.1)&&decide (r1.1.2.1≤(r_0.1.length:Int)))&&decide ((r_0.1.length:Int)≤(r_0.1.length:Int)) then
   some ((r1.1.1,()),((List.drop r1.1.2.1.toNat (List.take ((r_0.1.length:Int).toNat) r_0.1),r_0.2),()))
  else none
noncomputable def Zgs:Ent:=⟨[.box 259 Xbr [false,false],.val t9],[⟨t9,[false],none⟩],fun x=>Qor x.1 x.2.1⟩
theorem Zr4:Q4j tab.ty Tryz.prog 264 Zgs:=
 Qjd (Γ:=[(298,Zo5)]) (fi:={ keep:=[],vty:=[],vals:=[],live:=[(0,[0,1]),(1,[0,1,12]),(2,[0,4]),(3,[0,1,5,6,7]),(4,[0,1,5,6,23]),(5,[0,5,6]),(6,[0,5]),(7,[0,4])] }) (n:=1) follows (Qjq Zvz Qju) Qjz Tryz.func264 (by kernel_rfl) (by kernel_rfl) fun x r h=>Eq.trans (by kernel_rfl) h
abbrev Qkw:Type:=(Qko × Unit) × (Xcg × Unit)
noncomputable def Qsk:Ctx:=[(263,Zll),(264,Zgs)]
def Qr3:Fi:={ keep:=[],vty:=[],vals:=[],live:=[(0,[0,2,34,35,36,37,38]),(1,[0,2,34,35,36,37,38]),(2,[0,2,34,35,36,37,38]),(3,[0,2,3,34,35,36,37,38]),(4,[0,2,3,25,34,35,36,37,38]),(5,[0,2,3,34,35,36,37,38]),(6,[0,2,3,34,35,36,37,38,39]),(7,[0,2,3,34,35,36,37,38]),(8,[0,2,3,34,35,36,37,38]),(9,[0,2]),(10,[0,2]),(11,[0,2])] }
abbrev Qo7:Type:=Int→List Int→IV→Int→Int→Int→Int→Int→Int→Int→Int→ByteArray→List Int→Option Qkw
abbrev Zhf:Type:=Int→Bool→List Int→IV→Int→Int→Int→Int→Int→Int→Int→Int→ByteArray→List Int→Option Qkw
noncomputable def Zi0 (L1:Qo7) (v8:Int) (v9:List Int) (v10:IV) (v11 v12 v13 v14 v15 v16 v17 v18:Int) (v19:ByteArray) (v20:List Int):Option Qkw:=
 bif decide (v8>0) then
  bif IV.isNil v10 then
   Option.bind (Qk3 (v9,v10) (⟨#[115,116,101,112]⟩:ByteArray)) fun r21=>
   bif Nat.ble (v20.length+1) 1073741824 then
    L1 (IntKind.wrap .i64 (v8 - 1)) r21.2.1.1 r21.2.1.2 v11 v12 v13 v14 v15 v16 v17 v18 v19 (v20++[r21.1.1])
   else none
  else
   Option.bind (Qk3 (v9,v10) (⟨#[108,111]⟩:ByteArray)) fun r22=>
   Option.bind (Qk3 r22.2.1 (⟨#[104,105]⟩:ByteArray)) fun r23=>
   Option.bind (Qor r23.2.1 (⟨#[116,101,120,116]⟩:ByteArray)) fun r24=>
   some (((v11,v12,v13,v14,v15,v16,v20,r22.1.1,r23.1.1,r24.1.1),()),(r24.2.1,()))
 else
  Option.bind (Qk3 (v9,v10) (⟨#[108,111]⟩:ByteArray)) fun r25=>
  Option.bind (Qk3 r25.2.1 (⟨#[104,105]⟩:ByteArray)) fun r26=>
  Option.bind (Qor r26.2.1 (⟨#[116,101,120,116]⟩:ByteArray)) fun r27=>
  some (((v11,v12,v13,v14,v15,v16,v20,r25.1.1,r26.1.1,r27.1.1),()),(r27.2.1,()))
noncomputable def Zhk (L3:Qo7) (v28:Int) (v29:Bool) (v30:List Int) (v31:IV) (v32 v33 v34 v35 v36 v37 v38 v39:Int) (v40:ByteArray) (v41:List Int):Option Qkw:=
 bif decide (v28>0) then
  bif IV.isNil v31 then
   Option.bind (Qk3 (v30,v31) (⟨#[115,116,101,112]⟩:ByteArray)) fun r42=>
   bif Nat.ble (v41.length+1) 1073741824 then
    L3 (IntKind.wrap .i64 (v28 - 1)) r42.2.1.1 r42.2.1.2 v32 v33 v34 v35 v36 v37 v38 v39 v40 (v41++[r42.1.1])
   else none
  else
   Option.bind (Qk3 (v30,v31) (⟨#[108,111]⟩:ByteArray)) fun r63=>
   Option.bind (Qk3 r63.2.1 (⟨#[104,105]⟩:ByteArray)) fun r64=>
   Option.bind (Qor r64.2.1 (⟨#[116,101,120,116]⟩:ByteArray)) fun r65=>
   some (((v32,v33,v34,v35,v36,v37,v41,r63.1.1,r64.1.1,r65.1.1),()),(r65.2.1,()))
 else
  Option.bind (Qk3 (v30,v31) (⟨#[108,111]⟩:ByteArray)) fun r66=>
  Option.bind (Qk3 r66.2.1 (⟨#[104,105]⟩:ByteArray)) fun r67=>
  Option.bind (Qor r67.2.1 (⟨#[116,101,120,116]⟩:ByteArray)) fun r68=>
  some (((v32,v33,v34,v35,v36,v37,v41,r66.1.1,r67.1.1,r68.1.1),()),(r68.2.1,()))
noncomputable def Zhl (L3:Qo7) (v43:Int) (v44:List Int) (v45:IV) (v46 v47 v48 v49 v50 v51 v52 v53:Int) (v54:ByteArray) (v55:List Int):Option Qkw:=
 bif decide (v43>0) then
  bif IV.isNil v45 then
   Option.bind (Qk3 (v44,v45) (⟨#[115,116,101,112]⟩:ByteArray)) fun r56=>
   bif Nat.ble (v55.length+1) 1073741824 then
    L3 (IntKind.wrap .i64 (v43 - 1)) r56.2.1.1 r56.2.1.2 v46 v47 v48 v49 v50 v51 v52 v53 v54 (v55++[r56.1.1])
   else none
  else
   Option.bind (Qk3 (v44,v45) (⟨#[108,111]⟩:ByteArray)) fun r57=>
   Option.bind (Qk3 r57.2.1 (⟨#[104,105]⟩:ByteArray)) fun r58=>
   Option.bind (Qor r58.2.1 (⟨#[116,101,120,116]⟩:ByteArray)) fun r59=>
   some (((v46,v47,v48,v49,v50,v51,v55,r57.1.1,r58.1.1,r59.1.1),()),(r59.2.1,()))
 else
  Option.bind (Qk3 (v44,v45) (⟨#[108,111]⟩:ByteArray)) fun r60=>
  Option.bind (Qk3 r60.2.1 (⟨#[104,105]⟩:ByteArray)) fun r61=>
  Option.bind (Qor r61.2.1 (⟨#[116,101,120,116]⟩:ByteArray)) fun r62=>
  some (((v46,v47,v48,v49,v50,v51,v55,r60.1.1,r61.1.1,r62.1.1),()),(r62.2.1,()))
noncomputable def Zle (L1:Qo7) (L2:Zhf) (r_0:(List Int) × IV):Option Qkw:=
 Option.bind (Qk3 r_0 (⟨#[107,105,110,100]⟩:ByteArray)) fun r1=>
 Option.bind (Qk3 r1.2.1 (⟨#[102,114,111,109]⟩:ByteArray)) fun r2=>
 Option.bind (Qk3 r2.2.1 (⟨#[116,111]⟩:ByteArray)) fun r3=>
 Option.bind (Qk3 r3.2.1 (⟨#[105,110,99]⟩:ByteArray)) fun r4=>
 Option.bind (Qk3 r4.2.1 (⟨#[101,112,111,99,104]⟩:ByteArray)) fun r5=>
 Option.bind (Qk3 r5.2.1 (⟨#[97,103,101]⟩:ByteArray)) fun r6=>
 Option.bind (Qk3 r6.2.1 (⟨#[119,97,121]⟩:ByteArray)) fun r7=>
 bif decide (r7.1.1>64) then
  L1 r7.1.1 r7.2.1.1 (IV.mk 262 [.str (⟨#[119,97,121]⟩:ByteArray)]) r1.1.1 r2.1.1 r3.1.1 r4.1.1 r5.1.1 r6.1.1 0 0 (⟨#[]⟩:ByteArray) []
 else
  L2 r7.1.1 (decide (r7.1.1>64)) r7.2.1.1 r7.2.1.2 r1.1.1 r2.1.1 r3.1.1 r4.1.1 r5.1.1 r6.1.1 0 0 (⟨#[]⟩:ByteArray) []
noncomputable def Zij (n:Nat):Nat→Qo7:=iter (fun _ _ _ _ _ _ _ _ _ _ _ _ _=>none) fun L=>Zi0 L
noncomputable def Zhz (n:Nat):Nat→Qo7:=iter (fun _ _ _ _ _ _ _ _ _ _ _ _ _=>none) fun L=>Zhl L
noncomputable def Zgx (n:Nat):Nat→Zhf:=Qj7 (fun _ _ _ _ _ _ _ _ _ _ _ _ _ _=>none) fun m L=>Zhk (Zhz n m)
noncomputable def Quv (n m:Nat) (v8:Int) (v9:List Int) (v10:IV) (v11 v12 v13 v14 v15 v16 v17 v18:Int) (v19:ByteArray) (v20:List Int):Option Qkw:=
 Qjl Qsk tab (fiB [.box 259 Xbr [false,false]] Qr3) n [.box 259 Xbr [false,false]] [⟨Qsi,(nF 6++[true,false,false,false]),none⟩] Tryz.f226 [1,1,1,1,1,0,0] [] [0,2,3] m
 ⟨[(0,V1 (.ptr (0,0) 0)),(2,V1 (.ptr (2,0) 0)),(3,Vp t2 v8)],[((0,0),Ob.box 259 [LV.pure t66 v9,LV.pure t20 v10]),((2,0),Ob.box 105 [LV.pure t2 v11,LV.pure t2 v12,LV.pure t2 v13,LV.pure t2 v14,LV.pure t2 v15,LV.pure t2 v16,LV.ref (2,7),LV.pure t2 v17,LV.pure t2 v18,LV.pure t9 v19]),((2,7),Ob.row 3 t2 v20)]⟩
noncomputable def Z3d (n m:Nat) (v28:Int) (v29:Bool) (v30:List Int) (v31:IV) (v32 v33 v34 v35 v36 v37 v38 v39:Int) (v40:ByteArray) (v41:List Int):Option Qkw:=
 Qjl Qsk tab (fiB [.box 259 Xbr [false,false]] Qr3) n [.box 259 Xbr [false,false]] [⟨Qsi,(nF 6++[true,false,false,false]),none⟩] Tryz.f226 [1,1,1,1,1,0,0] [] [0,2,3,25] m
 ⟨[(0,V1 (.ptr (0,0) 0)),(2,V1 (.ptr (2,0) 0)),(3,Vp t2 v28),(25,Vp t4 v29)],[((0,0),Ob.box 259 [LV.pure t66 v30,LV.pure t20 v31]),((2,0),Ob.box 105 [LV.pure t2 v32,LV.pure t2 v33,LV.pure t2 v34,LV.pure t2 v35,LV.pure t2 v36,LV.pure t2 v37,LV.ref (2,7),LV.pure t2 v38,LV.pure t2 v39,LV.pure t9 v40]),((2,7),Ob.row 3 t2 v41)]⟩
noncomputable def Quw (n m:Nat) (v43:Int) (v44:List Int) (v45:IV) (v46 v47 v48 v49 v50 v51 v52 v53:Int) (v54:ByteArray) (v55:List Int):Option Qkw:=
 Qjl Qsk tab (fiB [.box 259 Xbr [false,false]] Qr3) n [.box 259 Xbr [false,false]] [⟨Qsi,(nF 6++[true,false,false,false]),none⟩] Tryz.f226 [1,1,1,1,1,0,0] [] [0,2,3,25] m
 ⟨[(0,V1 (.ptr (0,0) 0)),(2,V1 (.ptr (2,0) 0)),(3,Vp t2 v43)],[((0,0),Ob.box 259 [LV.pure t66 v44,LV.pure t20 v45]),((2,0),Ob.box 105 [LV.pure t2 v46,LV.pure t2 v47,LV.pure t2 v48,LV.pure t2 v49,LV.pure t2 v50,LV.pure t2 v51,LV.ref (2,7),LV.pure t2 v52,LV.pure t2 v53,LV.pure t9 v54]),((2,7),Ob.row 3 t2 v55)]⟩
theorem Zr6 (n m:Nat):Quv n (m+1)=Zi0 (Quv n m):=by kernel_rfl
theorem Zqr (n m:Nat):Z3d n (m+1)=Zhk (Quw n m):=by kernel_rfl
theorem Zrf (n m:Nat):Quw n (m+1)=Zhl (Quw n m):=by kernel_rfl
theorem Zf5 (n:Nat):∀ m,Quv n m=Zij n m
 | 0=>rfl
 | m+1=>by rw [Zr6 n m,Zf5 n m];rfl
theorem Zdp (n:Nat):∀ m,Quw n m=Zhz n m
 | 0=>rfl
 | m+1=>by rw [Zrf n m,Zdp n m];rfl
theorem Zwm (n:Nat):∀ m,Z3d n m=Zgx n m
 | 0=>rfl
 | m+1=>by rw [Zqr n m,Zdp n m];rfl
noncomputable def Zm0 (n:Nat) (r_0:(List Int) × IV):Option Qkw:=Zle (Zij n n) (Zgx n n) r_0
noncomputable def Zs9 (r_0:(List Int) × IV):Option Qkw:=Zm0 1099511627776 r_0
noncomputable def Zlp:Ent:=⟨[.box 259 Xbr [false,false]],[⟨Qsi,(nF 6++[true,false,false,false]),none⟩],fun x=>Zs9 x.1⟩
theorem Zxh (n:Nat) (r_0:(List Int) × IV):Qdf Qsk tab Qr3 n [.box 259 Xbr [false,false]] [⟨Qsi,(nF 6++[true,false,false,false]),none⟩] Tryz.f226 (r_0,())=Zm0 n r_0:=Eq.trans (b:=Zle (Quv n n) (Z3d n n) r_0) (by kernel_rfl) (by rw [Zf5 n n,Zwm n n];rfl)
theorem Zsx:Q4j tab.ty Tryz.prog 226 Zlp:=
 Qjd (Γ:=Qsk) (fi:=Qr3) (n:=1099511627776) follows (Qjq Ztp (Qjq Zr4 Qju)) Qjz Tryz.func226 (by kernel_rfl) (by kernel_rfl) fun x r h=>(Zxh 1099511627776 x.1).trans h
abbrev Qmr:Type:=(Bool × Unit) × Unit
noncomputable def Qxr:Ctx:=[]
def Qvx:Fi:={ keep:=[],vty:=[],vals:=[],live:=[(0,[0,1]),(1,[0,1,10]),(2,[4]),(3,[0,1,12,13]),(4,[0,1,12,13,14]),(5,[0,1,5,12,13]),(6,[0,1,12,13,24]),(7,[4]),(8,[0,1,12,13]),(9,[4])] }
abbrev Qw0:Type:=List Int→List Int→Int→Int→Option Qmr
noncomputable def Z8c (L1:Qw0) (v1 v2:List Int) (v3 v4:Int):Option Qmr:=
 bif decide (v4<v3) then
  bif decide (0≤v4)&&decide (v4<(v1.length:Int)) then
   bif decide (0≤v4)&&decide (v4<(v2.length:Int)) then
    bif (List.getD v1 v4.toNat 0) != (List.getD v2 v4.toNat 0) then
     some ((false,()),())
    else
     L1 v1 v2 v3 (IntKind.wrap .i64 (v4+1))
   else none
  else none
 else
  some ((true,()),())
noncomputable def Zb3 (L1:Qw0) (s1_0 s2_1:List Int):Option Qmr:=
 bif (s1_0.length:Int) != (s2_1.length:Int) then
  some ((false,()),())
 else
  L1 s1_0 s2_1 (s1_0.length:Int) 0
noncomputable def Z77 (n:Nat):Nat→Qw0:=iter (fun _ _ _ _=>none) fun L=>Z8c L
noncomputable def Qq9 (n m:Nat) (v1 v2:List Int) (v3 v4:Int):Option Qmr:=
 Qjl Qxr tab (fiB [.val t66,.val t66] Qvx) n [.val t66,.val t66] [⟨t4,[false],none⟩] Tryz.f227 [1,1,0,1,0] [] [0,1,12,13] m
 ⟨[(0,Vp t66 v1),(1,Vp t66 v2),(12,Vp t2 v3),(13,Vp t2 v4)],[]⟩
theorem Zk2 (n m:Nat):Qq9 n (m+1)=Z8c (Qq9 n m):=by kernel_rfl
theorem Z5a (n:Nat):∀ m,Qq9 n m=Z77 n m
 | 0=>rfl
 | m+1=>by rw [Zk2 n m,Z5a n m];rfl
noncomputable def Zb5 (n:Nat) (s1_0 s2_1:List Int):Option Qmr:=Zb3 (Z77 n n) s1_0 s2_1
noncomputable def Z2s (s1_0 s2_1:List Int):Option Qmr:=Zb5 1099511627776 s1_0 s2_1
noncomputable def Zbf:Ent:=⟨[.val t66,.val t66],[⟨t4,[false],none⟩],fun x=>Z2s x.1 x.2.1⟩
theorem Zre (n:Nat) (s1_0 s2_1:List Int):Qdf Qxr tab Qvx n [.val t66,.val t66] [⟨t4,[false],none⟩] Tryz.f227 (s1_0,s2_1,())=Zb5 n s1_0 s2_1:=Eq.trans (b:=Zb3 (Qq9 n n) s1_0 s2_1) (by kernel_rfl) (by rw [Z5a n n];rfl)
theorem Zma:Q4j tab.ty Tryz.prog 227 Zbf:=
 Qjd (Γ:=Qxr) (fi:=Qvx) (n:=1099511627776) follows Qju Qjz Tryz.func227 (by kernel_rfl) (by kernel_rfl) fun x r h=>(Zre 1099511627776 x.1 x.2.1).trans h
noncomputable def Zxf:Ctx:=[(173,X3z),(226,Zlp),(227,Zbf)]
def Zu8:Fi:={ keep:=[],vty:=[],vals:=[],live:=[(0,[0,2,34,35,38,39,40,41]),(1,[0,2,11,34,35,38,39,40,41]),(2,[2,3]),(3,[0,2,4,34,35,38,39,40,41]),(4,[0,2,4,5,34,35,38,39,40,41]),(5,[0,2,5,7,34,35,38,39,40,41]),(6,[0,2,5,7,8,34,35,38,39,40,41]),(7,[2,5,42]),(8,[2,3]),(9,[2,3])] }
noncomputable def Zq8 (Q38:Option ((Qko × Bool × Unit) × Unit)→Option ((Qko × Bool × Unit) × Unit)→Option ((Qko × Bool × Unit) × Unit)) (b_0:List Int):Option ((Qko × Bool × Unit) × Unit):=
 bif decide ((b_0.length:Int)<4) then
  some ((Ql1,false,()),())
 else
 bif decide (0≤IntKind.wrap .i64 ((b_0.length:Int) - 4))&&decide (IntKind.wrap .i64 ((b_0.length:Int) - 4)≤(b_0.length:Int)) then
  Option.bind (Zs9 (List.drop 0 (List.take ((IntKind.wrap .i64 ((b_0.length:Int) - 4)).toNat) b_0),IV.nil)) fun (r1:(Qko × Unit) × (Xcg × Unit))=>
  Option.bind (X7p r1.1.1) fun (r2:((List Int) × Unit) × Unit)=>
  bif IV.is r1.2.1.2 262 then
   some ((Ql1,false,()),())
  else
  bif !(List.isEmpty r2.1.1) then
   Option.bind (Z2s r2.1.1 b_0) fun (r3:(Bool × Unit) × Unit)=>
   bif !r3.1.1 then
    some ((Ql1,false,()),())
   else
    some ((r1.1.1,true,()),())
  else
   Q38 (
    some ((Ql1,false,()),())) (
    Option.bind (Z2s r2.1.1 b_0) fun (r4:(Bool × Unit) × Unit)=>
    bif !r4.1.1 then
     some ((Ql1,false,()),())
    else
     some ((r1.1.1,true,()),()))
 else none
noncomputable def X73 (b_0:List Int):Option ((Qko × Bool × Unit) × Unit):=Zq8 (@Qan _ (@instDecidableEqProd _ _ (@instDecidableEqProd _ _ (@instDecidableEqProd _ _ inferInstance (@instDecidableEqProd _ _ inferInstance (@instDecidableEqProd _ _ inferInstance (@instDecidableEqProd _ _ inferInstance (@instDecidableEqProd _ _ inferInstance (@instDecidableEqProd _ _ inferInstance (@instDecidableEqProd _ _ inferInstance (@instDecidableEqProd _ _ inferInstance (@instDecidableEqProd _ _ inferInstance inferInstance))))))))) (@instDecidableEqProd _ _ inferInstance inferInstance)) inferInstance)) b_0
theorem X9z (b_0:List Int):Qdf Zxf tab Zu8 1 [.val t66] [⟨Qsi,[false,false,false,false,false,false,true,false,false,false],none⟩,⟨t4,[false],none⟩] Tryz.f182 (b_0,())=Zq8 Q38 b_0:=by kernel_rfl
theorem Xa2 (b_0:List Int):Qdf Zxf tab Zu8 1 [.val t66] [⟨Qsi,[false,false,false,false,false,false,true,false,false,false],none⟩,⟨t4,[false],none⟩] Tryz.f182 (b_0,())=X73 b_0:=(X9z b_0).trans (congrArg (fun b=>Zq8 b b_0) (@Qit _ (@instDecidableEqProd _ _ (@instDecidableEqProd _ _ (@instDecidableEqProd _ _ inferInstance (@instDecidableEqProd _ _ inferInstance (@instDecidableEqProd _ _ inferInstance (@instDecidableEqProd _ _ inferInstance (@instDecidableEqProd _ _ inferInstance (@instDecidableEqProd _ _ inferInstance (@instDecidableEqProd _ _ inferInstance (@instDecidableEqProd _ _ inferInstance (@instDecidableEqProd _ _ inferInstance inferInstance))))))))) (@instDecidableEqProd _ _ inferInstance inferInstance)) inferInstance)))
noncomputable def X5v:Ent:=⟨[.val t66],[⟨Qsi,[false,false,false,false,false,false,true,false,false,false],none⟩,⟨t4,[false],none⟩],fun x=>X73 x.1⟩
theorem X7g:Q4j tab.ty Tryz.prog 182 X5v:=by
  refine Qjd (Γ:=Zxf) (fi:=Zu8) (n:=1) follows (Qjq Zzn (Qjq Zsx (Qjq Zma Qju))) Qjz Tryz.func182 (by kernel_rfl) (by kernel_rfl) (fun x r h=>?_)
  obtain ⟨b_0,_u⟩:=x
  exact (Xa2 b_0).trans h
abbrev Qk7:Type:=(Int × Bool × Unit) × Unit
noncomputable def Qlk:Ctx:=[]
def Qlf:Fi:={ keep:=[],vty:=[],vals:=[],live:=[(0,[0,1,2,40,41,42,43,44,45,46,47]),(1,[0,1,2,8,40,41,42,43,44,45,46,47]),(2,[0,1,2,8,9,10,40,41,42,43,44,45,46,47]),(3,[0,1,2,8,9,10,17,40,41,42,43,44,45,46,47]),(4,[0,1,2,8,9,10,11,40,41,42,43,44,45,46,47]),(5,[0,1,2,8,9,10,11,31,40,41,42,43,44,45,46,47]),(6,[0,1,2,8,9,10,40,41,42,43,44,45,46,47]),(7,[0,1,2,8,9,10,40,41,42,43,44,45,46,47]),(8,[6,7])] }
abbrev Qld:Type:=Zjb→Int→(Qkm × Int × Unit→Option (Int × Unit))→Int→Int→Int→Option Qk7
noncomputable def Qnj (L1:Qld) (v1:List Qkm) (v2:Int) (v3:(Qkm × Int × Unit→Option (Int × Unit))) (v4 v5 v6:Int):Option Qk7:=
 bif decide (v5<v6) then
  bif decide (0≤IntKind.wrap .i64 (Int.fdiv (IntKind.wrap .u64 (IntKind.wrap .i64 (v5+v6))) (2 ^ 1)))&&decide (IntKind.wrap .i64 (Int.fdiv (IntKind.wrap .u64 (IntKind.wrap .i64 (v5+v6))) (2 ^ 1))<(v1.length:Int)) then
   Option.bind (v3 ((List.getD v1 ((IntKind.wrap .i64 (Int.fdiv (IntKind.wrap .u64 (IntKind.wrap .i64 (v5+v6))) (2 ^ 1))).toNat) (0,0,0)),v2,())) fun r7=>
   bif decide (r7.1<0) then
    L1 v1 v2 v3 v4 (IntKind.wrap .i64 ((IntKind.wrap .i64 (Int.fdiv (IntKind.wrap .u64 (IntKind.wrap .i64 (v5+v6))) (2 ^ 1)))+1)) v6
   else
    L1 v1 v2 v3 v4 v5 (IntKind.wrap .i64 (Int.fdiv (IntKind.wrap .u64 (IntKind.wrap .i64 (v5+v6))) (2 ^ 1)))
  else none
 else
 bif decide (v5<v4) then
  bif decide (0≤v5)&&decide (v5<(v1.length:Int)) then
   Option.bind (v3 ((List.getD v1 v5.toNat (0,0,0)),v2,())) fun r8=>
   some ((v5,r8.1==0,()),())
  else none
 else
  some ((v5,false,()),())
noncomputable def Qnr (L1:Qld) (x_0:List Qkm) (target_1:Int) (cmp_2:(Qkm × Int × Unit→Option (Int × Unit))):Option Qk7:=
 L1 x_0 target_1 cmp_2 (x_0.length:Int) 0 (x_0.length:Int)
noncomputable def Qn6 (n:Nat):Nat→Qld:=iter (fun _ _ _ _ _ _=>none) fun L=>Qnj L
noncomputable def Qkl (n m:Nat) (v1:List Qkm) (v2:Int) (v3:(Qkm × Int × Unit→Option (Int × Unit))) (v4 v5 v6:Int):Option Qk7:=
 Qjl Qlk tab (fiB [.val t49,.val t2,.fn [t83,t2] [t2]] Qlf) n [.val t49,.val t2,.fn [t83,t2] [t2]] [⟨t2,[false],none⟩,⟨t4,[false],none⟩] Tryz.f126 [1,1,1,0,0] [] [0,1,2,8,9,10] m
 ⟨[(0,Vp t49 v1),(1,Vp t2 v2),(2,V1 (.clo [t83,t2] [t2] v3)),(8,Vp t2 v4),(9,Vp t2 v5),(10,Vp t2 v6)],[]⟩
theorem Qsr (n m:Nat):Qkl n (m+1)=Qnj (Qkl n m):=by kernel_rfl
theorem Qmv (n:Nat):∀ m,Qkl n m=Qn6 n m
 | 0=>rfl
 | m+1=>by rw [Qsr n m,Qmv n m];rfl
noncomputable def Qns (n:Nat) (x_0:List Qkm) (target_1:Int) (cmp_2:(Qkm × Int × Unit→Option (Int × Unit))):Option Qk7:=Qnr (Qn6 n n) x_0 target_1 cmp_2
noncomputable def Qop (x_0:List Qkm) (target_1:Int) (cmp_2:(Qkm × Int × Unit→Option (Int × Unit))):Option Qk7:=Qns 1099511627776 x_0 target_1 cmp_2
noncomputable def Qnt:Ent:=⟨[.val t49,.val t2,.fn [t83,t2] [t2]],[⟨t2,[false],none⟩,⟨t4,[false],none⟩],fun x=>Qop x.1 x.2.1 x.2.2.1⟩
theorem Qv4 (n:Nat) (x_0:List Qkm) (target_1:Int) (cmp_2:(Qkm × Int × Unit→Option (Int × Unit))):Qdf Qlk tab Qlf n [.val t49,.val t2,.fn [t83,t2] [t2]] [⟨t2,[false],none⟩,⟨t4,[false],none⟩] Tryz.f126 (x_0,target_1,cmp_2,())=Qns n x_0 target_1 cmp_2:=Eq.trans (b:=Qnr (Qkl n n) x_0 target_1 cmp_2) (by kernel_rfl) (by rw [Qmv n n];rfl)
theorem Qto:Q4j tab.ty Tryz.prog 126 Qnt:=
 Qjd (Γ:=Qlk) (fi:=Qlf) (n:=1099511627776) follows Qju Qjz Tryz.func126 (by kernel_rfl) (by kernel_rfl) fun x r h=>(Qv4 1099511627776 x.1 x.2.1 x.2.2.1).trans h
noncomputable def Qzh (x_0 y_1:Int):Option ((Int × Unit) × Unit):=
 Option.bind (Qz6 x_0) fun r1=>
 Option.bind (Qz6 y_1) fun r2=>
 bif r1.1.1 then
  bif r2.1.1 then
   some ((0,()),())
  else
   some (((-1),()),())
 else
 bif r2.1.1 then
  some ((1,()),())
 else
 bif decide (x_0<y_1) then
  some (((-1),()),())
 else
 bif decide (x_0>y_1) then
  some ((1,()),())
 else
  some ((0,()),())
noncomputable def Qur:Ent:=⟨[.val t2,.val t2],[⟨t2,[false],none⟩],fun x=>Qzh x.1 x.2.1⟩
theorem Qvv:Q4j tab.ty Tryz.prog 128 Qur:=
 Qjd (Γ:=[(160,Zb2)]) (fi:={ keep:=[],vty:=[],vals:=[],live:=[(0,[0,1]),(1,[0,1,5]),(2,[0,1,5,6]),(3,[0,1,6,11]),(4,[12]),(5,[4]),(6,[4]),(7,[0,1,13]),(8,[4]),(9,[0,1,16]),(10,[4]),(11,[19]),(12,[4]),(13,[4])] }) (n:=1) follows (Qjq Ze2 Qju) Qjz Tryz.func128 (by kernel_rfl) (by kernel_rfl) fun x r h=>Eq.trans (by kernel_rfl) h
noncomputable def Zso (k_0:Int × Int × Int) (id_1:Int):Option ((Int × Unit) × Unit):=
 Option.bind (Qzh k_0.1 id_1) fun r1=>
 some ((r1.1.1,()),())
noncomputable def Zls:Ent:=⟨[.val t83,.val t2],[⟨t2,[false],none⟩],fun x=>Zso x.1 x.2.1⟩
theorem Ztm:Q4j tab.ty Tryz.prog 127 Zls:=
 Qjd (Γ:=[(128,Qur)]) (fi:={ keep:=[],vty:=[],vals:=[],live:=[(0,[1,2]),(1,[4])] }) (n:=1) follows (Qjq Qvv Qju) Qjz Tryz.func127 (by kernel_rfl) (by kernel_rfl) fun x r h=>Eq.trans (by kernel_rfl) h
noncomputable def Zxj (l_0:List Qkm) (id_1:Int):Option ((Int × Bool × Unit) × Unit):=
 Option.bind (Qop l_0 id_1 (fun x=>(Zso x.1 x.2.1).bind fun r=>some (r.1.1,()))) fun r1=>
 some ((r1.1.1,r1.1.2.1,()),())
noncomputable def Zp9:Ent:=⟨[.val t49,.val t2],[⟨t2,[false],none⟩,⟨t4,[false],none⟩],fun x=>Zxj x.1 x.2.1⟩
theorem Zph:Q4j tab.ty Tryz.prog 82 Zp9:=
 Qjd (Γ:=[(126,Qnt),(127,Zls)]) (fi:={ keep:=[],vty:=[],vals:=[],live:=[(0,[0,1]),(1,[4,5])] }) (n:=1) follows (Qjq Qto (Qjq Ztm Qju)) Qjz Tryz.func82 (by kernel_rfl) (by kernel_rfl) fun x r h=>Eq.trans (by kernel_rfl) h
noncomputable def Z9g (l_0:List Qkm) (id_1:Int):Option ((Qkm × Bool × Unit) × Unit):=
 Option.bind (Zxj l_0 id_1) fun r1=>
 bif !r1.1.2.1 then
  some (((0,0,0),false,()),())
 else
 bif decide (0≤r1.1.1)&&decide (r1.1.1<(l_0.length:Int)) then
  some (((List.getD l_0 r1.1.1.toNat (0,0,0)),true,()),())
 else none
noncomputable def Z2l:Ent:=⟨[.val t49,.val t2],[⟨t83,[false,false,false],none⟩,⟨t4,[false],none⟩],fun x=>Z9g x.1 x.2.1⟩
theorem Qw7:Q4j tab.ty Tryz.prog 49 Z2l:=
 Qjd (Γ:=[(82,Zp9)]) (fi:={ keep:=[],vty:=[],vals:=[],live:=[(0,[0,1,4]),(1,[0,4,6,7]),(2,[0,4,6,15]),(3,[4,5]),(4,[4,5])] }) (n:=1) follows (Qjq Zph Qju) Qjz Tryz.func49 (by kernel_rfl) (by kernel_rfl) fun x r h=>Eq.trans (by kernel_rfl) h
noncomputable def X6q (l_0:List Qkm) (id_1 inc_2:Int):Option ((Bool × Unit) × Unit):=
 Option.bind (Z9g l_0 id_1) fun r1=>
 bif r1.1.2.1 then
  some ((decide (r1.1.1.2.1>inc_2),()),())
 else
  some ((false,()),())
noncomputable def Zx3:Ent:=⟨[.val t49,.val t2,.val t2],[⟨t4,[false],none⟩],fun x=>X6q x.1 x.2.1 x.2.2.1⟩
theorem Zvd:Q4j tab.ty Tryz.prog 228 Zx3:=
 Qjd (Γ:=[(49,Z2l)]) (fi:={ keep:=[],vty:=[],vals:=[],live:=[(0,[0,1,2,17,18,19,20]),(1,[2,7,8,17,18,19,20]),(2,[6])] }) (n:=1) follows (Qjq Qw7 Qju) Qjz Tryz.func228 (by kernel_rfl) (by kernel_rfl) fun x r h=>Eq.trans (by kernel_rfl) h
noncomputable def X6x (p_0:List Int) (id_1:Int):Option ((Bool × Unit) × Unit):=
 Option.bind (Qos p_0 id_1) fun r1=>
 some ((r1.1.1,()),())
noncomputable def X5m:Ent:=⟨[.val t44,.val t2],[⟨t4,[false],none⟩],fun x=>X6x x.1 x.2.1⟩
theorem X7n:Q4j tab.ty Tryz.prog 299 X5m:=
 Qjd (Γ:=[(161,Qlv)]) (fi:={ keep:=[],vty:=[],vals:=[],live:=[(0,[0,1]),(1,[4])] }) (n:=1) follows (Qjq Qlx Qju) Qjz Tryz.func299 (by kernel_rfl) (by kernel_rfl) fun x r h=>Eq.trans (by kernel_rfl) h
noncomputable def Zwo (n_0:Qli × List Qko) (id_1:Int):Option ((Bool × Unit) × (Zcr × Unit)):=
 bif n_0.1.1==1 then
  Option.bind (Z9g (h12 n_0.1) id_1) fun r1=>
  Option.bind (Zhn n_0.1) fun r2=>
  bif r2.1.1 then
   Option.bind (X6x (g6 n_0.1) id_1) fun r3=>
   bif !r3.1.1 then
    bif r1.1.2.1 then
     some ((true,()),(n_0,()))
    else
     some ((decide (((h12 n_0.1).length:Int)<8),()),(n_0,()))
   else
    some ((false,()),(n_0,()))
  else
   some ((false,()),(n_0,()))
 else
  Option.bind (Z9g (h12 n_0.1) id_1) fun r4=>
  Option.bind (Zhn n_0.1) fun r5=>
  bif r5.1.1 then
   Option.bind (X6x (g6 n_0.1) id_1) fun r6=>
   bif !r6.1.1 then
    bif r4.1.2.1 then
     some ((true,()),(n_0,()))
    else
     some ((decide (((h12 n_0.1).length:Int)<3),()),(n_0,()))
   else
    some ((false,()),(n_0,()))
  else
   some ((false,()),(n_0,()))
noncomputable def Znr:Ent:=⟨[.box 249 X8n (nF 13++[true]),.val t2],[⟨t4,[false],none⟩],fun x=>Zwo x.1 x.2.1⟩
theorem Zve:Q4j tab.ty Tryz.prog 265 Znr:=
 Qjd (Γ:=[(49,Z2l),(52,Z9l),(299,X5m)]) (fi:={ keep:=[],vty:=[],vals:=[],live:=[(0,[0,1,30,31,32,33,34,35,36,37,40,41,42,43,44,45,46,47,48,49,50]),(1,[0,1,5,30,31,32,33,34,35,36,37,40,41,42,43,44,45,46,47,48,49,50]),(2,[0,1,5,13,30,31,32,33,34,35,36,37,40,41,42,43,44,45,46,47,48,49,50]),(3,[0,1,5,30,31,32,33,34,35,36,37,40,41,42,43,44,45,46,47,48,49,50]),(4,[0,1,5,7,30,31,32,33,34,35,36,37,40,41,42,43,44,45,46,47,48,49,50]),(5,[0,4])] }) (n:=1) follows (Qjq Qw7 (Qjq Z3g (Qjq X7n Qju))) Qjz Tryz.func265 (by kernel_rfl) (by kernel_rfl) fun x r h=>Eq.trans (by kernel_rfl) h
noncomputable def Zbl:Ctx:=[(314,Qjc)]
def Z6t:Fi:={ keep:=[],vty:=[],vals:=[],live:=[(0,[0,1,2]),(1,[0,1,2]),(2,[0,1,2,7]),(3,[0,1,2,7,16]),(4,[6]),(5,[0,1,2,7,8]),(6,[0,1,2,7,8,22]),(7,[6]),(8,[0,1,2,7,8,31]),(9,[0,1,2,7,9]),(10,[0,1,7,9]),(11,[9]),(12,[6]),(13,[0,1,2,7,8]),(14,[0,1,2,7,8,68]),(15,[0,1,2]),(16,[0]),(17,[6]),(18,[0,1,7]),(19,[0]),(20,[6])] }
noncomputable def Zah (c:Nat) (s_0:List Qkm) (i_1:Int) (v_2:List Qkm):Option ((Zjb × Unit) × Unit):=
 bif (decide (0≤i_1)&&decide (i_1≤((s_0.length:Nat):Int)))&&decide (((s_0.length:Nat):Int)≤((((List.map some s_0++List.replicate c none).length) - 0:Nat):Int)) then
  bif (v_2.length:Int)==0 then
   bif Nat.ble s_0.length ((List.map some s_0++List.replicate c none).length) then
    Option.bind (Qd (List.take s_0.length (List.map some s_0++List.replicate c none))) fun (z1:List Qkm)=>
    some ((z1,()),())
   else none
  else
  bif i_1==((s_0.length:Nat):Int) then
   bif Nat.ble (0+s_0.length) ((List.map some s_0++List.replicate c none).length) then
    bif Nat.ble (s_0.length+v_2.length) ((List.map some s_0++List.replicate c none).length) then
     bif Nat.ble (s_0.length+v_2.length) ((Q6 (List.map some s_0++List.replicate c none) s_0.length v_2).length) then
      Option.bind (Qd (List.take (s_0.length+v_2.length) (Q6 (List.map some s_0++List.replicate c none) s_0.length v_2))) fun (z2:List Qkm)=>
      some ((z2,()),())
     else none
    else
    bif Nat.ble (s_0.length+v_2.length) 1073741824 then
     Option.bind (Qd (List.take s_0.length (List.map some s_0++List.replicate c none))) fun (z3:List Qkm)=>
     some ((z3++v_2,()),())
    else none
   else none
  else
  bif Nat.ble (0+s_0.length) ((List.map some s_0++List.replicate c none).length) then
   bif decide (IntKind.wrap .i64 (((s_0.length:Nat):Int)+(v_2.length:Int))>((((List.map some s_0++List.replicate c none).length) - 0:Nat):Int)) then
    bif decide (0≤i_1)&&decide (i_1≤((((List.map some s_0++List.replicate c none).length) - 0:Nat):Int)) then
     bif Nat.ble (0+((i_1 - 0).toNat)) ((List.map some s_0++List.replicate c none).length) then
      bif decide (0<IntKind.wrap .i64 ((IntKind.wrap .i64 (((s_0.length:Nat):Int)+(v_2.length:Int))) - i_1))&&true&&Nat.blt ((List.map some s_0++List.replicate c none).length) (((i_1 - 0).toNat)+((List.replicate ((IntKind.wrap .i64 ((IntKind.wrap .i64 (((s_0.length:Nat):Int)+(v_2.length:Int))) - i_1)).toNat) ((0,0,0):Int × Int × Int)).length))&&Nat.ble (((List.map some s_0++List.replicate c none).length)+((List.replicate ((IntKind.wrap .i64 ((IntKind.wrap .i64 (((s_0.length:Nat):Int)+(v_2.length:Int))) - i_1)).toNat) ((0,0,0):Int × Int × Int)).length)) 536870912 then
       bif (decide (0≤i_1)&&decide (i_1≤((((i_1 - 0).toNat)+((List.replicate ((IntKind.wrap .i64 ((IntKind.wrap .i64 (((s_0.length:Nat):Int)+(v_2.length:Int))) - i_1)).toNat) ((0,0,0):Int × Int × Int)).length):Nat):Int)))&&decide (((((i_1 - 0).toNat)+((List.replicate ((IntKind.wrap .i64 ((IntKind.wrap .i64 (((s_0.length:Nat):Int)+(v_2.length:Int))) - i_1)).toNat) ((0,0,0):Int × Int × Int)).length):Nat):Int)≤((((List.take ((i_1 - 0).toNat) (List.map some s_0++List.replicate c none)++List.map some (List.replicate ((IntKind.wrap .i64 ((IntKind.wrap .i64 (((s_0.length:Nat):Int)+(v_2.length:Int))) - i_1)).toNat) ((0,0,0):Int × Int × Int))).length) - 0:Nat):Int)) then
        bif Nat.ble ((0+i_1.toNat)+((((((i_1 - 0).toNat)+((List.replicate ((IntKind.wrap .i64 ((IntKind.wrap .i64 (((s_0.length:Nat):Int)+(v_2.length:Int))) - i_1)).toNat) ((0,0,0):Int × Int × Int)).length):Nat):Int) - i_1).toNat)) ((List.take ((i_1 - 0).toNat) (List.map some s_0++List.replicate c none)++List.map some (List.replicate ((IntKind.wrap .i64 ((IntKind.wrap .i64 (((s_0.length:Nat):Int)+(v_2.length:Int))) - i_1)).toNat) ((0,0,0):Int × Int × Int))).length) then
         bif (decide (0≤IntKind.wrap .i64 (i_1+(v_2.length:Int)))&&decide (IntKind.wrap .i64 (i_1+(v_2.length:Int))≤((((i_1 - 0).toNat)+((List.replicate ((IntKind.wrap .i64 ((IntKind.wrap .i64 (((s_0.length:Nat):Int)+(v_2.length:Int))) - i_1)).toNat) ((0,0,0):Int × Int × Int)).length):Nat):Int)))&&decide (((((i_1 - 0).toNat)+((List.replicate ((IntKind.wrap .i64 ((IntKind.wrap .i64 (((s_0.length:Nat):Int)+(v_2.length:Int))) - i_1)).toNat) ((0,0,0):Int × Int × Int)).length):Nat):Int)≤((((Q6 (List.take ((i_1 - 0).toNat) (List.map some s_0++List.replicate c none)++List.map some (List.replicate ((IntKind.wrap .i64 ((IntKind.wrap .i64 (((s_0.length:Nat):Int)+(v_2.length:Int))) - i_1)).toNat) ((0,0,0):Int × Int × Int))) (0+i_1.toNat) (List.take ((((((i_1 - 0).toNat)+((List.replicate ((IntKind.wrap .i64 ((IntKind.wrap .i64 (((s_0.length:Nat):Int)+(v_2.length:Int))) - i_1)).toNat) ((0,0,0):Int × Int × Int)).length):Nat):Int) - i_1).toNat) v_2)).length) - 0:Nat):Int)) then
          bif (decide (0≤i_1)&&decide (i_1≤((s_0.length:Nat):Int)))&&decide (((s_0.length:Nat):Int)≤((((List.map some s_0++List.replicate c none).length) - 0:Nat):Int)) then
           bif Nat.ble ((0+((IntKind.wrap .i64 (i_1+(v_2.length:Int))).toNat))+((((((i_1 - 0).toNat)+((List.replicate ((IntKind.wrap .i64 ((IntKind.wrap .i64 (((s_0.length:Nat):Int)+(v_2.length:Int))) - i_1)).toNat) ((0,0,0):Int × Int × Int)).length):Nat):Int) - (IntKind.wrap .i64 (i_1+(v_2.length:Int)))).toNat)) ((Q6 (List.take ((i_1 - 0).toNat) (List.map some s_0++List.replicate c none)++List.map some (List.replicate ((IntKind.wrap .i64 ((IntKind.wrap .i64 (((s_0.length:Nat):Int)+(v_2.length:Int))) - i_1)).toNat) ((0,0,0):Int × Int × Int))) (0+i_1.toNat) (List.take ((((((i_1 - 0).toNat)+((List.replicate ((IntKind.wrap .i64 ((IntKind.wrap .i64 (((s_0.length:Nat):Int)+(v_2.length:Int))) - i_1)).toNat) ((0,0,0):Int × Int × Int)).length):Nat):Int) - i_1).toNat) v_2)).length) then
            bif Nat.ble ((0+i_1.toNat)+((((s_0.length:Nat):Int) - i_1).toNat)) ((List.map some s_0++List.replicate c none).length) then
            Option.bind (Qd (List.take (min ((((((i_1 - 0).toNat)+((List.replicate ((IntKind.wrap .i64 ((IntKind.wrap .i64 (((s_0.length:Nat):Int)+(v_2.length:Int))) - i_1)).toNat) ((0,0,0):Int × Int × Int)).length):Nat):Int) - (IntKind.wrap .i64 (i_1+(v_2.length:Int)))).toNat) ((((s_0.length:Nat):Int) - i_1).toNat)) (List.drop (0+i_1.toNat) (List.map some s_0++List.replicate c none)))) fun (z4:List Qkm)=>
            bif Nat.ble (((i_1 - 0).toNat)+((List.replicate ((IntKind.wrap .i64 ((IntKind.wrap .i64 (((s_0.length:Nat):Int)+(v_2.length:Int))) - i_1)).toNat) ((0,0,0):Int × Int × Int)).length)) ((Q6 (Q6 (List.take ((i_1 - 0).toNat) (List.map some s_0++List.replicate c none)++List.map some (List.replicate ((IntKind.wrap .i64 ((IntKind.wrap .i64 (((s_0.length:Nat):Int)+(v_2.length:Int))) - i_1)).toNat) ((0,0,0):Int × Int × Int))) (0+i_1.toNat) (List.take ((((((i_1 - 0).toNat)+((List.replicate ((IntKind.wrap .i64 ((IntKind.wrap .i64 (((s_0.length:Nat):Int)+(v_2.length:Int))) - i_1)).toNat) ((0,0,0):Int × Int × Int)).length):Nat):Int) - i_1).toNat) v_2)) (0+((IntKind.wrap .i64 (i_1+(v_2.length:Int))).toNat)) z4).length) then
            Option.bind (Qd (List.take (((i_1 - 0).toNat)+((List.replicate ((IntKind.wrap .i64 ((IntKind.wrap .i64 (((s_0.length:Nat):Int)+(v_2.length:Int))) - i_1)).toNat) ((0,0,0):Int × Int × Int)).length)) (Q6 (Q6 (List.take ((i_1 - 0).toNat) (List.map some s_0++List.replicate c none)++List.map some (List.replicate ((IntKind.wrap .i64 ((IntKind.wrap .i64 (((s_0.length:Nat):Int)+(v_2.length:Int))) - i_1)).toNat) ((0,0,0):Int × Int × Int))) (0+i_1.toNat) (List.take ((((((i_1 - 0).toNat)+((List.replicate ((IntKind.wrap .i64 ((IntKind.wrap .i64 (((s_0.length:Nat):Int)+(v_2.length:Int))) - i_1)).toNat) ((0,0,0):Int × Int × Int)).length):Nat):Int) - i_1).toNat) v_2)) (0+((IntKind.wrap .i64 (i_1+(v_2.length:Int))).toNat)) z4))) fun (z5:List Qkm)=>
            some ((z5,()),())
            else none
            else none
           else none
          else none
         else none
        else none
       else none
      else none
     else none
    else none
   else
   bif decide (0≤IntKind.wrap .i64 (((s_0.length:Nat):Int)+(v_2.length:Int)))&&decide (IntKind.wrap .i64 (((s_0.length:Nat):Int)+(v_2.length:Int))≤((((List.map some s_0++List.replicate c none).length) - 0:Nat):Int)) then
    bif (decide (0≤IntKind.wrap .i64 (i_1+(v_2.length:Int)))&&decide (IntKind.wrap .i64 (i_1+(v_2.length:Int))≤((((IntKind.wrap .i64 (((s_0.length:Nat):Int)+(v_2.length:Int))) - 0).toNat:Nat):Int)))&&decide (((((IntKind.wrap .i64 (((s_0.length:Nat):Int)+(v_2.length:Int))) - 0).toNat:Nat):Int)≤((((List.map some s_0++List.replicate c none).length) - 0:Nat):Int)) then
     bif (decide (0≤IntKind.wrap .i64 (i_1+(v_2.length:Int)))&&decide (IntKind.wrap .i64 (i_1+(v_2.length:Int))≤((((IntKind.wrap .i64 (((s_0.length:Nat):Int)+(v_2.length:Int))) - 0).toNat:Nat):Int)))&&decide (((((IntKind.wrap .i64 (((s_0.length:Nat):Int)+(v_2.length:Int))) - 0).toNat:Nat):Int)≤((((List.map some s_0++List.replicate c none).length) - 0:Nat):Int)) then
      bif (decide (0≤i_1)&&decide (i_1≤((((IntKind.wrap .i64 (((s_0.length:Nat):Int)+(v_2.length:Int))) - 0).toNat:Nat):Int)))&&decide (((((IntKind.wrap .i64 (((s_0.length:Nat):Int)+(v_2.length:Int))) - 0).toNat:Nat):Int)≤((((List.map some s_0++List.replicate c none).length) - 0:Nat):Int)) then
       bif Nat.ble ((0+((IntKind.wrap .i64 (i_1+(v_2.length:Int))).toNat))+((((((IntKind.wrap .i64 (((s_0.length:Nat):Int)+(v_2.length:Int))) - 0).toNat:Nat):Int) - (IntKind.wrap .i64 (i_1+(v_2.length:Int)))).toNat)) ((List.map some s_0++List.replicate c none).length) then
        bif Nat.ble ((0+i_1.toNat)+((((((IntKind.wrap .i64 (((s_0.length:Nat):Int)+(v_2.length:Int))) - 0).toNat:Nat):Int) - i_1).toNat)) ((List.map some s_0++List.replicate c none).length) then
         Option.bind (Qd (List.take (min ((((((IntKind.wrap .i64 (((s_0.length:Nat):Int)+(v_2.length:Int))) - 0).toNat:Nat):Int) - (IntKind.wrap .i64 (i_1+(v_2.length:Int)))).toNat) ((((((IntKind.wrap .i64 (((s_0.length:Nat):Int)+(v_2.length:Int))) - 0).toNat:Nat):Int) - i_1).toNat)) (List.drop (0+i_1.toNat) (List.map some s_0++List.replicate c none)))) fun (z6:List Qkm)=>
         bif (decide (0≤i_1)&&decide (i_1≤((((IntKind.wrap .i64 (((s_0.length:Nat):Int)+(v_2.length:Int))) - 0).toNat:Nat):Int)))&&decide (((((IntKind.wrap .i64 (((s_0.length:Nat):Int)+(v_2.length:Int))) - 0).toNat:Nat):Int)≤((((Q6 (List.map some s_0++List.replicate c none) (0+((IntKind.wrap .i64 (i_1+(v_2.length:Int))).toNat)) z6).length) - 0:Nat):Int)) then
          bif Nat.ble ((0+i_1.toNat)+((((((IntKind.wrap .i64 (((s_0.length:Nat):Int)+(v_2.length:Int))) - 0).toNat:Nat):Int) - i_1).toNat)) ((Q6 (List.map some s_0++List.replicate c none) (0+((IntKind.wrap .i64 (i_1+(v_2.length:Int))).toNat)) z6).length) then
           bif Nat.ble (((IntKind.wrap .i64 (((s_0.length:Nat):Int)+(v_2.length:Int))) - 0).toNat) ((Q6 (Q6 (List.map some s_0++List.replicate c none) (0+((IntKind.wrap .i64 (i_1+(v_2.length:Int))).toNat)) z6) (0+i_1.toNat) (List.take ((((((IntKind.wrap .i64 (((s_0.length:Nat):Int)+(v_2.length:Int))) - 0).toNat:Nat):Int) - i_1).toNat) v_2)).length) then
            Option.bind (Qd (List.take (((IntKind.wrap .i64 (((s_0.length:Nat):Int)+(v_2.length:Int))) - 0).toNat) (Q6 (Q6 (List.map some s_0++List.replicate c none) (0+((IntKind.wrap .i64 (i_1+(v_2.length:Int))).toNat)) z6) (0+i_1.toNat) (List.take ((((((IntKind.wrap .i64 (((s_0.length:Nat):Int)+(v_2.length:Int))) - 0).toNat:Nat):Int) - i_1).toNat) v_2)))) fun (z7:List Qkm)=>
            some ((z7,()),())
           else none
          else none
         else none
        else none
       else none
      else none
     else none
    else none
   else none
  else none
 else none
theorem Zmq (c:Nat) (s_0:List Qkm) (i_1:Int) (v_2:List Qkm):Qdf Zbl tab { Z6t with cap:=c } 1 [.ownc 84 t83,.val t2,.own 84 t83] [⟨t49,[true],none⟩] Tryz.f314 (s_0,i_1,v_2,())=Zah c s_0 i_1 v_2:=by kernel_rfl
theorem Zn7 (c:Nat) (s_0:List Qkm) (i_1:Int) (v_2:List Qkm):Zah c s_0 i_1 v_2=Qet ((0,0,0):Int × Int × Int) c s_0 i_1 v_2:=by kernel_rfl
noncomputable def Zis (s_0:List Qkm) (i_1:Int) (v_2:List Qkm):Option ((Zjb × Unit) × Unit):=Qe5 s_0 i_1 v_2
noncomputable def Zcj:Ent:=⟨[.ownc 84 t83,.val t2,.own 84 t83],[⟨t49,[true],none⟩],fun x=>Zis x.1 x.2.1 x.2.2.1⟩
theorem Znb:Q4j tab.ty Tryz.prog 314 Zcj:=by
  refine Qgb (Γ:=Zbl) (fi:=Z6t) (n:=1) follows (Qjq (Qjr Tryz.func314 (by kernel_rfl) (by kernel_rfl)) Qju) Qjz Tryz.func314 (by kernel_rfl) (by kernel_rfl) (fun c x r hc h=>?_)
  obtain ⟨s_0,i_1,v_2,_u⟩:=x
  exact (Zmq c s_0 i_1 v_2).trans ((Zn7 c s_0 i_1 v_2).trans (Qin ((0,0,0):Int × Int × Int) c s_0 i_1 v_2 r hc h))
noncomputable def X9u (l_0:List Qkm) (k_1:Int × Int × Int):Option ((Zjb × Bool × Unit) × Unit):=
 Option.bind (Qme l_0) fun r1=>
 Option.bind (X6q l_0 k_1.1 k_1.2.1) fun r2=>
 bif r2.1.1 then
  some ((r1.1.1,false,()),())
 else
  Option.bind (Zxj l_0 k_1.1) fun r3=>
  bif r3.1.2.1 then
   bif decide (0≤r3.1.1)&&decide (r3.1.1<(r1.1.1.length:Int)) then
    bif decide (0≤r3.1.1)&&decide (r3.1.1<(r1.1.1.length:Int)) then
     some ((List.set r1.1.1 r3.1.1.toNat k_1,true,()),())
    else none
   else none
  else
   Option.bind (Zis r1.1.1 r3.1.1 [k_1]) fun r4=>
   some ((r4.1.1,true,()),())
noncomputable def X1b:Ent:=⟨[.val t49,.val t83],[⟨t49,[true],none⟩,⟨t4,[false],none⟩],fun x=>X9u x.1 x.2.1⟩
theorem X4o:Q4j tab.ty Tryz.prog 300 X1b:=
 Qjd (Γ:=[(82,Zp9),(130,Qm5),(228,Zx3),(314,Zcj)]) (fi:={ keep:=[],vty:=[],vals:=[],live:=[(0,[0,3]),(1,[0,3,6]),(2,[0,3,6,16]),(3,[4,5]),(4,[3,6,7,8]),(5,[3,6,7,25]),(6,[6]),(7,[4,5]),(8,[4,5])] }) (n:=1) follows (Qjq Zph (Qjq Qm0 (Qjq Zvd (Qjq Znb Qju)))) Qjz Tryz.func300 (by kernel_rfl) (by kernel_rfl) fun x r h=>Eq.trans (by kernel_rfl) h
noncomputable def Zg7 (n_0:Qli × List Qko) (m_1:Int × Int × Int × Int × Int × Int × (List Int) × Int × Int × ByteArray):Option (Unit × (Zcr × Unit)):=
 Option.bind (X9u (h12 n_0.1) (m_1.2.1,(g3 m_1),n_0.1.2.2.1)) fun r1=>
 some ((),(((e12 n_0.1 r1.1.1),n_0.2),()))
noncomputable def Z5s:Ent:=⟨[.box 249 X8n (nF 13++[true]),.val Qsi],[],fun x=>Zg7 x.1 x.2.1⟩
theorem Z9n:Q4j tab.ty Tryz.prog 266 Z5s:=
 Qjd (Γ:=[(300,X1b)]) (fi:={ keep:=[],vty:=[],vals:=[],live:=[(0,[0,3]),(1,[0])] }) (n:=1) follows (Qjq X4o Qju) Qjz Tryz.func266 (by kernel_rfl) (by kernel_rfl) fun x r h=>Eq.trans (by kernel_rfl) h
noncomputable def Z9f (n_0:Qli × List Qko) (m_1:Int × Int × Int × Int × Int × Int × (List Int) × Int × Int × ByteArray) (lo_2:Int):Option (Unit × (Zcr × Unit)):=
 Option.bind (Zwo n_0 m_1.2.1) fun r1=>
 bif !r1.1.1 then
  Option.bind (Qkd r1.2.1 3 m_1.2.1 0) fun r2=>
  some ((),(r2.2.1,()))
 else
  Option.bind (Zg7 r1.2.1 m_1) fun r3=>
  Option.bind (Qkd r3.2.1 2 m_1.2.1 lo_2) fun r4=>
  some ((),(r4.2.1,()))
noncomputable def Zix:Ent:=⟨[.box 249 X8n (nF 13++[true]),.val Qsi,.val t2],[],fun x=>Z9f x.1 x.2.1 x.2.2.1⟩
theorem Zqs:Q4j tab.ty Tryz.prog 229 Zix:=
 Qjd (Γ:=[(202,Qmg),(265,Znr),(266,Z5s)]) (fi:={ keep:=[],vty:=[],vals:=[],live:=[(0,[0,2,4]),(1,[0,2,4,10]),(2,[0]),(3,[0,2,4]),(4,[0])] }) (n:=1) follows (Qjq Qls (Qjq Zve (Qjq Z9n Qju))) Qjz Tryz.func229 (by kernel_rfl) (by kernel_rfl) fun x r h=>Eq.trans (by kernel_rfl) h
noncomputable def X0y (p_0:List Int) (id_1:Int):Option (((List Int) × Bool × Unit) × Unit):=
 Option.bind (Qkp p_0) fun r1=>
 bif Nat.ble (r1.1.1.length+1) 1073741824 then
  Option.bind (Zqg (r1.1.1++[id_1])) fun r2=>
  bif !r2.1.1 then
   some (([],false,()),())
  else
   some ((r1.1.1++[id_1],true,()),())
 else none
noncomputable def Zqd:Ent:=⟨[.val t44,.val t2],[⟨t44,[true],none⟩,⟨t4,[false],none⟩],fun x=>X0y x.1 x.2.1⟩
theorem Zjz:Q4j tab.ty Tryz.prog 50 Zqd:=
 Qjd (Γ:=[(83,Qk9),(84,Zxo)]) (fi:={ keep:=[],vty:=[],vals:=[],live:=[(0,[0,1]),(1,[6]),(2,[6,14]),(3,[4,5]),(4,[4,5])] }) (n:=1) follows (Qjq Qk5 (Qjq Zux Qju)) Qjz Tryz.func50 (by kernel_rfl) (by kernel_rfl) fun x r h=>Eq.trans (by kernel_rfl) h
noncomputable def X60 (p_0:List Int):Option ((Int × Unit) × Unit):=
 bif decide ((p_0.length:Int)<2) then
  some ((0,()),())
 else
 bif decide (0≤IntKind.wrap .i64 ((p_0.length:Int) - 2))&&decide (IntKind.wrap .i64 ((p_0.length:Int) - 2)<(p_0.length:Int)) then
  some ((List.getD p_0 ((IntKind.wrap .i64 ((p_0.length:Int) - 2)).toNat) 0,()),())
 else none
noncomputable def Zyt:Ent:=⟨[.val t44],[⟨t2,[false],none⟩],fun x=>X60 x.1⟩
theorem X2p:Q4j tab.ty Tryz.prog 301 Zyt:=
 Qjd (Γ:=[]) (fi:={ keep:=[],vty:=[],vals:=[],live:=[(0,[0]),(1,[0,5]),(2,[2]),(3,[2])] }) (n:=1) follows Qju Qjz Tryz.func301 (by kernel_rfl) (by kernel_rfl) fun x r h=>Eq.trans (by kernel_rfl) h
noncomputable def Zq3 (n_0:Qli × List Qko) (m_1:Int × Int × Int × Int × Int × Int × (List Int) × Int × Int × ByteArray) (p_2:List Int):Option (Unit × (Zcr × Unit)):=
 Option.bind (X60 (g6 m_1)) fun r1=>
 bif r1.1.1==0 then
  some ((),(((u6 (u5 n_0.1 1) p_2),n_0.2),()))
 else
  some ((),(((u6 (u5 n_0.1 r1.1.1) p_2),n_0.2),()))
noncomputable def Zft:Ent:=⟨[.box 249 X8n (nF 13++[true]),.val Qsi,.val t44],[],fun x=>Zq3 x.1 x.2.1 x.2.2.1⟩
theorem Zgd:Q4j tab.ty Tryz.prog 267 Zft:=
 Qjd (Γ:=[(301,Zyt)]) (fi:={ keep:=[],vty:=[],vals:=[],live:=[(0,[0,2,4]),(1,[0]),(2,[0,23]),(3,[0])] }) (n:=1) follows (Qjq X2p Qju) Qjz Tryz.func267 (by kernel_rfl) (by kernel_rfl) fun x r h=>Eq.trans (by kernel_rfl) h
noncomputable def Zfa (n_0:Qli × List Qko) (m_1:Int × Int × Int × Int × Int × Int × (List Int) × Int × Int × ByteArray):Option (Unit × (Zcr × Unit)):=
 Option.bind (Qkd ((u9 n_0.1 0),n_0.2) 6 m_1.2.1 0) fun r4=>
 some ((),(((u11 r4.2.1.1 (IntKind.wrap .i64 ((g11 r4.2.1.1)+1))),r4.2.1.2),()))
noncomputable def Zcb (n_0:Qli × List Qko) (m_1:Int × Int × Int × Int × Int × Int × (List Int) × Int × Int × ByteArray):Option (Unit × (Zcr × Unit)):=
 bif (g9 n_0.1) != m_1.2.1 then
  bif (g3 n_0.1) != m_1.2.1 then
   Option.bind (Qkd n_0 6 m_1.2.1 0) fun r1=>
   some ((),(r1.2.1,()))
  else
   some ((),(n_0,()))
 else
 bif (g3 n_0.1) != 0 then
  bif (g3 n_0.1) != m_1.2.1 then
   Option.bind (Qkd n_0 6 m_1.2.1 0) fun r2=>
   some ((),(r2.2.1,()))
  else
   some ((),(n_0,()))
 else
  Option.bind (X0y (g6 m_1) n_0.1.1) fun r3=>
  bif !r3.1.2.1 then
   Zfa n_0 m_1
  else
  bif decide ((g5 m_1)>20) then
   Zfa n_0 m_1
  else
   Option.bind (Zq3 ((u9 n_0.1 0),n_0.2) m_1 r3.1.1) fun r6=>
   some ((),(((u11 (u8 (u7 (u4 (u3 r6.2.1.1 m_1.2.1) (g3 m_1)) (g4 m_1)) (IntKind.wrap .i64 (r6.2.1.1.2.2.1 - (g5 m_1)))) 0),r6.2.1.2),()))
noncomputable def Zi5:Ent:=⟨[.box 249 X8n (nF 13++[true]),.val Qsi],[],fun x=>Zcb x.1 x.2.1⟩
theorem Zrc:Q4j tab.ty Tryz.prog 230 Zi5:=
 Qjd (Γ:=[(50,Zqd),(202,Qmg),(267,Zft)]) (fi:={ keep:=[],vty:=[],vals:=[],live:=[(0,[0,3,15,16,17,18,19,20,52,53,54]),(1,[0,3,21,52,53,54]),(2,[0,3,29]),(3,[0]),(4,[0,3,52,53,54]),(5,[0,3,4,5,52,53,54]),(6,[0,3,4,55]),(7,[0]),(8,[0]),(9,[0,3]),(10,[0])] }) (n:=1) follows (Qjq Zjz (Qjq Qls (Qjq Zgd Qju))) Qjz Tryz.func230 (by kernel_rfl) (by kernel_rfl) fun x r h=>Eq.trans (by kernel_rfl) h
noncomputable def Zc1 (n_0:Qli × List Qko) (m_1:Int × Int × Int × Int × Int × Int × (List Int) × Int × Int × ByteArray):Option (Unit × (Zcr × Unit)):=
 bif m_1.2.1==(g9 n_0.1) then
  some ((),(((u11 (u9 n_0.1 0) (IntKind.wrap .i64 ((g11 n_0.1)+1))),n_0.2),()))
 else
 bif m_1.2.1==(g3 n_0.1) then
  Option.bind (Qzy n_0 0) fun r1=>
  some ((),(r1.2.1,()))
 else
  some ((),(n_0,()))
noncomputable def Zhh:Ent:=⟨[.box 249 X8n (nF 13++[true]),.val Qsi],[],fun x=>Zc1 x.1 x.2.1⟩
theorem Zqq:Q4j tab.ty Tryz.prog 231 Zhh:=
 Qjd (Γ:=[(217,Qu0)]) (fi:={ keep:=[],vty:=[],vals:=[],live:=[(0,[0,3]),(1,[0,5]),(2,[0,5,6]),(3,[0]),(4,[0]),(5,[0,26]),(6,[0])] }) (n:=1) follows (Qjq Qth Qju) Qjz Tryz.func231 (by kernel_rfl) (by kernel_rfl) fun x r h=>Eq.trans (by kernel_rfl) h
noncomputable def Zaa (n_0:Qli × List Qko) (m_1:Int × Int × Int × Int × Int × Int × (List Int) × Int × Int × ByteArray):Option (Unit × (Zcr × Unit)):=
 Option.bind (Z9g (h12 n_0.1) m_1.2.1) fun r1=>
 bif r1.1.2.1 then
  Option.bind (Zg7 n_0 m_1) fun r2=>
  some ((),(r2.2.1,()))
 else
  Option.bind (Qkd n_0 3 m_1.2.1 0) fun r3=>
  some ((),(r3.2.1,()))
noncomputable def Zgo:Ent:=⟨[.box 249 X8n (nF 13++[true]),.val Qsi],[],fun x=>Zaa x.1 x.2.1⟩
theorem Zr9:Q4j tab.ty Tryz.prog 232 Zgo:=
 Qjd (Γ:=[(49,Z2l),(202,Qmg),(266,Z5s)]) (fi:={ keep:=[],vty:=[],vals:=[],live:=[(0,[0,3]),(1,[0,3,5]),(2,[0,3,17]),(3,[0]),(4,[0])] }) (n:=1) follows (Qjq Qw7 (Qjq Qls (Qjq Z9n Qju))) Qjz Tryz.func232 (by kernel_rfl) (by kernel_rfl) fun x r h=>Eq.trans (by kernel_rfl) h
noncomputable def Z9b (n_0:Qli × List Qko) (m_1:Int × Int × Int × Int × Int × Int × (List Int) × Int × Int × ByteArray):Option (Unit × (Zcr × Unit)):=
 bif m_1.2.1 != (g3 n_0.1) then
  Option.bind (Qkd n_0 6 m_1.2.1 0) fun r1=>
  some ((),(r1.2.1,()))
 else
  Option.bind (X0y (g6 m_1) n_0.1.1) fun r2=>
  bif !r2.1.2.1 then
   Option.bind (Qkd n_0 6 m_1.2.1 0) fun r3=>
   Option.bind (Qzy r3.2.1 1) fun r4=>
   some ((),(r4.2.1,()))
  else
   Option.bind (Zq3 n_0 m_1 r2.1.1) fun r5=>
   bif decide (IntKind.wrap .i64 (r5.2.1.1.2.2.1 - (g5 m_1))>(g8 r5.2.1.1)) then
    some ((),(((u8 (u7 r5.2.1.1 (g4 m_1)) (IntKind.wrap .i64 (r5.2.1.1.2.2.1 - (g5 m_1)))),r5.2.1.2),()))
   else
    some ((),(r5.2.1,()))
noncomputable def Zhm:Ent:=⟨[.box 249 X8n (nF 13++[true]),.val Qsi],[],fun x=>Z9b x.1 x.2.1⟩
theorem Zql:Q4j tab.ty Tryz.prog 233 Zhm:=
 Qjd (Γ:=[(50,Zqd),(202,Qmg),(217,Qu0),(267,Zft)]) (fi:={ keep:=[],vty:=[],vals:=[],live:=[(0,[0,3]),(1,[0,3,13]),(2,[0]),(3,[0,3,4,5]),(4,[0,3,4,30]),(5,[0]),(6,[0]),(7,[0,3]),(8,[0,3,54]),(9,[0])] }) (n:=1) follows (Qjq Zjz (Qjq Qls (Qjq Qth (Qjq Zgd Qju)))) Qjz Tryz.func233 (by kernel_rfl) (by kernel_rfl) fun x r h=>Eq.trans (by kernel_rfl) h
noncomputable def Zwi (k_0:Int × Int × Int) (x_1:Int):Option ((Bool × Unit) × Unit):=
 some ((k_0.1==x_1,()),())
noncomputable def Zoa:Ent:=⟨[.val t83,.rbox t2],[⟨t4,[false],none⟩],fun x=>Zwi x.1 x.2.1⟩
theorem Zvy:Q4j tab.ty Tryz.prog 268 Zoa:=
 Qjd (Γ:=[]) (fi:={ keep:=[],vty:=[],vals:=[],live:=[(0,[1,2]),(1,[3])] }) (n:=1) follows Qju Qjz Tryz.func268 (by kernel_rfl) (by kernel_rfl) fun x r h=>Eq.trans (by kernel_rfl) h
noncomputable def X13 (l_0:List Qkm) (id_1:Int):Option ((Zjb × Unit) × Unit):=
 Option.bind (Qme l_0) fun r1=>
 Option.bind (Qu6 r1.1.1 (fun x=>(Zwi x.1 id_1).bind fun r=>some (r.1.1,()))) fun r2=>
 some ((r2.1.1,()),())
noncomputable def X3f:Ent:=⟨[.val t49,.val t2],[⟨t49,[true],none⟩],fun x=>X13 x.1 x.2.1⟩
theorem X4i:Q4j tab.ty Tryz.prog 234 X3f:=
 Qjd (Γ:=[(130,Qm5),(255,Qrq),(268,Zoa)]) (fi:={ keep:=[],vty:=[],vals:=[],live:=[(0,[0,3]),(1,[4])] }) (n:=1) follows (Qjq Qm0 (Qjq Qv8 (Qjq Zvy Qju))) Qjz Tryz.func234 (by kernel_rfl) (by kernel_rfl) fun x r h=>Eq.trans (by kernel_rfl) h
noncomputable def Zo3 (m_1:Int × Int × Int × Int × Int × Int × (List Int) × Int × Int × ByteArray) (r1:(Zcr × Unit) × Unit) (lo_2:Int):Option ((Qli × Qtq × Unit) × Unit):=
 bif m_1.1==1 then
  Option.bind (Z9f r1.1.1 m_1 lo_2) fun r10=>
  some ((r10.2.1.1,r10.2.1.2,()),())
 else
 bif m_1.1==2 then
  Option.bind (Zcb r1.1.1 m_1) fun r11=>
  some ((r11.2.1.1,r11.2.1.2,()),())
 else
 bif m_1.1==3 then
  Option.bind (Zc1 r1.1.1 m_1) fun r12=>
  some ((r12.2.1.1,r12.2.1.2,()),())
 else
 bif m_1.1==4 then
  Option.bind (Zaa r1.1.1 m_1) fun r13=>
  some ((r13.2.1.1,r13.2.1.2,()),())
 else
 bif m_1.1==5 then
  Option.bind (Z9b r1.1.1 m_1) fun r14=>
  some ((r14.2.1.1,r14.2.1.2,()),())
 else
 bif m_1.1==6 then
  Option.bind (X13 (h12 r1.1.1.1) m_1.2.1) fun r15=>
  some (((e12 r1.1.1.1 r15.1.1),r1.1.1.2,()),())
 else
  some ((r1.1.1.1,r1.1.1.2,()),())
noncomputable def Zyy (r1:(Zcr × Unit) × Unit) (m_1:Int × Int × Int × Int × Int × Int × (List Int) × Int × Int × ByteArray) (lo_2:Int):Option ((Qli × Qtq × Unit) × Unit):=
 bif (g3 r1.1.1.1) != 0 then
  bif m_1.2.1==(g3 r1.1.1.1) then
   bif decide ((g3 m_1)>(g4 r1.1.1.1)) then
    Option.bind (Qzy r1.1.1 0) fun r3=>
    bif m_1.1==1 then
     Option.bind (Z9f r3.2.1 m_1 lo_2) fun r4=>
     some ((r4.2.1.1,r4.2.1.2,()),())
    else
    bif m_1.1==2 then
     Option.bind (Zcb r3.2.1 m_1) fun r5=>
     some ((r5.2.1.1,r5.2.1.2,()),())
    else
    bif m_1.1==3 then
     Option.bind (Zc1 r3.2.1 m_1) fun r6=>
     some ((r6.2.1.1,r6.2.1.2,()),())
    else
    bif m_1.1==4 then
     Option.bind (Zaa r3.2.1 m_1) fun r7=>
     some ((r7.2.1.1,r7.2.1.2,()),())
    else
    bif m_1.1==5 then
     Option.bind (Z9b r3.2.1 m_1) fun r8=>
     some ((r8.2.1.1,r8.2.1.2,()),())
    else
    bif m_1.1==6 then
     Option.bind (X13 (h12 r3.2.1.1) m_1.2.1) fun r9=>
     some (((e12 r3.2.1.1 r9.1.1),r3.2.1.2,()),())
    else
     some ((r3.2.1.1,r3.2.1.2,()),())
   else
    Zo3 m_1 r1 lo_2
  else
   Zo3 m_1 r1 lo_2
 else
  Zo3 m_1 r1 lo_2
noncomputable def X9g (t_0:Int × Int × Int × Int × Int × Int × (List Int) × Int × Int × Int × Int × Int × List Qkm) (m_1:Int × Int × Int × Int × Int × Int × (List Int) × Int × Int × ByteArray) (lo_2:Int):Option ((Qli × Qtq × Unit) × Unit):=
 Option.bind (Xap t_0) fun r1=>
 Option.bind (X6q (h12 r1.1.1.1) m_1.2.1 (g3 m_1)) fun r2=>
 bif r2.1.1 then
  some ((r1.1.1.1,[],()),())
 else
 bif m_1.2.1==(g3 r1.1.1.1) then
  bif decide ((g3 m_1)<(g4 r1.1.1.1)) then
   some ((r1.1.1.1,[],()),())
  else
   Zyy r1 m_1 lo_2
 else
  Zyy r1 m_1 lo_2
noncomputable def X28:Ent:=⟨[.val t50,.val Qsi,.val t2],[⟨t50,(nF 13),none⟩,⟨t70,[true],none⟩],fun x=>X9g x.1 x.2.1 x.2.2.1⟩
theorem X4z:Q4j tab.ty Tryz.prog 183 X28:=
 Qjd (Γ:=[(201,X10),(217,Qu0),(228,Zx3),(229,Zix),(230,Zi5),(231,Zhh),(232,Zgo),(233,Zhm),(234,X3f)]) (fi:={ keep:=[],vty:=[],vals:=[],live:=[(0,[2,3,4,6,22,23,24,25,26,27,28,29,30,31,32,33,34,35,36,37,38,39,52,53,54,55,56,57,58,59,62,63,64,65,66,67,68,69]),(1,[2,4,6,8,22,23,24,25,26,27,28,29,30,31,32,33,34,35,36,37,38,39,52,53,54,55,56,57,58,59,62,63,64,65,66,67,68,69]),(2,[2,4,6,8,40,52,53,54,55,56,57,58,59,62,63,64,65,66,67,68,69]),(3,[6,7]),(4,[2,4,6,8,70]),(5,[2,4,6,8]),(6,[2,4,6,8,74]),(7,[2,4,6,8,74,75]),(8,[6,8]),(9,[4,6,8,74,81]),(10,[6,8]),(11,[4,6,8,74,86]),(12,[6,8]),(13,[4,6,8,74,91]),(14,[6,8]),(15,[4,6,8,74,96]),(16,[6,8]),(17,[4,6,8,101]),(18,[6,8]),(19,[6,7])] }) (n:=1) follows (Qjq Zu2 (Qjq Qth (Qjq Zvd (Qjq Zqs (Qjq Zrc (Qjq Zqq (Qjq Zr9 (Qjq Zql (Qjq X4i Qju))))))))) Qjz Tryz.func183 (by kernel_rfl) (by kernel_rfl) fun x r h=>Eq.trans (by kernel_rfl) h
abbrev Qk6:Type:=(Int × Bool × Unit) × Unit
noncomputable def Ql9:Ctx:=[]
def Ql7:Fi:={ keep:=[],vty:=[],vals:=[],live:=[(0,[0,1,2,40,41,42,43,44,45,46,47]),(1,[0,1,2,8,40,41,42,43,44,45,46,47]),(2,[0,1,2,8,9,10,40,41,42,43,44,45,46,47]),(3,[0,1,2,8,9,10,17,40,41,42,43,44,45,46,47]),(4,[0,1,2,8,9,10,11,40,41,42,43,44,45,46,47]),(5,[0,1,2,8,9,10,11,31,40,41,42,43,44,45,46,47]),(6,[0,1,2,8,9,10,40,41,42,43,44,45,46,47]),(7,[0,1,2,8,9,10,40,41,42,43,44,45,46,47]),(8,[6,7])] }
abbrev Ql6:Type:=Qkg→Int→(Qk2 × Int × Unit→Option (Int × Unit))→Int→Int→Int→Option Qk6
noncomputable def Qmt (L1:Ql6) (v1:List Qk2) (v2:Int) (v3:(Qk2 × Int × Unit→Option (Int × Unit))) (v4 v5 v6:Int):Option Qk6:=
 bif decide (v5<v6) then
  bif decide (0≤IntKind.wrap .i64 (Int.fdiv (IntKind.wrap .u64 (IntKind.wrap .i64 (v5+v6))) (2 ^ 1)))&&decide (IntKind.wrap .i64 (Int.fdiv (IntKind.wrap .u64 (IntKind.wrap .i64 (v5+v6))) (2 ^ 1))<(v1.length:Int)) then
   Option.bind (v3 ((List.getD v1 ((IntKind.wrap .i64 (Int.fdiv (IntKind.wrap .u64 (IntKind.wrap .i64 (v5+v6))) (2 ^ 1))).toNat) (0,(⟨#[]⟩:ByteArray))),v2,())) fun r7=>
   bif decide (r7.1<0) then
    L1 v1 v2 v3 v4 (IntKind.wrap .i64 ((IntKind.wrap .i64 (Int.fdiv (IntKind.wrap .u64 (IntKind.wrap .i64 (v5+v6))) (2 ^ 1)))+1)) v6
   else
    L1 v1 v2 v3 v4 v5 (IntKind.wrap .i64 (Int.fdiv (IntKind.wrap .u64 (IntKind.wrap .i64 (v5+v6))) (2 ^ 1)))
  else none
 else
 bif decide (v5<v4) then
  bif decide (0≤v5)&&decide (v5<(v1.length:Int)) then
   Option.bind (v3 ((List.getD v1 v5.toNat (0,(⟨#[]⟩:ByteArray))),v2,())) fun r8=>
   some ((v5,r8.1==0,()),())
  else none
 else
  some ((v5,false,()),())
noncomputable def Qmy (L1:Ql6) (x_0:List Qk2) (target_1:Int) (cmp_2:(Qk2 × Int × Unit→Option (Int × Unit))):Option Qk6:=
 L1 x_0 target_1 cmp_2 (x_0.length:Int) 0 (x_0.length:Int)
noncomputable def Qms (n:Nat):Nat→Ql6:=iter (fun _ _ _ _ _ _=>none) fun L=>Qmt L
noncomputable def Qkh (n m:Nat) (v1:List Qk2) (v2:Int) (v3:(Qk2 × Int × Unit→Option (Int × Unit))) (v4 v5 v6:Int):Option Qk6:=
 Qjl Ql9 tab (fiB [.val t52,.val t2,.fn [Qyo,t2] [t2]] Ql7) n [.val t52,.val t2,.fn [Qyo,t2] [t2]] [⟨t2,[false],none⟩,⟨t4,[false],none⟩] Tryz.f302 [1,1,1,0,0] [] [0,1,2,8,9,10] m
 ⟨[(0,Vp t52 v1),(1,Vp t2 v2),(2,V1 (.clo [Qyo,t2] [t2] v3)),(8,Vp t2 v4),(9,Vp t2 v5),(10,Vp t2 v6)],[]⟩
theorem Qs0 (n m:Nat):Qkh n (m+1)=Qmt (Qkh n m):=by kernel_rfl
theorem Qml (n:Nat):∀ m,Qkh n m=Qms n m
 | 0=>rfl
 | m+1=>by rw [Qs0 n m,Qml n m];rfl
noncomputable def Qmz (n:Nat) (x_0:List Qk2) (target_1:Int) (cmp_2:(Qk2 × Int × Unit→Option (Int × Unit))):Option Qk6:=Qmy (Qms n n) x_0 target_1 cmp_2
noncomputable def Qll (x_0:List Qk2) (target_1:Int) (cmp_2:(Qk2 × Int × Unit→Option (Int × Unit))):Option Qk6:=Qmz 1099511627776 x_0 target_1 cmp_2
noncomputable def Qlb:Ent:=⟨[.val t52,.val t2,.fn [Qyo,t2] [t2]],[⟨t2,[false],none⟩,⟨t4,[false],none⟩],fun x=>Qll x.1 x.2.1 x.2.2.1⟩
theorem Qtp (n:Nat) (x_0:List Qk2) (target_1:Int) (cmp_2:(Qk2 × Int × Unit→Option (Int × Unit))):Qdf Ql9 tab Ql7 n [.val t52,.val t2,.fn [Qyo,t2] [t2]] [⟨t2,[false],none⟩,⟨t4,[false],none⟩] Tryz.f302 (x_0,target_1,cmp_2,())=Qmz n x_0 target_1 cmp_2:=Eq.trans (b:=Qmy (Qkh n n) x_0 target_1 cmp_2) (by kernel_rfl) (by rw [Qml n n];rfl)
theorem Qmf:Q4j tab.ty Tryz.prog 302 Qlb:=
 Qjd (Γ:=Ql9) (fi:=Ql7) (n:=1099511627776) follows Qju Qjz Tryz.func302 (by kernel_rfl) (by kernel_rfl) fun x r h=>(Qtp 1099511627776 x.1 x.2.1 x.2.2.1).trans h
noncomputable def Zyo (i_0:Int × ByteArray) (seq_1:Int):Option ((Int × Unit) × Unit):=
 Option.bind (Qzh i_0.1 seq_1) fun r1=>
 some ((r1.1.1,()),())
noncomputable def Zsu:Ent:=⟨[.val Qyo,.val t2],[⟨t2,[false],none⟩],fun x=>Zyo x.1 x.2.1⟩
theorem Zxc:Q4j tab.ty Tryz.prog 303 Zsu:=
 Qjd (Γ:=[(128,Qur)]) (fi:={ keep:=[],vty:=[],vals:=[],live:=[(0,[1,2]),(1,[4])] }) (n:=1) follows (Qjq Qvv Qju) Qjz Tryz.func303 (by kernel_rfl) (by kernel_rfl) fun x r h=>Eq.trans (by kernel_rfl) h
noncomputable def Xav (l_0:List Qk2) (seq_1:Int):Option ((ByteArray × Bool × Unit) × Unit):=
 Option.bind (Qll l_0 seq_1 (fun x=>(Zyo x.1 x.2.1).bind fun r=>some (r.1.1,()))) fun r1=>
 bif !r1.1.2.1 then
  some (((⟨#[]⟩:ByteArray),false,()),())
 else
 bif decide (0≤r1.1.1)&&decide (r1.1.1<(l_0.length:Int)) then
  some (((List.getD l_0 r1.1.1.toNat (0,(⟨#[]⟩:ByteArray))).2,true,()),())
 else none
noncomputable def X6o:Ent:=⟨[.val t52,.val t2],[⟨t9,[false],none⟩,⟨t4,[false],none⟩],fun x=>Xav x.1 x.2.1⟩
theorem X7k:Q4j tab.ty Tryz.prog 269 X6o:=
 Qjd (Γ:=[(302,Qlb),(303,Zsu)]) (fi:={ keep:=[],vty:=[],vals:=[],live:=[(0,[0,1]),(1,[0,6,7]),(2,[0,6,15]),(3,[4,5]),(4,[4,5])] }) (n:=1) follows (Qjq Qmf (Qjq Zxc Qju)) Qjz Tryz.func269 (by kernel_rfl) (by kernel_rfl) fun x r h=>Eq.trans (by kernel_rfl) h
abbrev Qr5:Type:=(Qkg × Zng × Unit) × Unit
noncomputable def Zpm:Ctx:=[(269,X6o)]
def Zke:Fi:={ keep:=[],vty:=[(6,52),(7,183)],vals:=[],live:=[(0,[1,2,3,6,7,25,26,27,28,48,49,52,53,60,61,62,63,64,65,66,67,68]),(1,[1,2,3,6,7,14,25,26,27,28,48,49,52,53,60,61,62,63,64,65,66,67,68]),(2,[6,7]),(3,[1,2,3,6,7,25,26,27,28,48,49,52,53,60,61,62,63,64,65,66,67,68]),(4,[1,2,3,6,7,8,25,26,27,28,48,49,52,53,60,61,62,63,64,65,66,67,68]),(5,[1,2,3,6,7,8,25,26,27,28,29,48,49,52,53,60,61,62,63,64,65,66,67,68]),(6,[1,2,3,6,7,8,25,26,27,28,48,49,52,53,60,61,62,63,64,65,66,67,68]),(7,[1,2,3,6,7,8,9,10,25,26,27,28,48,49,52,53,60,61,62,63,64,65,66,67,68]),(8,[1,2,3,6,7,8,9,10,25,26,27,28,39,48,49,52,53,60,61,62,63,64,65,66,67,68]),(9,[1,2,3,6,7,8,10,25,26,27,28,48,49,52,53,60,61,62,63,64,65,66,67,68]),(10,[1,2,3,6,7,8,25,26,27,28,48,49,52,53,54,60,61,62,63,64,65,66,67,68]),(11,[1,2,3,6,7,8,11,25,26,27,28,48,49,52,53,60,61,62,63,64,65,66,67,68]),(12,[1,2,3,6,7,8,11,25,26,27,28,48,49,52,53,60,61,62,63,64,65,66,67,68,69]),(13,[1,2,3,6,7,8,25,26,27,28,48,49,52,53,60,61,62,63,64,65,66,67,68]),(14,[1,2,3,6,7,8,25,26,27,28,48,49,52,53,60,61,62,63,64,65,66,67,68]),(15,[6,7])] }
abbrev Z02:Type:=Int→Int→Int→Int→Int→Qkg→Qkg→Qpf→Int→Int→Qkg→Zng→Option Qr5
noncomputable def Zw9 (v12:List (Int × Int)) (L1:Z02) (v1 v2 v3 v4 v5:Int) (v6 v7:List Qk2) (v8:List Qkq) (v9 v10:Int) (v11:List Qk2) (r13:(ByteArray × Bool × Unit) × Unit):Option Qr5:=
 bif Nat.ble (v12.length+1) 1073741824 then
  L1 v1 v2 (IntKind.wrap .i64 (v3+1)) v4 v5 v6 v7 v8 v9 v10 (v11++[(v3,r13.1.1)]) (v12++[(v3,v3)])
 else none
noncomputable def Zws (v12:List (Int × Int)) (L1:Z02) (v1 v2 v3 v4 v5:Int) (v6 v7:List Qk2) (v8:List Qkq) (v9 v10:Int) (v11:List Qk2):Option Qr5:=
 bif Nat.ble (v12.length+1) 1073741824 then
  L1 v1 v2 (IntKind.wrap .i64 (v3+1)) v4 v5 v6 v7 v8 v9 v10 v11 (v12++[(v3,v3)])
 else none
noncomputable def Zwf (L1:Z02) (v1 v2 v3 v4 v5:Int) (v6 v7:List Qk2) (v8:List Qkq) (v9 v10:Int) (v11:List Qk2) (v12:List (Int × Int)):Option Qr5:=
 bif decide (v3≤v2) then
  bif decide (IntKind.wrap .i64 (v3 - v1)<8) then
   Option.bind (Xav v6 v3) fun r13=>
   bif r13.1.2.1 then
    bif Nat.ble (v11.length+1) 1073741824 then
     bif r13.1.2.1 then
      L1 v1 v2 (IntKind.wrap .i64 (v3+1)) v4 v5 v6 v7 v8 v9 v10 (v11++[(v3,r13.1.1)]) v12
     else
     bif decide (v3<1) then
      L1 v1 v2 (IntKind.wrap .i64 (v3+1)) v4 v5 v6 v7 v8 v9 v10 (v11++[(v3,r13.1.1)]) v12
     else
     bif decide (v3>1000000) then
      L1 v1 v2 (IntKind.wrap .i64 (v3+1)) v4 v5 v6 v7 v8 v9 v10 (v11++[(v3,r13.1.1)]) v12
     else
     bif decide ((v12.length:Int)>0) then
      bif decide (0≤IntKind.wrap .i64 ((v12.length:Int) - 1))&&decide (IntKind.wrap .i64 ((v12.length:Int) - 1)<(v12.length:Int)) then
       bif decide (0≤IntKind.wrap .i64 ((v12.length:Int) - 1))&&decide (IntKind.wrap .i64 ((v12.length:Int) - 1)<(v12.length:Int)) then
        bif ((List.getD v12 ((IntKind.wrap .i64 ((v12.length:Int) - 1)).toNat) (0,0)).2)==(IntKind.wrap .i64 (v3 - 1)) then
         bif decide (0≤IntKind.wrap .i64 ((v12.length:Int) - 1))&&decide (IntKind.wrap .i64 ((v12.length:Int) - 1)<(v12.length:Int)) then
          bif decide (0≤IntKind.wrap .i64 ((v12.length:Int) - 1))&&decide (IntKind.wrap .i64 ((v12.length:Int) - 1)<(v12.length:Int)) then
           L1 v1 v2 (IntKind.wrap .i64 (v3+1)) v4 v5 v6 v7 v8 v9 v10 (v11++[(v3,r13.1.1)]) (List.set v12 ((IntKind.wrap .i64 ((v12.length:Int) - 1)).toNat) ((List.getD v12 ((IntKind.wrap .i64 ((v12.length:Int) - 1)).toNat) (0,0)).1,v3))
          else none
         else none
        else
         Zw9 v12 L1 v1 v2 v3 v4 v5 v6 v7 v8 v9 v10 v11 r13
       else none
      else none
     else
      Zw9 v12 L1 v1 v2 v3 v4 v5 v6 v7 v8 v9 v10 v11 r13
    else none
   else
   bif r13.1.2.1 then
    L1 v1 v2 (IntKind.wrap .i64 (v3+1)) v4 v5 v6 v7 v8 v9 v10 v11 v12
   else
   bif decide (v3<1) then
    L1 v1 v2 (IntKind.wrap .i64 (v3+1)) v4 v5 v6 v7 v8 v9 v10 v11 v12
   else
   bif decide (v3>1000000) then
    L1 v1 v2 (IntKind.wrap .i64 (v3+1)) v4 v5 v6 v7 v8 v9 v10 v11 v12
   else
   bif decide ((v12.length:Int)>0) then
    bif decide (0≤IntKind.wrap .i64 ((v12.length:Int) - 1))&&decide (IntKind.wrap .i64 ((v12.length:Int) - 1)<(v12.length:Int)) then
     bif decide (0≤IntKind.wrap .i64 ((v12.length:Int) - 1))&&decide (IntKind.wrap .i64 ((v12.length:Int) - 1)<(v12.length:Int)) then
      bif ((List.getD v12 ((IntKind.wrap .i64 ((v12.length:Int) - 1)).toNat) (0,0)).2)==(IntKind.wrap .i64 (v3 - 1)) then
       bif decide (0≤IntKind.wrap .i64 ((v12.length:Int) - 1))&&decide (IntKind.wrap .i64 ((v12.length:Int) - 1)<(v12.length:Int)) then
        bif decide (0≤IntKind.wrap .i64 ((v12.length:Int) - 1))&&decide (IntKind.wrap .i64 ((v12.length:Int) - 1)<(v12.length:Int)) then
         L1 v1 v2 (IntKind.wrap .i64 (v3+1)) v4 v5 v6 v7 v8 v9 v10 v11 (List.set v12 ((IntKind.wrap .i64 ((v12.length:Int) - 1)).toNat) ((List.getD v12 ((IntKind.wrap .i64 ((v12.length:Int) - 1)).toNat) (0,0)).1,v3))
        else none
       else none
      else
       Zws v12 L1 v1 v2 v3 v4 v5 v6 v7 v8 v9 v10 v11
     else none
    else none
   else
    Zws v12 L1 v1 v2 v3 v4 v5 v6 v7 v8 v9 v10 v11
  else
   some ((v11,v12,()),())
 else
  some ((v11,v12,()),())
noncomputable def Zyq (L1:Z02) (f_0:Int × Int × Qkg × Qkg × Qpf × Int × Int) (lo_1 hi_2:Int):Option Qr5:=
 bif decide (f_0.1<1) then
  some (([],[],()),())
 else
  L1 lo_1 (if IntKind.wrap .i64 (f_0.1 - 1)<hi_2 then IntKind.wrap .i64 (f_0.1 - 1) else hi_2) lo_1 f_0.1 f_0.2.1 f_0.2.2.1 (g3 f_0) (g4 f_0) (g5 f_0) (h6 f_0) [] []
noncomputable def Zuh (n:Nat):Nat→Z02:=iter (fun _ _ _ _ _ _ _ _ _ _ _ _=>none) fun L=>Zwf L
noncomputable def Z96 (n m:Nat) (v1 v2 v3 v4 v5:Int) (v6 v7:List Qk2) (v8:List Qkq) (v9 v10:Int) (v11:List Qk2) (v12:List (Int × Int)):Option Qr5:=
 Qjl Zpm tab (fiB [.val t56,.val t2,.val t2] Zke) n [.val t56,.val t2,.val t2] [⟨t52,[true],none⟩,⟨X20,[true],none⟩] Tryz.f235 [1,1,1,0,1,0] [] [1,2,3,6,7,8] m
 ⟨[(1,Vp t2 v1),(2,Vp t2 v2),(3,V1 (.ptr (3,0) 0)),(6,V1 (.ref (888888,6))),(7,V1 (.ref (888888,7))),(8,Vp t2 v3)],[((3,0),Ob.box 57 [LV.pure t2 v4,LV.pure t2 v5,LV.pure t52 v6,LV.pure t52 v7,LV.pure t53 v8,LV.pure t2 v9,LV.pure t2 v10]),((888888,6),Ob.row 142 Qyo v11),((888888,7),Ob.row 134 t54 v12)]⟩
theorem X0g (n m:Nat):Z96 n (m+1)=Zwf (Z96 n m):=by kernel_rfl
theorem Zs6 (n:Nat):∀ m,Z96 n m=Zuh n m
 | 0=>rfl
 | m+1=>by rw [X0g n m,Zs6 n m];rfl
noncomputable def X0d (n:Nat) (f_0:Int × Int × Qkg × Qkg × Qpf × Int × Int) (lo_1 hi_2:Int):Option Qr5:=Zyq (Zuh n n) f_0 lo_1 hi_2
noncomputable def X63 (f_0:Int × Int × Qkg × Qkg × Qpf × Int × Int) (lo_1 hi_2:Int):Option Qr5:=X0d 1099511627776 f_0 lo_1 hi_2
noncomputable def Zzg:Ent:=⟨[.val t56,.val t2,.val t2],[⟨t52,[true],none⟩,⟨X20,[true],none⟩],fun x=>X63 x.1 x.2.1 x.2.2.1⟩
theorem X6s (n:Nat) (f_0:Int × Int × Qkg × Qkg × Qpf × Int × Int) (lo_1 hi_2:Int):Qdf Zpm tab Zke n [.val t56,.val t2,.val t2] [⟨t52,[true],none⟩,⟨X20,[true],none⟩] Tryz.f235 (f_0,lo_1,hi_2,())=X0d n f_0 lo_1 hi_2:=Eq.trans (b:=Zyq (Z96 n n) f_0 lo_1 hi_2) (by kernel_rfl) (by rw [Zs6 n n];rfl)
theorem X1j:Q4j tab.ty Tryz.prog 235 Zzg:=
 Qjd (Γ:=Zpm) (fi:=Zke) (n:=1099511627776) follows (Qjq X7k Qju) Qjz Tryz.func235 (by kernel_rfl) (by kernel_rfl) fun x r h=>(X6s 1099511627776 x.1 x.2.1 x.2.2.1).trans h
abbrev Qo2:Type:=(Qtq × Unit) × Unit
noncomputable def Z93:Ctx:=[(49,Z2l),(179,Zf3),(235,Zzg)]
def Z3m:Fi:={ keep:=[],vty:=[(4,70)],vals:=[],live:=[(0,[2,3,4,25,26,27,28,29]),(1,[2,3,4,5,6,25,26,27,28,29]),(2,[2,3,4,30]),(3,[4]),(4,[2,3,4,7,8]),(5,[2,3,4,8,41,42,43]),(6,[2,3,4,8,41,42,43,44]),(7,[2,3,4,8,10,41,42,43]),(8,[2,3,4,8,41,42,43]),(9,[2,3,4,8,41,42,43]),(10,[2,3,4,59,60,61]),(11,[2,3,4,59,60,61,62]),(12,[2,3,4,12,59,60,61]),(13,[2,3,4,59,60,61]),(14,[2,3,4,59,60,61]),(15,[4])] }
abbrev Zfw:Type:=Int→Int→Bool→Int→ByteArray→Int→Int→Int→Int→Int→Int→List Int→Int→Int→Int→Int→Int→Zjb→Int→Int→Qkg→Qkg→Qpf→Int→Int→Int→Int→Int→Int→Int→Int→Int→List Int→Int→Int→ByteArray→Qtq→Zng→Qkg→Option Qo2
abbrev Zg5:Type:=Int→Int→Bool→Int→ByteArray→Int→Int→Int→Int→Int→Int→List Int→Int→Int→Int→Int→Int→Zjb→Int→Int→Qkg→Qkg→Qpf→Int→Int→Int→Int→Int→Int→Int→Int→Int→List Int→Int→Int→ByteArray→Qtq→Zng→Option Qo2
noncomputable def Zs4 (L1:Zfw) (L2:Zg5) (v3 v4:Int) (v5:Bool) (v6:Int) (v7:ByteArray) (v8 v9 v10 v11 v12 v13:Int) (v14:List Int) (v15 v16 v17 v18 v19:Int) (v20:List Qkm) (v21 v22:Int) (v23 v24:List Qk2) (v25:List Qkq) (v26 v27 v28 v29 v30 v31 v32 v33 v34:Int) (v35:List Int) (v36 v37:Int) (v38:ByteArray) (v39:List Qko) (v40:List (Int × Int)) (v41:List Qk2):Option Qo2:=
 bif decide (v4<v3) then
  bif decide (0≤v4)&&decide (v4<(v41.length:Int)) then
   bif decide (0≤v4)&&decide (v4<(v41.length:Int)) then
    Option.bind (Z9a (v5,v6,v7,(v8,v9,v10,v11,v12,v13,v14,v15,v16,v17,v18,v19,v20),(v21,v22,v23,v24,v25,v26,v27),v28) 7 v30 ((List.getD v41 v4.toNat (0,(⟨#[]⟩:ByteArray))).1) 0 ((List.getD v41 v4.toNat (0,(⟨#[]⟩:ByteArray))).2)) fun r42=>
    bif Nat.ble (v39.length+1) 1073741824 then
     L1 v3 (IntKind.wrap .i64 (v4+1)) v5 v6 v7 v8 v9 v10 v11 v12 v13 v14 v15 v16 v17 v18 v19 v20 v21 v22 v23 v24 v25 v26 v27 v28 v29 v30 v31 v32 v33 v34 v35 v36 v37 v38 (v39++[r42.1.1]) v40 v41
    else none
   else none
  else none
 else
  L2 (v40.length:Int) 0 v5 v6 v7 v8 v9 v10 v11 v12 v13 v14 v15 v16 v17 v18 v19 v20 v21 v22 v23 v24 v25 v26 v27 v28 v29 v30 v31 v32 v33 v34 v35 v36 v37 v38 v39 v40
noncomputable def Zsm (L2:Zg5) (v43 v44:Int) (v45:Bool) (v46:Int) (v47:ByteArray) (v48 v49 v50 v51 v52 v53:Int) (v54:List Int) (v55 v56 v57 v58 v59:Int) (v60:List Qkm) (v61 v62:Int) (v63 v64:List Qk2) (v65:List Qkq) (v66 v67 v68 v69 v70 v71 v72 v73 v74:Int) (v75:List Int) (v76 v77:Int) (v78:ByteArray) (v79:List Qko) (v80:List (Int × Int)):Option Qo2:=
 bif decide (v44<v43) then
  bif decide (0≤v44)&&decide (v44<(v80.length:Int)) then
   bif decide (0≤v44)&&decide (v44<(v80.length:Int)) then
    Option.bind (Z9a (v45,v46,v47,(v48,v49,v50,v51,v52,v53,v54,v55,v56,v57,v58,v59,v60),(v61,v62,v63,v64,v65,v66,v67),v68) 9 v70 ((List.getD v80 v44.toNat (0,0)).1) ((List.getD v80 v44.toNat (0,0)).2) (⟨#[]⟩:ByteArray)) fun r81=>
    bif Nat.ble (v79.length+1) 1073741824 then
     L2 v43 (IntKind.wrap .i64 (v44+1)) v45 v46 v47 v48 v49 v50 v51 v52 v53 v54 v55 v56 v57 v58 v59 v60 v61 v62 v63 v64 v65 v66 v67 v68 v69 v70 v71 v72 v73 v74 v75 v76 v77 v78 (v79++[r81.1.1]) v80
    else none
   else none
  else none
 else
  some ((v79,()),())
noncomputable def Zut (L1:Zfw) (n_0:Bool × Int × ByteArray × Qli × Qnc × Int) (m_1:Int × Int × Int × Int × Int × Int × (List Int) × Int × Int × ByteArray):Option Qo2:=
 Option.bind (Z9g (h12 (g3 n_0)) m_1.2.1) fun r1=>
 bif !r1.1.2.1 then
  some (([],()),())
 else
 bif r1.1.1.2.1 != (g3 m_1) then
  some (([],()),())
 else
  Option.bind (X63 (g4 n_0) (g7 m_1) (g8 m_1)) fun r2=>
  L1 (r2.1.1.length:Int) 0 n_0.1 n_0.2.1 n_0.2.2.1 (g3 n_0).1 (g3 n_0).2.1 (g3 n_0).2.2.1 (g3 (g3 n_0)) (g4 (g3 n_0)) (g5 (g3 n_0)) (g6 (g3 n_0)) (g7 (g3 n_0)) (g8 (g3 n_0)) (g9 (g3 n_0)) (g10 (g3 n_0)) (g11 (g3 n_0)) (h12 (g3 n_0)) (g4 n_0).1 (g4 n_0).2.1 (g4 n_0).2.2.1 (g3 (g4 n_0)) (g4 (g4 n_0)) (g5 (g4 n_0)) (h6 (g4 n_0)) (h5 n_0) m_1.1 m_1.2.1 m_1.2.2.1 (g3 m_1) (g4 m_1) (g5 m_1) (g6 m_1) (g7 m_1) (g8 m_1) (h9 m_1) [] r2.1.2.1 r2.1.1
noncomputable def Zs0 (n:Nat):Nat→Zg5:=iter (fun _ _ _ _ _ _ _ _ _ _ _ _ _ _ _ _ _ _ _ _ _ _ _ _ _ _ _ _ _ _ _ _ _ _ _ _ _ _=>none) fun L=>Zsm L
noncomputable def Zsk (n:Nat):Nat→Zfw:=iter (fun _ _ _ _ _ _ _ _ _ _ _ _ _ _ _ _ _ _ _ _ _ _ _ _ _ _ _ _ _ _ _ _ _ _ _ _ _ _ _=>none) fun L=>Zs4 L (Zs0 n n)
noncomputable def Z3l (n m:Nat) (v3 v4:Int) (v5:Bool) (v6:Int) (v7:ByteArray) (v8 v9 v10 v11 v12 v13:Int) (v14:List Int) (v15 v16 v17 v18 v19:Int) (v20:List Qkm) (v21 v22:Int) (v23 v24:List Qk2) (v25:List Qkq) (v26 v27 v28 v29 v30 v31 v32 v33 v34:Int) (v35:List Int) (v36 v37:Int) (v38:ByteArray) (v39:List Qko) (v40:List (Int × Int)) (v41:List Qk2):Option Qo2:=
 Qjl Z93 tab (fiB [.val t58,.val Qsi] Z3m) n [.val t58,.val Qsi] [⟨t70,[true],none⟩] Tryz.f184 [1,1,1,1,0,1,0] [] [2,3,4,8,41,42,43] m
 ⟨[(2,V1 (.ptr (2,0) 0)),(3,V1 (.ptr (3,0) 0)),(4,V1 (.ref (888888,4))),(8,V1 (.ref (888888,8))),(41,V1 (.ref (888888,41))),(42,Vp t2 v3),(43,Vp t2 v4)],[((2,0),Ob.box 59 [LV.pure t4 v5,LV.pure t2 v6,LV.pure t9 v7,LV.pure t2 v8,LV.pure t2 v9,LV.pure t2 v10,LV.pure t2 v11,LV.pure t2 v12,LV.pure t2 v13,LV.pure t44 v14,LV.pure t2 v15,LV.pure t2 v16,LV.pure t2 v17,LV.pure t2 v18,LV.pure t2 v19,LV.pure t49 v20,LV.pure t2 v21,LV.pure t2 v22,LV.pure t52 v23,LV.pure t52 v24,LV.pure t53 v25,LV.pure t2 v26,LV.pure t2 v27,LV.pure t2 v28]),((3,0),Ob.box 105 [LV.pure t2 v29,LV.pure t2 v30,LV.pure t2 v31,LV.pure t2 v32,LV.pure t2 v33,LV.pure t2 v34,LV.pure t44 v35,LV.pure t2 v36,LV.pure t2 v37,LV.pure t9 v38]),((888888,4),Ob.row 105 Qsi v39),((888888,8),Ob.row 134 t54 v40),((888888,41),Ob.row 142 Qyo v41)]⟩
noncomputable def Z3i (n m:Nat) (v43 v44:Int) (v45:Bool) (v46:Int) (v47:ByteArray) (v48 v49 v50 v51 v52 v53:Int) (v54:List Int) (v55 v56 v57 v58 v59:Int) (v60:List Qkm) (v61 v62:Int) (v63 v64:List Qk2) (v65:List Qkq) (v66 v67 v68 v69 v70 v71 v72 v73 v74:Int) (v75:List Int) (v76 v77:Int) (v78:ByteArray) (v79:List Qko) (v80:List (Int × Int)):Option Qo2:=
 Qjl Z93 tab (fiB [.val t58,.val Qsi] Z3m) n [.val t58,.val Qsi] [⟨t70,[true],none⟩] Tryz.f184 [1,1,1,1,1,0,1,0] [] [2,3,4,59,60,61] m
 ⟨[(2,V1 (.ptr (2,0) 0)),(3,V1 (.ptr (3,0) 0)),(4,V1 (.ref (888888,4))),(59,V1 (.ref (888888,59))),(60,Vp t2 v43),(61,Vp t2 v44)],[((2,0),Ob.box 59 [LV.pure t4 v45,LV.pure t2 v46,LV.pure t9 v47,LV.pure t2 v48,LV.pure t2 v49,LV.pure t2 v50,LV.pure t2 v51,LV.pure t2 v52,LV.pure t2 v53,LV.pure t44 v54,LV.pure t2 v55,LV.pure t2 v56,LV.pure t2 v57,LV.pure t2 v58,LV.pure t2 v59,LV.pure t49 v60,LV.pure t2 v61,LV.pure t2 v62,LV.pure t52 v63,LV.pure t52 v64,LV.pure t53 v65,LV.pure t2 v66,LV.pure t2 v67,LV.pure t2 v68]),((3,0),Ob.box 105 [LV.pure t2 v69,LV.pure t2 v70,LV.pure t2 v71,LV.pure t2 v72,LV.pure t2 v73,LV.pure t2 v74,LV.pure t44 v75,LV.pure t2 v76,LV.pure t2 v77,LV.pure t9 v78]),((888888,4),Ob.row 105 Qsi v79),((888888,59),Ob.row 134 t54 v80)]⟩
theorem Zx2 (n m:Nat):Z3l n (m+1)=Zs4 (Z3l n m) (Z3i n n):=by kernel_rfl
theorem Zxv (n m:Nat):Z3i n (m+1)=Zsm (Z3i n m):=by kernel_rfl
theorem Zo6 (n:Nat):∀ m,Z3i n m=Zs0 n m
 | 0=>rfl
 | m+1=>by rw [Zxv n m,Zo6 n m];rfl
theorem Zq5 (n:Nat):∀ m,Z3l n m=Zsk n m
 | 0=>rfl
 | m+1=>by rw [Zx2 n m,Zo6 n n,Zq5 n m];rfl
noncomputable def Zuj (n:Nat) (n_0:Bool × Int × ByteArray × Qli × Qnc × Int) (m_1:Int × Int × Int × Int × Int × Int × (List Int) × Int × Int × ByteArray):Option Qo2:=Zut (Zsk n n) n_0 m_1
noncomputable def X1h (n_0:Bool × Int × ByteArray × Qli × Qnc × Int) (m_1:Int × Int × Int × Int × Int × Int × (List Int) × Int × Int × ByteArray):Option Qo2:=Zuj 1099511627776 n_0 m_1
noncomputable def Zvf:Ent:=⟨[.val t58,.val Qsi],[⟨t70,[true],none⟩],fun x=>X1h x.1 x.2.1⟩
theorem X52 (n:Nat) (n_0:Bool × Int × ByteArray × Qli × Qnc × Int) (m_1:Int × Int × Int × Int × Int × Int × (List Int) × Int × Int × ByteArray):Qdf Z93 tab Z3m n [.val t58,.val Qsi] [⟨t70,[true],none⟩] Tryz.f184 (n_0,m_1,())=Zuj n n_0 m_1:=Eq.trans (b:=Zut (Z3l n n) n_0 m_1) (by kernel_rfl) (by rw [Zq5 n n];rfl)
theorem X0p:Q4j tab.ty Tryz.prog 184 Zvf:=
 Qjd (Γ:=Z93) (fi:=Z3m) (n:=1099511627776) follows (Qjq Qw7 (Qjq Zc8 (Qjq X1j Qju))) Qjz Tryz.func184 (by kernel_rfl) (by kernel_rfl) fun x r h=>(X52 1099511627776 x.1 x.2.1).trans h
noncomputable def Z2n (f_0:Int × Int × Qkg × Qkg × Qpf × Int × Int) (top_1:Int):Option ((Qnc × Unit) × Unit):=
 Option.bind (Qov f_0) fun r1=>
 bif decide (r1.1.1.1>0) then
  bif decide (top_1≤1000000) then
   some (((u1 r1.1.1 (if top_1>r1.1.1.2.1 then top_1 else r1.1.1.2.1)),()),())
  else
   some ((r1.1.1,()),())
 else
  some ((r1.1.1,()),())
noncomputable def Z4h:Ent:=⟨[.val t56,.val t2],[⟨t56,[false,false,true,true,true,false,false],none⟩],fun x=>Z2n x.1 x.2.1⟩
theorem Qyq:Q4j tab.ty Tryz.prog 236 Z4h:=
 Qjd (Γ:=[(212,Qx0)]) (fi:={ keep:=[],vty:=[],vals:=[],live:=[(0,[1,2,4,11,12]),(1,[1,2,4,11,12]),(2,[1,2,4,13]),(3,[2,4]),(4,[4])] }) (n:=1) follows (Qjq Qso Qju) Qjz Tryz.func236 (by kernel_rfl) (by kernel_rfl) fun x r h=>Eq.trans (by kernel_rfl) h
noncomputable def X5f (f_0:Int × Int × Qkg × Qkg × Qpf × Int × Int) (next_1:Int):Option ((Qnc × Unit) × Unit):=
 bif decide (f_0.1>0) then
  Option.bind (Z2n f_0 (IntKind.wrap .i64 (next_1 - 1))) fun r1=>
  some ((r1.1.1,()),())
 else
  Option.bind (Qov f_0) fun r2=>
  bif decide (next_1 ≥ 1) then
   bif decide (next_1≤1000000) then
    some (((next_1,r2.1.1.2),()),())
   else
    some ((r2.1.1,()),())
  else
   some ((r2.1.1,()),())
noncomputable def Zz9:Ent:=⟨[.val t56,.val t2],[⟨t56,[false,false,true,true,true,false,false],none⟩],fun x=>X5f x.1 x.2.1⟩
theorem X2j:Q4j tab.ty Tryz.prog 237 Zz9:=
 Qjd (Γ:=[(212,Qx0),(236,Z4h)]) (fi:={ keep:=[],vty:=[],vals:=[],live:=[(0,[1,2,4,17,18]),(1,[1,2,4,7,17,18]),(2,[4]),(3,[1,2,4,17,18]),(4,[1,2,4,19]),(5,[2,4]),(6,[4])] }) (n:=1) follows (Qjq Qso (Qjq Qyq Qju)) Qjz Tryz.func237 (by kernel_rfl) (by kernel_rfl) fun x r h=>Eq.trans (by kernel_rfl) h
end Go.PE
