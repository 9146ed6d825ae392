/-
  Functions of the program, each as the evaluator answers it, and its contract.
  Conditions: none.
-/
import Derived.Test.YtaoeefmiogchdaaGreatDoorQuietFormsT
import Derived.WalkKit
import Derived.BigCall
import Derived.Lib.OthersKept
set_option linter.unusedVariables false
set_option maxRecDepth 100000
namespace Go.PE
open Go.Proofs
noncomputable def X2q (l_0:List Int):Option ((Qq3 × Unit) × Unit):=
 some (((l_0,0),()),())
noncomputable def Qqo:Ent:=⟨[.val t66],[⟨t67,[false,false],some 68⟩],fun x=>X2q x.1⟩
theorem Qqg:Q4j tab.ty Tryz.prog 6 Qqo:=
 Qjd (Γ:=[]) (fi:={ keep:=[],vty:=[],vals:=[],live:=[(0,[0]),(1,[2])] }) (n:=1) follows Qju Qjz Tryz.func6 (by kernel_rfl) (by kernel_rfl) fun x r h=>Eq.trans (by kernel_rfl) h
noncomputable def Zqm (p_0:(List Int) × Int) (m_1:Int):Option ((Int × Unit) × (Qq3 × Unit)):=
 bif decide (p_0.2 ≥ (p_0.1.length:Int)) then
  some ((0,()),(p_0,()))
 else
 bif decide (m_1<1) then
  some ((0,()),(p_0,()))
 else
 bif decide (0≤IntKind.wrap .i64 ((IntKind.wrap .i64 (p_0.2+1)) - 1))&&decide (IntKind.wrap .i64 ((IntKind.wrap .i64 (p_0.2+1)) - 1)<(p_0.1.length:Int)) then
  bif !(m_1==0) then
   some ((Int.tmod (IntKind.wrap .i64 (List.getD p_0.1 ((IntKind.wrap .i64 ((IntKind.wrap .i64 (p_0.2+1)) - 1)).toNat) 0)) m_1,()),((p_0.1,IntKind.wrap .i64 (p_0.2+1)),()))
  else none
 else none
noncomputable def Z23:Ent:=⟨[.box 68 t67 [false,false],.val t2],[⟨t2,[false],none⟩],fun x=>Zqm x.1 x.2.1⟩
theorem Zfy:Q4j tab.ty Tryz.prog 18 Z23:=
 Qjd (Γ:=[]) (fi:={ keep:=[],vty:=[],vals:=[],live:=[(0,[0,1,16,17]),(1,[0,1,18]),(2,[0,4]),(3,[0,1]),(4,[0,4])] }) (n:=1) follows Qju Qjz Tryz.func18 (by kernel_rfl) (by kernel_rfl) fun x r h=>Eq.trans (by kernel_rfl) h
noncomputable def Z01:Ctx:=[(18,Z23)]
def Qya:Fi:={ keep:=[],vty:=[(2,26),(3,26),(12,26),(30,26),(35,26),(44,26)],vals:=[(3,999)],live:=[(0,[0]),(1,[0,3]),(2,[0,3,4]),(3,[0,3,4,9]),(4,[0,3,4]),(5,[0,3,4]),(6,[0,3,5]),(7,[0,3,5,17]),(8,[0,3,5]),(9,[0,3,5,6]),(10,[0,3,5,6,22]),(11,[0,3,5,6]),(12,[0,3,5,6,7]),(13,[0,3,5,6]),(14,[0,2])],melt:=[(14,3)] }
noncomputable def Zk4 (x:PDs [.box 68 t67 [false,false]]):Option (RDs [⟨t26,[true],none⟩] × ODs [.box 68 t67 [false,false]]):=Qdf Z01 tab Qya 40 [.box 68 t67 [false,false]] [⟨t26,[true],none⟩] Tryz.f7 x
noncomputable def Quj (x0:(List Int) × Int):Option ((Qp3 × Unit) × (Qq3 × Unit)):=Zk4 (x0,())
noncomputable def Qs1:Ent:=⟨[.box 68 t67 [false,false]],[⟨t26,[true],none⟩],fun x=>Quj x.1⟩
theorem Qp6:Q4j tab.ty Tryz.prog 7 Qs1:=by
  refine Qjd (Γ:=Z01) (fi:=Qya) (n:=40) follows (Qjq Zfy Qju) Qjz Tryz.func7 (by kernel_rfl) (by kernel_rfl) (fun x r h=>?_)
  obtain ⟨x0,_u⟩:=x
  exact h
abbrev Qkb:Type:=(Bool × Unit) × Unit
noncomputable def Qnp:Ctx:=[]
def Qmw:Fi:={ keep:=[],vty:=[],vals:=[],live:=[(0,[0,42,43,44,45,46,47,48,49,52,53,54,55,56,57,58,59,60,61,62,63,64,65,66,69,70,71,72,73,74,75,76,77,78,79,80,81]),(1,[0,8,42,43,44,45,46,47,48,49,52,53,54,55,56,57,58,59,60,61,62,63,64,65,66,69,70,71,72,73,74,75,76,77,78,79,80,81]),(2,[2]),(3,[0,3,42,43,44,45,46,47,48,49,52,53,54,55,56,57,58,59,60,61,62,63,64,65,66,69,70,71,72,73,74,75,76,77,78,79,80,81]),(4,[0,3,12,42,43,44,45,46,47,48,49,52,53,54,55,56,57,58,59,60,61,62,63,64,65,66,69,70,71,72,73,74,75,76,77,78,79,80,81]),(5,[0,3,42,43,44,45,46,47,48,49,52,53,54,55,56,57,58,59,60,61,62,63,64,65,66,69,70,71,72,73,74,75,76,77,78,79,80,81]),(6,[0,3,20,42,43,44,45,46,47,48,49,52,53,54,55,56,57,58,59,60,61,62,63,64,65,66,69,70,71,72,73,74,75,76,77,78,79,80,81]),(7,[2]),(8,[0,4,42,43,44,45,46,47,48,49,52,53,54,55,56,57,58,59,60,61,62,63,64,65,66,69,70,71,72,73,74,75,76,77,78,79,80,81]),(9,[0,4,24,42,43,44,45,46,47,48,49,52,53,54,55,56,57,58,59,60,61,62,63,64,65,66,69,70,71,72,73,74,75,76,77,78,79,80,81]),(10,[0,4,42,43,44,45,46,47,48,49,52,53,54,55,56,57,58,59,60,61,62,63,64,65,66,69,70,71,72,73,74,75,76,77,78,79,80,81]),(11,[0,4,5,42,43,44,45,46,47,48,49,52,53,54,55,56,57,58,59,60,61,62,63,64,65,66,69,70,71,72,73,74,75,76,77,78,79,80,81]),(12,[0,4,5,30,42,43,44,45,46,47,48,49,52,53,54,55,56,57,58,59,60,61,62,63,64,65,66,69,70,71,72,73,74,75,76,77,78,79,80,81]),(13,[0,4,5,42,43,44,45,46,47,48,49,52,53,54,55,56,57,58,59,60,61,62,63,64,65,66,69,70,71,72,73,74,75,76,77,78,79,80,81]),(14,[0,4,5,42,43,44,45,46,47,48,49,52,53,54,55,56,57,58,59,60,61,62,63,64,65,66,69,70,71,72,73,74,75,76,77,78,79,80,81,82]),(15,[2]),(16,[2])] }
abbrev Qlz:Type:=List (List Int)→Int→Option Qkb
abbrev Qtu:Type:=List (List Int)→Int→Int→Option Qkb
noncomputable def Z5b (L1 L2:Qlz) (v1:List (List Int)) (v2:Int):Option Qkb:=
 bif decide (v2<(v1.length:Int)) then
  bif decide (0≤v2)&&decide (v2<(v1.length:Int)) then
   bif ((List.getD v1 v2.toNat []).length:Int) != 8 then
    some ((false,()),())
   else
    L1 v1 (IntKind.wrap .i64 (v2+1))
  else none
 else
  L2 v1 0
noncomputable def Z4k (L3:Qtu) (v3:List (List Int)) (v4:Int):Option Qkb:=
 bif decide (v4<(v3.length:Int)) then
  L3 v3 v4 0
 else
  some ((true,()),())
noncomputable def Z5j (L3:Qtu) (L2:Qlz) (v5:List (List Int)) (v6 v7:Int):Option Qkb:=
 bif decide (v7<(v5.length:Int)) then
  bif decide (0≤v6)&&decide (v6<(v5.length:Int)) then
   bif decide (0≤v7)&&decide (v7<((List.getD v5 v6.toNat []).length:Int)) then
    bif decide (List.getD (List.getD v5 v6.toNat []) v7.toNat 0<0) then
     some ((false,()),())
    else
    bif decide (0≤v6)&&decide (v6<(v5.length:Int)) then
     bif decide (0≤v7)&&decide (v7<((List.getD v5 v6.toNat []).length:Int)) then
      bif decide (List.getD (List.getD v5 v6.toNat []) v7.toNat 0>1000) then
       some ((false,()),())
      else
      bif decide (0≤v6)&&decide (v6<(v5.length:Int)) then
       bif decide (0≤v7)&&decide (v7<((List.getD v5 v6.toNat []).length:Int)) then
        bif decide (0≤v7)&&decide (v7<(v5.length:Int)) then
         bif decide (0≤v6)&&decide (v6<((List.getD v5 v7.toNat []).length:Int)) then
          bif (List.getD (List.getD v5 v6.toNat []) v7.toNat 0) != (List.getD (List.getD v5 v7.toNat []) v6.toNat 0) then
           some ((false,()),())
          else
          bif v6==v7 then
           bif decide (0≤v6)&&decide (v6<(v5.length:Int)) then
            bif decide (0≤v7)&&decide (v7<((List.getD v5 v6.toNat []).length:Int)) then
            bif (List.getD (List.getD v5 v6.toNat []) v7.toNat 0) != 0 then
            some ((false,()),())
            else
            L3 v5 v6 (IntKind.wrap .i64 (v7+1))
            else none
           else none
          else
           L3 v5 v6 (IntKind.wrap .i64 (v7+1))
         else none
        else none
       else none
      else none
     else none
    else none
   else none
  else none
 else
  L2 v5 (IntKind.wrap .i64 (v6+1))
noncomputable def Z71 (L1:Qlz) (d_0:List (List Int)):Option Qkb:=
 bif (d_0.length:Int) != 8 then
  some ((false,()),())
 else
  L1 d_0 0
noncomputable def Z50 (n:Nat) (m2:Nat) (r2:Qlz):Nat→Qtu:=iter (fun _ _ _=>none) fun L=>Z5j L r2
noncomputable def Z54 (n:Nat):Nat→Qlz:=Qj7 (fun _ _=>none) fun m L=>Z4k (Z50 n m L n)
noncomputable def Z5q (n:Nat):Nat→Qlz:=iter (fun _ _=>none) fun L=>Z5b L (Z54 n n)
noncomputable def Qpq (n m:Nat) (v1:List (List Int)) (v2:Int):Option Qkb:=
 Qjl Qnp tab (fiB [.val t26] Qmw) n [.val t26] [⟨t4,[false],none⟩] Tryz.f31 [1,1,0,1,0] [] [0,3] m
 ⟨[(0,Vp t26 v1),(3,Vp t2 v2)],[]⟩
noncomputable def Qn0 (n m:Nat) (v3:List (List Int)) (v4:Int):Option Qkb:=
 Qjl Qnp tab (fiB [.val t26] Qmw) n [.val t26] [⟨t4,[false],none⟩] Tryz.f31 [1,1,1,0,1,0] [] [0,4] m
 ⟨[(0,Vp t26 v3),(4,Vp t2 v4)],[]⟩
noncomputable def Qps (n m2 m:Nat) (v5:List (List Int)) (v6 v7:Int):Option Qkb:=
 Qjl Qnp tab (fiB [.val t26] Qmw) n [.val t26] [⟨t4,[false],none⟩] Tryz.f31 [1,1,1,0,1,0,0,1,0,0,1,0] [(m2,[0,4])] [0,4,5] m
 ⟨[(0,Vp t26 v5),(4,Vp t2 v6),(5,Vp t2 v7)],[]⟩
theorem Zie (n m:Nat):Qpq n (m+1)=Z5b (Qpq n m) (Qn0 n n):=by kernel_rfl
theorem Zh4 (n m:Nat):Qn0 n (m+1)=Z4k (Qps n m n):=by kernel_rfl
theorem Zh0 (n m2 m:Nat):Qps n m2 (m+1)=Z5j (Qps n m2 m) (Qn0 n m2):=by kernel_rfl
theorem Z28 (n m2:Nat):∀ m,Qps n m2 m=Z50 n m2 (Qn0 n m2) m
 | 0=>rfl
 | m+1=>by rw [Zh0 n m2 m,Z28 n m2 m];rfl
theorem Z1u (n:Nat):∀ m,Qn0 n m=Z54 n m
 | 0=>rfl
 | m+1=>by rw [Zh4 n m,Z28 n m n,Z1u n m];rfl
theorem Z1z (n:Nat):∀ m,Qpq n m=Z5q n m
 | 0=>rfl
 | m+1=>by rw [Zie n m,Z1u n n,Z1z n m];rfl
noncomputable def Z8f (n:Nat) (d_0:List (List Int)):Option Qkb:=Z71 (Z5q n n) d_0
noncomputable def Qys (d_0:List (List Int)):Option Qkb:=Z8f 1099511627776 d_0
noncomputable def Qqh:Ent:=⟨[.val t26],[⟨t4,[false],none⟩],fun x=>Qys x.1⟩
theorem Zok (n:Nat) (d_0:List (List Int)):Qdf Qnp tab Qmw n [.val t26] [⟨t4,[false],none⟩] Tryz.f31 (d_0,())=Z8f n d_0:=Eq.trans (b:=Z71 (Qpq n n) d_0) (by kernel_rfl) (by rw [Z1z n n];rfl)
theorem Qr6:Q4j tab.ty Tryz.prog 31 Qqh:=
 Qjd (Γ:=Qnp) (fi:=Qmw) (n:=1099511627776) follows Qju Qjz Tryz.func31 (by kernel_rfl) (by kernel_rfl) fun x r h=>(Zok 1099511627776 x.1).trans h
noncomputable def Zlm:Ctx:=[(31,Qqh)]
def Zgl:Fi:={ keep:=[],vty:=[(8,26),(23,26),(31,26)],vals:=[],live:=[(0,[0,1,4,12,13,16,17]),(1,[0,1,4,18]),(2,[4,5]),(3,[0,4,6]),(4,[0,4,6,7]),(5,[0,4,6,7,25]),(6,[0,4,6,7]),(7,[0,4,6,7]),(8,[4,5])] }
noncomputable def X0t (x:PDs [.val t26,.val t2]):Option (RDs [⟨t28,[false,true,true],none⟩,⟨t4,[false],none⟩] × ODs [.val t26,.val t2]):=Qdf Zlm tab Zgl 1099511627776 [.val t26,.val t2] [⟨t28,[false,true,true],none⟩,⟨t4,[false],none⟩] Tryz.f15 x
noncomputable def Zsq (x0:List (List Int)) (x1:Int):Option ((Xcm × Bool × Unit) × Unit):=X0t (x0,x1,())
noncomputable def Zlr:Ent:=⟨[.val t26,.val t2],[⟨t28,[false,true,true],none⟩,⟨t4,[false],none⟩],fun x=>Zsq x.1 x.2.1⟩
theorem Zti:Q4j tab.ty Tryz.prog 15 Zlr:=by
  refine Qjd (Γ:=Zlm) (fi:=Zgl) (n:=1099511627776) follows (Qjq Qr6 Qju) Qjz Tryz.func15 (by kernel_rfl) (by kernel_rfl) (fun x r h=>?_)
  obtain ⟨x0,x1,_u⟩:=x
  exact h
abbrev Qpb:Type:=(Bool × Unit) × Unit
noncomputable def Z5z:Ctx:=[]
def Z3a:Fi:={ keep:=[],vty:=[],vals:=[],live:=[(0,[0,1]),(1,[0,1,5]),(2,[0,1,5,9]),(3,[0,1,5]),(4,[0,1,5,17]),(5,[4]),(6,[4])] }
abbrev Z3b:Type:=List Int→Int→Int→Option Qpb
noncomputable def Zib (L1:Z3b) (v1:List Int) (v2 v3:Int):Option Qpb:=
 bif decide (v3<(v1.length:Int)) then
  bif decide (0≤v3)&&decide (v3<(v1.length:Int)) then
   bif (List.getD v1 v3.toNat 0)==v2 then
    some ((true,()),())
   else
    L1 v1 v2 (IntKind.wrap .i64 (v3+1))
  else none
 else
  some ((false,()),())
noncomputable def Zln (L1:Z3b) (p_0:List Int) (id_1:Int):Option Qpb:=
 L1 p_0 id_1 0
noncomputable def Zip (n:Nat):Nat→Z3b:=iter (fun _ _ _=>none) fun L=>Zib L
noncomputable def Quy (n m:Nat) (v1:List Int) (v2 v3:Int):Option Qpb:=
 Qjl Z5z tab (fiB [.val t44,.val t2] Z3a) n [.val t44,.val t2] [⟨t4,[false],none⟩] Tryz.f55 [1,0,1,0] [] [0,1,5] m
 ⟨[(0,Vp t44 v1),(1,Vp t2 v2),(5,Vp t2 v3)],[]⟩
theorem Zra (n m:Nat):Quy n (m+1)=Zib (Quy n m):=by kernel_rfl
theorem Zd8 (n:Nat):∀ m,Quy n m=Zip n m
 | 0=>rfl
 | m+1=>by rw [Zra n m,Zd8 n m];rfl
noncomputable def Zl5 (n:Nat) (p_0:List Int) (id_1:Int):Option Qpb:=Zln (Zip n n) p_0 id_1
noncomputable def Qm3 (p_0:List Int) (id_1:Int):Option Qpb:=Zl5 1099511627776 p_0 id_1
noncomputable def Qnm:Ent:=⟨[.val t44,.val t2],[⟨t4,[false],none⟩],fun x=>Qm3 x.1 x.2.1⟩
theorem Zxe (n:Nat) (p_0:List Int) (id_1:Int):Qdf Z5z tab Z3a n [.val t44,.val t2] [⟨t4,[false],none⟩] Tryz.f55 (p_0,id_1,())=Zl5 n p_0 id_1:=Eq.trans (b:=Zln (Quy n n) p_0 id_1) (by kernel_rfl) (by rw [Zd8 n n];rfl)
theorem Qmp:Q4j tab.ty Tryz.prog 55 Qnm:=
 Qjd (Γ:=Z5z) (fi:=Z3a) (n:=1099511627776) follows Qju Qjz Tryz.func55 (by kernel_rfl) (by kernel_rfl) fun x r h=>(Zxe 1099511627776 x.1 x.2.1).trans h
abbrev Qo5:Type:=(Int × Unit) × Unit
noncomputable def Z33:Ctx:=[(55,Qnm)]
def Z0v:Fi:={ keep:=[],vty:=[],vals:=[],live:=[(0,[0,1]),(1,[0,1,5]),(2,[0,1,5,9]),(3,[0,1,5]),(4,[0,1,5,18]),(5,[4]),(6,[4])] }
abbrev Qyx:Type:=Qkr→Int→Int→Option Qo5
noncomputable def Zfe (L1:Qyx) (v1:List Qq3) (v2 v3:Int):Option Qo5:=
 bif decide (v3<(v1.length:Int)) then
  bif decide (0≤v3)&&decide (v3<(v1.length:Int)) then
   Option.bind (Qm3 ((List.getD v1 v3.toNat ([],0)).1) v2) fun r4=>
   bif r4.1.1 then
    some ((v3,()),())
   else
    L1 v1 v2 (IntKind.wrap .i64 (v3+1))
  else none
 else
  some (((-1),()),())
noncomputable def Zhx (L1:Qyx) (cs_0:List Qq3) (id_1:Int):Option Qo5:=
 L1 cs_0 id_1 0
noncomputable def Zfk (n:Nat):Nat→Qyx:=iter (fun _ _ _=>none) fun L=>Zfe L
noncomputable def Qt9 (n m:Nat) (v1:List Qq3) (v2 v3:Int):Option Qo5:=
 Qjl Z33 tab (fiB [.val t88,.val t2] Z0v) n [.val t88,.val t2] [⟨t2,[false],none⟩] Tryz.f32 [1,0,1,0] [] [0,1,5] m
 ⟨[(0,Vp t88 v1),(1,Vp t2 v2),(5,Vp t2 v3)],[]⟩
theorem Zo8 (n m:Nat):Qt9 n (m+1)=Zfe (Qt9 n m):=by kernel_rfl
theorem Zch (n:Nat):∀ m,Qt9 n m=Zfk n m
 | 0=>rfl
 | m+1=>by rw [Zo8 n m,Zch n m];rfl
noncomputable def Zgz (n:Nat) (cs_0:List Qq3) (id_1:Int):Option Qo5:=Zhx (Zfk n n) cs_0 id_1
noncomputable def Qmx (cs_0:List Qq3) (id_1:Int):Option Qo5:=Zgz 1099511627776 cs_0 id_1
noncomputable def Qob:Ent:=⟨[.val t88,.val t2],[⟨t2,[false],none⟩],fun x=>Qmx x.1 x.2.1⟩
theorem Zuw (n:Nat) (cs_0:List Qq3) (id_1:Int):Qdf Z33 tab Z0v n [.val t88,.val t2] [⟨t2,[false],none⟩] Tryz.f32 (cs_0,id_1,())=Zgz n cs_0 id_1:=Eq.trans (b:=Zhx (Qt9 n n) cs_0 id_1) (by kernel_rfl) (by rw [Zch n n];rfl)
theorem Qnv:Q4j tab.ty Tryz.prog 32 Qob:=
 Qjd (Γ:=Z33) (fi:=Z0v) (n:=1099511627776) follows (Qjq Qmp Qju) Qjz Tryz.func32 (by kernel_rfl) (by kernel_rfl) fun x r h=>(Zuw 1099511627776 x.1 x.2.1).trans h
abbrev Qo4:Type:=(Int × Unit) × Unit
noncomputable def Z2t:Ctx:=[(55,Qnm)]
def Qz1:Fi:={ keep:=[],vty:=[],vals:=[],live:=[(0,[0,1,2,17,18,19,22,23,24,25,26,27,28,29,30,31,32,33,34,35,36,37,38,39,40,41,42,43,44]),(1,[0,1,2,7,17,18,19,22,23,24,25,26,27,28,29,30,31,32,33,34,35,36,37,38,39,40,41,42,43,44]),(2,[0,1,2,7,8,17,18,19,22,23,24,25,26,27,28,29,30,31,32,33,34,35,36,37,38,39,40,41,42,43,44]),(3,[0,1,2,7,8,10,17,18,19,22,23,24,25,26,27,28,29,30,31,32,33,34,35,36,37,38,39,40,41,42,43,44]),(4,[0,1,2,7,8,17,18,19,22,23,24,25,26,27,28,29,30,31,32,33,34,35,36,37,38,39,40,41,42,43,44]),(5,[0,1,2,7,8,17,18,19,22,23,24,25,26,27,28,29,30,31,32,33,34,35,36,37,38,39,40,41,42,43,44,45]),(6,[0,1,2,7,8,17,18,19,22,23,24,25,26,27,28,29,30,31,32,33,34,35,36,37,38,39,40,41,42,43,44]),(7,[6])] }
abbrev Z04:Type:=List (List Int)→Int→List Int→Int→Int→Option Qo4
noncomputable def Zep (L1:Z04) (v1:List (List Int)) (v2:Int) (v3:List Int) (v4 v5:Int):Option Qo4:=
 bif decide (v5≤8) then
  bif v5 != v2 then
   Option.bind (Qm3 v3 v5) fun r6=>
   bif r6.1.1 then
    bif v4==0 then
     L1 v1 v2 v3 v5 (IntKind.wrap .i64 (v5+1))
    else
    bif decide (0≤IntKind.wrap .i64 (v2 - 1))&&decide (IntKind.wrap .i64 (v2 - 1)<(v1.length:Int)) then
     bif decide (0≤IntKind.wrap .i64 (v5 - 1))&&decide (IntKind.wrap .i64 (v5 - 1)<((List.getD v1 ((IntKind.wrap .i64 (v2 - 1)).toNat) []).length:Int)) then
      bif decide (0≤IntKind.wrap .i64 (v2 - 1))&&decide (IntKind.wrap .i64 (v2 - 1)<(v1.length:Int)) then
       bif decide (0≤IntKind.wrap .i64 (v4 - 1))&&decide (IntKind.wrap .i64 (v4 - 1)<((List.getD v1 ((IntKind.wrap .i64 (v2 - 1)).toNat) []).length:Int)) then
        bif decide (List.getD (List.getD v1 ((IntKind.wrap .i64 (v2 - 1)).toNat) []) ((IntKind.wrap .i64 (v5 - 1)).toNat) 0<List.getD (List.getD v1 ((IntKind.wrap .i64 (v2 - 1)).toNat) []) ((IntKind.wrap .i64 (v4 - 1)).toNat) 0) then
         L1 v1 v2 v3 v5 (IntKind.wrap .i64 (v5+1))
        else
         L1 v1 v2 v3 v4 (IntKind.wrap .i64 (v5+1))
       else none
      else none
     else none
    else none
   else
    L1 v1 v2 v3 v4 (IntKind.wrap .i64 (v5+1))
  else
   L1 v1 v2 v3 v4 (IntKind.wrap .i64 (v5+1))
 else
  some ((v4,()),())
noncomputable def Zgv (L1:Z04) (d_0:List (List Int)) (m_1:Int) (l_2:List Int):Option Qo4:=
 L1 d_0 m_1 l_2 0 1
noncomputable def Zd1 (n:Nat):Nat→Z04:=iter (fun _ _ _ _ _=>none) fun L=>Zep L
noncomputable def Qtn (n m:Nat) (v1:List (List Int)) (v2:Int) (v3:List Int) (v4 v5:Int):Option Qo4:=
 Qjl Z2t tab (fiB [.val t26,.val t2,.val t44] Qz1) n [.val t26,.val t2,.val t44] [⟨t2,[false],none⟩] Tryz.f33 [1,1,0,1,0] [] [0,1,2,7,8] m
 ⟨[(0,Vp t26 v1),(1,Vp t2 v2),(2,Vp t44 v3),(7,Vp t2 v4),(8,Vp t2 v5)],[]⟩
theorem Zou (n m:Nat):Qtn n (m+1)=Zep (Qtn n m):=by kernel_rfl
theorem Z9s (n:Nat):∀ m,Qtn n m=Zd1 n m
 | 0=>rfl
 | m+1=>by rw [Zou n m,Z9s n m];rfl
noncomputable def Zgi (n:Nat) (d_0:List (List Int)) (m_1:Int) (l_2:List Int):Option Qo4:=Zgv (Zd1 n n) d_0 m_1 l_2
noncomputable def Qm6 (d_0:List (List Int)) (m_1:Int) (l_2:List Int):Option Qo4:=Zgi 1099511627776 d_0 m_1 l_2
noncomputable def Qv0:Ent:=⟨[.val t26,.val t2,.val t44],[⟨t2,[false],none⟩],fun x=>Qm6 x.1 x.2.1 x.2.2.1⟩
theorem Zww (n:Nat) (d_0:List (List Int)) (m_1:Int) (l_2:List Int):Qdf Z2t tab Qz1 n [.val t26,.val t2,.val t44] [⟨t2,[false],none⟩] Tryz.f33 (d_0,m_1,l_2,())=Zgi n d_0 m_1 l_2:=Eq.trans (b:=Zgv (Qtn n n) d_0 m_1 l_2) (by kernel_rfl) (by rw [Z9s n n];rfl)
theorem Qw1:Q4j tab.ty Tryz.prog 33 Qv0:=
 Qjd (Γ:=Z2t) (fi:=Qz1) (n:=1099511627776) follows (Qjq Qmp Qju) Qjz Tryz.func33 (by kernel_rfl) (by kernel_rfl) fun x r h=>(Zww 1099511627776 x.1 x.2.1 x.2.2.1).trans h
abbrev Qp9:Type:=(Int × Unit) × Unit
noncomputable def Z5t:Ctx:=[]
def Z2m:Fi:={ keep:=[],vty:=[],vals:=[],live:=[(0,[0,1,2]),(1,[0,1,2,7]),(2,[0,1,2,7,8]),(3,[0,1,2,7,8,12]),(4,[0,1,2,7,8]),(5,[0,1,2,7,8]),(6,[6])] }
abbrev Z2b:Type:=List (List Int)→Int→List Int→Int→Int→Option Qp9
noncomputable def Zgf (L1:Z2b) (v1:List (List Int)) (v2:Int) (v3:List Int) (v4 v5:Int):Option Qp9:=
 bif decide (v5<(v3.length:Int)) then
  bif decide (0≤IntKind.wrap .i64 (v2 - 1))&&decide (IntKind.wrap .i64 (v2 - 1)<(v1.length:Int)) then
   bif decide (0≤v5)&&decide (v5<(v3.length:Int)) then
    bif decide (0≤IntKind.wrap .i64 ((List.getD v3 v5.toNat 0) - 1))&&decide (IntKind.wrap .i64 ((List.getD v3 v5.toNat 0) - 1)<((List.getD v1 ((IntKind.wrap .i64 (v2 - 1)).toNat) []).length:Int)) then
     L1 v1 v2 v3 (if List.getD (List.getD v1 ((IntKind.wrap .i64 (v2 - 1)).toNat) []) ((IntKind.wrap .i64 ((List.getD v3 v5.toNat 0) - 1)).toNat) 0>v4 then List.getD (List.getD v1 ((IntKind.wrap .i64 (v2 - 1)).toNat) []) ((IntKind.wrap .i64 ((List.getD v3 v5.toNat 0) - 1)).toNat) 0 else v4) (IntKind.wrap .i64 (v5+1))
    else none
   else none
  else none
 else
  some ((v4,()),())
noncomputable def Zlh (L1:Z2b) (d_0:List (List Int)) (m_1:Int) (l_2:List Int):Option Qp9:=
 L1 d_0 m_1 l_2 0 0
noncomputable def Zif (n:Nat):Nat→Z2b:=iter (fun _ _ _ _ _=>none) fun L=>Zgf L
noncomputable def Qus (n m:Nat) (v1:List (List Int)) (v2:Int) (v3:List Int) (v4 v5:Int):Option Qp9:=
 Qjl Z5t tab (fiB [.val t26,.val t2,.val t44] Z2m) n [.val t26,.val t2,.val t44] [⟨t2,[false],none⟩] Tryz.f150 [1,1,0,1,0] [] [0,1,2,7,8] m
 ⟨[(0,Vp t26 v1),(1,Vp t2 v2),(2,Vp t44 v3),(7,Vp t2 v4),(8,Vp t2 v5)],[]⟩
theorem Zrh (n m:Nat):Qus n (m+1)=Zgf (Qus n m):=by kernel_rfl
theorem Zfg (n:Nat):∀ m,Qus n m=Zif n m
 | 0=>rfl
 | m+1=>by rw [Zrh n m,Zfg n m];rfl
noncomputable def Zlu (n:Nat) (d_0:List (List Int)) (m_1:Int) (l_2:List Int):Option Qp9:=Zlh (Zif n n) d_0 m_1 l_2
noncomputable def Zg2 (d_0:List (List Int)) (m_1:Int) (l_2:List Int):Option Qp9:=Zlu 1099511627776 d_0 m_1 l_2
noncomputable def Zly:Ent:=⟨[.val t26,.val t2,.val t44],[⟨t2,[false],none⟩],fun x=>Zg2 x.1 x.2.1 x.2.2.1⟩
theorem Zxt (n:Nat) (d_0:List (List Int)) (m_1:Int) (l_2:List Int):Qdf Z5t tab Z2m n [.val t26,.val t2,.val t44] [⟨t2,[false],none⟩] Tryz.f150 (d_0,m_1,l_2,())=Zlu n d_0 m_1 l_2:=Eq.trans (b:=Zlh (Qus n n) d_0 m_1 l_2) (by kernel_rfl) (by rw [Zfg n n];rfl)
theorem Ztl:Q4j tab.ty Tryz.prog 150 Zly:=
 Qjd (Γ:=Z5t) (fi:=Z2m) (n:=1099511627776) follows Qju Qjz Tryz.func150 (by kernel_rfl) (by kernel_rfl) fun x r h=>(Zxt 1099511627776 x.1 x.2.1 x.2.2.1).trans h
abbrev Qpe:Type:=(Int × Unit) × Unit
noncomputable def Z5r:Ctx:=[(55,Qnm),(150,Zly)]
def Z36:Fi:={ keep:=[],vty:=[],vals:=[],live:=[(0,[0,1,15,16,17,18,19,20,21,22,23,24,25,26,27]),(1,[0,1,5,15,16,17,18,19,20,21,22,23,24,25,26,27]),(2,[0,1,5,6,15,16,17,18,19,20,21,22,23,24,25,26,27]),(3,[0,1,5,6,8,15,16,17,18,19,20,21,22,23,24,25,26,27]),(4,[0,1,5,6,15,16,17,18,19,20,21,22,23,24,25,26,27]),(5,[0,1,5,6,15,16,17,18,19,20,21,22,23,24,25,26,27,28]),(6,[0,1,5,6,15,16,17,18,19,20,21,22,23,24,25,26,27]),(7,[4])] }
abbrev Z2e:Type:=List (List Int)→List Int→Int→Int→Option Qpe
noncomputable def Zir (L1:Z2e) (v1:List (List Int)) (v2:List Int) (v3 v4:Int):Option Qpe:=
 bif decide (v4≤8) then
  Option.bind (Qm3 v2 v4) fun r5=>
  bif r5.1.1 then
   bif v3==0 then
    L1 v1 v2 v4 (IntKind.wrap .i64 (v4+1))
   else
    Option.bind (Zg2 v1 v4 v2) fun r6=>
    Option.bind (Zg2 v1 v3 v2) fun r7=>
    bif decide (r6.1.1<r7.1.1) then
     L1 v1 v2 v4 (IntKind.wrap .i64 (v4+1))
    else
     L1 v1 v2 v3 (IntKind.wrap .i64 (v4+1))
  else
   L1 v1 v2 v3 (IntKind.wrap .i64 (v4+1))
 else
  some ((v3,()),())
noncomputable def Zl2 (L1:Z2e) (d_0:List (List Int)) (l_1:List Int):Option Qpe:=
 L1 d_0 l_1 0 1
noncomputable def Zhu (n:Nat):Nat→Z2e:=iter (fun _ _ _ _=>none) fun L=>Zir L
noncomputable def Qv1 (n m:Nat) (v1:List (List Int)) (v2:List Int) (v3 v4:Int):Option Qpe:=
 Qjl Z5r tab (fiB [.val t26,.val t44] Z36) n [.val t26,.val t44] [⟨t2,[false],none⟩] Tryz.f99 [1,1,0,1,0] [] [0,1,5,6] m
 ⟨[(0,Vp t26 v1),(1,Vp t44 v2),(5,Vp t2 v3),(6,Vp t2 v4)],[]⟩
theorem Zrl (n m:Nat):Qv1 n (m+1)=Zir (Qv1 n m):=by kernel_rfl
theorem Zdg (n:Nat):∀ m,Qv1 n m=Zhu n m
 | 0=>rfl
 | m+1=>by rw [Zrl n m,Zdg n m];rfl
noncomputable def Zl4 (n:Nat) (d_0:List (List Int)) (l_1:List Int):Option Qpe:=Zl2 (Zhu n n) d_0 l_1
noncomputable def Zrz (d_0:List (List Int)) (l_1:List Int):Option Qpe:=Zl4 1099511627776 d_0 l_1
noncomputable def Zm2:Ent:=⟨[.val t26,.val t44],[⟨t2,[false],none⟩],fun x=>Zrz x.1 x.2.1⟩
theorem Zy1 (n:Nat) (d_0:List (List Int)) (l_1:List Int):Qdf Z5r tab Z36 n [.val t26,.val t44] [⟨t2,[false],none⟩] Tryz.f99 (d_0,l_1,())=Zl4 n d_0 l_1:=Eq.trans (b:=Zl2 (Qv1 n n) d_0 l_1) (by kernel_rfl) (by rw [Zdg n n];rfl)
theorem Zsy:Q4j tab.ty Tryz.prog 99 Zm2:=
 Qjd (Γ:=Z5r) (fi:=Z36) (n:=1099511627776) follows (Qjq Qmp (Qjq Ztl Qju)) Qjz Tryz.func99 (by kernel_rfl) (by kernel_rfl) fun x r h=>(Zy1 1099511627776 x.1 x.2.1).trans h
noncomputable def Qpl (d_0:List (List Int)) (l_1:List Int):Option ((Qq3 × Unit) × Unit):=
 bif Nat.ble (0+l_1.length) 1073741824 then
  Option.bind (Zrz d_0 l_1) fun r1=>
  some ((([]++l_1,r1.1.1),()),())
 else none
noncomputable def Qty:Ent:=⟨[.val t26,.val t44],[⟨t90,[true,false],none⟩],fun x=>Qpl x.1 x.2.1⟩
theorem Qt8:Q4j tab.ty Tryz.prog 58 Qty:=
 Qjd (Γ:=[(99,Zm2)]) (fi:={ keep:=[],vty:=[],vals:=[],live:=[(0,[0,1,4]),(1,[4])] }) (n:=1) follows (Qjq Zsy Qju) Qjz Tryz.func58 (by kernel_rfl) (by kernel_rfl) fun x r h=>Eq.trans (by kernel_rfl) h
abbrev Qmm:Type:=((List Int) × Unit) × Unit
noncomputable def Qxp:Ctx:=[(55,Qnm)]
def Qw3:Fi:={ keep:=[],vty:=[(3,44)],vals:=[],live:=[(0,[0]),(1,[0,3]),(2,[0,3,4]),(3,[0,3,4,6]),(4,[0,3,4]),(5,[0,3,4,11]),(6,[0,3,4]),(7,[2])] }
abbrev Qvj:Type:=List Int→Int→List Int→Option Qmm
noncomputable def Z79 (L1:Qvj) (v1:List Int) (v2:Int) (v3:List Int):Option Qmm:=
 bif decide (v2≤8) then
  Option.bind (Qm3 v1 v2) fun r4=>
  bif r4.1.1 then
   bif Nat.ble (v3.length+1) 1073741824 then
    L1 v1 (IntKind.wrap .i64 (v2+1)) (v3++[v2])
   else none
  else
   L1 v1 (IntKind.wrap .i64 (v2+1)) v3
 else
  some ((v3,()),())
noncomputable def Zc9 (L1:Qvj) (l_0:List Int):Option Qmm:=
 L1 l_0 1 []
noncomputable def Z8u (n:Nat):Nat→Qvj:=iter (fun _ _ _=>none) fun L=>Z79 L
noncomputable def Qqe (n m:Nat) (v1:List Int) (v2:Int) (v3:List Int):Option Qmm:=
 Qjl Qxp tab (fiB [.val t44] Qw3) n [.val t44] [⟨t44,[true],none⟩] Tryz.f59 [1,1,0,1,0] [] [0,3,4] m
 ⟨[(0,Vp t44 v1),(3,V1 (.ref (888888,3))),(4,Vp t2 v2)],[((888888,3),Ob.row 3 t2 v3)]⟩
theorem Zjn (n m:Nat):Qqe n (m+1)=Z79 (Qqe n m):=by kernel_rfl
theorem Z4p (n:Nat):∀ m,Qqe n m=Z8u n m
 | 0=>rfl
 | m+1=>by rw [Zjn n m,Z4p n m];rfl
noncomputable def Z9j (n:Nat) (l_0:List Int):Option Qmm:=Zc9 (Z8u n n) l_0
noncomputable def Qkx (l_0:List Int):Option Qmm:=Z9j 1099511627776 l_0
noncomputable def Qoi:Ent:=⟨[.val t44],[⟨t44,[true],none⟩],fun x=>Qkx x.1⟩
theorem Zqo (n:Nat) (l_0:List Int):Qdf Qxp tab Qw3 n [.val t44] [⟨t44,[true],none⟩] Tryz.f59 (l_0,())=Z9j n l_0:=Eq.trans (b:=Zc9 (Qqe n n) l_0) (by kernel_rfl) (by rw [Z4p n n];rfl)
theorem Qp1:Q4j tab.ty Tryz.prog 59 Qoi:=
 Qjd (Γ:=Qxp) (fi:=Qw3) (n:=1099511627776) follows (Qjq Qmp Qju) Qjz Tryz.func59 (by kernel_rfl) (by kernel_rfl) fun x r h=>(Zqo 1099511627776 x.1).trans h
abbrev Qmb:Type:=((List Int) × Unit) × Unit
noncomputable def Qvt:Ctx:=[]
def Qui:Fi:={ keep:=[],vty:=[(5,44)],vals:=[],live:=[(0,[0,1]),(1,[0,1,5]),(2,[0,1,5,6]),(3,[0,1,5,6,10]),(4,[0,1,5,6]),(5,[0,1,5,6,18]),(6,[0,1,5,6]),(7,[4])] }
abbrev Qu5:Type:=List Int→Int→Int→List Int→Option Qmb
noncomputable def Z51 (L1:Qu5) (v1:List Int) (v2 v3:Int) (v4:List Int):Option Qmb:=
 bif decide (v3<(v1.length:Int)) then
  bif decide (0≤v3)&&decide (v3<(v1.length:Int)) then
   bif (List.getD v1 v3.toNat 0) != v2 then
    bif decide (0≤v3)&&decide (v3<(v1.length:Int)) then
     bif Nat.ble (v4.length+1) 1073741824 then
      L1 v1 v2 (IntKind.wrap .i64 (v3+1)) (v4++[List.getD v1 v3.toNat 0])
     else none
    else none
   else
    L1 v1 v2 (IntKind.wrap .i64 (v3+1)) v4
  else none
 else
  some ((v4,()),())
noncomputable def Z6j (L1:Qu5) (l_0:List Int) (id_1:Int):Option Qmb:=
 L1 l_0 id_1 0 []
noncomputable def Z3z (n:Nat):Nat→Qu5:=iter (fun _ _ _ _=>none) fun L=>Z51 L
noncomputable def Qpw (n m:Nat) (v1:List Int) (v2 v3:Int) (v4:List Int):Option Qmb:=
 Qjl Qvt tab (fiB [.val t44,.val t2] Qui) n [.val t44,.val t2] [⟨t44,[true],none⟩] Tryz.f111 [1,1,0,1,0] [] [0,1,5,6] m
 ⟨[(0,Vp t44 v1),(1,Vp t2 v2),(5,V1 (.ref (888888,5))),(6,Vp t2 v3)],[((888888,5),Ob.row 3 t2 v4)]⟩
theorem Zj2 (n m:Nat):Qpw n (m+1)=Z51 (Qpw n m):=by kernel_rfl
theorem Z25 (n:Nat):∀ m,Qpw n m=Z3z n m
 | 0=>rfl
 | m+1=>by rw [Zj2 n m,Z25 n m];rfl
noncomputable def Z8h (n:Nat) (l_0:List Int) (id_1:Int):Option Qmb:=Z6j (Z3z n n) l_0 id_1
noncomputable def Qk8 (l_0:List Int) (id_1:Int):Option Qmb:=Z8h 1099511627776 l_0 id_1
noncomputable def Qvc:Ent:=⟨[.val t44,.val t2],[⟨t44,[true],none⟩],fun x=>Qk8 x.1 x.2.1⟩
theorem Zpy (n:Nat) (l_0:List Int) (id_1:Int):Qdf Qvt tab Qui n [.val t44,.val t2] [⟨t44,[true],none⟩] Tryz.f111 (l_0,id_1,())=Z8h n l_0 id_1:=Eq.trans (b:=Z6j (Qpw n n) l_0 id_1) (by kernel_rfl) (by rw [Z25 n n];rfl)
theorem Z0k:Q4j tab.ty Tryz.prog 111 Qvc:=
 Qjd (Γ:=Qvt) (fi:=Qui) (n:=1099511627776) follows Qju Qjz Tryz.func111 (by kernel_rfl) (by kernel_rfl) fun x r h=>(Zpy 1099511627776 x.1 x.2.1).trans h
abbrev Qk1:Type:=((List Int) × (List Int) × Unit) × Unit
noncomputable def Qkk:Ctx:=[(33,Qv0),(59,Qoi),(111,Qvc)]
def Qke:Fi:={ keep:=[],vty:=[(12,44),(13,44)],vals:=[],live:=[(0,[0,1,2,41,42,43,44,45,46,47,48,49,50,51,52,53,54,55,56,57,58,59,60,61,62,63,64,65,89,90,91,92,93,94,95,96,97,98,99,100,101,102,103,104,105,106,107,108,109,110,111,112,127,128,129,130,151,152,153,154]),(1,[0,1,2,20,41,42,43,44,45,46,47,48,49,50,51,52,53,54,55,56,57,58,59,60,61,62,63,64,65,89,90,91,92,93,94,95,96,97,98,99,100,101,102,103,104,105,106,107,108,109,110,111,112,127,128,129,130,151,152,153,154]),(2,[6,7]),(3,[0,1,2,8,9,41,42,43,44,45,46,47,48,49,50,51,52,53,54,55,56,57,58,59,60,61,62,63,64,65,89,90,91,92,93,94,95,96,97,98,99,100,101,102,103,104,105,106,107,108,109,110,111,112,127,128,129,130,151,152,153,154]),(4,[0,1,2,8,9,10,41,42,43,44,45,46,47,48,49,50,51,52,53,54,55,56,57,58,59,60,61,62,63,64,65,89,90,91,92,93,94,95,96,97,98,99,100,101,102,103,104,105,106,107,108,109,110,111,112,127,128,129,130,151,152,153,154]),(5,[0,1,2,8,9,10,27,41,42,43,44,45,46,47,48,49,50,51,52,53,54,55,56,57,58,59,60,61,62,63,64,65,89,90,91,92,93,94,95,96,97,98,99,100,101,102,103,104,105,106,107,108,109,110,111,112,127,128,129,130,151,152,153,154]),(6,[0,1,2,8,9,10,41,42,43,44,45,46,47,48,49,50,51,52,53,54,55,56,57,58,59,60,61,62,63,64,65,89,90,91,92,93,94,95,96,97,98,99,100,101,102,103,104,105,106,107,108,109,110,111,112,127,128,129,130,151,152,153,154]),(7,[0,1,2,8,9,10,11,41,42,43,44,45,46,47,48,49,50,51,52,53,54,55,56,57,58,59,60,61,62,63,64,65,89,90,91,92,93,94,95,96,97,98,99,100,101,102,103,104,105,106,107,108,109,110,111,112,127,128,129,130,151,152,153,154]),(8,[0,1,2,8,9,10,11,35,41,42,43,44,45,46,47,48,49,50,51,52,53,54,55,56,57,58,59,60,61,62,63,64,65,89,90,91,92,93,94,95,96,97,98,99,100,101,102,103,104,105,106,107,108,109,110,111,112,127,128,129,130,151,152,153,154]),(9,[0,1,2,8,9,10,11,41,42,43,44,45,46,47,48,49,50,51,52,53,54,55,56,57,58,59,60,61,62,63,64,65,89,90,91,92,93,94,95,96,97,98,99,100,101,102,103,104,105,106,107,108,109,110,111,112,127,128,129,130,151,152,153,154]),(10,[0,1,2,8,9,10,11,41,42,43,44,45,46,47,48,49,50,51,52,53,54,55,56,57,58,59,60,61,62,63,64,65,66,89,90,91,92,93,94,95,96,97,98,99,100,101,102,103,104,105,106,107,108,109,110,111,112,127,128,129,130,151,152,153,154]),(11,[0,1,2,8,9,10,11,41,42,43,44,45,46,47,48,49,50,51,52,53,54,55,56,57,58,59,60,61,62,63,64,65,89,90,91,92,93,94,95,96,97,98,99,100,101,102,103,104,105,106,107,108,109,110,111,112,127,128,129,130,151,152,153,154]),(12,[0,1,2,8,9,12,13,89,90,91,92,93,94,95,96,97,98,99,100,101,102,103,104,105,106,107,108,109,110,111,112,127,128,129,130,151,152,153,154]),(13,[0,1,2,8,9,12,13,14,89,90,91,92,93,94,95,96,97,98,99,100,101,102,103,104,105,106,107,108,109,110,111,112,127,128,129,130,151,152,153,154]),(14,[0,1,2,8,9,12,13,14,78,89,90,91,92,93,94,95,96,97,98,99,100,101,102,103,104,105,106,107,108,109,110,111,112,127,128,129,130,151,152,153,154]),(15,[0,1,2,8,9,12,13,14,89,90,91,92,93,94,95,96,97,98,99,100,101,102,103,104,105,106,107,108,109,110,111,112,127,128,129,130,151,152,153,154]),(16,[0,1,2,8,9,12,13,14,15,89,90,91,92,93,94,95,96,97,98,99,100,101,102,103,104,105,106,107,108,109,110,111,112,127,128,129,130,151,152,153,154]),(17,[0,1,2,8,9,12,13,14,15,89,90,91,92,93,94,95,96,97,98,99,100,101,102,103,104,105,106,107,108,109,110,111,112,113,127,128,129,130,151,152,153,154]),(18,[0,1,2,8,9,12,13,14,89,90,91,92,93,94,95,96,97,98,99,100,101,102,103,104,105,106,107,108,109,110,111,112,127,128,129,130,151,152,153,154]),(19,[0,1,2,8,9,12,13,14,89,90,91,92,93,94,95,96,97,98,99,100,101,102,103,104,105,106,107,108,109,110,111,112,127,128,129,130,151,152,153,154]),(20,[0,2,8,9,12,13,127,128,129,130,131,151,152,153,154]),(21,[0,2,8,9,12,13,16,127,128,129,130,151,152,153,154]),(22,[0,2,8,9,12,13,127,128,129,130,151,152,153,154]),(23,[0,2,8,9,12,13,151,152,153,154,155]),(24,[0,2,8,9,12,13,17,151,152,153,154]),(25,[0,2,8,9,12,13,151,152,153,154]),(26,[6,7])] }
abbrev Qrn:Type:=List (List Int)→List Int→Int→Int→Int→Int→Option Qk1
abbrev Qx8:Type:=List (List Int)→List Int→Int→Int→Int→Int→Int→Option Qk1
abbrev Qx4:Type:=List (List Int)→List Int→Int→Int→Int→Int→List Int→List Int→Option Qk1
abbrev Z9h:Type:=List (List Int)→List Int→Int→Int→Int→Int→Bool→List Int→List Int→Option Qk1
abbrev Qku:Type:=List (List Int)→Int→Int→Int→List Int→List Int→Option Qk1
abbrev Qx6:Type:=List (List Int)→Int→Int→Int→Int→Int→Bool→Bool→List Int→List Int→Option Qk1
abbrev Qxq:Type:=List (List Int)→Int→Int→Int→Bool→List Int→List Int→Option Qk1
noncomputable def Zaj (L2:Qx8) (L3:Qx4) (v1:List (List Int)) (v2:List Int) (v3 v4 v5 v6:Int):Option Qk1:=
 bif decide (v6<(v2.length:Int)) then
  L2 v1 v2 v3 v4 v5 v6 (IntKind.wrap .i64 (v6+1))
 else
  L3 v1 v2 v3 v4 v5 0 [] []
noncomputable def Za2 (L2:Qx8) (L1:Qrn) (v7:List (List Int)) (v8:List Int) (v9 v10 v11 v12 v13:Int):Option Qk1:=
 bif decide (v13<(v8.length:Int)) then
  bif v10==0 then
   bif decide (0≤v12)&&decide (v12<(v8.length:Int)) then
    bif decide (0≤v13)&&decide (v13<(v8.length:Int)) then
     L2 v7 v8 v9 (List.getD v8 v12.toNat 0) (List.getD v8 v13.toNat 0) v12 (IntKind.wrap .i64 (v13+1))
    else none
   else none
  else
  bif decide (0≤v12)&&decide (v12<(v8.length:Int)) then
   bif decide (0≤IntKind.wrap .i64 ((List.getD v8 v12.toNat 0) - 1))&&decide (IntKind.wrap .i64 ((List.getD v8 v12.toNat 0) - 1)<(v7.length:Int)) then
    bif decide (0≤v13)&&decide (v13<(v8.length:Int)) then
     bif decide (0≤IntKind.wrap .i64 ((List.getD v8 v13.toNat 0) - 1))&&decide (IntKind.wrap .i64 ((List.getD v8 v13.toNat 0) - 1)<((List.getD v7 ((IntKind.wrap .i64 ((List.getD v8 v12.toNat 0) - 1)).toNat) []).length:Int)) then
      bif decide (0≤IntKind.wrap .i64 (v10 - 1))&&decide (IntKind.wrap .i64 (v10 - 1)<(v7.length:Int)) then
       bif decide (0≤IntKind.wrap .i64 (v11 - 1))&&decide (IntKind.wrap .i64 (v11 - 1)<((List.getD v7 ((IntKind.wrap .i64 (v10 - 1)).toNat) []).length:Int)) then
        bif decide (List.getD (List.getD v7 ((IntKind.wrap .i64 ((List.getD v8 v12.toNat 0) - 1)).toNat) []) ((IntKind.wrap .i64 ((List.getD v8 v13.toNat 0) - 1)).toNat) 0>List.getD (List.getD v7 ((IntKind.wrap .i64 (v10 - 1)).toNat) []) ((IntKind.wrap .i64 (v11 - 1)).toNat) 0) then
         bif decide (0≤v12)&&decide (v12<(v8.length:Int)) then
          bif decide (0≤v13)&&decide (v13<(v8.length:Int)) then
           L2 v7 v8 v9 (List.getD v8 v12.toNat 0) (List.getD v8 v13.toNat 0) v12 (IntKind.wrap .i64 (v13+1))
          else none
         else none
        else
         L2 v7 v8 v9 v10 v11 v12 (IntKind.wrap .i64 (v13+1))
       else none
      else none
     else none
    else none
   else none
  else none
 else
  L1 v7 v8 v9 v10 v11 (IntKind.wrap .i64 (v12+1))
noncomputable def Zbe (L3:Qx4) (L4:Z9h) (v14:List (List Int)) (v15:List Int) (v16 v17 v18 v19:Int) (v20 v21:List Int):Option Qk1:=
 bif decide (v19<(v15.length:Int)) then
  bif decide (0≤v19)&&decide (v19<(v15.length:Int)) then
   bif (List.getD v15 v19.toNat 0) != v18 then
    bif (List.getD v15 v19.toNat 0)==v17 then
     bif Nat.ble (v20.length+1) 1073741824 then
      L3 v14 v15 v16 v17 v18 (IntKind.wrap .i64 (v19+1)) (v20++[List.getD v15 v19.toNat 0]) v21
     else none
    else
    bif decide (0≤IntKind.wrap .i64 ((List.getD v15 v19.toNat 0) - 1))&&decide (IntKind.wrap .i64 ((List.getD v15 v19.toNat 0) - 1)<(v14.length:Int)) then
     bif decide (0≤IntKind.wrap .i64 (v17 - 1))&&decide (IntKind.wrap .i64 (v17 - 1)<((List.getD v14 ((IntKind.wrap .i64 ((List.getD v15 v19.toNat 0) - 1)).toNat) []).length:Int)) then
      bif decide (0≤IntKind.wrap .i64 ((List.getD v15 v19.toNat 0) - 1))&&decide (IntKind.wrap .i64 ((List.getD v15 v19.toNat 0) - 1)<(v14.length:Int)) then
       bif decide (0≤IntKind.wrap .i64 (v18 - 1))&&decide (IntKind.wrap .i64 (v18 - 1)<((List.getD v14 ((IntKind.wrap .i64 ((List.getD v15 v19.toNat 0) - 1)).toNat) []).length:Int)) then
        bif decide (List.getD (List.getD v14 ((IntKind.wrap .i64 ((List.getD v15 v19.toNat 0) - 1)).toNat) []) ((IntKind.wrap .i64 (v17 - 1)).toNat) 0≤List.getD (List.getD v14 ((IntKind.wrap .i64 ((List.getD v15 v19.toNat 0) - 1)).toNat) []) ((IntKind.wrap .i64 (v18 - 1)).toNat) 0) then
         bif Nat.ble (v20.length+1) 1073741824 then
          L3 v14 v15 v16 v17 v18 (IntKind.wrap .i64 (v19+1)) (v20++[List.getD v15 v19.toNat 0]) v21
         else none
        else
        bif Nat.ble (v21.length+1) 1073741824 then
         L3 v14 v15 v16 v17 v18 (IntKind.wrap .i64 (v19+1)) v20 (v21++[List.getD v15 v19.toNat 0])
        else none
       else none
      else none
     else none
    else none
   else
   bif Nat.ble (v21.length+1) 1073741824 then
    L3 v14 v15 v16 v17 v18 (IntKind.wrap .i64 (v19+1)) v20 (v21++[List.getD v15 v19.toNat 0])
   else none
  else none
 else
  L4 v14 v15 v16 v17 v18 v19 (decide (v19<(v15.length:Int))) v20 v21
noncomputable def Zbx (L5:Qku) (L6:Qx6) (L8:Qxq) (v22:List (List Int)) (v23:List Int) (v24 v25 v26 v27:Int) (v28:Bool) (v29 v30:List Int):Option Qk1:=
 bif decide ((v29.length:Int)<v24) then
  bif decide ((v30.length:Int)>v24) then
   Option.bind (Qk8 v30 v26) fun r31=>
   Option.bind (Qm6 v22 v25 r31.1.1) fun r32=>
   bif Nat.ble (v29.length+1) 1073741824 then
    Option.bind (Qkx (v29++[r32.1.1])) fun r33=>
    Option.bind (Qk8 v30 r32.1.1) fun r34=>
    L5 v22 v24 v25 v26 r33.1.1 r34.1.1
   else none
  else
   L6 v22 v24 v25 v26 (v30.length:Int) v24 (decide ((v30.length:Int)>v24)) (decide ((v30.length:Int)>v24)) v29 v30
 else
  L8 v22 v24 v25 v26 false v29 v30
noncomputable def Zan (L5:Qku) (L6:Qx6) (L8:Qxq) (v35:List (List Int)) (v36 v37 v38:Int) (v39 v40:List Int):Option Qk1:=
 bif decide ((v39.length:Int)<v36) then
  bif decide ((v40.length:Int)>v36) then
   Option.bind (Qk8 v40 v38) fun r41=>
   Option.bind (Qm6 v35 v37 r41.1.1) fun r42=>
   bif Nat.ble (v39.length+1) 1073741824 then
    Option.bind (Qkx (v39++[r42.1.1])) fun r43=>
    Option.bind (Qk8 v40 r42.1.1) fun r44=>
    L5 v35 v36 v37 v38 r43.1.1 r44.1.1
   else none
  else
   L6 v35 v36 v37 v38 (v40.length:Int) v36 (decide ((v40.length:Int)>v36)) (decide ((v40.length:Int)>v36)) v39 v40
 else
  L8 v35 v36 v37 v38 false v39 v40
noncomputable def Zbq (L7:Qku) (v45:List (List Int)) (v46 v47 v48 v49 v50:Int) (v51 v52:Bool) (v53 v54:List Int):Option Qk1:=
 bif decide ((v54.length:Int)<v46) then
  bif decide ((v53.length:Int)>v46) then
   Option.bind (Qk8 v53 v47) fun r55=>
   Option.bind (Qm6 v45 v48 r55.1.1) fun r56=>
   bif Nat.ble (v54.length+1) 1073741824 then
    Option.bind (Qkx (v54++[r56.1.1])) fun r57=>
    Option.bind (Qk8 v53 r56.1.1) fun r58=>
    L7 v45 v46 v47 v48 r58.1.1 r57.1.1
   else none
  else
   some ((v53,v54,()),())
 else
  some ((v53,v54,()),())
noncomputable def Zc0 (L7:Qku) (v59:List (List Int)) (v60 v61 v62:Int) (v63 v64:List Int):Option Qk1:=
 bif decide ((v64.length:Int)<v60) then
  bif decide ((v63.length:Int)>v60) then
   Option.bind (Qk8 v63 v61) fun r65=>
   Option.bind (Qm6 v59 v62 r65.1.1) fun r66=>
   bif Nat.ble (v64.length+1) 1073741824 then
    Option.bind (Qkx (v64++[r66.1.1])) fun r67=>
    Option.bind (Qk8 v63 r66.1.1) fun r68=>
    L7 v59 v60 v61 v62 r68.1.1 r67.1.1
   else none
  else
   some ((v63,v64,()),())
 else
  some ((v63,v64,()),())
noncomputable def Zb0 (L9:Qku) (v69:List (List Int)) (v70 v71 v72:Int) (v73:Bool) (v74 v75:List Int):Option Qk1:=
 bif decide ((v75.length:Int)<v70) then
  bif decide ((v74.length:Int)>v70) then
   Option.bind (Qk8 v74 v71) fun r76=>
   Option.bind (Qm6 v69 v72 r76.1.1) fun r77=>
   bif Nat.ble (v75.length+1) 1073741824 then
    Option.bind (Qkx (v75++[r77.1.1])) fun r78=>
    Option.bind (Qk8 v74 r77.1.1) fun r79=>
    L9 v69 v70 v71 v72 r79.1.1 r78.1.1
   else none
  else
   some ((v74,v75,()),())
 else
  some ((v74,v75,()),())
noncomputable def Z9r (L9:Qku) (v80:List (List Int)) (v81 v82 v83:Int) (v84 v85:List Int):Option Qk1:=
 bif decide ((v85.length:Int)<v81) then
  bif decide ((v84.length:Int)>v81) then
   Option.bind (Qk8 v84 v82) fun r86=>
   Option.bind (Qm6 v80 v83 r86.1.1) fun r87=>
   bif Nat.ble (v85.length+1) 1073741824 then
    Option.bind (Qkx (v85++[r87.1.1])) fun r88=>
    Option.bind (Qk8 v84 r87.1.1) fun r89=>
    L9 v80 v81 v82 v83 r89.1.1 r88.1.1
   else none
  else
   some ((v84,v85,()),())
 else
  some ((v84,v85,()),())
noncomputable def Zfb (L1:Qrn) (arr_0:List (List Int)) (x_1:List Int) (x_2:Int):Option Qk1:=
 bif decide ((x_1.length:Int)<2) then
  bif Nat.ble (0+x_1.length) 1073741824 then
   some (([]++x_1,[],()),())
  else none
 else
  L1 arr_0 x_1 x_2 0 0 0
noncomputable def Zbu (n:Nat) (m1:Nat) (r1:Qrn):Nat→Qx8:=iter (fun _ _ _ _ _ _ _=>none) fun L=>Za2 L r1
noncomputable def Za0 (n:Nat):Nat→Qku:=iter (fun _ _ _ _ _ _=>none) fun L=>Zc0 L
noncomputable def Qx5 (n:Nat):Nat→Qx6:=Qj7 (fun _ _ _ _ _ _ _ _ _ _=>none) fun m L=>Zbq (Za0 n m)
noncomputable def Zci (n:Nat):Nat→Qku:=iter (fun _ _ _ _ _ _=>none) fun L=>Z9r L
noncomputable def Qwr (n:Nat):Nat→Qxq:=Qj7 (fun _ _ _ _ _ _ _=>none) fun m L=>Zb0 (Zci n m)
noncomputable def Zar (n:Nat):Nat→Qku:=iter (fun _ _ _ _ _ _=>none) fun L=>Zan L (Qx5 n n) (Qwr n n)
noncomputable def Zad (n:Nat):Nat→Z9h:=Qj7 (fun _ _ _ _ _ _ _ _ _=>none) fun m L=>Zbx (Zar n m) (Qx5 n n) (Qwr n n)
noncomputable def Z9p (n:Nat):Nat→Qx4:=iter (fun _ _ _ _ _ _ _ _=>none) fun L=>Zbe L (Zad n n)
noncomputable def Zak (n:Nat):Nat→Qrn:=Qj7 (fun _ _ _ _ _ _=>none) fun m L=>Zaj (Zbu n m L n) (Z9p n n)
noncomputable def Qoo (n m:Nat) (v1:List (List Int)) (v2:List Int) (v3 v4 v5 v6:Int):Option Qk1:=
 Qjl Qkk tab (fiB [.val t26,.val t44,.val t2] Qke) n [.val t26,.val t44,.val t2] [⟨t44,[true],none⟩,⟨t44,[true],none⟩] Tryz.f100 [1,1,1,0,1,0] [] [0,1,2,8,9,10] m
 ⟨[(0,Vp t26 v1),(1,Vp t44 v2),(2,Vp t2 v3),(8,Vp t2 v4),(9,Vp t2 v5),(10,Vp t2 v6)],[]⟩
noncomputable def Qrc (n m1 m:Nat) (v7:List (List Int)) (v8:List Int) (v9 v10 v11 v12 v13:Int):Option Qk1:=
 Qjl Qkk tab (fiB [.val t26,.val t44,.val t2] Qke) n [.val t26,.val t44,.val t2] [⟨t44,[true],none⟩,⟨t44,[true],none⟩] Tryz.f100 [1,1,1,0,1,0,0,1,0,0,1,0] [(m1,[0,1,2,8,9,10])] [0,1,2,8,9,10,11] m
 ⟨[(0,Vp t26 v7),(1,Vp t44 v8),(2,Vp t2 v9),(8,Vp t2 v10),(9,Vp t2 v11),(10,Vp t2 v12),(11,Vp t2 v13)],[]⟩
noncomputable def Qre (n m:Nat) (v14:List (List Int)) (v15:List Int) (v16 v17 v18 v19:Int) (v20 v21:List Int):Option Qk1:=
 Qjl Qkk tab (fiB [.val t26,.val t44,.val t2] Qke) n [.val t26,.val t44,.val t2] [⟨t44,[true],none⟩,⟨t44,[true],none⟩] Tryz.f100 [1,1,1,1,1,0,1,0] [] [0,1,2,8,9,12,13,14] m
 ⟨[(0,Vp t26 v14),(1,Vp t44 v15),(2,Vp t2 v16),(8,Vp t2 v17),(9,Vp t2 v18),(12,V1 (.ref (888888,12))),(13,V1 (.ref (888888,13))),(14,Vp t2 v19)],[((888888,12),Ob.row 3 t2 v20),((888888,13),Ob.row 3 t2 v21)]⟩
noncomputable def Qx1 (n m:Nat) (v22:List (List Int)) (v23:List Int) (v24 v25 v26 v27:Int) (v28:Bool) (v29 v30:List Int):Option Qk1:=
 Qjl Qkk tab (fiB [.val t26,.val t44,.val t2] Qke) n [.val t26,.val t44,.val t2] [⟨t44,[true],none⟩,⟨t44,[true],none⟩] Tryz.f100 [1,1,1,1,1,1,0,0] [] [0,1,2,8,9,12,13,14,78] m
 ⟨[(0,Vp t26 v22),(1,Vp t44 v23),(2,Vp t2 v24),(8,Vp t2 v25),(9,Vp t2 v26),(12,V1 (.ref (888888,12))),(13,V1 (.ref (888888,13))),(14,Vp t2 v27),(78,Vp t4 v28)],[((888888,12),Ob.row 3 t2 v29),((888888,13),Ob.row 3 t2 v30)]⟩
noncomputable def Qru (n m:Nat) (v35:List (List Int)) (v36 v37 v38:Int) (v39 v40:List Int):Option Qk1:=
 Qjl Qkk tab (fiB [.val t26,.val t44,.val t2] Qke) n [.val t26,.val t44,.val t2] [⟨t44,[true],none⟩,⟨t44,[true],none⟩] Tryz.f100 [1,1,1,1,1,1,0,0] [] [0,1,2,8,9,12,13,14,78] m
 ⟨[(0,Vp t26 v35),(2,Vp t2 v36),(8,Vp t2 v37),(9,Vp t2 v38),(12,V1 (.ref (888888,12))),(13,V1 (.ref (888888,13)))],[((888888,12),Ob.row 3 t2 v39),((888888,13),Ob.row 3 t2 v40)]⟩
noncomputable def Qs4 (n m:Nat) (v45:List (List Int)) (v46 v47 v48 v49 v50:Int) (v51 v52:Bool) (v53 v54:List Int):Option Qk1:=
 Qjl Qkk tab (fiB [.val t26,.val t44,.val t2] Qke) n [.val t26,.val t44,.val t2] [⟨t44,[true],none⟩,⟨t44,[true],none⟩] Tryz.f100 [1,1,1,1,1,1,1,0,0] [] [0,2,8,9,12,13,127,128,129,130,131] m
 ⟨[(0,Vp t26 v45),(2,Vp t2 v46),(8,Vp t2 v47),(9,Vp t2 v48),(12,V1 (.ref (888888,12))),(13,V1 (.ref (888888,127))),(127,V1 (.ref (888888,127))),(128,Vp t2 v49),(129,Vp t2 v50),(130,Vp t4 v51),(131,Vp t4 v52)],[((888888,12),Ob.row 3 t2 v53),((888888,127),Ob.row 3 t2 v54)]⟩
noncomputable def Qsg (n m:Nat) (v59:List (List Int)) (v60 v61 v62:Int) (v63 v64:List Int):Option Qk1:=
 Qjl Qkk tab (fiB [.val t26,.val t44,.val t2] Qke) n [.val t26,.val t44,.val t2] [⟨t44,[true],none⟩,⟨t44,[true],none⟩] Tryz.f100 [1,1,1,1,1,1,1,0,0] [] [0,2,8,9,12,13,127,128,129,130,131] m
 ⟨[(0,Vp t26 v59),(2,Vp t2 v60),(8,Vp t2 v61),(9,Vp t2 v62),(12,V1 (.ref (888888,12))),(13,V1 (.ref (888888,13)))],[((888888,12),Ob.row 3 t2 v63),((888888,13),Ob.row 3 t2 v64)]⟩
noncomputable def Qrw (n m:Nat) (v69:List (List Int)) (v70 v71 v72:Int) (v73:Bool) (v74 v75:List Int):Option Qk1:=
 Qjl Qkk tab (fiB [.val t26,.val t44,.val t2] Qke) n [.val t26,.val t44,.val t2] [⟨t44,[true],none⟩,⟨t44,[true],none⟩] Tryz.f100 [1,1,1,1,1,1,1,0,0] [] [0,2,8,9,12,13,131] m
 ⟨[(0,Vp t26 v69),(2,Vp t2 v70),(8,Vp t2 v71),(9,Vp t2 v72),(12,V1 (.ref (888888,12))),(13,V1 (.ref (888888,13))),(131,Vp t4 v73)],[((888888,12),Ob.row 3 t2 v74),((888888,13),Ob.row 3 t2 v75)]⟩
noncomputable def Qsd (n m:Nat) (v80:List (List Int)) (v81 v82 v83:Int) (v84 v85:List Int):Option Qk1:=
 Qjl Qkk tab (fiB [.val t26,.val t44,.val t2] Qke) n [.val t26,.val t44,.val t2] [⟨t44,[true],none⟩,⟨t44,[true],none⟩] Tryz.f100 [1,1,1,1,1,1,1,0,0] [] [0,2,8,9,12,13,131] m
 ⟨[(0,Vp t26 v80),(2,Vp t2 v81),(8,Vp t2 v82),(9,Vp t2 v83),(12,V1 (.ref (888888,12))),(13,V1 (.ref (888888,13)))],[((888888,12),Ob.row 3 t2 v84),((888888,13),Ob.row 3 t2 v85)]⟩
theorem Zn1 (n m:Nat):Qoo n (m+1)=Zaj (Qrc n m n) (Qre n n):=by kernel_rfl
theorem Zmh (n m1 m:Nat):Qrc n m1 (m+1)=Za2 (Qrc n m1 m) (Qoo n m1):=by kernel_rfl
theorem Zmv (n m:Nat):Qre n (m+1)=Zbe (Qre n m) (Qx1 n n):=by kernel_rfl
theorem Zm9 (n m:Nat):Qx1 n (m+1)=Zbx (Qru n m) (Qs4 n n) (Qrw n n):=by kernel_rfl
theorem Zmd (n m:Nat):Qru n (m+1)=Zan (Qru n m) (Qs4 n n) (Qrw n n):=by kernel_rfl
theorem Zm6 (n m:Nat):Qs4 n (m+1)=Zbq (Qsg n m):=by kernel_rfl
theorem Zn5 (n m:Nat):Qsg n (m+1)=Zc0 (Qsg n m):=by kernel_rfl
theorem Zn3 (n m:Nat):Qrw n (m+1)=Zb0 (Qsd n m):=by kernel_rfl
theorem Zn6 (n m:Nat):Qsd n (m+1)=Z9r (Qsd n m):=by kernel_rfl
theorem Z7g (n m1:Nat):∀ m,Qrc n m1 m=Zbu n m1 (Qoo n m1) m
 | 0=>rfl
 | m+1=>by rw [Zmh n m1 m,Z7g n m1 m];rfl
theorem Z72 (n:Nat):∀ m,Qsg n m=Za0 n m
 | 0=>rfl
 | m+1=>by rw [Zn5 n m,Z72 n m];rfl
theorem Z6o (n:Nat):∀ m,Qs4 n m=Qx5 n m
 | 0=>rfl
 | m+1=>by rw [Zm6 n m,Z72 n m];rfl
theorem Z6v (n:Nat):∀ m,Qsd n m=Zci n m
 | 0=>rfl
 | m+1=>by rw [Zn6 n m,Z6v n m];rfl
theorem Z6l (n:Nat):∀ m,Qrw n m=Qwr n m
 | 0=>rfl
 | m+1=>by rw [Zn3 n m,Z6v n m];rfl
theorem Z7t (n:Nat):∀ m,Qru n m=Zar n m
 | 0=>rfl
 | m+1=>by rw [Zmd n m,Z6o n n,Z6l n n,Z7t n m];rfl
theorem Zqu (n:Nat):∀ m,Qx1 n m=Zad n m
 | 0=>rfl
 | m+1=>by rw [Zm9 n m,Z7t n m,Z6o n n,Z6l n n];rfl
theorem Z6q (n:Nat):∀ m,Qre n m=Z9p n m
 | 0=>rfl
 | m+1=>by rw [Zmv n m,Zqu n n,Z6q n m];rfl
theorem Z78 (n:Nat):∀ m,Qoo n m=Zak n m
 | 0=>rfl
 | m+1=>by rw [Zn1 n m,Z7g n m n,Z6q n n,Z78 n m];rfl
noncomputable def Zdw (n:Nat) (arr_0:List (List Int)) (x_1:List Int) (x_2:Int):Option Qk1:=Zfb (Zak n n) arr_0 x_1 x_2
noncomputable def Zlz (arr_0:List (List Int)) (x_1:List Int) (x_2:Int):Option Qk1:=Zdw 1099511627776 arr_0 x_1 x_2
noncomputable def Zd4:Ent:=⟨[.val t26,.val t44,.val t2],[⟨t44,[true],none⟩,⟨t44,[true],none⟩],fun x=>Zlz x.1 x.2.1 x.2.2.1⟩
theorem Zth (n:Nat) (arr_0:List (List Int)) (x_1:List Int) (x_2:Int):Qdf Qkk tab Qke n [.val t26,.val t44,.val t2] [⟨t44,[true],none⟩,⟨t44,[true],none⟩] Tryz.f100 (arr_0,x_1,x_2,())=Zdw n arr_0 x_1 x_2:=Eq.trans (b:=Zfb (Qoo n n) arr_0 x_1 x_2) (by kernel_rfl) (by rw [Z78 n n];rfl)
theorem Zpk:Q4j tab.ty Tryz.prog 100 Zd4:=
 Qjd (Γ:=Qkk) (fi:=Qke) (n:=1099511627776) follows (Qjq Qw1 (Qjq Qp1 (Qjq Z0k Qju))) Qjz Tryz.func100 (by kernel_rfl) (by kernel_rfl) fun x r h=>(Zth 1099511627776 x.1 x.2.1 x.2.2.1).trans h
noncomputable def Qoe (d_0:List (List Int)) (cs_1:List Qq3) (i_2 k_3:Int):Option ((Qkr × Unit) × Unit):=
 bif decide (0≤i_2)&&decide (i_2<(cs_1.length:Int)) then
  Option.bind (Zlz d_0 ((List.getD cs_1 i_2.toNat ([],0)).1) k_3) fun r1=>
  bif decide (0≤i_2)&&decide (i_2≤(cs_1.length:Int)) then
   bif Nat.ble (0+(List.drop 0 (List.take i_2.toNat cs_1)).length) 1073741824 then
    Option.bind (Qpl d_0 r1.1.1) fun r2=>
    Option.bind (Qpl d_0 r1.1.2.1) fun r3=>
    bif Nat.ble (([]++(List.drop 0 (List.take i_2.toNat cs_1))).length+2) 1073741824 then
     bif (decide (0≤IntKind.wrap .i64 (i_2+1))&&decide (IntKind.wrap .i64 (i_2+1)≤(cs_1.length:Int)))&&decide ((cs_1.length:Int)≤(cs_1.length:Int)) then
      bif Nat.ble ((([]++(List.drop 0 (List.take i_2.toNat cs_1)))++[r2.1.1,r3.1.1]).length+(List.drop ((IntKind.wrap .i64 (i_2+1)).toNat) (List.take ((cs_1.length:Int).toNat) cs_1)).length) 1073741824 then
       some (((([]++(List.drop 0 (List.take i_2.toNat cs_1)))++[r2.1.1,r3.1.1])++(List.drop ((IntKind.wrap .i64 (i_2+1)).toNat) (List.take ((cs_1.length:Int).toNat) cs_1)),()),())
      else none
     else none
    else none
   else none
  else none
 else none
noncomputable def Qsh:Ent:=⟨[.val t26,.val t88,.val t2,.val t2],[⟨t88,[true],none⟩],fun x=>Qoe x.1 x.2.1 x.2.2.1 x.2.2.2.1⟩
theorem Qsz:Q4j tab.ty Tryz.prog 60 Qsh:=
 Qjd (Γ:=[(58,Qty),(100,Zd4)]) (fi:={ keep:=[],vty:=[],vals:=[],live:=[(0,[0,1,2,3]),(1,[0,1,2,9,10]),(2,[0,1,2,9,10,11]),(3,[8])] }) (n:=1) follows (Qjq Qt8 (Qjq Zpk Qju)) Qjz Tryz.func60 (by kernel_rfl) (by kernel_rfl) fun x r h=>Eq.trans (by kernel_rfl) h
noncomputable def Qwx (d_0:List (List Int)) (cs_1:List Qq3) (at_2 id_3 k_4:Int):Option ((Qkr × Unit) × Unit):=
 bif Nat.ble (0+cs_1.length) 1073741824 then
  bif (cs_1.length:Int)==0 then
   Option.bind (Qpl d_0 [id_3]) fun r1=>
   some (([r1.1.1],()),())
  else
  bif decide (at_2<0) then
   some (([]++cs_1,()),())
  else
  bif decide (at_2 ≥ (cs_1.length:Int)) then
   some (([]++cs_1,()),())
  else
   Option.bind (Qmx cs_1 id_3) fun r2=>
   bif decide (r2.1.1 ≥ 0) then
    some (([]++cs_1,()),())
   else
   bif decide (0≤at_2)&&decide (at_2<(cs_1.length:Int)) then
    bif Nat.ble (0+((List.getD cs_1 at_2.toNat ([],0)).1).length) 1073741824 then
     bif Nat.ble (([]++((List.getD cs_1 at_2.toNat ([],0)).1)).length+1) 1073741824 then
      Option.bind (Qkx (([]++((List.getD cs_1 at_2.toNat ([],0)).1))++[id_3])) fun r3=>
      Option.bind (Qpl d_0 r3.1.1) fun r4=>
      bif decide (0≤at_2)&&decide (at_2<(([]++cs_1).length:Int)) then
       bif decide (0≤at_2)&&decide (at_2<(([]++cs_1).length:Int)) then
        bif decide (0≤at_2)&&decide (at_2<((List.set ([]++cs_1) at_2.toNat r4.1.1).length:Int)) then
         bif decide (0≤at_2)&&decide (at_2<((List.set ([]++cs_1) at_2.toNat r4.1.1).length:Int)) then
          bif decide ((((List.getD (List.set ([]++cs_1) at_2.toNat r4.1.1) at_2.toNat ([],0)).1).length:Int)>IntKind.wrap .i64 ((IntKind.wrap .i64 (3*k_4)) - 1)) then
           Option.bind (Qoe d_0 (List.set ([]++cs_1) at_2.toNat r4.1.1) at_2 k_4) fun r5=>
           some ((r5.1.1,()),())
          else
           some ((List.set ([]++cs_1) at_2.toNat r4.1.1,()),())
         else none
        else none
       else none
      else none
     else none
    else none
   else none
 else none
noncomputable def Z5c:Ent:=⟨[.val t26,.val t88,.val t2,.val t2,.val t2],[⟨t88,[true],none⟩],fun x=>Qwx x.1 x.2.1 x.2.2.1 x.2.2.2.1 x.2.2.2.2.1⟩
theorem Zgc:Q4j tab.ty Tryz.prog 35 Z5c:=
 Qjd (Γ:=[(32,Qob),(58,Qty),(59,Qoi),(60,Qsh)]) (fi:={ keep:=[],vty:=[],vals:=[],live:=[(0,[0,1,2,3,4,26,27,28,29,32,33,34,35]),(1,[0,1,2,3,4,11,26,27,28,29,32,33,34,35]),(2,[0,1,2,3,4,11,17,26,27,28,29,32,33,34,35]),(3,[10]),(4,[0,1,2,3,4,11,36]),(5,[10]),(6,[0,2,4,11]),(7,[0,2,4,11,63]),(8,[10]),(9,[10])] }) (n:=1) follows (Qjq Qnv (Qjq Qt8 (Qjq Qp1 (Qjq Qsz Qju)))) Qjz Tryz.func35 (by kernel_rfl) (by kernel_rfl) fun x r h=>Eq.trans (by kernel_rfl) h
abbrev Qm9:Type:=((List Int) × Unit) × Unit
noncomputable def Qvq:Ctx:=[(59,Qoi)]
def Qu1:Fi:={ keep:=[],vty:=[(3,44)],vals:=[],live:=[(0,[0]),(1,[0,3]),(2,[0,3,4]),(3,[0,3,4,8]),(4,[0,3,4]),(5,[0,3,4]),(6,[2])] }
abbrev Qu4:Type:=Qkr→Int→List Int→Option Qm9
noncomputable def Z5m (L1:Qu4) (v1:List Qq3) (v2:Int) (v3:List Int):Option Qm9:=
 bif decide (v2<(v1.length:Int)) then
  bif decide (0≤v2)&&decide (v2<(v1.length:Int)) then
   bif Nat.ble (v3.length+1) 1073741824 then
    L1 v1 (IntKind.wrap .i64 (v2+1)) (v3++[(List.getD v1 v2.toNat ([],0)).2])
   else none
  else none
 else
  Option.bind (Qkx v3) fun r4=>
  some ((r4.1.1,()),())
noncomputable def Z6w (L1:Qu4) (cs_0:List Qq3):Option Qm9:=
 L1 cs_0 0 []
noncomputable def Z3s (n:Nat):Nat→Qu4:=iter (fun _ _ _=>none) fun L=>Z5m L
noncomputable def Qpy (n m:Nat) (v1:List Qq3) (v2:Int) (v3:List Int):Option Qm9:=
 Qjl Qvq tab (fiB [.val t88] Qu1) n [.val t88] [⟨t44,[true],none⟩] Tryz.f57 [1,1,0,1,0] [] [0,3,4] m
 ⟨[(0,Vp t88 v1),(3,V1 (.ref (888888,3))),(4,Vp t2 v2)],[((888888,3),Ob.row 3 t2 v3)]⟩
theorem Zii (n m:Nat):Qpy n (m+1)=Z5m (Qpy n m):=by kernel_rfl
theorem Z1p (n:Nat):∀ m,Qpy n m=Z3s n m
 | 0=>rfl
 | m+1=>by rw [Zii n m,Z1p n m];rfl
noncomputable def Z81 (n:Nat) (cs_0:List Qq3):Option Qm9:=Z6w (Z3s n n) cs_0
noncomputable def Qzo (cs_0:List Qq3):Option Qm9:=Z81 1099511627776 cs_0
noncomputable def Z6z:Ent:=⟨[.val t88],[⟨t44,[true],none⟩],fun x=>Qzo x.1⟩
theorem Zq9 (n:Nat) (cs_0:List Qq3):Qdf Qvq tab Qu1 n [.val t88] [⟨t44,[true],none⟩] Tryz.f57 (cs_0,())=Z81 n cs_0:=Eq.trans (b:=Z6w (Qpy n n) cs_0) (by kernel_rfl) (by rw [Z1p n n];rfl)
theorem Zkl:Q4j tab.ty Tryz.prog 57 Z6z:=
 Qjd (Γ:=Qvq) (fi:=Qu1) (n:=1099511627776) follows (Qjq Qp1 Qju) Qjz Tryz.func57 (by kernel_rfl) (by kernel_rfl) fun x r h=>(Zq9 1099511627776 x.1).trans h
abbrev Qkj:Type:=(Qkr × Unit) × Unit
noncomputable def Qph:Ctx:=[(58,Qty),(60,Qsh)]
def Qom:Fi:={ keep:=[],vty:=[],vals:=[],live:=[(0,[0,1,2]),(1,[0,1,2,11]),(2,[6]),(3,[0,2,7]),(4,[0,2,7,8]),(5,[0,2,7,8,19]),(6,[0,2,7,8]),(7,[0,2,7,8,31]),(8,[0,2,7,8]),(9,[6])] }
abbrev Qlu:Type:=List (List Int)→Int→Int→Qkr→Option Qkj
abbrev Z9o:Type:=List (List Int)→Int→Int→Bool→Qkr→Option Qkj
noncomputable def Zbo (L2:Z9o) (v2:List (List Int)) (v3 v4:Int) (v5:List Qq3):Option Qkj:=
 bif decide (v4<(v5.length:Int)) then
  L2 v2 v3 v4 (decide (v4<(v5.length:Int))) v5
 else
  some ((v5,()),())
noncomputable def Zbv (L3 L1:Qlu) (v6:List (List Int)) (v7 v8:Int) (v9:Bool) (v10:List Qq3):Option Qkj:=
 bif decide (0≤v8)&&decide (v8<(v10.length:Int)) then
  bif decide (0≤v8)&&decide (v8<(v10.length:Int)) then
   bif decide ((((List.getD v10 v8.toNat ([],0)).1).length:Int)>IntKind.wrap .i64 ((IntKind.wrap .i64 (3*v7)) - 1)) then
    Option.bind (Qoe v6 v10 v8 v7) fun r11=>
    L3 v6 v7 v8 r11.1.1
   else
    L1 v6 v7 (IntKind.wrap .i64 (v8+1)) v10
  else none
 else none
noncomputable def Zae (L3 L1:Qlu) (v12:List (List Int)) (v13 v14:Int) (v15:List Qq3):Option Qkj:=
 bif decide (0≤v14)&&decide (v14<(v15.length:Int)) then
  bif decide (0≤v14)&&decide (v14<(v15.length:Int)) then
   bif decide ((((List.getD v15 v14.toNat ([],0)).1).length:Int)>IntKind.wrap .i64 ((IntKind.wrap .i64 (3*v13)) - 1)) then
    Option.bind (Qoe v12 v15 v14 v13) fun r16=>
    L3 v12 v13 v14 r16.1.1
   else
    L1 v12 v13 (IntKind.wrap .i64 (v14+1)) v15
  else none
 else none
noncomputable def Zej (L1:Qlu) (d_0:List (List Int)) (l_1:List Int) (k_2:Int):Option Qkj:=
 bif (l_1.length:Int)==0 then
  some (([],()),())
 else
  Option.bind (Qpl d_0 l_1) fun r1=>
  L1 d_0 k_2 0 [r1.1.1]
noncomputable def Z9y (n:Nat) (m1:Nat) (r1:Qlu):Nat→Qlu:=iter (fun _ _ _ _=>none) fun L=>Zae L r1
noncomputable def Zba (n:Nat) (m1:Nat) (r1:Qlu):Nat→Z9o:=Qj7 (fun _ _ _ _ _=>none) fun m L=>Zbv (Z9y n m1 r1 m) r1
noncomputable def Z9d (n:Nat):Nat→Qlu:=Qj7 (fun _ _ _ _=>none) fun m L=>Zbo (Zba n m L n)
noncomputable def Qlt (n m:Nat) (v2:List (List Int)) (v3 v4:Int) (v5:List Qq3):Option Qkj:=
 Qjl Qph tab (fiB [.val t26,.val t44,.val t2] Qom) n [.val t26,.val t44,.val t2] [⟨t88,[true],none⟩] Tryz.f56 [1,1,1,0,1,0] [] [0,2,7,8] m
 ⟨[(0,Vp t26 v2),(2,Vp t2 v3),(7,V1 (.ref (888888,7))),(8,Vp t2 v4)],[((888888,7),Ob.row 91 t90 v5)]⟩
noncomputable def Qws (n m1 m:Nat) (v6:List (List Int)) (v7 v8:Int) (v9:Bool) (v10:List Qq3):Option Qkj:=
 Qjl Qph tab (fiB [.val t26,.val t44,.val t2] Qom) n [.val t26,.val t44,.val t2] [⟨t88,[true],none⟩] Tryz.f56 [1,1,1,0,1,0,0,1,0,0,0] [(m1,[0,2,7,8])] [0,2,7,8,19] m
 ⟨[(0,Vp t26 v6),(2,Vp t2 v7),(7,V1 (.ref (888888,7))),(8,Vp t2 v8),(19,Vp t4 v9)],[((888888,7),Ob.row 91 t90 v10)]⟩
noncomputable def Qs5 (n m1 m:Nat) (v12:List (List Int)) (v13 v14:Int) (v15:List Qq3):Option Qkj:=
 Qjl Qph tab (fiB [.val t26,.val t44,.val t2] Qom) n [.val t26,.val t44,.val t2] [⟨t88,[true],none⟩] Tryz.f56 [1,1,1,0,1,0,0,1,0,0,0] [(m1,[0,2,7,8])] [0,2,7,8,19] m
 ⟨[(0,Vp t26 v12),(2,Vp t2 v13),(7,V1 (.ref (888888,7))),(8,Vp t2 v14)],[((888888,7),Ob.row 91 t90 v15)]⟩
theorem Znf (n m:Nat):Qlt n (m+1)=Zbo (Qws n m n):=by kernel_rfl
theorem Zne (n m1 m:Nat):Qws n m1 (m+1)=Zbv (Qs5 n m1 m) (Qlt n m1):=by kernel_rfl
theorem Zm7 (n m1 m:Nat):Qs5 n m1 (m+1)=Zae (Qs5 n m1 m) (Qlt n m1):=by kernel_rfl
theorem Z8t (n m1:Nat):∀ m,Qs5 n m1 m=Z9y n m1 (Qlt n m1) m
 | 0=>rfl
 | m+1=>by rw [Zm7 n m1 m,Z8t n m1 m];rfl
theorem Zrg (n m1:Nat):∀ m,Qws n m1 m=Zba n m1 (Qlt n m1) m
 | 0=>rfl
 | m+1=>by rw [Zne n m1 m,Z8t n m1 m];rfl
theorem Z8v (n:Nat):∀ m,Qlt n m=Z9d n m
 | 0=>rfl
 | m+1=>by rw [Znf n m,Zrg n m n,Z8v n m];rfl
noncomputable def Zdr (n:Nat) (d_0:List (List Int)) (l_1:List Int) (k_2:Int):Option Qkj:=Zej (Z9d n n) d_0 l_1 k_2
noncomputable def Z5x (d_0:List (List Int)) (l_1:List Int) (k_2:Int):Option Qkj:=Zdr 1099511627776 d_0 l_1 k_2
noncomputable def Zd7:Ent:=⟨[.val t26,.val t44,.val t2],[⟨t88,[true],none⟩],fun x=>Z5x x.1 x.2.1 x.2.2.1⟩
theorem Zu3 (n:Nat) (d_0:List (List Int)) (l_1:List Int) (k_2:Int):Qdf Qph tab Qom n [.val t26,.val t44,.val t2] [⟨t88,[true],none⟩] Tryz.f56 (d_0,l_1,k_2,())=Zdr n d_0 l_1 k_2:=Eq.trans (b:=Zej (Qlt n n) d_0 l_1 k_2) (by kernel_rfl) (by rw [Z8v n n];rfl)
theorem Zos:Q4j tab.ty Tryz.prog 56 Zd7:=
 Qjd (Γ:=Qph) (fi:=Qom) (n:=1099511627776) follows (Qjq Qt8 (Qjq Qsz Qju)) Qjz Tryz.func56 (by kernel_rfl) (by kernel_rfl) fun x r h=>(Zu3 1099511627776 x.1 x.2.1 x.2.2.1).trans h
abbrev Qlm:Type:=(Xcm × Unit) × Unit
noncomputable def Qt5:Ctx:=[(56,Zd7),(57,Z6z)]
def Qry:Fi:={ keep:=[],vty:=[],vals:=[],live:=[(0,[1,2,4]),(1,[1,2,4,5]),(2,[1,2,4,5,13]),(3,[1,2,4,5]),(4,[1,2,4,5,22]),(5,[1,2,4,5]),(6,[4])] }
abbrev Qou:Type:=Qkr→Int→List (List Int)→X4e→Int→List (List Int)→X4e→Int→List (List Int)→X4e→Option Qlm
noncomputable def Zbg (L2:Qou) (v1:List Qq3) (v2:Int) (v3:List (List Int)) (v4:List Qkr) (v5:Int) (v6:List (List Int)) (v7:List Qkr) (v8:Int) (v9:List (List Int)) (v10:List Qkr):Option Qlm:=
 bif decide ((v1.length:Int)>0) then
  bif Nat.ble (v10.length+1) 1073741824 then
   bif (v1.length:Int)==1 then
    some (((v8,v9,v10++[v1]),()),())
   else
    Option.bind (Qzo v1) fun r11=>
    Option.bind (Z5x v3 r11.1.1 v2) fun r12=>
    L2 r12.1.1 v2 v3 v4 v5 v6 v7 v8 v9 (v10++[v1])
  else none
 else
  some (((v8,v9,v10),()),())
noncomputable def Zaf (L2:Qou) (v13:List Qq3) (v14:Int) (v15:List (List Int)) (v16:List Qkr) (v17:Int) (v18:List (List Int)) (v19:List Qkr) (v20:Int) (v21:List (List Int)) (v22:List Qkr):Option Qlm:=
 bif decide ((v13.length:Int)>0) then
  bif Nat.ble (v22.length+1) 1073741824 then
   bif (v13.length:Int)==1 then
    some (((v20,v21,v22++[v13]),()),())
   else
    Option.bind (Qzo v13) fun r23=>
    Option.bind (Z5x v15 r23.1.1 v14) fun r24=>
    L2 r24.1.1 v14 v15 v16 v17 v18 v19 v20 v21 (v22++[v13])
  else none
 else
  some (((v20,v21,v22),()),())
noncomputable def Ze7 (L1:Qou) (h_0:Int × Qp3 × List Qkr) (low_1:List Qq3):Option Qlm:=
 L1 low_1 h_0.1 h_0.2.1 h_0.2.2 0 [] [] h_0.1 h_0.2.1 []
noncomputable def Z9x (n:Nat):Nat→Qou:=iter (fun _ _ _ _ _ _ _ _ _ _=>none) fun L=>Zaf L
noncomputable def Zab (n:Nat):Nat→Qou:=Qj7 (fun _ _ _ _ _ _ _ _ _ _=>none) fun m L=>Zbg (Z9x n m)
noncomputable def Qxi (n m:Nat) (v1:List Qq3) (v2:Int) (v3:List (List Int)) (v4:List Qkr) (v5:Int) (v6:List (List Int)) (v7:List Qkr) (v8:Int) (v9:List (List Int)) (v10:List Qkr):Option Qlm:=
 Qjl Qt5 tab (fiB [.val t28,.val t88] Qry) n [.val t28,.val t88] [⟨t28,[false,false,true],none⟩] Tryz.f34 [1,1,0,0] [] [1,2,4,5] m
 ⟨[(1,Vp t88 v1),(2,V1 (.ptr (2,0) 0)),(4,V1 (.ptr (4,0) 0)),(5,V1 (.ptr (5,0) 0))],[((2,0),Ob.box 29 [LV.pure t2 v2,LV.pure t26 v3,LV.pure t27 v4]),((4,0),Ob.box 29 [LV.pure t2 v5,LV.ref (4,2),LV.ref (4,3)]),((4,2),Ob.row 44 t44 v6),((4,3),Ob.row 88 t88 v7),((5,0),Ob.box 29 [LV.pure t2 v8,LV.pure t26 v9,LV.ref (5,3)]),((5,3),Ob.row 88 t88 v10)]⟩
noncomputable def Qsb (n m:Nat) (v13:List Qq3) (v14:Int) (v15:List (List Int)) (v16:List Qkr) (v17:Int) (v18:List (List Int)) (v19:List Qkr) (v20:Int) (v21:List (List Int)) (v22:List Qkr):Option Qlm:=
 Qjl Qt5 tab (fiB [.val t28,.val t88] Qry) n [.val t28,.val t88] [⟨t28,[false,false,true],none⟩] Tryz.f34 [1,1,0,0] [] [1,2,4,5] m
 ⟨[(1,V1 (.ref (888888,1))),(2,V1 (.ptr (2,0) 0)),(4,V1 (.ptr (4,0) 0)),(5,V1 (.ptr (5,0) 0))],[((888888,1),Ob.row 91 t90 v13),((2,0),Ob.box 29 [LV.pure t2 v14,LV.pure t26 v15,LV.pure t27 v16]),((4,0),Ob.box 29 [LV.pure t2 v17,LV.ref (4,2),LV.ref (4,3)]),((4,2),Ob.row 44 t44 v18),((4,3),Ob.row 88 t88 v19),((5,0),Ob.box 29 [LV.pure t2 v20,LV.pure t26 v21,LV.ref (5,3)]),((5,3),Ob.row 88 t88 v22)]⟩
theorem Zmi (n m:Nat):Qxi n (m+1)=Zbg (Qsb n m):=by kernel_rfl
theorem Zmp (n m:Nat):Qsb n (m+1)=Zaf (Qsb n m):=by kernel_rfl
theorem Z8s (n:Nat):∀ m,Qsb n m=Z9x n m
 | 0=>rfl
 | m+1=>by rw [Zmp n m,Z8s n m];rfl
theorem Zrk (n:Nat):∀ m,Qxi n m=Zab n m
 | 0=>rfl
 | m+1=>by rw [Zmi n m,Z8s n m];rfl
noncomputable def Zd2 (n:Nat) (h_0:Int × Qp3 × List Qkr) (low_1:List Qq3):Option Qlm:=Ze7 (Zab n n) h_0 low_1
noncomputable def Qwo (h_0:Int × Qp3 × List Qkr) (low_1:List Qq3):Option Qlm:=Zd2 1099511627776 h_0 low_1
noncomputable def Z0d:Ent:=⟨[.val t28,.val t88],[⟨t28,[false,false,true],none⟩],fun x=>Qwo x.1 x.2.1⟩
theorem Zt5 (n:Nat) (h_0:Int × Qp3 × List Qkr) (low_1:List Qq3):Qdf Qt5 tab Qry n [.val t28,.val t88] [⟨t28,[false,false,true],none⟩] Tryz.f34 (h_0,low_1,())=Zd2 n h_0 low_1:=Eq.trans (b:=Ze7 (Qxi n n) h_0 low_1) (by kernel_rfl) (by rw [Zrk n n];rfl)
theorem Z4m:Q4j tab.ty Tryz.prog 34 Z0d:=
 Qjd (Γ:=Qt5) (fi:=Qry) (n:=1099511627776) follows (Qjq Zos (Qjq Zkl Qju)) Qjz Tryz.func34 (by kernel_rfl) (by kernel_rfl) fun x r h=>(Zt5 1099511627776 x.1 x.2.1).trans h
abbrev Qo9:Type:=(Xcm × Unit) × Unit
noncomputable def Z3c:Ctx:=[(31,Qqh),(32,Qob),(33,Qv0),(34,Z0d),(35,Z5c)]
def Qzw:Fi:={ keep:=[],vty:=[],vals:=[],live:=[(0,[1,2,4,14,15,18,19,22,23,24,25,26,27,28,29,30,31,32,33,34]),(1,[1,2,4,35]),(2,[4]),(3,[1,2,4,5]),(4,[1,2,4,5,6]),(5,[1,2,4,5,6,42]),(6,[1,2,4,5,6]),(7,[1,2,4,6,7]),(8,[1,2,4,5,6]),(9,[1,2,4,5,8]),(10,[1,2,4,5,8,69]),(11,[1,2,4,5,8]),(12,[4])] }
abbrev Qzj:Type:=Int→Int→Int→Int→List (List Int)→X4e→Int→List (List Int)→X4e→Option Qo9
noncomputable def Zdv (L1:Qzj) (v3 v4 v5 v6:Int) (v7:List (List Int)) (v8:List Qkr) (v9:Int) (v10:List (List Int)) (v11:List Qkr):Option Qo9:=
 bif decide (v5>0) then
  bif decide (0≤v5)&&decide (v5<(v8.length:Int)) then
   bif decide (0≤v4)&&decide (v4<((List.getD v8 v5.toNat []).length:Int)) then
    Option.bind (Qm6 v7 v3 ((List.getD (List.getD v8 v5.toNat []) v4.toNat ([],0)).1)) fun r12=>
    bif decide (0≤IntKind.wrap .i64 (v5 - 1))&&decide (IntKind.wrap .i64 (v5 - 1)<(v8.length:Int)) then
     Option.bind (Qmx (List.getD v8 ((IntKind.wrap .i64 (v5 - 1)).toNat) []) r12.1.1) fun r13=>
     L1 v3 r13.1.1 (IntKind.wrap .i64 (v5 - 1)) v6 v7 v8 v9 v10 v11
    else none
   else none
  else none
 else
 bif decide ((v8.length:Int)>0) then
  bif decide (0<(v8.length:Int)) then
   Option.bind (Qwx v7 (List.getD v8 0 []) v4 v3 v6) fun r14=>
   Option.bind (Qwo (v6,v7,v8) r14.1.1) fun r15=>
   some ((r15.1.1,()),())
  else none
 else
  Option.bind (Qwx v7 [] v4 v3 v6) fun r16=>
  Option.bind (Qwo (v6,v7,v8) r16.1.1) fun r17=>
  some ((r17.1.1,()),())
noncomputable def Zgg (L1:Qzj) (h_0:Int × Qp3 × List Qkr) (id_1:Int):Option Qo9:=
 Option.bind (Qys h_0.2.1) fun r1=>
 bif !r1.1.1 then
  some ((h_0,()),())
 else
 bif decide (id_1<1) then
  some ((h_0,()),())
 else
 bif decide (id_1>8) then
  some ((h_0,()),())
 else
 bif decide ((h_0.2.2.length:Int)>0) then
  bif decide (0<(h_0.2.2.length:Int)) then
   Option.bind (Qmx (List.getD h_0.2.2 0 []) id_1) fun r2=>
   bif decide (r2.1.1 ≥ 0) then
    some ((h_0,()),())
   else
    L1 id_1 0 (IntKind.wrap .i64 ((h_0.2.2.length:Int) - 1)) h_0.1 h_0.2.1 h_0.2.2 0 [] []
  else none
 else
  L1 id_1 0 (IntKind.wrap .i64 ((h_0.2.2.length:Int) - 1)) h_0.1 h_0.2.1 h_0.2.2 0 [] []
noncomputable def Zdl (n:Nat):Nat→Qzj:=iter (fun _ _ _ _ _ _ _ _ _=>none) fun L=>Zdv L
noncomputable def Qtg (n m:Nat) (v3 v4 v5 v6:Int) (v7:List (List Int)) (v8:List Qkr) (v9:Int) (v10:List (List Int)) (v11:List Qkr):Option Qo9:=
 Qjl Z3c tab (fiB [.val t28,.val t2] Qzw) n [.val t28,.val t2] [⟨t28,[false,false,false],none⟩] Tryz.f16 [1,1,1,0,1,0] [] [1,2,4,5,6] m
 ⟨[(1,Vp t2 v3),(2,V1 (.ptr (2,0) 0)),(4,V1 (.ptr (4,0) 0)),(5,Vp t2 v4),(6,Vp t2 v5)],[((2,0),Ob.box 29 [LV.pure t2 v6,LV.pure t26 v7,LV.pure t27 v8]),((4,0),Ob.box 29 [LV.pure t2 v9,LV.ref (4,2),LV.ref (4,3)]),((4,2),Ob.row 44 t44 v10),((4,3),Ob.row 88 t88 v11)]⟩
theorem Zpn (n m:Nat):Qtg n (m+1)=Zdv (Qtg n m):=by kernel_rfl
theorem Za9 (n:Nat):∀ m,Qtg n m=Zdl n m
 | 0=>rfl
 | m+1=>by rw [Zpn n m,Za9 n m];rfl
noncomputable def Zhp (n:Nat) (h_0:Int × Qp3 × List Qkr) (id_1:Int):Option Qo9:=Zgg (Zdl n n) h_0 id_1
noncomputable def Znl (h_0:Int × Qp3 × List Qkr) (id_1:Int):Option Qo9:=Zhp 1099511627776 h_0 id_1
noncomputable def Z2p:Ent:=⟨[.val t28,.val t2],[⟨t28,[false,false,false],none⟩],fun x=>Znl x.1 x.2.1⟩
theorem Zvk (n:Nat) (h_0:Int × Qp3 × List Qkr) (id_1:Int):Qdf Z3c tab Qzw n [.val t28,.val t2] [⟨t28,[false,false,false],none⟩] Tryz.f16 (h_0,id_1,())=Zhp n h_0 id_1:=Eq.trans (b:=Zgg (Qtg n n) h_0 id_1) (by kernel_rfl) (by rw [Za9 n n];rfl)
theorem Z8i:Q4j tab.ty Tryz.prog 16 Z2p:=
 Qjd (Γ:=Z3c) (fi:=Qzw) (n:=1099511627776) follows (Qjq Qr6 (Qjq Qnv (Qjq Qw1 (Qjq Z4m (Qjq Zgc Qju))))) Qjz Tryz.func16 (by kernel_rfl) (by kernel_rfl) fun x r h=>(Zvk 1099511627776 x.1 x.2.1).trans h
abbrev Qla:Type:=(Int × Int × Unit) × Unit
noncomputable def Qxe:Ctx:=[]
def Qw5:Fi:={ keep:=[],vty:=[],vals:=[],live:=[(0,[0,19,20,28,29,37,38,56,57,58,59,73,74,77,78,79,80,81,82]),(1,[0,4,19,20,28,29,37,38,56,57,58,59,73,74,77,78,79,80,81,82]),(2,[0,4,19,20,28,29,37,38,56,57,58,59,73,74,77,78,79,80,81,82]),(3,[2,3]),(4,[0,4,11,19,20,28,29,37,38,56,57,58,59,73,74,77,78,79,80,81,82]),(5,[2,3]),(6,[0,4,15,28,29,37,38,56,57,58,59,73,74,77,78,79,80,81,82]),(7,[0,4,5,6,56,57,58,59,73,74,77,78,79,80,81,82]),(8,[0,4,24,37,38,56,57,58,59,73,74,77,78,79,80,81,82]),(9,[0,4,5,6,56,57,58,59,73,74,77,78,79,80,81,82]),(10,[0,4,33,56,57,58,59,73,74,77,78,79,80,81,82]),(11,[0,4,5,6,56,57,58,59,73,74,77,78,79,80,81,82]),(12,[0,4,5,6,45,56,57,58,59,73,74,77,78,79,80,81,82]),(13,[2,3]),(14,[0,4,5,6,7,56,57,58,59,73,74,77,78,79,80,81,82]),(15,[0,4,5,6,7,48,56,57,58,59,73,74,77,78,79,80,81,82]),(16,[0,4,5,6,7,56,57,58,59,73,74,77,78,79,80,81,82]),(17,[0,4,5,6,7,56,57,58,59,60,73,74,77,78,79,80,81,82]),(18,[2,3]),(19,[0,4,5,6,7,56,57,58,59,73,74,77,78,79,80,81,82]),(20,[4,5,83]),(21,[2,3]),(22,[2,3])] }
abbrev Qnu:Type:=ByteArray→Int→Int→Int→Int→Option Qla
noncomputable def Z86 (s_0:ByteArray) (L1:Qnu):Option Qla:=
 bif decide (IntKind.wrap .i64 ((s_0.data.getD 0 0).toNat:Int) ≥ 240) then
  bif decide (IntKind.wrap .i64 ((s_0.data.getD 0 0).toNat:Int)≤244) then
   bif decide ((s_0.size:Int)<4) then
    some (((-1),1,()),())
   else
    L1 s_0 (IntKind.wrap .i64 ((IntKind.wrap .i64 ((s_0.data.getD 0 0).toNat:Int)) - 240)) 4 65536 1
  else
   some (((-1),1,()),())
 else
  some (((-1),1,()),())
noncomputable def Z8k (s_0:ByteArray) (L1:Qnu):Option Qla:=
 bif decide (IntKind.wrap .i64 ((s_0.data.getD 0 0).toNat:Int) ≥ 224) then
  bif decide (IntKind.wrap .i64 ((s_0.data.getD 0 0).toNat:Int)≤239) then
   bif decide ((s_0.size:Int)<3) then
    some (((-1),1,()),())
   else
    L1 s_0 (IntKind.wrap .i64 ((IntKind.wrap .i64 ((s_0.data.getD 0 0).toNat:Int)) - 224)) 3 2048 1
  else
   Z86 s_0 L1
 else
  Z86 s_0 L1
noncomputable def Z8l (L1:Qnu) (v1:ByteArray) (v2 v3 v4 v5:Int):Option Qla:=
 bif decide (v5<v3) then
  bif decide (0≤v5)&&decide (v5<(v1.size:Int)) then
   bif decide (((v1.data.getD v5.toNat 0).toNat:Int)<128) then
    some (((-1),1,()),())
   else
   bif decide (0≤v5)&&decide (v5<(v1.size:Int)) then
    bif decide (((v1.data.getD v5.toNat 0).toNat:Int)>191) then
     some (((-1),1,()),())
    else
    bif decide (0≤v5)&&decide (v5<(v1.size:Int)) then
     L1 v1 (IntKind.wrap .i64 ((IntKind.wrap .i64 ((IntKind.wrap .i64 (v2*64))+(IntKind.wrap .i64 ((v1.data.getD v5.toNat 0).toNat:Int)))) - 128)) v3 v4 (IntKind.wrap .i64 (v5+1))
    else none
   else none
  else none
 else
 bif decide (v2<v4) then
  some (((-1),1,()),())
 else
 bif decide (v2>1114111) then
  some (((-1),1,()),())
 else
 bif decide (v2 ≥ 55296) then
  bif decide (v2≤57343) then
   some (((-1),1,()),())
  else
   some ((v2,v3,()),())
 else
  some ((v2,v3,()),())
noncomputable def Zcc (L1:Qnu) (s_0:ByteArray):Option Qla:=
 bif decide (0<(s_0.size:Int)) then
  bif decide (IntKind.wrap .i64 ((s_0.data.getD 0 0).toNat:Int)<128) then
   some ((IntKind.wrap .i64 ((s_0.data.getD 0 0).toNat:Int),1,()),())
  else
  bif decide (IntKind.wrap .i64 ((s_0.data.getD 0 0).toNat:Int) ≥ 194) then
   bif decide (IntKind.wrap .i64 ((s_0.data.getD 0 0).toNat:Int)≤223) then
    bif decide ((s_0.size:Int)<2) then
     some (((-1),1,()),())
    else
     L1 s_0 (IntKind.wrap .i64 ((IntKind.wrap .i64 ((s_0.data.getD 0 0).toNat:Int)) - 192)) 2 128 1
   else
    Z8k s_0 L1
  else
   Z8k s_0 L1
 else none
noncomputable def Z76 (n:Nat):Nat→Qnu:=iter (fun _ _ _ _ _=>none) fun L=>Z8l L
noncomputable def Qqc (n m:Nat) (v1:ByteArray) (v2 v3 v4 v5:Int):Option Qla:=
 Qjl Qxe tab (fiB [.val t9] Qw5) n [.val t9] [⟨t2,[false],none⟩,⟨t2,[false],none⟩] Tryz.f101 [1,1,1,1,1,0,1,0] [] [0,4,5,6,7] m
 ⟨[(0,Vp t9 v1),(4,Vp t2 v2),(5,Vp t2 v3),(6,Vp t2 v4),(7,Vp t2 v5)],[]⟩
theorem Zjd (n m:Nat):Qqc n (m+1)=Z8l (Qqc n m):=by kernel_rfl
theorem Z4q (n:Nat):∀ m,Qqc n m=Z76 n m
 | 0=>rfl
 | m+1=>by rw [Zjd n m,Z4q n m];rfl
noncomputable def Zcd (n:Nat) (s_0:ByteArray):Option Qla:=Zcc (Z76 n n) s_0
noncomputable def Zik (s_0:ByteArray):Option Qla:=Zcd 1099511627776 s_0
noncomputable def Zcg:Ent:=⟨[.val t9],[⟨t2,[false],none⟩,⟨t2,[false],none⟩],fun x=>Zik x.1⟩
theorem Zqy (n:Nat) (s_0:ByteArray):Qdf Qxe tab Qw5 n [.val t9] [⟨t2,[false],none⟩,⟨t2,[false],none⟩] Tryz.f101 (s_0,())=Zcd n s_0:=Eq.trans (b:=Zcc (Qqc n n) s_0) (by kernel_rfl) (by rw [Z4q n n];rfl)
theorem Zmt:Q4j tab.ty Tryz.prog 101 Zcg:=
 Qjd (Γ:=Qxe) (fi:=Qw5) (n:=1099511627776) follows Qju Qjz Tryz.func101 (by kernel_rfl) (by kernel_rfl) fun x r h=>(Zqy 1099511627776 x.1).trans h
abbrev Qm8:Type:=((List Int) × Unit) × Unit
noncomputable def Qvg:Ctx:=[(101,Zcg)]
def Qtv:Fi:={ keep:=[],vty:=[(3,44)],vals:=[],live:=[(0,[0]),(1,[0,3]),(2,[0,3,8]),(3,[0,3,4,5]),(4,[0,3]),(5,[2])] }
abbrev Qu7:Type:=ByteArray→List Int→Option Qm8
noncomputable def Z4o (L1:Qu7) (v1:ByteArray) (v2:List Int):Option Qm8:=
 bif decide ((v1.size:Int)>0) then
  Option.bind (Zik v1) fun r3=>
  bif Nat.ble (v2.length+1) 1073741824 then
   bif (decide (0≤r3.1.2.1)&&decide (r3.1.2.1≤(v1.size:Int)))&&decide ((v1.size:Int)≤(v1.size:Int)) then
    L1 (v1.extract r3.1.2.1.toNat ((v1.size:Int).toNat)) (v2++[r3.1.1])
   else none
  else none
 else
  some ((v2,()),())
noncomputable def Z8b (L1:Qu7) (s_0:ByteArray):Option Qm8:=
 L1 s_0 []
noncomputable def Z3r (n:Nat):Nat→Qu7:=iter (fun _ _=>none) fun L=>Z4o L
noncomputable def Qpp (n m:Nat) (v1:ByteArray) (v2:List Int):Option Qm8:=
 Qjl Qvg tab (fiB [.val t9] Qtv) n [.val t9] [⟨t44,[true],none⟩] Tryz.f61 [1,1,0,0] [] [0,3] m
 ⟨[(0,Vp t9 v1),(3,V1 (.ref (888888,3)))],[((888888,3),Ob.row 3 t2 v2)]⟩
theorem Zhb (n m:Nat):Qpp n (m+1)=Z4o (Qpp n m):=by kernel_rfl
theorem Z1h (n:Nat):∀ m,Qpp n m=Z3r n m
 | 0=>rfl
 | m+1=>by rw [Zhb n m,Z1h n m];rfl
noncomputable def Z6c (n:Nat) (s_0:ByteArray):Option Qm8:=Z8b (Z3r n n) s_0
noncomputable def Zfl (s_0:ByteArray):Option Qm8:=Z6c 1099511627776 s_0
noncomputable def Z7m:Ent:=⟨[.val t9],[⟨t44,[true],none⟩],fun x=>Zfl x.1⟩
theorem Zoj (n:Nat) (s_0:ByteArray):Qdf Qvg tab Qtv n [.val t9] [⟨t44,[true],none⟩] Tryz.f61 (s_0,())=Z6c n s_0:=Eq.trans (b:=Z8b (Qpp n n) s_0) (by kernel_rfl) (by rw [Z1h n n];rfl)
theorem Zk7:Q4j tab.ty Tryz.prog 61 Z7m:=
 Qjd (Γ:=Qvg) (fi:=Qtv) (n:=1099511627776) follows (Qjq Zmt Qju) Qjz Tryz.func61 (by kernel_rfl) (by kernel_rfl) fun x r h=>(Zoj 1099511627776 x.1).trans h
abbrev Qoc:Type:=(Bool × Unit) × Unit
noncomputable def Z3e:Ctx:=[(61,Z7m)]
def Z0j:Fi:={ keep:=[],vty:=[],vals:=[],live:=[(0,[0,19,20,21,22,23,24,25,26,27,28,29,30,36,37,38]),(1,[3,19,20,21,22,23,24,25,26,27,28,29,30,36,37,38]),(2,[3,4,19,20,21,22,23,24,25,26,27,28,29,30,36,37,38]),(3,[3,4,10,19,20,21,22,23,24,25,26,27,28,29,30,36,37,38]),(4,[3,4,19,20,21,22,23,24,25,26,27,28,29,30,36,37,38]),(5,[3,4,19,20,21,22,23,24,25,26,27,28,29,30,31,36,37,38]),(6,[2]),(7,[2])] }
abbrev Z0x:Type:=Int→List Int→Option Qoc
noncomputable def Zee (L1:Z0x) (v2:Int) (v3:List Int):Option Qoc:=
 bif decide (v2<(v3.length:Int)) then
  bif decide (0≤v2)&&decide (v2<(v3.length:Int)) then
   bif decide (0≤v2)&&decide (v2<(v3.length:Int)) then
    bif decide (List.getD v3 v2.toNat 0<33) then
     some ((false,()),())
    else
    bif decide (0≤v2)&&decide (v2<(v3.length:Int)) then
     bif decide (0≤v2)&&decide (v2<(v3.length:Int)) then
      bif decide (List.getD v3 v2.toNat 0 ≥ 127) then
       bif decide (0≤v2)&&decide (v2<(v3.length:Int)) then
        bif decide (0≤v2)&&decide (v2<(v3.length:Int)) then
         bif decide (List.getD v3 v2.toNat 0≤159) then
          some ((false,()),())
         else
          L1 (IntKind.wrap .i64 (v2+1)) v3
        else none
       else none
      else
       L1 (IntKind.wrap .i64 (v2+1)) v3
     else none
    else none
   else none
  else none
 else
 bif decide ((v3.length:Int) ≥ 1) then
  some ((decide ((v3.length:Int)≤8),()),())
 else
  some ((false,()),())
noncomputable def Zi3 (L1:Z0x) (s_0:ByteArray):Option Qoc:=
 Option.bind (Zfl s_0) fun r1=>
 L1 0 r1.1.1
noncomputable def Zdi (n:Nat):Nat→Z0x:=iter (fun _ _=>none) fun L=>Zee L
noncomputable def Qta (n m:Nat) (v2:Int) (v3:List Int):Option Qoc:=
 Qjl Z3e tab (fiB [.val t9] Z0j) n [.val t9] [⟨t4,[false],none⟩] Tryz.f36 [1,1,0,1,0] [] [3,4] m
 ⟨[(3,V1 (.ref (888888,3))),(4,Vp t2 v2)],[((888888,3),Ob.row 3 t2 v3)]⟩
theorem Zp6 (n m:Nat):Qta n (m+1)=Zee (Qta n m):=by kernel_rfl
theorem Z9w (n:Nat):∀ m,Qta n m=Zdi n m
 | 0=>rfl
 | m+1=>by rw [Zp6 n m,Z9w n m];rfl
noncomputable def Ziz (n:Nat) (s_0:ByteArray):Option Qoc:=Zi3 (Zdi n n) s_0
noncomputable def Zoy (s_0:ByteArray):Option Qoc:=Ziz 1099511627776 s_0
noncomputable def Zi2:Ent:=⟨[.val t9],[⟨t4,[false],none⟩],fun x=>Zoy x.1⟩
theorem Zwd (n:Nat) (s_0:ByteArray):Qdf Z3e tab Z0j n [.val t9] [⟨t4,[false],none⟩] Tryz.f36 (s_0,())=Ziz n s_0:=Eq.trans (b:=Zi3 (Qta n n) s_0) (by kernel_rfl) (by rw [Z9w n n];rfl)
theorem Zqv:Q4j tab.ty Tryz.prog 36 Zi2:=
 Qjd (Γ:=Z3e) (fi:=Z0j) (n:=1099511627776) follows (Qjq Zk7 Qju) Qjz Tryz.func36 (by kernel_rfl) (by kernel_rfl) fun x r h=>(Zwd 1099511627776 x.1).trans h
noncomputable def Zo0 (id_0 inc_1 now_2 grand_3:Int):Option ((Qli × Unit) × Unit):=
 bif id_0==1 then
  some (((id_0,inc_1,now_2,0,0,grand_3,[1],0,now_2,0,0,0,[]),()),())
 else
  some (((id_0,inc_1,now_2,0,0,grand_3,[],0,0,0,0,0,[]),()),())
noncomputable def Zh3:Ent:=⟨[.val t2,.val t2,.val t2,.val t2],[⟨t50,(nF 6++[true,false,false,false,false,false,true]),none⟩],fun x=>Zo0 x.1 x.2.1 x.2.2.1 x.2.2.2.1⟩
theorem Zrr:Q4j tab.ty Tryz.prog 37 Zh3:=
 Qjd (Γ:=[]) (fi:={ keep:=[],vty:=[],vals:=[],live:=[(0,[0,1,2,3,8]),(1,[0,2,8,9]),(2,[2,8,9,16]),(3,[8,9]),(4,[8])] }) (n:=1) follows Qju Qjz Tryz.func37 (by kernel_rfl) (by kernel_rfl) fun x r h=>Eq.trans (by kernel_rfl) h
noncomputable def Zlt (n_0:Bool × Int × ByteArray × Qli × Qnc × Int) (id_1:Int) (name_2:ByteArray) (grand_3:Int):Option ((Z3k × Bool × Unit) × Unit):=
 bif n_0.1 then
  some ((n_0,false,()),())
 else
  Option.bind (Zoy name_2) fun r1=>
  bif !r1.1.1 then
   some ((n_0,false,()),())
  else
  bif decide (id_1<1) then
   some ((n_0,false,()),())
  else
  bif decide (id_1>8) then
   some ((n_0,false,()),())
  else
  bif decide (n_0.2.1 ≥ 1073741824) then
   some ((n_0,false,()),())
  else
   Option.bind (Zo0 id_1 (IntKind.wrap .i64 (n_0.2.1+1)) 0 grand_3) fun r2=>
   some (((true,IntKind.wrap .i64 (n_0.2.1+1),name_2,r2.1.1,(0,0,[],[],[],0,0),0),true,()),())
noncomputable def Qz9:Ent:=⟨[.val t58,.val t2,.val t9,.val t2],[⟨t58,(nF 24),none⟩,⟨t4,[false],none⟩],fun x=>Zlt x.1 x.2.1 x.2.2.1 x.2.2.2.1⟩
theorem Z3w:Q4j tab.ty Tryz.prog 17 Qz9:=
 Qjd (Γ:=[(36,Zi2),(37,Zh3)]) (fi:={ keep:=[],vty:=[],vals:=[],live:=[(0,[1,2,3,4,8,13,14,15,18,19,22,23,26,27,28]),(1,[1,2,3,4,8,29]),(2,[8,9]),(3,[8,9])] }) (n:=1) follows (Qjq Zqv (Qjq Zrr Qju)) Qjz Tryz.func17 (by kernel_rfl) (by kernel_rfl) fun x r h=>Eq.trans (by kernel_rfl) h
noncomputable def Qzz (d_0:List (List Int)) (k_1:Int):Option ((Zmw × Bool × Unit) × Unit):=
 Option.bind (Zsq d_0 k_1) fun r1=>
 bif !r1.1.2.1 then
  some ((([],[],[],0,[],[]),false,()),())
 else
  Option.bind (Znl r1.1.1 1) fun r2=>
  Option.bind (Zlt Qk4 1 (⟨#[114,111,111,116]⟩:ByteArray) 0) fun r3=>
  some ((([r3.1.1,Qk4,Qk4,Qk4,Qk4,Qk4,Qk4,Qk4],[],[],r2.1.1),true,()),())
noncomputable def Z2q:Ent:=⟨[.val t26,.val t2],[⟨t30,[true,true,true,false,false,false],none⟩,⟨t4,[false],none⟩],fun x=>Qzz x.1 x.2.1⟩
theorem Qw4:Q4j tab.ty Tryz.prog 5 Z2q:=
 Qjd (Γ:=[(15,Zlr),(16,Z2p),(17,Qz9)]) (fi:={ keep:=[],vty:=[],vals:=[],live:=[(0,[0,1,4]),(1,[4,6,7]),(2,[4,6,16]),(3,[4,5]),(4,[4,8]),(5,[4,8]),(6,[4,5])] }) (n:=1) follows (Qjq Zti (Qjq Z8i (Qjq Z3w Qju))) Qjz Tryz.func5 (by kernel_rfl) (by kernel_rfl) fun x r h=>Eq.trans (by kernel_rfl) h
abbrev Qpc:Type:=(Int × Unit) × Unit
noncomputable def Z5u:Ctx:=[(32,Qob)]
def Z38:Fi:={ keep:=[],vty:=[],vals:=[],live:=[(0,[1,2]),(1,[1,2,5]),(2,[1,2,5,11]),(3,[1,2,5]),(4,[1,2,5,6]),(5,[1,2,5,6,22]),(6,[4]),(7,[1,2,5,6,33]),(8,[4]),(9,[4])] }
abbrev Z2h:Type:=Int→Int→Int→List (List Int)→X4e→Option Qpc
noncomputable def Zj6 (L1:Z2h) (v1 v2 v3:Int) (v4:List (List Int)) (v5:List Qkr):Option Qpc:=
 bif decide (v2<(v5.length:Int)) then
  bif decide (0≤v2)&&decide (v2<(v5.length:Int)) then
   Option.bind (Qmx (List.getD v5 v2.toNat []) v1) fun r6=>
   bif decide (r6.1.1<0) then
    some ((0,()),())
   else
   bif decide (0≤v2)&&decide (v2<(v5.length:Int)) then
    bif decide (0≤r6.1.1)&&decide (r6.1.1<((List.getD v5 v2.toNat []).length:Int)) then
     bif ((List.getD (List.getD v5 v2.toNat []) r6.1.1.toNat ([],0)).2) != v1 then
      bif decide (0≤v2)&&decide (v2<(v5.length:Int)) then
       bif decide (0≤r6.1.1)&&decide (r6.1.1<((List.getD v5 v2.toNat []).length:Int)) then
        some (((List.getD (List.getD v5 v2.toNat []) r6.1.1.toNat ([],0)).2,()),())
       else none
      else none
     else
      L1 v1 (IntKind.wrap .i64 (v2+1)) v3 v4 v5
    else none
   else none
  else none
 else
  some ((0,()),())
noncomputable def Zm5 (L1:Z2h) (h_0:Int × Qp3 × List Qkr) (id_1:Int):Option Qpc:=
 L1 id_1 0 h_0.1 h_0.2.1 h_0.2.2
noncomputable def Zhv (n:Nat):Nat→Z2h:=iter (fun _ _ _ _ _=>none) fun L=>Zj6 L
noncomputable def Quu (n m:Nat) (v1 v2 v3:Int) (v4:List (List Int)) (v5:List Qkr):Option Qpc:=
 Qjl Z5u tab (fiB [.val t28,.val t2] Z38) n [.val t28,.val t2] [⟨t2,[false],none⟩] Tryz.f38 [1,0,1,0] [] [1,2,5] m
 ⟨[(1,Vp t2 v1),(2,V1 (.ptr (2,0) 0)),(5,Vp t2 v2)],[((2,0),Ob.box 29 [LV.pure t2 v3,LV.pure t26 v4,LV.pure t27 v5])]⟩
theorem Zqz (n m:Nat):Quu n (m+1)=Zj6 (Quu n m):=by kernel_rfl
theorem Zdf (n:Nat):∀ m,Quu n m=Zhv n m
 | 0=>rfl
 | m+1=>by rw [Zqz n m,Zdf n m];rfl
noncomputable def Zli (n:Nat) (h_0:Int × Qp3 × List Qkr) (id_1:Int):Option Qpc:=Zm5 (Zhv n n) h_0 id_1
noncomputable def X59 (h_0:Int × Qp3 × List Qkr) (id_1:Int):Option Qpc:=Zli 1099511627776 h_0 id_1
noncomputable def Zlo:Ent:=⟨[.val t28,.val t2],[⟨t2,[false],none⟩],fun x=>X59 x.1 x.2.1⟩
theorem Zx5 (n:Nat) (h_0:Int × Qp3 × List Qkr) (id_1:Int):Qdf Z5u tab Z38 n [.val t28,.val t2] [⟨t2,[false],none⟩] Tryz.f38 (h_0,id_1,())=Zli n h_0 id_1:=Eq.trans (b:=Zm5 (Quu n n) h_0 id_1) (by kernel_rfl) (by rw [Zdf n n];rfl)
theorem Zt2:Q4j tab.ty Tryz.prog 38 Zlo:=
 Qjd (Γ:=Z5u) (fi:=Z38) (n:=1099511627776) follows (Qjq Qnv Qju) Qjz Tryz.func38 (by kernel_rfl) (by kernel_rfl) fun x r h=>(Zx5 1099511627776 x.1 x.2.1).trans h
abbrev Qmd:Type:=(Bool × Unit) × Unit
noncomputable def Qvk:Ctx:=[(55,Qnm)]
def Qum:Fi:={ keep:=[],vty:=[],vals:=[],live:=[(0,[0,8,9,10,13,14,15,16,30,31,32,33,34,37,38,39,40,41,42,43,44]),(1,[0,17,30,31,32,33,34,37,38,39,40,41,42,43,44]),(2,[2]),(3,[0,3,30,31,32,33,34,37,38,39,40,41,42,43,44]),(4,[0,3,21,30,31,32,33,34,37,38,39,40,41,42,43,44]),(5,[0,3,30,31,32,33,34,37,38,39,40,41,42,43,44]),(6,[0,3,30,31,32,33,34,37,38,39,40,41,42,43,44,45]),(7,[2]),(8,[2])] }
abbrev Qu8:Type:=List Int→Int→Option Qmd
noncomputable def Z59 (L1:Qu8) (v1:List Int) (v2:Int):Option Qmd:=
 bif decide (v2<(v1.length:Int)) then
  bif decide (0≤v2)&&decide (v2<(v1.length:Int)) then
   bif decide (List.getD v1 v2.toNat 0<1) then
    some ((false,()),())
   else
   bif decide (0≤v2)&&decide (v2<(v1.length:Int)) then
    bif decide (List.getD v1 v2.toNat 0>8) then
     some ((false,()),())
    else
    bif decide (0≤v2)&&decide (v2≤(v1.length:Int)) then
     bif decide (0≤v2)&&decide (v2<(v1.length:Int)) then
      Option.bind (Qm3 (List.drop 0 (List.take v2.toNat v1)) (List.getD v1 v2.toNat 0)) fun r3=>
      bif r3.1.1 then
       some ((false,()),())
      else
       L1 v1 (IntKind.wrap .i64 (v2+1))
     else none
    else none
   else none
  else none
 else
  some ((true,()),())
noncomputable def Z6k (L1:Qu8) (p_0:List Int):Option Qmd:=
 bif decide ((p_0.length:Int)<1) then
  some ((false,()),())
 else
 bif decide ((p_0.length:Int)>10) then
  some ((false,()),())
 else
 bif decide (0<(p_0.length:Int)) then
  bif (List.getD p_0 0 0) != 1 then
   some ((false,()),())
  else
   L1 p_0 0
 else none
noncomputable def Z3u (n:Nat):Nat→Qu8:=iter (fun _ _=>none) fun L=>Z59 L
noncomputable def Qpj (n m:Nat) (v1:List Int) (v2:Int):Option Qmd:=
 Qjl Qvk tab (fiB [.val t44] Qum) n [.val t44] [⟨t4,[false],none⟩] Tryz.f112 [1,1,0,1,0] [] [0,3] m
 ⟨[(0,Vp t44 v1),(3,Vp t2 v2)],[]⟩
theorem Zj4 (n m:Nat):Qpj n (m+1)=Z59 (Qpj n m):=by kernel_rfl
theorem Z1f (n:Nat):∀ m,Qpj n m=Z3u n m
 | 0=>rfl
 | m+1=>by rw [Zj4 n m,Z1f n m];rfl
noncomputable def Z6d (n:Nat) (p_0:List Int):Option Qmd:=Z6k (Z3u n n) p_0
noncomputable def Zew (p_0:List Int):Option Qmd:=Z6d 1099511627776 p_0
noncomputable def Qvl:Ent:=⟨[.val t44],[⟨t4,[false],none⟩],fun x=>Zew x.1⟩
theorem Zpb (n:Nat) (p_0:List Int):Qdf Qvk tab Qum n [.val t44] [⟨t4,[false],none⟩] Tryz.f112 (p_0,())=Z6d n p_0:=Eq.trans (b:=Z6k (Qpj n n) p_0) (by kernel_rfl) (by rw [Z1f n n];rfl)
theorem Z0c:Q4j tab.ty Tryz.prog 112 Qvl:=
 Qjd (Γ:=Qvk) (fi:=Qum) (n:=1099511627776) follows (Qjq Qmp Qju) Qjz Tryz.func112 (by kernel_rfl) (by kernel_rfl) fun x r h=>(Zpb 1099511627776 x.1).trans h
noncomputable def X16 (n_0:Int):Option ((Bool × Unit) × Unit):=
 bif decide (n_0 ≥ 0) then
  some ((decide (n_0≤1000000),()),())
 else
  some ((false,()),())
noncomputable def Zho:Ent:=⟨[.val t2],[⟨t4,[false],none⟩],fun x=>X16 x.1⟩
theorem Zqt:Q4j tab.ty Tryz.prog 113 Zho:=
 Qjd (Γ:=[]) (fi:={ keep:=[],vty:=[],vals:=[],live:=[(0,[0,6,7]),(1,[2])] }) (n:=1) follows Qju Qjz Tryz.func113 (by kernel_rfl) (by kernel_rfl) fun x r h=>Eq.trans (by kernel_rfl) h
noncomputable def Qzp (s_0:Int × Int):Option ((Bool × Unit) × Unit):=
 bif decide (s_0.1 ≥ 1) then
  bif decide (s_0.1≤s_0.2) then
   some ((decide (s_0.2≤1000000),()),())
  else
   some ((false,()),())
 else
  some ((false,()),())
noncomputable def Qql:Ent:=⟨[.val t54],[⟨t4,[false],none⟩],fun x=>Qzp x.1⟩
theorem Qr9:Q4j tab.ty Tryz.prog 114 Qql:=
 Qjd (Γ:=[]) (fi:={ keep:=[],vty:=[],vals:=[],live:=[(0,[1,7,8,9,10,11,14,15,16]),(1,[2])] }) (n:=1) follows Qju Qjz Tryz.func114 (by kernel_rfl) (by kernel_rfl) fun x r h=>Eq.trans (by kernel_rfl) h
abbrev Qm1:Type:=(Bool × Unit) × Unit
noncomputable def Qtz:Ctx:=[]
def Qsv:Fi:={ keep:=[],vty:=[],vals:=[],live:=[(0,[0,1]),(1,[0,1,10]),(2,[4]),(3,[0,1,5]),(4,[0,1,5,14]),(5,[0,1,5]),(6,[0,1,5,25]),(7,[4]),(8,[4])] }
abbrev Qsy:Type:=List Int→List Int→Int→Option Qm1
noncomputable def Z1a (L1:Qsy) (v1 v2:List Int) (v3:Int):Option Qm1:=
 bif decide (v3<(v1.length:Int)) then
  bif decide (0≤v3)&&decide (v3<(v1.length:Int)) then
   bif decide (0≤v3)&&decide (v3<(v2.length:Int)) then
    bif (List.getD v1 v3.toNat 0) != (List.getD v2 v3.toNat 0) then
     some ((false,()),())
    else
     L1 v1 v2 (IntKind.wrap .i64 (v3+1))
   else none
  else none
 else
  some ((true,()),())
noncomputable def Z3x (L1:Qsy) (a_0 b_1:List Int):Option Qm1:=
 bif (a_0.length:Int) != (b_1.length:Int) then
  some ((false,()),())
 else
  L1 a_0 b_1 0
noncomputable def Z1x (n:Nat):Nat→Qsy:=iter (fun _ _ _=>none) fun L=>Z1a L
noncomputable def Qow (n m:Nat) (v1 v2:List Int) (v3:Int):Option Qm1:=
 Qjl Qtz tab (fiB [.val t44,.val t44] Qsv) n [.val t44,.val t44] [⟨t4,[false],none⟩] Tryz.f154 [1,1,0,1,0] [] [0,1,5] m
 ⟨[(0,Vp t44 v1),(1,Vp t44 v2),(5,Vp t2 v3)],[]⟩
theorem Zg8 (n m:Nat):Qow n (m+1)=Z1a (Qow n m):=by kernel_rfl
theorem Qyz (n:Nat):∀ m,Qow n m=Z1x n m
 | 0=>rfl
 | m+1=>by rw [Zg8 n m,Qyz n m];rfl
noncomputable def Z4i (n:Nat) (a_0 b_1:List Int):Option Qm1:=Z3x (Z1x n n) a_0 b_1
noncomputable def Zte (a_0 b_1:List Int):Option Qm1:=Z4i 1099511627776 a_0 b_1
noncomputable def Z3v:Ent:=⟨[.val t44,.val t44],[⟨t4,[false],none⟩],fun x=>Zte x.1 x.2.1⟩
theorem Zni (n:Nat) (a_0 b_1:List Int):Qdf Qtz tab Qsv n [.val t44,.val t44] [⟨t4,[false],none⟩] Tryz.f154 (a_0,b_1,())=Z4i n a_0 b_1:=Eq.trans (b:=Z3x (Qow n n) a_0 b_1) (by kernel_rfl) (by rw [Qyz n n];rfl)
theorem Zja:Q4j tab.ty Tryz.prog 154 Z3v:=
 Qjd (Γ:=Qtz) (fi:=Qsv) (n:=1099511627776) follows Qju Qjz Tryz.func154 (by kernel_rfl) (by kernel_rfl) fun x r h=>(Zni 1099511627776 x.1 x.2.1).trans h
noncomputable def Z5k:Ctx:=[(154,Z3v)]
def Z21:Fi:={ keep:=[],vty:=[],vals:=[],live:=[(0,[2,3,11,12,13,14,15,18,19,20,21,22,25,26,27,28,29,32,33,34,35,36,39,40,41,42,43,46,47,48,49,50,53,54,55,56,57,60,61,62,63,64,67,68,69,70,71]),(1,[4])] }
noncomputable def Zpg (x:PDs [.val Qsi,.val Qsi]):Option (RDs [⟨t4,[false],none⟩] × ODs [.val Qsi,.val Qsi]):=Qdf Z5k tab Z21 1099511627776 [.val Qsi,.val Qsi] [⟨t4,[false],none⟩] Tryz.f115 x
noncomputable def Ztw (x0:Int × Int × Int × Int × Int × Int × (List Int) × Int × Int × ByteArray) (x1:Int × Int × Int × Int × Int × Int × (List Int) × Int × Int × ByteArray):Option ((Bool × Unit) × Unit):=Zpg (x0,x1,())
noncomputable def Z40:Ent:=⟨[.val Qsi,.val Qsi],[⟨t4,[false],none⟩],fun x=>Ztw x.1 x.2.1⟩
theorem Zgr:Q4j tab.ty Tryz.prog 115 Z40:=by
  refine Qjd (Γ:=Z5k) (fi:=Z21) (n:=1099511627776) follows (Qjq Zja Qju) Qjz Tryz.func115 (by kernel_rfl) (by kernel_rfl) (fun x r h=>?_)
  obtain ⟨x0,x1,_u⟩:=x
  exact h
noncomputable def Z8w:Ctx:=[(112,Qvl),(113,Zho),(114,Qql),(115,Z40)]
def Z3p:Fi:={ keep:=[],vty:=[],vals:=[],live:=[(0,[1,9,10,11,14,15,16,19,20,21,24,25,26,29,30,31,34,35,36,37,38,41,42,43,46,47,48,77,78,79,82,83,84,87,88,89,92,93,94,104,105,106,113,114,115,129,130,131,134,135,136,137,156,157,158]),(1,[1,49,77,78,79,82,83,84,87,88,89,92,93,94,104,105,106,113,114,115,129,130,131,134,135,136,137,156,157,158]),(2,[2]),(3,[1,3,77,78,79,82,83,84,87,88,89,92,93,94,104,105,106,113,114,115,129,130,131,134,135,136,137,156,157,158]),(4,[1,3,4,77,78,79,82,83,84,87,88,89,92,93,94,104,105,106,113,114,115,129,130,131,134,135,136,137,156,157,158]),(5,[1,3,4,60,77,78,79,82,83,84,87,88,89,92,93,94,104,105,106,113,114,115,129,130,131,134,135,136,137,156,157,158]),(6,[1,3,4,60,61,77,78,79,82,83,84,87,88,89,92,93,94,104,105,106,113,114,115,129,130,131,134,135,136,137,156,157,158]),(7,[1,3,4,60,61,77,78,79,82,83,84,87,88,89,92,93,94,104,105,106,113,114,115,129,130,131,134,135,136,137,156,157,158]),(8,[1,3,77,78,79,82,83,84,87,88,89,92,93,94,104,105,106,113,114,115,156,157,158]),(9,[1,3,4,104,105,106,113,114,115,156,157,158]),(10,[1,3,4,98,104,105,106,113,114,115,156,157,158]),(11,[1,3,4,104,105,106,156,157,158]),(12,[1,3,4,156,157,158]),(13,[1,3,4,113,114,115,156,157,158]),(14,[1,3,4,156,157,158]),(15,[1,3,4,60,117,129,130,131,134,135,136,137,156,157,158]),(16,[1,3,129,130,131,134,135,136,137,156,157,158]),(17,[1,3,4,156,157,158]),(18,[1,3,4,60,139,156,157,158]),(19,[1,3,4,139,156,157,158]),(20,[1,3,156,157,158]),(21,[1,3,4,156,157,158]),(22,[2])] }
noncomputable def Zqk (x:PDs [.val Qsi]):Option (RDs [⟨t4,[false],none⟩] × ODs [.val Qsi]):=Qdf Z8w tab Z3p 1099511627776 [.val Qsi] [⟨t4,[false],none⟩] Tryz.f69 x
noncomputable def Zwc (x0:Int × Int × Int × Int × Int × Int × (List Int) × Int × Int × ByteArray):Option ((Bool × Unit) × Unit):=Zqk (x0,())
noncomputable def Z80:Ent:=⟨[.val Qsi],[⟨t4,[false],none⟩],fun x=>Zwc x.1⟩
theorem Zkw:Q4j tab.ty Tryz.prog 69 Z80:=by
  refine Qjd (Γ:=Z8w) (fi:=Z3p) (n:=1099511627776) follows (Qjq Z0c (Qjq Zqt (Qjq Qr9 (Qjq Zgr Qju)))) Qjz Tryz.func69 (by kernel_rfl) (by kernel_rfl) (fun x r h=>?_)
  obtain ⟨x0,_u⟩:=x
  exact h
noncomputable def Z6y:Ctx:=[]
def Z4a:Fi:={ keep:=[],vty:=[(4,66),(5,66),(7,66),(11,66),(20,66)],vals:=[],live:=[(0,[0,1]),(1,[1,5]),(2,[1,5,10]),(3,[1,5]),(4,[4])] }
noncomputable def Zrb (x:PDs [.val t66,.val t2]):Option (RDs [⟨t66,[true],none⟩] × ODs [.val t66,.val t2]):=Qdf Z6y tab Z4a 1099511627776 [.val t66,.val t2] [⟨t66,[true],none⟩] Tryz.f70 x
noncomputable def Zd6 (x0:List Int) (x1:Int):Option (((List Int) × Unit) × Unit):=Zrb (x0,x1,())
noncomputable def Qvo:Ent:=⟨[.val t66,.val t2],[⟨t66,[true],none⟩],fun x=>Zd6 x.1 x.2.1⟩
theorem Qzb:Q4j tab.ty Tryz.prog 70 Qvo:=by
  refine Qjd (Γ:=Z6y) (fi:=Z4a) (n:=1099511627776) follows Qju Qjz Tryz.func70 (by kernel_rfl) (by kernel_rfl) (fun x r h=>?_)
  obtain ⟨x0,x1,_u⟩:=x
  exact h
noncomputable def Ztg (b_0:List Int) (s_1:ByteArray):Option (((List Int) × Unit) × Unit):=
 Option.bind (Zd6 b_0 (s_1.size:Int)) fun r1=>
 bif Nat.ble (r1.1.1.length+(s_1.data.toList.map fun b=>(b.toNat:Int)).length) 1073741824 then
  some ((r1.1.1++(s_1.data.toList.map fun b=>(b.toNat:Int)),()),())
 else none
noncomputable def Z4c:Ent:=⟨[.val t66,.val t9],[⟨t66,[true],none⟩],fun x=>Ztg x.1 x.2.1⟩
theorem Zhq:Q4j tab.ty Tryz.prog 71 Z4c:=
 Qjd (Γ:=[(70,Qvo)]) (fi:={ keep:=[],vty:=[],vals:=[],live:=[(0,[0,1]),(1,[4])] }) (n:=1) follows (Qjq Qzb Qju) Qjz Tryz.func71 (by kernel_rfl) (by kernel_rfl) fun x r h=>Eq.trans (by kernel_rfl) h
noncomputable def Zic:Ctx:=[]
def Zf4:Fi:={ keep:=[],vty:=[(7,66),(13,66)],vals:=[],live:=[(0,[0]),(1,[0,3]),(2,[0,3,4]),(3,[0,3,4,9]),(4,[0,3,4]),(5,[0,3,4]),(6,[0,3,4,5]),(7,[0,3,4,5,20]),(8,[0,3,4,5]),(9,[0,3,4,5,25]),(10,[0,3,4,5]),(11,[0,3,4,5]),(12,[2])] }
noncomputable def Zxx (x:PDs [.val t66]):Option (RDs [⟨Xar,[false],none⟩] × ODs [.val t66]):=Qdf Zic tab Zf4 1099511627776 [.val t66] [⟨Xar,[false],none⟩] Tryz.f72 x
noncomputable def X2f (x0:List Int):Option ((Int × Unit) × Unit):=Zxx (x0,())
noncomputable def Zj8:Ent:=⟨[.val t66],[⟨Xar,[false],none⟩],fun x=>X2f x.1⟩
theorem Zr5:Q4j tab.ty Tryz.prog 72 Zj8:=by
  refine Qjd (Γ:=Zic) (fi:=Zf4) (n:=1099511627776) follows Qju Qjz Tryz.func72 (by kernel_rfl) (by kernel_rfl) (fun x r h=>?_)
  obtain ⟨x0,_u⟩:=x
  exact h
noncomputable def Z7z:Ctx:=[(69,Z80),(70,Qvo),(71,Z4c),(72,Zj8)]
def Z4e:Fi:={ keep:=[],vty:=[(2,66),(3,44),(4,66),(26,44),(37,44),(42,66),(43,44),(48,66),(52,66),(54,66)],vals:=[],live:=[(0,[1]),(1,[1,9]),(2,[2]),(3,[1,3]),(4,[1,3]),(5,[1,3,4]),(6,[1,3,4,5]),(7,[1,3,4,5,39]),(8,[1,3,4,5]),(9,[1,3,4,5]),(10,[4]),(11,[4,6]),(12,[2])] }
noncomputable def Zr7 (x:PDs [.val Qsi]):Option (RDs [⟨t66,[true],none⟩] × ODs [.val Qsi]):=Qdf Z7z tab Z4e 1099511627776 [.val Qsi] [⟨t66,[true],none⟩] Tryz.f45 x
noncomputable def Z08 (x0:Int × Int × Int × Int × Int × Int × (List Int) × Int × Int × ByteArray):Option (((List Int) × Unit) × Unit):=Zr7 (x0,())
noncomputable def Qvh:Ent:=⟨[.val Qsi],[⟨t66,[true],none⟩],fun x=>Z08 x.1⟩
theorem Z06:Q4j tab.ty Tryz.prog 45 Qvh:=by
  refine Qjd (Γ:=Z7z) (fi:=Z4e) (n:=1099511627776) follows (Qjq Zkw (Qjq Qzb (Qjq Zhq (Qjq Zr5 Qju)))) Qjz Tryz.func45 (by kernel_rfl) (by kernel_rfl) (fun x r h=>?_)
  obtain ⟨x0,_u⟩:=x
  exact h
noncomputable def Qwm (l_0:List Z8z) (g_1:Int × ByteArray × Bool):Option ((Qq2 × Unit) × Unit):=
 bif Nat.ble (0+l_0.length) 1073741824 then
  bif decide ((l_0.length:Int)<60) then
   bif Nat.ble (([]++l_0).length+1) 1073741824 then
    some ((([]++l_0)++[g_1],()),())
   else none
  else
   some (([]++l_0,()),())
 else none
noncomputable def Qzx:Ent:=⟨[.val t24,.val t74],[⟨t24,[true],none⟩],fun x=>Qwm x.1 x.2.1⟩
theorem Z4x:Q4j tab.ty Tryz.prog 46 Qzx:=
 Qjd (Γ:=[]) (fi:={ keep:=[],vty:=[],vals:=[],live:=[(0,[0,3]),(1,[0,3,5]),(2,[3,5,11]),(3,[5]),(4,[4])] }) (n:=1) follows Qju Qjz Tryz.func46 (by kernel_rfl) (by kernel_rfl) fun x r h=>Eq.trans (by kernel_rfl) h
abbrev Ql4:Type:=Zka × Unit
noncomputable def Qtk:Ctx:=[(45,Qvh),(46,Qzx)]
def Qr7:Fi:={ keep:=[],vty:=[],vals:=[],live:=[(0,[1,3,4,6,8]),(1,[1,3,4,6,8]),(2,[3,4,8]),(3,[3,4,8,9]),(4,[3,4,8,9,24]),(5,[3,4,8,9]),(6,[3,4,8,9,10]),(7,[3,4,8,9,10,34]),(8,[3,4,8,9]),(9,[8])] }
abbrev Qwq:Type:=Qtq→Int→Qq2→List ByteArray→Int→List (List Int)→X4e→Qsj→Int→Qsj→Qq2→List ByteArray→List (List Int)→X4e→Option Ql4
abbrev Qww:Type:=Qtq→Int→List ByteArray→Int→List (List Int)→X4e→Qsj→Qq2→Int→Qsj→Qq2→List ByteArray→List (List Int)→X4e→Option Ql4
noncomputable def Zbr (L2:Qww) (L1:Qwq) (v1:List Qko) (v2:Int) (v3:List Z8z) (v4:List ByteArray) (v5:Int) (v6:List (List Int)) (v7:List Qkr) (v8:List Z3k) (v9:Int) (v10:List Z3k) (v11:List Z8z) (v12:List ByteArray) (v13:List (List Int)) (v14:List Qkr):Option Ql4:=
 bif decide (v2<(v1.length:Int)) then
  bif decide (0≤v2)&&decide (v2<(v1.length:Int)) then
   Option.bind (Z08 ((List.getD v1 v2.toNat Ql1).1,((List.getD v1 v2.toNat Ql1).2).1,(((List.getD v1 v2.toNat Ql1).2).2).1,((((List.getD v1 v2.toNat Ql1).2).2).2).1,(((((List.getD v1 v2.toNat Ql1).2).2).2).2).1,((((((List.getD v1 v2.toNat Ql1).2).2).2).2).2).1,(((((((List.getD v1 v2.toNat Ql1).2).2).2).2).2).2).1,((((((((List.getD v1 v2.toNat Ql1).2).2).2).2).2).2).2).1,(((((((((List.getD v1 v2.toNat Ql1).2).2).2).2).2).2).2).2))) fun r15=>
   bif decide ((r15.1.1.length:Int)>0) then
    bif decide (0≤v2)&&decide (v2<(v1.length:Int)) then
     Option.bind (Qwm v3 ((((List.getD v1 v2.toNat Ql1).2).2).1,Q4w r15.1.1,false)) fun r16=>
     L2 v1 (IntKind.wrap .i64 (v2+1)) v4 v5 v6 v7 v8 r16.1.1 v9 v10 v11 v12 v13 v14
    else none
   else
    L1 v1 (IntKind.wrap .i64 (v2+1)) v3 v4 v5 v6 v7 v8 v9 v10 v11 v12 v13 v14
  else none
 else
  some (((v8,v3,v4,v5,v6,v7),()),())
noncomputable def Zbb (L2:Qww) (v17:List Qko) (v18:Int) (v19:List ByteArray) (v20:Int) (v21:List (List Int)) (v22:List Qkr) (v23:List Z3k) (v24:List Z8z) (v25:Int) (v26:List Z3k) (v27:List Z8z) (v28:List ByteArray) (v29:List (List Int)) (v30:List Qkr):Option Ql4:=
 bif decide (v18<(v17.length:Int)) then
  bif decide (0≤v18)&&decide (v18<(v17.length:Int)) then
   Option.bind (Z08 ((List.getD v17 v18.toNat Ql1).1,((List.getD v17 v18.toNat Ql1).2).1,(((List.getD v17 v18.toNat Ql1).2).2).1,((((List.getD v17 v18.toNat Ql1).2).2).2).1,(((((List.getD v17 v18.toNat Ql1).2).2).2).2).1,((((((List.getD v17 v18.toNat Ql1).2).2).2).2).2).1,(((((((List.getD v17 v18.toNat Ql1).2).2).2).2).2).2).1,((((((((List.getD v17 v18.toNat Ql1).2).2).2).2).2).2).2).1,(((((((((List.getD v17 v18.toNat Ql1).2).2).2).2).2).2).2).2))) fun r31=>
   bif decide ((r31.1.1.length:Int)>0) then
    bif decide (0≤v18)&&decide (v18<(v17.length:Int)) then
     Option.bind (Qwm v24 ((((List.getD v17 v18.toNat Ql1).2).2).1,Q4w r31.1.1,false)) fun r32=>
     L2 v17 (IntKind.wrap .i64 (v18+1)) v19 v20 v21 v22 v23 r32.1.1 v25 v26 v27 v28 v29 v30
    else none
   else
    L2 v17 (IntKind.wrap .i64 (v18+1)) v19 v20 v21 v22 v23 v24 v25 v26 v27 v28 v29 v30
  else none
 else
  some (((v23,v24,v19,v20,v21,v22),()),())
noncomputable def Zeh (L1:Qwq) (w_0:Qsj × Qq2 × (List ByteArray) × Int × Qp3 × List Qkr) (i_1:Int) (n_2:Bool × Int × ByteArray × Qli × Qnc × Int) (l_3:List Qko):Option Ql4:=
 bif Nat.ble (0+w_0.1.length) 1073741824 then
  bif decide (0≤i_1)&&decide (i_1<(([]++w_0.1).length:Int)) then
   bif decide (0≤i_1)&&decide (i_1<(([]++w_0.1).length:Int)) then
    L1 l_3 0 w_0.2.1 w_0.2.2.1 (g3 w_0) (g4 w_0) (h5 w_0) (List.set ([]++w_0.1) i_1.toNat n_2) 0 [] [] [] [] []
   else none
  else none
 else none
noncomputable def Za3 (n:Nat):Nat→Qww:=iter (fun _ _ _ _ _ _ _ _ _ _ _ _ _ _=>none) fun L=>Zbb L
noncomputable def Za7 (n:Nat):Nat→Qwq:=Qj7 (fun _ _ _ _ _ _ _ _ _ _ _ _ _ _=>none) fun m L=>Zbr (Za3 n m) L
noncomputable def Qrj (n m:Nat) (v1:List Qko) (v2:Int) (v3:List Z8z) (v4:List ByteArray) (v5:Int) (v6:List (List Int)) (v7:List Qkr) (v8:List Z3k) (v9:Int) (v10:List Z3k) (v11:List Z8z) (v12:List ByteArray) (v13:List (List Int)) (v14:List Qkr):Option Ql4:=
 Qjl Qtk tab (fiB [.val t30,.val t2,.val t58,.val t70] Qr7) n [.val t30,.val t2,.val t58,.val t70] [⟨t30,[true,false,false,false,false,false],none⟩] Tryz.f21 [1,1,1,0,1,0] [] [3,4,8,9] m
 ⟨[(3,Vp t70 v1),(4,V1 (.ptr (4,0) 0)),(8,V1 (.ptr (8,0) 0)),(9,Vp t2 v2)],[((4,0),Ob.box 31 [LV.ref (4,1),LV.pure t24 v3,LV.pure t25 v4,LV.pure t2 v5,LV.pure t26 v6,LV.pure t27 v7]),((4,1),Ob.row 59 t58 v8),((8,0),Ob.box 31 [LV.ref (8,1),LV.ref (8,2),LV.ref (8,3),LV.pure t2 v9,LV.ref (8,5),LV.ref (8,6)]),((8,1),Ob.row 59 t58 v10),((8,2),Ob.row 75 t74 v11),((8,3),Ob.row 9 t9 v12),((8,5),Ob.row 44 t44 v13),((8,6),Ob.row 88 t88 v14)]⟩
noncomputable def Qrh (n m:Nat) (v17:List Qko) (v18:Int) (v19:List ByteArray) (v20:Int) (v21:List (List Int)) (v22:List Qkr) (v23:List Z3k) (v24:List Z8z) (v25:Int) (v26:List Z3k) (v27:List Z8z) (v28:List ByteArray) (v29:List (List Int)) (v30:List Qkr):Option Ql4:=
 Qjl Qtk tab (fiB [.val t30,.val t2,.val t58,.val t70] Qr7) n [.val t30,.val t2,.val t58,.val t70] [⟨t30,[true,false,false,false,false,false],none⟩] Tryz.f21 [1,1,1,0,1,0] [] [3,4,8,9] m
 ⟨[(3,Vp t70 v17),(4,V1 (.ptr (4,0) 0)),(8,V1 (.ptr (8,0) 0)),(9,Vp t2 v18)],[((4,0),Ob.box 31 [LV.ref (4,1),LV.ref (4,2),LV.pure t25 v19,LV.pure t2 v20,LV.pure t26 v21,LV.pure t27 v22]),((4,1),Ob.row 59 t58 v23),((4,2),Ob.row 75 t74 v24),((8,0),Ob.box 31 [LV.ref (8,1),LV.ref (8,2),LV.ref (8,3),LV.pure t2 v25,LV.ref (8,5),LV.ref (8,6)]),((8,1),Ob.row 59 t58 v26),((8,2),Ob.row 75 t74 v27),((8,3),Ob.row 9 t9 v28),((8,5),Ob.row 44 t44 v29),((8,6),Ob.row 88 t88 v30)]⟩
theorem Zmx (n m:Nat):Qrj n (m+1)=Zbr (Qrh n m) (Qrj n m):=by kernel_rfl
theorem Zmn (n m:Nat):Qrh n (m+1)=Zbb (Qrh n m):=by kernel_rfl
theorem Z6g (n:Nat):∀ m,Qrh n m=Za3 n m
 | 0=>rfl
 | m+1=>by rw [Zmn n m,Z6g n m];rfl
theorem Z8r (n:Nat):∀ m,Qrj n m=Za7 n m
 | 0=>rfl
 | m+1=>by rw [Zmx n m,Z6g n m,Z8r n m];rfl
noncomputable def Zfj (n:Nat) (w_0:Qsj × Qq2 × (List ByteArray) × Int × Qp3 × List Qkr) (i_1:Int) (n_2:Bool × Int × ByteArray × Qli × Qnc × Int) (l_3:List Qko):Option Ql4:=Zeh (Za7 n n) w_0 i_1 n_2 l_3
noncomputable def Z6a (w_0:Qsj × Qq2 × (List ByteArray) × Int × Qp3 × List Qkr) (i_1:Int) (n_2:Bool × Int × ByteArray × Qli × Qnc × Int) (l_3:List Qko):Option Ql4:=Zfj 1099511627776 w_0 i_1 n_2 l_3
noncomputable def Qte:Ent:=⟨[.val t30,.val t2,.val t58,.val t70],[⟨t30,[true,false,false,false,false,false],none⟩],fun x=>Z6a x.1 x.2.1 x.2.2.1 x.2.2.2.1⟩
theorem Ztr (n:Nat) (w_0:Qsj × Qq2 × (List ByteArray) × Int × Qp3 × List Qkr) (i_1:Int) (n_2:Bool × Int × ByteArray × Qli × Qnc × Int) (l_3:List Qko):Qdf Qtk tab Qr7 n [.val t30,.val t2,.val t58,.val t70] [⟨t30,[true,false,false,false,false,false],none⟩] Tryz.f21 (w_0,i_1,n_2,l_3,())=Zfj n w_0 i_1 n_2 l_3:=Eq.trans (b:=Zeh (Qrj n n) w_0 i_1 n_2 l_3) (by kernel_rfl) (by rw [Z8r n n];rfl)
theorem Quo:Q4j tab.ty Tryz.prog 21 Qte:=
 Qjd (Γ:=Qtk) (fi:=Qr7) (n:=1099511627776) follows (Qjq Z06 (Qjq Z4x Qju)) Qjz Tryz.func21 (by kernel_rfl) (by kernel_rfl) fun x r h=>(Ztr 1099511627776 x.1 x.2.1 x.2.2.1 x.2.2.2.1).trans h
abbrev Qng:Type:=(Zjb × Unit) × Unit
noncomputable def Qyu:Ctx:=[]
def Qx9:Fi:={ keep:=[],vty:=[(5,49)],vals:=[],live:=[(0,[0,1]),(1,[0,1,5]),(2,[0,1,5,6]),(3,[0,1,5,6,10]),(4,[0,1,5,6]),(5,[0,1,5,6,20]),(6,[0,1,5,6]),(7,[4])] }
abbrev Qxj:Type:=Zjb→Int→Int→Zjb→Option Qng
noncomputable def Zav (L1:Qxj) (v1:List Qkm) (v2 v3:Int) (v4:List Qkm):Option Qng:=
 bif decide (v3<(v1.length:Int)) then
  bif decide (0≤v3)&&decide (v3<(v1.length:Int)) then
   bif decide (IntKind.wrap .i64 (v2 - (((List.getD v1 v3.toNat (0,0,0)).2).2))≤20) then
    bif decide (0≤v3)&&decide (v3<(v1.length:Int)) then
     bif Nat.ble (v4.length+1) 1073741824 then
      L1 v1 v2 (IntKind.wrap .i64 (v3+1)) (v4++[(List.getD v1 v3.toNat (0,0,0))])
     else none
    else none
   else
    L1 v1 v2 (IntKind.wrap .i64 (v3+1)) v4
  else none
 else
  some ((v4,()),())
noncomputable def Zf9 (L1:Qxj) (l_0:List Qkm) (now_1:Int):Option Qng:=
 L1 l_0 now_1 0 []
noncomputable def Zbw (n:Nat):Nat→Qxj:=iter (fun _ _ _ _=>none) fun L=>Zav L
noncomputable def Qrp (n m:Nat) (v1:List Qkm) (v2 v3:Int) (v4:List Qkm):Option Qng:=
 Qjl Qyu tab (fiB [.val t49,.val t2] Qx9) n [.val t49,.val t2] [⟨t49,[true],none⟩] Tryz.f102 [1,1,0,1,0] [] [0,1,5,6] m
 ⟨[(0,Vp t49 v1),(1,Vp t2 v2),(5,V1 (.ref (888888,5))),(6,Vp t2 v3)],[((888888,5),Ob.row 84 t83 v4)]⟩
theorem Zmm (n m:Nat):Qrp n (m+1)=Zav (Qrp n m):=by kernel_rfl
theorem Z7u (n:Nat):∀ m,Qrp n m=Zbw n m
 | 0=>rfl
 | m+1=>by rw [Zmm n m,Z7u n m];rfl
noncomputable def Zd9 (n:Nat) (l_0:List Qkm) (now_1:Int):Option Qng:=Zf9 (Zbw n n) l_0 now_1
noncomputable def X0f (l_0:List Qkm) (now_1:Int):Option Qng:=Zd9 1099511627776 l_0 now_1
noncomputable def Zed:Ent:=⟨[.val t49,.val t2],[⟨t49,[true],none⟩],fun x=>X0f x.1 x.2.1⟩
theorem Zto (n:Nat) (l_0:List Qkm) (now_1:Int):Qdf Qyu tab Qx9 n [.val t49,.val t2] [⟨t49,[true],none⟩] Tryz.f102 (l_0,now_1,())=Zd9 n l_0 now_1:=Eq.trans (b:=Zf9 (Qrp n n) l_0 now_1) (by kernel_rfl) (by rw [Z7u n n];rfl)
theorem Zq6:Q4j tab.ty Tryz.prog 102 Zed:=
 Qjd (Γ:=Qyu) (fi:=Qx9) (n:=1099511627776) follows Qju Qjz Tryz.func102 (by kernel_rfl) (by kernel_rfl) fun x r h=>(Zto 1099511627776 x.1 x.2.1).trans h
noncomputable def Qqw (t_0:Int × Int × Int × Int × Int × Int × (List Int) × Int × Int × Int × Int × Int × List Qkm):Option ((Bool × Unit) × Unit):=
 bif t_0.1==1 then
  some ((true,()),())
 else
 bif (g3 t_0) != 0 then
  some ((decide (IntKind.wrap .i64 (t_0.2.2.1 - (g8 t_0))≤20),()),())
 else
  some ((false,()),())
noncomputable def Qxo:Ent:=⟨[.val t50],[⟨t4,[false],none⟩],fun x=>Qqw x.1⟩
theorem Z16:Q4j tab.ty Tryz.prog 103 Qxo:=
 Qjd (Γ:=[]) (fi:={ keep:=[],vty:=[],vals:=[],live:=[(0,[1,7,8,9,10,11,12,13,14,15,16,17]),(1,[2])] }) (n:=1) follows Qju Qjz Tryz.func103 (by kernel_rfl) (by kernel_rfl) fun x r h=>Eq.trans (by kernel_rfl) h
noncomputable def Qlr (t_0:Int × Int × Int × Int × Int × Int × (List Int) × Int × Int × Int × Int × Int × List Qkm) (step_1:Int):Option ((Qli × Unit) × Unit):=
 some (((u11 (u9 (u6 (u4 (u3 t_0 0) 0) []) 0) step_1),()),())
noncomputable def Z37:Ent:=⟨[.val t50,.val t2],[⟨t50,(nF 13),none⟩],fun x=>Qlr x.1 x.2.1⟩
theorem Z7h:Q4j tab.ty Tryz.prog 104 Z37:=
 Qjd (Γ:=[]) (fi:={ keep:=[],vty:=[],vals:=[],live:=[(0,[1,2,4]),(1,[2,4]),(2,[4])] }) (n:=1) follows Qju Qjz Tryz.func104 (by kernel_rfl) (by kernel_rfl) fun x r h=>Eq.trans (by kernel_rfl) h
noncomputable def Qk0 (t_0:Int × Int × Int × Int × Int × Int × (List Int) × Int × Int × Int × Int × Int × List Qkm) (kind_1 to_2:Int):Option ((Qko × Unit) × Unit):=
 some (((kind_1,t_0.1,to_2,t_0.2.1,0,0,[],0,0,(⟨#[]⟩:ByteArray)),()),())
noncomputable def Ql3:Ent:=⟨[.val t50,.val t2,.val t2],[⟨Qsi,(nF 6++[true,false,false,false]),none⟩],fun x=>Qk0 x.1 x.2.1 x.2.2.1⟩
theorem Qks:Q4j tab.ty Tryz.prog 64 Ql3:=
 Qjd (Γ:=[]) (fi:={ keep:=[],vty:=[],vals:=[],live:=[(0,[1,2,3,6]),(1,[6])] }) (n:=1) follows Qju Qjz Tryz.func64 (by kernel_rfl) (by kernel_rfl) fun x r h=>Eq.trans (by kernel_rfl) h
noncomputable def Z5y (t_0:Int × Int × Int × Int × Int × Int × (List Int) × Int × Int × Int × Int × Int × List Qkm) (kind_1 to_2:Int):Option ((Qko × Unit) × Unit):=
 Option.bind (Qk0 t_0 kind_1 to_2) fun r1=>
 bif Nat.ble (0+(g6 t_0).length) 1073741824 then
  some (((u6 (u5 (u4 r1.1.1 (g7 t_0)) (IntKind.wrap .i64 (t_0.2.2.1 - (g8 t_0)))) ([]++(g6 t_0))),()),())
 else none
noncomputable def Qz2:Ent:=⟨[.val t50,.val t2,.val t2],[⟨Qsi,(nF 6++[true,false,false,false]),none⟩],fun x=>Z5y x.1 x.2.1 x.2.2.1⟩
theorem Z4w:Q4j tab.ty Tryz.prog 105 Qz2:=
 Qjd (Γ:=[(64,Ql3)]) (fi:={ keep:=[],vty:=[],vals:=[],live:=[(0,[1,2,3,6]),(1,[3,6,7]),(2,[6,7]),(3,[6])] }) (n:=1) follows (Qjq Qks Qju) Qjz Tryz.func105 (by kernel_rfl) (by kernel_rfl) fun x r h=>Eq.trans (by kernel_rfl) h
noncomputable def Zek:Ctx:=[(64,Ql3),(102,Zed),(103,Qxo),(104,Z37),(105,Qz2)]
def Zbk:Fi:={ keep:=[],vty:=[(3,70),(5,70),(86,70),(96,70),(100,70),(118,70),(130,70)],vals:=[],live:=[(0,[1,2,36,37,38,49,50,51,52,53,72,73,74,77,78,79,80,81,113,114]),(1,[1,2,36,37,38,49,50,51,52,53,72,73,74,77,78,79,80,81,113,114]),(2,[1,2,36,37,38,49,50,51,52,53,72,73,74,77,78,79,80,81,113,114]),(3,[1,2,4,36,37,38,49,50,51,52,53,72,73,74,77,78,79,80,81,113,114]),(4,[1,2,4,5,36,37,38,49,50,51,52,53,72,73,74,77,78,79,80,81,113,114]),(5,[1,2,4,5,23,36,37,38,49,50,51,52,53,72,73,74,77,78,79,80,81,113,114]),(6,[1,2,4,5,24,113,114]),(7,[1,2,4,5,113,114]),(8,[1,2,4,5,39,49,50,51,52,53,72,73,74,77,78,79,80,81,113,114]),(9,[1,2,4,5,49,50,51,52,53,72,73,74,77,78,79,80,81,113,114]),(10,[1,2,4,5,44,49,50,51,52,53,72,73,74,77,78,79,80,81,113,114]),(11,[1,2,4,5,54,72,73,74,77,78,79,80,81,113,114]),(12,[1,2,4,5,72,73,74,77,78,79,80,81,113,114]),(13,[1,2,4,5,62,72,73,74,77,78,79,80,81,113,114]),(14,[1,2,4,5,72,73,74,77,78,79,80,81,113,114]),(15,[1,2,4,5,82,113,114]),(16,[1,2,4,5,113,114]),(17,[1,2,4,5,113,114]),(18,[1,2,5,94,113,114]),(19,[2,3]),(20,[1,2,5,99,113,114]),(21,[1,2,5,113,114]),(22,[1,2,5,6,113,114]),(23,[1,2,5,6,113,114,115]),(24,[1,2,5,6,113,114]),(25,[1,2,5,6,113,114]),(26,[2,3])] }
noncomputable def Zwy (x:PDs [.val t50]):Option (RDs [⟨t50,[false,false,false,false,false,false,false,false,false,false,false,false,false],none⟩,⟨t70,[true],none⟩] × ODs [.val t50]):=Qdf Zek tab Zbk 1099511627776 [.val t50] [⟨t50,[false,false,false,false,false,false,false,false,false,false,false,false,false],none⟩,⟨t70,[true],none⟩] Tryz.f62 x
noncomputable def Zlk (x0:Int × Int × Int × Int × Int × Int × (List Int) × Int × Int × Int × Int × Int × List Qkm):Option ((Qli × Qtq × Unit) × Unit):=Zwy (x0,())
noncomputable def Zei:Ent:=⟨[.val t50],[⟨t50,[false,false,false,false,false,false,false,false,false,false,false,false,false],none⟩,⟨t70,[true],none⟩],fun x=>Zlk x.1⟩
theorem Zop:Q4j tab.ty Tryz.prog 62 Zei:=by
  refine Qjd (Γ:=Zek) (fi:=Zbk) (n:=1099511627776) follows (Qjq Qks (Qjq Zq6 (Qjq Z16 (Qjq Z7h (Qjq Z4w Qju))))) Qjz Tryz.func62 (by kernel_rfl) (by kernel_rfl) (fun x r h=>?_)
  obtain ⟨x0,_u⟩:=x
  exact h
noncomputable def Qod (l_0:List Qk2):Option ((Int × Unit) × Unit):=
 bif (l_0.length:Int)==0 then
  some ((0,()),())
 else
 bif decide (0<(l_0.length:Int)) then
  some (((List.getD l_0 0 (0,(⟨#[]⟩:ByteArray))).1,()),())
 else none
noncomputable def Qx2:Ent:=⟨[.val t52],[⟨t2,[false],none⟩],fun x=>Qod x.1⟩
theorem Z1w:Q4j tab.ty Tryz.prog 151 Qx2:=
 Qjd (Γ:=[]) (fi:={ keep:=[],vty:=[],vals:=[],live:=[(0,[0]),(1,[0,5]),(2,[2]),(3,[2])] }) (n:=1) follows Qju Qjz Tryz.func151 (by kernel_rfl) (by kernel_rfl) fun x r h=>Eq.trans (by kernel_rfl) h
noncomputable def Zi9 (f_0:Int × Int × Qkg × Qkg × Qpf × Int × Int):Option (((Int × Int) × Bool × Unit) × Unit):=
 bif decide (((g3 f_0).length:Int)>0) then
  Option.bind (Qod (g3 f_0)) fun r1=>
  bif f_0.1==0 then
   some (((0,0),false,()),())
  else
  bif decide (IntKind.wrap .i64 (r1.1.1 - 1)<f_0.1) then
   some (((0,0),false,()),())
  else
   some (((f_0.1,IntKind.wrap .i64 (r1.1.1 - 1)),true,()),())
 else
 bif f_0.1==0 then
  some (((0,0),false,()),())
 else
 bif decide (f_0.2.1<f_0.1) then
  some (((0,0),false,()),())
 else
  some (((f_0.1,f_0.2.1),true,()),())
noncomputable def Zb8:Ent:=⟨[.val t56],[⟨t54,[false,false],none⟩,⟨t4,[false],none⟩],fun x=>Zi9 x.1⟩
theorem Zms:Q4j tab.ty Tryz.prog 106 Zb8:=
 Qjd (Γ:=[(151,Qx2)]) (fi:={ keep:=[],vty:=[],vals:=[],live:=[(0,[1,2,19,20,21,22]),(1,[1,2,4,19,20,21,22]),(2,[1,2,4,10,19,20,21,22]),(3,[1,2,4,19,20,21,22]),(4,[1,2,4,23]),(5,[2,3]),(6,[2,3])] }) (n:=1) follows (Qjq Z1w Qju) Qjz Tryz.func106 (by kernel_rfl) (by kernel_rfl) fun x r h=>Eq.trans (by kernel_rfl) h
noncomputable def Zsd (a_0:Int × Int) (now_1:Int):Option ((Bool × Unit) × Unit):=
 bif a_0.1==0 then
  some ((true,()),())
 else
  some ((decide (now_1 ≥ a_0.2),()),())
noncomputable def Zlj:Ent:=⟨[.val t54,.val t2],[⟨t4,[false],none⟩],fun x=>Zsd x.1 x.2.1⟩
theorem Zu0:Q4j tab.ty Tryz.prog 107 Zlj:=
 Qjd (Γ:=[]) (fi:={ keep:=[],vty:=[],vals:=[],live:=[(0,[1,2,9,10,11,12]),(1,[4])] }) (n:=1) follows Qju Qjz Tryz.func107 (by kernel_rfl) (by kernel_rfl) fun x r h=>Eq.trans (by kernel_rfl) h
noncomputable def Qwn (l_0:List Qkq) (lo_1 hi_2 why_3:Int):Option ((Qpf × Unit) × Unit):=
 bif Nat.ble (0+l_0.length) 1073741824 then
  bif Nat.ble (([]++l_0).length+1) 1073741824 then
   some ((([]++l_0)++[(2,lo_1,hi_2,(⟨#[]⟩:ByteArray),why_3)],()),())
  else none
 else none
noncomputable def Zdo:Ent:=⟨[.val t53,.val t2,.val t2,.val t2],[⟨t53,[true],none⟩],fun x=>Qwn x.1 x.2.1 x.2.2.1 x.2.2.2.1⟩
theorem Zpf:Q4j tab.ty Tryz.prog 152 Zdo:=
 Qjd (Γ:=[]) (fi:={ keep:=[],vty:=[],vals:=[],live:=[(0,[0,1,2,3]),(1,[8])] }) (n:=1) follows Qju Qjz Tryz.func152 (by kernel_rfl) (by kernel_rfl) fun x r h=>Eq.trans (by kernel_rfl) h
noncomputable def Qxh (l_0:List Qk2) (next_1:Int):Option ((Qkg × Qk2 × Bool × Unit) × Unit):=
 bif (l_0.length:Int)==0 then
  some ((l_0,(0,(⟨#[]⟩:ByteArray)),false,()),())
 else
 bif decide (0<(l_0.length:Int)) then
  bif ((List.getD l_0 0 (0,(⟨#[]⟩:ByteArray))).1) != next_1 then
   some ((l_0,(0,(⟨#[]⟩:ByteArray)),false,()),())
  else
  bif decide (1≤(l_0.length:Int))&&decide ((l_0.length:Int)≤(l_0.length:Int)) then
   bif Nat.ble (0+(List.drop 1 (List.take ((l_0.length:Int).toNat) l_0)).length) 1073741824 then
    bif decide (0<(l_0.length:Int)) then
     some (([]++(List.drop 1 (List.take ((l_0.length:Int).toNat) l_0)),(List.getD l_0 0 (0,(⟨#[]⟩:ByteArray))),true,()),())
    else none
   else none
  else none
 else none
noncomputable def Z43:Ent:=⟨[.val t52,.val t2],[⟨t52,[false],none⟩,⟨Qyo,[false,false],none⟩,⟨t4,[false],none⟩],fun x=>Qxh x.1 x.2.1⟩
theorem Zh1:Q4j tab.ty Tryz.prog 153 Z43:=
 Qjd (Γ:=[]) (fi:={ keep:=[],vty:=[],vals:=[],live:=[(0,[0,1,5,11,12,13,14,15,16]),(1,[0,5,17]),(2,[4,5,6]),(3,[4,5,6])] }) (n:=1) follows Qju Qjz Tryz.func153 (by kernel_rfl) (by kernel_rfl) fun x r h=>Eq.trans (by kernel_rfl) h
noncomputable def Qwl (l_0:List Qkq) (seq_1:Int) (text_2:ByteArray):Option ((Qpf × Unit) × Unit):=
 bif Nat.ble (0+l_0.length) 1073741824 then
  bif Nat.ble (([]++l_0).length+1) 1073741824 then
   some ((([]++l_0)++[(1,seq_1,seq_1,text_2,0)],()),())
  else none
 else none
noncomputable def Qzq:Ent:=⟨[.val t53,.val t2,.val t9],[⟨t53,[true],none⟩],fun x=>Qwl x.1 x.2.1 x.2.2.1⟩
theorem Z4b:Q4j tab.ty Tryz.prog 67 Qzq:=
 Qjd (Γ:=[]) (fi:={ keep:=[],vty:=[],vals:=[],live:=[(0,[0,1,2]),(1,[6])] }) (n:=1) follows Qju Qjz Tryz.func67 (by kernel_rfl) (by kernel_rfl) fun x r h=>Eq.trans (by kernel_rfl) h
noncomputable def Z1s (l_0:List Qk2) (i_1:Int × ByteArray):Option ((Qkg × Unit) × Unit):=
 bif Nat.ble (([]++l_0).length+1) 1073741824 then
  bif decide (((([]++l_0)++[i_1]).length:Int)>6) then
   bif decide (1≤((([]++l_0)++[i_1]).length:Int))&&decide (((([]++l_0)++[i_1]).length:Int)≤((([]++l_0)++[i_1]).length:Int)) then
    some ((List.drop 1 (List.take (((([]++l_0)++[i_1]).length:Int).toNat) (([]++l_0)++[i_1])),()),())
   else none
  else
   some ((([]++l_0)++[i_1],()),())
 else none
noncomputable def Qrm (l_0:List Qk2) (i_1:Int × ByteArray):Option ((Qkg × Unit) × Unit):=
 bif Nat.ble (0+l_0.length) 1073741824 then
  bif decide ((l_0.length:Int)>0) then
   bif decide (0≤IntKind.wrap .i64 ((l_0.length:Int) - 1))&&decide (IntKind.wrap .i64 ((l_0.length:Int) - 1)<(l_0.length:Int)) then
    bif decide ((List.getD l_0 ((IntKind.wrap .i64 ((l_0.length:Int) - 1)).toNat) (0,(⟨#[]⟩:ByteArray))).1 ≥ i_1.1) then
     some (([]++l_0,()),())
    else
     Z1s l_0 i_1
   else none
  else
   Z1s l_0 i_1
 else none
noncomputable def Que:Ent:=⟨[.val t52,.val Qyo],[⟨t52,[false],none⟩],fun x=>Qrm x.1 x.2.1⟩
theorem Qy7:Q4j tab.ty Tryz.prog 68 Que:=
 Qjd (Γ:=[]) (fi:={ keep:=[],vty:=[],vals:=[],live:=[(0,[0,3,13,14,15,16,17,18,19,20,21,22]),(1,[0,3,5,13,14,15,16,17,18,19,20,21,22]),(2,[3,5,23]),(3,[4]),(4,[5]),(5,[5,31]),(6,[5]),(7,[4])] }) (n:=1) follows Qju Qjz Tryz.func68 (by kernel_rfl) (by kernel_rfl) fun x r h=>Eq.trans (by kernel_rfl) h
abbrev Ql0:Type:=(Qnc × Qkg × Unit) × Unit
noncomputable def Qt7:Ctx:=[(67,Qzq),(68,Que),(153,Z43)]
def Qsa:Fi:={ keep:=[],vty:=[(4,52)],vals:=[],live:=[(0,[1,2]),(1,[1,2,4]),(2,[1,2,4,5,6,7]),(3,[1,2,4,5,6,18]),(4,[2,3]),(5,[1,2,4,6]),(6,[1,2,4,6]),(7,[1,2,4])] }
abbrev Z9z:Type:=Int→Int→Qkg→Qkg→Qpf→Int→Int→Int→Int→Int→Int→Qkg→Qkg→Qpf→Qkg→Option Ql0
abbrev Qwv:Type:=Int→Int→Qkg→Qkg→Int→Int→Qpf→Int→Int→Int→Int→Qkg→Qkg→Qpf→Qkg→Option Ql0
noncomputable def Za1 (L2:Qwv) (v1 v2:Int) (v3 v4:List Qk2) (v5:List Qkq) (v6 v7 v8 v9 v10 v11:Int) (v12 v13:List Qk2) (v14:List Qkq) (v15:List Qk2):Option Ql0:=
 Option.bind (Qxh v4 v1) fun r16=>
 bif !r16.1.2.2.1 then
  some (((v1,v2,v3,v4,v5,v6,v7),v15,()),())
 else
  Option.bind (Qwl v5 r16.1.2.1.1 r16.1.2.1.2) fun r17=>
  Option.bind (Qrm v3 r16.1.2.1) fun r18=>
  bif Nat.ble (v15.length+1) 1073741824 then
   L2 (IntKind.wrap .i64 (v1+1)) v2 r18.1.1 r16.1.1 0 0 r17.1.1 v8 v9 v10 v11 v12 v13 v14 (v15++[r16.1.2.1])
  else none
noncomputable def Zca (L2:Qwv) (v19 v20:Int) (v21 v22:List Qk2) (v23 v24:Int) (v25:List Qkq) (v26 v27 v28 v29:Int) (v30 v31:List Qk2) (v32:List Qkq) (v33:List Qk2):Option Ql0:=
 Option.bind (Qxh v22 v19) fun r34=>
 bif !r34.1.2.2.1 then
  some (((v19,v20,v21,v22,v25,v23,v24),v33,()),())
 else
  Option.bind (Qwl v25 r34.1.2.1.1 r34.1.2.1.2) fun r35=>
  Option.bind (Qrm v21 r34.1.2.1) fun r36=>
  bif Nat.ble (v33.length+1) 1073741824 then
   L2 (IntKind.wrap .i64 (v19+1)) v20 r36.1.1 r34.1.1 0 0 r35.1.1 v26 v27 v28 v29 v30 v31 v32 (v33++[r34.1.2.1])
  else none
noncomputable def Zev (L1:Z9z) (f_0:Int × Int × Qkg × Qkg × Qpf × Int × Int):Option Ql0:=
 L1 f_0.1 f_0.2.1 f_0.2.2.1 (g3 f_0) (g4 f_0) (g5 f_0) (h6 f_0) 0 0 0 0 [] [] [] []
noncomputable def Za6 (n:Nat):Nat→Qwv:=iter (fun _ _ _ _ _ _ _ _ _ _ _ _ _ _ _=>none) fun L=>Zca L
noncomputable def Z9e (n:Nat):Nat→Z9z:=Qj7 (fun _ _ _ _ _ _ _ _ _ _ _ _ _ _ _=>none) fun m L=>Za1 (Za6 n m)
noncomputable def Qxk (n m:Nat) (v1 v2:Int) (v3 v4:List Qk2) (v5:List Qkq) (v6 v7 v8 v9 v10 v11:Int) (v12 v13:List Qk2) (v14:List Qkq) (v15:List Qk2):Option Ql0:=
 Qjl Qt7 tab (fiB [.val t56] Qsa) n [.val t56] [⟨t56,(nF 7),none⟩,⟨t52,[true],none⟩] Tryz.f109 [1,1,0] [] [1,2,4] m
 ⟨[(1,V1 (.ptr (1,0) 0)),(2,V1 (.ptr (2,0) 0)),(4,V1 (.ref (888888,4)))],[((1,0),Ob.box 57 [LV.pure t2 v1,LV.pure t2 v2,LV.pure t52 v3,LV.pure t52 v4,LV.pure t53 v5,LV.pure t2 v6,LV.pure t2 v7]),((2,0),Ob.box 57 [LV.pure t2 v8,LV.pure t2 v9,LV.ref (2,3),LV.ref (2,4),LV.ref (2,5),LV.pure t2 v10,LV.pure t2 v11]),((2,3),Ob.row 142 Qyo v12),((2,4),Ob.row 142 Qyo v13),((2,5),Ob.row 144 Xa0 v14),((888888,4),Ob.row 142 Qyo v15)]⟩
noncomputable def Qrl (n m:Nat) (v19 v20:Int) (v21 v22:List Qk2) (v23 v24:Int) (v25:List Qkq) (v26 v27 v28 v29:Int) (v30 v31:List Qk2) (v32:List Qkq) (v33:List Qk2):Option Ql0:=
 Qjl Qt7 tab (fiB [.val t56] Qsa) n [.val t56] [⟨t56,(nF 7),none⟩,⟨t52,[true],none⟩] Tryz.f109 [1,1,0] [] [1,2,4] m
 ⟨[(1,V1 (.ptr (1,0) 0)),(2,V1 (.ptr (2,0) 0)),(4,V1 (.ref (888888,4)))],[((1,0),Ob.box 57 [LV.pure t2 v19,LV.pure t2 v20,LV.pure t52 v21,LV.pure t52 v22,LV.ref (1,5),LV.pure t2 v23,LV.pure t2 v24]),((1,5),Ob.row 144 Xa0 v25),((2,0),Ob.box 57 [LV.pure t2 v26,LV.pure t2 v27,LV.ref (2,3),LV.ref (2,4),LV.ref (2,5),LV.pure t2 v28,LV.pure t2 v29]),((2,3),Ob.row 142 Qyo v30),((2,4),Ob.row 142 Qyo v31),((2,5),Ob.row 144 Xa0 v32),((888888,4),Ob.row 142 Qyo v33)]⟩
theorem Zmb (n m:Nat):Qxk n (m+1)=Za1 (Qrl n m):=by kernel_rfl
theorem Zna (n m:Nat):Qrl n (m+1)=Zca (Qrl n m):=by kernel_rfl
theorem Z6m (n:Nat):∀ m,Qrl n m=Za6 n m
 | 0=>rfl
 | m+1=>by rw [Zna n m,Z6m n m];rfl
theorem Zr1 (n:Nat):∀ m,Qxk n m=Z9e n m
 | 0=>rfl
 | m+1=>by rw [Zmb n m,Z6m n m];rfl
noncomputable def Zey (n:Nat) (f_0:Int × Int × Qkg × Qkg × Qpf × Int × Int):Option Ql0:=Zev (Z9e n n) f_0
noncomputable def Qmh (f_0:Int × Int × Qkg × Qkg × Qpf × Int × Int):Option Ql0:=Zey 1099511627776 f_0
noncomputable def Qpm:Ent:=⟨[.val t56],[⟨t56,(nF 7),none⟩,⟨t52,[true],none⟩],fun x=>Qmh x.1⟩
theorem Zt6 (n:Nat) (f_0:Int × Int × Qkg × Qkg × Qpf × Int × Int):Qdf Qt7 tab Qsa n [.val t56] [⟨t56,(nF 7),none⟩,⟨t52,[true],none⟩] Tryz.f109 (f_0,())=Zey n f_0:=Eq.trans (b:=Zev (Qxk n n) f_0) (by kernel_rfl) (by rw [Zr1 n n];rfl)
theorem Qpz:Q4j tab.ty Tryz.prog 109 Qpm:=
 Qjd (Γ:=Qt7) (fi:=Qsa) (n:=1099511627776) follows (Qjq Z4b (Qjq Qy7 (Qjq Zh1 Qju))) Qjz Tryz.func109 (by kernel_rfl) (by kernel_rfl) fun x r h=>(Zt6 1099511627776 x.1).trans h
abbrev Qkf:Type:=(Qnc × Zng × Unit) × Unit
noncomputable def Qsc:Ctx:=[(109,Qpm),(151,Qx2),(152,Zdo)]
def Qqm:Fi:={ keep:=[],vty:=[(8,183)],vals:=[(3,5)],live:=[(0,[1,2,3,6,14,15,30,31,32,33,34]),(1,[1,2,3,6,8,14,15,30,31,32,33,34]),(2,[1,2,3,6,8,16,30,31,32,33,34]),(3,[6,7]),(4,[1,2,3,6,8,21,30,31,32,33,34]),(5,[1,2,3,6,8,30,31,32,33,34]),(6,[1,2,3,6,8,9,30,31,32,33,34]),(7,[1,2,3,6,8,9,30,31,32,33,34,35]),(8,[1,2,3,6,8,9,30,31,32,33,34]),(9,[1,2,3,6,8,9,30,31,32,33,34,43]),(10,[1,2,3,6,8,9,30,31,32,33,34]),(11,[1,2,3,6,8,9,30,31,32,33,34]),(12,[1,2,3,6,8,30,31,32,33,34]),(13,[1,2,3,6,8,30,31,32,33,34,65]),(14,[1,2,3,6,8,30,31,32,33,34]),(15,[6,7])] }
abbrev Z7l:Type:=Int→Int→Bool→Int→Int→Qkg→Qkg→Qpf→Int→Int→Int→Int→Int→Int→Qkg→Qkg→Qpf→Zng→Option Qkf
abbrev Qno:Type:=Int→Int→Int→Int→Qkg→Qkg→Qpf→Int→Int→Int→Int→Int→Int→Qkg→Qkg→Qpf→Zng→Option Qkf
noncomputable def Qvy (v4 v1 v5:Int) (v6 v7:List Qk2) (v8:List Qkq) (L2:Qno) (v2 v11 v12 v13 v14:Int) (v15 v16:List Qk2) (v17:List Qkq) (v18:List (Int × Int)):Option Qkf:=
 bif decide (v4≤v1) then
  Option.bind (Qmh (v4,v5,v6,v7,v8,0,0)) fun r51=>
  L2 v1 v2 r51.1.1.1 r51.1.1.2.1 r51.1.1.2.2.1 (g3 r51.1.1) (g4 r51.1.1) (g5 r51.1.1) (h6 r51.1.1) v11 v12 v13 v14 v15 v16 v17 v18
 else
  L2 v1 v2 v4 v5 v6 v7 v8 0 0 v11 v12 v13 v14 v15 v16 v17 v18
noncomputable def Qqb (v1 v4:Int) (v8:List Qkq) (v2:Int) (v18:List (Int × Int)) (v5:Int) (v6 v7:List Qk2) (L2:Qno) (v11 v12 v13 v14:Int) (v15 v16:List Qk2) (v17:List Qkq):Option Qkf:=
 bif decide (v1 ≥ v4) then
  Option.bind (Qwn v8 v4 v1 v2) fun r52=>
  bif Nat.ble (v18.length+1) 1073741824 then
   bif decide (IntKind.wrap .i64 (v1+1)≤v1) then
    Option.bind (Qmh (IntKind.wrap .i64 (v1+1),v5,v6,v7,r52.1.1,0,0)) fun r53=>
    L2 v1 v2 r53.1.1.1 r53.1.1.2.1 r53.1.1.2.2.1 (g3 r53.1.1) (g4 r53.1.1) (g5 r53.1.1) (h6 r53.1.1) v11 v12 v13 v14 v15 v16 v17 (v18++[(v4,v1)])
   else
    L2 v1 v2 (IntKind.wrap .i64 (v1+1)) v5 v6 v7 r52.1.1 0 0 v11 v12 v13 v14 v15 v16 v17 (v18++[(v4,v1)])
  else none
 else
  Qvy v4 v1 v5 v6 v7 v8 L2 v2 v11 v12 v13 v14 v15 v16 v17 v18
noncomputable def Z7b (L2:Qno) (v1 v2:Int) (v3:Bool) (v4 v5:Int) (v6 v7:List Qk2) (v8:List Qkq) (v9 v10 v11 v12 v13 v14:Int) (v15 v16:List Qk2) (v17:List Qkq) (v18:List (Int × Int)):Option Qkf:=
 bif decide (v4≤v1) then
  bif decide ((v7.length:Int)>0) then
   Option.bind (Qod v7) fun r19=>
   bif decide (r19.1.1≤v1) then
    Option.bind (Qod v7) fun r20=>
    bif decide (IntKind.wrap .i64 (r20.1.1 - 1) ≥ v4) then
     Option.bind (Qwn v8 v4 (IntKind.wrap .i64 (r20.1.1 - 1)) v2) fun r21=>
     bif Nat.ble (v18.length+1) 1073741824 then
      bif decide (IntKind.wrap .i64 ((IntKind.wrap .i64 (r20.1.1 - 1))+1)≤v1) then
       Option.bind (Qmh (IntKind.wrap .i64 ((IntKind.wrap .i64 (r20.1.1 - 1))+1),v5,v6,v7,r21.1.1,0,0)) fun r22=>
       L2 v1 v2 r22.1.1.1 r22.1.1.2.1 r22.1.1.2.2.1 (g3 r22.1.1) (g4 r22.1.1) (g5 r22.1.1) (h6 r22.1.1) v11 v12 v13 v14 v15 v16 v17 (v18++[(v4,IntKind.wrap .i64 (r20.1.1 - 1))])
      else
       L2 v1 v2 (IntKind.wrap .i64 ((IntKind.wrap .i64 (r20.1.1 - 1))+1)) v5 v6 v7 r21.1.1 0 0 v11 v12 v13 v14 v15 v16 v17 (v18++[(v4,IntKind.wrap .i64 (r20.1.1 - 1))])
     else none
    else
     Qvy v4 v1 v5 v6 v7 v8 L2 v2 v11 v12 v13 v14 v15 v16 v17 v18
   else
    Qqb v1 v4 v8 v2 v18 v5 v6 v7 L2 v11 v12 v13 v14 v15 v16 v17
  else
   Qqb v1 v4 v8 v2 v18 v5 v6 v7 L2 v11 v12 v13 v14 v15 v16 v17
 else
  some (((v4,v5,v6,v7,v8,v9,v10),v18,()),())
noncomputable def Z88 (L2:Qno) (v23 v24 v25 v26:Int) (v27 v28:List Qk2) (v29:List Qkq) (v30 v31 v32 v33 v34 v35:Int) (v36 v37:List Qk2) (v38:List Qkq) (v39:List (Int × Int)):Option Qkf:=
 bif decide (v25≤v23) then
  bif decide ((v28.length:Int)>0) then
   Option.bind (Qod v28) fun r40=>
   bif decide (r40.1.1≤v23) then
    Option.bind (Qod v28) fun r41=>
    bif decide (IntKind.wrap .i64 (r41.1.1 - 1) ≥ v25) then
     Option.bind (Qwn v29 v25 (IntKind.wrap .i64 (r41.1.1 - 1)) v24) fun r42=>
     bif Nat.ble (v39.length+1) 1073741824 then
      bif decide (IntKind.wrap .i64 ((IntKind.wrap .i64 (r41.1.1 - 1))+1)≤v23) then
       Option.bind (Qmh (IntKind.wrap .i64 ((IntKind.wrap .i64 (r41.1.1 - 1))+1),v26,v27,v28,r42.1.1,0,0)) fun r43=>
       L2 v23 v24 r43.1.1.1 r43.1.1.2.1 r43.1.1.2.2.1 (g3 r43.1.1) (g4 r43.1.1) (g5 r43.1.1) (h6 r43.1.1) v32 v33 v34 v35 v36 v37 v38 (v39++[(v25,IntKind.wrap .i64 (r41.1.1 - 1))])
      else
       L2 v23 v24 (IntKind.wrap .i64 ((IntKind.wrap .i64 (r41.1.1 - 1))+1)) v26 v27 v28 r42.1.1 0 0 v32 v33 v34 v35 v36 v37 v38 (v39++[(v25,IntKind.wrap .i64 (r41.1.1 - 1))])
     else none
    else
     Qvy v25 v23 v26 v27 v28 v29 L2 v24 v32 v33 v34 v35 v36 v37 v38 v39
   else
    Qqb v23 v25 v29 v24 v39 v26 v27 v28 L2 v32 v33 v34 v35 v36 v37 v38
  else
   Qqb v23 v25 v29 v24 v39 v26 v27 v28 L2 v32 v33 v34 v35 v36 v37 v38
 else
  some (((v25,v26,v27,v28,v29,v30,v31),v39,()),())
noncomputable def Za4 (L1:Z7l) (f_0:Int × Int × Qkg × Qkg × Qpf × Int × Int) (hi_1 why_2:Int):Option Qkf:=
 bif decide (f_0.1<1) then
  some ((f_0,[],()),())
 else
 bif decide (hi_1>1000000) then
  some ((f_0,[],()),())
 else
  L1 hi_1 why_2 (decide (hi_1>1000000)) f_0.1 f_0.2.1 f_0.2.2.1 (g3 f_0) (g4 f_0) (g5 f_0) (h6 f_0) 0 0 0 0 [] [] [] []
noncomputable def Z7o (n:Nat):Nat→Qno:=iter (fun _ _ _ _ _ _ _ _ _ _ _ _ _ _ _ _ _=>none) fun L=>Z88 L
noncomputable def Z7d (n:Nat):Nat→Z7l:=Qj7 (fun _ _ _ _ _ _ _ _ _ _ _ _ _ _ _ _ _ _=>none) fun m L=>Z7b (Z7o n m)
noncomputable def Qvw (n m:Nat) (v1 v2:Int) (v3:Bool) (v4 v5:Int) (v6 v7:List Qk2) (v8:List Qkq) (v9 v10 v11 v12 v13 v14:Int) (v15 v16:List Qk2) (v17:List Qkq) (v18:List (Int × Int)):Option Qkf:=
 Qjl Qsc tab (fiB [.val t56,.val t2,.val t2] Qqm) n [.val t56,.val t2,.val t2] [⟨t56,(nF 7),none⟩,⟨X20,[true],none⟩] Tryz.f108 [1,1,1,0,0] [] [1,2,3,6,8,16] m
 ⟨[(1,Vp t2 v1),(2,Vp t2 v2),(3,V1 (.ptr (3,0) 0)),(6,V1 (.ptr (6,0) 0)),(8,V1 (.ref (888888,8))),(16,Vp t4 v3)],[((3,0),Ob.box 57 [LV.pure t2 v4,LV.pure t2 v5,LV.pure t52 v6,LV.pure t52 v7,LV.pure t53 v8,LV.pure t2 v9,LV.pure t2 v10]),((6,0),Ob.box 57 [LV.pure t2 v11,LV.pure t2 v12,LV.ref (6,3),LV.ref (6,4),LV.ref (6,5),LV.pure t2 v13,LV.pure t2 v14]),((6,3),Ob.row 142 Qyo v15),((6,4),Ob.row 142 Qyo v16),((6,5),Ob.row 144 Xa0 v17),((888888,8),Ob.row 134 t54 v18)]⟩
noncomputable def Qqf (n m:Nat) (v23 v24 v25 v26:Int) (v27 v28:List Qk2) (v29:List Qkq) (v30 v31 v32 v33 v34 v35:Int) (v36 v37:List Qk2) (v38:List Qkq) (v39:List (Int × Int)):Option Qkf:=
 Qjl Qsc tab (fiB [.val t56,.val t2,.val t2] Qqm) n [.val t56,.val t2,.val t2] [⟨t56,(nF 7),none⟩,⟨X20,[true],none⟩] Tryz.f108 [1,1,1,0,0] [] [1,2,3,6,8,16] m
 ⟨[(1,Vp t2 v23),(2,Vp t2 v24),(3,V1 (.ptr (3,0) 0)),(6,V1 (.ptr (6,0) 0)),(8,V1 (.ref (888888,8)))],[((3,0),Ob.box 57 [LV.pure t2 v25,LV.pure t2 v26,LV.pure t52 v27,LV.pure t52 v28,LV.pure t53 v29,LV.pure t2 v30,LV.pure t2 v31]),((6,0),Ob.box 57 [LV.pure t2 v32,LV.pure t2 v33,LV.ref (6,3),LV.ref (6,4),LV.ref (6,5),LV.pure t2 v34,LV.pure t2 v35]),((6,3),Ob.row 142 Qyo v36),((6,4),Ob.row 142 Qyo v37),((6,5),Ob.row 144 Xa0 v38),((888888,8),Ob.row 134 t54 v39)]⟩
theorem Zjy (n m:Nat):Qvw n (m+1)=Z7b (Qqf n m):=by kernel_rfl
theorem Zkf (n m:Nat):Qqf n (m+1)=Z88 (Qqf n m):=by kernel_rfl
theorem Z4j (n:Nat):∀ m,Qqf n m=Z7o n m
 | 0=>rfl
 | m+1=>by rw [Zkf n m,Z4j n m];rfl
theorem Zpu (n:Nat):∀ m,Qvw n m=Z7d n m
 | 0=>rfl
 | m+1=>by rw [Zjy n m,Z4j n m];rfl
noncomputable def Zc4 (n:Nat) (f_0:Int × Int × Qkg × Qkg × Qpf × Int × Int) (hi_1 why_2:Int):Option Qkf:=Za4 (Z7d n n) f_0 hi_1 why_2
noncomputable def Z2v (f_0:Int × Int × Qkg × Qkg × Qpf × Int × Int) (hi_1 why_2:Int):Option Qkf:=Zc4 1099511627776 f_0 hi_1 why_2
noncomputable def Qwt:Ent:=⟨[.val t56,.val t2,.val t2],[⟨t56,(nF 7),none⟩,⟨X20,[true],none⟩],fun x=>Z2v x.1 x.2.1 x.2.2.1⟩
theorem Zrj (n:Nat) (f_0:Int × Int × Qkg × Qkg × Qpf × Int × Int) (hi_1 why_2:Int):Qdf Qsc tab Qqm n [.val t56,.val t2,.val t2] [⟨t56,(nF 7),none⟩,⟨X20,[true],none⟩] Tryz.f108 (f_0,hi_1,why_2,())=Zc4 n f_0 hi_1 why_2:=Eq.trans (b:=Za4 (Qvw n n) f_0 hi_1 why_2) (by kernel_rfl) (by rw [Zpu n n];rfl)
theorem Z19:Q4j tab.ty Tryz.prog 108 Qwt:=
 Qjd (Γ:=Qsc) (fi:=Qqm) (n:=1099511627776) follows (Qjq Qpz (Qjq Z1w (Qjq Zpf Qju))) Qjz Tryz.func108 (by kernel_rfl) (by kernel_rfl) fun x r h=>(Zrj 1099511627776 x.1 x.2.1 x.2.2.1).trans h
abbrev Qnb:Type:=((Int × Int) × Unit) × Unit
noncomputable def Qz7:Ctx:=[]
def Qxs:Fi:={ keep:=[],vty:=[],vals:=[],live:=[(0,[1,2,4,12,13]),(1,[1,2,4,5,12,13]),(2,[1,2,4,5,6,12,13]),(3,[1,2,4,5,6,12,13,14]),(4,[1,2,4,5,6,12,13]),(5,[1,2,4,5,6,12,13]),(6,[4])] }
abbrev Qxl:Type:=Int→Int→Int→Int→Int→Int→Int→Option Qnb
noncomputable def Z9c (L1:Qxl) (v1 v2 v3 v4 v5 v6 v7:Int):Option Qnb:=
 bif decide (v3<v4) then
  bif decide (v3<3) then
   L1 v1 (IntKind.wrap .i64 (v2*2)) (IntKind.wrap .i64 (v3+1)) v4 v5 v6 v7
  else
   some (((IntKind.wrap .i64 (v4+1),IntKind.wrap .i64 (v1+v2)),()),())
 else
  some (((IntKind.wrap .i64 (v4+1),IntKind.wrap .i64 (v1+v2)),()),())
noncomputable def Ze0 (L1:Qxl) (a_0:Int × Int) (now_1:Int):Option Qnb:=
 L1 now_1 2 0 a_0.1 a_0.2 0 0
noncomputable def Zal (n:Nat):Nat→Qxl:=iter (fun _ _ _ _ _ _ _=>none) fun L=>Z9c L
noncomputable def Qrt (n m:Nat) (v1 v2 v3 v4 v5 v6 v7:Int):Option Qnb:=
 Qjl Qz7 tab (fiB [.val t54,.val t2] Qxs) n [.val t54,.val t2] [⟨t54,[false,false],none⟩] Tryz.f110 [1,1,0,1,0] [] [1,2,4,5,6] m
 ⟨[(1,Vp t2 v1),(2,V1 (.ptr (2,0) 0)),(4,V1 (.ptr (4,0) 0)),(5,Vp t2 v2),(6,Vp t2 v3)],[((2,0),Ob.box 55 [LV.pure t2 v4,LV.pure t2 v5]),((4,0),Ob.box 55 [LV.pure t2 v6,LV.pure t2 v7])]⟩
theorem Zmr (n m:Nat):Qrt n (m+1)=Z9c (Qrt n m):=by kernel_rfl
theorem Z7p (n:Nat):∀ m,Qrt n m=Zal n m
 | 0=>rfl
 | m+1=>by rw [Zmr n m,Z7p n m];rfl
noncomputable def Zdj (n:Nat) (a_0:Int × Int) (now_1:Int):Option Qnb:=Ze0 (Zal n n) a_0 now_1
noncomputable def Zlc (a_0:Int × Int) (now_1:Int):Option Qnb:=Zdj 1099511627776 a_0 now_1
noncomputable def Zex:Ent:=⟨[.val t54,.val t2],[⟨t54,[false,false],none⟩],fun x=>Zlc x.1 x.2.1⟩
theorem Ztj (n:Nat) (a_0:Int × Int) (now_1:Int):Qdf Qz7 tab Qxs n [.val t54,.val t2] [⟨t54,[false,false],none⟩] Tryz.f110 (a_0,now_1,())=Zdj n a_0 now_1:=Eq.trans (b:=Ze0 (Qrt n n) a_0 now_1) (by kernel_rfl) (by rw [Z7p n n];rfl)
theorem Zq0:Q4j tab.ty Tryz.prog 110 Zex:=
 Qjd (Γ:=Qz7) (fi:=Qxs) (n:=1099511627776) follows Qju Qjz Tryz.func110 (by kernel_rfl) (by kernel_rfl) fun x r h=>(Ztj 1099511627776 x.1 x.2.1).trans h
noncomputable def Zm4 (f_0:Int × Int × Qkg × Qkg × Qpf × Int × Int) (now_1:Int):Option ((Qnc × (Int × Int) × Bool × Unit) × Unit):=
 Option.bind (Zi9 f_0) fun r1=>
 bif !r1.1.2.1 then
  some ((f_0,(0,0),false,()),())
 else
  Option.bind (Zsd (h5 f_0) now_1) fun r2=>
  bif !r2.1.1 then
   some ((f_0,(0,0),false,()),())
  else
  bif decide ((g5 f_0) ≥ 3) then
   Option.bind (Z2v f_0 r1.1.1.2 2) fun r3=>
   Option.bind (Qmh r3.1.1) fun r4=>
   some ((r4.1.1,(0,0),false,()),())
  else
   Option.bind (Zlc (h5 f_0) now_1) fun r5=>
   some (((e5 f_0 r5.1.1),r1.1.1,true,()),())
noncomputable def Zet:Ent:=⟨[.val t56,.val t2],[⟨t56,(nF 7),none⟩,⟨t54,[false,false],none⟩,⟨t4,[false],none⟩],fun x=>Zm4 x.1 x.2.1⟩
theorem Zon:Q4j tab.ty Tryz.prog 63 Zet:=
 Qjd (Γ:=[(106,Zb8),(107,Zlj),(108,Qwt),(109,Qpm),(110,Zex)]) (fi:={ keep:=[],vty:=[],vals:=[],live:=[(0,[1,2,4,5,17,18,19,20,21]),(1,[1,2,4,5,7,8,17,18,19,20,21]),(2,[1,2,4,5,7,22]),(3,[4,5,6]),(4,[1,2,4,5,7,28]),(5,[2,4,5]),(6,[2,4,5]),(7,[4,5,6]),(8,[2,4,5,7]),(9,[4,5,6])] }) (n:=1) follows (Qjq Zms (Qjq Zu0 (Qjq Z19 (Qjq Qpz (Qjq Zq0 Qju))))) Qjz Tryz.func63 (by kernel_rfl) (by kernel_rfl) fun x r h=>Eq.trans (by kernel_rfl) h
abbrev Ql2:Type:=(Qtq × Unit) × Unit
noncomputable def Qtj:Ctx:=[(64,Ql3)]
def Qsf:Fi:={ keep:=[],vty:=[(5,70)],vals:=[],live:=[(0,[1,2]),(1,[1,2,5]),(2,[1,2,5,6]),(3,[1,2,5,6,12]),(4,[1,2,5,6]),(5,[1,2,5,6,7]),(6,[1,2,5,6,7,19]),(7,[1,2,5,6,7]),(8,[1,2,5,6,7,8]),(9,[1,2,5,6,7,8]),(10,[1,2,5,6,7,8,47]),(11,[1,2,5,6,7,8]),(12,[1,2,5,6,7,8]),(13,[1,2,5,6,7]),(14,[4])] }
abbrev Qs9:Type:=Qpf→Int→Int→Int→Int→Int→Int→Int→List Int→Int→Int→Int→Int→Int→Zjb→Qtq→Option Ql2
abbrev Qxg:Type:=Qpf→Int→Int→Int→Int→Int→Int→Int→Int→List Int→Int→Int→Int→Int→Int→Zjb→Qtq→Option Ql2
noncomputable def Zbm (L2:Qxg) (v1:List Qkq) (v2 v3 v4 v5 v6 v7 v8:Int) (v9:List Int) (v10 v11 v12 v13 v14:Int) (v15:List Qkm) (v16:List Qko):Option Ql2:=
 bif decide (v2<(v1.length:Int)) then
  L2 v1 v2 0 v3 v4 v5 v6 v7 v8 v9 v10 v11 v12 v13 v14 v15 v16
 else
  some ((v16,()),())
noncomputable def Zbp (L2:Qxg) (L1:Qs9) (v17:List Qkq) (v18 v19 v20 v21 v22 v23 v24 v25:Int) (v26:List Int) (v27 v28 v29 v30 v31:Int) (v32:List Qkm) (v33:List Qko):Option Ql2:=
 bif decide (v19<(v32.length:Int)) then
  bif decide (0≤v19)&&decide (v19<(v32.length:Int)) then
   Option.bind (Qk0 (v20,v21,v22,v23,v24,v25,v26,v27,v28,v29,v30,v31,v32) 7 ((List.getD v32 v19.toNat (0,0,0)).1)) fun r34=>
   bif decide (0≤v18)&&decide (v18<(v17.length:Int)) then
    bif decide (0≤v18)&&decide (v18<(v17.length:Int)) then
     bif decide (0≤v18)&&decide (v18<(v17.length:Int)) then
      bif ((List.getD v17 v18.toNat X5a).1)==2 then
       bif decide (0≤v19)&&decide (v19<(v32.length:Int)) then
        Option.bind (Qk0 (v20,v21,v22,v23,v24,v25,v26,v27,v28,v29,v30,v31,v32) 9 ((List.getD v32 v19.toNat (0,0,0)).1)) fun r35=>
        bif decide (0≤v18)&&decide (v18<(v17.length:Int)) then
         bif decide (0≤v18)&&decide (v18<(v17.length:Int)) then
          bif Nat.ble (v33.length+1) 1073741824 then
           L2 v17 v18 (IntKind.wrap .i64 (v19+1)) v20 v21 v22 v23 v24 v25 v26 v27 v28 v29 v30 v31 v32 (v33++[(u8 (u7 r35.1.1 (((List.getD v17 v18.toNat X5a).2).1)) ((((List.getD v17 v18.toNat X5a).2).2).1))])
          else none
         else none
        else none
       else none
      else
      bif Nat.ble (v33.length+1) 1073741824 then
       L2 v17 v18 (IntKind.wrap .i64 (v19+1)) v20 v21 v22 v23 v24 v25 v26 v27 v28 v29 v30 v31 v32 (v33++[(e9 (u7 r34.1.1 (((List.getD v17 v18.toNat X5a).2).1)) (((((List.getD v17 v18.toNat X5a).2).2).2).1))])
      else none
     else none
    else none
   else none
  else none
 else
  L1 v17 (IntKind.wrap .i64 (v18+1)) v20 v21 v22 v23 v24 v25 v26 v27 v28 v29 v30 v31 v32 v33
noncomputable def Ze8 (L1:Qs9) (t_0:Int × Int × Int × Int × Int × Int × (List Int) × Int × Int × Int × Int × Int × List Qkm) (l_1:List Qkq):Option Ql2:=
 L1 l_1 0 t_0.1 t_0.2.1 t_0.2.2.1 (g3 t_0) (g4 t_0) (g5 t_0) (g6 t_0) (g7 t_0) (g8 t_0) (g9 t_0) (g10 t_0) (g11 t_0) (h12 t_0) []
noncomputable def Zbj (n:Nat) (m1:Nat) (r1:Qs9):Nat→Qxg:=iter (fun _ _ _ _ _ _ _ _ _ _ _ _ _ _ _ _ _=>none) fun L=>Zbp L r1
noncomputable def Zc6 (n:Nat):Nat→Qs9:=Qj7 (fun _ _ _ _ _ _ _ _ _ _ _ _ _ _ _ _=>none) fun m L=>Zbm (Zbj n m L n)
noncomputable def Qok (n m:Nat) (v1:List Qkq) (v2 v3 v4 v5 v6 v7 v8:Int) (v9:List Int) (v10 v11 v12 v13 v14:Int) (v15:List Qkm) (v16:List Qko):Option Ql2:=
 Qjl Qtj tab (fiB [.val t50,.val t53] Qsf) n [.val t50,.val t53] [⟨t70,[true],none⟩] Tryz.f44 [1,1,0,1,0] [] [1,2,5,6] m
 ⟨[(1,Vp t53 v1),(2,V1 (.ptr (2,0) 0)),(5,V1 (.ref (888888,5))),(6,Vp t2 v2)],[((2,0),Ob.box 51 [LV.pure t2 v3,LV.pure t2 v4,LV.pure t2 v5,LV.pure t2 v6,LV.pure t2 v7,LV.pure t2 v8,LV.pure t44 v9,LV.pure t2 v10,LV.pure t2 v11,LV.pure t2 v12,LV.pure t2 v13,LV.pure t2 v14,LV.pure t49 v15]),((888888,5),Ob.row 105 Qsi v16)]⟩
noncomputable def Qrk (n m1 m:Nat) (v17:List Qkq) (v18 v19 v20 v21 v22 v23 v24 v25:Int) (v26:List Int) (v27 v28 v29 v30 v31:Int) (v32:List Qkm) (v33:List Qko):Option Ql2:=
 Qjl Qtj tab (fiB [.val t50,.val t53] Qsf) n [.val t50,.val t53] [⟨t70,[true],none⟩] Tryz.f44 [1,1,0,1,0,0,1,0,0,1,0] [(m1,[1,2,5,6])] [1,2,5,6,7] m
 ⟨[(1,Vp t53 v17),(2,V1 (.ptr (2,0) 0)),(5,V1 (.ref (888888,5))),(6,Vp t2 v18),(7,Vp t2 v19)],[((2,0),Ob.box 51 [LV.pure t2 v20,LV.pure t2 v21,LV.pure t2 v22,LV.pure t2 v23,LV.pure t2 v24,LV.pure t2 v25,LV.pure t44 v26,LV.pure t2 v27,LV.pure t2 v28,LV.pure t2 v29,LV.pure t2 v30,LV.pure t2 v31,LV.pure t49 v32]),((888888,5),Ob.row 105 Qsi v33)]⟩
theorem Zn2 (n m:Nat):Qok n (m+1)=Zbm (Qrk n m n):=by kernel_rfl
theorem Zmu (n m1 m:Nat):Qrk n m1 (m+1)=Zbp (Qrk n m1 m) (Qok n m1):=by kernel_rfl
theorem Z8o (n m1:Nat):∀ m,Qrk n m1 m=Zbj n m1 (Qok n m1) m
 | 0=>rfl
 | m+1=>by rw [Zmu n m1 m,Z8o n m1 m];rfl
theorem Z7q (n:Nat):∀ m,Qok n m=Zc6 n m
 | 0=>rfl
 | m+1=>by rw [Zn2 n m,Z8o n m n,Z7q n m];rfl
noncomputable def Zdk (n:Nat) (t_0:Int × Int × Int × Int × Int × Int × (List Int) × Int × Int × Int × Int × Int × List Qkm) (l_1:List Qkq):Option Ql2:=Ze8 (Zc6 n n) t_0 l_1
noncomputable def Qnn (t_0:Int × Int × Int × Int × Int × Int × (List Int) × Int × Int × Int × Int × Int × List Qkm) (l_1:List Qkq):Option Ql2:=Zdk 1099511627776 t_0 l_1
noncomputable def Qtc:Ent:=⟨[.val t50,.val t53],[⟨t70,[true],none⟩],fun x=>Qnn x.1 x.2.1⟩
theorem Ztf (n:Nat) (t_0:Int × Int × Int × Int × Int × Int × (List Int) × Int × Int × Int × Int × Int × List Qkm) (l_1:List Qkq):Qdf Qtj tab Qsf n [.val t50,.val t53] [⟨t70,[true],none⟩] Tryz.f44 (t_0,l_1,())=Zdk n t_0 l_1:=Eq.trans (b:=Ze8 (Qok n n) t_0 l_1) (by kernel_rfl) (by rw [Z7q n n];rfl)
theorem Qup:Q4j tab.ty Tryz.prog 44 Qtc:=
 Qjd (Γ:=Qtj) (fi:=Qsf) (n:=1099511627776) follows (Qjq Qks Qju) Qjz Tryz.func44 (by kernel_rfl) (by kernel_rfl) fun x r h=>(Ztf 1099511627776 x.1 x.2.1).trans h
abbrev Qlq:Type:=(Z3k × Qtq × Unit) × Unit
noncomputable def Qt1:Ctx:=[(44,Qtc),(62,Zei),(63,Zet),(64,Ql3)]
def Qra:Fi:={ keep:=[],vty:=[(6,70)],vals:=[],live:=[(0,[1,2]),(1,[1,2,16]),(2,[2,3]),(3,[1,2,4,5]),(4,[1,2,4,5,6]),(5,[1,2,4,5,6,7]),(6,[1,2,4,5,6,7,27]),(7,[1,2,4,5,6,7]),(8,[1,2,4,5,6,7,8]),(9,[1,2,4,5,6,7,8,36]),(10,[1,2,4,5,6,7,8]),(11,[1,2,4,5,6,7]),(12,[1,2,4,6]),(13,[1,2,4,6,51]),(14,[2,3]),(15,[1,2,4,6,9,10,11]),(16,[1,2,4,6,9,10,63]),(17,[1,2,4,6,9,10,12]),(18,[1,2,4,6,9,12]),(19,[1,2,4,6,9]),(20,[1,2,4,6,9,13]),(21,[1,2,4,6,9,13]),(22,[2,3])] }
abbrev Qs6:Type:=Int→Bool→Int→ByteArray→Int→Int→Int→Int→Int→Int→List Int→Int→Int→Int→Int→Int→Zjb→Int→Int→Qkg→Qkg→Qpf→Int→Int→Int→Int→ByteArray→Int→Int→Int→Int→Int→Int→Int→Int→Int→Int→Int→Int→Int→Int→Int→Int→List Int→Zjb→Qkg→Qkg→Qpf→Int→Int→Int→Int→Int→Int→List Int→Int→Int→Int→Int→Int→Zjb→Qtq→Qtq→Option Qlq
noncomputable def Z0p (L1:Qs6) (v2:Int) (v3:Bool) (v4:Int) (v5:ByteArray) (v6 v7 v8 v9 v10 v11:Int) (v12:List Int) (v13 v14 v15 v16 v17:Int) (v18:List Qkm) (v19 v20:Int) (v21 v22:List Qk2) (v23:List Qkq) (v24 v25 v26 v27:Int) (v28:ByteArray) (v29 v30 v31 v32 v33 v34 v35 v36 v37 v38 v39 v40 v41 v42 v43 v44:Int) (v45:List Int) (v46:List Qkm) (v47 v48:List Qk2) (v49:List Qkq) (v50 v51 v52 v53 v54 v55:Int) (v56:List Int) (v57 v58 v59 v60 v61:Int) (v62:List Qkm) (v63 v64:List Qko):Option Qlq:=
 bif decide (v2<(v63.length:Int)) then
  bif decide (0≤v2)&&decide (v2<(v63.length:Int)) then
   bif decide (0≤v2)&&decide (v2<(v63.length:Int)) then
    bif ((List.getD v63 v2.toNat Ql1).1)==5 then
     bif Nat.ble (v64.length+1) 1073741824 then
      L1 (IntKind.wrap .i64 (v2+1)) v3 v4 v5 v6 v7 v8 v9 v10 v11 v12 v13 v14 v15 v16 v17 v18 v19 v20 v21 v22 v23 v24 v25 v26 v27 v28 v29 v30 v31 v32 v33 v34 v35 v36 v37 v38 v39 v40 v41 v42 v43 v44 v45 v46 v47 v48 v49 v50 v51 v52 v53 v54 v55 v56 v57 v58 v59 v60 v61 v62 v63 (v64++[((List.getD v63 v2.toNat Ql1).1,((List.getD v63 v2.toNat Ql1).2).1,(((List.getD v63 v2.toNat Ql1).2).2).1,((((List.getD v63 v2.toNat Ql1).2).2).2).1,(((((List.getD v63 v2.toNat Ql1).2).2).2).2).1,((((((List.getD v63 v2.toNat Ql1).2).2).2).2).2).1,(((((((List.getD v63 v2.toNat Ql1).2).2).2).2).2).2).1,((((((((List.getD v63 v2.toNat Ql1).2).2).2).2).2).2).2).1,if 0>IntKind.wrap .i64 (v19 - 1) then 0 else IntKind.wrap .i64 (v19 - 1),(((((((((List.getD v63 v2.toNat Ql1).2).2).2).2).2).2).2).2).2)])
     else none
    else
    bif Nat.ble (v64.length+1) 1073741824 then
     L1 (IntKind.wrap .i64 (v2+1)) v3 v4 v5 v6 v7 v8 v9 v10 v11 v12 v13 v14 v15 v16 v17 v18 v19 v20 v21 v22 v23 v24 v25 v26 v27 v28 v29 v30 v31 v32 v33 v34 v35 v36 v37 v38 v39 v40 v41 v42 v43 v44 v45 v46 v47 v48 v49 v50 v51 v52 v53 v54 v55 v56 v57 v58 v59 v60 v61 v62 v63 (v64++[((List.getD v63 v2.toNat Ql1).1,((List.getD v63 v2.toNat Ql1).2).1,(((List.getD v63 v2.toNat Ql1).2).2).1,((((List.getD v63 v2.toNat Ql1).2).2).2).1,(((((List.getD v63 v2.toNat Ql1).2).2).2).2).1,((((((List.getD v63 v2.toNat Ql1).2).2).2).2).2).1,(((((((List.getD v63 v2.toNat Ql1).2).2).2).2).2).2).1,((((((((List.getD v63 v2.toNat Ql1).2).2).2).2).2).2).2).1,(((((((((List.getD v63 v2.toNat Ql1).2).2).2).2).2).2).2).2))])
    else none
   else none
  else none
 else
 bif v53==0 then
  some (((v3,v4,v5,(v50,v51,v52,v53,v54,v55,v56,v57,v58,v59,v60,v61,v62),(v19,v20,v21,v22,v23,v24,v25),v26),v64,()),())
 else
  Option.bind (Zm4 (v19,v20,v21,v22,v23,v24,v25) v52) fun r65=>
  bif r65.1.2.2.1 then
   Option.bind (Qk0 (v50,v51,v52,v53,v54,v55,v56,v57,v58,v59,v60,v61,v62) 8 v53) fun r66=>
   bif Nat.ble (v64.length+1) 1073741824 then
    bif (decide (0≤(v23.length:Int))&&decide ((v23.length:Int)≤((g4 r65.1.1).length:Int)))&&decide (((g4 r65.1.1).length:Int)≤((g4 r65.1.1).length:Int)) then
     Option.bind (Qnn (v50,v51,v52,v53,v54,v55,v56,v57,v58,v59,v60,v61,v62) (List.drop ((v23.length:Int).toNat) (List.take (((g4 r65.1.1).length:Int).toNat) (g4 r65.1.1)))) fun r67=>
     bif Nat.ble ((v64++[(u8 (u7 r66.1.1 r65.1.2.1.1) r65.1.2.1.2)]).length+r67.1.1.length) 1073741824 then
      some (((v3,v4,v5,(v50,v51,v52,v53,v54,v55,v56,v57,v58,v59,v60,v61,v62),r65.1.1,v26),(v64++[(u8 (u7 r66.1.1 r65.1.2.1.1) r65.1.2.1.2)])++r67.1.1,()),())
     else none
    else none
   else none
  else
  bif (decide (0≤(v23.length:Int))&&decide ((v23.length:Int)≤((g4 r65.1.1).length:Int)))&&decide (((g4 r65.1.1).length:Int)≤((g4 r65.1.1).length:Int)) then
   Option.bind (Qnn (v50,v51,v52,v53,v54,v55,v56,v57,v58,v59,v60,v61,v62) (List.drop ((v23.length:Int).toNat) (List.take (((g4 r65.1.1).length:Int).toNat) (g4 r65.1.1)))) fun r68=>
   bif Nat.ble (v64.length+r68.1.1.length) 1073741824 then
    some (((v3,v4,v5,(v50,v51,v52,v53,v54,v55,v56,v57,v58,v59,v60,v61,v62),r65.1.1,v26),v64++r68.1.1,()),())
   else none
  else none
noncomputable def Z14 (L1:Qs6) (n_0:Bool × Int × ByteArray × Qli × Qnc × Int):Option Qlq:=
 bif !n_0.1 then
  some ((n_0,[],()),())
 else
  Option.bind (Zlk (g3 n_0)) fun r1=>
  L1 0 n_0.1 n_0.2.1 n_0.2.2.1 (g3 n_0).1 (g3 n_0).2.1 (g3 n_0).2.2.1 (g3 (g3 n_0)) (g4 (g3 n_0)) (g5 (g3 n_0)) (g6 (g3 n_0)) (g7 (g3 n_0)) (g8 (g3 n_0)) (g9 (g3 n_0)) (g10 (g3 n_0)) (g11 (g3 n_0)) (h12 (g3 n_0)) (g4 n_0).1 (g4 n_0).2.1 (g4 n_0).2.2.1 (g3 (g4 n_0)) (g4 (g4 n_0)) (g5 (g4 n_0)) (h6 (g4 n_0)) (h5 n_0) 0 (⟨#[]⟩:ByteArray) 0 0 0 0 0 0 0 0 0 0 0 0 0 0 0 0 [] [] [] [] [] r1.1.1.1 r1.1.1.2.1 r1.1.1.2.2.1 (g3 r1.1.1) (g4 r1.1.1) (g5 r1.1.1) (g6 r1.1.1) (g7 r1.1.1) (g8 r1.1.1) (g9 r1.1.1) (g10 r1.1.1) (g11 r1.1.1) (h12 r1.1.1) r1.1.2.1 []
noncomputable def Qzl (n:Nat):Nat→Qs6:=iter (fun _ _ _ _ _ _ _ _ _ _ _ _ _ _ _ _ _ _ _ _ _ _ _ _ _ _ _ _ _ _ _ _ _ _ _ _ _ _ _ _ _ _ _ _ _ _ _ _ _ _ _ _ _ _ _ _ _ _ _ _ _ _ _=>none) fun L=>Z0p L
noncomputable def Qo0 (n m:Nat) (v2:Int) (v3:Bool) (v4:Int) (v5:ByteArray) (v6 v7 v8 v9 v10 v11:Int) (v12:List Int) (v13 v14 v15 v16 v17:Int) (v18:List Qkm) (v19 v20:Int) (v21 v22:List Qk2) (v23:List Qkq) (v24 v25 v26 v27:Int) (v28:ByteArray) (v29 v30 v31 v32 v33 v34 v35 v36 v37 v38 v39 v40 v41 v42 v43 v44:Int) (v45:List Int) (v46:List Qkm) (v47 v48:List Qk2) (v49:List Qkq) (v50 v51 v52 v53 v54 v55:Int) (v56:List Int) (v57 v58 v59 v60 v61:Int) (v62:List Qkm) (v63 v64:List Qko):Option Qlq:=
 Qjl Qt1 tab (fiB [.val t58] Qra) n [.val t58] [⟨t58,(nF 24),none⟩,⟨t70,[true],none⟩] Tryz.f39 [1,1,1,1,0,1,0] [] [1,2,4,5,6,7] m
 ⟨[(1,V1 (.ptr (1,0) 0)),(2,V1 (.ptr (2,0) 0)),(4,V1 (.ptr (4,0) 0)),(5,V1 (.ref (888888,5))),(6,V1 (.ref (888888,6))),(7,Vp t2 v2)],[((1,0),Ob.box 59 [LV.pure t4 v3,LV.pure t2 v4,LV.pure t9 v5,LV.pure t2 v6,LV.pure t2 v7,LV.pure t2 v8,LV.pure t2 v9,LV.pure t2 v10,LV.pure t2 v11,LV.pure t44 v12,LV.pure t2 v13,LV.pure t2 v14,LV.pure t2 v15,LV.pure t2 v16,LV.pure t2 v17,LV.pure t49 v18,LV.pure t2 v19,LV.pure t2 v20,LV.pure t52 v21,LV.pure t52 v22,LV.pure t53 v23,LV.pure t2 v24,LV.pure t2 v25,LV.pure t2 v26]),((2,0),Ob.box 59 [LV.lit false,LV.pure t2 v27,LV.pure t9 v28,LV.pure t2 v29,LV.pure t2 v30,LV.pure t2 v31,LV.pure t2 v32,LV.pure t2 v33,LV.pure t2 v34,LV.ref (2,10),LV.pure t2 v35,LV.pure t2 v36,LV.pure t2 v37,LV.pure t2 v38,LV.pure t2 v39,LV.ref (2,16),LV.pure t2 v40,LV.pure t2 v41,LV.ref (2,19),LV.ref (2,20),LV.ref (2,21),LV.pure t2 v42,LV.pure t2 v43,LV.pure t2 v44]),((2,10),Ob.row 3 t2 v45),((2,16),Ob.row 84 t83 v46),((2,19),Ob.row 142 Qyo v47),((2,20),Ob.row 142 Qyo v48),((2,21),Ob.row 144 Xa0 v49),((4,0),Ob.box 51 [LV.pure t2 v50,LV.pure t2 v51,LV.pure t2 v52,LV.pure t2 v53,LV.pure t2 v54,LV.pure t2 v55,LV.pure t44 v56,LV.pure t2 v57,LV.pure t2 v58,LV.pure t2 v59,LV.pure t2 v60,LV.pure t2 v61,LV.pure t49 v62]),((888888,5),Ob.row 105 Qsi v63),((888888,6),Ob.row 105 Qsi v64)]⟩
theorem Zcm (n m:Nat):Qo0 n (m+1)=Z0p (Qo0 n m):=by kernel_rfl
theorem Qy4 (n:Nat):∀ m,Qo0 n m=Qzl n m
 | 0=>rfl
 | m+1=>by rw [Zcm n m,Qy4 n m];rfl
noncomputable def Z15 (n:Nat) (n_0:Bool × Int × ByteArray × Qli × Qnc × Int):Option Qlq:=Z14 (Qzl n n) n_0
noncomputable def Zr8 (n_0:Bool × Int × ByteArray × Qli × Qnc × Int):Option Qlq:=Z15 1099511627776 n_0
noncomputable def Z29:Ent:=⟨[.val t58],[⟨t58,(nF 24),none⟩,⟨t70,[true],none⟩],fun x=>Zr8 x.1⟩
theorem Zjo (n:Nat) (n_0:Bool × Int × ByteArray × Qli × Qnc × Int):Qdf Qt1 tab Qra n [.val t58] [⟨t58,(nF 24),none⟩,⟨t70,[true],none⟩] Tryz.f39 (n_0,())=Z15 n n_0:=Eq.trans (b:=Z14 (Qo0 n n) n_0) (by kernel_rfl) (by rw [Qy4 n n];rfl)
theorem Zfu:Q4j tab.ty Tryz.prog 39 Z29:=
 Qjd (Γ:=Qt1) (fi:=Qra) (n:=1099511627776) follows (Qjq Qup (Qjq Zop (Qjq Zon (Qjq Qks Qju)))) Qjz Tryz.func39 (by kernel_rfl) (by kernel_rfl) fun x r h=>(Zjo 1099511627776 x.1).trans h
noncomputable def Zhw (n_0:Bool × Int × ByteArray × Qli × Qnc × Int):Option ((Z3k × Unit) × Unit):=
 bif !n_0.1 then
  some ((n_0,()),())
 else
  some (((u4 (u3 (u2 (u0 n_0 false) (⟨#[]⟩:ByteArray)) Xdk) (0,0,[],[],[],0,0)),()),())
noncomputable def Qxc:Ent:=⟨[.val t58],[⟨t58,(nF 24),none⟩],fun x=>Zhw x.1⟩
theorem Z18:Q4j tab.ty Tryz.prog 40 Qxc:=
 Qjd (Γ:=[]) (fi:={ keep:=[],vty:=[],vals:=[],live:=[(0,[1,2]),(1,[1,2,5]),(2,[2]),(3,[2])] }) (n:=1) follows Qju Qjz Tryz.func40 (by kernel_rfl) (by kernel_rfl) fun x r h=>Eq.trans (by kernel_rfl) h
abbrev Qmn:Type:=(Qtq × Unit) × Unit
noncomputable def Qxu:Ctx:=[(64,Ql3)]
def Qvn:Fi:={ keep:=[],vty:=[(3,70)],vals:=[],live:=[(0,[1]),(1,[1,3]),(2,[1,3,7]),(3,[1,3]),(4,[1,3,4]),(5,[1,3,4,19]),(6,[1,3,4]),(7,[1,3,4]),(8,[2])] }
abbrev Qvu:Type:=Int→Int→Int→Int→Int→Int→Int→List Int→Int→Int→Int→Int→Int→Zjb→Qtq→Option Qmn
noncomputable def Z8m (L1:Qvu) (v2 v3 v4 v5 v6 v7 v8:Int) (v9:List Int) (v10 v11 v12 v13 v14:Int) (v15:List Qkm) (v16:List Qko):Option Qmn:=
 bif decide (v2<(v15.length:Int)) then
  bif decide (0≤v2)&&decide (v2<(v15.length:Int)) then
   Option.bind (Qk0 (v3,v4,v5,v6,v7,v8,v9,v10,v11,v12,v13,v14,v15) 3 ((List.getD v15 v2.toNat (0,0,0)).1)) fun r17=>
   bif Nat.ble (v16.length+1) 1073741824 then
    L1 (IntKind.wrap .i64 (v2+1)) v3 v4 v5 v6 v7 v8 v9 v10 v11 v12 v13 v14 v15 (v16++[r17.1.1])
   else none
  else none
 else
  some ((v16,()),())
noncomputable def Zaz (L1:Qvu) (t_0:Int × Int × Int × Int × Int × Int × (List Int) × Int × Int × Int × Int × Int × List Qkm):Option Qmn:=
 bif (g3 t_0) != 0 then
  Option.bind (Qk0 t_0 6 (g3 t_0)) fun r1=>
  L1 0 t_0.1 t_0.2.1 t_0.2.2.1 (g3 t_0) (g4 t_0) (g5 t_0) (g6 t_0) (g7 t_0) (g8 t_0) (g9 t_0) (g10 t_0) (g11 t_0) (h12 t_0) [r1.1.1]
 else
  L1 0 t_0.1 t_0.2.1 t_0.2.2.1 (g3 t_0) (g4 t_0) (g5 t_0) (g6 t_0) (g7 t_0) (g8 t_0) (g9 t_0) (g10 t_0) (g11 t_0) (h12 t_0) []
noncomputable def Z7e (n:Nat):Nat→Qvu:=iter (fun _ _ _ _ _ _ _ _ _ _ _ _ _ _ _=>none) fun L=>Z8m L
noncomputable def Qqi (n m:Nat) (v2 v3 v4 v5 v6 v7 v8:Int) (v9:List Int) (v10 v11 v12 v13 v14:Int) (v15:List Qkm) (v16:List Qko):Option Qmn:=
 Qjl Qxu tab (fiB [.val t50] Qvn) n [.val t50] [⟨t70,[true],none⟩] Tryz.f65 [1,1,1,0,1,0] [] [1,3,4] m
 ⟨[(1,V1 (.ptr (1,0) 0)),(3,V1 (.ref (888888,3))),(4,Vp t2 v2)],[((1,0),Ob.box 51 [LV.pure t2 v3,LV.pure t2 v4,LV.pure t2 v5,LV.pure t2 v6,LV.pure t2 v7,LV.pure t2 v8,LV.pure t44 v9,LV.pure t2 v10,LV.pure t2 v11,LV.pure t2 v12,LV.pure t2 v13,LV.pure t2 v14,LV.pure t49 v15]),((888888,3),Ob.row 105 Qsi v16)]⟩
theorem Zki (n m:Nat):Qqi n (m+1)=Z8m (Qqi n m):=by kernel_rfl
theorem Z46 (n:Nat):∀ m,Qqi n m=Z7e n m
 | 0=>rfl
 | m+1=>by rw [Zki n m,Z46 n m];rfl
noncomputable def Zbz (n:Nat) (t_0:Int × Int × Int × Int × Int × Int × (List Int) × Int × Int × Int × Int × Int × List Qkm):Option Qmn:=Zaz (Z7e n n) t_0
noncomputable def Zim (t_0:Int × Int × Int × Int × Int × Int × (List Int) × Int × Int × Int × Int × Int × List Qkm):Option Qmn:=Zbz 1099511627776 t_0
noncomputable def Zay:Ent:=⟨[.val t50],[⟨t70,[true],none⟩],fun x=>Zim x.1⟩
theorem Zqx (n:Nat) (t_0:Int × Int × Int × Int × Int × Int × (List Int) × Int × Int × Int × Int × Int × List Qkm):Qdf Qxu tab Qvn n [.val t50] [⟨t70,[true],none⟩] Tryz.f65 (t_0,())=Zbz n t_0:=Eq.trans (b:=Zaz (Qqi n n) t_0) (by kernel_rfl) (by rw [Z46 n n];rfl)
theorem Zn0:Q4j tab.ty Tryz.prog 65 Zay:=
 Qjd (Γ:=Qxu) (fi:=Qvn) (n:=1099511627776) follows (Qjq Qks Qju) Qjz Tryz.func65 (by kernel_rfl) (by kernel_rfl) fun x r h=>(Zqx 1099511627776 x.1).trans h
noncomputable def X38 (n_0:Bool × Int × ByteArray × Qli × Qnc × Int):Option ((Z3k × Qtq × Unit) × Unit):=
 bif !n_0.1 then
  some ((n_0,[],()),())
 else
  Option.bind (Zhw n_0) fun r1=>
  Option.bind (Zim (g3 n_0)) fun r2=>
  some ((r1.1.1,r2.1.1,()),())
noncomputable def Zge:Ent:=⟨[.val t58],[⟨t58,(nF 24),none⟩,⟨t70,[true],none⟩],fun x=>X38 x.1⟩
theorem Zqp:Q4j tab.ty Tryz.prog 41 Zge:=
 Qjd (Γ:=[(40,Qxc),(65,Zay)]) (fi:={ keep:=[],vty:=[],vals:=[],live:=[(0,[1,2]),(1,[1,2,6]),(2,[2,3]),(3,[2,3])] }) (n:=1) follows (Qjq Z18 (Qjq Zn0 Qju)) Qjz Tryz.func41 (by kernel_rfl) (by kernel_rfl) fun x r h=>Eq.trans (by kernel_rfl) h
abbrev Qlp:Type:=(Qkr × Unit) × Unit
noncomputable def Qsw:Ctx:=[(66,Qjc),(32,Qob),(33,Qv0),(58,Qty),(59,Qoi),(60,Qsh),(111,Qvc)]
def Qrd:Fi:={ keep:=[],vty:=[(12,44)],vals:=[],live:=[(0,[0,1,2,3,53,54,55]),(1,[0,1,2,3,9,53,54,55]),(2,[0,1,2,3,9,10,53,54,55]),(3,[0,1,2,3,9,10,22,53,54,55]),(4,[8]),(5,[0,3,9,10,11,53,54,55]),(6,[0,3,9,10,11,33,53,54,55]),(7,[8]),(8,[0,3,9,10,11,53,54,55]),(9,[0,3,9,10,11,56]),(10,[8]),(11,[0,3,9,10,11,12]),(12,[0,3,9,10,11,12,13]),(13,[0,3,9,10,11,12,13,61]),(14,[0,3,9,10,11,12,13]),(15,[0,3,9,10,11,12,13,66]),(16,[0,3,9,10,11,12,13]),(17,[0,3,9,10,11,14]),(18,[0,3,9,10,14]),(19,[0,3,9,10,14]),(20,[0,3,9,10,112]),(21,[0,3,9,10]),(22,[0,3,9,10,124]),(23,[8]),(24,[8])],melt:=[(7,1000010),(19,1000010)] }
abbrev Qrs:Type:=List (List Int)→Int→Int→Int→Qkr→List Int→List Int→Option Qlp
noncomputable def Z0g (L1:Qrs) (v6:List (List Int)) (v7 v8 v9:Int) (v10:List Qq3) (v11 v12:List Int):Option Qlp:=
 bif decide (v9<(v10.length:Int)) then
  bif v9 != v8 then
   bif decide (0≤v9)&&decide (v9<(v10.length:Int)) then
    bif decide (0≤v9)&&decide (v9<(v10.length:Int)) then
     bif Nat.ble (v12.length+1) 1073741824 then
      L1 v6 v7 v8 (IntKind.wrap .i64 (v9+1)) v10 v11 (v12++[(List.getD v10 v9.toNat ([],0)).2])
     else none
    else none
   else none
  else
   L1 v6 v7 v8 (IntKind.wrap .i64 (v9+1)) v10 v11 v12
 else
 bif decide (0≤v8)&&decide (v8<(v10.length:Int)) then
  bif decide (0≤v8)&&decide (v8<(v10.length:Int)) then
   Option.bind (Qm6 v6 ((List.getD v10 v8.toNat ([],0)).2) v12) fun r13=>
   Option.bind (Qmx v10 r13.1.1) fun r14=>
   bif Nat.ble (0+v11.length) 1073741824 then
    bif decide (0≤r14.1.1)&&decide (r14.1.1<(v10.length:Int)) then
     bif decide (0≤r14.1.1)&&decide (r14.1.1<(v10.length:Int)) then
      bif Nat.ble (([]++v11).length+((List.getD v10 r14.1.1.toNat ([],0)).1).length) 1073741824 then
       Option.bind (Qkx (([]++v11)++((List.getD v10 r14.1.1.toNat ([],0)).1))) fun r15=>
       Option.bind (Qpl v6 r15.1.1) fun r16=>
       bif decide (0≤v8)&&decide (v8<(v10.length:Int)) then
        bif decide (0≤v8)&&decide (v8<(v10.length:Int)) then
         bif decide (0≤r14.1.1)&&decide (r14.1.1≤(((List.map some (List.set v10 v8.toNat r16.1.1)).length:Nat):Int)) then
          bif Nat.ble (0+((r14.1.1 - 0).toNat)) ((List.map some (List.set v10 v8.toNat r16.1.1)).length) then
           Option.bind (Qd (List.take ((r14.1.1 - 0).toNat) (List.drop 0 (List.map some (List.set v10 v8.toNat r16.1.1))))) fun z17=>
           bif Nat.ble (0+z17.length) 1073741824 then
            bif (decide (0≤IntKind.wrap .i64 (r14.1.1+1))&&decide (IntKind.wrap .i64 (r14.1.1+1)≤(((List.set v10 v8.toNat r16.1.1).length:Nat):Int)))&&decide ((((List.set v10 v8.toNat r16.1.1).length:Nat):Int)≤(((List.map some (List.set v10 v8.toNat r16.1.1)).length:Nat):Int)) then
            bif Nat.ble ((0+((IntKind.wrap .i64 (r14.1.1+1)).toNat))+(((((List.set v10 v8.toNat r16.1.1).length:Nat):Int) - (IntKind.wrap .i64 (r14.1.1+1))).toNat)) ((List.map some (List.set v10 v8.toNat r16.1.1)).length) then
            Option.bind (Qd (List.take (((((List.set v10 v8.toNat r16.1.1).length:Nat):Int) - (IntKind.wrap .i64 (r14.1.1+1))).toNat) (List.drop (0+((IntKind.wrap .i64 (r14.1.1+1)).toNat)) (List.map some (List.set v10 v8.toNat r16.1.1))))) fun z18=>
            bif Nat.ble ((([]++z17).length)+z18.length) 1073741824 then
            bif decide (r14.1.1<v8) then
            bif decide (0≤IntKind.wrap .i64 (v8 - 1))&&decide (IntKind.wrap .i64 (v8 - 1)<((([]++z17)++z18).length:Int)) then
            bif decide (0≤IntKind.wrap .i64 (v8 - 1))&&decide (IntKind.wrap .i64 (v8 - 1)<((([]++z17)++z18).length:Int)) then
            bif decide ((((List.getD (([]++z17)++z18) ((IntKind.wrap .i64 (v8 - 1)).toNat) ([],0)).1).length:Int)>IntKind.wrap .i64 ((IntKind.wrap .i64 (3*v7)) - 1)) then
            Option.bind (Qoe v6 (([]++z17)++z18) (IntKind.wrap .i64 (v8 - 1)) v7) fun r19=>
            some ((r19.1.1,()),())
            else
            some ((([]++z17)++z18,()),())
            else none
            else none
            else
            bif decide (0≤v8)&&decide (v8<((([]++z17)++z18).length:Int)) then
            bif decide (0≤v8)&&decide (v8<((([]++z17)++z18).length:Int)) then
            bif decide ((((List.getD (([]++z17)++z18) v8.toNat ([],0)).1).length:Int)>IntKind.wrap .i64 ((IntKind.wrap .i64 (3*v7)) - 1)) then
            Option.bind (Qoe v6 (([]++z17)++z18) v8 v7) fun r20=>
            some ((r20.1.1,()),())
            else
            some ((([]++z17)++z18,()),())
            else none
            else none
            else none
            else none
            else none
           else none
          else none
         else none
        else none
       else none
      else none
     else none
    else none
   else none
  else none
 else none
noncomputable def Z1o (L1:Qrs) (arr_0:List (List Int)) (x_1:List Qq3) (x_2 x_3:Int):Option Qlp:=
 Option.bind (Qmx x_1 x_2) fun r1=>
 bif Nat.ble (0+x_1.length) 1073741824 then
  bif decide (r1.1.1<0) then
   some (([]++x_1,()),())
  else
  bif decide (0≤r1.1.1)&&decide (r1.1.1<(x_1.length:Int)) then
   Option.bind (Qk8 ((List.getD x_1 r1.1.1.toNat ([],0)).1) x_2) fun r2=>
   bif (r2.1.1.length:Int)==0 then
    bif decide (0≤r1.1.1)&&decide (r1.1.1≤(((List.map some ([]++x_1)).length:Nat):Int)) then
     bif (decide (0≤IntKind.wrap .i64 (r1.1.1+1))&&decide (IntKind.wrap .i64 (r1.1.1+1)≤((([]++x_1).length:Nat):Int)))&&decide (((([]++x_1).length:Nat):Int)≤(((List.map some ([]++x_1)).length:Nat):Int)) then
      bif Nat.ble (0+((r1.1.1 - 0).toNat)) ((List.map some ([]++x_1)).length) then
       bif Nat.ble ((0+((IntKind.wrap .i64 (r1.1.1+1)).toNat))+((((([]++x_1).length:Nat):Int) - (IntKind.wrap .i64 (r1.1.1+1))).toNat)) ((List.map some ([]++x_1)).length) then
        Option.bind (Qd (List.take ((((([]++x_1).length:Nat):Int) - (IntKind.wrap .i64 (r1.1.1+1))).toNat) (List.drop (0+((IntKind.wrap .i64 (r1.1.1+1)).toNat)) (List.map some ([]++x_1))))) fun z3=>
        bif Nat.ble (((r1.1.1 - 0).toNat)+z3.length) ((List.map some ([]++x_1)).length) then
         bif Nat.ble (((r1.1.1 - 0).toNat)+z3.length) ((Q6 (List.map some ([]++x_1)) ((r1.1.1 - 0).toNat) z3).length) then
          Option.bind (Qd (List.take (((r1.1.1 - 0).toNat)+z3.length) (Q6 (List.map some ([]++x_1)) ((r1.1.1 - 0).toNat) z3))) fun z4=>
          some ((z4,()),())
         else none
        else none
       else none
      else none
     else none
    else none
   else
    Option.bind (Qpl arr_0 r2.1.1) fun r5=>
    bif decide (0≤r1.1.1)&&decide (r1.1.1<(([]++x_1).length:Int)) then
     bif decide (0≤r1.1.1)&&decide (r1.1.1<(([]++x_1).length:Int)) then
      bif decide ((r2.1.1.length:Int) ≥ x_3) then
       some ((List.set ([]++x_1) r1.1.1.toNat r5.1.1,()),())
      else
      bif ((List.set ([]++x_1) r1.1.1.toNat r5.1.1).length:Int)==1 then
       some ((List.set ([]++x_1) r1.1.1.toNat r5.1.1,()),())
      else
       L1 arr_0 x_3 r1.1.1 0 (List.set ([]++x_1) r1.1.1.toNat r5.1.1) r2.1.1 []
     else none
    else none
  else none
 else none
noncomputable def Qyt (n:Nat):Nat→Qrs:=iter (fun _ _ _ _ _ _ _=>none) fun L=>Z0g L
noncomputable def Qo1 (n m:Nat) (v6:List (List Int)) (v7 v8 v9:Int) (v10:List Qq3) (v11 v12:List Int):Option Qlp:=
 Qjl Qsw tab (fiB [.val t26,.val t88,.val t2,.val t2] Qrd) n [.val t26,.val t88,.val t2,.val t2] [⟨t88,[true],none⟩] Tryz.f66 [1,1,1,1,1,1,1,1,1,0,1,0] [] [0,3,9,10,11,12,13] m
 ⟨[(0,Vp t26 v6),(3,Vp t2 v7),(9,Vp t2 v8),(10,V1 (.ref (888888,10))),(11,V1 (.ref (888888,11))),(12,V1 (.ref (888888,12))),(13,Vp t2 v9)],[((888888,10),Ob.row 91 t90 v10),((888888,11),Ob.row 3 t2 v11),((888888,12),Ob.row 3 t2 v12)]⟩
theorem Zcu (n m:Nat):Qo1 n (m+1)=Z0g (Qo1 n m):=by kernel_rfl
theorem Qym (n:Nat):∀ m,Qo1 n m=Qyt n m
 | 0=>rfl
 | m+1=>by rw [Zcu n m,Qym n m];rfl
noncomputable def Z1b (n:Nat) (arr_0:List (List Int)) (x_1:List Qq3) (x_2 x_3:Int):Option Qlp:=Z1o (Qyt n n) arr_0 x_1 x_2 x_3
noncomputable def Z74 (arr_0:List (List Int)) (x_1:List Qq3) (x_2 x_3:Int):Option Qlp:=Z1b 1099511627776 arr_0 x_1 x_2 x_3
noncomputable def Z1m:Ent:=⟨[.val t26,.val t88,.val t2,.val t2],[⟨t88,[true],none⟩],fun x=>Z74 x.1 x.2.1 x.2.2.1 x.2.2.2.1⟩
theorem Zkx (n:Nat) (arr_0:List (List Int)) (x_1:List Qq3) (x_2 x_3:Int):Qdf Qsw tab Qrd n [.val t26,.val t88,.val t2,.val t2] [⟨t88,[true],none⟩] Tryz.f66 (arr_0,x_1,x_2,x_3,())=Z1b n arr_0 x_1 x_2 x_3:=Eq.trans (b:=Z1o (Qo1 n n) arr_0 x_1 x_2 x_3) (by kernel_rfl) (by rw [Qym n n];rfl)
theorem Zfp:Q4j tab.ty Tryz.prog 66 Z1m:=
 Qjd (Γ:=Qsw) (fi:=Qrd) (n:=1099511627776) follows (Qjq (Qjr Tryz.func66 (by kernel_rfl) (by kernel_rfl)) (Qjq Qnv (Qjq Qw1 (Qjq Qt8 (Qjq Qp1 (Qjq Qsz (Qjq Z0k Qju))))))) Qjz Tryz.func66 (by kernel_rfl) (by kernel_rfl) fun x r h=>(Zkx 1099511627776 x.1 x.2.1 x.2.2.1 x.2.2.2.1).trans h
noncomputable def X0q (h_0:Int × Qp3 × List Qkr) (id_1:Int):Option ((Xcm × Unit) × Unit):=
 Option.bind (Qys h_0.2.1) fun r1=>
 bif !r1.1.1 then
  some ((h_0,()),())
 else
 bif (h_0.2.2.length:Int)==0 then
  some ((h_0,()),())
 else
 bif decide (0<(h_0.2.2.length:Int)) then
  Option.bind (Qmx (List.getD h_0.2.2 0 []) id_1) fun r2=>
  bif decide (r2.1.1<0) then
   some ((h_0,()),())
  else
  bif decide (0<(h_0.2.2.length:Int)) then
   Option.bind (Z74 h_0.2.1 (List.getD h_0.2.2 0 []) id_1 h_0.1) fun r3=>
   Option.bind (Qwo h_0 r3.1.1) fun r4=>
   some ((r4.1.1,()),())
  else none
 else none
noncomputable def Zdn:Ent:=⟨[.val t28,.val t2],[⟨t28,[false,false,false],none⟩],fun x=>X0q x.1 x.2.1⟩
theorem Zof:Q4j tab.ty Tryz.prog 42 Zdn:=
 Qjd (Γ:=[(31,Qqh),(32,Qob),(34,Z0d),(66,Z1m)]) (fi:={ keep:=[],vty:=[],vals:=[],live:=[(0,[1,2,4,10,11,12,13,16,17,18,19,20,21,22]),(1,[1,2,4,23]),(2,[4]),(3,[4])] }) (n:=1) follows (Qjq Qr6 (Qjq Qnv (Qjq Z4m (Qjq Zfp Qju)))) Qjz Tryz.func42 (by kernel_rfl) (by kernel_rfl) fun x r h=>Eq.trans (by kernel_rfl) h
noncomputable def Zlf:Ctx:=[(16,Z2p),(17,Qz9),(21,Qte),(38,Zlo),(39,Z29),(40,Qxc),(41,Zge),(42,Zdn)]
def Zgh:Fi:={ keep:=[],vty:=[(12,70),(14,70),(71,70),(98,70)],vals:=[],live:=[(0,[2,3,4]),(1,[2,3,4,6]),(2,[2,3,4,6,7]),(3,[2,3,4,6,7,25]),(4,[2,3,4,6,7,27]),(5,[4,5]),(6,[2,3,4,6,7,8]),(7,[2,4,6,8,9,10]),(8,[2,4,6,8,9,48]),(9,[4,5]),(10,[2,4,6,9]),(11,[4,5]),(12,[2,3,4,6,7,58]),(13,[4,5]),(14,[2,3,4,6,7,62]),(15,[2,4,6,11,12]),(16,[4,5]),(17,[2,3,4,6,7,74]),(18,[4,5]),(19,[2,3,4,6,7,78]),(20,[4,5]),(21,[2,3,4,6,13,14]),(22,[2,4,6,13,14]),(23,[4,5])] }
noncomputable def X0h (x:PDs [.val t30,.val t40]):Option (RDs [⟨t30,[false,false,false,false,false,false],none⟩,⟨t2,[false],none⟩] × ODs [.val t30,.val t40]):=Qdf Zlf tab Zgh 1099511627776 [.val t30,.val t40] [⟨t30,[false,false,false,false,false,false],none⟩,⟨t2,[false],none⟩] Tryz.f19 x
noncomputable def Zsa (x0:Qsj × Qq2 × (List ByteArray) × Int × Qp3 × List Qkr) (x1:Int × Int × Int × Int × ByteArray):Option ((Zmw × Int × Unit) × Unit):=X0h (x0,x1,())
noncomputable def Zla:Ent:=⟨[.val t30,.val t40],[⟨t30,[false,false,false,false,false,false],none⟩,⟨t2,[false],none⟩],fun x=>Zsa x.1 x.2.1⟩
theorem Zu9:Q4j tab.ty Tryz.prog 19 Zla:=by
  refine Qjd (Γ:=Zlf) (fi:=Zgh) (n:=1099511627776) follows (Qjq Z8i (Qjq Z3w (Qjq Quo (Qjq Zt2 (Qjq Zfu (Qjq Z18 (Qjq Zqp (Qjq Zof Qju)))))))) Qjz Tryz.func19 (by kernel_rfl) (by kernel_rfl) (fun x r h=>?_)
  obtain ⟨x0,x1,_u⟩:=x
  exact h
noncomputable def Zpd (f_0:Int × Int × Qkg × Qkg × Qpf × Int × Int) (text_1:ByteArray):Option ((Qnc × Bool × Unit) × Unit):=
 bif decide ((text_1.size:Int)>12) then
  some ((f_0,false,()),())
 else
 bif decide ((if 1>f_0.1 then 1 else f_0.1)>1000000) then
  some ((f_0,false,()),())
 else
  Option.bind (Qwl (g4 f_0) (if 1>f_0.1 then 1 else f_0.1) text_1) fun r1=>
  Option.bind (Qrm f_0.2.2.1 (if 1>f_0.1 then 1 else f_0.1,text_1)) fun r2=>
  some (((u4 (u2 (u1 (u0 f_0 (IntKind.wrap .i64 ((if 1>f_0.1 then 1 else f_0.1)+1))) (if 1>f_0.1 then 1 else f_0.1)) r2.1.1) r1.1.1),true,()),())
noncomputable def Zh6:Ent:=⟨[.val t56,.val t9],[⟨t56,(nF 7),none⟩,⟨t4,[false],none⟩],fun x=>Zpd x.1 x.2.1⟩
theorem Zqn:Q4j tab.ty Tryz.prog 43 Zh6:=
 Qjd (Γ:=[(67,Qzq),(68,Que)]) (fi:={ keep:=[],vty:=[],vals:=[],live:=[(0,[1,2,4,14,15]),(1,[1,2,4,6,14,15]),(2,[1,2,4,6,16]),(3,[4,5]),(4,[2,4,6]),(5,[2,4]),(6,[4,5])] }) (n:=1) follows (Qjq Z4b (Qjq Qy7 Qju)) Qjz Tryz.func43 (by kernel_rfl) (by kernel_rfl) fun x r h=>Eq.trans (by kernel_rfl) h
noncomputable def Zq7 (n_0:Bool × Int × ByteArray × Qli × Qnc × Int) (text_1:ByteArray):Option ((Z3k × Qtq × Bool × Unit) × Unit):=
 Option.bind (Zpd (g4 n_0) text_1) fun r1=>
 bif !n_0.1 then
  some ((n_0,[],false,()),())
 else
 bif (g3 n_0).1 != 1 then
  some ((n_0,[],false,()),())
 else
 bif !r1.1.2.1 then
  some ((n_0,[],false,()),())
 else
 bif (decide (0≤((g4 (g4 n_0)).length:Int))&&decide (((g4 (g4 n_0)).length:Int)≤((g4 r1.1.1).length:Int)))&&decide (((g4 r1.1.1).length:Int)≤((g4 r1.1.1).length:Int)) then
  Option.bind (Qnn (g3 n_0) (List.drop (((g4 (g4 n_0)).length:Int).toNat) (List.take (((g4 r1.1.1).length:Int).toNat) (g4 r1.1.1)))) fun r2=>
  some (((u4 n_0 r1.1.1),r2.1.1,true,()),())
 else none
noncomputable def Ziu:Ent:=⟨[.val t58,.val t9],[⟨t58,(nF 24),none⟩,⟨t70,[true],none⟩,⟨t4,[false],none⟩],fun x=>Zq7 x.1 x.2.1⟩
theorem Zrm:Q4j tab.ty Tryz.prog 20 Ziu:=
 Qjd (Γ:=[(43,Zh6),(44,Qtc)]) (fi:={ keep:=[],vty:=[],vals:=[],live:=[(0,[1,2,4,21,22,23,24,27,28]),(1,[2,4,7,8,21,22,23,24,27,28]),(2,[2,4,7,29]),(3,[4,5,6]),(4,[2,4,7,9]),(5,[2,4,7,9]),(6,[4,5,6])] }) (n:=1) follows (Qjq Zqn (Qjq Qup Qju)) Qjz Tryz.func20 (by kernel_rfl) (by kernel_rfl) fun x r h=>Eq.trans (by kernel_rfl) h
noncomputable def Z6b (l_0:List Z8z) (i_1:Int):Option ((Qq2 × Z8z × Bool × Unit) × Unit):=
 bif decide (i_1<0) then
  some ((l_0,Qn2,false,()),())
 else
 bif decide (i_1 ≥ (l_0.length:Int)) then
  some ((l_0,Qn2,false,()),())
 else
 bif decide (0≤i_1)&&decide (i_1≤(l_0.length:Int)) then
  bif Nat.ble (0+(List.drop 0 (List.take i_1.toNat l_0)).length) 1073741824 then
   bif (decide (0≤IntKind.wrap .i64 (i_1+1))&&decide (IntKind.wrap .i64 (i_1+1)≤(l_0.length:Int)))&&decide ((l_0.length:Int)≤(l_0.length:Int)) then
    bif Nat.ble (([]++(List.drop 0 (List.take i_1.toNat l_0))).length+(List.drop ((IntKind.wrap .i64 (i_1+1)).toNat) (List.take ((l_0.length:Int).toNat) l_0)).length) 1073741824 then
     bif decide (0≤i_1)&&decide (i_1<(l_0.length:Int)) then
      some ((([]++(List.drop 0 (List.take i_1.toNat l_0)))++(List.drop ((IntKind.wrap .i64 (i_1+1)).toNat) (List.take ((l_0.length:Int).toNat) l_0)),(List.getD l_0 i_1.toNat Qn2),true,()),())
     else none
    else none
   else none
  else none
 else none
noncomputable def Zdm:Ent:=⟨[.val t24,.val t2],[⟨t24,[false],none⟩,⟨t74,[false,false,false],none⟩,⟨t4,[false],none⟩],fun x=>Z6b x.1 x.2.1⟩
theorem Znw:Q4j tab.ty Tryz.prog 22 Zdm:=
 Qjd (Γ:=[]) (fi:={ keep:=[],vty:=[],vals:=[],live:=[(0,[0,1,5,10,11,12,13]),(1,[0,1,5,14]),(2,[4,5,6]),(3,[4,5,6])] }) (n:=1) follows Qju Qjz Tryz.func22 (by kernel_rfl) (by kernel_rfl) fun x r h=>Eq.trans (by kernel_rfl) h
noncomputable def Z45:Ctx:=[]
def Z22:Fi:={ keep:=[],vty:=[(9,66),(19,66),(30,66),(38,66)],vals:=[],live:=[(0,[0,13,14,38,39,40,41,42,45,46]),(1,[0,5,6,13,14,38,39,40,41,42,45,46]),(2,[0,5,6,7,13,14,38,39,40,41,42,45,46]),(3,[0,5,6,7,13,14,15,38,39,40,41,42,45,46]),(4,[0,5,6,7,13,14,38,39,40,41,42,45,46]),(5,[0,5,6,7,13,14,38,39,40,41,42,45,46]),(6,[0,5,6,7,13,14,38,39,40,41,42,45,46]),(7,[0,5,6,7,13,14,34,38,39,40,41,42,45,46]),(8,[5,7,47]),(9,[2,3,4]),(10,[2,3,4]),(11,[2,3,4])] }
noncomputable def Zov (x:PDs [.val t66]):Option (RDs [⟨t2,[false],none⟩,⟨t2,[false],none⟩,⟨t4,[false],none⟩] × ODs [.val t66]):=Qdf Z45 tab Z22 1099511627776 [.val t66] [⟨t2,[false],none⟩,⟨t2,[false],none⟩,⟨t4,[false],none⟩] Tryz.f155 x
noncomputable def Qwz (x0:List Int):Option ((Int × Int × Bool × Unit) × Unit):=Zov (x0,())
noncomputable def Qtt:Ent:=⟨[.val t66],[⟨t2,[false],none⟩,⟨t2,[false],none⟩,⟨t4,[false],none⟩],fun x=>Qwz x.1⟩
theorem Qxz:Q4j tab.ty Tryz.prog 155 Qtt:=by
  refine Qjd (Γ:=Z45) (fi:=Z22) (n:=1099511627776) follows Qju Qjz Tryz.func155 (by kernel_rfl) (by kernel_rfl) (fun x r h=>?_)
  obtain ⟨x0,_u⟩:=x
  exact h
noncomputable def Zmf (r_0:(List Int) × Bool):Option ((Int × Unit) × (Xd5 × Unit)):=
 Option.bind (Qwz r_0.1) fun r1=>
 bif !r1.1.2.2.1 then
  some ((0,()),((r_0.1,true),()))
 else
 bif r_0.2 then
  some ((0,()),(r_0,()))
 else
 bif (decide (0≤r1.1.2.1)&&decide (r1.1.2.1≤(r_0.1.length:Int)))&&decide ((r_0.1.length:Int)≤(r_0.1.length:Int)) then
  some ((r1.1.1,()),((List.drop r1.1.2.1.toNat (List.take ((r_0.1.length:Int).toNat) r_0.1),r_0.2),()))
 else none
noncomputable def Qyk:Ent:=⟨[.box 195 Xde [false,false]],[⟨t2,[false],none⟩],fun x=>Zmf x.1⟩
theorem Zag:Q4j tab.ty Tryz.prog 116 Qyk:=
 Qjd (Γ:=[(155,Qtt)]) (fi:={ keep:=[],vty:=[],vals:=[],live:=[(0,[0]),(1,[0,3,4,5]),(2,[0,3,4,16]),(3,[0,3,4]),(4,[0,3,4,23]),(5,[0,2]),(6,[0,3]),(7,[0,2])] }) (n:=1) follows (Qjq Qxz Qju) Qjz Tryz.func116 (by kernel_rfl) (by kernel_rfl) fun x r h=>Eq.trans (by kernel_rfl) h
noncomputable def Z6u (b_0:List Int):Option ((ByteArray × Int × Bool × Unit) × Unit):=
 Option.bind (Qwz b_0) fun r1=>
 bif !r1.1.2.2.1 then
  some (((⟨#[]⟩:ByteArray),0,false,()),())
 else
 bif decide (r1.1.1>IntKind.wrap .i64 ((b_0.length:Int) - r1.1.2.1)) then
  some (((⟨#[]⟩:ByteArray),0,false,()),())
 else
 bif (decide (0≤r1.1.2.1)&&decide (r1.1.2.1≤IntKind.wrap .i64 (r1.1.2.1+r1.1.1)))&&decide (IntKind.wrap .i64 (r1.1.2.1+r1.1.1)≤(b_0.length:Int)) then
  some ((Q4w (List.drop r1.1.2.1.toNat (List.take ((IntKind.wrap .i64 (r1.1.2.1+r1.1.1)).toNat) b_0)),IntKind.wrap .i64 (r1.1.2.1+r1.1.1),true,()),())
 else none
noncomputable def Z2a:Ent:=⟨[.val t66],[⟨t9,[false],none⟩,⟨t2,[false],none⟩,⟨t4,[false],none⟩],fun x=>Z6u x.1⟩
theorem Zg3:Q4j tab.ty Tryz.prog 156 Z2a:=
 Qjd (Γ:=[(155,Qtt)]) (fi:={ keep:=[],vty:=[],vals:=[],live:=[(0,[0,17,18,19,20,21,22]),(1,[0,5,6,7,17,18,19,20,21,22]),(2,[0,5,6,23]),(3,[2,3,4]),(4,[2,3,4])] }) (n:=1) follows (Qjq Qxz Qju) Qjz Tryz.func156 (by kernel_rfl) (by kernel_rfl) fun x r h=>Eq.trans (by kernel_rfl) h
noncomputable def Zkk (r_0:(List Int) × Bool):Option (Xd3 × (Xd5 × Unit)):=
 Option.bind (Z6u r_0.1) fun r1=>
 bif !r1.1.2.2.1 then
  some (((⟨#[]⟩:ByteArray),()),((r_0.1,true),()))
 else
 bif r_0.2 then
  some (((⟨#[]⟩:ByteArray),()),(r_0,()))
 else
 bif (decide (0≤r1.1.2.1)&&decide (r1.1.2.1≤(r_0.1.length:Int)))&&decide ((r_0.1.length:Int)≤(r_0.1.length:Int)) then
  some ((r1.1.1,()),((List.drop r1.1.2.1.toNat (List.take ((r_0.1.length:Int).toNat) r_0.1),r_0.2),()))
 else none
noncomputable def Qwf:Ent:=⟨[.box 195 Xde [false,false]],[⟨t9,[false],none⟩],fun x=>Zkk x.1⟩
theorem Z92:Q4j tab.ty Tryz.prog 117 Qwf:=
 Qjd (Γ:=[(156,Z2a)]) (fi:={ keep:=[],vty:=[],vals:=[],live:=[(0,[0]),(1,[0,3,4,5]),(2,[0,3,4,16]),(3,[0,3,4]),(4,[0,3,4,23]),(5,[0,2]),(6,[0,3]),(7,[0,2])] }) (n:=1) follows (Qjq Zg3 Qju) Qjz Tryz.func117 (by kernel_rfl) (by kernel_rfl) fun x r h=>Eq.trans (by kernel_rfl) h
noncomputable def Z5d:Ctx:=[(45,Qvh),(116,Qyk),(117,Qwf)]
def Z1j:Fi:={ keep:=[],vty:=[(7,66),(11,66),(12,66),(73,66)],vals:=[],live:=[(0,[0,2,41,42,43,44,45,70,71,72,73,74,75]),(1,[0,2,9,41,42,43,44,45,70,71,72,73,74,75]),(2,[2,3]),(3,[0,2,4,41,42,43,44,45,70,71,72,73,74,75]),(4,[0,2,4,5,41,42,43,44,45,70,71,72,73,74,75]),(5,[0,2,4,5,41,42,43,44,45,70,71,72,73,74,75]),(6,[0,2,4,5,41,42,43,44,45,70,71,72,73,74,75]),(7,[0,2,4,5,41,42,43,44,45,70,71,72,73,74,75]),(8,[0,2,4,5,41,42,43,44,45,70,71,72,73,74,75]),(9,[0,2,4,5,41,42,43,44,45,70,71,72,73,74,75]),(10,[0,2,4,5,6,41,42,43,44,45,70,71,72,73,74,75]),(11,[0,2,4,5,6,41,42,43,44,45,46,70,71,72,73,74,75]),(12,[0,2,4,5,6,41,42,43,44,45,70,71,72,73,74,75]),(13,[0,2,4,5,6,41,42,43,44,45,70,71,72,73,74,75]),(14,[0,2,4,5,70,71,72,73,74,75]),(15,[0,2,4,5,70,71,72,73,74,75]),(16,[0,2,4,5,70,71,72,73,74,75]),(17,[2,5,76]),(18,[2,3]),(19,[2,3])] }
noncomputable def Zo9 (x:PDs [.val t66]):Option (RDs [⟨Qsi,[false,false,false,false,false,false,true,false,false,false],none⟩,⟨t4,[false],none⟩] × ODs [.val t66]):=Qdf Z5d tab Z1j 1099511627776 [.val t66] [⟨Qsi,[false,false,false,false,false,false,true,false,false,false],none⟩,⟨t4,[false],none⟩] Tryz.f73 x
noncomputable def Z9u (x0:List Int):Option ((Qko × Bool × Unit) × Unit):=Zo9 (x0,())
noncomputable def Z5g:Ent:=⟨[.val t66],[⟨Qsi,[false,false,false,false,false,false,true,false,false,false],none⟩,⟨t4,[false],none⟩],fun x=>Z9u x.1⟩
theorem Zgt:Q4j tab.ty Tryz.prog 73 Z5g:=by
  refine Qjd (Γ:=Z5d) (fi:=Z1j) (n:=1099511627776) follows (Qjq Z06 (Qjq Zag (Qjq Z92 Qju))) Qjz Tryz.func73 (by kernel_rfl) (by kernel_rfl) (fun x r h=>?_)
  obtain ⟨x0,_u⟩:=x
  exact h
abbrev Qog:Type:=(Qkm × Bool × Unit) × Unit
noncomputable def Z2u:Ctx:=[]
def Qzn:Fi:={ keep:=[],vty:=[],vals:=[],live:=[(0,[0,1,4]),(1,[0,1,4,6]),(2,[0,1,4,6,10]),(3,[0,1,4,6]),(4,[0,1,4,6,19]),(5,[4,5]),(6,[4,5])] }
abbrev Z0s:Type:=Zjb→Int→Int→Int→Int→Int→Option Qog
noncomputable def Zea (L1:Z0s) (v1:List Qkm) (v2 v3 v4 v5 v6:Int):Option Qog:=
 bif decide (v3<(v1.length:Int)) then
  bif decide (0≤v3)&&decide (v3<(v1.length:Int)) then
   bif ((List.getD v1 v3.toNat (0,0,0)).1)==v2 then
    bif decide (0≤v3)&&decide (v3<(v1.length:Int)) then
     some (((List.getD v1 v3.toNat (0,0,0)),true,()),())
    else none
   else
    L1 v1 v2 (IntKind.wrap .i64 (v3+1)) v4 v5 v6
  else none
 else
  some (((0,0,0),false,()),())
noncomputable def Zgp (L1:Z0s) (l_0:List Qkm) (id_1:Int):Option Qog:=
 L1 l_0 id_1 0 0 0 0
noncomputable def Zde (n:Nat):Nat→Z0s:=iter (fun _ _ _ _ _ _=>none) fun L=>Zea L
noncomputable def Qtd (n m:Nat) (v1:List Qkm) (v2 v3 v4 v5 v6:Int):Option Qog:=
 Qjl Z2u tab (fiB [.val t49,.val t2] Qzn) n [.val t49,.val t2] [⟨t83,[false,false,false],none⟩,⟨t4,[false],none⟩] Tryz.f79 [1,0,1,0] [] [0,1,4,6] m
 ⟨[(0,Vp t49 v1),(1,Vp t2 v2),(4,V1 (.ptr (4,0) 0)),(6,Vp t2 v3)],[((4,0),Ob.box 84 [LV.pure t2 v4,LV.pure t2 v5,LV.pure t2 v6])]⟩
theorem Znk (n m:Nat):Qtd n (m+1)=Zea (Qtd n m):=by kernel_rfl
theorem Zb7 (n:Nat):∀ m,Qtd n m=Zde n m
 | 0=>rfl
 | m+1=>by rw [Znk n m,Zb7 n m];rfl
noncomputable def Zj1 (n:Nat) (l_0:List Qkm) (id_1:Int):Option Qog:=Zgp (Zde n n) l_0 id_1
noncomputable def Qoj (l_0:List Qkm) (id_1:Int):Option Qog:=Zj1 1099511627776 l_0 id_1
noncomputable def Qux:Ent:=⟨[.val t49,.val t2],[⟨t83,[false,false,false],none⟩,⟨t4,[false],none⟩],fun x=>Qoj x.1 x.2.1⟩
theorem Zw2 (n:Nat) (l_0:List Qkm) (id_1:Int):Qdf Z2u tab Qzn n [.val t49,.val t2] [⟨t83,[false,false,false],none⟩,⟨t4,[false],none⟩] Tryz.f79 (l_0,id_1,())=Zj1 n l_0 id_1:=Eq.trans (b:=Zgp (Qtd n n) l_0 id_1) (by kernel_rfl) (by rw [Zb7 n n];rfl)
theorem Qvr:Q4j tab.ty Tryz.prog 79 Qux:=
 Qjd (Γ:=Z2u) (fi:=Qzn) (n:=1099511627776) follows Qju Qjz Tryz.func79 (by kernel_rfl) (by kernel_rfl) fun x r h=>(Zw2 1099511627776 x.1 x.2.1).trans h
noncomputable def Zfz (l_0:List Qkm) (id_1 inc_2:Int):Option ((Bool × Unit) × Unit):=
 Option.bind (Qoj l_0 id_1) fun r1=>
 bif r1.1.2.1 then
  some ((decide (r1.1.1.2.1>inc_2),()),())
 else
  some ((false,()),())
noncomputable def Z60:Ent:=⟨[.val t49,.val t2,.val t2],[⟨t4,[false],none⟩],fun x=>Zfz x.1 x.2.1 x.2.2.1⟩
theorem Zbd:Q4j tab.ty Tryz.prog 118 Z60:=
 Qjd (Γ:=[(79,Qux)]) (fi:={ keep:=[],vty:=[],vals:=[],live:=[(0,[0,1,2,17,18,19,20]),(1,[2,7,8,17,18,19,20]),(2,[6])] }) (n:=1) follows (Qjq Qvr Qju) Qjz Tryz.func118 (by kernel_rfl) (by kernel_rfl) fun x r h=>Eq.trans (by kernel_rfl) h
abbrev Qo6:Type:=(Zjb × Unit) × Unit
noncomputable def Z2o:Ctx:=[]
def Qzu:Fi:={ keep:=[],vty:=[(5,49)],vals:=[],live:=[(0,[0,1]),(1,[0,1,5]),(2,[0,1,5,6]),(3,[0,1,5,6,10]),(4,[0,1,5,6]),(5,[0,1,5,6,19]),(6,[0,1,5,6]),(7,[4])] }
abbrev Qze:Type:=Zjb→Int→Int→Zjb→Option Qo6
noncomputable def Zfd (L1:Qze) (v1:List Qkm) (v2 v3:Int) (v4:List Qkm):Option Qo6:=
 bif decide (v3<(v1.length:Int)) then
  bif decide (0≤v3)&&decide (v3<(v1.length:Int)) then
   bif ((List.getD v1 v3.toNat (0,0,0)).1) != v2 then
    bif decide (0≤v3)&&decide (v3<(v1.length:Int)) then
     bif Nat.ble (v4.length+1) 1073741824 then
      L1 v1 v2 (IntKind.wrap .i64 (v3+1)) (v4++[(List.getD v1 v3.toNat (0,0,0))])
     else none
    else none
   else
    L1 v1 v2 (IntKind.wrap .i64 (v3+1)) v4
  else none
 else
  some ((v4,()),())
noncomputable def Zhs (L1:Qze) (l_0:List Qkm) (id_1:Int):Option Qo6:=
 L1 l_0 id_1 0 []
noncomputable def Zf0 (n:Nat):Nat→Qze:=iter (fun _ _ _ _=>none) fun L=>Zfd L
noncomputable def Qt3 (n m:Nat) (v1:List Qkm) (v2 v3:Int) (v4:List Qkm):Option Qo6:=
 Qjl Z2o tab (fiB [.val t49,.val t2] Qzu) n [.val t49,.val t2] [⟨t49,[true],none⟩] Tryz.f123 [1,1,0,1,0] [] [0,1,5,6] m
 ⟨[(0,Vp t49 v1),(1,Vp t2 v2),(5,V1 (.ref (888888,5))),(6,Vp t2 v3)],[((888888,5),Ob.row 84 t83 v4)]⟩
theorem Zoq (n m:Nat):Qt3 n (m+1)=Zfd (Qt3 n m):=by kernel_rfl
theorem Zbn (n:Nat):∀ m,Qt3 n m=Zf0 n m
 | 0=>rfl
 | m+1=>by rw [Zoq n m,Zbn n m];rfl
noncomputable def Zj3 (n:Nat) (l_0:List Qkm) (id_1:Int):Option Qo6:=Zhs (Zf0 n n) l_0 id_1
noncomputable def Z0r (l_0:List Qkm) (id_1:Int):Option Qo6:=Zj3 1099511627776 l_0 id_1
noncomputable def Z2f:Ent:=⟨[.val t49,.val t2],[⟨t49,[true],none⟩],fun x=>Z0r x.1 x.2.1⟩
theorem Zwl (n:Nat) (l_0:List Qkm) (id_1:Int):Qdf Z2o tab Qzu n [.val t49,.val t2] [⟨t49,[true],none⟩] Tryz.f123 (l_0,id_1,())=Zj3 n l_0 id_1:=Eq.trans (b:=Zhs (Qt3 n n) l_0 id_1) (by kernel_rfl) (by rw [Zbn n n];rfl)
theorem Z7v:Q4j tab.ty Tryz.prog 123 Z2f:=
 Qjd (Γ:=Z2o) (fi:=Qzu) (n:=1099511627776) follows Qju Qjz Tryz.func123 (by kernel_rfl) (by kernel_rfl) fun x r h=>(Zwl 1099511627776 x.1 x.2.1).trans h
abbrev Qo8:Type:=(Zjb × Bool × Unit) × Unit
noncomputable def Z2r:Ctx:=[(119,Qjc),(118,Z60),(123,Z2f)]
def Qz8:Fi:={ keep:=[],vty:=[],vals:=[],live:=[(0,[0,3]),(1,[0,3,13]),(2,[4,5]),(3,[3,6]),(4,[3,6,7]),(5,[3,6,7,22]),(6,[3,6,7]),(7,[3,6,7,32]),(8,[4,5]),(9,[4,5])],melt:=[(8,1000006)] }
abbrev Z09:Type:=Int→Int→Int→Int→Zjb→Option Qo8
noncomputable def Zec (L1:Z09) (v3 v4 v5 v6:Int) (v7:List Qkm):Option Qo8:=
 bif decide (v3<(v7.length:Int)) then
  bif decide (0≤v3)&&decide (v3<(v7.length:Int)) then
   bif decide (0≤v3)&&decide (v3<(v7.length:Int)) then
    bif decide ((List.getD v7 v3.toNat (0,0,0)).1>v4) then
     bif decide (0≤v3)&&decide (v3≤(((List.map some v7).length:Nat):Int)) then
      bif Nat.ble (0+((v3 - 0).toNat)) ((List.map some v7).length) then
       Option.bind (Qd (List.take ((v3 - 0).toNat) (List.drop 0 (List.map some v7)))) fun z8=>
       bif Nat.ble (0+z8.length) 1073741824 then
        bif Nat.ble (([]++z8).length+1) 1073741824 then
         bif (decide (0≤v3)&&decide (v3≤((v7.length:Nat):Int)))&&decide (((v7.length:Nat):Int)≤(((List.map some v7).length:Nat):Int)) then
          bif Nat.ble ((0+v3.toNat)+((((v7.length:Nat):Int) - v3).toNat)) ((List.map some v7).length) then
           Option.bind (Qd (List.take ((((v7.length:Nat):Int) - v3).toNat) (List.drop (0+v3.toNat) (List.map some v7)))) fun z9=>
           bif Nat.ble (((([]++z8)++[(v4,v5,v6)]).length)+z9.length) 1073741824 then
            some (((([]++z8)++[(v4,v5,v6)])++z9,true,()),())
           else none
          else none
         else none
        else none
       else none
      else none
     else none
    else
     L1 (IntKind.wrap .i64 (v3+1)) v4 v5 v6 v7
   else none
  else none
 else
 bif Nat.ble (v7.length+1) 1073741824 then
  some ((v7++[(v4,v5,v6)],true,()),())
 else none
noncomputable def Zhg (L1:Z09) (l_0:List Qkm) (k_1:Int × Int × Int):Option Qo8:=
 Option.bind (Zfz l_0 k_1.1 k_1.2.1) fun r1=>
 bif r1.1.1 then
  some ((l_0,false,()),())
 else
  Option.bind (Z0r l_0 k_1.1) fun r2=>
  L1 0 k_1.1 k_1.2.1 k_1.2.2 r2.1.1
noncomputable def Zds (n:Nat):Nat→Z09:=iter (fun _ _ _ _ _=>none) fun L=>Zec L
noncomputable def Qtb (n m:Nat) (v3 v4 v5 v6:Int) (v7:List Qkm):Option Qo8:=
 Qjl Z2r tab (fiB [.val t49,.val t83] Qz8) n [.val t49,.val t83] [⟨t49,[false],none⟩,⟨t4,[false],none⟩] Tryz.f119 [1,1,1,0,1,0] [] [3,6,7] m
 ⟨[(3,V1 (.ptr (3,0) 0)),(6,V1 (.ref (888888,6))),(7,Vp t2 v3)],[((3,0),Ob.box 84 [LV.pure t2 v4,LV.pure t2 v5,LV.pure t2 v6]),((888888,6),Ob.row 84 t83 v7)]⟩
theorem Zpv (n m:Nat):Qtb n (m+1)=Zec (Qtb n m):=by kernel_rfl
theorem Zao (n:Nat):∀ m,Qtb n m=Zds n m
 | 0=>rfl
 | m+1=>by rw [Zpv n m,Zao n m];rfl
noncomputable def Zi7 (n:Nat) (l_0:List Qkm) (k_1:Int × Int × Int):Option Qo8:=Zhg (Zds n n) l_0 k_1
noncomputable def Qul (l_0:List Qkm) (k_1:Int × Int × Int):Option Qo8:=Zi7 1099511627776 l_0 k_1
noncomputable def Zh5:Ent:=⟨[.val t49,.val t83],[⟨t49,[false],none⟩,⟨t4,[false],none⟩],fun x=>Qul x.1 x.2.1⟩
theorem Zw0 (n:Nat) (l_0:List Qkm) (k_1:Int × Int × Int):Qdf Z2r tab Qz8 n [.val t49,.val t83] [⟨t49,[false],none⟩,⟨t4,[false],none⟩] Tryz.f119 (l_0,k_1,())=Zi7 n l_0 k_1:=Eq.trans (b:=Zhg (Qtb n n) l_0 k_1) (by kernel_rfl) (by rw [Zao n n];rfl)
theorem Zrd:Q4j tab.ty Tryz.prog 119 Zh5:=
 Qjd (Γ:=Z2r) (fi:=Qz8) (n:=1099511627776) follows (Qjq (Qjr Tryz.func119 (by kernel_rfl) (by kernel_rfl)) (Qjq Zbd (Qjq Z7v Qju))) Qjz Tryz.func119 (by kernel_rfl) (by kernel_rfl) fun x r h=>(Zw0 1099511627776 x.1 x.2.1).trans h
noncomputable def Qt6 (p_0:List Int) (id_1:Int):Option (((List Int) × Bool × Unit) × Unit):=
 bif Nat.ble (0+p_0.length) 1073741824 then
  bif Nat.ble (([]++p_0).length+1) 1073741824 then
   Option.bind (Zew (([]++p_0)++[id_1])) fun r1=>
   bif !r1.1.1 then
    some (([],false,()),())
   else
    some ((([]++p_0)++[id_1],true,()),())
  else none
 else none
noncomputable def Qw2:Ent:=⟨[.val t44,.val t2],[⟨t44,[true],none⟩,⟨t4,[false],none⟩],fun x=>Qt6 x.1 x.2.1⟩
theorem Qyp:Q4j tab.ty Tryz.prog 121 Qw2:=
 Qjd (Γ:=[(112,Qvl)]) (fi:={ keep:=[],vty:=[],vals:=[],live:=[(0,[0,1]),(1,[6]),(2,[6,15]),(3,[4,5]),(4,[4,5])] }) (n:=1) follows (Qjq Z0c Qju) Qjz Tryz.func121 (by kernel_rfl) (by kernel_rfl) fun x r h=>Eq.trans (by kernel_rfl) h
noncomputable def Zl9 (p_0:List Int):Option ((Int × Unit) × Unit):=
 bif decide ((p_0.length:Int)<2) then
  some ((0,()),())
 else
 bif decide (0≤IntKind.wrap .i64 ((p_0.length:Int) - 2))&&decide (IntKind.wrap .i64 ((p_0.length:Int) - 2)<(p_0.length:Int)) then
  some ((List.getD p_0 ((IntKind.wrap .i64 ((p_0.length:Int) - 2)).toNat) 0,()),())
 else none
noncomputable def Zdx:Ent:=⟨[.val t44],[⟨t2,[false],none⟩],fun x=>Zl9 x.1⟩
theorem Zoh:Q4j tab.ty Tryz.prog 157 Zdx:=
 Qjd (Γ:=[]) (fi:={ keep:=[],vty:=[],vals:=[],live:=[(0,[0]),(1,[0,5]),(2,[2]),(3,[2])] }) (n:=1) follows Qju Qjz Tryz.func157 (by kernel_rfl) (by kernel_rfl) fun x r h=>Eq.trans (by kernel_rfl) h
noncomputable def Qv3 (p_0:List Int):Option ((Int × Unit) × Unit):=
 Option.bind (Zl9 p_0) fun r1=>
 bif r1.1.1==0 then
  some ((1,()),())
 else
  some ((r1.1.1,()),())
noncomputable def Qx3:Ent:=⟨[.val t44],[⟨t2,[false],none⟩],fun x=>Qv3 x.1⟩
theorem Z1l:Q4j tab.ty Tryz.prog 122 Qx3:=
 Qjd (Γ:=[(157,Zdx)]) (fi:={ keep:=[],vty:=[],vals:=[],live:=[(0,[0]),(1,[3]),(2,[3,7]),(3,[2]),(4,[2])] }) (n:=1) follows (Qjq Zoh Qju) Qjz Tryz.func122 (by kernel_rfl) (by kernel_rfl) fun x r h=>Eq.trans (by kernel_rfl) h
noncomputable def Z0b (t_0:Int × Int × Int × Int × Int × Int × (List Int) × Int × Int × Int × Int × Int × List Qkm) (m_1:Int × Int × Int × Int × Int × Int × (List Int) × Int × Int × ByteArray):Option ((Qli × Qtq × Unit) × Unit):=
 Option.bind (Qk0 (u11 (u9 t_0 0) (IntKind.wrap .i64 ((g11 t_0)+1))) 6 m_1.2.1) fun r5=>
 some (((u11 (u9 t_0 0) (IntKind.wrap .i64 ((g11 t_0)+1))),[r5.1.1],()),())
noncomputable def Qz4 (t_0:Int × Int × Int × Int × Int × Int × (List Int) × Int × Int × Int × Int × Int × List Qkm) (m_1:Int × Int × Int × Int × Int × Int × (List Int) × Int × Int × ByteArray):Option ((Qli × Qtq × Unit) × Unit):=
 bif (g9 t_0)==0 then
  Option.bind (Qk0 t_0 6 m_1.2.1) fun r1=>
  some ((t_0,[r1.1.1],()),())
 else
 bif (g9 t_0) != m_1.2.1 then
  Option.bind (Qk0 t_0 6 m_1.2.1) fun r2=>
  some ((t_0,[r2.1.1],()),())
 else
 bif (g3 t_0) != 0 then
  Option.bind (Qk0 t_0 6 m_1.2.1) fun r3=>
  some ((t_0,[r3.1.1],()),())
 else
  Option.bind (Qt6 (g6 m_1) t_0.1) fun r4=>
  bif !r4.1.2.1 then
   Z0b t_0 m_1
  else
  bif decide ((g5 m_1)>20) then
   Z0b t_0 m_1
  else
   Option.bind (Qv3 (g6 m_1)) fun r7=>
   some (((u11 (u9 (u8 (u7 (u6 (u5 (u4 (u3 t_0 m_1.2.1) (g3 m_1)) r7.1.1) r4.1.1) (g4 m_1)) (IntKind.wrap .i64 (t_0.2.2.1 - (g5 m_1)))) 0) 0),[],()),())
noncomputable def Qnq (t_0:Int × Int × Int × Int × Int × Int × (List Int) × Int × Int × Int × Int × Int × List Qkm) (m_1:Int × Int × Int × Int × Int × Int × (List Int) × Int × Int × ByteArray):Option ((Qli × Qtq × Unit) × Unit):=
 bif (g3 t_0) != 0 then
  bif m_1.2.1==(g3 t_0) then
   some ((t_0,[],()),())
  else
   Qz4 t_0 m_1
 else
  Qz4 t_0 m_1
noncomputable def Z13:Ent:=⟨[.val t50,.val Qsi],[⟨t50,(nF 13),none⟩,⟨t70,[true],none⟩],fun x=>Qnq x.1 x.2.1⟩
theorem Zfq:Q4j tab.ty Tryz.prog 120 Z13:=
 Qjd (Γ:=[(64,Ql3),(121,Qw2),(122,Qx3)]) (fi:={ keep:=[],vty:=[],vals:=[],live:=[(0,[2,3,4,12,13,14,15,16,23,24,25,26,27,30,31,32,52,53,54]),(1,[2,3,4,17,23,24,25,26,27,30,31,32,52,53,54]),(2,[4,5]),(3,[2,3,4,33,52,53,54]),(4,[4,5]),(5,[2,3,4,6,7,52,53,54]),(6,[2,3,4,6,7,52,53,54]),(7,[2,3,4,6,55]),(8,[2,3,4]),(9,[4,5]),(10,[2,3,4]),(11,[2,4]),(12,[4,5])] }) (n:=1) follows (Qjq Qks (Qjq Qyp (Qjq Z1l Qju))) Qjz Tryz.func120 (by kernel_rfl) (by kernel_rfl) fun x r h=>Eq.trans (by kernel_rfl) h
end Go.PE
