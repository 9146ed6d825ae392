/-
  Functions of the program, each as the evaluator answers it, and its contract.
  Conditions: none.
-/
import Derived.Test.YtmfiijdlhjajcaaGreatDoorNodeResumesF1
set_option linter.unusedVariables false
set_option maxRecDepth 100000
namespace Go.PE
open Go.Proofs
noncomputable def Qlc (t_0:Int × Int × Int × Int × Int × Int × (List Int) × Int × Int × Int × Int × Int × List Qlf):Option ((Bool × Unit) × Unit):=
 bif t_0.1==1 then
  some ((true,()),())
 else
 bif (g3 t_0) != 0 then
  some ((decide (IntKind.wrap .i64 (t_0.2.2.1 - (g8 t_0))≤20),()),())
 else
  some ((false,()),())
noncomputable def Z1g:Ent:=⟨[.val t30],[⟨t4,[false],none⟩],fun x=>Qlc x.1⟩
theorem Qwz:GD 124 Z1g:=fnk 1 (fo [[1,7,8,9,10,11,12,13,14,15,16,17],[2]]) Qk3 Tryz.func124
noncomputable def Ql7 (t_0:Int × Int × Int × Int × Int × Int × (List Int) × Int × Int × Int × Int × Int × List Qlf) (step_1:Int):Option ((Qwp × Unit) × Unit):=
 some (((u11 (u9 (u6 (u4 (u3 t_0 0) 0) []) 0) step_1),()),())
noncomputable def Z3y:Ent:=⟨[.val t30,.val t2],[⟨t30,(nF 13),none⟩],fun x=>Ql7 x.1 x.2.1⟩
theorem Qz9:GD 125 Z3y:=fnk 1 (fo [[1,2,4],[2,4],[4]]) Qk3 Tryz.func125
noncomputable def Qk6 (t_0:Int × Int × Int × Int × Int × Int × (List Int) × Int × Int × Int × Int × Int × List Qlf) (kind_1 to_2:Int):Option ((Z59 × Unit) × Unit):=
 some (((kind_1,t_0.1,to_2,t_0.2.1,0,0,[],0,0,(⟨#[]⟩:ByteArray)),()),())
noncomputable def Z1z:Ent:=⟨[.val t30,.val t2,.val t2],[⟨t45,(nF 6++[true,false,false,false]),none⟩],fun x=>Qk6 x.1 x.2.1 x.2.2.1⟩
theorem Qq2:GD 62 Z1z:=fnk 1 (fo [[1,2,3,6],[6]]) Qk3 Tryz.func62
noncomputable def Qnb (t_0:Int × Int × Int × Int × Int × Int × (List Int) × Int × Int × Int × Int × Int × List Qlf) (kind_1 to_2:Int):Option ((Z59 × Unit) × Unit):=
 Option.bind (Qk6 t_0 kind_1 to_2) fun r1=>
 bif Nat.ble (0+(g6 t_0).length) 1073741824 then
  some (((u6 (u5 (u4 r1.1.1 (g7 t_0)) (IntKind.wrap .i64 (t_0.2.2.1 - (g8 t_0)))) ([]++(g6 t_0))),()),())
 else none
noncomputable def Z2n:Ent:=⟨[.val t30,.val t2,.val t2],[⟨t45,(nF 6++[true,false,false,false]),none⟩],fun x=>Qnb x.1 x.2.1 x.2.2.1⟩
theorem Qy7:GD 126 Z2n:=fnk 1 (fo [[1,2,3,6],[3,6,7],[6,7],[6]]) (Qjy Qq2 Qk3) Tryz.func126
abbrev Qkc:Type:=(Qwp × Zd7 × Unit) × Unit
noncomputable def Z25:Ctx:=[(62,Z1z),(123,Z2i),(124,Z1g),(125,Z3y),(126,Z2n)]
def Qv8:Fi:={ keep:=[],vty:=[(5,48)],vals:=[],live:=[(0,[1,2,36,37,38,49,50,51,52,53,72,73,74,77,78,79,80,81,113,114]),(1,[1,2,36,37,38,49,50,51,52,53,72,73,74,77,78,79,80,81,113,114]),(2,[1,2,36,37,38,49,50,51,52,53,72,73,74,77,78,79,80,81,113,114]),(3,[1,2,4,36,37,38,49,50,51,52,53,72,73,74,77,78,79,80,81,113,114]),(4,[1,2,4,5,36,37,38,49,50,51,52,53,72,73,74,77,78,79,80,81,113,114]),(5,[1,2,4,5,23,36,37,38,49,50,51,52,53,72,73,74,77,78,79,80,81,113,114]),(6,[1,2,4,5,24,113,114]),(7,[1,2,4,5,113,114]),(8,[1,2,4,5,39,49,50,51,52,53,72,73,74,77,78,79,80,81,113,114]),(9,[1,2,4,5,49,50,51,52,53,72,73,74,77,78,79,80,81,113,114]),(10,[1,2,4,5,44,49,50,51,52,53,72,73,74,77,78,79,80,81,113,114]),(11,[1,2,4,5,54,72,73,74,77,78,79,80,81,113,114]),(12,[1,2,4,5,72,73,74,77,78,79,80,81,113,114]),(13,[1,2,4,5,62,72,73,74,77,78,79,80,81,113,114]),(14,[1,2,4,5,72,73,74,77,78,79,80,81,113,114]),(15,[1,2,4,5,82,113,114]),(16,[1,2,4,5,113,114]),(17,[1,2,4,5,113,114]),(18,[1,2,5,94,113,114]),(19,[2,3]),(20,[1,2,5,99,113,114]),(21,[1,2,5,113,114]),(22,[1,2,5,6,113,114]),(23,[1,2,5,6,113,114,115]),(24,[1,2,5,6,113,114]),(25,[1,2,5,6,113,114]),(26,[2,3])] }
abbrev Qkb:Type:=Int→Int→Int→Int→Int→Int→Int→List Int→Int→Int→Int→Int→Int→Z6m→Int→Int→Int→Int→Int→Int→Int→Int→Int→Int→Int→List Int→Z6m→Zd7→Option Qkc
noncomputable def Qpo (arr_0:Int × Int × Int × Int × Int × Int × (List Int) × Int × Int × Int × Int × Int × List Qlf) (r1:(Z6m × Unit) × Unit) (L1:Qkb):Option Qkc:=
 bif !((Int.tmod (IntKind.wrap .i64 (arr_0.2.2.1+1)) 2)==0) then
  some (((e12 (u2 arr_0 (IntKind.wrap .i64 (arr_0.2.2.1+1))) r1.1.1),[],()),())
 else
 bif (g3 arr_0) != 0 then
  Option.bind (Qk6 (e12 (u2 arr_0 (IntKind.wrap .i64 (arr_0.2.2.1+1))) r1.1.1) 4 (g3 arr_0)) fun r33=>
  L1 0 arr_0.1 arr_0.2.1 (IntKind.wrap .i64 (arr_0.2.2.1+1)) (g3 arr_0) (g4 arr_0) (g5 arr_0) (g6 arr_0) (g7 arr_0) (g8 arr_0) (g9 arr_0) (g10 arr_0) (g11 arr_0) r1.1.1 0 0 0 0 0 0 0 0 0 0 0 [] [] [r33.1.1]
 else
  L1 0 arr_0.1 arr_0.2.1 (IntKind.wrap .i64 (arr_0.2.2.1+1)) (g3 arr_0) (g4 arr_0) (g5 arr_0) (g6 arr_0) (g7 arr_0) (g8 arr_0) (g9 arr_0) (g10 arr_0) (g11 arr_0) r1.1.1 0 0 0 0 0 0 0 0 0 0 0 [] [] []
noncomputable def Quy (r35:(Qwp × Unit) × Unit) (arr_0:Int × Int × Int × Int × Int × Int × (List Int) × Int × Int × Int × Int × Int × List Qlf) (L2:Qkb):Option Qkc:=
 Option.bind (Qk6 (u11 (u10 (u9 r35.1.1 1) (IntKind.wrap .i64 (r35.1.1.2.2.1+3))) (IntKind.wrap .i64 ((g11 r35.1.1)+1))) 1 1) fun r68=>
 bif !((Int.tmod (IntKind.wrap .i64 (arr_0.2.2.1+1)) 2)==0) then
  some (((u11 (u10 (u9 r35.1.1 1) (IntKind.wrap .i64 (r35.1.1.2.2.1+3))) (IntKind.wrap .i64 ((g11 r35.1.1)+1))),[r68.1.1],()),())
 else
 bif (g3 r35.1.1) != 0 then
  Option.bind (Qk6 (u11 (u10 (u9 r35.1.1 1) (IntKind.wrap .i64 (r35.1.1.2.2.1+3))) (IntKind.wrap .i64 ((g11 r35.1.1)+1))) 4 (g3 r35.1.1)) fun r69=>
  L2 0 r35.1.1.1 r35.1.1.2.1 r35.1.1.2.2.1 (g3 r35.1.1) (g4 r35.1.1) (g5 r35.1.1) (g6 r35.1.1) (g7 r35.1.1) (g8 r35.1.1) 1 (IntKind.wrap .i64 (r35.1.1.2.2.1+3)) (IntKind.wrap .i64 ((g11 r35.1.1)+1)) (h12 r35.1.1) 0 0 0 0 0 0 0 0 0 0 0 [] [] [r68.1.1,r69.1.1]
 else
  L2 0 r35.1.1.1 r35.1.1.2.1 r35.1.1.2.2.1 (g3 r35.1.1) (g4 r35.1.1) (g5 r35.1.1) (g6 r35.1.1) (g7 r35.1.1) (g8 r35.1.1) 1 (IntKind.wrap .i64 (r35.1.1.2.2.1+3)) (IntKind.wrap .i64 ((g11 r35.1.1)+1)) (h12 r35.1.1) 0 0 0 0 0 0 0 0 0 0 0 [] [] [r68.1.1]
noncomputable def Qph (r35:(Qwp × Unit) × Unit) (arr_0:Int × Int × Int × Int × Int × Int × (List Int) × Int × Int × Int × Int × Int × List Qlf) (L2:Qkb):Option Qkc:=
 Option.bind (Qk6 (u10 (u9 r35.1.1 1) (IntKind.wrap .i64 (r35.1.1.2.2.1+3))) 1 1) fun r76=>
 bif !((Int.tmod (IntKind.wrap .i64 (arr_0.2.2.1+1)) 2)==0) then
  some (((u10 (u9 r35.1.1 1) (IntKind.wrap .i64 (r35.1.1.2.2.1+3))),[r76.1.1],()),())
 else
 bif (g3 r35.1.1) != 0 then
  Option.bind (Qk6 (u10 (u9 r35.1.1 1) (IntKind.wrap .i64 (r35.1.1.2.2.1+3))) 4 (g3 r35.1.1)) fun r77=>
  L2 0 r35.1.1.1 r35.1.1.2.1 r35.1.1.2.2.1 (g3 r35.1.1) (g4 r35.1.1) (g5 r35.1.1) (g6 r35.1.1) (g7 r35.1.1) (g8 r35.1.1) 1 (IntKind.wrap .i64 (r35.1.1.2.2.1+3)) (g11 r35.1.1) (h12 r35.1.1) 0 0 0 0 0 0 0 0 0 0 0 [] [] [r76.1.1,r77.1.1]
 else
  L2 0 r35.1.1.1 r35.1.1.2.1 r35.1.1.2.2.1 (g3 r35.1.1) (g4 r35.1.1) (g5 r35.1.1) (g6 r35.1.1) (g7 r35.1.1) (g8 r35.1.1) 1 (IntKind.wrap .i64 (r35.1.1.2.2.1+3)) (g11 r35.1.1) (h12 r35.1.1) 0 0 0 0 0 0 0 0 0 0 0 [] [] [r76.1.1]
noncomputable def Z1h (arr_0:Int × Int × Int × Int × Int × Int × (List Int) × Int × Int × Int × Int × Int × List Qlf) (r35:(Qwp × Unit) × Unit) (L2:Qkb):Option Qkc:=
 bif !((Int.tmod (IntKind.wrap .i64 (arr_0.2.2.1+1)) 2)==0) then
  some ((r35.1.1,[],()),())
 else
 bif (g3 r35.1.1) != 0 then
  Option.bind (Qk6 r35.1.1 4 (g3 r35.1.1)) fun r82=>
  L2 0 r35.1.1.1 r35.1.1.2.1 r35.1.1.2.2.1 (g3 r35.1.1) (g4 r35.1.1) (g5 r35.1.1) (g6 r35.1.1) (g7 r35.1.1) (g8 r35.1.1) (g9 r35.1.1) (g10 r35.1.1) (g11 r35.1.1) (h12 r35.1.1) 0 0 0 0 0 0 0 0 0 0 0 [] [] [r82.1.1]
 else
  L2 0 r35.1.1.1 r35.1.1.2.1 r35.1.1.2.2.1 (g3 r35.1.1) (g4 r35.1.1) (g5 r35.1.1) (g6 r35.1.1) (g7 r35.1.1) (g8 r35.1.1) (g9 r35.1.1) (g10 r35.1.1) (g11 r35.1.1) (h12 r35.1.1) 0 0 0 0 0 0 0 0 0 0 0 [] [] []
noncomputable def Qv4 (r35:(Qwp × Unit) × Unit) (arr_0:Int × Int × Int × Int × Int × Int × (List Int) × Int × Int × Int × Int × Int × List Qlf) (L2:Qkb):Option Qkc:=
 bif (g9 r35.1.1)==0 then
  bif (g11 r35.1.1)==0 then
   bif (g5 r35.1.1) != 0 then
    bif (g5 r35.1.1) != r35.1.1.1 then
     Option.bind (Qk6 (u10 (u9 r35.1.1 (g5 r35.1.1)) (IntKind.wrap .i64 (r35.1.1.2.2.1+3))) 1 (g5 r35.1.1)) fun r74=>
     bif !((Int.tmod (IntKind.wrap .i64 (arr_0.2.2.1+1)) 2)==0) then
      some (((u10 (u9 r35.1.1 (g5 r35.1.1)) (IntKind.wrap .i64 (r35.1.1.2.2.1+3))),[r74.1.1],()),())
     else
     bif (g3 r35.1.1) != 0 then
      Option.bind (Qk6 (u10 (u9 r35.1.1 (g5 r35.1.1)) (IntKind.wrap .i64 (r35.1.1.2.2.1+3))) 4 (g3 r35.1.1)) fun r75=>
      L2 0 r35.1.1.1 r35.1.1.2.1 r35.1.1.2.2.1 (g3 r35.1.1) (g4 r35.1.1) (g5 r35.1.1) (g6 r35.1.1) (g7 r35.1.1) (g8 r35.1.1) (g5 r35.1.1) (IntKind.wrap .i64 (r35.1.1.2.2.1+3)) (g11 r35.1.1) (h12 r35.1.1) 0 0 0 0 0 0 0 0 0 0 0 [] [] [r74.1.1,r75.1.1]
     else
      L2 0 r35.1.1.1 r35.1.1.2.1 r35.1.1.2.2.1 (g3 r35.1.1) (g4 r35.1.1) (g5 r35.1.1) (g6 r35.1.1) (g7 r35.1.1) (g8 r35.1.1) (g5 r35.1.1) (IntKind.wrap .i64 (r35.1.1.2.2.1+3)) (g11 r35.1.1) (h12 r35.1.1) 0 0 0 0 0 0 0 0 0 0 0 [] [] [r74.1.1]
    else
     Qph r35 arr_0 L2
   else
    Qph r35 arr_0 L2
  else
   Qph r35 arr_0 L2
 else
  Z1h arr_0 r35 L2
noncomputable def Qpl (arr_0:Int × Int × Int × Int × Int × Int × (List Int) × Int × Int × Int × Int × Int × List Qlf) (r1:(Z6m × Unit) × Unit) (L1:Qkb):Option Qkc:=
 Option.bind (Qk6 (e12 (u11 (u10 (u9 (u2 arr_0 (IntKind.wrap .i64 (arr_0.2.2.1+1))) 1) (IntKind.wrap .i64 ((IntKind.wrap .i64 (arr_0.2.2.1+1))+3))) (IntKind.wrap .i64 ((g11 arr_0)+1))) r1.1.1) 1 1) fun r95=>
 bif !((Int.tmod (IntKind.wrap .i64 (arr_0.2.2.1+1)) 2)==0) then
  some (((e12 (u11 (u10 (u9 (u2 arr_0 (IntKind.wrap .i64 (arr_0.2.2.1+1))) 1) (IntKind.wrap .i64 ((IntKind.wrap .i64 (arr_0.2.2.1+1))+3))) (IntKind.wrap .i64 ((g11 arr_0)+1))) r1.1.1),[r95.1.1],()),())
 else
 bif (g3 arr_0) != 0 then
  Option.bind (Qk6 (e12 (u11 (u10 (u9 (u2 arr_0 (IntKind.wrap .i64 (arr_0.2.2.1+1))) 1) (IntKind.wrap .i64 ((IntKind.wrap .i64 (arr_0.2.2.1+1))+3))) (IntKind.wrap .i64 ((g11 arr_0)+1))) r1.1.1) 4 (g3 arr_0)) fun r96=>
  L1 0 arr_0.1 arr_0.2.1 (IntKind.wrap .i64 (arr_0.2.2.1+1)) (g3 arr_0) (g4 arr_0) (g5 arr_0) (g6 arr_0) (g7 arr_0) (g8 arr_0) 1 (IntKind.wrap .i64 ((IntKind.wrap .i64 (arr_0.2.2.1+1))+3)) (IntKind.wrap .i64 ((g11 arr_0)+1)) r1.1.1 0 0 0 0 0 0 0 0 0 0 0 [] [] [r95.1.1,r96.1.1]
 else
  L1 0 arr_0.1 arr_0.2.1 (IntKind.wrap .i64 (arr_0.2.2.1+1)) (g3 arr_0) (g4 arr_0) (g5 arr_0) (g6 arr_0) (g7 arr_0) (g8 arr_0) 1 (IntKind.wrap .i64 ((IntKind.wrap .i64 (arr_0.2.2.1+1))+3)) (IntKind.wrap .i64 ((g11 arr_0)+1)) r1.1.1 0 0 0 0 0 0 0 0 0 0 0 [] [] [r95.1.1]
noncomputable def Qpp (arr_0:Int × Int × Int × Int × Int × Int × (List Int) × Int × Int × Int × Int × Int × List Qlf) (r1:(Z6m × Unit) × Unit) (L1:Qkb):Option Qkc:=
 Option.bind (Qk6 (e12 (u10 (u9 (u2 arr_0 (IntKind.wrap .i64 (arr_0.2.2.1+1))) 1) (IntKind.wrap .i64 ((IntKind.wrap .i64 (arr_0.2.2.1+1))+3))) r1.1.1) 1 1) fun r103=>
 bif !((Int.tmod (IntKind.wrap .i64 (arr_0.2.2.1+1)) 2)==0) then
  some (((e12 (u10 (u9 (u2 arr_0 (IntKind.wrap .i64 (arr_0.2.2.1+1))) 1) (IntKind.wrap .i64 ((IntKind.wrap .i64 (arr_0.2.2.1+1))+3))) r1.1.1),[r103.1.1],()),())
 else
 bif (g3 arr_0) != 0 then
  Option.bind (Qk6 (e12 (u10 (u9 (u2 arr_0 (IntKind.wrap .i64 (arr_0.2.2.1+1))) 1) (IntKind.wrap .i64 ((IntKind.wrap .i64 (arr_0.2.2.1+1))+3))) r1.1.1) 4 (g3 arr_0)) fun r104=>
  L1 0 arr_0.1 arr_0.2.1 (IntKind.wrap .i64 (arr_0.2.2.1+1)) (g3 arr_0) (g4 arr_0) (g5 arr_0) (g6 arr_0) (g7 arr_0) (g8 arr_0) 1 (IntKind.wrap .i64 ((IntKind.wrap .i64 (arr_0.2.2.1+1))+3)) (g11 arr_0) r1.1.1 0 0 0 0 0 0 0 0 0 0 0 [] [] [r103.1.1,r104.1.1]
 else
  L1 0 arr_0.1 arr_0.2.1 (IntKind.wrap .i64 (arr_0.2.2.1+1)) (g3 arr_0) (g4 arr_0) (g5 arr_0) (g6 arr_0) (g7 arr_0) (g8 arr_0) 1 (IntKind.wrap .i64 ((IntKind.wrap .i64 (arr_0.2.2.1+1))+3)) (g11 arr_0) r1.1.1 0 0 0 0 0 0 0 0 0 0 0 [] [] [r103.1.1]
noncomputable def Qs6 (arr_0:Int × Int × Int × Int × Int × Int × (List Int) × Int × Int × Int × Int × Int × List Qlf) (r1:(Z6m × Unit) × Unit) (L1:Qkb):Option Qkc:=
 bif (g9 arr_0)==0 then
  bif (g11 arr_0)==0 then
   bif (g5 arr_0) != 0 then
    bif (g5 arr_0) != arr_0.1 then
     Option.bind (Qk6 (e12 (u10 (u9 (u2 arr_0 (IntKind.wrap .i64 (arr_0.2.2.1+1))) (g5 arr_0)) (IntKind.wrap .i64 ((IntKind.wrap .i64 (arr_0.2.2.1+1))+3))) r1.1.1) 1 (g5 arr_0)) fun r101=>
     bif !((Int.tmod (IntKind.wrap .i64 (arr_0.2.2.1+1)) 2)==0) then
      some (((e12 (u10 (u9 (u2 arr_0 (IntKind.wrap .i64 (arr_0.2.2.1+1))) (g5 arr_0)) (IntKind.wrap .i64 ((IntKind.wrap .i64 (arr_0.2.2.1+1))+3))) r1.1.1),[r101.1.1],()),())
     else
     bif (g3 arr_0) != 0 then
      Option.bind (Qk6 (e12 (u10 (u9 (u2 arr_0 (IntKind.wrap .i64 (arr_0.2.2.1+1))) (g5 arr_0)) (IntKind.wrap .i64 ((IntKind.wrap .i64 (arr_0.2.2.1+1))+3))) r1.1.1) 4 (g3 arr_0)) fun r102=>
      L1 0 arr_0.1 arr_0.2.1 (IntKind.wrap .i64 (arr_0.2.2.1+1)) (g3 arr_0) (g4 arr_0) (g5 arr_0) (g6 arr_0) (g7 arr_0) (g8 arr_0) (g5 arr_0) (IntKind.wrap .i64 ((IntKind.wrap .i64 (arr_0.2.2.1+1))+3)) (g11 arr_0) r1.1.1 0 0 0 0 0 0 0 0 0 0 0 [] [] [r101.1.1,r102.1.1]
     else
      L1 0 arr_0.1 arr_0.2.1 (IntKind.wrap .i64 (arr_0.2.2.1+1)) (g3 arr_0) (g4 arr_0) (g5 arr_0) (g6 arr_0) (g7 arr_0) (g8 arr_0) (g5 arr_0) (IntKind.wrap .i64 ((IntKind.wrap .i64 (arr_0.2.2.1+1))+3)) (g11 arr_0) r1.1.1 0 0 0 0 0 0 0 0 0 0 0 [] [] [r101.1.1]
    else
     Qpp arr_0 r1 L1
   else
    Qpp arr_0 r1 L1
  else
   Qpp arr_0 r1 L1
 else
  Qpo arr_0 r1 L1
noncomputable def Qrr (arr_0:Int × Int × Int × Int × Int × Int × (List Int) × Int × Int × Int × Int × Int × List Qlf) (r1:(Z6m × Unit) × Unit) (L1:Qkb):Option Qkc:=
 bif (g3 arr_0)==0 then
  bif (g9 arr_0) != 0 then
   bif decide (IntKind.wrap .i64 (arr_0.2.2.1+1) ≥ (g10 arr_0)) then
    bif (IntKind.wrap .i64 ((g11 arr_0)+1))==0 then
     bif (g5 arr_0) != 0 then
      bif (g5 arr_0) != arr_0.1 then
       Option.bind (Qk6 (e12 (u11 (u10 (u9 (u2 arr_0 (IntKind.wrap .i64 (arr_0.2.2.1+1))) (g5 arr_0)) (IntKind.wrap .i64 ((IntKind.wrap .i64 (arr_0.2.2.1+1))+3))) (IntKind.wrap .i64 ((g11 arr_0)+1))) r1.1.1) 1 (g5 arr_0)) fun r93=>
       bif !((Int.tmod (IntKind.wrap .i64 (arr_0.2.2.1+1)) 2)==0) then
        some (((e12 (u11 (u10 (u9 (u2 arr_0 (IntKind.wrap .i64 (arr_0.2.2.1+1))) (g5 arr_0)) (IntKind.wrap .i64 ((IntKind.wrap .i64 (arr_0.2.2.1+1))+3))) (IntKind.wrap .i64 ((g11 arr_0)+1))) r1.1.1),[r93.1.1],()),())
       else
       bif (g3 arr_0) != 0 then
        Option.bind (Qk6 (e12 (u11 (u10 (u9 (u2 arr_0 (IntKind.wrap .i64 (arr_0.2.2.1+1))) (g5 arr_0)) (IntKind.wrap .i64 ((IntKind.wrap .i64 (arr_0.2.2.1+1))+3))) (IntKind.wrap .i64 ((g11 arr_0)+1))) r1.1.1) 4 (g3 arr_0)) fun r94=>
        L1 0 arr_0.1 arr_0.2.1 (IntKind.wrap .i64 (arr_0.2.2.1+1)) (g3 arr_0) (g4 arr_0) (g5 arr_0) (g6 arr_0) (g7 arr_0) (g8 arr_0) (g5 arr_0) (IntKind.wrap .i64 ((IntKind.wrap .i64 (arr_0.2.2.1+1))+3)) (IntKind.wrap .i64 ((g11 arr_0)+1)) r1.1.1 0 0 0 0 0 0 0 0 0 0 0 [] [] [r93.1.1,r94.1.1]
       else
        L1 0 arr_0.1 arr_0.2.1 (IntKind.wrap .i64 (arr_0.2.2.1+1)) (g3 arr_0) (g4 arr_0) (g5 arr_0) (g6 arr_0) (g7 arr_0) (g8 arr_0) (g5 arr_0) (IntKind.wrap .i64 ((IntKind.wrap .i64 (arr_0.2.2.1+1))+3)) (IntKind.wrap .i64 ((g11 arr_0)+1)) r1.1.1 0 0 0 0 0 0 0 0 0 0 0 [] [] [r93.1.1]
      else
       Qpl arr_0 r1 L1
     else
      Qpl arr_0 r1 L1
    else
     Qpl arr_0 r1 L1
   else
    Qs6 arr_0 r1 L1
  else
   Qs6 arr_0 r1 L1
 else
  Qpo arr_0 r1 L1
noncomputable def Qng (L1:Qkb) (v3 v4 v5 v6 v7 v8 v9:Int) (v10:List Int) (v11 v12 v13 v14 v15:Int) (v16:List Qlf) (v17 v18 v19 v20 v21 v22 v23 v24 v25 v26 v27:Int) (v28:List Int) (v29:List Qlf) (v30:List Z59):Option Qkc:=
 bif decide (v3<(v16.length:Int)) then
  Option.bind (Qlc (v4,v5,v6,v7,v8,v9,v10,v11,v12,v13,v14,v15,v16)) fun r31=>
  bif r31.1.1 then
   bif decide (0≤v3)&&decide (v3<(v16.length:Int)) then
    bif decide (0≤v3)&&decide (v3<(v16.length:Int)) then
     Option.bind (Qnb (v4,v5,v6,v7,v8,v9,v10,v11,v12,v13,v14,v15,v16) 5 ((List.getD v16 v3.toNat (0,0,0)).1)) fun r32=>
     bif Nat.ble (v30.length+1) 1073741824 then
      L1 (IntKind.wrap .i64 (v3+1)) v4 v5 v6 v7 v8 v9 v10 v11 v12 v13 v14 v15 v16 v17 v18 v19 v20 v21 v22 v23 v24 v25 v26 v27 v28 v29 (v30++[r32.1.1])
     else none
    else none
   else none
  else
   some (((v4,v5,v6,v7,v8,v9,v10,v11,v12,v13,v14,v15,v16),v30,()),())
 else
  some (((v4,v5,v6,v7,v8,v9,v10,v11,v12,v13,v14,v15,v16),v30,()),())
noncomputable def Qnk (L2:Qkb) (v38 v39 v40 v41 v42 v43 v44:Int) (v45:List Int) (v46 v47 v48 v49 v50:Int) (v51:List Qlf) (v52 v53 v54 v55 v56 v57 v58 v59 v60 v61 v62:Int) (v63:List Int) (v64:List Qlf) (v65:List Z59):Option Qkc:=
 bif decide (v38<(v51.length:Int)) then
  Option.bind (Qlc (v39,v40,v41,v42,v43,v44,v45,v46,v47,v48,v49,v50,v51)) fun r66=>
  bif r66.1.1 then
   bif decide (0≤v38)&&decide (v38<(v51.length:Int)) then
    Option.bind (Qnb (v39,v40,v41,v42,v43,v44,v45,v46,v47,v48,v49,v50,v51) 5 ((List.getD v51 v38.toNat (0,0,0)).1)) fun r67=>
    bif Nat.ble (v65.length+1) 1073741824 then
     L2 (IntKind.wrap .i64 (v38+1)) v39 v40 v41 v42 v43 v44 v45 v46 v47 v48 v49 v50 v51 v52 v53 v54 v55 v56 v57 v58 v59 v60 v61 v62 v63 v64 (v65++[r67.1.1])
    else none
   else none
  else
   some (((v39,v40,v41,v42,v43,v44,v45,v46,v47,v48,v49,v50,v51),v65,()),())
 else
  some (((v39,v40,v41,v42,v43,v44,v45,v46,v47,v48,v49,v50,v51),v65,()),())
noncomputable def Qoa (L1 L2:Qkb) (arr_0:Int × Int × Int × Int × Int × Int × (List Int) × Int × Int × Int × Int × Int × List Qlf):Option Qkc:=
 Option.bind (Qyq (h12 arr_0) (IntKind.wrap .i64 (arr_0.2.2.1+1))) fun r1=>
 bif arr_0.1==1 then
  bif (Int.tmod (IntKind.wrap .i64 (arr_0.2.2.1+1)) 2)==0 then
   bif !((Int.tmod (IntKind.wrap .i64 (arr_0.2.2.1+1)) 2)==0) then
    some (((e12 (u8 (u7 (u2 arr_0 (IntKind.wrap .i64 (arr_0.2.2.1+1))) (IntKind.wrap .i64 ((g7 arr_0)+1))) (IntKind.wrap .i64 (arr_0.2.2.1+1))) r1.1.1),[],()),())
   else
   bif (g3 arr_0) != 0 then
    Option.bind (Qk6 (e12 (u8 (u7 (u2 arr_0 (IntKind.wrap .i64 (arr_0.2.2.1+1))) (IntKind.wrap .i64 ((g7 arr_0)+1))) (IntKind.wrap .i64 (arr_0.2.2.1+1))) r1.1.1) 4 (g3 arr_0)) fun r2=>
    L1 0 arr_0.1 arr_0.2.1 (IntKind.wrap .i64 (arr_0.2.2.1+1)) (g3 arr_0) (g4 arr_0) (g5 arr_0) (g6 arr_0) (IntKind.wrap .i64 ((g7 arr_0)+1)) (IntKind.wrap .i64 (arr_0.2.2.1+1)) (g9 arr_0) (g10 arr_0) (g11 arr_0) r1.1.1 0 0 0 0 0 0 0 0 0 0 0 [] [] [r2.1.1]
   else
    L1 0 arr_0.1 arr_0.2.1 (IntKind.wrap .i64 (arr_0.2.2.1+1)) (g3 arr_0) (g4 arr_0) (g5 arr_0) (g6 arr_0) (IntKind.wrap .i64 ((g7 arr_0)+1)) (IntKind.wrap .i64 (arr_0.2.2.1+1)) (g9 arr_0) (g10 arr_0) (g11 arr_0) r1.1.1 0 0 0 0 0 0 0 0 0 0 0 [] [] []
  else
   Qpo arr_0 r1 L1
 else
 bif (g3 arr_0) != 0 then
  Option.bind (Qlc (e12 (u2 arr_0 (IntKind.wrap .i64 (arr_0.2.2.1+1))) r1.1.1)) fun r34=>
  bif !r34.1.1 then
   Option.bind (Ql7 (e12 (u2 arr_0 (IntKind.wrap .i64 (arr_0.2.2.1+1))) r1.1.1) 0) fun r35=>
   bif (g3 r35.1.1)==0 then
    bif (g9 r35.1.1) != 0 then
     bif decide (r35.1.1.2.2.1 ≥ (g10 r35.1.1)) then
      bif (IntKind.wrap .i64 ((g11 r35.1.1)+1))==0 then
       bif (g5 r35.1.1) != 0 then
        bif (g5 r35.1.1) != r35.1.1.1 then
         Option.bind (Qk6 (u11 (u10 (u9 r35.1.1 (g5 r35.1.1)) (IntKind.wrap .i64 (r35.1.1.2.2.1+3))) (IntKind.wrap .i64 ((g11 r35.1.1)+1))) 1 (g5 r35.1.1)) fun r36=>
         bif !((Int.tmod (IntKind.wrap .i64 (arr_0.2.2.1+1)) 2)==0) then
          some (((u11 (u10 (u9 r35.1.1 (g5 r35.1.1)) (IntKind.wrap .i64 (r35.1.1.2.2.1+3))) (IntKind.wrap .i64 ((g11 r35.1.1)+1))),[r36.1.1],()),())
         else
         bif (g3 r35.1.1) != 0 then
          Option.bind (Qk6 (u11 (u10 (u9 r35.1.1 (g5 r35.1.1)) (IntKind.wrap .i64 (r35.1.1.2.2.1+3))) (IntKind.wrap .i64 ((g11 r35.1.1)+1))) 4 (g3 r35.1.1)) fun r37=>
          L2 0 r35.1.1.1 r35.1.1.2.1 r35.1.1.2.2.1 (g3 r35.1.1) (g4 r35.1.1) (g5 r35.1.1) (g6 r35.1.1) (g7 r35.1.1) (g8 r35.1.1) (g5 r35.1.1) (IntKind.wrap .i64 (r35.1.1.2.2.1+3)) (IntKind.wrap .i64 ((g11 r35.1.1)+1)) (h12 r35.1.1) 0 0 0 0 0 0 0 0 0 0 0 [] [] [r36.1.1,r37.1.1]
         else
          L2 0 r35.1.1.1 r35.1.1.2.1 r35.1.1.2.2.1 (g3 r35.1.1) (g4 r35.1.1) (g5 r35.1.1) (g6 r35.1.1) (g7 r35.1.1) (g8 r35.1.1) (g5 r35.1.1) (IntKind.wrap .i64 (r35.1.1.2.2.1+3)) (IntKind.wrap .i64 ((g11 r35.1.1)+1)) (h12 r35.1.1) 0 0 0 0 0 0 0 0 0 0 0 [] [] [r36.1.1]
        else
         Quy r35 arr_0 L2
       else
        Quy r35 arr_0 L2
      else
       Quy r35 arr_0 L2
     else
      Qv4 r35 arr_0 L2
    else
     Qv4 r35 arr_0 L2
   else
    Z1h arr_0 r35 L2
  else
   Qrr arr_0 r1 L1
 else
  Qrr arr_0 r1 L1
noncomputable def Qls (n:Nat):Nat→Qkb:=iter (fun _ _ _ _ _ _ _ _ _ _ _ _ _ _ _ _ _ _ _ _ _ _ _ _ _ _ _ _=>none) fun L=>Qng L
noncomputable def Qlu (n:Nat):Nat→Qkb:=iter (fun _ _ _ _ _ _ _ _ _ _ _ _ _ _ _ _ _ _ _ _ _ _ _ _ _ _ _ _=>none) fun L=>Qnk L
noncomputable def Qrp (n m:Nat) (v3 v4 v5 v6 v7 v8 v9:Int) (v10:List Int) (v11 v12 v13 v14 v15:Int) (v16:List Qlf) (v17 v18 v19 v20 v21 v22 v23 v24 v25 v26 v27:Int) (v28:List Int) (v29:List Qlf) (v30:List Z59):Option Qkc:=
 Qjv Z25 tab (fiB [.val t30] Qv8) n [.val t30] [⟨t30,(nF 13),none⟩,⟨t48,[true],none⟩] Tryz.f60 [1,1,1,1,1,1,1,1,0,1,0] [] [1,2,5,6] m
 ⟨[(1,V1 (.ptr (1,0) 0)),(2,V1 (.ptr (2,0) 0)),(5,V1 (.ref (888888,5))),(6,Vp t2 v3)],[((1,0),Ob.box 31 [LV.pure t2 v4,LV.pure t2 v5,LV.pure t2 v6,LV.pure t2 v7,LV.pure t2 v8,LV.pure t2 v9,LV.pure t28 v10,LV.pure t2 v11,LV.pure t2 v12,LV.pure t2 v13,LV.pure t2 v14,LV.pure t2 v15,LV.ref (1,13)]),((1,13),Ob.row 53 t52 v16),((2,0),Ob.box 31 [LV.pure t2 v17,LV.pure t2 v18,LV.pure t2 v19,LV.pure t2 v20,LV.pure t2 v21,LV.pure t2 v22,LV.ref (2,7),LV.pure t2 v23,LV.pure t2 v24,LV.pure t2 v25,LV.pure t2 v26,LV.pure t2 v27,LV.ref (2,13)]),((2,7),Ob.row 3 t2 v28),((2,13),Ob.row 53 t52 v29),((888888,5),Ob.row 46 t45 v30)]⟩
noncomputable def Qrv (n m:Nat) (v38 v39 v40 v41 v42 v43 v44:Int) (v45:List Int) (v46 v47 v48 v49 v50:Int) (v51:List Qlf) (v52 v53 v54 v55 v56 v57 v58 v59 v60 v61 v62:Int) (v63:List Int) (v64:List Qlf) (v65:List Z59):Option Qkc:=
 Qjv Z25 tab (fiB [.val t30] Qv8) n [.val t30] [⟨t30,(nF 13),none⟩,⟨t48,[true],none⟩] Tryz.f60 [1,1,1,1,1,1,1,1,0,1,0] [] [1,2,5,6] m
 ⟨[(1,V1 (.ptr (1,0) 0)),(2,V1 (.ptr (2,0) 0)),(5,V1 (.ref (888888,5))),(6,Vp t2 v38)],[((1,0),Ob.box 31 [LV.pure t2 v39,LV.pure t2 v40,LV.pure t2 v41,LV.pure t2 v42,LV.pure t2 v43,LV.pure t2 v44,LV.pure t28 v45,LV.pure t2 v46,LV.pure t2 v47,LV.pure t2 v48,LV.pure t2 v49,LV.pure t2 v50,LV.pure t29 v51]),((2,0),Ob.box 31 [LV.pure t2 v52,LV.pure t2 v53,LV.pure t2 v54,LV.pure t2 v55,LV.pure t2 v56,LV.pure t2 v57,LV.ref (2,7),LV.pure t2 v58,LV.pure t2 v59,LV.pure t2 v60,LV.pure t2 v61,LV.pure t2 v62,LV.ref (2,13)]),((2,7),Ob.row 3 t2 v63),((2,13),Ob.row 53 t52 v64),((888888,5),Ob.row 46 t45 v65)]⟩
theorem Qz3 (n:Nat):∀ m,Qrp n m=Qls n m
 | 0=>rfl
 | m+1=>by rw [show Qrp n (m+1)=Qng (Qrp n m) from by kernel_rfl,Qz3 n m];rfl
theorem Qz5 (n:Nat):∀ m,Qrv n m=Qlu n m
 | 0=>rfl
 | m+1=>by rw [show Qrv n (m+1)=Qnk (Qrv n m) from by kernel_rfl,Qz5 n m];rfl
noncomputable def Z21 (n:Nat) (arr_0:Int × Int × Int × Int × Int × Int × (List Int) × Int × Int × Int × Int × Int × List Qlf):Option Qkc:=Qoa (Qls n n) (Qlu n n) arr_0
noncomputable def Quu (arr_0:Int × Int × Int × Int × Int × Int × (List Int) × Int × Int × Int × Int × Int × List Qlf):Option Qkc:=Z21 1099511627776 arr_0
noncomputable def Z2o:Ent:=⟨[.val t30],[⟨t30,(nF 13),none⟩,⟨t48,[true],none⟩],fun x=>Quu x.1⟩
theorem Z7s:GD 60 Z2o:=fnl Qv8 (fun n x=>Z21 n x.1) (Qjy Qq2 (Qjy Z7b (Qjy Qwz (Qjy Qz9 (Qjy Qy7 Qk3))))) Tryz.func60 fun n x=>Eq.trans (b:=Qoa (Qrp n n) (Qrv n n) x.1) (by kernel_rfl) (by rw [Qz3 n n,Qz5 n n];rfl)
abbrev Qpy:Type:=(Bool × Unit) × Unit
noncomputable def Zei:Ctx:=[]
def Z3w:Fi:=fo [[0,1],[0,1,5],[0,1,5,9],[0,1,5],[0,1,5,17],[4],[4]]
abbrev Qxi:Type:=List Int→Int→Int→Option Qpy
noncomputable def Qpb (L1:Qxi) (v1:List Int) (v2 v3:Int):Option Qpy:=
 bif decide (v3<(v1.length:Int)) then
  bif decide (0≤v3)&&decide (v3<(v1.length:Int)) then
   bif (List.getD v1 v3.toNat 0)==v2 then
    some ((true,()),())
   else
    L1 v1 v2 (IntKind.wrap .i64 (v3+1))
  else none
 else
  some ((false,()),())
noncomputable def Z5r (L1:Qxi) (p_0:List Int) (id_1:Int):Option Qpy:=
 L1 p_0 id_1 0
noncomputable def Qr7 (n:Nat):Nat→Qxi:=iter (fun _ _ _=>none) fun L=>Qpb L
noncomputable def Qtn (n m:Nat) (v1:List Int) (v2 v3:Int):Option Qpy:=
 Qjv Zei tab (fiB [.val t28,.val t2] Z3w) n [.val t28,.val t2] [⟨t4,[false],none⟩] Tryz.f135 [1,0,1,0] [] [0,1,5] m
 ⟨[(0,Vp t28 v1),(1,Vp t2 v2),(5,Vp t2 v3)],[]⟩
theorem Z2f (n:Nat):∀ m,Qtn n m=Qr7 n m
 | 0=>rfl
 | m+1=>by rw [show Qtn n (m+1)=Qpb (Qtn n m) from by kernel_rfl,Z2f n m];rfl
noncomputable def Z5s (n:Nat) (p_0:List Int) (id_1:Int):Option Qpy:=Z5r (Qr7 n n) p_0 id_1
noncomputable def Qqn (p_0:List Int) (id_1:Int):Option Qpy:=Z5s 1099511627776 p_0 id_1
noncomputable def Z5z:Ent:=⟨[.val t28,.val t2],[⟨t4,[false],none⟩],fun x=>Qqn x.1 x.2.1⟩
theorem Z16:GD 135 Z5z:=fnl Z3w (fun n x=>Z5s n x.1 x.2.1) Qk3 Tryz.func135 fun n x=>Eq.trans (b:=Z5r (Qtn n n) x.1 x.2.1) (by kernel_rfl) (by rw [Z2f n n];rfl)
abbrev Qn3:Type:=(Bool × Unit) × Unit
noncomputable def Z8v:Ctx:=[(135,Z5z)]
def Qy1:Fi:=fo [[0,8,9,10,13,14,15,16,30,31,32,33,34,37,38,39,40,41,42,43,44],[0,17,30,31,32,33,34,37,38,39,40,41,42,43,44],[2],[0,3,30,31,32,33,34,37,38,39,40,41,42,43,44],[0,3,21,30,31,32,33,34,37,38,39,40,41,42,43,44],[0,3,30,31,32,33,34,37,38,39,40,41,42,43,44],[0,3,30,31,32,33,34,37,38,39,40,41,42,43,44,45],[2],[2]]
abbrev Qth:Type:=List Int→Int→Option Qn3
noncomputable def Qmp (L1:Qth) (v1:List Int) (v2:Int):Option Qn3:=
 bif decide (v2<(v1.length:Int)) then
  bif decide (0≤v2)&&decide (v2<(v1.length:Int)) then
   bif decide (List.getD v1 v2.toNat 0<1) then
    some ((false,()),())
   else
   bif decide (0≤v2)&&decide (v2<(v1.length:Int)) then
    bif decide (List.getD v1 v2.toNat 0>8) then
     some ((false,()),())
    else
    bif decide (0≤v2)&&decide (v2≤(v1.length:Int)) then
     bif decide (0≤v2)&&decide (v2<(v1.length:Int)) then
      Option.bind (Qqn (List.drop 0 (List.take v2.toNat v1)) (List.getD v1 v2.toNat 0)) fun r3=>
      bif r3.1.1 then
       some ((false,()),())
      else
       L1 v1 (IntKind.wrap .i64 (v2+1))
     else none
    else none
   else none
  else none
 else
  some ((true,()),())
noncomputable def Qr5 (L1:Qth) (p_0:List Int):Option Qn3:=
 bif decide ((p_0.length:Int)<1) then
  some ((false,()),())
 else
 bif decide ((p_0.length:Int)>10) then
  some ((false,()),())
 else
 bif decide (0<(p_0.length:Int)) then
  bif (List.getD p_0 0 0) != 1 then
   some ((false,()),())
  else
   L1 p_0 0
 else none
noncomputable def Qmn (n:Nat):Nat→Qth:=iter (fun _ _=>none) fun L=>Qmp L
noncomputable def Qqa (n m:Nat) (v1:List Int) (v2:Int):Option Qn3:=
 Qjv Z8v tab (fiB [.val t28] Qy1) n [.val t28] [⟨t4,[false],none⟩] Tryz.f105 [1,1,0,1,0] [] [0,3] m
 ⟨[(0,Vp t28 v1),(3,Vp t2 v2)],[]⟩
theorem Qx7 (n:Nat):∀ m,Qqa n m=Qmn n m
 | 0=>rfl
 | m+1=>by rw [show Qqa n (m+1)=Qmp (Qqa n m) from by kernel_rfl,Qx7 n m];rfl
noncomputable def Qzo (n:Nat) (p_0:List Int):Option Qn3:=Qr5 (Qmn n n) p_0
noncomputable def Qo5 (p_0:List Int):Option Qn3:=Qzo 1099511627776 p_0
noncomputable def Z8r:Ent:=⟨[.val t28],[⟨t4,[false],none⟩],fun x=>Qo5 x.1⟩
theorem Qwo:GD 105 Z8r:=fnl Qy1 (fun n x=>Qzo n x.1) (Qjy Z16 Qk3) Tryz.func105 fun n x=>Eq.trans (b:=Qr5 (Qqa n n) x.1) (by kernel_rfl) (by rw [Qx7 n n];rfl)
noncomputable def Qmv (p_0:List Int) (id_1:Int):Option (((List Int) × Bool × Unit) × Unit):=
 bif Nat.ble (0+p_0.length) 1073741824 then
  bif Nat.ble (([]++p_0).length+1) 1073741824 then
   Option.bind (Qo5 (([]++p_0)++[id_1])) fun r1=>
   bif !r1.1.1 then
    some (([],false,()),())
   else
    some ((([]++p_0)++[id_1],true,()),())
  else none
 else none
noncomputable def Qz0:Ent:=⟨[.val t28,.val t2],[⟨t28,[true],none⟩,⟨t4,[false],none⟩],fun x=>Qmv x.1 x.2.1⟩
theorem Qs1:GD 85 Qz0:=fnk 1 (fo [[0,1],[6],[6,15],[4,5],[4,5]]) (Qjy Qwo Qk3) Tryz.func85
abbrev Qlx:Type:=((List Int) × Unit) × (Zdo × Unit)
noncomputable def Z5e:Ctx:=[(26,Qpr),(85,Qz0)]
def Qvo:Fi:=fo [[0],[0,3],[0,3,4],[0,3,4,11],[0,3,4],[0,3,4,5,6],[0,3,4,5,22],[0,3,4],[0,2]]
abbrev Qrc:Type:=Int→List Int→Int→List Int→Option Qlx
noncomputable def Qln (L1:Qrc) (v2:Int) (v3:List Int) (v4:Int) (v5:List Int):Option Qlx:=
 bif decide (v2>0) then
  Option.bind (Qk5 (v3,v4) 7) fun r6=>
  Option.bind (Qmv v5 (IntKind.wrap .i64 (2+r6.1.1))) fun r7=>
  bif r7.1.2.1 then
   L1 (IntKind.wrap .i64 (v2 - 1)) r6.2.1.1 r6.2.1.2 r7.1.1
  else
   L1 (IntKind.wrap .i64 (v2 - 1)) r6.2.1.1 r6.2.1.2 v5
 else
  some ((v5,()),((v3,v4),()))
noncomputable def Qp3 (L1:Qrc) (p_0:(List Int) × Int):Option Qlx:=
 Option.bind (Qk5 p_0 4) fun r1=>
 L1 r1.1.1 r1.2.1.1 r1.2.1.2 [1]
noncomputable def Qll (n:Nat):Nat→Qrc:=iter (fun _ _ _ _=>none) fun L=>Qln L
noncomputable def Qoe (n m:Nat) (v2:Int) (v3:List Int) (v4:Int) (v5:List Int):Option Qlx:=
 Qjv Z5e tab (fiB [.box 75 t74 [false,false]] Qvo) n [.box 75 t74 [false,false]] [⟨t28,[true],none⟩] Tryz.f43 [1,1,0,1,0] [] [0,3,4] m
 ⟨[(0,V1 (.ptr (0,0) 0)),(3,V1 (.ref (888888,3))),(4,Vp t2 v2)],[((0,0),Ob.box 75 [LV.pure t25 v3,LV.pure t2 v4]),((888888,3),Ob.row 3 t2 v5)]⟩
theorem Qum (n:Nat):∀ m,Qoe n m=Qll n m
 | 0=>rfl
 | m+1=>by rw [show Qoe n (m+1)=Qln (Qoe n m) from by kernel_rfl,Qum n m];rfl
noncomputable def Qw1 (n:Nat) (p_0:(List Int) × Int):Option Qlx:=Qp3 (Qll n n) p_0
noncomputable def Qkf (p_0:(List Int) × Int):Option Qlx:=Qw1 1099511627776 p_0
noncomputable def Qvs:Ent:=⟨[.box 75 t74 [false,false]],[⟨t28,[true],none⟩],fun x=>Qkf x.1⟩
theorem Qu1:GD 43 Qvs:=fnl Qvo (fun n x=>Qw1 n x.1) (Qjy Ql9 (Qjy Qs1 Qk3)) Tryz.func43 fun n x=>Eq.trans (b:=Qp3 (Qoe n n) x.1) (by kernel_rfl) (by rw [Qum n n];rfl)
noncomputable def Qlt (p_0:(List Int) × Int):Option (Zpb × (Zdo × Unit)):=
 Option.bind (Qk5 p_0 5) fun r1=>
 bif decide (0≤r1.1.1)&&decide (r1.1.1<5) then
  bif decide (0≤r1.1.1)&&decide (r1.1.1<5) then
   some ((List.getD [(⟨#[]⟩:ByteArray),(⟨#[97]⟩:ByteArray),(⟨#[98,99]⟩:ByteArray),(⟨#[104,101,108,108,111]⟩:ByteArray),(⟨#[116,119,101,108,118,101,32,98,121,116,101,115]⟩:ByteArray)] r1.1.1.toNat (⟨#[]⟩:ByteArray),()),(r1.2.1,()))
  else none
 else none
noncomputable def Qw9:Ent:=⟨[.box 75 t74 [false,false]],[⟨t9,[false],none⟩],fun x=>Qlt x.1⟩
theorem Qu2:GD 44 Qw9:=fnk 1 (fo [[0],[0,2]]) (Qjy Ql9 Qk3) Tryz.func44
noncomputable def Qky (p_0:(List Int) × Int) (to_1:Int):Option ((Z59 × Unit) × (Zdo × Unit)):=
 Option.bind (Qk5 p_0 8) fun r1=>
 bif (IntKind.wrap .i64 (1+r1.1.1))==to_1 then
  Option.bind (Qk5 r1.2.1 9) fun r2=>
  Option.bind (Qk5 r2.2.1 3) fun r3=>
  bif (IntKind.wrap .i64 (1+r2.1.1))==2 then
   Option.bind (Qk5 r3.2.1 20) fun r4=>
   Option.bind (Qk5 r4.2.1 25) fun r5=>
   Option.bind (Qkf r5.2.1) fun r6=>
   Option.bind (Qk5 r6.2.1 9) fun r7=>
   some (((IntKind.wrap .i64 (1+r2.1.1),IntKind.wrap .i64 (1+(Int.tmod to_1 8)),to_1,IntKind.wrap .i64 (1+r3.1.1),r4.1.1,r5.1.1,r6.1.1,r7.1.1,0,(⟨#[]⟩:ByteArray)),()),(r7.2.1,()))
  else
  bif (IntKind.wrap .i64 (1+r2.1.1))==5 then
   Option.bind (Qk5 r3.2.1 20) fun r8=>
   Option.bind (Qk5 r8.2.1 25) fun r9=>
   Option.bind (Qkf r9.2.1) fun r10=>
   Option.bind (Qk5 r10.2.1 12) fun r11=>
   some (((IntKind.wrap .i64 (1+r2.1.1),IntKind.wrap .i64 (1+(Int.tmod to_1 8)),to_1,IntKind.wrap .i64 (1+r3.1.1),r8.1.1,r9.1.1,r10.1.1,0,r11.1.1,(⟨#[]⟩:ByteArray)),()),(r11.2.1,()))
  else
  bif (IntKind.wrap .i64 (1+r2.1.1))==7 then
   Option.bind (Qk5 r3.2.1 12) fun r12=>
   Option.bind (Qlt r12.2.1) fun r13=>
   some (((IntKind.wrap .i64 (1+r2.1.1),IntKind.wrap .i64 (1+(Int.tmod to_1 8)),to_1,IntKind.wrap .i64 (1+r3.1.1),0,0,[],IntKind.wrap .i64 (1+r12.1.1),0,r13.1.1),()),(r13.2.1,()))
  else
  bif (IntKind.wrap .i64 (1+r2.1.1))==8 then
   bif (IntKind.wrap .i64 (1+r2.1.1))==8 then
    Option.bind (Qk5 r3.2.1 9) fun r14=>
    Option.bind (Qk5 r14.2.1 6) fun r15=>
    some (((IntKind.wrap .i64 (1+r2.1.1),IntKind.wrap .i64 (1+(Int.tmod to_1 8)),to_1,IntKind.wrap .i64 (1+r3.1.1),0,0,[],IntKind.wrap .i64 (1+r14.1.1),IntKind.wrap .i64 ((IntKind.wrap .i64 (1+r14.1.1))+r15.1.1),(⟨#[]⟩:ByteArray)),()),(r15.2.1,()))
   else
    some (((IntKind.wrap .i64 (1+r2.1.1),IntKind.wrap .i64 (1+(Int.tmod to_1 8)),to_1,IntKind.wrap .i64 (1+r3.1.1),0,0,[],0,0,(⟨#[]⟩:ByteArray)),()),(r3.2.1,()))
  else
  bif (IntKind.wrap .i64 (1+r2.1.1))==9 then
   Option.bind (Qk5 r3.2.1 9) fun r16=>
   Option.bind (Qk5 r16.2.1 6) fun r17=>
   some (((IntKind.wrap .i64 (1+r2.1.1),IntKind.wrap .i64 (1+(Int.tmod to_1 8)),to_1,IntKind.wrap .i64 (1+r3.1.1),0,0,[],IntKind.wrap .i64 (1+r16.1.1),IntKind.wrap .i64 ((IntKind.wrap .i64 (1+r16.1.1))+r17.1.1),(⟨#[]⟩:ByteArray)),()),(r17.2.1,()))
  else
   some (((IntKind.wrap .i64 (1+r2.1.1),IntKind.wrap .i64 (1+(Int.tmod to_1 8)),to_1,IntKind.wrap .i64 (1+r3.1.1),0,0,[],0,0,(⟨#[]⟩:ByteArray)),()),(r3.2.1,()))
 else
  Option.bind (Qk5 r1.2.1 9) fun r18=>
  Option.bind (Qk5 r18.2.1 3) fun r19=>
  bif (IntKind.wrap .i64 (1+r18.1.1))==2 then
   Option.bind (Qk5 r19.2.1 20) fun r20=>
   Option.bind (Qk5 r20.2.1 25) fun r21=>
   Option.bind (Qkf r21.2.1) fun r22=>
   Option.bind (Qk5 r22.2.1 9) fun r23=>
   some (((IntKind.wrap .i64 (1+r18.1.1),IntKind.wrap .i64 (1+r1.1.1),to_1,IntKind.wrap .i64 (1+r19.1.1),r20.1.1,r21.1.1,r22.1.1,r23.1.1,0,(⟨#[]⟩:ByteArray)),()),(r23.2.1,()))
  else
  bif (IntKind.wrap .i64 (1+r18.1.1))==5 then
   Option.bind (Qk5 r19.2.1 20) fun r24=>
   Option.bind (Qk5 r24.2.1 25) fun r25=>
   Option.bind (Qkf r25.2.1) fun r26=>
   Option.bind (Qk5 r26.2.1 12) fun r27=>
   some (((IntKind.wrap .i64 (1+r18.1.1),IntKind.wrap .i64 (1+r1.1.1),to_1,IntKind.wrap .i64 (1+r19.1.1),r24.1.1,r25.1.1,r26.1.1,0,r27.1.1,(⟨#[]⟩:ByteArray)),()),(r27.2.1,()))
  else
  bif (IntKind.wrap .i64 (1+r18.1.1))==7 then
   Option.bind (Qk5 r19.2.1 12) fun r28=>
   Option.bind (Qlt r28.2.1) fun r29=>
   some (((IntKind.wrap .i64 (1+r18.1.1),IntKind.wrap .i64 (1+r1.1.1),to_1,IntKind.wrap .i64 (1+r19.1.1),0,0,[],IntKind.wrap .i64 (1+r28.1.1),0,r29.1.1),()),(r29.2.1,()))
  else
  bif (IntKind.wrap .i64 (1+r18.1.1))==8 then
   bif (IntKind.wrap .i64 (1+r18.1.1))==8 then
    Option.bind (Qk5 r19.2.1 9) fun r30=>
    Option.bind (Qk5 r30.2.1 6) fun r31=>
    some (((IntKind.wrap .i64 (1+r18.1.1),IntKind.wrap .i64 (1+r1.1.1),to_1,IntKind.wrap .i64 (1+r19.1.1),0,0,[],IntKind.wrap .i64 (1+r30.1.1),IntKind.wrap .i64 ((IntKind.wrap .i64 (1+r30.1.1))+r31.1.1),(⟨#[]⟩:ByteArray)),()),(r31.2.1,()))
   else
    some (((IntKind.wrap .i64 (1+r18.1.1),IntKind.wrap .i64 (1+r1.1.1),to_1,IntKind.wrap .i64 (1+r19.1.1),0,0,[],0,0,(⟨#[]⟩:ByteArray)),()),(r19.2.1,()))
  else
  bif (IntKind.wrap .i64 (1+r18.1.1))==9 then
   Option.bind (Qk5 r19.2.1 9) fun r32=>
   Option.bind (Qk5 r32.2.1 6) fun r33=>
   some (((IntKind.wrap .i64 (1+r18.1.1),IntKind.wrap .i64 (1+r1.1.1),to_1,IntKind.wrap .i64 (1+r19.1.1),0,0,[],IntKind.wrap .i64 (1+r32.1.1),IntKind.wrap .i64 ((IntKind.wrap .i64 (1+r32.1.1))+r33.1.1),(⟨#[]⟩:ByteArray)),()),(r33.2.1,()))
  else
   some (((IntKind.wrap .i64 (1+r18.1.1),IntKind.wrap .i64 (1+r1.1.1),to_1,IntKind.wrap .i64 (1+r19.1.1),0,0,[],0,0,(⟨#[]⟩:ByteArray)),()),(r19.2.1,()))
noncomputable def Qww:Ent:=⟨[.box 75 t74 [false,false],.val t2],[⟨t45,(nF 6++[true,false,false,false]),none⟩],fun x=>Qky x.1 x.2.1⟩
theorem Z35:GD 17 Qww:=fnk 1 (fo [[0,1,4],[0,1,4,5],[0,1,4,5,12],[0,1,4,5],[0,4,6],[0,4,6,26],[0,4,6,26,27],[0,4,6],[0,4,6,26,41],[0,4,6],[0,4,6,26,55],[0,4,6],[0,4,6,26,64],[0,4,6,64],[0,4,6],[0,4,6],[0,4]]) (Qjy Ql9 (Qjy Qu1 (Qjy Qu2 Qk3))) Tryz.func17
abbrev Qpf:Type:=(Qlf × Bool × Unit) × Unit
noncomputable def Zcv:Ctx:=[]
def Z20:Fi:=fo [[0,1,4],[0,1,4,6],[0,1,4,6,10],[0,1,4,6],[0,1,4,6,19],[4,5],[4,5]]
abbrev Qw4:Type:=Z6m→Int→Int→Int→Int→Int→Option Qpf
noncomputable def Qog (L1:Qw4) (v1:List Qlf) (v2 v3 v4 v5 v6:Int):Option Qpf:=
 bif decide (v3<(v1.length:Int)) then
  bif decide (0≤v3)&&decide (v3<(v1.length:Int)) then
   bif ((List.getD v1 v3.toNat (0,0,0)).1)==v2 then
    bif decide (0≤v3)&&decide (v3<(v1.length:Int)) then
     some (((List.getD v1 v3.toNat (0,0,0)),true,()),())
    else none
   else
    L1 v1 v2 (IntKind.wrap .i64 (v3+1)) v4 v5 v6
  else none
 else
  some (((0,0,0),false,()),())
noncomputable def Z47 (L1:Qw4) (l_0:List Qlf) (id_1:Int):Option Qpf:=
 L1 l_0 id_1 0 0 0 0
noncomputable def Qq4 (n:Nat):Nat→Qw4:=iter (fun _ _ _ _ _ _=>none) fun L=>Qog L
noncomputable def Qsw (n m:Nat) (v1:List Qlf) (v2 v3 v4 v5 v6:Int):Option Qpf:=
 Qjv Zcv tab (fiB [.val t29,.val t2] Z20) n [.val t29,.val t2] [⟨t52,[false,false,false],none⟩,⟨t4,[false],none⟩] Tryz.f70 [1,0,1,0] [] [0,1,4,6] m
 ⟨[(0,Vp t29 v1),(1,Vp t2 v2),(4,V1 (.ptr (4,0) 0)),(6,Vp t2 v3)],[((4,0),Ob.box 53 [LV.pure t2 v4,LV.pure t2 v5,LV.pure t2 v6])]⟩
theorem Z17 (n:Nat):∀ m,Qsw n m=Qq4 n m
 | 0=>rfl
 | m+1=>by rw [show Qsw n (m+1)=Qog (Qsw n m) from by kernel_rfl,Z17 n m];rfl
noncomputable def Z45 (n:Nat) (l_0:List Qlf) (id_1:Int):Option Qpf:=Z47 (Qq4 n n) l_0 id_1
noncomputable def Qpn (l_0:List Qlf) (id_1:Int):Option Qpf:=Z45 1099511627776 l_0 id_1
noncomputable def Zcp:Ent:=⟨[.val t29,.val t2],[⟨t52,[false,false,false],none⟩,⟨t4,[false],none⟩],fun x=>Qpn x.1 x.2.1⟩
theorem Qz2:GD 70 Zcp:=fnl Z20 (fun n x=>Z45 n x.1 x.2.1) Qk3 Tryz.func70 fun n x=>Eq.trans (b:=Z47 (Qsw n n) x.1 x.2.1) (by kernel_rfl) (by rw [Z17 n n];rfl)
noncomputable def Qup (l_0:List Qlf) (id_1 inc_2:Int):Option ((Bool × Unit) × Unit):=
 Option.bind (Qpn l_0 id_1) fun r1=>
 bif r1.1.2.1 then
  some ((decide (r1.1.1.2.1>inc_2),()),())
 else
  some ((false,()),())
noncomputable def Z5x:Ent:=⟨[.val t29,.val t2,.val t2],[⟨t4,[false],none⟩],fun x=>Qup x.1 x.2.1 x.2.2.1⟩
theorem Z0f:GD 134 Z5x:=fnk 1 (fo [[0,1,2,17,18,19,20],[2,7,8,17,18,19,20],[6]]) (Qjy Qz2 Qk3) Tryz.func134
abbrev Qpg:Type:=(Z6m × Unit) × Unit
noncomputable def Zcn:Ctx:=[]
def Z2w:Fi:={ keep:=[],vty:=[(5,29)],vals:=[],live:=[(0,[0,1]),(1,[0,1,5]),(2,[0,1,5,6]),(3,[0,1,5,6,10]),(4,[0,1,5,6]),(5,[0,1,5,6,19]),(6,[0,1,5,6]),(7,[4])] }
abbrev Qvx:Type:=Z6m→Int→Int→Z6m→Option Qpg
noncomputable def Qoh (L1:Qvx) (v1:List Qlf) (v2 v3:Int) (v4:List Qlf):Option Qpg:=
 bif decide (v3<(v1.length:Int)) then
  bif decide (0≤v3)&&decide (v3<(v1.length:Int)) then
   bif ((List.getD v1 v3.toNat (0,0,0)).1) != v2 then
    bif decide (0≤v3)&&decide (v3<(v1.length:Int)) then
     bif Nat.ble (v4.length+1) 1073741824 then
      L1 v1 v2 (IntKind.wrap .i64 (v3+1)) (v4++[(List.getD v1 v3.toNat (0,0,0))])
     else none
    else none
   else
    L1 v1 v2 (IntKind.wrap .i64 (v3+1)) v4
  else none
 else
  some ((v4,()),())
noncomputable def Z3v (L1:Qvx) (l_0:List Qlf) (id_1:Int):Option Qpg:=
 L1 l_0 id_1 0 []
noncomputable def Qq7 (n:Nat):Nat→Qvx:=iter (fun _ _ _ _=>none) fun L=>Qoh L
noncomputable def Qsq (n m:Nat) (v1:List Qlf) (v2 v3:Int) (v4:List Qlf):Option Qpg:=
 Qjv Zcn tab (fiB [.val t29,.val t2] Z2w) n [.val t29,.val t2] [⟨t29,[true],none⟩] Tryz.f139 [1,1,0,1,0] [] [0,1,5,6] m
 ⟨[(0,Vp t29 v1),(1,Vp t2 v2),(5,V1 (.ref (888888,5))),(6,Vp t2 v3)],[((888888,5),Ob.row 53 t52 v4)]⟩
theorem Z0s (n:Nat):∀ m,Qsq n m=Qq7 n m
 | 0=>rfl
 | m+1=>by rw [show Qsq n (m+1)=Qoh (Qsq n m) from by kernel_rfl,Z0s n m];rfl
noncomputable def Z3t (n:Nat) (l_0:List Qlf) (id_1:Int):Option Qpg:=Z3v (Qq7 n n) l_0 id_1
noncomputable def Qt3 (l_0:List Qlf) (id_1:Int):Option Qpg:=Z3t 1099511627776 l_0 id_1
noncomputable def Z49:Ent:=⟨[.val t29,.val t2],[⟨t29,[true],none⟩],fun x=>Qt3 x.1 x.2.1⟩
theorem Qzl:GD 139 Z49:=fnl Z2w (fun n x=>Z3t n x.1 x.2.1) Qk3 Tryz.func139 fun n x=>Eq.trans (b:=Z3v (Qsq n n) x.1 x.2.1) (by kernel_rfl) (by rw [Z0s n n];rfl)
abbrev Qp8:Type:=(Z6m × Bool × Unit) × Unit
noncomputable def Zcq:Ctx:=[(136,Qjh),(134,Z5x),(139,Z49)]
def Z2p:Fi:={ keep:=[],vty:=[],vals:=[],live:=[(0,[0,3]),(1,[0,3,13]),(2,[4,5]),(3,[3,6]),(4,[3,6,7]),(5,[3,6,7,22]),(6,[3,6,7]),(7,[3,6,7,32]),(8,[4,5]),(9,[4,5])],melt:=[(8,1000006)] }
abbrev Qwa:Type:=Int→Int→Int→Int→Z6m→Option Qp8
noncomputable def Qo2 (L1:Qwa) (v3 v4 v5 v6:Int) (v7:List Qlf):Option Qp8:=
 bif decide (v3<(v7.length:Int)) then
  bif decide (0≤v3)&&decide (v3<(v7.length:Int)) then
   bif decide (0≤v3)&&decide (v3<(v7.length:Int)) then
    bif decide ((List.getD v7 v3.toNat (0,0,0)).1>v4) then
     bif decide (0≤v3)&&decide (v3≤(((List.map some v7).length:Nat):Int)) then
      bif Nat.ble (0+((v3 - 0).toNat)) ((List.map some v7).length) then
       Option.bind (Qd (List.take ((v3 - 0).toNat) (List.drop 0 (List.map some v7)))) fun z8=>
       bif Nat.ble (0+z8.length) 1073741824 then
        bif Nat.ble (([]++z8).length+1) 1073741824 then
         bif (decide (0≤v3)&&decide (v3≤((v7.length:Nat):Int)))&&decide (((v7.length:Nat):Int)≤(((List.map some v7).length:Nat):Int)) then
          bif Nat.ble ((0+v3.toNat)+((((v7.length:Nat):Int) - v3).toNat)) ((List.map some v7).length) then
           Option.bind (Qd (List.take ((((v7.length:Nat):Int) - v3).toNat) (List.drop (0+v3.toNat) (List.map some v7)))) fun z9=>
           bif Nat.ble (((([]++z8)++[(v4,v5,v6)]).length)+z9.length) 1073741824 then
            some (((([]++z8)++[(v4,v5,v6)])++z9,true,()),())
           else none
          else none
         else none
        else none
       else none
      else none
     else none
    else
     L1 (IntKind.wrap .i64 (v3+1)) v4 v5 v6 v7
   else none
  else none
 else
 bif Nat.ble (v7.length+1) 1073741824 then
  some ((v7++[(v4,v5,v6)],true,()),())
 else none
noncomputable def Qts (L1:Qwa) (l_0:List Qlf) (k_1:Int × Int × Int):Option Qp8:=
 Option.bind (Qup l_0 k_1.1 k_1.2.1) fun r1=>
 bif r1.1.1 then
  some ((l_0,false,()),())
 else
  Option.bind (Qt3 l_0 k_1.1) fun r2=>
  L1 0 k_1.1 k_1.2.1 k_1.2.2 r2.1.1
noncomputable def Qoj (n:Nat):Nat→Qwa:=iter (fun _ _ _ _ _=>none) fun L=>Qo2 L
noncomputable def Qsr (n m:Nat) (v3 v4 v5 v6:Int) (v7:List Qlf):Option Qp8:=
 Qjv Zcq tab (fiB [.val t29,.val t52] Z2p) n [.val t29,.val t52] [⟨t29,[false],none⟩,⟨t4,[false],none⟩] Tryz.f136 [1,1,1,0,1,0] [] [3,6,7] m
 ⟨[(3,V1 (.ptr (3,0) 0)),(6,V1 (.ref (888888,6))),(7,Vp t2 v3)],[((3,0),Ob.box 53 [LV.pure t2 v4,LV.pure t2 v5,LV.pure t2 v6]),((888888,6),Ob.row 53 t52 v7)]⟩
theorem Z1e (n:Nat):∀ m,Qsr n m=Qoj n m
 | 0=>rfl
 | m+1=>by rw [show Qsr n (m+1)=Qo2 (Qsr n m) from by kernel_rfl,Z1e n m];rfl
noncomputable def Z43 (n:Nat) (l_0:List Qlf) (k_1:Int × Int × Int):Option Qp8:=Qts (Qoj n n) l_0 k_1
noncomputable def Qr6 (l_0:List Qlf) (k_1:Int × Int × Int):Option Qp8:=Z43 1099511627776 l_0 k_1
noncomputable def Zdf:Ent:=⟨[.val t29,.val t52],[⟨t29,[false],none⟩,⟨t4,[false],none⟩],fun x=>Qr6 x.1 x.2.1⟩
theorem Z8q:GD 136 Zdf:=fnl Z2p (fun n x=>Z43 n x.1 x.2.1) (Qjy (Qjx Tryz.func136 (by kernel_rfl) (by kernel_rfl)) (Qjy Z0f (Qjy Qzl Qk3))) Tryz.func136 fun n x=>Eq.trans (b:=Qts (Qsr n n) x.1 x.2.1) (by kernel_rfl) (by rw [Z1e n n];rfl)
noncomputable def Qus (p_0:List Int):Option ((Int × Unit) × Unit):=
 bif decide ((p_0.length:Int)<2) then
  some ((0,()),())
 else
 bif decide (0≤IntKind.wrap .i64 ((p_0.length:Int) - 2))&&decide (IntKind.wrap .i64 ((p_0.length:Int) - 2)<(p_0.length:Int)) then
  some ((List.getD p_0 ((IntKind.wrap .i64 ((p_0.length:Int) - 2)).toNat) 0,()),())
 else none
noncomputable def Zbv:Ent:=⟨[.val t28],[⟨t2,[false],none⟩],fun x=>Qus x.1⟩
theorem Z7q:GD 171 Zbv:=fnk 1 (fo [[0],[0,5],[2],[2]]) Qk3 Tryz.func171
noncomputable def Qpc (p_0:List Int):Option ((Int × Unit) × Unit):=
 Option.bind (Qus p_0) fun r1=>
 bif r1.1.1==0 then
  some ((1,()),())
 else
  some ((r1.1.1,()),())
noncomputable def Za4:Ent:=⟨[.val t28],[⟨t2,[false],none⟩],fun x=>Qpc x.1⟩
theorem Qx1:GD 138 Za4:=fnk 1 (fo [[0],[3],[3,7],[2],[2]]) (Qjy Z7q Qk3) Tryz.func138
noncomputable def Qp5 (t_0:Int × Int × Int × Int × Int × Int × (List Int) × Int × Int × Int × Int × Int × List Qlf) (m_1:Int × Int × Int × Int × Int × Int × (List Int) × Int × Int × ByteArray):Option ((Qwp × Zd7 × Unit) × Unit):=
 Option.bind (Qk6 (u11 (u9 t_0 0) (IntKind.wrap .i64 ((g11 t_0)+1))) 6 m_1.2.1) fun r5=>
 some (((u11 (u9 t_0 0) (IntKind.wrap .i64 ((g11 t_0)+1))),[r5.1.1],()),())
noncomputable def Qoy (t_0:Int × Int × Int × Int × Int × Int × (List Int) × Int × Int × Int × Int × Int × List Qlf) (m_1:Int × Int × Int × Int × Int × Int × (List Int) × Int × Int × ByteArray):Option ((Qwp × Zd7 × Unit) × Unit):=
 bif (g9 t_0)==0 then
  Option.bind (Qk6 t_0 6 m_1.2.1) fun r1=>
  some ((t_0,[r1.1.1],()),())
 else
 bif (g9 t_0) != m_1.2.1 then
  Option.bind (Qk6 t_0 6 m_1.2.1) fun r2=>
  some ((t_0,[r2.1.1],()),())
 else
 bif (g3 t_0) != 0 then
  Option.bind (Qk6 t_0 6 m_1.2.1) fun r3=>
  some ((t_0,[r3.1.1],()),())
 else
  Option.bind (Qmv (g6 m_1) t_0.1) fun r4=>
  bif !r4.1.2.1 then
   Qp5 t_0 m_1
  else
  bif decide ((g5 m_1)>20) then
   Qp5 t_0 m_1
  else
   Option.bind (Qpc (g6 m_1)) fun r7=>
   some (((u11 (u9 (u8 (u7 (u6 (u5 (u4 (u3 t_0 m_1.2.1) (g3 m_1)) r7.1.1) r4.1.1) (g4 m_1)) (IntKind.wrap .i64 (t_0.2.2.1 - (g5 m_1)))) 0) 0),[],()),())
noncomputable def Qm9 (t_0:Int × Int × Int × Int × Int × Int × (List Int) × Int × Int × Int × Int × Int × List Qlf) (m_1:Int × Int × Int × Int × Int × Int × (List Int) × Int × Int × ByteArray):Option ((Qwp × Zd7 × Unit) × Unit):=
 bif (g3 t_0) != 0 then
  bif m_1.2.1==(g3 t_0) then
   some ((t_0,[],()),())
  else
   Qoy t_0 m_1
 else
  Qoy t_0 m_1
noncomputable def Z65:Ent:=⟨[.val t30,.val t45],[⟨t30,(nF 13),none⟩,⟨t48,[true],none⟩],fun x=>Qm9 x.1 x.2.1⟩
theorem Z38:GD 137 Z65:=fnk 1 (fo [[2,3,4,12,13,14,15,16,23,24,25,26,27,30,31,32,52,53,54],[2,3,4,17,23,24,25,26,27,30,31,32,52,53,54],[4,5],[2,3,4,33,52,53,54],[4,5],[2,3,4,6,7,52,53,54],[2,3,4,6,7,52,53,54],[2,3,4,6,55],[2,3,4],[4,5],[2,3,4],[2,4],[4,5]]) (Qjy Qq2 (Qjy Qs1 (Qjy Qx1 Qk3))) Tryz.func137
noncomputable def Qqy (r2:(Qwp × Unit) × Unit) (x_1:Int × Int × Int × Int × Int × Int × (List Int) × Int × Int × ByteArray) (x_2:Int):Option ((Qwp × Zd7 × Unit) × Unit):=
 Option.bind (Qr6 (h12 r2.1.1) (x_1.2.1,(g3 x_1),r2.1.1.2.2.1)) fun r9=>
 Option.bind (Qnb (e12 r2.1.1 r9.1.1) 2 x_1.2.1) fun r10=>
 some (((e12 r2.1.1 r9.1.1),[(u7 r10.1.1 x_2)],()),())
noncomputable def Qzd (r2:(Qwp × Unit) × Unit) (x_1:Int × Int × Int × Int × Int × Int × (List Int) × Int × Int × ByteArray) (x_2:Int):Option ((Qwp × Zd7 × Unit) × Unit):=
 Option.bind (Qpn (h12 r2.1.1) x_1.2.1) fun r3=>
 bif r2.1.1.1==1 then
  Option.bind (Qlc r2.1.1) fun r4=>
  bif !r4.1.1 then
   Option.bind (Qk6 r2.1.1 3 x_1.2.1) fun r5=>
   some ((r2.1.1,[r5.1.1],()),())
  else
   Option.bind (Qqn (g6 r2.1.1) x_1.2.1) fun r6=>
   bif r6.1.1 then
    Option.bind (Qk6 r2.1.1 3 x_1.2.1) fun r7=>
    some ((r2.1.1,[r7.1.1],()),())
   else
   bif !r3.1.2.1 then
    bif decide (((h12 r2.1.1).length:Int) ≥ 8) then
     Option.bind (Qk6 r2.1.1 3 x_1.2.1) fun r8=>
     some ((r2.1.1,[r8.1.1],()),())
    else
     Qqy r2 x_1 x_2
   else
    Qqy r2 x_1 x_2
 else
  Option.bind (Qlc r2.1.1) fun r13=>
  bif !r13.1.1 then
   Option.bind (Qk6 r2.1.1 3 x_1.2.1) fun r14=>
   some ((r2.1.1,[r14.1.1],()),())
  else
   Option.bind (Qqn (g6 r2.1.1) x_1.2.1) fun r15=>
   bif r15.1.1 then
    Option.bind (Qk6 r2.1.1 3 x_1.2.1) fun r16=>
    some ((r2.1.1,[r16.1.1],()),())
   else
   bif !r3.1.2.1 then
    bif decide (((h12 r2.1.1).length:Int) ≥ 3) then
     Option.bind (Qk6 r2.1.1 3 x_1.2.1) fun r17=>
     some ((r2.1.1,[r17.1.1],()),())
    else
     Qqy r2 x_1 x_2
   else
    Qqy r2 x_1 x_2
noncomputable def Qzm (r2:(Qwp × Unit) × Unit) (x_1:Int × Int × Int × Int × Int × Int × (List Int) × Int × Int × ByteArray):Option ((Qwp × Zd7 × Unit) × Unit):=
 Option.bind (Qpn (h12 r2.1.1) x_1.2.1) fun r26=>
 bif !r26.1.2.1 then
  Option.bind (Qk6 r2.1.1 3 x_1.2.1) fun r27=>
  some ((r2.1.1,[r27.1.1],()),())
 else
  Option.bind (Qr6 (h12 r2.1.1) (x_1.2.1,(g3 x_1),r2.1.1.2.2.1)) fun r28=>
  some (((e12 r2.1.1 r28.1.1),[],()),())
noncomputable def Qzg (x_1:Int × Int × Int × Int × Int × Int × (List Int) × Int × Int × ByteArray) (r2:(Qwp × Unit) × Unit):Option ((Qwp × Zd7 × Unit) × Unit):=
 bif x_1.1==6 then
  Option.bind (Qt3 (h12 r2.1.1) x_1.2.1) fun r34=>
  some (((e12 r2.1.1 r34.1.1),[],()),())
 else
  some ((r2.1.1,[],()),())
noncomputable def Qmx (arr_0:Int × Int × Int × Int × Int × Int × (List Int) × Int × Int × Int × Int × Int × List Qlf) (x_1:Int × Int × Int × Int × Int × Int × (List Int) × Int × Int × ByteArray) (x_2:Int):Option ((Qwp × Zd7 × Unit) × Unit):=
 Option.bind (Qr6 (h12 arr_0) (x_1.2.1,(g3 x_1),arr_0.2.2.1)) fun r66=>
 Option.bind (Qnb (e12 arr_0 r66.1.1) 2 x_1.2.1) fun r67=>
 some (((e12 arr_0 r66.1.1),[(u7 r67.1.1 x_2)],()),())
noncomputable def Qr4 (arr_0:Int × Int × Int × Int × Int × Int × (List Int) × Int × Int × Int × Int × Int × List Qlf) (x_1:Int × Int × Int × Int × Int × Int × (List Int) × Int × Int × ByteArray) (x_2:Int):Option ((Qwp × Zd7 × Unit) × Unit):=
 Option.bind (Qpn (h12 arr_0) x_1.2.1) fun r60=>
 bif arr_0.1==1 then
  Option.bind (Qlc arr_0) fun r61=>
  bif !r61.1.1 then
   Option.bind (Qk6 arr_0 3 x_1.2.1) fun r62=>
   some ((arr_0,[r62.1.1],()),())
  else
   Option.bind (Qqn (g6 arr_0) x_1.2.1) fun r63=>
   bif r63.1.1 then
    Option.bind (Qk6 arr_0 3 x_1.2.1) fun r64=>
    some ((arr_0,[r64.1.1],()),())
   else
   bif !r60.1.2.1 then
    bif decide (((h12 arr_0).length:Int) ≥ 8) then
     Option.bind (Qk6 arr_0 3 x_1.2.1) fun r65=>
     some ((arr_0,[r65.1.1],()),())
    else
     Qmx arr_0 x_1 x_2
   else
    Qmx arr_0 x_1 x_2
 else
  Option.bind (Qlc arr_0) fun r70=>
  bif !r70.1.1 then
   Option.bind (Qk6 arr_0 3 x_1.2.1) fun r71=>
   some ((arr_0,[r71.1.1],()),())
  else
   Option.bind (Qqn (g6 arr_0) x_1.2.1) fun r72=>
   bif r72.1.1 then
    Option.bind (Qk6 arr_0 3 x_1.2.1) fun r73=>
    some ((arr_0,[r73.1.1],()),())
   else
   bif !r60.1.2.1 then
    bif decide (((h12 arr_0).length:Int) ≥ 3) then
     Option.bind (Qk6 arr_0 3 x_1.2.1) fun r74=>
     some ((arr_0,[r74.1.1],()),())
    else
     Qmx arr_0 x_1 x_2
   else
    Qmx arr_0 x_1 x_2
noncomputable def Qqz (arr_0:Int × Int × Int × Int × Int × Int × (List Int) × Int × Int × Int × Int × Int × List Qlf) (x_1:Int × Int × Int × Int × Int × Int × (List Int) × Int × Int × ByteArray):Option ((Qwp × Zd7 × Unit) × Unit):=
 Option.bind (Qpn (h12 arr_0) x_1.2.1) fun r83=>
 bif !r83.1.2.1 then
  Option.bind (Qk6 arr_0 3 x_1.2.1) fun r84=>
  some ((arr_0,[r84.1.1],()),())
 else
  Option.bind (Qr6 (h12 arr_0) (x_1.2.1,(g3 x_1),arr_0.2.2.1)) fun r85=>
  some (((e12 arr_0 r85.1.1),[],()),())
noncomputable def Qqw (x_1:Int × Int × Int × Int × Int × Int × (List Int) × Int × Int × ByteArray) (arr_0:Int × Int × Int × Int × Int × Int × (List Int) × Int × Int × Int × Int × Int × List Qlf):Option ((Qwp × Zd7 × Unit) × Unit):=
 bif x_1.1==6 then
  Option.bind (Qt3 (h12 arr_0) x_1.2.1) fun r91=>
  some (((e12 arr_0 r91.1.1),[],()),())
 else
  some ((arr_0,[],()),())
noncomputable def Qm7 (arr_0:Int × Int × Int × Int × Int × Int × (List Int) × Int × Int × Int × Int × Int × List Qlf) (x_1:Int × Int × Int × Int × Int × Int × (List Int) × Int × Int × ByteArray) (x_2:Int):Option ((Qwp × Zd7 × Unit) × Unit):=
 bif (g3 arr_0) != 0 then
  bif x_1.1==1 then
   Qr4 arr_0 x_1 x_2
  else
  bif x_1.1==2 then
   Option.bind (Qm9 arr_0 x_1) fun r79=>
   some ((r79.1.1,r79.1.2.1,()),())
  else
  bif x_1.1==3 then
   bif (g9 arr_0) != 0 then
    bif (g9 arr_0)==x_1.2.1 then
     bif x_1.2.1==(g3 arr_0) then
      Option.bind (Ql7 (u11 (u9 arr_0 0) (IntKind.wrap .i64 ((g11 arr_0)+1))) 0) fun r80=>
      some ((r80.1.1,[],()),())
     else
      some (((u11 (u9 arr_0 0) (IntKind.wrap .i64 ((g11 arr_0)+1))),[],()),())
    else
    bif x_1.2.1==(g3 arr_0) then
     Option.bind (Ql7 arr_0 0) fun r81=>
     some ((r81.1.1,[],()),())
    else
     some ((arr_0,[],()),())
   else
   bif x_1.2.1==(g3 arr_0) then
    Option.bind (Ql7 arr_0 0) fun r82=>
    some ((r82.1.1,[],()),())
   else
    some ((arr_0,[],()),())
  else
  bif x_1.1==4 then
   Qqz arr_0 x_1
  else
  bif x_1.1==5 then
   bif !(x_1.2.1==(g3 arr_0)) then
    Option.bind (Qk6 arr_0 6 x_1.2.1) fun r86=>
    some ((arr_0,[r86.1.1],()),())
   else
    Option.bind (Qmv (g6 x_1) arr_0.1) fun r87=>
    bif !r87.1.2.1 then
     Option.bind (Ql7 arr_0 1) fun r88=>
     Option.bind (Qk6 arr_0 6 x_1.2.1) fun r89=>
     some ((r88.1.1,[r89.1.1],()),())
    else
     Option.bind (Qpc (g6 x_1)) fun r90=>
     bif decide (IntKind.wrap .i64 (arr_0.2.2.1 - (g5 x_1))>(g8 arr_0)) then
      some (((u8 (u7 (u6 (u5 arr_0 r90.1.1) r87.1.1) (g4 x_1)) (IntKind.wrap .i64 (arr_0.2.2.1 - (g5 x_1)))),[],()),())
     else
      some (((u6 (u5 arr_0 r90.1.1) r87.1.1),[],()),())
  else
   Qqw x_1 arr_0
 else
 bif x_1.1==1 then
  Qr4 arr_0 x_1 x_2
 else
 bif x_1.1==2 then
  Option.bind (Qm9 arr_0 x_1) fun r111=>
  some ((r111.1.1,r111.1.2.1,()),())
 else
 bif x_1.1==3 then
  bif (g9 arr_0) != 0 then
   bif (g9 arr_0)==x_1.2.1 then
    some (((u11 (u9 arr_0 0) (IntKind.wrap .i64 ((g11 arr_0)+1))),[],()),())
   else
    some ((arr_0,[],()),())
  else
   some ((arr_0,[],()),())
 else
 bif x_1.1==4 then
  Qqz arr_0 x_1
 else
 bif x_1.1==5 then
  Option.bind (Qk6 arr_0 6 x_1.2.1) fun r115=>
  some ((arr_0,[r115.1.1],()),())
 else
  Qqw x_1 arr_0
noncomputable def Qt5 (x_1:Int × Int × Int × Int × Int × Int × (List Int) × Int × Int × ByteArray) (arr_0:Int × Int × Int × Int × Int × Int × (List Int) × Int × Int × Int × Int × Int × List Qlf) (x_2:Int):Option ((Qwp × Zd7 × Unit) × Unit):=
 bif x_1.2.1==(g3 arr_0) then
  bif decide ((g3 x_1)>(g4 arr_0)) then
   Option.bind (Ql7 arr_0 0) fun r2=>
   bif (g3 r2.1.1) != 0 then
    bif x_1.1==1 then
     Qzd r2 x_1 x_2
    else
    bif x_1.1==2 then
     Option.bind (Qm9 r2.1.1 x_1) fun r22=>
     some ((r22.1.1,r22.1.2.1,()),())
    else
    bif x_1.1==3 then
     bif (g9 r2.1.1) != 0 then
      bif (g9 r2.1.1)==x_1.2.1 then
       bif x_1.2.1==(g3 r2.1.1) then
        Option.bind (Ql7 (u11 (u9 r2.1.1 0) (IntKind.wrap .i64 ((g11 r2.1.1)+1))) 0) fun r23=>
        some ((r23.1.1,[],()),())
       else
        some (((u11 (u9 r2.1.1 0) (IntKind.wrap .i64 ((g11 r2.1.1)+1))),[],()),())
      else
      bif x_1.2.1==(g3 r2.1.1) then
       Option.bind (Ql7 r2.1.1 0) fun r24=>
       some ((r24.1.1,[],()),())
      else
       some ((r2.1.1,[],()),())
     else
     bif x_1.2.1==(g3 r2.1.1) then
      Option.bind (Ql7 r2.1.1 0) fun r25=>
      some ((r25.1.1,[],()),())
     else
      some ((r2.1.1,[],()),())
    else
    bif x_1.1==4 then
     Qzm r2 x_1
    else
    bif x_1.1==5 then
     bif !(x_1.2.1==(g3 r2.1.1)) then
      Option.bind (Qk6 r2.1.1 6 x_1.2.1) fun r29=>
      some ((r2.1.1,[r29.1.1],()),())
     else
      Option.bind (Qmv (g6 x_1) r2.1.1.1) fun r30=>
      bif !r30.1.2.1 then
       Option.bind (Ql7 r2.1.1 1) fun r31=>
       Option.bind (Qk6 r2.1.1 6 x_1.2.1) fun r32=>
       some ((r31.1.1,[r32.1.1],()),())
      else
       Option.bind (Qpc (g6 x_1)) fun r33=>
       bif decide (IntKind.wrap .i64 (r2.1.1.2.2.1 - (g5 x_1))>(g8 r2.1.1)) then
        some (((u8 (u7 (u6 (u5 r2.1.1 r33.1.1) r30.1.1) (g4 x_1)) (IntKind.wrap .i64 (r2.1.1.2.2.1 - (g5 x_1)))),[],()),())
       else
        some (((u6 (u5 r2.1.1 r33.1.1) r30.1.1),[],()),())
    else
     Qzg x_1 r2
   else
   bif x_1.1==1 then
    Qzd r2 x_1 x_2
   else
   bif x_1.1==2 then
    Option.bind (Qm9 r2.1.1 x_1) fun r54=>
    some ((r54.1.1,r54.1.2.1,()),())
   else
   bif x_1.1==3 then
    bif (g9 r2.1.1) != 0 then
     bif (g9 r2.1.1)==x_1.2.1 then
      some (((u11 (u9 r2.1.1 0) (IntKind.wrap .i64 ((g11 r2.1.1)+1))),[],()),())
     else
      some ((r2.1.1,[],()),())
    else
     some ((r2.1.1,[],()),())
   else
   bif x_1.1==4 then
    Qzm r2 x_1
   else
   bif x_1.1==5 then
    Option.bind (Qk6 r2.1.1 6 x_1.2.1) fun r58=>
    some ((r2.1.1,[r58.1.1],()),())
   else
    Qzg x_1 r2
  else
   Qm7 arr_0 x_1 x_2
 else
  Qm7 arr_0 x_1 x_2
noncomputable def Qm1 (arr_0:Int × Int × Int × Int × Int × Int × (List Int) × Int × Int × Int × Int × Int × List Qlf) (x_1:Int × Int × Int × Int × Int × Int × (List Int) × Int × Int × ByteArray) (x_2:Int):Option ((Qwp × Zd7 × Unit) × Unit):=
 Option.bind (Qup (h12 arr_0) x_1.2.1 (g3 x_1)) fun r1=>
 bif r1.1.1 then
  some ((arr_0,[],()),())
 else
 bif x_1.2.1==(g3 arr_0) then
  bif decide ((g3 x_1)<(g4 arr_0)) then
   some ((arr_0,[],()),())
  else
   Qt5 x_1 arr_0 x_2
 else
  Qt5 x_1 arr_0 x_2
noncomputable def Z0t:Ent:=⟨[.val t30,.val t45,.val t2],[⟨t30,(nF 13),none⟩,⟨t48,[true],none⟩],fun x=>Qm1 x.1 x.2.1 x.2.2.1⟩
theorem Z62:GD 65 Z0t:=fnk 1 (fo [[2,3,4,6,25,26,27,28,29,30,31,32,33,34,35,36,45,46,47,48,49,57,58,59,60,61,82,83,84,85,86,89,90,91,92,93,94,95,96,97,141,142,143,144,145],[2,3,4,6,37,45,46,47,48,49,57,58,59,60,61,82,83,84,85,86,89,90,91,92,93,94,95,96,97,141,142,143,144,145],[6,7],[2,3,4,6,50,57,58,59,60,61,82,83,84,85,86,89,90,91,92,93,94,95,96,97,141,142,143,144,145],[2,3,4,6,57,58,59,60,61,82,83,84,85,86,89,90,91,92,93,94,95,96,97,141,142,143,144,145],[2,3,4,6,8,82,83,84,85,86,89,90,91,92,93,94,95,96,97,141,142,143,144,145],[2,3,4,6,8,64,82,83,84,85,86,89,90,91,92,93,94,95,96,97,141,142,143,144,145],[2,3,4,6,8,64,65,82,83,84,85,86,89,90,91,92,93,94,95,96,97,141,142,143,144,145],[2,3,4,6,10,82,83,84,85,86,89,90,91,92,93,94,95,96,97],[2,3,4,6,10,11,82,83,84,85,86,89,90,91,92,93,94,95,96,97],[2,3,4,6,10,11,77,82,83,84,85,86,89,90,91,92,93,94,95,96,97],[2,3,4,6,10,11,82,83,84,85,86,89,90,91,92,93,94,95,96,97],[2,3,4,6,98],[6,7],[2,3,4,6],[2,3,6,12],[3,6,12],[6,7],[3,4,6,8,64,128,141,142,143,144,145],[6,7],[3,4,6,8,64,135,141,142,143,144,145],[3,6,8,146],[3,6,8],[3,6,152],[3,6],[3,4,6,8,64,155],[3,4,6,14],[3,4,6,166],[6,7],[3,6],[3,4,6,8,64,187],[3,4,6,190],[6,7],[3,4,6,15,16],[3,4,6,15,206],[6,7],[3,4,6],[3,4,6,227],[3,6],[3,4,6,237],[3,6],[6,7]]) (Qjy Qq2 (Qjy Qz2 (Qjy Qs1 (Qjy Qwz (Qjy Qz9 (Qjy Qy7 (Qjy Z0f (Qjy Z16 (Qjy Z8q (Qjy Z38 (Qjy Qx1 (Qjy Qzl Qk3)))))))))))) Tryz.func65
abbrev Qki:Type:=(Qwp × Unit) × (Zdo × Unit)
noncomputable def Qxf:Ctx:=[(17,Qww),(25,Qrt),(26,Qpr),(38,Z4o),(43,Qvs),(60,Z2o),(65,Z0t)]
def Qsa:Fi:=fo [[0,1,2,6,21,22,23,53,54,55,56],[0,1,2,6,7,21,22,23,53,54,55,56],[0,1,2,6,7,8,21,22,23,53,54,55,56],[0,1,2,6,7,8,21,22,23,24,53,54,55,56],[0,1,2,6,7,8,21,22,23,53,54,55,56],[0,1,2,6,7,8,21,22,23,28,53,54,55,56],[0,1,2,6,7,8,21,22,23,53,54,55,56],[0,1,2,6,7,8,21,22,23,28,37,53,54,55,56],[0,1,2,6,7,8,21,22,23,53,54,55,56],[0,1,2,6,7,8,21,22,23,28,44,53,54,55,56],[0,1,2,6,7,8,9,21,22,23,53,54,55,56],[0,1,2,6,7,8,9,21,22,23,53,54,55,56,57],[0,1,2,6,7,8,9,21,22,23,53,54,55,56],[0,1,2,6,7,8,21,22,23,53,54,55,56],[0,1,2,6,7,8,21,22,23,53,54,55,56,83],[0,1,2,6,7,8,10,21,22,23,53,54,55,56],[0,1,2,6,7,8,10,21,22,23,53,54,55,56,90],[0,1,2,6,7,8,10,21,22,23,53,54,55,56],[0,1,2,6,7,8,21,22,23,53,54,55,56],[0,6]]
abbrev Qwh:Type:=Int→Int→Int→List Int→Int→Int→Int→Int→Int→Int→Int→Int→Int→Int→Int→Int→List Int→Z6m→Int→Int→Int→Int→Int→Int→Int→Int→Int→Int→Int→List Int→Z6m→Option Qki
abbrev Qp1:Type:=Int→Int→Int→List Int→Int→Int→Int→Int→Int→Int→Int→Int→Int→Int→Int→Int→List Int→Z6m→Int→Int→Int→Int→Int→Int→List Int→Int→Int→Int→Int→Int→Z6m→Option Qki
noncomputable def Qkr (v22 v23 v24 v25 v26 v27:Int) (v33:List Int) (v28 v29 v30 v31 v32:Int) (v34:List Qlf) (r90:(Z59 × Unit) × (Zdo × Unit)) (L2:Qp1) (v4 v5 v6 v9 v10 v11 v12 v13 v14 v15 v16 v17 v18 v19:Int) (v20:List Int) (v21:List Qlf):Option Qki:=
 Option.bind (Qm1 (v22,v23,v24,v25,v26,v27,v33,v28,v29,v30,v31,v32,v34) r90.1.1 1) fun r97=>
 L2 v4 v5 (IntKind.wrap .i64 (v6+1)) r90.2.1.1 r90.2.1.2 v9 v10 v11 v12 v13 v14 v15 v16 v17 v18 v19 v20 v21 r97.1.1.1 r97.1.1.2.1 r97.1.1.2.2.1 (g3 r97.1.1) (g4 r97.1.1) (g5 r97.1.1) (g6 r97.1.1) (g7 r97.1.1) (g8 r97.1.1) (g9 r97.1.1) (g10 r97.1.1) (g11 r97.1.1) (h12 r97.1.1)
noncomputable def Qwj (L2:Qp1) (v4 v5 v6:Int) (v7:List Int) (v8 v9 v10 v11 v12 v13 v14 v15 v16 v17 v18 v19:Int) (v20:List Int) (v21:List Qlf) (v22 v23 v24 v25 v26 v27 v28 v29 v30 v31 v32:Int) (v33:List Int) (v34:List Qlf):Option Qki:=
 bif decide (v6<v5) then
  Option.bind (Qnx (v7,v8)) fun r35=>
  bif !r35.1.1 then
   Option.bind (Qk5 r35.2.1 4) fun r36=>
   bif r36.1.1==0 then
    Option.bind (Quu (v22,v23,v24,v25,v26,v27,v33,v28,v29,v30,v31,v32,v34)) fun r37=>
    L2 v4 v5 (IntKind.wrap .i64 (v6+1)) r36.2.1.1 r36.2.1.2 v9 v10 v11 v12 v13 v14 v15 v16 v17 v18 v19 v20 v21 r37.1.1.1 r37.1.1.2.1 r37.1.1.2.2.1 (g3 r37.1.1) (g4 r37.1.1) (g5 r37.1.1) (g6 r37.1.1) (g7 r37.1.1) (g8 r37.1.1) (g9 r37.1.1) (g10 r37.1.1) (g11 r37.1.1) (h12 r37.1.1)
   else
   bif r36.1.1==1 then
    Option.bind (Qky r36.2.1 v4) fun r90=>
    bif v30 != 0 then
     bif v30 != v4 then
      Option.bind (Qk5 r90.2.1 2) fun r91=>
      Option.bind (Qk5 r91.2.1 9) fun r92=>
      Option.bind (Qk5 r92.2.1 22) fun r93=>
      Option.bind (Qkf r93.2.1) fun r94=>
      bif decide (1≤(r94.1.1.length:Int))&&decide ((r94.1.1.length:Int)≤(r94.1.1.length:Int)) then
       bif Nat.ble (1+(List.drop 1 (List.take ((r94.1.1.length:Int).toNat) r94.1.1)).length) 1073741824 then
        Option.bind (Qk5 r94.2.1 4) fun r95=>
        Option.bind (Qm1 (v22,v23,v24,v25,v26,v27,v33,v28,v29,v30,v31,v32,v34) (2,v30,v4,IntKind.wrap .i64 (1+r91.1.1),r92.1.1,r93.1.1,[1]++(List.drop 1 (List.take ((r94.1.1.length:Int).toNat) r94.1.1)),IntKind.wrap .i64 (1+r95.1.1),0,(⟨#[]⟩:ByteArray)) 1) fun r96=>
        L2 v4 v5 (IntKind.wrap .i64 (v6+1)) r95.2.1.1 r95.2.1.2 v9 v10 v11 v12 v13 v14 v15 v16 v17 v18 v19 v20 v21 r96.1.1.1 r96.1.1.2.1 r96.1.1.2.2.1 (g3 r96.1.1) (g4 r96.1.1) (g5 r96.1.1) (g6 r96.1.1) (g7 r96.1.1) (g8 r96.1.1) (g9 r96.1.1) (g10 r96.1.1) (g11 r96.1.1) (h12 r96.1.1)
       else none
      else none
     else
      Qkr v22 v23 v24 v25 v26 v27 v33 v28 v29 v30 v31 v32 v34 r90 L2 v4 v5 v6 v9 v10 v11 v12 v13 v14 v15 v16 v17 v18 v19 v20 v21
    else
     Qkr v22 v23 v24 v25 v26 v27 v33 v28 v29 v30 v31 v32 v34 r90 L2 v4 v5 v6 v9 v10 v11 v12 v13 v14 v15 v16 v17 v18 v19 v20 v21
   else
   bif r36.1.1==2 then
    Option.bind (Qky r36.2.1 v4) fun r99=>
    bif v25 != 0 then
     Option.bind (Qk5 r99.2.1 30) fun r100=>
     Option.bind (Qk5 r100.2.1 20) fun r101=>
     Option.bind (Qkf r101.2.1) fun r102=>
     Option.bind (Qk5 r102.2.1 9) fun r103=>
     Option.bind (Qm1 (v22,v23,v24,v25,v26,v27,v33,v28,v29,v30,v31,v32,v34) (5,v25,v4,v26,r100.1.1,r101.1.1,r102.1.1,0,r103.1.1,(⟨#[]⟩:ByteArray)) 1) fun r104=>
     L2 v4 v5 (IntKind.wrap .i64 (v6+1)) r103.2.1.1 r103.2.1.2 v9 v10 v11 v12 v13 v14 v15 v16 v17 v18 v19 v20 v21 r104.1.1.1 r104.1.1.2.1 r104.1.1.2.2.1 (g3 r104.1.1) (g4 r104.1.1) (g5 r104.1.1) (g6 r104.1.1) (g7 r104.1.1) (g8 r104.1.1) (g9 r104.1.1) (g10 r104.1.1) (g11 r104.1.1) (h12 r104.1.1)
    else
     Qkr v22 v23 v24 v25 v26 v27 v33 v28 v29 v30 v31 v32 v34 r99 L2 v4 v5 v6 v9 v10 v11 v12 v13 v14 v15 v16 v17 v18 v19 v20 v21
   else
    Option.bind (Qky r36.2.1 v4) fun r106=>
    Qkr v22 v23 v24 v25 v26 v27 v33 v28 v29 v30 v31 v32 v34 r106 L2 v4 v5 v6 v9 v10 v11 v12 v13 v14 v15 v16 v17 v18 v19 v20 v21
  else
   some (((v22,v23,v24,v25,v26,v27,v33,v28,v29,v30,v31,v32,v34),()),(r35.2.1,()))
 else
  some (((v22,v23,v24,v25,v26,v27,v33,v28,v29,v30,v31,v32,v34),()),((v7,v8),()))
noncomputable def Ql5 (L2:Qp1) (v38 v39 v40:Int) (v41:List Int) (v42 v43 v44 v45 v46 v47 v48 v49 v50 v51 v52 v53:Int) (v54:List Int) (v55:List Qlf) (v56 v57 v58 v59 v60 v61:Int) (v62:List Int) (v63 v64 v65 v66 v67:Int) (v68:List Qlf):Option Qki:=
 bif decide (v40<v39) then
  Option.bind (Qnx (v41,v42)) fun r69=>
  bif !r69.1.1 then
   Option.bind (Qk5 r69.2.1 4) fun r70=>
   bif r70.1.1==0 then
    Option.bind (Quu (v56,v57,v58,v59,v60,v61,v62,v63,v64,v65,v66,v67,v68)) fun r71=>
    L2 v38 v39 (IntKind.wrap .i64 (v40+1)) r70.2.1.1 r70.2.1.2 v43 v44 v45 v46 v47 v48 v49 v50 v51 v52 v53 v54 v55 r71.1.1.1 r71.1.1.2.1 r71.1.1.2.2.1 (g3 r71.1.1) (g4 r71.1.1) (g5 r71.1.1) (g6 r71.1.1) (g7 r71.1.1) (g8 r71.1.1) (g9 r71.1.1) (g10 r71.1.1) (g11 r71.1.1) (h12 r71.1.1)
   else
   bif r70.1.1==1 then
    Option.bind (Qky r70.2.1 v38) fun r72=>
    bif v65 != 0 then
     bif v65 != v38 then
      Option.bind (Qk5 r72.2.1 2) fun r73=>
      Option.bind (Qk5 r73.2.1 9) fun r74=>
      Option.bind (Qk5 r74.2.1 22) fun r75=>
      Option.bind (Qkf r75.2.1) fun r76=>
      bif decide (1≤(r76.1.1.length:Int))&&decide ((r76.1.1.length:Int)≤(r76.1.1.length:Int)) then
       bif Nat.ble (1+(List.drop 1 (List.take ((r76.1.1.length:Int).toNat) r76.1.1)).length) 1073741824 then
        Option.bind (Qk5 r76.2.1 4) fun r77=>
        Option.bind (Qm1 (v56,v57,v58,v59,v60,v61,v62,v63,v64,v65,v66,v67,v68) (2,v65,v38,IntKind.wrap .i64 (1+r73.1.1),r74.1.1,r75.1.1,[1]++(List.drop 1 (List.take ((r76.1.1.length:Int).toNat) r76.1.1)),IntKind.wrap .i64 (1+r77.1.1),0,(⟨#[]⟩:ByteArray)) 1) fun r78=>
        L2 v38 v39 (IntKind.wrap .i64 (v40+1)) r77.2.1.1 r77.2.1.2 v43 v44 v45 v46 v47 v48 v49 v50 v51 v52 v53 v54 v55 r78.1.1.1 r78.1.1.2.1 r78.1.1.2.2.1 (g3 r78.1.1) (g4 r78.1.1) (g5 r78.1.1) (g6 r78.1.1) (g7 r78.1.1) (g8 r78.1.1) (g9 r78.1.1) (g10 r78.1.1) (g11 r78.1.1) (h12 r78.1.1)
       else none
      else none
     else
      Qkr v56 v57 v58 v59 v60 v61 v62 v63 v64 v65 v66 v67 v68 r72 L2 v38 v39 v40 v43 v44 v45 v46 v47 v48 v49 v50 v51 v52 v53 v54 v55
    else
     Qkr v56 v57 v58 v59 v60 v61 v62 v63 v64 v65 v66 v67 v68 r72 L2 v38 v39 v40 v43 v44 v45 v46 v47 v48 v49 v50 v51 v52 v53 v54 v55
   else
   bif r70.1.1==2 then
    Option.bind (Qky r70.2.1 v38) fun r81=>
    bif v59 != 0 then
     Option.bind (Qk5 r81.2.1 30) fun r82=>
     Option.bind (Qk5 r82.2.1 20) fun r83=>
     Option.bind (Qkf r83.2.1) fun r84=>
     Option.bind (Qk5 r84.2.1 9) fun r85=>
     Option.bind (Qm1 (v56,v57,v58,v59,v60,v61,v62,v63,v64,v65,v66,v67,v68) (5,v59,v38,v60,r82.1.1,r83.1.1,r84.1.1,0,r85.1.1,(⟨#[]⟩:ByteArray)) 1) fun r86=>
     L2 v38 v39 (IntKind.wrap .i64 (v40+1)) r85.2.1.1 r85.2.1.2 v43 v44 v45 v46 v47 v48 v49 v50 v51 v52 v53 v54 v55 r86.1.1.1 r86.1.1.2.1 r86.1.1.2.2.1 (g3 r86.1.1) (g4 r86.1.1) (g5 r86.1.1) (g6 r86.1.1) (g7 r86.1.1) (g8 r86.1.1) (g9 r86.1.1) (g10 r86.1.1) (g11 r86.1.1) (h12 r86.1.1)
    else
     Qkr v56 v57 v58 v59 v60 v61 v62 v63 v64 v65 v66 v67 v68 r81 L2 v38 v39 v40 v43 v44 v45 v46 v47 v48 v49 v50 v51 v52 v53 v54 v55
   else
    Option.bind (Qky r70.2.1 v38) fun r88=>
    Qkr v56 v57 v58 v59 v60 v61 v62 v63 v64 v65 v66 v67 v68 r88 L2 v38 v39 v40 v43 v44 v45 v46 v47 v48 v49 v50 v51 v52 v53 v54 v55
  else
   some (((v56,v57,v58,v59,v60,v61,v62,v63,v64,v65,v66,v67,v68),()),(r69.2.1,()))
 else
  some (((v56,v57,v58,v59,v60,v61,v62,v63,v64,v65,v66,v67,v68),()),((v41,v42),()))
noncomputable def Qpw (L1:Qwh) (p_0:(List Int) × Int) (id_1 most_2:Int):Option Qki:=
 Option.bind (Qk5 p_0 5) fun r1=>
 Option.bind (Qk5 r1.2.1 4) fun r2=>
 Option.bind (Qtd id_1 2 r1.1.1 r2.1.1) fun r3=>
 L1 id_1 most_2 0 r2.2.1.1 r2.2.1.2 0 0 0 0 0 0 0 0 0 0 0 [] [] r3.1.1.1 r3.1.1.2.1 r3.1.1.2.2.1 (g3 r3.1.1) (g4 r3.1.1) (g5 r3.1.1) (g7 r3.1.1) (g8 r3.1.1) (g9 r3.1.1) (g10 r3.1.1) (g11 r3.1.1) (g6 r3.1.1) (h12 r3.1.1)
noncomputable def Qmu (n:Nat):Nat→Qp1:=iter (fun _ _ _ _ _ _ _ _ _ _ _ _ _ _ _ _ _ _ _ _ _ _ _ _ _ _ _ _ _ _ _=>none) fun L=>Ql5 L
noncomputable def Qs3 (n:Nat):Nat→Qwh:=Qjg (fun _ _ _ _ _ _ _ _ _ _ _ _ _ _ _ _ _ _ _ _ _ _ _ _ _ _ _ _ _ _ _=>none) fun m L=>Qwj (Qmu n m)
noncomputable def Qsc (n m:Nat) (v4 v5 v6:Int) (v7:List Int) (v8 v9 v10 v11 v12 v13 v14 v15 v16 v17 v18 v19:Int) (v20:List Int) (v21:List Qlf) (v22 v23 v24 v25 v26 v27 v28 v29 v30 v31 v32:Int) (v33:List Int) (v34:List Qlf):Option Qki:=
 Qjv Qxf tab (fiB [.box 75 t74 [false,false],.val t2,.val t2] Qsa) n [.box 75 t74 [false,false],.val t2,.val t2] [⟨t30,(nF 13),none⟩] Tryz.f41 [1,1,0,1,0] [] [0,1,2,6,7,8] m
 ⟨[(0,V1 (.ptr (0,0) 0)),(1,Vp t2 v4),(2,Vp t2 v5),(6,V1 (.ptr (6,0) 0)),(7,V1 (.ptr (7,0) 0)),(8,Vp t2 v6)],[((0,0),Ob.box 75 [LV.pure t25 v7,LV.pure t2 v8]),((6,0),Ob.box 31 [LV.pure t2 v9,LV.pure t2 v10,LV.pure t2 v11,LV.pure t2 v12,LV.pure t2 v13,LV.pure t2 v14,LV.ref (6,7),LV.pure t2 v15,LV.pure t2 v16,LV.pure t2 v17,LV.pure t2 v18,LV.pure t2 v19,LV.ref (6,13)]),((6,7),Ob.row 3 t2 v20),((6,13),Ob.row 53 t52 v21),((7,0),Ob.box 31 [LV.pure t2 v22,LV.pure t2 v23,LV.pure t2 v24,LV.pure t2 v25,LV.pure t2 v26,LV.pure t2 v27,LV.ref (7,7),LV.pure t2 v28,LV.pure t2 v29,LV.pure t2 v30,LV.pure t2 v31,LV.pure t2 v32,LV.ref (7,13)]),((7,7),Ob.row 3 t2 v33),((7,13),Ob.row 53 t52 v34)]⟩
noncomputable def Qov (n m:Nat) (v38 v39 v40:Int) (v41:List Int) (v42 v43 v44 v45 v46 v47 v48 v49 v50 v51 v52 v53:Int) (v54:List Int) (v55:List Qlf) (v56 v57 v58 v59 v60 v61:Int) (v62:List Int) (v63 v64 v65 v66 v67:Int) (v68:List Qlf):Option Qki:=
 Qjv Qxf tab (fiB [.box 75 t74 [false,false],.val t2,.val t2] Qsa) n [.box 75 t74 [false,false],.val t2,.val t2] [⟨t30,(nF 13),none⟩] Tryz.f41 [1,1,0,1,0] [] [0,1,2,6,7,8] m
 ⟨[(0,V1 (.ptr (0,0) 0)),(1,Vp t2 v38),(2,Vp t2 v39),(6,V1 (.ptr (6,0) 0)),(7,V1 (.ptr (7,0) 0)),(8,Vp t2 v40)],[((0,0),Ob.box 75 [LV.pure t25 v41,LV.pure t2 v42]),((6,0),Ob.box 31 [LV.pure t2 v43,LV.pure t2 v44,LV.pure t2 v45,LV.pure t2 v46,LV.pure t2 v47,LV.pure t2 v48,LV.ref (6,7),LV.pure t2 v49,LV.pure t2 v50,LV.pure t2 v51,LV.pure t2 v52,LV.pure t2 v53,LV.ref (6,13)]),((6,7),Ob.row 3 t2 v54),((6,13),Ob.row 53 t52 v55),((7,0),Ob.box 31 [LV.pure t2 v56,LV.pure t2 v57,LV.pure t2 v58,LV.pure t2 v59,LV.pure t2 v60,LV.pure t2 v61,LV.pure t28 v62,LV.pure t2 v63,LV.pure t2 v64,LV.pure t2 v65,LV.pure t2 v66,LV.pure t2 v67,LV.pure t29 v68])]⟩
theorem Qvh (n:Nat):∀ m,Qov n m=Qmu n m
 | 0=>rfl
 | m+1=>by rw [show Qov n (m+1)=Ql5 (Qov n m) from by kernel_rfl,Qvh n m];rfl
theorem Z4t (n:Nat):∀ m,Qsc n m=Qs3 n m
 | 0=>rfl
 | m+1=>by rw [show Qsc n (m+1)=Qwj (Qov n m) from by kernel_rfl,Qvh n m];rfl
noncomputable def Qxd (n:Nat) (p_0:(List Int) × Int) (id_1 most_2:Int):Option Qki:=Qpw (Qs3 n n) p_0 id_1 most_2
noncomputable def Qud (p_0:(List Int) × Int) (id_1 most_2:Int):Option Qki:=Qxd 1099511627776 p_0 id_1 most_2
noncomputable def Z67:Ent:=⟨[.box 75 t74 [false,false],.val t2,.val t2],[⟨t30,(nF 13),none⟩],fun x=>Qud x.1 x.2.1 x.2.2.1⟩
theorem Z3d:GD 41 Z67:=fnl Qsa (fun n x=>Qxd n x.1 x.2.1 x.2.2.1) (Qjy Z35 (Qjy Qu0 (Qjy Ql9 (Qjy Qzp (Qjy Qu1 (Qjy Z7s (Qjy Z62 Qk3))))))) Tryz.func41 fun n x=>Eq.trans (b:=Qpw (Qsc n n) x.1 x.2.1 x.2.2.1) (by kernel_rfl) (by rw [Z4t n n];rfl)
noncomputable def Qnm (f_0:Int × Int × Qlh × Qlh × Qto × Int × Int) (top_1:Int):Option ((Z5u × Unit) × Unit):=
 bif decide (f_0.1>0) then
  bif decide (top_1≤1000000) then
   some (((u1 f_0 (if top_1>f_0.2.1 then top_1 else f_0.2.1)),()),())
  else
   some ((f_0,()),())
 else
  some ((f_0,()),())
noncomputable def Z18:Ent:=⟨[.val t36,.val t2],[⟨t36,(nF 7),none⟩],fun x=>Qnm x.1 x.2.1⟩
theorem Qpv:GD 66 Z18:=fnk 1 (fo [[1,2,4,9,10],[1,2,4,11],[2,4],[4]]) Qk3 Tryz.func66
noncomputable def Qtl (f_0:Int × Int × Qlh × Qlh × Qto × Int × Int) (next_1:Int):Option ((Z5u × Unit) × Unit):=
 bif decide (f_0.1>0) then
  Option.bind (Qnm f_0 (IntKind.wrap .i64 (next_1 - 1))) fun r1=>
  some ((r1.1.1,()),())
 else
 bif decide (next_1 ≥ 1) then
  bif decide (next_1≤1000000) then
   some (((next_1,f_0.2),()),())
  else
   some ((f_0,()),())
 else
  some ((f_0,()),())
noncomputable def Z0g:Ent:=⟨[.val t36,.val t2],[⟨t36,(nF 7),none⟩],fun x=>Qtl x.1 x.2.1⟩
theorem Z6g:GD 67 Z0g:=fnk 1 (fo [[1,2,4,15,16],[1,2,4,7,15,16],[4],[1,2,4,17],[2,4],[4]]) (Qjy Qpv Qk3) Tryz.func67
noncomputable def Ql1 (s_0:Int × Int):Option ((Bool × Unit) × Unit):=
 bif decide (s_0.1 ≥ 1) then
  bif decide (s_0.1≤s_0.2) then
   some ((decide (s_0.2≤1000000),()),())
  else
   some ((false,()),())
 else
  some ((false,()),())
noncomputable def Z93:Ent:=⟨[.val t34],[⟨t4,[false],none⟩],fun x=>Ql1 x.1⟩
theorem Qwc:GD 107 Z93:=fnk 1 (fo [[1,7,8,9,10,11,14,15,16],[2]]) Qk3 Tryz.func107
noncomputable def Qmq (l_0:List Qlw):Option ((Int × Unit) × Unit):=
 bif (l_0.length:Int)==0 then
  some ((0,()),())
 else
 bif decide (0<(l_0.length:Int)) then
  some (((List.getD l_0 0 (0,(⟨#[]⟩:ByteArray))).1,()),())
 else none
noncomputable def Z0x:Ent:=⟨[.val t32],[⟨t2,[false],none⟩],fun x=>Qmq x.1⟩
theorem Qx9:GD 168 Z0x:=fnk 1 (fo [[0],[0,5],[2],[2]]) Qk3 Tryz.func168
noncomputable def Qon (l_0:List Qtb) (lo_1 hi_2 why_3:Int):Option ((Qto × Unit) × Unit):=
 bif Nat.ble (0+l_0.length) 1073741824 then
  bif Nat.ble (([]++l_0).length+1) 1073741824 then
   some ((([]++l_0)++[(2,lo_1,hi_2,(⟨#[]⟩:ByteArray),why_3)],()),())
  else none
 else none
noncomputable def Z2m:Ent:=⟨[.val t33,.val t2,.val t2,.val t2],[⟨t33,[true],none⟩],fun x=>Qon x.1 x.2.1 x.2.2.1 x.2.2.2.1⟩
theorem Z7n:GD 169 Z2m:=fnk 1 (fo [[0,1,2,3],[8]]) Qk3 Tryz.func169
noncomputable def Qnp (l_0:List Qlw) (next_1:Int):Option ((Qlh × Qlw × Bool × Unit) × Unit):=
 bif (l_0.length:Int)==0 then
  some ((l_0,(0,(⟨#[]⟩:ByteArray)),false,()),())
 else
 bif decide (0<(l_0.length:Int)) then
  bif ((List.getD l_0 0 (0,(⟨#[]⟩:ByteArray))).1) != next_1 then
   some ((l_0,(0,(⟨#[]⟩:ByteArray)),false,()),())
  else
  bif decide (1≤(l_0.length:Int))&&decide ((l_0.length:Int)≤(l_0.length:Int)) then
   bif Nat.ble (0+(List.drop 1 (List.take ((l_0.length:Int).toNat) l_0)).length) 1073741824 then
    bif decide (0<(l_0.length:Int)) then
     some (([]++(List.drop 1 (List.take ((l_0.length:Int).toNat) l_0)),(List.getD l_0 0 (0,(⟨#[]⟩:ByteArray))),true,()),())
    else none
   else none
  else none
 else none
noncomputable def Qyj:Ent:=⟨[.val t32,.val t2],[⟨t32,[false],none⟩,⟨t58,[false,false],none⟩,⟨t4,[false],none⟩],fun x=>Qnp x.1 x.2.1⟩
theorem Z4c:GD 170 Qyj:=fnk 1 (fo [[0,1,5,11,12,13,14,15,16],[0,5,17],[4,5,6],[4,5,6]]) Qk3 Tryz.func170
noncomputable def Qsd (l_0:List Qtb) (seq_1:Int) (text_2:ByteArray):Option ((Qto × Unit) × Unit):=
 bif Nat.ble (0+l_0.length) 1073741824 then
  bif Nat.ble (([]++l_0).length+1) 1073741824 then
   some ((([]++l_0)++[(1,seq_1,seq_1,text_2,0)],()),())
  else none
 else none
noncomputable def Z2u:Ent:=⟨[.val t33,.val t2,.val t9],[⟨t33,[true],none⟩],fun x=>Qsd x.1 x.2.1 x.2.2.1⟩
theorem Z7z:GD 132 Z2u:=fnk 1 (fo [[0,1,2],[6]]) Qk3 Tryz.func132
noncomputable def Qpq (l_0:List Qlw) (i_1:Int × ByteArray):Option ((Qlh × Unit) × Unit):=
 bif Nat.ble (([]++l_0).length+1) 1073741824 then
  bif decide (((([]++l_0)++[i_1]).length:Int)>6) then
   bif decide (1≤((([]++l_0)++[i_1]).length:Int))&&decide (((([]++l_0)++[i_1]).length:Int)≤((([]++l_0)++[i_1]).length:Int)) then
    some ((List.drop 1 (List.take (((([]++l_0)++[i_1]).length:Int).toNat) (([]++l_0)++[i_1])),()),())
   else none
  else
   some ((([]++l_0)++[i_1],()),())
 else none
noncomputable def Qpi (l_0:List Qlw) (i_1:Int × ByteArray):Option ((Qlh × Unit) × Unit):=
 bif Nat.ble (0+l_0.length) 1073741824 then
  bif decide ((l_0.length:Int)>0) then
   bif decide (0≤IntKind.wrap .i64 ((l_0.length:Int) - 1))&&decide (IntKind.wrap .i64 ((l_0.length:Int) - 1)<(l_0.length:Int)) then
    bif decide ((List.getD l_0 ((IntKind.wrap .i64 ((l_0.length:Int) - 1)).toNat) (0,(⟨#[]⟩:ByteArray))).1 ≥ i_1.1) then
     some (([]++l_0,()),())
    else
     Qpq l_0 i_1
   else none
  else
   Qpq l_0 i_1
 else none
noncomputable def Qy4:Ent:=⟨[.val t32,.val t58],[⟨t32,[false],none⟩],fun x=>Qpi x.1 x.2.1⟩
theorem Z3o:GD 133 Qy4:=fnk 1 (fo [[0,3,13,14,15,16,17,18,19,20,21,22],[0,3,5,13,14,15,16,17,18,19,20,21,22],[3,5,23],[4],[5],[5,31],[5],[4]]) Qk3 Tryz.func133
abbrev Qle:Type:=(Z5u × Qlh × Unit) × Unit
noncomputable def Z2g:Ctx:=[(132,Z2u),(133,Qy4),(170,Qyj)]
def Qv9:Fi:={ keep:=[],vty:=[(4,32)],vals:=[],live:=[(0,[1,2]),(1,[1,2,4]),(2,[1,2,4,5,6,7]),(3,[1,2,4,5,6,18]),(4,[2,3]),(5,[1,2,4,6]),(6,[1,2,4,6]),(7,[1,2,4])] }
abbrev Z1b:Type:=Int→Int→Qlh→Qlh→Qto→Int→Int→Int→Int→Int→Int→Qlh→Qlh→Qto→Qlh→Option Qle
abbrev Qv0:Type:=Int→Int→Qlh→Qlh→Int→Int→Qto→Int→Int→Int→Int→Qlh→Qlh→Qto→Qlh→Option Qle
noncomputable def Z13 (L2:Qv0) (v1 v2:Int) (v3 v4:List Qlw) (v5:List Qtb) (v6 v7 v8 v9 v10 v11:Int) (v12 v13:List Qlw) (v14:List Qtb) (v15:List Qlw):Option Qle:=
 Option.bind (Qnp v4 v1) fun r16=>
 bif !r16.1.2.2.1 then
  some (((v1,v2,v3,v4,v5,v6,v7),v15,()),())
 else
  Option.bind (Qsd v5 r16.1.2.1.1 r16.1.2.1.2) fun r17=>
  Option.bind (Qpi v3 r16.1.2.1) fun r18=>
  bif Nat.ble (v15.length+1) 1073741824 then
   L2 (IntKind.wrap .i64 (v1+1)) v2 r18.1.1 r16.1.1 0 0 r17.1.1 v8 v9 v10 v11 v12 v13 v14 (v15++[r16.1.2.1])
  else none
noncomputable def Qpm (L2:Qv0) (v19 v20:Int) (v21 v22:List Qlw) (v23 v24:Int) (v25:List Qtb) (v26 v27 v28 v29:Int) (v30 v31:List Qlw) (v32:List Qtb) (v33:List Qlw):Option Qle:=
 Option.bind (Qnp v22 v19) fun r34=>
 bif !r34.1.2.2.1 then
  some (((v19,v20,v21,v22,v25,v23,v24),v33,()),())
 else
  Option.bind (Qsd v25 r34.1.2.1.1 r34.1.2.1.2) fun r35=>
  Option.bind (Qpi v21 r34.1.2.1) fun r36=>
  bif Nat.ble (v33.length+1) 1073741824 then
   L2 (IntKind.wrap .i64 (v19+1)) v20 r36.1.1 r34.1.1 0 0 r35.1.1 v26 v27 v28 v29 v30 v31 v32 (v33++[r34.1.2.1])
  else none
noncomputable def Z2a (L1:Z1b) (f_0:Int × Int × Qlh × Qlh × Qto × Int × Int):Option Qle:=
 L1 f_0.1 f_0.2.1 f_0.2.2.1 (g3 f_0) (g4 f_0) (g5 f_0) (h6 f_0) 0 0 0 0 [] [] [] []
noncomputable def Qmi (n:Nat):Nat→Qv0:=iter (fun _ _ _ _ _ _ _ _ _ _ _ _ _ _ _=>none) fun L=>Qpm L
noncomputable def Qrq (n:Nat):Nat→Z1b:=Qjg (fun _ _ _ _ _ _ _ _ _ _ _ _ _ _ _=>none) fun m L=>Z13 (Qmi n m)
noncomputable def Qv2 (n m:Nat) (v1 v2:Int) (v3 v4:List Qlw) (v5:List Qtb) (v6 v7 v8 v9 v10 v11:Int) (v12 v13:List Qlw) (v14:List Qtb) (v15:List Qlw):Option Qle:=
 Qjv Z2g tab (fiB [.val t36] Qv9) n [.val t36] [⟨t36,(nF 7),none⟩,⟨t32,[true],none⟩] Tryz.f130 [1,1,0] [] [1,2,4] m
 ⟨[(1,V1 (.ptr (1,0) 0)),(2,V1 (.ptr (2,0) 0)),(4,V1 (.ref (888888,4)))],[((1,0),Ob.box 37 [LV.pure t2 v1,LV.pure t2 v2,LV.pure t32 v3,LV.pure t32 v4,LV.pure t33 v5,LV.pure t2 v6,LV.pure t2 v7]),((2,0),Ob.box 37 [LV.pure t2 v8,LV.pure t2 v9,LV.ref (2,3),LV.ref (2,4),LV.ref (2,5),LV.pure t2 v10,LV.pure t2 v11]),((2,3),Ob.row 59 t58 v12),((2,4),Ob.row 59 t58 v13),((2,5),Ob.row 55 t54 v14),((888888,4),Ob.row 59 t58 v15)]⟩
noncomputable def Qs8 (n m:Nat) (v19 v20:Int) (v21 v22:List Qlw) (v23 v24:Int) (v25:List Qtb) (v26 v27 v28 v29:Int) (v30 v31:List Qlw) (v32:List Qtb) (v33:List Qlw):Option Qle:=
 Qjv Z2g tab (fiB [.val t36] Qv9) n [.val t36] [⟨t36,(nF 7),none⟩,⟨t32,[true],none⟩] Tryz.f130 [1,1,0] [] [1,2,4] m
 ⟨[(1,V1 (.ptr (1,0) 0)),(2,V1 (.ptr (2,0) 0)),(4,V1 (.ref (888888,4)))],[((1,0),Ob.box 37 [LV.pure t2 v19,LV.pure t2 v20,LV.pure t32 v21,LV.pure t32 v22,LV.ref (1,5),LV.pure t2 v23,LV.pure t2 v24]),((1,5),Ob.row 55 t54 v25),((2,0),Ob.box 37 [LV.pure t2 v26,LV.pure t2 v27,LV.ref (2,3),LV.ref (2,4),LV.ref (2,5),LV.pure t2 v28,LV.pure t2 v29]),((2,3),Ob.row 59 t58 v30),((2,4),Ob.row 59 t58 v31),((2,5),Ob.row 55 t54 v32),((888888,4),Ob.row 59 t58 v33)]⟩
theorem Qzh (n:Nat):∀ m,Qs8 n m=Qmi n m
 | 0=>rfl
 | m+1=>by rw [show Qs8 n (m+1)=Qpm (Qs8 n m) from by kernel_rfl,Qzh n m];rfl
theorem Z9b (n:Nat):∀ m,Qv2 n m=Qrq n m
 | 0=>rfl
 | m+1=>by rw [show Qv2 n (m+1)=Z13 (Qs8 n m) from by kernel_rfl,Qzh n m];rfl
noncomputable def Z27 (n:Nat) (f_0:Int × Int × Qlh × Qlh × Qto × Int × Int):Option Qle:=Z2a (Qrq n n) f_0
noncomputable def Ql8 (f_0:Int × Int × Qlh × Qlh × Qto × Int × Int):Option Qle:=Z27 1099511627776 f_0
noncomputable def Z2k:Ent:=⟨[.val t36],[⟨t36,(nF 7),none⟩,⟨t32,[true],none⟩],fun x=>Ql8 x.1⟩
theorem Qq0:GD 130 Z2k:=fnl Qv9 (fun n x=>Z27 n x.1) (Qjy Z7z (Qjy Z3o (Qjy Z4c Qk3))) Tryz.func130 fun n x=>Eq.trans (b:=Z2a (Qv2 n n) x.1) (by kernel_rfl) (by rw [Z9b n n];rfl)
abbrev Qkl:Type:=(Z5u × Zgs × Unit) × Unit
noncomputable def Z0k:Ctx:=[(130,Z2k),(168,Z0x),(169,Z2m)]
def Qu5:Fi:={ keep:=[],vty:=[(8,146)],vals:=[(3,5)],live:=[(0,[1,2,3,6,14,15,30,31,32,33,34]),(1,[1,2,3,6,8,14,15,30,31,32,33,34]),(2,[1,2,3,6,8,16,30,31,32,33,34]),(3,[6,7]),(4,[1,2,3,6,8,21,30,31,32,33,34]),(5,[1,2,3,6,8,30,31,32,33,34]),(6,[1,2,3,6,8,9,30,31,32,33,34]),(7,[1,2,3,6,8,9,30,31,32,33,34,35]),(8,[1,2,3,6,8,9,30,31,32,33,34]),(9,[1,2,3,6,8,9,30,31,32,33,34,43]),(10,[1,2,3,6,8,9,30,31,32,33,34]),(11,[1,2,3,6,8,9,30,31,32,33,34]),(12,[1,2,3,6,8,30,31,32,33,34]),(13,[1,2,3,6,8,30,31,32,33,34,65]),(14,[1,2,3,6,8,30,31,32,33,34]),(15,[6,7])] }
abbrev Qz6:Type:=Int→Int→Bool→Int→Int→Qlh→Qlh→Qto→Int→Int→Int→Int→Int→Int→Qlh→Qlh→Qto→Zgs→Option Qkl
abbrev Qop:Type:=Int→Int→Int→Int→Qlh→Qlh→Qto→Int→Int→Int→Int→Int→Int→Qlh→Qlh→Qto→Zgs→Option Qkl
noncomputable def Qr3 (v4 v1 v5:Int) (v6 v7:List Qlw) (v8:List Qtb) (L2:Qop) (v2 v11 v12 v13 v14:Int) (v15 v16:List Qlw) (v17:List Qtb) (v18:List (Int × Int)):Option Qkl:=
 bif decide (v4≤v1) then
  Option.bind (Ql8 (v4,v5,v6,v7,v8,0,0)) fun r51=>
  L2 v1 v2 r51.1.1.1 r51.1.1.2.1 r51.1.1.2.2.1 (g3 r51.1.1) (g4 r51.1.1) (g5 r51.1.1) (h6 r51.1.1) v11 v12 v13 v14 v15 v16 v17 v18
 else
  L2 v1 v2 v4 v5 v6 v7 v8 0 0 v11 v12 v13 v14 v15 v16 v17 v18
noncomputable def Qn0 (v1 v4:Int) (v8:List Qtb) (v2:Int) (v18:List (Int × Int)) (v5:Int) (v6 v7:List Qlw) (L2:Qop) (v11 v12 v13 v14:Int) (v15 v16:List Qlw) (v17:List Qtb):Option Qkl:=
 bif decide (v1 ≥ v4) then
  Option.bind (Qon v8 v4 v1 v2) fun r52=>
  bif Nat.ble (v18.length+1) 1073741824 then
   bif decide (IntKind.wrap .i64 (v1+1)≤v1) then
    Option.bind (Ql8 (IntKind.wrap .i64 (v1+1),v5,v6,v7,r52.1.1,0,0)) fun r53=>
    L2 v1 v2 r53.1.1.1 r53.1.1.2.1 r53.1.1.2.2.1 (g3 r53.1.1) (g4 r53.1.1) (g5 r53.1.1) (h6 r53.1.1) v11 v12 v13 v14 v15 v16 v17 (v18++[(v4,v1)])
   else
    L2 v1 v2 (IntKind.wrap .i64 (v1+1)) v5 v6 v7 r52.1.1 0 0 v11 v12 v13 v14 v15 v16 v17 (v18++[(v4,v1)])
  else none
 else
  Qr3 v4 v1 v5 v6 v7 v8 L2 v2 v11 v12 v13 v14 v15 v16 v17 v18
noncomputable def Qzb (L2:Qop) (v1 v2:Int) (v3:Bool) (v4 v5:Int) (v6 v7:List Qlw) (v8:List Qtb) (v9 v10 v11 v12 v13 v14:Int) (v15 v16:List Qlw) (v17:List Qtb) (v18:List (Int × Int)):Option Qkl:=
 bif decide (v4≤v1) then
  bif decide ((v7.length:Int)>0) then
   Option.bind (Qmq v7) fun r19=>
   bif decide (r19.1.1≤v1) then
    Option.bind (Qmq v7) fun r20=>
    bif decide (IntKind.wrap .i64 (r20.1.1 - 1) ≥ v4) then
     Option.bind (Qon v8 v4 (IntKind.wrap .i64 (r20.1.1 - 1)) v2) fun r21=>
     bif Nat.ble (v18.length+1) 1073741824 then
      bif decide (IntKind.wrap .i64 ((IntKind.wrap .i64 (r20.1.1 - 1))+1)≤v1) then
       Option.bind (Ql8 (IntKind.wrap .i64 ((IntKind.wrap .i64 (r20.1.1 - 1))+1),v5,v6,v7,r21.1.1,0,0)) fun r22=>
       L2 v1 v2 r22.1.1.1 r22.1.1.2.1 r22.1.1.2.2.1 (g3 r22.1.1) (g4 r22.1.1) (g5 r22.1.1) (h6 r22.1.1) v11 v12 v13 v14 v15 v16 v17 (v18++[(v4,IntKind.wrap .i64 (r20.1.1 - 1))])
      else
       L2 v1 v2 (IntKind.wrap .i64 ((IntKind.wrap .i64 (r20.1.1 - 1))+1)) v5 v6 v7 r21.1.1 0 0 v11 v12 v13 v14 v15 v16 v17 (v18++[(v4,IntKind.wrap .i64 (r20.1.1 - 1))])
     else none
    else
     Qr3 v4 v1 v5 v6 v7 v8 L2 v2 v11 v12 v13 v14 v15 v16 v17 v18
   else
    Qn0 v1 v4 v8 v2 v18 v5 v6 v7 L2 v11 v12 v13 v14 v15 v16 v17
  else
   Qn0 v1 v4 v8 v2 v18 v5 v6 v7 L2 v11 v12 v13 v14 v15 v16 v17
 else
  some (((v4,v5,v6,v7,v8,v9,v10),v18,()),())
noncomputable def Qn1 (L2:Qop) (v23 v24 v25 v26:Int) (v27 v28:List Qlw) (v29:List Qtb) (v30 v31 v32 v33 v34 v35:Int) (v36 v37:List Qlw) (v38:List Qtb) (v39:List (Int × Int)):Option Qkl:=
 bif decide (v25≤v23) then
  bif decide ((v28.length:Int)>0) then
   Option.bind (Qmq v28) fun r40=>
   bif decide (r40.1.1≤v23) then
    Option.bind (Qmq v28) fun r41=>
    bif decide (IntKind.wrap .i64 (r41.1.1 - 1) ≥ v25) then
     Option.bind (Qon v29 v25 (IntKind.wrap .i64 (r41.1.1 - 1)) v24) fun r42=>
     bif Nat.ble (v39.length+1) 1073741824 then
      bif decide (IntKind.wrap .i64 ((IntKind.wrap .i64 (r41.1.1 - 1))+1)≤v23) then
       Option.bind (Ql8 (IntKind.wrap .i64 ((IntKind.wrap .i64 (r41.1.1 - 1))+1),v26,v27,v28,r42.1.1,0,0)) fun r43=>
       L2 v23 v24 r43.1.1.1 r43.1.1.2.1 r43.1.1.2.2.1 (g3 r43.1.1) (g4 r43.1.1) (g5 r43.1.1) (h6 r43.1.1) v32 v33 v34 v35 v36 v37 v38 (v39++[(v25,IntKind.wrap .i64 (r41.1.1 - 1))])
      else
       L2 v23 v24 (IntKind.wrap .i64 ((IntKind.wrap .i64 (r41.1.1 - 1))+1)) v26 v27 v28 r42.1.1 0 0 v32 v33 v34 v35 v36 v37 v38 (v39++[(v25,IntKind.wrap .i64 (r41.1.1 - 1))])
     else none
    else
     Qr3 v25 v23 v26 v27 v28 v29 L2 v24 v32 v33 v34 v35 v36 v37 v38 v39
   else
    Qn0 v23 v25 v29 v24 v39 v26 v27 v28 L2 v32 v33 v34 v35 v36 v37 v38
  else
   Qn0 v23 v25 v29 v24 v39 v26 v27 v28 L2 v32 v33 v34 v35 v36 v37 v38
 else
  some (((v25,v26,v27,v28,v29,v30,v31),v39,()),())
noncomputable def Qrz (L1:Qz6) (f_0:Int × Int × Qlh × Qlh × Qto × Int × Int) (hi_1 why_2:Int):Option Qkl:=
 bif decide (f_0.1<1) then
  some ((f_0,[],()),())
 else
 bif decide (hi_1>1000000) then
  some ((f_0,[],()),())
 else
  L1 hi_1 why_2 (decide (hi_1>1000000)) f_0.1 f_0.2.1 f_0.2.2.1 (g3 f_0) (g4 f_0) (g5 f_0) (h6 f_0) 0 0 0 0 [] [] [] []
noncomputable def Qmz (n:Nat):Nat→Qop:=iter (fun _ _ _ _ _ _ _ _ _ _ _ _ _ _ _ _ _=>none) fun L=>Qn1 L
noncomputable def Qoq (n:Nat):Nat→Qz6:=Qjg (fun _ _ _ _ _ _ _ _ _ _ _ _ _ _ _ _ _ _=>none) fun m L=>Qzb (Qmz n m)
noncomputable def Qu8 (n m:Nat) (v1 v2:Int) (v3:Bool) (v4 v5:Int) (v6 v7:List Qlw) (v8:List Qtb) (v9 v10 v11 v12 v13 v14:Int) (v15 v16:List Qlw) (v17:List Qtb) (v18:List (Int × Int)):Option Qkl:=
 Qjv Z0k tab (fiB [.val t36,.val t2,.val t2] Qu5) n [.val t36,.val t2,.val t2] [⟨t36,(nF 7),none⟩,⟨Zpc,[true],none⟩] Tryz.f129 [1,1,1,0,0] [] [1,2,3,6,8,16] m
 ⟨[(1,Vp t2 v1),(2,Vp t2 v2),(3,V1 (.ptr (3,0) 0)),(6,V1 (.ptr (6,0) 0)),(8,V1 (.ref (888888,8))),(16,Vp t4 v3)],[((3,0),Ob.box 37 [LV.pure t2 v4,LV.pure t2 v5,LV.pure t32 v6,LV.pure t32 v7,LV.pure t33 v8,LV.pure t2 v9,LV.pure t2 v10]),((6,0),Ob.box 37 [LV.pure t2 v11,LV.pure t2 v12,LV.ref (6,3),LV.ref (6,4),LV.ref (6,5),LV.pure t2 v13,LV.pure t2 v14]),((6,3),Ob.row 59 t58 v15),((6,4),Ob.row 59 t58 v16),((6,5),Ob.row 55 t54 v17),((888888,8),Ob.row 100 t34 v18)]⟩
noncomputable def Qqu (n m:Nat) (v23 v24 v25 v26:Int) (v27 v28:List Qlw) (v29:List Qtb) (v30 v31 v32 v33 v34 v35:Int) (v36 v37:List Qlw) (v38:List Qtb) (v39:List (Int × Int)):Option Qkl:=
 Qjv Z0k tab (fiB [.val t36,.val t2,.val t2] Qu5) n [.val t36,.val t2,.val t2] [⟨t36,(nF 7),none⟩,⟨Zpc,[true],none⟩] Tryz.f129 [1,1,1,0,0] [] [1,2,3,6,8,16] m
 ⟨[(1,Vp t2 v23),(2,Vp t2 v24),(3,V1 (.ptr (3,0) 0)),(6,V1 (.ptr (6,0) 0)),(8,V1 (.ref (888888,8)))],[((3,0),Ob.box 37 [LV.pure t2 v25,LV.pure t2 v26,LV.pure t32 v27,LV.pure t32 v28,LV.pure t33 v29,LV.pure t2 v30,LV.pure t2 v31]),((6,0),Ob.box 37 [LV.pure t2 v32,LV.pure t2 v33,LV.ref (6,3),LV.ref (6,4),LV.ref (6,5),LV.pure t2 v34,LV.pure t2 v35]),((6,3),Ob.row 59 t58 v36),((6,4),Ob.row 59 t58 v37),((6,5),Ob.row 55 t54 v38),((888888,8),Ob.row 100 t34 v39)]⟩
theorem Qyg (n:Nat):∀ m,Qqu n m=Qmz n m
 | 0=>rfl
 | m+1=>by rw [show Qqu n (m+1)=Qn1 (Qqu n m) from by kernel_rfl,Qyg n m];rfl
theorem Z6t (n:Nat):∀ m,Qu8 n m=Qoq n m
 | 0=>rfl
 | m+1=>by rw [show Qu8 n (m+1)=Qzb (Qqu n m) from by kernel_rfl,Qyg n m];rfl
noncomputable def Z0w (n:Nat) (f_0:Int × Int × Qlh × Qlh × Qto × Int × Int) (hi_1 why_2:Int):Option Qkl:=Qrz (Qoq n n) f_0 hi_1 why_2
noncomputable def Qtp (f_0:Int × Int × Qlh × Qlh × Qto × Int × Int) (hi_1 why_2:Int):Option Qkl:=Z0w 1099511627776 f_0 hi_1 why_2
noncomputable def Za7:Ent:=⟨[.val t36,.val t2,.val t2],[⟨t36,(nF 7),none⟩,⟨Zpc,[true],none⟩],fun x=>Qtp x.1 x.2.1 x.2.2.1⟩
theorem Qwy:GD 129 Za7:=fnl Qu5 (fun n x=>Z0w n x.1 x.2.1 x.2.2.1) (Qjy Qq0 (Qjy Qx9 (Qjy Z7n Qk3))) Tryz.func129 fun n x=>Eq.trans (b:=Qrz (Qu8 n n) x.1 x.2.1 x.2.2.1) (by kernel_rfl) (by rw [Z6t n n];rfl)
noncomputable def Qtm (f_0:Int × Int × Qlh × Qlh × Qto × Int × Int) (lo_1 hi_2:Int):Option ((Z5u × Unit) × Unit):=
 bif f_0.1==0 then
  some ((f_0,()),())
 else
  Option.bind (Ql1 (lo_1,hi_2)) fun r1=>
  bif !r1.1.1 then
   some ((f_0,()),())
  else
   Option.bind (Qnm f_0 hi_2) fun r2=>
   bif decide (r2.1.1.1<lo_1) then
    some ((r2.1.1,()),())
   else
   bif decide (r2.1.1.1>hi_2) then
    some ((r2.1.1,()),())
   else
    Option.bind (Qtp r2.1.1 hi_2 1) fun r3=>
    Option.bind (Ql8 r3.1.1) fun r4=>
    some ((r4.1.1,()),())
noncomputable def Z14:Ent:=⟨[.val t36,.val t2,.val t2],[⟨t36,(nF 7),none⟩],fun x=>Qtm x.1 x.2.1 x.2.2.1⟩
theorem Z6k:GD 69 Z14:=fnk 1 (fo [[1,2,3,6,11,12,13,14,15,26,27,28,29],[1,2,3,6,16,26,27,28,29],[6],[1,2,3,6,26,27,28,29],[2,3,6,30],[6],[3,6],[3,6],[6]]) (Qjy Qpv (Qjy Qwc (Qjy Qwy (Qjy Qq0 Qk3)))) Tryz.func69
noncomputable def Qtr (f_0:Int × Int × Qlh × Qlh × Qto × Int × Int):Option (((Int × Int) × Bool × Unit) × Unit):=
 bif decide (((g3 f_0).length:Int)>0) then
  Option.bind (Qmq (g3 f_0)) fun r1=>
  bif f_0.1==0 then
   some (((0,0),false,()),())
  else
  bif decide (IntKind.wrap .i64 (r1.1.1 - 1)<f_0.1) then
   some (((0,0),false,()),())
  else
   some (((f_0.1,IntKind.wrap .i64 (r1.1.1 - 1)),true,()),())
 else
 bif f_0.1==0 then
  some (((0,0),false,()),())
 else
 bif decide (f_0.2.1<f_0.1) then
  some (((0,0),false,()),())
 else
  some (((f_0.1,f_0.2.1),true,()),())
noncomputable def Za6:Ent:=⟨[.val t36],[⟨t34,[false,false],none⟩,⟨t4,[false],none⟩],fun x=>Qtr x.1⟩
theorem Z6f:GD 127 Za6:=fnk 1 (fo [[1,2,19,20,21,22],[1,2,4,19,20,21,22],[1,2,4,10,19,20,21,22],[1,2,4,19,20,21,22],[1,2,4,23],[2,3],[2,3]]) (Qjy Qx9 Qk3) Tryz.func127
noncomputable def Qxw (a_0:Int × Int) (now_1:Int):Option ((Bool × Unit) × Unit):=
 bif a_0.1==0 then
  some ((true,()),())
 else
  some ((decide (now_1 ≥ a_0.2),()),())
noncomputable def Zeh:Ent:=⟨[.val t34,.val t2],[⟨t4,[false],none⟩],fun x=>Qxw x.1 x.2.1⟩
theorem Zac:GD 128 Zeh:=fnk 1 (fo [[1,2,9,10,11,12],[4]]) Qk3 Tryz.func128
abbrev Qoc:Type:=((Int × Int) × Unit) × Unit
noncomputable def Zcb:Ctx:=[]
def Z19:Fi:=fo [[1,2,4,12,13],[1,2,4,5,12,13],[1,2,4,5,6,12,13],[1,2,4,5,6,12,13,14],[1,2,4,5,6,12,13],[1,2,4,5,6,12,13],[4]]
abbrev Qv3:Type:=Int→Int→Int→Int→Int→Int→Int→Option Qoc
noncomputable def Qs7 (L1:Qv3) (v1 v2 v3 v4 v5 v6 v7:Int):Option Qoc:=
 bif decide (v3<v4) then
  bif decide (v3<3) then
   L1 v1 (IntKind.wrap .i64 (v2*2)) (IntKind.wrap .i64 (v3+1)) v4 v5 v6 v7
  else
   some (((IntKind.wrap .i64 (v4+1),IntKind.wrap .i64 (v1+v2)),()),())
 else
  some (((IntKind.wrap .i64 (v4+1),IntKind.wrap .i64 (v1+v2)),()),())
noncomputable def Z28 (L1:Qv3) (a_0:Int × Int) (now_1:Int):Option Qoc:=
 L1 now_1 2 0 a_0.1 a_0.2 0 0
noncomputable def Qnl (n:Nat):Nat→Qv3:=iter (fun _ _ _ _ _ _ _=>none) fun L=>Qs7 L
noncomputable def Qrw (n m:Nat) (v1 v2 v3 v4 v5 v6 v7:Int):Option Qoc:=
 Qjv Zcb tab (fiB [.val t34,.val t2] Z19) n [.val t34,.val t2] [⟨t34,[false,false],none⟩] Tryz.f131 [1,1,0,1,0] [] [1,2,4,5,6] m
 ⟨[(1,Vp t2 v1),(2,V1 (.ptr (2,0) 0)),(4,V1 (.ptr (4,0) 0)),(5,Vp t2 v2),(6,Vp t2 v3)],[((2,0),Ob.box 35 [LV.pure t2 v4,LV.pure t2 v5]),((4,0),Ob.box 35 [LV.pure t2 v6,LV.pure t2 v7])]⟩
theorem Qzc (n:Nat):∀ m,Qrw n m=Qnl n m
 | 0=>rfl
 | m+1=>by rw [show Qrw n (m+1)=Qs7 (Qrw n m) from by kernel_rfl,Qzc n m];rfl
noncomputable def Z32 (n:Nat) (a_0:Int × Int) (now_1:Int):Option Qoc:=Z28 (Qnl n n) a_0 now_1
noncomputable def Qyo (a_0:Int × Int) (now_1:Int):Option Qoc:=Z32 1099511627776 a_0 now_1
noncomputable def Zbk:Ent:=⟨[.val t34,.val t2],[⟨t34,[false,false],none⟩],fun x=>Qyo x.1 x.2.1⟩
theorem Z7w:GD 131 Zbk:=fnl Z19 (fun n x=>Z32 n x.1 x.2.1) Qk3 Tryz.func131 fun n x=>Eq.trans (b:=Z28 (Qrw n n) x.1 x.2.1) (by kernel_rfl) (by rw [Qzc n n];rfl)
noncomputable def Quw (f_0:Int × Int × Qlh × Qlh × Qto × Int × Int) (now_1:Int):Option ((Z5u × (Int × Int) × Bool × Unit) × Unit):=
 Option.bind (Qtr f_0) fun r1=>
 bif !r1.1.2.1 then
  some ((f_0,(0,0),false,()),())
 else
  Option.bind (Qxw (h5 f_0) now_1) fun r2=>
  bif !r2.1.1 then
   some ((f_0,(0,0),false,()),())
  else
  bif decide ((g5 f_0) ≥ 3) then
   Option.bind (Qtp f_0 r1.1.1.2 2) fun r3=>
   Option.bind (Ql8 r3.1.1) fun r4=>
   some ((r4.1.1,(0,0),false,()),())
  else
   Option.bind (Qyo (h5 f_0) now_1) fun r5=>
   some (((e5 f_0 r5.1.1),r1.1.1,true,()),())
noncomputable def Z1s:Ent:=⟨[.val t36,.val t2],[⟨t36,(nF 7),none⟩,⟨t34,[false,false],none⟩,⟨t4,[false],none⟩],fun x=>Quw x.1 x.2.1⟩
theorem Z6v:GD 61 Z1s:=fnk 1 (fo [[1,2,4,5,17,18,19,20,21],[1,2,4,5,7,8,17,18,19,20,21],[1,2,4,5,7,22],[4,5,6],[1,2,4,5,7,28],[2,4,5],[2,4,5],[4,5,6],[2,4,5,7],[4,5,6]]) (Qjy Z6f (Qjy Zac (Qjy Qwy (Qjy Qq0 (Qjy Z7w Qk3))))) Tryz.func61
abbrev Qpe:Type:=(ByteArray × Bool × Unit) × Unit
noncomputable def Zcy:Ctx:=[]
def Z2b:Fi:=fo [[0,1],[0,1,6],[0,1,6,10],[0,1,6],[0,1,6,19],[4,5],[4,5]]
abbrev Qw8:Type:=Qlh→Int→Int→Option Qpe
noncomputable def Qo8 (L1:Qw8) (v1:List Qlw) (v2 v3:Int):Option Qpe:=
 bif decide (v3<(v1.length:Int)) then
  bif decide (0≤v3)&&decide (v3<(v1.length:Int)) then
   bif ((List.getD v1 v3.toNat (0,(⟨#[]⟩:ByteArray))).1)==v2 then
    bif decide (0≤v3)&&decide (v3<(v1.length:Int)) then
     some (((List.getD v1 v3.toNat (0,(⟨#[]⟩:ByteArray))).2,true,()),())
    else none
   else
    L1 v1 v2 (IntKind.wrap .i64 (v3+1))
  else none
 else
  some (((⟨#[]⟩:ByteArray),false,()),())
noncomputable def Z4n (L1:Qw8) (l_0:List Qlw) (seq_1:Int):Option Qpe:=
 L1 l_0 seq_1 0
noncomputable def Qq3 (n:Nat):Nat→Qw8:=iter (fun _ _ _=>none) fun L=>Qo8 L
noncomputable def Qsu (n m:Nat) (v1:List Qlw) (v2 v3:Int):Option Qpe:=
 Qjv Zcy tab (fiB [.val t32,.val t2] Z2b) n [.val t32,.val t2] [⟨t9,[false],none⟩,⟨t4,[false],none⟩] Tryz.f172 [1,0,1,0] [] [0,1,6] m
 ⟨[(0,Vp t32 v1),(1,Vp t2 v2),(6,Vp t2 v3)],[]⟩
theorem Z1l (n:Nat):∀ m,Qsu n m=Qq3 n m
 | 0=>rfl
 | m+1=>by rw [show Qsu n (m+1)=Qo8 (Qsu n m) from by kernel_rfl,Z1l n m];rfl
noncomputable def Z4m (n:Nat) (l_0:List Qlw) (seq_1:Int):Option Qpe:=Z4n (Qq3 n n) l_0 seq_1
noncomputable def Z0u (l_0:List Qlw) (seq_1:Int):Option Qpe:=Z4m 1099511627776 l_0 seq_1
noncomputable def Z3p:Ent:=⟨[.val t32,.val t2],[⟨t9,[false],none⟩,⟨t4,[false],none⟩],fun x=>Z0u x.1 x.2.1⟩
theorem Z8n:GD 172 Z3p:=fnl Z2b (fun n x=>Z4m n x.1 x.2.1) Qk3 Tryz.func172 fun n x=>Eq.trans (b:=Z4n (Qsu n n) x.1 x.2.1) (by kernel_rfl) (by rw [Z1l n n];rfl)
abbrev Qm8:Type:=(Qlh × Bool × Unit) × Unit
noncomputable def Z8u:Ctx:=[(172,Z3p)]
def Qym:Fi:={ keep:=[],vty:=[(10,32)],vals:=[],live:=[(0,[0,1,5,25,26,27,28,29,32,44,45,46,47,48,49,50,51]),(1,[0,1,5,9,25,26,27,28,29,32,44,45,46,47,48,49,50,51]),(2,[0,5,33,44,45,46,47,48,49,50,51]),(3,[6,7]),(4,[0,5,10,44,45,46,47,48,49,50,51]),(5,[0,5,10,11,44,45,46,47,48,49,50,51]),(6,[0,5,10,11,12,44,45,46,47,48,49,50,51]),(7,[0,5,10,11,12,38,44,45,46,47,48,49,50,51]),(8,[0,5,10,11,12,44,45,46,47,48,49,50,51]),(9,[0,5,10,11,12,44,45,46,47,48,49,50,51,52]),(10,[0,5,10,11,12,44,45,46,47,48,49,50,51]),(11,[0,5,10,11,12,44,45,46,47,48,49,50,51]),(12,[5,10,65]),(13,[10]),(14,[6,7])] }
abbrev Qqc:Type:=Qlh→Bool→Int→Int→ByteArray→Qlh→Option Qm8
noncomputable def Qq6 (v4:Int) (v2 v7:List Qlw) (L1:Qqc) (v3:Bool) (v5:Int) (v6:ByteArray):Option Qm8:=
 bif decide (0≤v4)&&decide (v4<(v2.length:Int)) then
  bif Nat.ble (v7.length+1) 1073741824 then
   L1 v2 v3 (IntKind.wrap .i64 (v4+1)) v5 v6 (v7++[(List.getD v2 v4.toNat (0,(⟨#[]⟩:ByteArray)))])
  else none
 else none
noncomputable def Qkk (L1:Qqc) (v2:List Qlw) (v3:Bool) (v4 v5:Int) (v6:ByteArray) (v7:List Qlw):Option Qm8:=
 bif decide (v4<(v2.length:Int)) then
  bif !v3 then
   bif decide (0≤v4)&&decide (v4<(v2.length:Int)) then
    bif decide ((List.getD v2 v4.toNat (0,(⟨#[]⟩:ByteArray))).1>v5) then
     bif Nat.ble (v7.length+1) 1073741824 then
      bif decide (0≤v4)&&decide (v4<(v2.length:Int)) then
       bif Nat.ble ((v7++[(v5,v6)]).length+1) 1073741824 then
        L1 v2 true (IntKind.wrap .i64 (v4+1)) v5 v6 ((v7++[(v5,v6)])++[(List.getD v2 v4.toNat (0,(⟨#[]⟩:ByteArray)))])
       else none
      else none
     else none
    else
     Qq6 v4 v2 v7 L1 v3 v5 v6
   else none
  else
   Qq6 v4 v2 v7 L1 v3 v5 v6
 else
 bif !v3 then
  bif Nat.ble (v7.length+1) 1073741824 then
   some ((v7++[(v5,v6)],true,()),())
  else none
 else
  some ((v7,true,()),())
noncomputable def Qqx (L1:Qqc) (l_0:List Qlw) (next_1:Int) (x_2:Int × ByteArray):Option Qm8:=
 Option.bind (Z0u l_0 x_2.1) fun r1=>
 bif decide (x_2.1<next_1) then
  some ((l_0,false,()),())
 else
 bif decide (IntKind.wrap .i64 (x_2.1 - next_1) ≥ 8) then
  some ((l_0,false,()),())
 else
 bif r1.1.2.1 then
  some ((l_0,false,()),())
 else
  L1 l_0 false 0 x_2.1 x_2.2 []
noncomputable def Qkq (n:Nat):Nat→Qqc:=iter (fun _ _ _ _ _ _=>none) fun L=>Qkk L
noncomputable def Qpz (n m:Nat) (v2:List Qlw) (v3:Bool) (v4 v5:Int) (v6:ByteArray) (v7:List Qlw):Option Qm8:=
 Qjv Z8u tab (fiB [.val t32,.val t2,.val t58] Qym) n [.val t32,.val t2,.val t58] [⟨t32,[false],none⟩,⟨t4,[false],none⟩] Tryz.f140 [1,1,1,1,1,0,1,0] [] [0,5,10,11,12] m
 ⟨[(0,Vp t32 v2),(5,V1 (.ptr (5,0) 0)),(10,V1 (.ref (888888,10))),(11,Vp t4 v3),(12,Vp t2 v4)],[((5,0),Ob.box 59 [LV.pure t2 v5,LV.pure t9 v6]),((888888,10),Ob.row 59 t58 v7)]⟩
theorem Qxb (n:Nat):∀ m,Qpz n m=Qkq n m
 | 0=>rfl
 | m+1=>by rw [show Qpz n (m+1)=Qkk (Qpz n m) from by kernel_rfl,Qxb n m];rfl
noncomputable def Qyz (n:Nat) (l_0:List Qlw) (next_1:Int) (x_2:Int × ByteArray):Option Qm8:=Qqx (Qkq n n) l_0 next_1 x_2
noncomputable def Qw2 (l_0:List Qlw) (next_1:Int) (x_2:Int × ByteArray):Option Qm8:=Qyz 1099511627776 l_0 next_1 x_2
noncomputable def Z8m:Ent:=⟨[.val t32,.val t2,.val t58],[⟨t32,[false],none⟩,⟨t4,[false],none⟩],fun x=>Qw2 x.1 x.2.1 x.2.2.1⟩
theorem Z4v:GD 140 Z8m:=fnl Qym (fun n x=>Qyz n x.1 x.2.1 x.2.2.1) (Qjy Z8n Qk3) Tryz.func140 fun n x=>Eq.trans (b:=Qqx (Qpz n n) x.1 x.2.1 x.2.2.1) (by kernel_rfl) (by rw [Qxb n n];rfl)
noncomputable def Qtt (f_0:Int × Int × Qlh × Qlh × Qto × Int × Int) (i_1:Int × ByteArray):Option ((Z5u × Unit) × Unit):=
 bif f_0.1==0 then
  some ((f_0,()),())
 else
 bif decide (i_1.1<1) then
  some ((f_0,()),())
 else
 bif decide (i_1.1>1000000) then
  some ((f_0,()),())
 else
 bif decide ((i_1.2.size:Int)>12) then
  some ((f_0,()),())
 else
  Option.bind (Qnm f_0 i_1.1) fun r1=>
  Option.bind (Qw2 (g3 r1.1.1) r1.1.1.1 i_1) fun r2=>
  Option.bind (Ql8 (u3 r1.1.1 r2.1.1)) fun r3=>
  some ((r3.1.1,()),())
noncomputable def Z0l:Ent:=⟨[.val t36,.val t58],[⟨t36,(nF 7),none⟩],fun x=>Qtt x.1 x.2.1⟩
theorem Z6l:GD 68 Z0l:=fnk 1 (fo [[2,3,4,9,10,11,14,15,16,19,20,21,22],[2,3,4,23],[4],[2,3,4],[2,4],[2,4],[4]]) (Qjy Qpv (Qjy Qq0 (Qjy Z4v Qk3))) Tryz.func68
abbrev Qm5:Type:=(Z5u × Unit) × (Zdo × Unit)
noncomputable def Z5p:Ctx:=[(25,Qrt),(26,Qpr),(44,Qw9),(61,Z1s),(66,Z18),(67,Z0g),(68,Z0l),(69,Z14)]
def Qvg:Fi:=fo [[0,1,4,18,19,20],[0,1,4,5,18,19,20],[0,1,4,5,6,18,19,20],[0,1,4,5,6,7,18,19,20],[0,1,4,5,6,7,18,19,20,21],[0,1,4,5,6,7,18,19,20],[0,1,4,5,6,7,18,19,20,25],[0,1,4,5,6,7,18,19,20],[0,1,4,5,6,7,18,19,20,25,38],[0,1,4,5,6,7,8,18,19,20],[0,1,4,5,6,7,18,19,20],[0,1,4,5,6,7,18,19,20,25,54],[0,1,4,5,6,7,18,19,20],[0,1,4,5,6,7,18,19,20,63],[0,1,4,5,6,7,18,19,20],[0,1,4,5,6,7,18,19,20],[0,4]]
abbrev Qr9:Type:=Int→Int→Int→List Int→Int→Int→Int→Int→Int→Qlh→Qlh→Qto→Int→Int→Qlh→Qlh→Qto→Int→Int→Option Qm5
noncomputable def Ql0 (L1:Qr9) (v3 v4 v5:Int) (v6:List Int) (v7 v8 v9 v10 v11:Int) (v12 v13:List Qlw) (v14:List Qtb) (v15 v16:Int) (v17 v18:List Qlw) (v19:List Qtb) (v20 v21:Int):Option Qm5:=
 bif decide (v5<v3) then
  Option.bind (Qnx (v6,v7)) fun r22=>
  bif !r22.1.1 then
   Option.bind (Qk5 r22.2.1 6) fun r23=>
   bif r23.1.1==0 then
    Option.bind (Qk5 r23.2.1 3) fun r24=>
    Option.bind (Qk5 r24.2.1 4) fun r25=>
    Option.bind (Qtm (v15,v16,v17,v18,v19,v20,v21) (if IntKind.wrap .i64 ((IntKind.wrap .i64 (v15 - 1))+r24.1.1)>1 then IntKind.wrap .i64 ((IntKind.wrap .i64 (v15 - 1))+r24.1.1) else 1) (IntKind.wrap .i64 ((if IntKind.wrap .i64 ((IntKind.wrap .i64 (v15 - 1))+r24.1.1)>1 then IntKind.wrap .i64 ((IntKind.wrap .i64 (v15 - 1))+r24.1.1) else 1)+r25.1.1))) fun r26=>
    L1 v3 v4 (IntKind.wrap .i64 (v5+1)) r25.2.1.1 r25.2.1.2 v8 v9 v10 v11 v12 v13 v14 r26.1.1.1 r26.1.1.2.1 r26.1.1.2.2.1 (g3 r26.1.1) (g4 r26.1.1) (g5 r26.1.1) (h6 r26.1.1)
   else
   bif r23.1.1==1 then
    Option.bind (Qk5 r23.2.1 5) fun r27=>
    Option.bind (Qnm (v15,v16,v17,v18,v19,v20,v21) (IntKind.wrap .i64 (v15+r27.1.1))) fun r28=>
    L1 v3 v4 (IntKind.wrap .i64 (v5+1)) r27.2.1.1 r27.2.1.2 v8 v9 v10 v11 v12 v13 v14 r28.1.1.1 r28.1.1.2.1 r28.1.1.2.2.1 (g3 r28.1.1) (g4 r28.1.1) (g5 r28.1.1) (h6 r28.1.1)
   else
   bif r23.1.1==2 then
    Option.bind (Qk5 r23.2.1 6) fun r29=>
    Option.bind (Quw (v15,v16,v17,v18,v19,v20,v21) (IntKind.wrap .i64 ((IntKind.wrap .i64 (v4+1))+r29.1.1))) fun r30=>
    L1 v3 (IntKind.wrap .i64 ((IntKind.wrap .i64 (v4+1))+r29.1.1)) (IntKind.wrap .i64 (v5+1)) r29.2.1.1 r29.2.1.2 v8 v9 v10 v11 v12 v13 v14 r30.1.1.1 r30.1.1.2.1 r30.1.1.2.2.1 (g3 r30.1.1) (g4 r30.1.1) (g5 r30.1.1) (h6 r30.1.1)
   else
    Option.bind (Qk5 r23.2.1 5) fun r31=>
    Option.bind (Qlt r31.2.1) fun r32=>
    Option.bind (Qtt (v15,v16,v17,v18,v19,v20,v21) (if IntKind.wrap .i64 ((IntKind.wrap .i64 (v15 - 1))+r31.1.1)>1 then IntKind.wrap .i64 ((IntKind.wrap .i64 (v15 - 1))+r31.1.1) else 1,r32.1.1)) fun r33=>
    L1 v3 v4 (IntKind.wrap .i64 (v5+1)) r32.2.1.1 r32.2.1.2 v8 v9 v10 v11 v12 v13 v14 r33.1.1.1 r33.1.1.2.1 r33.1.1.2.2.1 (g3 r33.1.1) (g4 r33.1.1) (g5 r33.1.1) (h6 r33.1.1)
  else
   some (((v15,v16,v17,v18,v19,v20,v21),()),(r22.2.1,()))
 else
  some (((v15,v16,v17,v18,v19,v20,v21),()),((v6,v7),()))
noncomputable def Qp4 (L1:Qr9) (p_0:(List Int) × Int) (most_1:Int):Option Qm5:=
 Option.bind (Qk5 p_0 5) fun r1=>
 Option.bind (Qtl (0,0,[],[],[],0,0) (IntKind.wrap .i64 (1+r1.1.1))) fun r2=>
 L1 most_1 0 0 r1.2.1.1 r1.2.1.2 0 0 0 0 [] [] [] r2.1.1.1 r2.1.1.2.1 r2.1.1.2.2.1 (g3 r2.1.1) (g4 r2.1.1) (g5 r2.1.1) (h6 r2.1.1)
noncomputable def Qli (n:Nat):Nat→Qr9:=iter (fun _ _ _ _ _ _ _ _ _ _ _ _ _ _ _ _ _ _ _=>none) fun L=>Ql0 L
noncomputable def Qok (n m:Nat) (v3 v4 v5:Int) (v6:List Int) (v7 v8 v9 v10 v11:Int) (v12 v13:List Qlw) (v14:List Qtb) (v15 v16:Int) (v17 v18:List Qlw) (v19:List Qtb) (v20 v21:Int):Option Qm5:=
 Qjv Z5p tab (fiB [.box 75 t74 [false,false],.val t2] Qvg) n [.box 75 t74 [false,false],.val t2] [⟨t36,(nF 7),none⟩] Tryz.f42 [1,1,1,0,1,0] [] [0,1,4,5,6,7] m
 ⟨[(0,V1 (.ptr (0,0) 0)),(1,Vp t2 v3),(4,V1 (.ptr (4,0) 0)),(5,V1 (.ptr (5,0) 0)),(6,Vp t2 v4),(7,Vp t2 v5)],[((0,0),Ob.box 75 [LV.pure t25 v6,LV.pure t2 v7]),((4,0),Ob.box 37 [LV.pure t2 v8,LV.pure t2 v9,LV.ref (4,3),LV.ref (4,4),LV.ref (4,5),LV.pure t2 v10,LV.pure t2 v11]),((4,3),Ob.row 59 t58 v12),((4,4),Ob.row 59 t58 v13),((4,5),Ob.row 55 t54 v14),((5,0),Ob.box 37 [LV.pure t2 v15,LV.pure t2 v16,LV.pure t32 v17,LV.pure t32 v18,LV.pure t33 v19,LV.pure t2 v20,LV.pure t2 v21])]⟩
theorem Quh (n:Nat):∀ m,Qok n m=Qli n m
 | 0=>rfl
 | m+1=>by rw [show Qok n (m+1)=Ql0 (Qok n m) from by kernel_rfl,Quh n m];rfl
noncomputable def Qvv (n:Nat) (p_0:(List Int) × Int) (most_1:Int):Option Qm5:=Qp4 (Qli n n) p_0 most_1
noncomputable def Qte (p_0:(List Int) × Int) (most_1:Int):Option Qm5:=Qvv 1099511627776 p_0 most_1
noncomputable def Z56:Ent:=⟨[.box 75 t74 [false,false],.val t2],[⟨t36,(nF 7),none⟩],fun x=>Qte x.1 x.2.1⟩
theorem Z1p:GD 42 Z56:=fnl Qvg (fun n x=>Qvv n x.1 x.2.1) (Qjy Qu0 (Qjy Ql9 (Qjy Qu2 (Qjy Z6v (Qjy Qpv (Qjy Z6g (Qjy Z6l (Qjy Z6k Qk3)))))))) Tryz.func42 fun n x=>Eq.trans (b:=Qp4 (Qok n n) x.1 x.2.1) (by kernel_rfl) (by rw [Quh n n];rfl)
noncomputable def Qur (picks_0:List Int) (id_1:Int):Option ((Zqd × Unit) × Unit):=
 Option.bind (Z1a picks_0) fun r1=>
 Option.bind (Qk5 r1.1.1 3) fun r2=>
 Option.bind (Qk5 r2.2.1 3) fun r3=>
 Option.bind (Qk5 r3.2.1 9) fun r4=>
 Option.bind (Qut (false,r2.1.1,(⟨#[]⟩:ByteArray),Zs0,(0,0,[],[],[],0,0),r3.1.1) id_1 (⟨#[110]⟩:ByteArray) r4.1.1) fun r5=>
 Option.bind (Qud r4.2.1 id_1 20) fun r6=>
 bif id_1 != 1 then
  Option.bind (Qte r6.2.1 12) fun r7=>
  Option.bind (Qk5 r7.2.1 5) fun r8=>
  bif r8.1.1==0 then
   some (((u4 (u3 r5.1.1 (u1 r6.1.1 r5.1.1.2.1)) (0,0,[],[],[],0,0)),()),())
  else
   some (((u4 (u3 r5.1.1 (u1 r6.1.1 r5.1.1.2.1)) r7.1.1),()),())
 else
  some (((u3 r5.1.1 (u1 r6.1.1 r5.1.1.2.1)),()),())
noncomputable def Zbw:Ent:=⟨[.val t25,.val t2],[⟨t38,(nF 24),none⟩],fun x=>Qur x.1 x.2.1⟩
theorem Z7x:GD 16 Zbw:=fnk 1 (fo [[0,1,4],[1,4,5],[1,4,5,6],[1,4,5,6],[1,4,5,6],[4,5,6,31],[4,5,6],[4,6,37],[4,6],[4]]) (Qjy Z8s (Qjy Z7u (Qjy Ql9 (Qjy Z3d (Qjy Z1p Qk3))))) Tryz.func16
noncomputable def Qms (n_0:Int):Option ((Bool × Unit) × Unit):=
 bif decide (n_0 ≥ 0) then
  some ((decide (n_0≤1000000),()),())
 else
  some ((false,()),())
noncomputable def Zcl:Ent:=⟨[.val t2],[⟨t4,[false],none⟩],fun x=>Qms x.1⟩
theorem Z8y:GD 106 Zcl:=fnk 1 (fo [[0,6,7],[2]]) Qk3 Tryz.func106
abbrev Qmo:Type:=(Bool × Unit) × Unit
noncomputable def Z7e:Ctx:=[]
def Qx8:Fi:=fo [[0,1],[0,1,10],[4],[0,1,5],[0,1,5,14],[0,1,5],[0,1,5,25],[4],[4]]
abbrev Qsj:Type:=List Int→List Int→Int→Option Qmo
noncomputable def Qmf (L1:Qsj) (v1 v2:List Int) (v3:Int):Option Qmo:=
 bif decide (v3<(v1.length:Int)) then
  bif decide (0≤v3)&&decide (v3<(v1.length:Int)) then
   bif decide (0≤v3)&&decide (v3<(v2.length:Int)) then
    bif (List.getD v1 v3.toNat 0) != (List.getD v2 v3.toNat 0) then
     some ((false,()),())
    else
     L1 v1 v2 (IntKind.wrap .i64 (v3+1))
   else none
  else none
 else
  some ((true,()),())
noncomputable def Qqj (L1:Qsj) (a_0 b_1:List Int):Option Qmo:=
 bif (a_0.length:Int) != (b_1.length:Int) then
  some ((false,()),())
 else
  L1 a_0 b_1 0
noncomputable def Qmb (n:Nat):Nat→Qsj:=iter (fun _ _ _=>none) fun L=>Qmf L
noncomputable def Qpu (n m:Nat) (v1 v2:List Int) (v3:Int):Option Qmo:=
 Qjv Z7e tab (fiB [.val t28,.val t28] Qx8) n [.val t28,.val t28] [⟨t4,[false],none⟩] Tryz.f81 [1,1,0,1,0] [] [0,1,5] m
 ⟨[(0,Vp t28 v1),(1,Vp t28 v2),(5,Vp t2 v3)],[]⟩
theorem Qwi (n:Nat):∀ m,Qpu n m=Qmb n m
 | 0=>rfl
 | m+1=>by rw [show Qpu n (m+1)=Qmf (Qpu n m) from by kernel_rfl,Qwi n m];rfl
noncomputable def Qy0 (n:Nat) (a_0 b_1:List Int):Option Qmo:=Qqj (Qmb n n) a_0 b_1
noncomputable def Qrn (a_0 b_1:List Int):Option Qmo:=Qy0 1099511627776 a_0 b_1
noncomputable def Z7k:Ent:=⟨[.val t28,.val t28],[⟨t4,[false],none⟩],fun x=>Qrn x.1 x.2.1⟩
theorem Qva:GD 81 Z7k:=fnl Qx8 (fun n x=>Qy0 n x.1 x.2.1) Qk3 Tryz.func81 fun n x=>Eq.trans (b:=Qqj (Qpu n n) x.1 x.2.1) (by kernel_rfl) (by rw [Qwi n n];rfl)
noncomputable def Qk9 (a_0 b_1:Int × Int × Int × Int × Int × Int × (List Int) × Int × Int × ByteArray):Option ((Bool × Unit) × Unit):=
 bif a_0.1==b_1.1 then
  bif a_0.2.1==b_1.2.1 then
   bif a_0.2.2.1==b_1.2.2.1 then
    bif a_0.2.2.2.1==b_1.2.2.2.1 then
     bif a_0.2.2.2.2.1==b_1.2.2.2.2.1 then
      bif a_0.2.2.2.2.2.1==b_1.2.2.2.2.2.1 then
       bif a_0.2.2.2.2.2.2.2.1==b_1.2.2.2.2.2.2.2.1 then
        bif a_0.2.2.2.2.2.2.2.2.1==b_1.2.2.2.2.2.2.2.2.1 then
         bif Qeq a_0.2.2.2.2.2.2.2.2.2 b_1.2.2.2.2.2.2.2.2.2 then
          Option.bind (Qrn a_0.2.2.2.2.2.2.1 b_1.2.2.2.2.2.2.1) fun r1=>
          some ((r1.1.1,()),())
         else
          some ((false,()),())
        else
         some ((false,()),())
       else
        some ((false,()),())
      else
       some ((false,()),())
     else
      some ((false,()),())
    else
     some ((false,()),())
   else
    some ((false,()),())
  else
   some ((false,()),())
 else
  some ((false,()),())
noncomputable def Z8a:Ent:=⟨[.val t45,.val t45],[⟨t4,[false],none⟩],fun x=>Qk9 x.1 x.2.1⟩
theorem Z4k:GD 72 Z8a:=fnk 1 (fo [[2,3,11,12,13,14,15,18,19,20,21,22,25,26,27,28,29,32,33,34,35,36,39,40,41,42,43,46,47,48,49,50,53,54,55,56,57,60,61,62,63,64,67,68,69,70,71],[4]]) (Qjy Qva Qk3) Tryz.func72
noncomputable def Qsv (arr_0:Int × Int × Int × Int × Int × Int × (List Int) × Int × Int × ByteArray):Option ((Bool × Unit) × Unit):=
 bif decide (arr_0.1<1) then
  some ((false,()),())
 else
 bif decide (arr_0.1>9) then
  some ((false,()),())
 else
 bif decide (arr_0.2.1<1) then
  some ((false,()),())
 else
 bif decide (arr_0.2.1>8) then
  some ((false,()),())
 else
 bif decide (arr_0.2.2.1<1) then
  some ((false,()),())
 else
 bif decide (arr_0.2.2.1>8) then
  some ((false,()),())
 else
 bif arr_0.2.1==arr_0.2.2.1 then
  some ((false,()),())
 else
 bif decide (arr_0.2.2.2.1<1) then
  some ((false,()),())
 else
 bif decide (arr_0.2.2.2.1>1073741824) then
  some ((false,()),())
 else
 bif arr_0.1==2 then
  bif arr_0.1==2 then
   bif decide (arr_0.2.2.2.2.1 ≥ 0) then
    bif decide (arr_0.2.2.2.2.1≤1073741824) then
     bif decide (arr_0.2.2.2.2.2.1 ≥ 0) then
      bif decide (arr_0.2.2.2.2.2.1≤1073741824) then
       Option.bind (Qo5 arr_0.2.2.2.2.2.2.1) fun r1=>
       bif arr_0.1==2 then
        bif r1.1.1 then
         Option.bind (Qms arr_0.2.2.2.2.2.2.2.1) fun r2=>
         bif r2.1.1 then
          Option.bind (Qk9 (arr_0.1,arr_0.2.1,arr_0.2.2.1,arr_0.2.2.2.1,arr_0.2.2.2.2.1,arr_0.2.2.2.2.2.1,arr_0.2.2.2.2.2.2.1,arr_0.2.2.2.2.2.2.2.1,0,(⟨#[]⟩:ByteArray)) arr_0) fun r3=>
          some ((r3.1.1,()),())
         else
          some ((false,()),())
        else
         some ((false,()),())
       else
       bif r1.1.1 then
        Option.bind (Qms arr_0.2.2.2.2.2.2.2.2.1) fun r4=>
        bif r4.1.1 then
         Option.bind (Qk9 (arr_0.1,arr_0.2.1,arr_0.2.2.1,arr_0.2.2.2.1,arr_0.2.2.2.2.1,arr_0.2.2.2.2.2.1,arr_0.2.2.2.2.2.2.1,0,arr_0.2.2.2.2.2.2.2.2.1,(⟨#[]⟩:ByteArray)) arr_0) fun r5=>
         some ((r5.1.1,()),())
        else
         some ((false,()),())
       else
        some ((false,()),())
      else
      bif arr_0.1==2 then
       some ((false,()),())
      else
       some ((false,()),())
     else
     bif arr_0.1==2 then
      some ((false,()),())
     else
      some ((false,()),())
    else
    bif arr_0.1==2 then
     some ((false,()),())
    else
     some ((false,()),())
   else
   bif arr_0.1==2 then
    some ((false,()),())
   else
    some ((false,()),())
  else
  bif arr_0.1==7 then
   bif decide (arr_0.2.2.2.2.2.2.2.1 ≥ 1) then
    Option.bind (Qms arr_0.2.2.2.2.2.2.2.1) fun r6=>
    bif r6.1.1 then
     bif decide ((arr_0.2.2.2.2.2.2.2.2.2.size:Int)≤12) then
      Option.bind (Qk9 (arr_0.1,arr_0.2.1,arr_0.2.2.1,arr_0.2.2.2.1,0,0,[],arr_0.2.2.2.2.2.2.2.1,0,arr_0.2.2.2.2.2.2.2.2.2) arr_0) fun r7=>
      some ((r7.1.1,()),())
     else
      some ((false,()),())
    else
     some ((false,()),())
   else
    some ((false,()),())
  else
  bif arr_0.1==8 then
   bif arr_0.1==8 then
    Option.bind (Ql1 (arr_0.2.2.2.2.2.2.2.1,arr_0.2.2.2.2.2.2.2.2.1)) fun r8=>
    bif r8.1.1 then
     Option.bind (Qk9 (arr_0.1,arr_0.2.1,arr_0.2.2.1,arr_0.2.2.2.1,0,0,[],arr_0.2.2.2.2.2.2.2.1,arr_0.2.2.2.2.2.2.2.2.1,(⟨#[]⟩:ByteArray)) arr_0) fun r9=>
     some ((r9.1.1,()),())
    else
     some ((false,()),())
   else
    Option.bind (Qk9 (arr_0.1,arr_0.2.1,arr_0.2.2.1,arr_0.2.2.2.1,0,0,[],0,0,(⟨#[]⟩:ByteArray)) arr_0) fun r10=>
    some ((r10.1.1,()),())
  else
  bif arr_0.1==9 then
   Option.bind (Ql1 (arr_0.2.2.2.2.2.2.2.1,arr_0.2.2.2.2.2.2.2.2.1)) fun r11=>
   bif r11.1.1 then
    Option.bind (Qk9 (arr_0.1,arr_0.2.1,arr_0.2.2.1,arr_0.2.2.2.1,0,0,[],arr_0.2.2.2.2.2.2.2.1,arr_0.2.2.2.2.2.2.2.2.1,(⟨#[]⟩:ByteArray)) arr_0) fun r12=>
    some ((r12.1.1,()),())
   else
    some ((false,()),())
  else
   Option.bind (Qk9 (arr_0.1,arr_0.2.1,arr_0.2.2.1,arr_0.2.2.2.1,0,0,[],0,0,(⟨#[]⟩:ByteArray)) arr_0) fun r13=>
   some ((r13.1.1,()),())
 else
 bif arr_0.1==5 then
  bif decide (arr_0.2.2.2.2.1 ≥ 0) then
   bif decide (arr_0.2.2.2.2.1≤1073741824) then
    bif decide (arr_0.2.2.2.2.2.1 ≥ 0) then
     bif decide (arr_0.2.2.2.2.2.1≤1073741824) then
      Option.bind (Qo5 arr_0.2.2.2.2.2.2.1) fun r14=>
      bif arr_0.1==2 then
       bif r14.1.1 then
        Option.bind (Qms arr_0.2.2.2.2.2.2.2.1) fun r15=>
        bif r15.1.1 then
         Option.bind (Qk9 (arr_0.1,arr_0.2.1,arr_0.2.2.1,arr_0.2.2.2.1,arr_0.2.2.2.2.1,arr_0.2.2.2.2.2.1,arr_0.2.2.2.2.2.2.1,arr_0.2.2.2.2.2.2.2.1,0,(⟨#[]⟩:ByteArray)) arr_0) fun r16=>
         some ((r16.1.1,()),())
        else
         some ((false,()),())
       else
        some ((false,()),())
      else
      bif r14.1.1 then
       Option.bind (Qms arr_0.2.2.2.2.2.2.2.2.1) fun r17=>
       bif r17.1.1 then
        Option.bind (Qk9 (arr_0.1,arr_0.2.1,arr_0.2.2.1,arr_0.2.2.2.1,arr_0.2.2.2.2.1,arr_0.2.2.2.2.2.1,arr_0.2.2.2.2.2.2.1,0,arr_0.2.2.2.2.2.2.2.2.1,(⟨#[]⟩:ByteArray)) arr_0) fun r18=>
        some ((r18.1.1,()),())
       else
        some ((false,()),())
      else
       some ((false,()),())
     else
     bif arr_0.1==2 then
      some ((false,()),())
     else
      some ((false,()),())
    else
    bif arr_0.1==2 then
     some ((false,()),())
    else
     some ((false,()),())
   else
   bif arr_0.1==2 then
    some ((false,()),())
   else
    some ((false,()),())
  else
  bif arr_0.1==2 then
   some ((false,()),())
  else
   some ((false,()),())
 else
 bif arr_0.1==7 then
  bif decide (arr_0.2.2.2.2.2.2.2.1 ≥ 1) then
   Option.bind (Qms arr_0.2.2.2.2.2.2.2.1) fun r19=>
   bif r19.1.1 then
    bif decide ((arr_0.2.2.2.2.2.2.2.2.2.size:Int)≤12) then
     Option.bind (Qk9 (arr_0.1,arr_0.2.1,arr_0.2.2.1,arr_0.2.2.2.1,0,0,[],arr_0.2.2.2.2.2.2.2.1,0,arr_0.2.2.2.2.2.2.2.2.2) arr_0) fun r20=>
     some ((r20.1.1,()),())
    else
     some ((false,()),())
   else
    some ((false,()),())
  else
   some ((false,()),())
 else
 bif arr_0.1==8 then
  bif arr_0.1==8 then
   Option.bind (Ql1 (arr_0.2.2.2.2.2.2.2.1,arr_0.2.2.2.2.2.2.2.2.1)) fun r21=>
   bif r21.1.1 then
    Option.bind (Qk9 (arr_0.1,arr_0.2.1,arr_0.2.2.1,arr_0.2.2.2.1,0,0,[],arr_0.2.2.2.2.2.2.2.1,arr_0.2.2.2.2.2.2.2.2.1,(⟨#[]⟩:ByteArray)) arr_0) fun r22=>
    some ((r22.1.1,()),())
   else
    some ((false,()),())
  else
   Option.bind (Qk9 (arr_0.1,arr_0.2.1,arr_0.2.2.1,arr_0.2.2.2.1,0,0,[],0,0,(⟨#[]⟩:ByteArray)) arr_0) fun r23=>
   some ((r23.1.1,()),())
 else
 bif arr_0.1==9 then
  Option.bind (Ql1 (arr_0.2.2.2.2.2.2.2.1,arr_0.2.2.2.2.2.2.2.2.1)) fun r24=>
  bif r24.1.1 then
   Option.bind (Qk9 (arr_0.1,arr_0.2.1,arr_0.2.2.1,arr_0.2.2.2.1,0,0,[],arr_0.2.2.2.2.2.2.2.1,arr_0.2.2.2.2.2.2.2.2.1,(⟨#[]⟩:ByteArray)) arr_0) fun r25=>
   some ((r25.1.1,()),())
  else
   some ((false,()),())
 else
  Option.bind (Qk9 (arr_0.1,arr_0.2.1,arr_0.2.2.1,arr_0.2.2.2.1,0,0,[],0,0,(⟨#[]⟩:ByteArray)) arr_0) fun r26=>
  some ((r26.1.1,()),())
noncomputable def Qzq:Ent:=⟨[.val t45],[⟨t4,[false],none⟩],fun x=>Qsv x.1⟩
theorem Z4u:GD 50 Qzq:=fnk 1 (fo [[1,9,10,11,14,15,16,19,20,21,24,25,26,29,30,31,34,35,36,37,38,41,42,43,46,47,48,77,78,79,82,83,84,87,88,89,92,93,94,104,105,106,113,114,115,129,130,131,134,135,136,137,156,157,158],[1,49,77,78,79,82,83,84,87,88,89,92,93,94,104,105,106,113,114,115,129,130,131,134,135,136,137,156,157,158],[2],[1,3,77,78,79,82,83,84,87,88,89,92,93,94,104,105,106,113,114,115,129,130,131,134,135,136,137,156,157,158],[1,3,4,77,78,79,82,83,84,87,88,89,92,93,94,104,105,106,113,114,115,129,130,131,134,135,136,137,156,157,158],[1,3,4,60,77,78,79,82,83,84,87,88,89,92,93,94,104,105,106,113,114,115,129,130,131,134,135,136,137,156,157,158],[1,3,4,60,61,77,78,79,82,83,84,87,88,89,92,93,94,104,105,106,113,114,115,129,130,131,134,135,136,137,156,157,158],[1,3,4,60,61,77,78,79,82,83,84,87,88,89,92,93,94,104,105,106,113,114,115,129,130,131,134,135,136,137,156,157,158],[1,3,77,78,79,82,83,84,87,88,89,92,93,94,104,105,106,113,114,115,156,157,158],[1,3,4,104,105,106,113,114,115,156,157,158],[1,3,4,98,104,105,106,113,114,115,156,157,158],[1,3,4,104,105,106,156,157,158],[1,3,4,156,157,158],[1,3,4,113,114,115,156,157,158],[1,3,4,156,157,158],[1,3,4,60,117,129,130,131,134,135,136,137,156,157,158],[1,3,129,130,131,134,135,136,137,156,157,158],[1,3,4,156,157,158],[1,3,4,60,139,156,157,158],[1,3,4,139,156,157,158],[1,3,156,157,158],[1,3,4,156,157,158],[2]]) (Qjy Z4k (Qjy Qwo (Qjy Z8y (Qjy Qwc Qk3)))) Tryz.func50
abbrev Qn5:Type:=((List Int) × Unit) × Unit
noncomputable def Z95:Ctx:=[]
def Qyn:Fi:=fo [[0,1],[1,5],[1,5,10],[1,5],[4]]
abbrev Qsy:Type:=Int→List Int→Option Qn5
noncomputable def Qqe (L1:Qsy) (v1:Int) (v2:List Int):Option Qn5:=
 bif decide (v1 ≥ 128) then
  bif Nat.ble (v2.length+1) 1073741824 then
   L1 (IntKind.wrap .i64 (Int.tdiv v1 128)) (v2++[IntKind.wrap .u8 (IntKind.wrap .i64 ((Int.tmod v1 128)+128))])
  else none
 else
 bif Nat.ble (v2.length+1) 1073741824 then
  some ((v2++[IntKind.wrap .u8 v1],()),())
 else none
noncomputable def Qqs (L1:Qsy) (b_0:List Int) (v_1:Int):Option Qn5:=
 bif Nat.ble (0+b_0.length) 1073741824 then
  L1 v_1 ([]++b_0)
 else none
noncomputable def Qnw (n:Nat):Nat→Qsy:=iter (fun _ _=>none) fun L=>Qqe L
noncomputable def Qqi (n m:Nat) (v1:Int) (v2:List Int):Option Qn5:=
 Qjv Z95 tab (fiB [.val t25,.val t2] Qyn) n [.val t25,.val t2] [⟨t25,[true],none⟩] Tryz.f51 [1,1,0,0] [] [1,5] m
 ⟨[(1,Vp t2 v1),(5,V1 (.ref (888888,5)))],[((888888,5),Ob.row 5 t5 v2)]⟩
theorem Qx0 (n:Nat):∀ m,Qqi n m=Qnw n m
 | 0=>rfl
 | m+1=>by rw [show Qqi n (m+1)=Qqe (Qqi n m) from by kernel_rfl,Qx0 n m];rfl
noncomputable def Qyu (n:Nat) (b_0:List Int) (v_1:Int):Option Qn5:=Qqs (Qnw n n) b_0 v_1
noncomputable def Qsp (b_0:List Int) (v_1:Int):Option Qn5:=Qyu 1099511627776 b_0 v_1
noncomputable def Qzf:Ent:=⟨[.val t25,.val t2],[⟨t25,[true],none⟩],fun x=>Qsp x.1 x.2.1⟩
theorem Qvu:GD 51 Qzf:=fnl Qyn (fun n x=>Qyu n x.1 x.2.1) Qk3 Tryz.func51 fun n x=>Eq.trans (b:=Qqs (Qqi n n) x.1 x.2.1) (by kernel_rfl) (by rw [Qx0 n n];rfl)
noncomputable def Qru (b_0:List Int) (s_1:ByteArray):Option (((List Int) × Unit) × Unit):=
 Option.bind (Qsp b_0 (s_1.size:Int)) fun r1=>
 bif Nat.ble (r1.1.1.length+(s_1.data.toList.map fun b=>(b.toNat:Int)).length) 1073741824 then
  some ((r1.1.1++(s_1.data.toList.map fun b=>(b.toNat:Int)),()),())
 else none
noncomputable def Qyb:Ent:=⟨[.val t25,.val t9],[⟨t25,[true],none⟩],fun x=>Qru x.1 x.2.1⟩
theorem Z4d:GD 52 Qyb:=fnk 1 (fo [[0,1],[4]]) (Qjy Qvu Qk3) Tryz.func52
abbrev Qm6:Type:=(Int × Unit) × Unit
noncomputable def Z4l:Ctx:=[]
def Qwb:Fi:=fo [[0],[0,3],[0,3,4],[0,3,4,9],[0,3,4],[0,3,4],[0,3,4,5],[0,3,4,5,20],[0,3,4,5],[0,3,4,5,25],[0,3,4,5],[0,3,4,5],[2]]
abbrev Qsl:Type:=List Int→Int→Int→Option Qm6
abbrev Qwf:Type:=List Int→Int→Int→Int→Option Qm6
noncomputable def Qob (L2:Qwf) (v1:List Int) (v2 v3:Int):Option Qm6:=
 bif decide (v3<(v1.length:Int)) then
  bif decide (0≤v3)&&decide (v3<(v1.length:Int)) then
   L2 v1 (IntKind.wrap .u32 ((BitVec.ofInt 32 v2 ^^^ BitVec.ofInt 32 (IntKind.wrap .u32 (List.getD v1 v3.toNat 0))).toNat)) v3 0
  else none
 else
  some ((IntKind.wrap .u32 ((BitVec.ofInt 32 4294967295 ^^^ BitVec.ofInt 32 v2).toNat),()),())
noncomputable def Qo4 (L2:Qwf) (L1:Qsl) (v4:List Int) (v5 v6 v7:Int):Option Qm6:=
 bif decide (v7<8) then
  bif (Int.tmod v5 2)==1 then
   L2 v4 (IntKind.wrap .u32 ((BitVec.ofInt 32 (IntKind.wrap .u32 (Int.tdiv v5 2)) ^^^ BitVec.ofInt 32 3988292384).toNat)) v6 (IntKind.wrap .i64 (v7+1))
  else
   L2 v4 (IntKind.wrap .u32 (Int.tdiv v5 2)) v6 (IntKind.wrap .i64 (v7+1))
 else
  L1 v4 v5 (IntKind.wrap .i64 (v6+1))
noncomputable def Z4q (L1:Qsl) (b_0:List Int):Option Qm6:=
 L1 b_0 4294967295 0
noncomputable def Qmw (n:Nat) (m1:Nat) (r1:Qsl):Nat→Qwf:=iter (fun _ _ _ _=>none) fun L=>Qo4 L r1
noncomputable def Qo1 (n:Nat):Nat→Qsl:=Qjg (fun _ _ _=>none) fun m L=>Qob (Qmw n m L n)
noncomputable def Qq1 (n m:Nat) (v1:List Int) (v2 v3:Int):Option Qm6:=
 Qjv Z4l tab (fiB [.val t25] Qwb) n [.val t25] [⟨t91,[false],none⟩] Tryz.f53 [1,1,0,1,0] [] [0,3,4] m
 ⟨[(0,Vp t25 v1),(3,Vp t91 v2),(4,Vp t2 v3)],[]⟩
noncomputable def Qsn (n m1 m:Nat) (v4:List Int) (v5 v6 v7:Int):Option Qm6:=
 Qjv Z4l tab (fiB [.val t25] Qwb) n [.val t25] [⟨t91,[false],none⟩] Tryz.f53 [1,1,0,1,0,0,1,0,0,1,1,0] [(m1,[0,3,4])] [0,3,4,5] m
 ⟨[(0,Vp t25 v4),(3,Vp t91 v5),(4,Vp t2 v6),(5,Vp t2 v7)],[]⟩
theorem Z1j (n m1:Nat):∀ m,Qsn n m1 m=Qmw n m1 (Qq1 n m1) m
 | 0=>rfl
 | m+1=>by rw [show Qsn n m1 (m+1)=Qo4 (Qsn n m1 m) (Qq1 n m1) from by kernel_rfl,Z1j n m1 m];rfl
theorem Z1d (n:Nat):∀ m,Qq1 n m=Qo1 n m
 | 0=>rfl
 | m+1=>by rw [show Qq1 n (m+1)=Qob (Qsn n m n) from by kernel_rfl,Z1j n m n,Z1d n m];rfl
noncomputable def Z3q (n:Nat) (b_0:List Int):Option Qm6:=Z4q (Qo1 n n) b_0
noncomputable def Z11 (b_0:List Int):Option Qm6:=Z3q 1099511627776 b_0
noncomputable def Z3l:Ent:=⟨[.val t25],[⟨t91,[false],none⟩],fun x=>Z11 x.1⟩
theorem Z8w:GD 53 Z3l:=fnl Qwb (fun n x=>Z3q n x.1) Qk3 Tryz.func53 fun n x=>Eq.trans (b:=Z4q (Qq1 n n) x.1) (by kernel_rfl) (by rw [Z1d n n];rfl)
abbrev Qn6:Type:=((List Int) × Unit) × Unit
noncomputable def Z9g:Ctx:=[(50,Qzq),(51,Qzf),(52,Qyb),(53,Z3l)]
def Qxy:Fi:={ keep:=[],vty:=[(4,25)],vals:=[],live:=[(0,[1]),(1,[1,9]),(2,[2]),(3,[1,3]),(4,[1,3]),(5,[1,3,4]),(6,[1,3,4,5]),(7,[1,3,4,5,39]),(8,[1,3,4,5]),(9,[1,3,4,5]),(10,[4]),(11,[4,6]),(12,[2])] }
abbrev Qt9:Type:=Int→Int→Int→Int→Int→Int→Int→List Int→Int→Int→ByteArray→List Int→List Int→Option Qn6
noncomputable def Qmr (L1:Qt9) (v2 v3 v4 v5 v6 v7 v8:Int) (v9:List Int) (v10 v11:Int) (v12:ByteArray) (v13 v14:List Int):Option Qn6:=
 bif decide (v2<(v13.length:Int)) then
  bif decide (0≤v2)&&decide (v2<(v13.length:Int)) then
   bif decide (0≤v2)&&decide (v2<(v13.length:Int)) then
    Option.bind (Qsp v14 (List.getD v13 v2.toNat 0)) fun r15=>
    L1 (IntKind.wrap .i64 (v2+1)) v3 v4 v5 v6 v7 v8 v9 v10 v11 v12 v13 r15.1.1
   else none
  else none
 else
  Option.bind (Qru v14 v12) fun r16=>
  Option.bind (Z11 r16.1.1) fun r17=>
  bif Nat.ble (r16.1.1.length+4) 1073741824 then
   some ((r16.1.1++[IntKind.wrap .u8 (Int.fdiv r17.1.1 (2 ^ 24)),IntKind.wrap .u8 (Int.fdiv r17.1.1 (2 ^ 16)),IntKind.wrap .u8 (Int.fdiv r17.1.1 (2 ^ 8)),IntKind.wrap .u8 r17.1.1],()),())
  else none
noncomputable def Qr0 (L1:Qt9) (m_0:Int × Int × Int × Int × Int × Int × (List Int) × Int × Int × ByteArray):Option Qn6:=
 Option.bind (Qsv m_0) fun r1=>
 bif !r1.1.1 then
  some (([],()),())
 else
 bif Nat.ble (7+m_0.2.2.2.2.2.2.1.length) 1073741824 then
  bif Nat.ble (([m_0.1,m_0.2.1,m_0.2.2.1,m_0.2.2.2.1,m_0.2.2.2.2.1,m_0.2.2.2.2.2.1,(m_0.2.2.2.2.2.2.1.length:Int)]++m_0.2.2.2.2.2.2.1).length+2) 1073741824 then
   L1 0 m_0.1 m_0.2.1 m_0.2.2.1 m_0.2.2.2.1 m_0.2.2.2.2.1 m_0.2.2.2.2.2.1 m_0.2.2.2.2.2.2.1 m_0.2.2.2.2.2.2.2.1 m_0.2.2.2.2.2.2.2.2.1 m_0.2.2.2.2.2.2.2.2.2 (([m_0.1,m_0.2.1,m_0.2.2.1,m_0.2.2.2.1,m_0.2.2.2.2.1,m_0.2.2.2.2.2.1,(m_0.2.2.2.2.2.2.1.length:Int)]++m_0.2.2.2.2.2.2.1)++[m_0.2.2.2.2.2.2.2.1,m_0.2.2.2.2.2.2.2.2.1]) []
  else none
 else none
noncomputable def Qml (n:Nat):Nat→Qt9:=iter (fun _ _ _ _ _ _ _ _ _ _ _ _ _=>none) fun L=>Qmr L
noncomputable def Qq5 (n m:Nat) (v2 v3 v4 v5 v6 v7 v8:Int) (v9:List Int) (v10 v11:Int) (v12:ByteArray) (v13 v14:List Int):Option Qn6:=
 Qjv Z9g tab (fiB [.val t45] Qxy) n [.val t45] [⟨t25,[true],none⟩] Tryz.f19 [1,1,1,1,1,0,1,0] [] [1,3,4,5] m
 ⟨[(1,V1 (.ptr (1,0) 0)),(3,V1 (.ref (888888,3))),(4,V1 (.ref (888888,4))),(5,Vp t2 v2)],[((1,0),Ob.box 46 [LV.pure t2 v3,LV.pure t2 v4,LV.pure t2 v5,LV.pure t2 v6,LV.pure t2 v7,LV.pure t2 v8,LV.pure t28 v9,LV.pure t2 v10,LV.pure t2 v11,LV.pure t9 v12]),((888888,3),Ob.row 3 t2 v13),((888888,4),Ob.row 5 t5 v14)]⟩
theorem Qx5 (n:Nat):∀ m,Qq5 n m=Qml n m
 | 0=>rfl
 | m+1=>by rw [show Qq5 n (m+1)=Qmr (Qq5 n m) from by kernel_rfl,Qx5 n m];rfl
noncomputable def Qyy (n:Nat) (m_0:Int × Int × Int × Int × Int × Int × (List Int) × Int × Int × ByteArray):Option Qn6:=Qr0 (Qml n n) m_0
noncomputable def Qsm (m_0:Int × Int × Int × Int × Int × Int × (List Int) × Int × Int × ByteArray):Option Qn6:=Qyy 1099511627776 m_0
noncomputable def Z91:Ent:=⟨[.val t45],[⟨t25,[true],none⟩],fun x=>Qsm x.1⟩
theorem Z5i:GD 19 Z91:=fnl Qxy (fun n x=>Qyy n x.1) (Qjy Z4u (Qjy Qvu (Qjy Z4d (Qjy Z8w Qk3)))) Tryz.func19 fun n x=>Eq.trans (b:=Qr0 (Qq5 n n) x.1) (by kernel_rfl) (by rw [Qx5 n n];rfl)
abbrev Qmm:Type:=(Bool × Unit) × Unit
noncomputable def Z86:Ctx:=[]
def Qx2:Fi:=fo [[0,1],[0,1,10],[4],[0,1,5],[0,1,5,14],[0,1,5],[0,1,5,25],[4],[4]]
abbrev Qsk:Type:=Z6m→Z6m→Int→Option Qmm
noncomputable def Qme (L1:Qsk) (v1 v2:List Qlf) (v3:Int):Option Qmm:=
 bif decide (v3<(v1.length:Int)) then
  bif decide (0≤v3)&&decide (v3<(v1.length:Int)) then
   bif decide (0≤v3)&&decide (v3<(v2.length:Int)) then
    bif !((((List.getD v1 v3.toNat (0,0,0)).1)==((List.getD v2 v3.toNat (0,0,0)).1))&&(((((List.getD v1 v3.toNat (0,0,0)).2).1)==(((List.getD v2 v3.toNat (0,0,0)).2).1))&&(((((List.getD v1 v3.toNat (0,0,0)).2).2)==(((List.getD v2 v3.toNat (0,0,0)).2).2))&&true))) then
     some ((false,()),())
    else
     L1 v1 v2 (IntKind.wrap .i64 (v3+1))
   else none
  else none
 else
  some ((true,()),())
noncomputable def Qql (L1:Qsk) (a_0 b_1:List Qlf):Option Qmm:=
 bif (a_0.length:Int) != (b_1.length:Int) then
  some ((false,()),())
 else
  L1 a_0 b_1 0
noncomputable def Qmd (n:Nat):Nat→Qsk:=iter (fun _ _ _=>none) fun L=>Qme L
noncomputable def Qpt (n m:Nat) (v1 v2:List Qlf) (v3:Int):Option Qmm:=
 Qjv Z86 tab (fiB [.val t29,.val t29] Qx2) n [.val t29,.val t29] [⟨t4,[false],none⟩] Tryz.f82 [1,1,0,1,0] [] [0,1,5] m
 ⟨[(0,Vp t29 v1),(1,Vp t29 v2),(5,Vp t2 v3)],[]⟩
theorem Qw7 (n:Nat):∀ m,Qpt n m=Qmd n m
 | 0=>rfl
 | m+1=>by rw [show Qpt n (m+1)=Qme (Qpt n m) from by kernel_rfl,Qw7 n m];rfl
noncomputable def Qye (n:Nat) (a_0 b_1:List Qlf):Option Qmm:=Qql (Qmd n n) a_0 b_1
noncomputable def Qv1 (a_0 b_1:List Qlf):Option Qmm:=Qye 1099511627776 a_0 b_1
noncomputable def Z7a:Ent:=⟨[.val t29,.val t29],[⟨t4,[false],none⟩],fun x=>Qv1 x.1 x.2.1⟩
theorem Z41:GD 82 Z7a:=fnl Qx2 (fun n x=>Qye n x.1 x.2.1) Qk3 Tryz.func82 fun n x=>Eq.trans (b:=Qql (Qpt n n) x.1 x.2.1) (by kernel_rfl) (by rw [Qw7 n n];rfl)
noncomputable def Qro (a_0 b_1:Int × Int × Int × Int × Int × Int × (List Int) × Int × Int × Int × Int × Int × List Qlf):Option ((Bool × Unit) × Unit):=
 bif a_0.1==b_1.1 then
  bif a_0.2.1==b_1.2.1 then
   bif a_0.2.2.1==b_1.2.2.1 then
    bif (g3 a_0)==(g3 b_1) then
     bif (g4 a_0)==(g4 b_1) then
      bif (g5 a_0)==(g5 b_1) then
       Option.bind (Qrn (g6 a_0) (g6 b_1)) fun r1=>
       bif r1.1.1 then
        bif (g7 a_0)==(g7 b_1) then
         bif (g8 a_0)==(g8 b_1) then
          bif (g9 a_0)==(g9 b_1) then
           bif (g10 a_0)==(g10 b_1) then
            bif (g11 a_0)==(g11 b_1) then
            Option.bind (Qv1 (h12 a_0) (h12 b_1)) fun r2=>
            some ((r2.1.1,()),())
            else
            some ((false,()),())
           else
            some ((false,()),())
          else
           some ((false,()),())
         else
          some ((false,()),())
        else
         some ((false,()),())
       else
        some ((false,()),())
      else
       some ((false,()),())
     else
      some ((false,()),())
    else
     some ((false,()),())
   else
    some ((false,()),())
  else
   some ((false,()),())
 else
  some ((false,()),())
noncomputable def Z6r:Ent:=⟨[.val t30,.val t30],[⟨t4,[false],none⟩],fun x=>Qro x.1 x.2.1⟩
theorem Z3z:GD 39 Z6r:=fnk 1 (fo [[2,3,11,12,13,14,15,18,19,20,21,22,25,26,27,28,29,32,33,34,35,36,39,40,41,42,43,46,47,48,49,50,53,54,55,56,57,60,61,62,63,64,67,68,69,70,71,74,75,76,77,78,81,82,83,84,85,88,89,90,91,92],[4]]) (Qjy Qva (Qjy Z41 Qk3)) Tryz.func39
abbrev Qm0:Type:=(Bool × Unit) × Unit
noncomputable def Z5h:Ctx:=[]
def Qvk:Fi:=fo [[0,1],[0,1,10],[4],[0,1,5],[0,1,5,14],[0,1,5],[0,1,5,25],[4],[4]]
abbrev Qra:Type:=Qlh→Qlh→Int→Option Qm0
noncomputable def Qlk (L1:Qra) (v1 v2:List Qlw) (v3:Int):Option Qm0:=
 bif decide (v3<(v1.length:Int)) then
  bif decide (0≤v3)&&decide (v3<(v1.length:Int)) then
   bif decide (0≤v3)&&decide (v3<(v2.length:Int)) then
    bif !((((List.getD v1 v3.toNat (0,(⟨#[]⟩:ByteArray))).1)==((List.getD v2 v3.toNat (0,(⟨#[]⟩:ByteArray))).1))&&((Qeq ((List.getD v1 v3.toNat (0,(⟨#[]⟩:ByteArray))).2) ((List.getD v2 v3.toNat (0,(⟨#[]⟩:ByteArray))).2))&&true)) then
     some ((false,()),())
    else
     L1 v1 v2 (IntKind.wrap .i64 (v3+1))
   else none
  else none
 else
  some ((true,()),())
noncomputable def Qox (L1:Qra) (a_0 b_1:List Qlw):Option Qm0:=
 bif (a_0.length:Int) != (b_1.length:Int) then
  some ((false,()),())
 else
  L1 a_0 b_1 0
noncomputable def Qlq (n:Nat):Nat→Qra:=iter (fun _ _ _=>none) fun L=>Qlk L
noncomputable def Qo3 (n m:Nat) (v1 v2:List Qlw) (v3:Int):Option Qm0:=
 Qjv Z5h tab (fiB [.val t32,.val t32] Qvk) n [.val t32,.val t32] [⟨t4,[false],none⟩] Tryz.f83 [1,1,0,1,0] [] [0,1,5] m
 ⟨[(0,Vp t32 v1),(1,Vp t32 v2),(5,Vp t2 v3)],[]⟩
theorem Qui (n:Nat):∀ m,Qo3 n m=Qlq n m
 | 0=>rfl
 | m+1=>by rw [show Qo3 n (m+1)=Qlk (Qo3 n m) from by kernel_rfl,Qui n m];rfl
noncomputable def Qwn (n:Nat) (a_0 b_1:List Qlw):Option Qm0:=Qox (Qlq n n) a_0 b_1
noncomputable def Qqf (a_0 b_1:List Qlw):Option Qm0:=Qwn 1099511627776 a_0 b_1
noncomputable def Z5b:Ent:=⟨[.val t32,.val t32],[⟨t4,[false],none⟩],fun x=>Qqf x.1 x.2.1⟩
theorem Z1q:GD 83 Z5b:=fnl Qvk (fun n x=>Qwn n x.1 x.2.1) Qk3 Tryz.func83 fun n x=>Eq.trans (b:=Qox (Qo3 n n) x.1 x.2.1) (by kernel_rfl) (by rw [Qui n n];rfl)
abbrev Qlm:Type:=(Bool × Unit) × Unit
noncomputable def Z3x:Ctx:=[]
def Quo:Fi:=fo [[0,1],[0,1,10],[4],[0,1,5],[0,1,5,14],[0,1,5],[0,1,5,25],[4],[4]]
abbrev Qqr:Type:=Qto→Qto→Int→Option Qlm
noncomputable def Qla (L1:Qqr) (v1 v2:List Qtb) (v3:Int):Option Qlm:=
 bif decide (v3<(v1.length:Int)) then
  bif decide (0≤v3)&&decide (v3<(v1.length:Int)) then
   bif decide (0≤v3)&&decide (v3<(v2.length:Int)) then
    bif !((((List.getD v1 v3.toNat Zl6).1)==((List.getD v2 v3.toNat Zl6).1))&&(((((List.getD v1 v3.toNat Zl6).2).1)==(((List.getD v2 v3.toNat Zl6).2).1))&&((((((List.getD v1 v3.toNat Zl6).2).2).1)==((((List.getD v2 v3.toNat Zl6).2).2).1))&&((Qeq (((((List.getD v1 v3.toNat Zl6).2).2).2).1) (((((List.getD v2 v3.toNat Zl6).2).2).2).1))&&(((((((List.getD v1 v3.toNat Zl6).2).2).2).2)==(((((List.getD v2 v3.toNat Zl6).2).2).2).2))&&true))))) then
     some ((false,()),())
    else
     L1 v1 v2 (IntKind.wrap .i64 (v3+1))
   else none
  else none
 else
  some ((true,()),())
noncomputable def Qof (L1:Qqr) (a_0 b_1:List Qtb):Option Qlm:=
 bif (a_0.length:Int) != (b_1.length:Int) then
  some ((false,()),())
 else
  L1 a_0 b_1 0
noncomputable def Qlb (n:Nat):Nat→Qqr:=iter (fun _ _ _=>none) fun L=>Qla L
noncomputable def Qnu (n m:Nat) (v1 v2:List Qtb) (v3:Int):Option Qlm:=
 Qjv Z3x tab (fiB [.val t33,.val t33] Quo) n [.val t33,.val t33] [⟨t4,[false],none⟩] Tryz.f84 [1,1,0,1,0] [] [0,1,5] m
 ⟨[(0,Vp t33 v1),(1,Vp t33 v2),(5,Vp t2 v3)],[]⟩
theorem Qu3 (n:Nat):∀ m,Qnu n m=Qlb n m
 | 0=>rfl
 | m+1=>by rw [show Qnu n (m+1)=Qla (Qnu n m) from by kernel_rfl,Qu3 n m];rfl
noncomputable def Qvm (n:Nat) (a_0 b_1:List Qtb):Option Qlm:=Qof (Qlb n n) a_0 b_1
noncomputable def Qsi (a_0 b_1:List Qtb):Option Qlm:=Qvm 1099511627776 a_0 b_1
noncomputable def Z46:Ent:=⟨[.val t33,.val t33],[⟨t4,[false],none⟩],fun x=>Qsi x.1 x.2.1⟩
theorem Z0e:GD 84 Z46:=fnl Quo (fun n x=>Qvm n x.1 x.2.1) Qk3 Tryz.func84 fun n x=>Eq.trans (b:=Qof (Qnu n n) x.1 x.2.1) (by kernel_rfl) (by rw [Qu3 n n];rfl)
noncomputable def Qqt (a_0 b_1:Int × Int × Qlh × Qlh × Qto × Int × Int):Option ((Bool × Unit) × Unit):=
 bif a_0.1==b_1.1 then
  bif a_0.2.1==b_1.2.1 then
   Option.bind (Qqf a_0.2.2.1 b_1.2.2.1) fun r1=>
   bif r1.1.1 then
    Option.bind (Qqf (g3 a_0) (g3 b_1)) fun r2=>
    bif r2.1.1 then
     Option.bind (Qsi (g4 a_0) (g4 b_1)) fun r3=>
     bif r3.1.1 then
      some ((((g5 a_0)==(g5 b_1))&&(((h6 a_0)==(h6 b_1))&&true),()),())
     else
      some ((false,()),())
    else
     some ((false,()),())
   else
    some ((false,()),())
  else
   some ((false,()),())
 else
  some ((false,()),())
noncomputable def Z6d:Ent:=⟨[.val t36,.val t36],[⟨t4,[false],none⟩],fun x=>Qqt x.1 x.2.1⟩
theorem Z3b:GD 40 Z6d:=fnk 1 (fo [[2,3,11,12,13,14,15,18,19,20,21,22,25,26,27,28,29,32,33,34,35,36,39,40,41,42,43],[4]]) (Qjy Z1q (Qjy Z0e Qk3)) Tryz.func40
noncomputable def Qr1 (a_0 b_1:Bool × Int × ByteArray × Qwp × Z5u × Int):Option ((Bool × Unit) × Unit):=
 bif a_0.1==b_1.1 then
  bif a_0.2.1==b_1.2.1 then
   bif Qeq a_0.2.2.1 b_1.2.2.1 then
    Option.bind (Qro (g3 a_0) (g3 b_1)) fun r1=>
    bif r1.1.1 then
     Option.bind (Qqt (g4 a_0) (g4 b_1)) fun r2=>
     bif r2.1.1 then
      some (((h5 a_0)==(h5 b_1),()),())
     else
      some ((false,()),())
    else
     some ((false,()),())
   else
    some ((false,()),())
  else
   some ((false,()),())
 else
  some ((false,()),())
noncomputable def Z66:Ent:=⟨[.val t38,.val t38],[⟨t4,[false],none⟩],fun x=>Qr1 x.1 x.2.1⟩
theorem Z3h:GD 15 Z66:=fnk 1 (fo [[2,3,11,12,13,14,15,18,19,20,21,22,25,26,27,28,29,32,33,34,35,36,39,40,41,42,43],[4]]) (Qjy Z3z (Qjy Z3b Qk3)) Tryz.func15
noncomputable def Qnd (r2:(Zqd × Unit) × Unit) (r3:((List Int) × Unit) × Unit) (lo_2:Int):Option ((Bool × Unit) × Unit):=
 Option.bind (Z44 r2.1.1 r3.1.1) fun r4=>
 bif (g3 (g3 r4.1.1)) != (g9 (g3 r2.1.1)) then
  Option.bind (Qr1 r4.1.1 r2.1.1) fun r5=>
  bif r5.1.1 then
   some (((r4.1.2.1.length:Int)==0,()),())
  else
   some ((false,()),())
 else
 bif (r4.1.2.1.length:Int) != 0 then
  some ((false,()),())
 else
 bif ((g4 (g4 r4.1.1)).length:Int) != ((g4 (g4 r2.1.1)).length:Int) then
  some ((false,()),())
 else
 bif (g4 r2.1.1).1==0 then
  bif (g4 r4.1.1).1==(IntKind.wrap .i64 (1+(IntKind.wrap .i64 (Int.tmod lo_2 30)))) then
   some (((g4 r4.1.1).2.1==(IntKind.wrap .i64 ((IntKind.wrap .i64 (1+(IntKind.wrap .i64 (Int.tmod lo_2 30)))) - 1)),()),())
  else
   some ((false,()),())
 else
 bif (g4 r4.1.1).1==(g4 r2.1.1).1 then
  some (((g4 r4.1.1).2.1==(if IntKind.wrap .i64 ((IntKind.wrap .i64 (1+(IntKind.wrap .i64 (Int.tmod lo_2 30)))) - 1)>(g4 r2.1.1).2.1 then IntKind.wrap .i64 ((IntKind.wrap .i64 (1+(IntKind.wrap .i64 (Int.tmod lo_2 30)))) - 1) else (g4 r2.1.1).2.1),()),())
 else
  some ((false,()),())
noncomputable def Qmt (picks_0:List Int) (who_1 lo_2:Int):Option ((Bool × Unit) × Unit):=
 Option.bind (Qxo) fun r1=>
 bif !r1.1.1 then
  some ((false,()),())
 else
 bif decide ((picks_0.length:Int)>150) then
  some ((true,()),())
 else
  Option.bind (Qur picks_0 (IntKind.wrap .i64 (2+(IntKind.wrap .i64 (Int.tmod who_1 7))))) fun r2=>
  bif (g9 (g3 r2.1.1))==0 then
   some ((true,()),())
  else
  bif (g9 (g3 r2.1.1))==(IntKind.wrap .i64 (2+(IntKind.wrap .i64 (Int.tmod who_1 7)))) then
   some ((true,()),())
  else
  bif (g9 (g3 r2.1.1)) != 1 then
   Option.bind (Qsm (2,(g9 (g3 r2.1.1)),IntKind.wrap .i64 (2+(IntKind.wrap .i64 (Int.tmod who_1 7))),9,0,0,[1,(g9 (g3 r2.1.1))],IntKind.wrap .i64 (1+(IntKind.wrap .i64 (Int.tmod lo_2 30))),0,(⟨#[]⟩:ByteArray))) fun r3=>
   Qnd r2 r3 lo_2
  else
   Option.bind (Qsm (2,(g9 (g3 r2.1.1)),IntKind.wrap .i64 (2+(IntKind.wrap .i64 (Int.tmod who_1 7))),9,0,0,[1],IntKind.wrap .i64 (1+(IntKind.wrap .i64 (Int.tmod lo_2 30))),0,(⟨#[]⟩:ByteArray))) fun r6=>
   Qnd r2 r6 lo_2
noncomputable def Z39:Ent:=⟨[.val t25,.val t5,.val t5],[⟨t4,[false],none⟩],fun x=>Qmt x.1 x.2.1 x.2.2.1⟩
theorem Z01:GD 5 Z39:=fnk 1 (fo [[0,1,2,29,30,31,32,33,69,70,71,77,78,79,80,81,82,83,84,85,98,99,100,101,102,103,104,114,115,116,117,118,119,120,121,122,123,124],[0,1,2,13,29,30,31,32,33,69,70,71,77,78,79,80,81,82,83,84,85,98,99,100,101,102,103,104,114,115,116,117,118,119,120,121,122,123,124],[6],[0,1,2,16,29,30,31,32,33,69,70,71,77,78,79,80,81,82,83,84,85,98,99,100,101,102,103,104,114,115,116,117,118,119,120,121,122,123,124],[6],[0,2,7,29,30,31,32,33,69,70,71,77,78,79,80,81,82,83,84,85,98,99,100,101,102,103,104,114,115,116,117,118,119,120,121,122,123,124],[2,7,8,29,30,31,32,33,69,70,71,77,78,79,80,81,82,83,84,85,98,99,100,101,102,103,104,114,115,116,117,118,119,120,121,122,123,124],[2,7,8,34,69,70,71,77,78,79,80,81,82,83,84,85,98,99,100,101,102,103,104,114,115,116,117,118,119,120,121,122,123,124],[6],[8,9,69,70,71,77,78,79,80,81,82,83,84,85,98,99,100,101,102,103,104,114,115,116,117,118,119,120,121,122,123,124],[8,9,47,69,70,71,77,78,79,80,81,82,83,84,85,98,99,100,101,102,103,104,114,115,116,117,118,119,120,121,122,123,124],[8,9,69,70,71,77,78,79,80,81,82,83,84,85,98,99,100,101,102,103,104,114,115,116,117,118,119,120,121,122,123,124],[8,9,10,11,69,70,71,77,78,79,80,81,82,83,84,85,98,99,100,101,102,103,104,114,115,116,117,118,119,120,121,122,123,124],[8,9,10,11,64,69,70,71,77,78,79,80,81,82,83,84,85,98,99,100,101,102,103,104,114,115,116,117,118,119,120,121,122,123,124],[6],[8,9,10,86,98,99,100,101,102,103,104,114,115,116,117,118,119,120,121,122,123,124],[6],[8,9,10,90,98,99,100,101,102,103,104,114,115,116,117,118,119,120,121,122,123,124],[6],[6]]) (Qjy Z6j (Qjy Z3h (Qjy Z7x (Qjy Z6u (Qjy Z5i Qk3))))) Tryz.func5
end Go.PE
