/-
  Functions of the program, each as the evaluator answers it, and its contract.
  Conditions: none.
-/
import Derived.Test.YtmfiijdlhjajcaaGreatDoorNodeDeafF1
set_option linter.unusedVariables false
set_option maxRecDepth 100000
namespace Go.PE
open Go.Proofs
noncomputable def Ql7 (t_0:Int × Int × Int × Int × Int × Int × (List Int) × Int × Int × Int × Int × Int × List Qky):Option ((Bool × Unit) × Unit):=
 bif t_0.1==1 then
  some ((true,()),())
 else
 bif (g3 t_0) != 0 then
  some ((decide (IntKind.wrap .i64 (t_0.2.2.1 - (g8 t_0))≤20),()),())
 else
  some ((false,()),())
noncomputable def Z18:Ent:=⟨[.val t30],[⟨t4,[false],none⟩],fun x=>Ql7 x.1⟩
theorem Qxn:GD 124 Z18:=fnk 1 (fo [[1,7,8,9,10,11,12,13,14,15,16,17],[2]]) Qk3 Tryz.func124
noncomputable def Ql3 (t_0:Int × Int × Int × Int × Int × Int × (List Int) × Int × Int × Int × Int × Int × List Qky) (step_1:Int):Option ((Qt7 × Unit) × Unit):=
 some (((u11 (u9 (u6 (u4 (u3 t_0 0) 0) []) 0) step_1),()),())
noncomputable def Z5c:Ent:=⟨[.val t30,.val t2],[⟨t30,(nF 13),none⟩],fun x=>Ql3 x.1 x.2.1⟩
theorem Qzo:GD 125 Z5c:=fnk 1 (fo [[1,2,4],[2,4],[4]]) Qk3 Tryz.func125
noncomputable def Qk6 (t_0:Int × Int × Int × Int × Int × Int × (List Int) × Int × Int × Int × Int × Int × List Qky) (kind_1 to_2:Int):Option ((Qyy × Unit) × Unit):=
 some (((kind_1,t_0.1,to_2,t_0.2.1,0,0,[],0,0,(⟨#[]⟩:ByteArray)),()),())
noncomputable def Z2r:Ent:=⟨[.val t30,.val t2,.val t2],[⟨t45,(nF 6++[true,false,false,false]),none⟩],fun x=>Qk6 x.1 x.2.1 x.2.2.1⟩
theorem Qqm:GD 62 Z2r:=fnk 1 (fo [[1,2,3,6],[6]]) Qk3 Tryz.func62
noncomputable def Qn9 (t_0:Int × Int × Int × Int × Int × Int × (List Int) × Int × Int × Int × Int × Int × List Qky) (kind_1 to_2:Int):Option ((Qyy × Unit) × Unit):=
 Option.bind (Qk6 t_0 kind_1 to_2) fun r1=>
 bif Nat.ble (0+(g6 t_0).length) 1073741824 then
  some (((u6 (u5 (u4 r1.1.1 (g7 t_0)) (IntKind.wrap .i64 (t_0.2.2.1 - (g8 t_0)))) ([]++(g6 t_0))),()),())
 else none
noncomputable def Z27:Ent:=⟨[.val t30,.val t2,.val t2],[⟨t45,(nF 6++[true,false,false,false]),none⟩],fun x=>Qn9 x.1 x.2.1 x.2.2.1⟩
theorem Qym:GD 126 Z27:=fnk 1 (fo [[1,2,3,6],[3,6,7],[6,7],[6]]) (Qjy Qqm Qk3) Tryz.func126
abbrev Qkd:Type:=(Qt7 × Z9c × Unit) × Unit
noncomputable def Z3g:Ctx:=[(62,Z2r),(123,Z2p),(124,Z18),(125,Z5c),(126,Z27)]
def Qva:Fi:={ keep:=[],vty:=[(5,48)],vals:=[],live:=[(0,[1,2,36,37,38,49,50,51,52,53,72,73,74,77,78,79,80,81,113,114]),(1,[1,2,36,37,38,49,50,51,52,53,72,73,74,77,78,79,80,81,113,114]),(2,[1,2,36,37,38,49,50,51,52,53,72,73,74,77,78,79,80,81,113,114]),(3,[1,2,4,36,37,38,49,50,51,52,53,72,73,74,77,78,79,80,81,113,114]),(4,[1,2,4,5,36,37,38,49,50,51,52,53,72,73,74,77,78,79,80,81,113,114]),(5,[1,2,4,5,23,36,37,38,49,50,51,52,53,72,73,74,77,78,79,80,81,113,114]),(6,[1,2,4,5,24,113,114]),(7,[1,2,4,5,113,114]),(8,[1,2,4,5,39,49,50,51,52,53,72,73,74,77,78,79,80,81,113,114]),(9,[1,2,4,5,49,50,51,52,53,72,73,74,77,78,79,80,81,113,114]),(10,[1,2,4,5,44,49,50,51,52,53,72,73,74,77,78,79,80,81,113,114]),(11,[1,2,4,5,54,72,73,74,77,78,79,80,81,113,114]),(12,[1,2,4,5,72,73,74,77,78,79,80,81,113,114]),(13,[1,2,4,5,62,72,73,74,77,78,79,80,81,113,114]),(14,[1,2,4,5,72,73,74,77,78,79,80,81,113,114]),(15,[1,2,4,5,82,113,114]),(16,[1,2,4,5,113,114]),(17,[1,2,4,5,113,114]),(18,[1,2,5,94,113,114]),(19,[2,3]),(20,[1,2,5,99,113,114]),(21,[1,2,5,113,114]),(22,[1,2,5,6,113,114]),(23,[1,2,5,6,113,114,115]),(24,[1,2,5,6,113,114]),(25,[1,2,5,6,113,114]),(26,[2,3])] }
abbrev Qkc:Type:=Int→Int→Int→Int→Int→Int→Int→List Int→Int→Int→Int→Int→Int→Z22→Int→Int→Int→Int→Int→Int→Int→Int→Int→Int→Int→List Int→Z22→Z9c→Option Qkd
noncomputable def Qpr (arr_0:Int × Int × Int × Int × Int × Int × (List Int) × Int × Int × Int × Int × Int × List Qky) (r1:(Z22 × Unit) × Unit) (L1:Qkc):Option Qkd:=
 bif !((Int.tmod (IntKind.wrap .i64 (arr_0.2.2.1+1)) 2)==0) then
  some (((e12 (u2 arr_0 (IntKind.wrap .i64 (arr_0.2.2.1+1))) r1.1.1),[],()),())
 else
 bif (g3 arr_0) != 0 then
  Option.bind (Qk6 (e12 (u2 arr_0 (IntKind.wrap .i64 (arr_0.2.2.1+1))) r1.1.1) 4 (g3 arr_0)) fun r33=>
  L1 0 arr_0.1 arr_0.2.1 (IntKind.wrap .i64 (arr_0.2.2.1+1)) (g3 arr_0) (g4 arr_0) (g5 arr_0) (g6 arr_0) (g7 arr_0) (g8 arr_0) (g9 arr_0) (g10 arr_0) (g11 arr_0) r1.1.1 0 0 0 0 0 0 0 0 0 0 0 [] [] [r33.1.1]
 else
  L1 0 arr_0.1 arr_0.2.1 (IntKind.wrap .i64 (arr_0.2.2.1+1)) (g3 arr_0) (g4 arr_0) (g5 arr_0) (g6 arr_0) (g7 arr_0) (g8 arr_0) (g9 arr_0) (g10 arr_0) (g11 arr_0) r1.1.1 0 0 0 0 0 0 0 0 0 0 0 [] [] []
noncomputable def Qvb (r35:(Qt7 × Unit) × Unit) (arr_0:Int × Int × Int × Int × Int × Int × (List Int) × Int × Int × Int × Int × Int × List Qky) (L2:Qkc):Option Qkd:=
 Option.bind (Qk6 (u11 (u10 (u9 r35.1.1 1) (IntKind.wrap .i64 (r35.1.1.2.2.1+3))) (IntKind.wrap .i64 ((g11 r35.1.1)+1))) 1 1) fun r68=>
 bif !((Int.tmod (IntKind.wrap .i64 (arr_0.2.2.1+1)) 2)==0) then
  some (((u11 (u10 (u9 r35.1.1 1) (IntKind.wrap .i64 (r35.1.1.2.2.1+3))) (IntKind.wrap .i64 ((g11 r35.1.1)+1))),[r68.1.1],()),())
 else
 bif (g3 r35.1.1) != 0 then
  Option.bind (Qk6 (u11 (u10 (u9 r35.1.1 1) (IntKind.wrap .i64 (r35.1.1.2.2.1+3))) (IntKind.wrap .i64 ((g11 r35.1.1)+1))) 4 (g3 r35.1.1)) fun r69=>
  L2 0 r35.1.1.1 r35.1.1.2.1 r35.1.1.2.2.1 (g3 r35.1.1) (g4 r35.1.1) (g5 r35.1.1) (g6 r35.1.1) (g7 r35.1.1) (g8 r35.1.1) 1 (IntKind.wrap .i64 (r35.1.1.2.2.1+3)) (IntKind.wrap .i64 ((g11 r35.1.1)+1)) (h12 r35.1.1) 0 0 0 0 0 0 0 0 0 0 0 [] [] [r68.1.1,r69.1.1]
 else
  L2 0 r35.1.1.1 r35.1.1.2.1 r35.1.1.2.2.1 (g3 r35.1.1) (g4 r35.1.1) (g5 r35.1.1) (g6 r35.1.1) (g7 r35.1.1) (g8 r35.1.1) 1 (IntKind.wrap .i64 (r35.1.1.2.2.1+3)) (IntKind.wrap .i64 ((g11 r35.1.1)+1)) (h12 r35.1.1) 0 0 0 0 0 0 0 0 0 0 0 [] [] [r68.1.1]
noncomputable def Qps (r35:(Qt7 × Unit) × Unit) (arr_0:Int × Int × Int × Int × Int × Int × (List Int) × Int × Int × Int × Int × Int × List Qky) (L2:Qkc):Option Qkd:=
 Option.bind (Qk6 (u10 (u9 r35.1.1 1) (IntKind.wrap .i64 (r35.1.1.2.2.1+3))) 1 1) fun r76=>
 bif !((Int.tmod (IntKind.wrap .i64 (arr_0.2.2.1+1)) 2)==0) then
  some (((u10 (u9 r35.1.1 1) (IntKind.wrap .i64 (r35.1.1.2.2.1+3))),[r76.1.1],()),())
 else
 bif (g3 r35.1.1) != 0 then
  Option.bind (Qk6 (u10 (u9 r35.1.1 1) (IntKind.wrap .i64 (r35.1.1.2.2.1+3))) 4 (g3 r35.1.1)) fun r77=>
  L2 0 r35.1.1.1 r35.1.1.2.1 r35.1.1.2.2.1 (g3 r35.1.1) (g4 r35.1.1) (g5 r35.1.1) (g6 r35.1.1) (g7 r35.1.1) (g8 r35.1.1) 1 (IntKind.wrap .i64 (r35.1.1.2.2.1+3)) (g11 r35.1.1) (h12 r35.1.1) 0 0 0 0 0 0 0 0 0 0 0 [] [] [r76.1.1,r77.1.1]
 else
  L2 0 r35.1.1.1 r35.1.1.2.1 r35.1.1.2.2.1 (g3 r35.1.1) (g4 r35.1.1) (g5 r35.1.1) (g6 r35.1.1) (g7 r35.1.1) (g8 r35.1.1) 1 (IntKind.wrap .i64 (r35.1.1.2.2.1+3)) (g11 r35.1.1) (h12 r35.1.1) 0 0 0 0 0 0 0 0 0 0 0 [] [] [r76.1.1]
noncomputable def Z13 (arr_0:Int × Int × Int × Int × Int × Int × (List Int) × Int × Int × Int × Int × Int × List Qky) (r35:(Qt7 × Unit) × Unit) (L2:Qkc):Option Qkd:=
 bif !((Int.tmod (IntKind.wrap .i64 (arr_0.2.2.1+1)) 2)==0) then
  some ((r35.1.1,[],()),())
 else
 bif (g3 r35.1.1) != 0 then
  Option.bind (Qk6 r35.1.1 4 (g3 r35.1.1)) fun r82=>
  L2 0 r35.1.1.1 r35.1.1.2.1 r35.1.1.2.2.1 (g3 r35.1.1) (g4 r35.1.1) (g5 r35.1.1) (g6 r35.1.1) (g7 r35.1.1) (g8 r35.1.1) (g9 r35.1.1) (g10 r35.1.1) (g11 r35.1.1) (h12 r35.1.1) 0 0 0 0 0 0 0 0 0 0 0 [] [] [r82.1.1]
 else
  L2 0 r35.1.1.1 r35.1.1.2.1 r35.1.1.2.2.1 (g3 r35.1.1) (g4 r35.1.1) (g5 r35.1.1) (g6 r35.1.1) (g7 r35.1.1) (g8 r35.1.1) (g9 r35.1.1) (g10 r35.1.1) (g11 r35.1.1) (h12 r35.1.1) 0 0 0 0 0 0 0 0 0 0 0 [] [] []
noncomputable def Qv8 (r35:(Qt7 × Unit) × Unit) (arr_0:Int × Int × Int × Int × Int × Int × (List Int) × Int × Int × Int × Int × Int × List Qky) (L2:Qkc):Option Qkd:=
 bif (g9 r35.1.1)==0 then
  bif (g11 r35.1.1)==0 then
   bif (g5 r35.1.1) != 0 then
    bif (g5 r35.1.1) != r35.1.1.1 then
     Option.bind (Qk6 (u10 (u9 r35.1.1 (g5 r35.1.1)) (IntKind.wrap .i64 (r35.1.1.2.2.1+3))) 1 (g5 r35.1.1)) fun r74=>
     bif !((Int.tmod (IntKind.wrap .i64 (arr_0.2.2.1+1)) 2)==0) then
      some (((u10 (u9 r35.1.1 (g5 r35.1.1)) (IntKind.wrap .i64 (r35.1.1.2.2.1+3))),[r74.1.1],()),())
     else
     bif (g3 r35.1.1) != 0 then
      Option.bind (Qk6 (u10 (u9 r35.1.1 (g5 r35.1.1)) (IntKind.wrap .i64 (r35.1.1.2.2.1+3))) 4 (g3 r35.1.1)) fun r75=>
      L2 0 r35.1.1.1 r35.1.1.2.1 r35.1.1.2.2.1 (g3 r35.1.1) (g4 r35.1.1) (g5 r35.1.1) (g6 r35.1.1) (g7 r35.1.1) (g8 r35.1.1) (g5 r35.1.1) (IntKind.wrap .i64 (r35.1.1.2.2.1+3)) (g11 r35.1.1) (h12 r35.1.1) 0 0 0 0 0 0 0 0 0 0 0 [] [] [r74.1.1,r75.1.1]
     else
      L2 0 r35.1.1.1 r35.1.1.2.1 r35.1.1.2.2.1 (g3 r35.1.1) (g4 r35.1.1) (g5 r35.1.1) (g6 r35.1.1) (g7 r35.1.1) (g8 r35.1.1) (g5 r35.1.1) (IntKind.wrap .i64 (r35.1.1.2.2.1+3)) (g11 r35.1.1) (h12 r35.1.1) 0 0 0 0 0 0 0 0 0 0 0 [] [] [r74.1.1]
    else
     Qps r35 arr_0 L2
   else
    Qps r35 arr_0 L2
  else
   Qps r35 arr_0 L2
 else
  Z13 arr_0 r35 L2
noncomputable def Qpq (arr_0:Int × Int × Int × Int × Int × Int × (List Int) × Int × Int × Int × Int × Int × List Qky) (r1:(Z22 × Unit) × Unit) (L1:Qkc):Option Qkd:=
 Option.bind (Qk6 (e12 (u11 (u10 (u9 (u2 arr_0 (IntKind.wrap .i64 (arr_0.2.2.1+1))) 1) (IntKind.wrap .i64 ((IntKind.wrap .i64 (arr_0.2.2.1+1))+3))) (IntKind.wrap .i64 ((g11 arr_0)+1))) r1.1.1) 1 1) fun r95=>
 bif !((Int.tmod (IntKind.wrap .i64 (arr_0.2.2.1+1)) 2)==0) then
  some (((e12 (u11 (u10 (u9 (u2 arr_0 (IntKind.wrap .i64 (arr_0.2.2.1+1))) 1) (IntKind.wrap .i64 ((IntKind.wrap .i64 (arr_0.2.2.1+1))+3))) (IntKind.wrap .i64 ((g11 arr_0)+1))) r1.1.1),[r95.1.1],()),())
 else
 bif (g3 arr_0) != 0 then
  Option.bind (Qk6 (e12 (u11 (u10 (u9 (u2 arr_0 (IntKind.wrap .i64 (arr_0.2.2.1+1))) 1) (IntKind.wrap .i64 ((IntKind.wrap .i64 (arr_0.2.2.1+1))+3))) (IntKind.wrap .i64 ((g11 arr_0)+1))) r1.1.1) 4 (g3 arr_0)) fun r96=>
  L1 0 arr_0.1 arr_0.2.1 (IntKind.wrap .i64 (arr_0.2.2.1+1)) (g3 arr_0) (g4 arr_0) (g5 arr_0) (g6 arr_0) (g7 arr_0) (g8 arr_0) 1 (IntKind.wrap .i64 ((IntKind.wrap .i64 (arr_0.2.2.1+1))+3)) (IntKind.wrap .i64 ((g11 arr_0)+1)) r1.1.1 0 0 0 0 0 0 0 0 0 0 0 [] [] [r95.1.1,r96.1.1]
 else
  L1 0 arr_0.1 arr_0.2.1 (IntKind.wrap .i64 (arr_0.2.2.1+1)) (g3 arr_0) (g4 arr_0) (g5 arr_0) (g6 arr_0) (g7 arr_0) (g8 arr_0) 1 (IntKind.wrap .i64 ((IntKind.wrap .i64 (arr_0.2.2.1+1))+3)) (IntKind.wrap .i64 ((g11 arr_0)+1)) r1.1.1 0 0 0 0 0 0 0 0 0 0 0 [] [] [r95.1.1]
noncomputable def Qpu (arr_0:Int × Int × Int × Int × Int × Int × (List Int) × Int × Int × Int × Int × Int × List Qky) (r1:(Z22 × Unit) × Unit) (L1:Qkc):Option Qkd:=
 Option.bind (Qk6 (e12 (u10 (u9 (u2 arr_0 (IntKind.wrap .i64 (arr_0.2.2.1+1))) 1) (IntKind.wrap .i64 ((IntKind.wrap .i64 (arr_0.2.2.1+1))+3))) r1.1.1) 1 1) fun r103=>
 bif !((Int.tmod (IntKind.wrap .i64 (arr_0.2.2.1+1)) 2)==0) then
  some (((e12 (u10 (u9 (u2 arr_0 (IntKind.wrap .i64 (arr_0.2.2.1+1))) 1) (IntKind.wrap .i64 ((IntKind.wrap .i64 (arr_0.2.2.1+1))+3))) r1.1.1),[r103.1.1],()),())
 else
 bif (g3 arr_0) != 0 then
  Option.bind (Qk6 (e12 (u10 (u9 (u2 arr_0 (IntKind.wrap .i64 (arr_0.2.2.1+1))) 1) (IntKind.wrap .i64 ((IntKind.wrap .i64 (arr_0.2.2.1+1))+3))) r1.1.1) 4 (g3 arr_0)) fun r104=>
  L1 0 arr_0.1 arr_0.2.1 (IntKind.wrap .i64 (arr_0.2.2.1+1)) (g3 arr_0) (g4 arr_0) (g5 arr_0) (g6 arr_0) (g7 arr_0) (g8 arr_0) 1 (IntKind.wrap .i64 ((IntKind.wrap .i64 (arr_0.2.2.1+1))+3)) (g11 arr_0) r1.1.1 0 0 0 0 0 0 0 0 0 0 0 [] [] [r103.1.1,r104.1.1]
 else
  L1 0 arr_0.1 arr_0.2.1 (IntKind.wrap .i64 (arr_0.2.2.1+1)) (g3 arr_0) (g4 arr_0) (g5 arr_0) (g6 arr_0) (g7 arr_0) (g8 arr_0) 1 (IntKind.wrap .i64 ((IntKind.wrap .i64 (arr_0.2.2.1+1))+3)) (g11 arr_0) r1.1.1 0 0 0 0 0 0 0 0 0 0 0 [] [] [r103.1.1]
noncomputable def Qsh (arr_0:Int × Int × Int × Int × Int × Int × (List Int) × Int × Int × Int × Int × Int × List Qky) (r1:(Z22 × Unit) × Unit) (L1:Qkc):Option Qkd:=
 bif (g9 arr_0)==0 then
  bif (g11 arr_0)==0 then
   bif (g5 arr_0) != 0 then
    bif (g5 arr_0) != arr_0.1 then
     Option.bind (Qk6 (e12 (u10 (u9 (u2 arr_0 (IntKind.wrap .i64 (arr_0.2.2.1+1))) (g5 arr_0)) (IntKind.wrap .i64 ((IntKind.wrap .i64 (arr_0.2.2.1+1))+3))) r1.1.1) 1 (g5 arr_0)) fun r101=>
     bif !((Int.tmod (IntKind.wrap .i64 (arr_0.2.2.1+1)) 2)==0) then
      some (((e12 (u10 (u9 (u2 arr_0 (IntKind.wrap .i64 (arr_0.2.2.1+1))) (g5 arr_0)) (IntKind.wrap .i64 ((IntKind.wrap .i64 (arr_0.2.2.1+1))+3))) r1.1.1),[r101.1.1],()),())
     else
     bif (g3 arr_0) != 0 then
      Option.bind (Qk6 (e12 (u10 (u9 (u2 arr_0 (IntKind.wrap .i64 (arr_0.2.2.1+1))) (g5 arr_0)) (IntKind.wrap .i64 ((IntKind.wrap .i64 (arr_0.2.2.1+1))+3))) r1.1.1) 4 (g3 arr_0)) fun r102=>
      L1 0 arr_0.1 arr_0.2.1 (IntKind.wrap .i64 (arr_0.2.2.1+1)) (g3 arr_0) (g4 arr_0) (g5 arr_0) (g6 arr_0) (g7 arr_0) (g8 arr_0) (g5 arr_0) (IntKind.wrap .i64 ((IntKind.wrap .i64 (arr_0.2.2.1+1))+3)) (g11 arr_0) r1.1.1 0 0 0 0 0 0 0 0 0 0 0 [] [] [r101.1.1,r102.1.1]
     else
      L1 0 arr_0.1 arr_0.2.1 (IntKind.wrap .i64 (arr_0.2.2.1+1)) (g3 arr_0) (g4 arr_0) (g5 arr_0) (g6 arr_0) (g7 arr_0) (g8 arr_0) (g5 arr_0) (IntKind.wrap .i64 ((IntKind.wrap .i64 (arr_0.2.2.1+1))+3)) (g11 arr_0) r1.1.1 0 0 0 0 0 0 0 0 0 0 0 [] [] [r101.1.1]
    else
     Qpu arr_0 r1 L1
   else
    Qpu arr_0 r1 L1
  else
   Qpu arr_0 r1 L1
 else
  Qpr arr_0 r1 L1
noncomputable def Qs8 (arr_0:Int × Int × Int × Int × Int × Int × (List Int) × Int × Int × Int × Int × Int × List Qky) (r1:(Z22 × Unit) × Unit) (L1:Qkc):Option Qkd:=
 bif (g3 arr_0)==0 then
  bif (g9 arr_0) != 0 then
   bif decide (IntKind.wrap .i64 (arr_0.2.2.1+1) ≥ (g10 arr_0)) then
    bif (IntKind.wrap .i64 ((g11 arr_0)+1))==0 then
     bif (g5 arr_0) != 0 then
      bif (g5 arr_0) != arr_0.1 then
       Option.bind (Qk6 (e12 (u11 (u10 (u9 (u2 arr_0 (IntKind.wrap .i64 (arr_0.2.2.1+1))) (g5 arr_0)) (IntKind.wrap .i64 ((IntKind.wrap .i64 (arr_0.2.2.1+1))+3))) (IntKind.wrap .i64 ((g11 arr_0)+1))) r1.1.1) 1 (g5 arr_0)) fun r93=>
       bif !((Int.tmod (IntKind.wrap .i64 (arr_0.2.2.1+1)) 2)==0) then
        some (((e12 (u11 (u10 (u9 (u2 arr_0 (IntKind.wrap .i64 (arr_0.2.2.1+1))) (g5 arr_0)) (IntKind.wrap .i64 ((IntKind.wrap .i64 (arr_0.2.2.1+1))+3))) (IntKind.wrap .i64 ((g11 arr_0)+1))) r1.1.1),[r93.1.1],()),())
       else
       bif (g3 arr_0) != 0 then
        Option.bind (Qk6 (e12 (u11 (u10 (u9 (u2 arr_0 (IntKind.wrap .i64 (arr_0.2.2.1+1))) (g5 arr_0)) (IntKind.wrap .i64 ((IntKind.wrap .i64 (arr_0.2.2.1+1))+3))) (IntKind.wrap .i64 ((g11 arr_0)+1))) r1.1.1) 4 (g3 arr_0)) fun r94=>
        L1 0 arr_0.1 arr_0.2.1 (IntKind.wrap .i64 (arr_0.2.2.1+1)) (g3 arr_0) (g4 arr_0) (g5 arr_0) (g6 arr_0) (g7 arr_0) (g8 arr_0) (g5 arr_0) (IntKind.wrap .i64 ((IntKind.wrap .i64 (arr_0.2.2.1+1))+3)) (IntKind.wrap .i64 ((g11 arr_0)+1)) r1.1.1 0 0 0 0 0 0 0 0 0 0 0 [] [] [r93.1.1,r94.1.1]
       else
        L1 0 arr_0.1 arr_0.2.1 (IntKind.wrap .i64 (arr_0.2.2.1+1)) (g3 arr_0) (g4 arr_0) (g5 arr_0) (g6 arr_0) (g7 arr_0) (g8 arr_0) (g5 arr_0) (IntKind.wrap .i64 ((IntKind.wrap .i64 (arr_0.2.2.1+1))+3)) (IntKind.wrap .i64 ((g11 arr_0)+1)) r1.1.1 0 0 0 0 0 0 0 0 0 0 0 [] [] [r93.1.1]
      else
       Qpq arr_0 r1 L1
     else
      Qpq arr_0 r1 L1
    else
     Qpq arr_0 r1 L1
   else
    Qsh arr_0 r1 L1
  else
   Qsh arr_0 r1 L1
 else
  Qpr arr_0 r1 L1
noncomputable def Qni (L1:Qkc) (v3 v4 v5 v6 v7 v8 v9:Int) (v10:List Int) (v11 v12 v13 v14 v15:Int) (v16:List Qky) (v17 v18 v19 v20 v21 v22 v23 v24 v25 v26 v27:Int) (v28:List Int) (v29:List Qky) (v30:List Qyy):Option Qkd:=
 bif decide (v3<(v16.length:Int)) then
  Option.bind (Ql7 (v4,v5,v6,v7,v8,v9,v10,v11,v12,v13,v14,v15,v16)) fun r31=>
  bif r31.1.1 then
   bif decide (0≤v3)&&decide (v3<(v16.length:Int)) then
    bif decide (0≤v3)&&decide (v3<(v16.length:Int)) then
     Option.bind (Qn9 (v4,v5,v6,v7,v8,v9,v10,v11,v12,v13,v14,v15,v16) 5 ((List.getD v16 v3.toNat (0,0,0)).1)) fun r32=>
     bif Nat.ble (v30.length+1) 1073741824 then
      L1 (IntKind.wrap .i64 (v3+1)) v4 v5 v6 v7 v8 v9 v10 v11 v12 v13 v14 v15 v16 v17 v18 v19 v20 v21 v22 v23 v24 v25 v26 v27 v28 v29 (v30++[r32.1.1])
     else none
    else none
   else none
  else
   some (((v4,v5,v6,v7,v8,v9,v10,v11,v12,v13,v14,v15,v16),v30,()),())
 else
  some (((v4,v5,v6,v7,v8,v9,v10,v11,v12,v13,v14,v15,v16),v30,()),())
noncomputable def Qnl (L2:Qkc) (v38 v39 v40 v41 v42 v43 v44:Int) (v45:List Int) (v46 v47 v48 v49 v50:Int) (v51:List Qky) (v52 v53 v54 v55 v56 v57 v58 v59 v60 v61 v62:Int) (v63:List Int) (v64:List Qky) (v65:List Qyy):Option Qkd:=
 bif decide (v38<(v51.length:Int)) then
  Option.bind (Ql7 (v39,v40,v41,v42,v43,v44,v45,v46,v47,v48,v49,v50,v51)) fun r66=>
  bif r66.1.1 then
   bif decide (0≤v38)&&decide (v38<(v51.length:Int)) then
    Option.bind (Qn9 (v39,v40,v41,v42,v43,v44,v45,v46,v47,v48,v49,v50,v51) 5 ((List.getD v51 v38.toNat (0,0,0)).1)) fun r67=>
    bif Nat.ble (v65.length+1) 1073741824 then
     L2 (IntKind.wrap .i64 (v38+1)) v39 v40 v41 v42 v43 v44 v45 v46 v47 v48 v49 v50 v51 v52 v53 v54 v55 v56 v57 v58 v59 v60 v61 v62 v63 v64 (v65++[r67.1.1])
    else none
   else none
  else
   some (((v39,v40,v41,v42,v43,v44,v45,v46,v47,v48,v49,v50,v51),v65,()),())
 else
  some (((v39,v40,v41,v42,v43,v44,v45,v46,v47,v48,v49,v50,v51),v65,()),())
noncomputable def Qoc (L1 L2:Qkc) (arr_0:Int × Int × Int × Int × Int × Int × (List Int) × Int × Int × Int × Int × Int × List Qky):Option Qkd:=
 Option.bind (Qz0 (h12 arr_0) (IntKind.wrap .i64 (arr_0.2.2.1+1))) fun r1=>
 bif arr_0.1==1 then
  bif (Int.tmod (IntKind.wrap .i64 (arr_0.2.2.1+1)) 2)==0 then
   bif !((Int.tmod (IntKind.wrap .i64 (arr_0.2.2.1+1)) 2)==0) then
    some (((e12 (u8 (u7 (u2 arr_0 (IntKind.wrap .i64 (arr_0.2.2.1+1))) (IntKind.wrap .i64 ((g7 arr_0)+1))) (IntKind.wrap .i64 (arr_0.2.2.1+1))) r1.1.1),[],()),())
   else
   bif (g3 arr_0) != 0 then
    Option.bind (Qk6 (e12 (u8 (u7 (u2 arr_0 (IntKind.wrap .i64 (arr_0.2.2.1+1))) (IntKind.wrap .i64 ((g7 arr_0)+1))) (IntKind.wrap .i64 (arr_0.2.2.1+1))) r1.1.1) 4 (g3 arr_0)) fun r2=>
    L1 0 arr_0.1 arr_0.2.1 (IntKind.wrap .i64 (arr_0.2.2.1+1)) (g3 arr_0) (g4 arr_0) (g5 arr_0) (g6 arr_0) (IntKind.wrap .i64 ((g7 arr_0)+1)) (IntKind.wrap .i64 (arr_0.2.2.1+1)) (g9 arr_0) (g10 arr_0) (g11 arr_0) r1.1.1 0 0 0 0 0 0 0 0 0 0 0 [] [] [r2.1.1]
   else
    L1 0 arr_0.1 arr_0.2.1 (IntKind.wrap .i64 (arr_0.2.2.1+1)) (g3 arr_0) (g4 arr_0) (g5 arr_0) (g6 arr_0) (IntKind.wrap .i64 ((g7 arr_0)+1)) (IntKind.wrap .i64 (arr_0.2.2.1+1)) (g9 arr_0) (g10 arr_0) (g11 arr_0) r1.1.1 0 0 0 0 0 0 0 0 0 0 0 [] [] []
  else
   Qpr arr_0 r1 L1
 else
 bif (g3 arr_0) != 0 then
  Option.bind (Ql7 (e12 (u2 arr_0 (IntKind.wrap .i64 (arr_0.2.2.1+1))) r1.1.1)) fun r34=>
  bif !r34.1.1 then
   Option.bind (Ql3 (e12 (u2 arr_0 (IntKind.wrap .i64 (arr_0.2.2.1+1))) r1.1.1) 0) fun r35=>
   bif (g3 r35.1.1)==0 then
    bif (g9 r35.1.1) != 0 then
     bif decide (r35.1.1.2.2.1 ≥ (g10 r35.1.1)) then
      bif (IntKind.wrap .i64 ((g11 r35.1.1)+1))==0 then
       bif (g5 r35.1.1) != 0 then
        bif (g5 r35.1.1) != r35.1.1.1 then
         Option.bind (Qk6 (u11 (u10 (u9 r35.1.1 (g5 r35.1.1)) (IntKind.wrap .i64 (r35.1.1.2.2.1+3))) (IntKind.wrap .i64 ((g11 r35.1.1)+1))) 1 (g5 r35.1.1)) fun r36=>
         bif !((Int.tmod (IntKind.wrap .i64 (arr_0.2.2.1+1)) 2)==0) then
          some (((u11 (u10 (u9 r35.1.1 (g5 r35.1.1)) (IntKind.wrap .i64 (r35.1.1.2.2.1+3))) (IntKind.wrap .i64 ((g11 r35.1.1)+1))),[r36.1.1],()),())
         else
         bif (g3 r35.1.1) != 0 then
          Option.bind (Qk6 (u11 (u10 (u9 r35.1.1 (g5 r35.1.1)) (IntKind.wrap .i64 (r35.1.1.2.2.1+3))) (IntKind.wrap .i64 ((g11 r35.1.1)+1))) 4 (g3 r35.1.1)) fun r37=>
          L2 0 r35.1.1.1 r35.1.1.2.1 r35.1.1.2.2.1 (g3 r35.1.1) (g4 r35.1.1) (g5 r35.1.1) (g6 r35.1.1) (g7 r35.1.1) (g8 r35.1.1) (g5 r35.1.1) (IntKind.wrap .i64 (r35.1.1.2.2.1+3)) (IntKind.wrap .i64 ((g11 r35.1.1)+1)) (h12 r35.1.1) 0 0 0 0 0 0 0 0 0 0 0 [] [] [r36.1.1,r37.1.1]
         else
          L2 0 r35.1.1.1 r35.1.1.2.1 r35.1.1.2.2.1 (g3 r35.1.1) (g4 r35.1.1) (g5 r35.1.1) (g6 r35.1.1) (g7 r35.1.1) (g8 r35.1.1) (g5 r35.1.1) (IntKind.wrap .i64 (r35.1.1.2.2.1+3)) (IntKind.wrap .i64 ((g11 r35.1.1)+1)) (h12 r35.1.1) 0 0 0 0 0 0 0 0 0 0 0 [] [] [r36.1.1]
        else
         Qvb r35 arr_0 L2
       else
        Qvb r35 arr_0 L2
      else
       Qvb r35 arr_0 L2
     else
      Qv8 r35 arr_0 L2
    else
     Qv8 r35 arr_0 L2
   else
    Z13 arr_0 r35 L2
  else
   Qs8 arr_0 r1 L1
 else
  Qs8 arr_0 r1 L1
noncomputable def Qll (n:Nat):Nat→Qkc:=iter (fun _ _ _ _ _ _ _ _ _ _ _ _ _ _ _ _ _ _ _ _ _ _ _ _ _ _ _ _=>none) fun L=>Qni L
noncomputable def Qli (n:Nat):Nat→Qkc:=iter (fun _ _ _ _ _ _ _ _ _ _ _ _ _ _ _ _ _ _ _ _ _ _ _ _ _ _ _ _=>none) fun L=>Qnl L
noncomputable def Qsa (n m:Nat) (v3 v4 v5 v6 v7 v8 v9:Int) (v10:List Int) (v11 v12 v13 v14 v15:Int) (v16:List Qky) (v17 v18 v19 v20 v21 v22 v23 v24 v25 v26 v27:Int) (v28:List Int) (v29:List Qky) (v30:List Qyy):Option Qkd:=
 Qjv Z3g tab (fiB [.val t30] Qva) n [.val t30] [⟨t30,(nF 13),none⟩,⟨t48,[true],none⟩] Tryz.f60 [1,1,1,1,1,1,1,1,0,1,0] [] [1,2,5,6] m
 ⟨[(1,V1 (.ptr (1,0) 0)),(2,V1 (.ptr (2,0) 0)),(5,V1 (.ref (888888,5))),(6,Vp t2 v3)],[((1,0),Ob.box 31 [LV.pure t2 v4,LV.pure t2 v5,LV.pure t2 v6,LV.pure t2 v7,LV.pure t2 v8,LV.pure t2 v9,LV.pure t28 v10,LV.pure t2 v11,LV.pure t2 v12,LV.pure t2 v13,LV.pure t2 v14,LV.pure t2 v15,LV.ref (1,13)]),((1,13),Ob.row 53 t52 v16),((2,0),Ob.box 31 [LV.pure t2 v17,LV.pure t2 v18,LV.pure t2 v19,LV.pure t2 v20,LV.pure t2 v21,LV.pure t2 v22,LV.ref (2,7),LV.pure t2 v23,LV.pure t2 v24,LV.pure t2 v25,LV.pure t2 v26,LV.pure t2 v27,LV.ref (2,13)]),((2,7),Ob.row 3 t2 v28),((2,13),Ob.row 53 t52 v29),((888888,5),Ob.row 46 t45 v30)]⟩
noncomputable def Qs9 (n m:Nat) (v38 v39 v40 v41 v42 v43 v44:Int) (v45:List Int) (v46 v47 v48 v49 v50:Int) (v51:List Qky) (v52 v53 v54 v55 v56 v57 v58 v59 v60 v61 v62:Int) (v63:List Int) (v64:List Qky) (v65:List Qyy):Option Qkd:=
 Qjv Z3g tab (fiB [.val t30] Qva) n [.val t30] [⟨t30,(nF 13),none⟩,⟨t48,[true],none⟩] Tryz.f60 [1,1,1,1,1,1,1,1,0,1,0] [] [1,2,5,6] m
 ⟨[(1,V1 (.ptr (1,0) 0)),(2,V1 (.ptr (2,0) 0)),(5,V1 (.ref (888888,5))),(6,Vp t2 v38)],[((1,0),Ob.box 31 [LV.pure t2 v39,LV.pure t2 v40,LV.pure t2 v41,LV.pure t2 v42,LV.pure t2 v43,LV.pure t2 v44,LV.pure t28 v45,LV.pure t2 v46,LV.pure t2 v47,LV.pure t2 v48,LV.pure t2 v49,LV.pure t2 v50,LV.pure t29 v51]),((2,0),Ob.box 31 [LV.pure t2 v52,LV.pure t2 v53,LV.pure t2 v54,LV.pure t2 v55,LV.pure t2 v56,LV.pure t2 v57,LV.ref (2,7),LV.pure t2 v58,LV.pure t2 v59,LV.pure t2 v60,LV.pure t2 v61,LV.pure t2 v62,LV.ref (2,13)]),((2,7),Ob.row 3 t2 v63),((2,13),Ob.row 53 t52 v64),((888888,5),Ob.row 46 t45 v65)]⟩
theorem Qzd (n:Nat):∀ m,Qsa n m=Qll n m
 | 0=>rfl
 | m+1=>by rw [show Qsa n (m+1)=Qni (Qsa n m) from by kernel_rfl,Qzd n m];rfl
theorem Qze (n:Nat):∀ m,Qs9 n m=Qli n m
 | 0=>rfl
 | m+1=>by rw [show Qs9 n (m+1)=Qnl (Qs9 n m) from by kernel_rfl,Qze n m];rfl
noncomputable def Z2j (n:Nat) (arr_0:Int × Int × Int × Int × Int × Int × (List Int) × Int × Int × Int × Int × Int × List Qky):Option Qkd:=Qoc (Qll n n) (Qli n n) arr_0
noncomputable def Quz (arr_0:Int × Int × Int × Int × Int × Int × (List Int) × Int × Int × Int × Int × Int × List Qky):Option Qkd:=Z2j 1099511627776 arr_0
noncomputable def Z2s:Ent:=⟨[.val t30],[⟨t30,(nF 13),none⟩,⟨t48,[true],none⟩],fun x=>Quz x.1⟩
theorem Z8a:GD 60 Z2s:=fnl Qva (fun n x=>Z2j n x.1) (Qjy Qqm (Qjy Z8b (Qjy Qxn (Qjy Qzo (Qjy Qym Qk3))))) Tryz.func60 fun n x=>Eq.trans (b:=Qoc (Qsa n n) (Qs9 n n) x.1) (by kernel_rfl) (by rw [Qzd n n,Qze n n];rfl)
abbrev Qqb:Type:=(Bool × Unit) × Unit
noncomputable def Zfy:Ctx:=[]
def Z56:Fi:=fo [[0,1],[0,1,5],[0,1,5,9],[0,1,5],[0,1,5,17],[4],[4]]
abbrev Qxx:Type:=List Int→Int→Int→Option Qqb
noncomputable def Qpc (L1:Qxx) (v1:List Int) (v2 v3:Int):Option Qqb:=
 bif decide (v3<(v1.length:Int)) then
  bif decide (0≤v3)&&decide (v3<(v1.length:Int)) then
   bif (List.getD v1 v3.toNat 0)==v2 then
    some ((true,()),())
   else
    L1 v1 v2 (IntKind.wrap .i64 (v3+1))
  else none
 else
  some ((false,()),())
noncomputable def Z6o (L1:Qxx) (p_0:List Int) (id_1:Int):Option Qqb:=
 L1 p_0 id_1 0
noncomputable def Qrj (n:Nat):Nat→Qxx:=iter (fun _ _ _=>none) fun L=>Qpc L
noncomputable def Qtu (n m:Nat) (v1:List Int) (v2 v3:Int):Option Qqb:=
 Qjv Zfy tab (fiB [.val t28,.val t2] Z56) n [.val t28,.val t2] [⟨t4,[false],none⟩] Tryz.f135 [1,0,1,0] [] [0,1,5] m
 ⟨[(0,Vp t28 v1),(1,Vp t2 v2),(5,Vp t2 v3)],[]⟩
theorem Z2o (n:Nat):∀ m,Qtu n m=Qrj n m
 | 0=>rfl
 | m+1=>by rw [show Qtu n (m+1)=Qpc (Qtu n m) from by kernel_rfl,Z2o n m];rfl
noncomputable def Z6n (n:Nat) (p_0:List Int) (id_1:Int):Option Qqb:=Z6o (Qrj n n) p_0 id_1
noncomputable def Qqy (p_0:List Int) (id_1:Int):Option Qqb:=Z6n 1099511627776 p_0 id_1
noncomputable def Z6s:Ent:=⟨[.val t28,.val t2],[⟨t4,[false],none⟩],fun x=>Qqy x.1 x.2.1⟩
theorem Z0x:GD 135 Z6s:=fnl Z56 (fun n x=>Z6n n x.1 x.2.1) Qk3 Tryz.func135 fun n x=>Eq.trans (b:=Z6o (Qtu n n) x.1 x.2.1) (by kernel_rfl) (by rw [Z2o n n];rfl)
abbrev Qmx:Type:=(Bool × Unit) × Unit
noncomputable def Z9x:Ctx:=[(135,Z6s)]
def Qyd:Fi:=fo [[0,8,9,10,13,14,15,16,30,31,32,33,34,37,38,39,40,41,42,43,44],[0,17,30,31,32,33,34,37,38,39,40,41,42,43,44],[2],[0,3,30,31,32,33,34,37,38,39,40,41,42,43,44],[0,3,21,30,31,32,33,34,37,38,39,40,41,42,43,44],[0,3,30,31,32,33,34,37,38,39,40,41,42,43,44],[0,3,30,31,32,33,34,37,38,39,40,41,42,43,44,45],[2],[2]]
abbrev Qte:Type:=List Int→Int→Option Qmx
noncomputable def Qmj (L1:Qte) (v1:List Int) (v2:Int):Option Qmx:=
 bif decide (v2<(v1.length:Int)) then
  bif decide (0≤v2)&&decide (v2<(v1.length:Int)) then
   bif decide (List.getD v1 v2.toNat 0<1) then
    some ((false,()),())
   else
   bif decide (0≤v2)&&decide (v2<(v1.length:Int)) then
    bif decide (List.getD v1 v2.toNat 0>8) then
     some ((false,()),())
    else
    bif decide (0≤v2)&&decide (v2≤(v1.length:Int)) then
     bif decide (0≤v2)&&decide (v2<(v1.length:Int)) then
      Option.bind (Qqy (List.drop 0 (List.take v2.toNat v1)) (List.getD v1 v2.toNat 0)) fun r3=>
      bif r3.1.1 then
       some ((false,()),())
      else
       L1 v1 (IntKind.wrap .i64 (v2+1))
     else none
    else none
   else none
  else none
 else
  some ((true,()),())
noncomputable def Qr4 (L1:Qte) (p_0:List Int):Option Qmx:=
 bif decide ((p_0.length:Int)<1) then
  some ((false,()),())
 else
 bif decide ((p_0.length:Int)>10) then
  some ((false,()),())
 else
 bif decide (0<(p_0.length:Int)) then
  bif (List.getD p_0 0 0) != 1 then
   some ((false,()),())
  else
   L1 p_0 0
 else none
noncomputable def Qmi (n:Nat):Nat→Qte:=iter (fun _ _=>none) fun L=>Qmj L
noncomputable def Qqc (n m:Nat) (v1:List Int) (v2:Int):Option Qmx:=
 Qjv Z9x tab (fiB [.val t28] Qyd) n [.val t28] [⟨t4,[false],none⟩] Tryz.f105 [1,1,0,1,0] [] [0,3] m
 ⟨[(0,Vp t28 v1),(3,Vp t2 v2)],[]⟩
theorem Qx3 (n:Nat):∀ m,Qqc n m=Qmi n m
 | 0=>rfl
 | m+1=>by rw [show Qqc n (m+1)=Qmj (Qqc n m) from by kernel_rfl,Qx3 n m];rfl
noncomputable def Qzf (n:Nat) (p_0:List Int):Option Qmx:=Qr4 (Qmi n n) p_0
noncomputable def Qo0 (p_0:List Int):Option Qmx:=Qzf 1099511627776 p_0
noncomputable def Za0:Ent:=⟨[.val t28],[⟨t4,[false],none⟩],fun x=>Qo0 x.1⟩
theorem Qwj:GD 105 Za0:=fnl Qyd (fun n x=>Qzf n x.1) (Qjy Z0x Qk3) Tryz.func105 fun n x=>Eq.trans (b:=Qr4 (Qqc n n) x.1) (by kernel_rfl) (by rw [Qx3 n n];rfl)
noncomputable def Qmr (p_0:List Int) (id_1:Int):Option (((List Int) × Bool × Unit) × Unit):=
 bif Nat.ble (0+p_0.length) 1073741824 then
  bif Nat.ble (([]++p_0).length+1) 1073741824 then
   Option.bind (Qo0 (([]++p_0)++[id_1])) fun r1=>
   bif !r1.1.1 then
    some (([],false,()),())
   else
    some ((([]++p_0)++[id_1],true,()),())
  else none
 else none
noncomputable def Qzx:Ent:=⟨[.val t28,.val t2],[⟨t28,[true],none⟩,⟨t4,[false],none⟩],fun x=>Qmr x.1 x.2.1⟩
theorem Qs2:GD 85 Qzx:=fnk 1 (fo [[0,1],[6],[6,15],[4,5],[4,5]]) (Qjy Qwj Qk3) Tryz.func85
abbrev Qlx:Type:=((List Int) × Unit) × (Zfr × Unit)
noncomputable def Z65:Ctx:=[(26,Qq6),(85,Qzx)]
def Qve:Fi:=fo [[0],[0,3],[0,3,4],[0,3,4,11],[0,3,4],[0,3,4,5,6],[0,3,4,5,22],[0,3,4],[0,2]]
abbrev Qri:Type:=Int→List Int→Int→List Int→Option Qlx
noncomputable def Qle (L1:Qri) (v2:Int) (v3:List Int) (v4:Int) (v5:List Int):Option Qlx:=
 bif decide (v2>0) then
  Option.bind (Qk5 (v3,v4) 7) fun r6=>
  Option.bind (Qmr v5 (IntKind.wrap .i64 (2+r6.1.1))) fun r7=>
  bif r7.1.2.1 then
   L1 (IntKind.wrap .i64 (v2 - 1)) r6.2.1.1 r6.2.1.2 r7.1.1
  else
   L1 (IntKind.wrap .i64 (v2 - 1)) r6.2.1.1 r6.2.1.2 v5
 else
  some ((v5,()),((v3,v4),()))
noncomputable def Qp6 (L1:Qri) (p_0:(List Int) × Int):Option Qlx:=
 Option.bind (Qk5 p_0 4) fun r1=>
 L1 r1.1.1 r1.2.1.1 r1.2.1.2 [1]
noncomputable def Qlf (n:Nat):Nat→Qri:=iter (fun _ _ _ _=>none) fun L=>Qle L
noncomputable def Qo4 (n m:Nat) (v2:Int) (v3:List Int) (v4:Int) (v5:List Int):Option Qlx:=
 Qjv Z65 tab (fiB [.box 75 t74 [false,false]] Qve) n [.box 75 t74 [false,false]] [⟨t28,[true],none⟩] Tryz.f43 [1,1,0,1,0] [] [0,3,4] m
 ⟨[(0,V1 (.ptr (0,0) 0)),(3,V1 (.ref (888888,3))),(4,Vp t2 v2)],[((0,0),Ob.box 75 [LV.pure t25 v3,LV.pure t2 v4]),((888888,3),Ob.row 3 t2 v5)]⟩
theorem Qut (n:Nat):∀ m,Qo4 n m=Qlf n m
 | 0=>rfl
 | m+1=>by rw [show Qo4 n (m+1)=Qle (Qo4 n m) from by kernel_rfl,Qut n m];rfl
noncomputable def Qwo (n:Nat) (p_0:(List Int) × Int):Option Qlx:=Qp6 (Qlf n n) p_0
noncomputable def Qkg (p_0:(List Int) × Int):Option Qlx:=Qwo 1099511627776 p_0
noncomputable def Qw1:Ent:=⟨[.box 75 t74 [false,false]],[⟨t28,[true],none⟩],fun x=>Qkg x.1⟩
theorem Qu5:GD 43 Qw1:=fnl Qve (fun n x=>Qwo n x.1) (Qjy Ql4 (Qjy Qs2 Qk3)) Tryz.func43 fun n x=>Eq.trans (b:=Qp6 (Qo4 n n) x.1) (by kernel_rfl) (by rw [Qut n n];rfl)
noncomputable def Qlk (p_0:(List Int) × Int):Option (Zpd × (Zfr × Unit)):=
 Option.bind (Qk5 p_0 5) fun r1=>
 bif decide (0≤r1.1.1)&&decide (r1.1.1<5) then
  bif decide (0≤r1.1.1)&&decide (r1.1.1<5) then
   some ((List.getD [(⟨#[]⟩:ByteArray),(⟨#[97]⟩:ByteArray),(⟨#[98,99]⟩:ByteArray),(⟨#[104,101,108,108,111]⟩:ByteArray),(⟨#[116,119,101,108,118,101,32,98,121,116,101,115]⟩:ByteArray)] r1.1.1.toNat (⟨#[]⟩:ByteArray),()),(r1.2.1,()))
  else none
 else none
noncomputable def Qw6:Ent:=⟨[.box 75 t74 [false,false]],[⟨t9,[false],none⟩],fun x=>Qlk x.1⟩
theorem Qu1:GD 44 Qw6:=fnk 1 (fo [[0],[0,2]]) (Qjy Ql4 Qk3) Tryz.func44
noncomputable def Qkj (p_0:(List Int) × Int) (to_1:Int):Option ((Qyy × Unit) × (Zfr × Unit)):=
 Option.bind (Qk5 p_0 8) fun r1=>
 bif (IntKind.wrap .i64 (1+r1.1.1))==to_1 then
  Option.bind (Qk5 r1.2.1 9) fun r2=>
  Option.bind (Qk5 r2.2.1 3) fun r3=>
  bif (IntKind.wrap .i64 (1+r2.1.1))==2 then
   Option.bind (Qk5 r3.2.1 20) fun r4=>
   Option.bind (Qk5 r4.2.1 25) fun r5=>
   Option.bind (Qkg r5.2.1) fun r6=>
   Option.bind (Qk5 r6.2.1 9) fun r7=>
   some (((IntKind.wrap .i64 (1+r2.1.1),IntKind.wrap .i64 (1+(Int.tmod to_1 8)),to_1,IntKind.wrap .i64 (1+r3.1.1),r4.1.1,r5.1.1,r6.1.1,r7.1.1,0,(⟨#[]⟩:ByteArray)),()),(r7.2.1,()))
  else
  bif (IntKind.wrap .i64 (1+r2.1.1))==5 then
   Option.bind (Qk5 r3.2.1 20) fun r8=>
   Option.bind (Qk5 r8.2.1 25) fun r9=>
   Option.bind (Qkg r9.2.1) fun r10=>
   Option.bind (Qk5 r10.2.1 12) fun r11=>
   some (((IntKind.wrap .i64 (1+r2.1.1),IntKind.wrap .i64 (1+(Int.tmod to_1 8)),to_1,IntKind.wrap .i64 (1+r3.1.1),r8.1.1,r9.1.1,r10.1.1,0,r11.1.1,(⟨#[]⟩:ByteArray)),()),(r11.2.1,()))
  else
  bif (IntKind.wrap .i64 (1+r2.1.1))==7 then
   Option.bind (Qk5 r3.2.1 12) fun r12=>
   Option.bind (Qlk r12.2.1) fun r13=>
   some (((IntKind.wrap .i64 (1+r2.1.1),IntKind.wrap .i64 (1+(Int.tmod to_1 8)),to_1,IntKind.wrap .i64 (1+r3.1.1),0,0,[],IntKind.wrap .i64 (1+r12.1.1),0,r13.1.1),()),(r13.2.1,()))
  else
  bif (IntKind.wrap .i64 (1+r2.1.1))==8 then
   bif (IntKind.wrap .i64 (1+r2.1.1))==8 then
    Option.bind (Qk5 r3.2.1 9) fun r14=>
    Option.bind (Qk5 r14.2.1 6) fun r15=>
    some (((IntKind.wrap .i64 (1+r2.1.1),IntKind.wrap .i64 (1+(Int.tmod to_1 8)),to_1,IntKind.wrap .i64 (1+r3.1.1),0,0,[],IntKind.wrap .i64 (1+r14.1.1),IntKind.wrap .i64 ((IntKind.wrap .i64 (1+r14.1.1))+r15.1.1),(⟨#[]⟩:ByteArray)),()),(r15.2.1,()))
   else
    some (((IntKind.wrap .i64 (1+r2.1.1),IntKind.wrap .i64 (1+(Int.tmod to_1 8)),to_1,IntKind.wrap .i64 (1+r3.1.1),0,0,[],0,0,(⟨#[]⟩:ByteArray)),()),(r3.2.1,()))
  else
  bif (IntKind.wrap .i64 (1+r2.1.1))==9 then
   Option.bind (Qk5 r3.2.1 9) fun r16=>
   Option.bind (Qk5 r16.2.1 6) fun r17=>
   some (((IntKind.wrap .i64 (1+r2.1.1),IntKind.wrap .i64 (1+(Int.tmod to_1 8)),to_1,IntKind.wrap .i64 (1+r3.1.1),0,0,[],IntKind.wrap .i64 (1+r16.1.1),IntKind.wrap .i64 ((IntKind.wrap .i64 (1+r16.1.1))+r17.1.1),(⟨#[]⟩:ByteArray)),()),(r17.2.1,()))
  else
   some (((IntKind.wrap .i64 (1+r2.1.1),IntKind.wrap .i64 (1+(Int.tmod to_1 8)),to_1,IntKind.wrap .i64 (1+r3.1.1),0,0,[],0,0,(⟨#[]⟩:ByteArray)),()),(r3.2.1,()))
 else
  Option.bind (Qk5 r1.2.1 9) fun r18=>
  Option.bind (Qk5 r18.2.1 3) fun r19=>
  bif (IntKind.wrap .i64 (1+r18.1.1))==2 then
   Option.bind (Qk5 r19.2.1 20) fun r20=>
   Option.bind (Qk5 r20.2.1 25) fun r21=>
   Option.bind (Qkg r21.2.1) fun r22=>
   Option.bind (Qk5 r22.2.1 9) fun r23=>
   some (((IntKind.wrap .i64 (1+r18.1.1),IntKind.wrap .i64 (1+r1.1.1),to_1,IntKind.wrap .i64 (1+r19.1.1),r20.1.1,r21.1.1,r22.1.1,r23.1.1,0,(⟨#[]⟩:ByteArray)),()),(r23.2.1,()))
  else
  bif (IntKind.wrap .i64 (1+r18.1.1))==5 then
   Option.bind (Qk5 r19.2.1 20) fun r24=>
   Option.bind (Qk5 r24.2.1 25) fun r25=>
   Option.bind (Qkg r25.2.1) fun r26=>
   Option.bind (Qk5 r26.2.1 12) fun r27=>
   some (((IntKind.wrap .i64 (1+r18.1.1),IntKind.wrap .i64 (1+r1.1.1),to_1,IntKind.wrap .i64 (1+r19.1.1),r24.1.1,r25.1.1,r26.1.1,0,r27.1.1,(⟨#[]⟩:ByteArray)),()),(r27.2.1,()))
  else
  bif (IntKind.wrap .i64 (1+r18.1.1))==7 then
   Option.bind (Qk5 r19.2.1 12) fun r28=>
   Option.bind (Qlk r28.2.1) fun r29=>
   some (((IntKind.wrap .i64 (1+r18.1.1),IntKind.wrap .i64 (1+r1.1.1),to_1,IntKind.wrap .i64 (1+r19.1.1),0,0,[],IntKind.wrap .i64 (1+r28.1.1),0,r29.1.1),()),(r29.2.1,()))
  else
  bif (IntKind.wrap .i64 (1+r18.1.1))==8 then
   bif (IntKind.wrap .i64 (1+r18.1.1))==8 then
    Option.bind (Qk5 r19.2.1 9) fun r30=>
    Option.bind (Qk5 r30.2.1 6) fun r31=>
    some (((IntKind.wrap .i64 (1+r18.1.1),IntKind.wrap .i64 (1+r1.1.1),to_1,IntKind.wrap .i64 (1+r19.1.1),0,0,[],IntKind.wrap .i64 (1+r30.1.1),IntKind.wrap .i64 ((IntKind.wrap .i64 (1+r30.1.1))+r31.1.1),(⟨#[]⟩:ByteArray)),()),(r31.2.1,()))
   else
    some (((IntKind.wrap .i64 (1+r18.1.1),IntKind.wrap .i64 (1+r1.1.1),to_1,IntKind.wrap .i64 (1+r19.1.1),0,0,[],0,0,(⟨#[]⟩:ByteArray)),()),(r19.2.1,()))
  else
  bif (IntKind.wrap .i64 (1+r18.1.1))==9 then
   Option.bind (Qk5 r19.2.1 9) fun r32=>
   Option.bind (Qk5 r32.2.1 6) fun r33=>
   some (((IntKind.wrap .i64 (1+r18.1.1),IntKind.wrap .i64 (1+r1.1.1),to_1,IntKind.wrap .i64 (1+r19.1.1),0,0,[],IntKind.wrap .i64 (1+r32.1.1),IntKind.wrap .i64 ((IntKind.wrap .i64 (1+r32.1.1))+r33.1.1),(⟨#[]⟩:ByteArray)),()),(r33.2.1,()))
  else
   some (((IntKind.wrap .i64 (1+r18.1.1),IntKind.wrap .i64 (1+r1.1.1),to_1,IntKind.wrap .i64 (1+r19.1.1),0,0,[],0,0,(⟨#[]⟩:ByteArray)),()),(r19.2.1,()))
noncomputable def Qsq:Ent:=⟨[.box 75 t74 [false,false],.val t2],[⟨t45,(nF 6++[true,false,false,false]),none⟩],fun x=>Qkj x.1 x.2.1⟩
theorem Qup:GD 17 Qsq:=fnk 1 (fo [[0,1,4],[0,1,4,5],[0,1,4,5,12],[0,1,4,5],[0,4,6],[0,4,6,26],[0,4,6,26,27],[0,4,6],[0,4,6,26,41],[0,4,6],[0,4,6,26,55],[0,4,6],[0,4,6,26,64],[0,4,6,64],[0,4,6],[0,4,6],[0,4]]) (Qjy Ql4 (Qjy Qu5 (Qjy Qu1 Qk3))) Tryz.func17
abbrev Qpd:Type:=(Qky × Bool × Unit) × Unit
noncomputable def Zdo:Ctx:=[]
def Z2q:Fi:=fo [[0,1,4],[0,1,4,6],[0,1,4,6,10],[0,1,4,6],[0,1,4,6,19],[4,5],[4,5]]
abbrev Qwa:Type:=Z22→Int→Int→Int→Int→Int→Option Qpd
noncomputable def Qo9 (L1:Qwa) (v1:List Qky) (v2 v3 v4 v5 v6:Int):Option Qpd:=
 bif decide (v3<(v1.length:Int)) then
  bif decide (0≤v3)&&decide (v3<(v1.length:Int)) then
   bif ((List.getD v1 v3.toNat (0,0,0)).1)==v2 then
    bif decide (0≤v3)&&decide (v3<(v1.length:Int)) then
     some (((List.getD v1 v3.toNat (0,0,0)),true,()),())
    else none
   else
    L1 v1 v2 (IntKind.wrap .i64 (v3+1)) v4 v5 v6
  else none
 else
  some (((0,0,0),false,()),())
noncomputable def Z5l (L1:Qwa) (l_0:List Qky) (id_1:Int):Option Qpd:=
 L1 l_0 id_1 0 0 0 0
noncomputable def Qqk (n:Nat):Nat→Qwa:=iter (fun _ _ _ _ _ _=>none) fun L=>Qo9 L
noncomputable def Qt3 (n m:Nat) (v1:List Qky) (v2 v3 v4 v5 v6:Int):Option Qpd:=
 Qjv Zdo tab (fiB [.val t29,.val t2] Z2q) n [.val t29,.val t2] [⟨t52,[false,false,false],none⟩,⟨t4,[false],none⟩] Tryz.f70 [1,0,1,0] [] [0,1,4,6] m
 ⟨[(0,Vp t29 v1),(1,Vp t2 v2),(4,V1 (.ptr (4,0) 0)),(6,Vp t2 v3)],[((4,0),Ob.box 53 [LV.pure t2 v4,LV.pure t2 v5,LV.pure t2 v6])]⟩
theorem Z1q (n:Nat):∀ m,Qt3 n m=Qqk n m
 | 0=>rfl
 | m+1=>by rw [show Qt3 n (m+1)=Qo9 (Qt3 n m) from by kernel_rfl,Z1q n m];rfl
noncomputable def Z4h (n:Nat) (l_0:List Qky) (id_1:Int):Option Qpd:=Z5l (Qqk n n) l_0 id_1
noncomputable def Qpo (l_0:List Qky) (id_1:Int):Option Qpd:=Z4h 1099511627776 l_0 id_1
noncomputable def Ze2:Ent:=⟨[.val t29,.val t2],[⟨t52,[false,false,false],none⟩,⟨t4,[false],none⟩],fun x=>Qpo x.1 x.2.1⟩
theorem Qzu:GD 70 Ze2:=fnl Z2q (fun n x=>Z4h n x.1 x.2.1) Qk3 Tryz.func70 fun n x=>Eq.trans (b:=Z5l (Qt3 n n) x.1 x.2.1) (by kernel_rfl) (by rw [Z1q n n];rfl)
noncomputable def Qum (l_0:List Qky) (id_1 inc_2:Int):Option ((Bool × Unit) × Unit):=
 Option.bind (Qpo l_0 id_1) fun r1=>
 bif r1.1.2.1 then
  some ((decide (r1.1.1.2.1>inc_2),()),())
 else
  some ((false,()),())
noncomputable def Z6l:Ent:=⟨[.val t29,.val t2,.val t2],[⟨t4,[false],none⟩],fun x=>Qum x.1 x.2.1 x.2.2.1⟩
theorem Z0y:GD 134 Z6l:=fnk 1 (fo [[0,1,2,17,18,19,20],[2,7,8,17,18,19,20],[6]]) (Qjy Qzu Qk3) Tryz.func134
abbrev Qpg:Type:=(Z22 × Unit) × Unit
noncomputable def Zee:Ctx:=[]
def Z35:Fi:={ keep:=[],vty:=[(5,29)],vals:=[],live:=[(0,[0,1]),(1,[0,1,5]),(2,[0,1,5,6]),(3,[0,1,5,6,10]),(4,[0,1,5,6]),(5,[0,1,5,6,19]),(6,[0,1,5,6]),(7,[4])] }
abbrev Qw0:Type:=Z22→Int→Int→Z22→Option Qpg
noncomputable def Qoj (L1:Qw0) (v1:List Qky) (v2 v3:Int) (v4:List Qky):Option Qpg:=
 bif decide (v3<(v1.length:Int)) then
  bif decide (0≤v3)&&decide (v3<(v1.length:Int)) then
   bif ((List.getD v1 v3.toNat (0,0,0)).1) != v2 then
    bif decide (0≤v3)&&decide (v3<(v1.length:Int)) then
     bif Nat.ble (v4.length+1) 1073741824 then
      L1 v1 v2 (IntKind.wrap .i64 (v3+1)) (v4++[(List.getD v1 v3.toNat (0,0,0))])
     else none
    else none
   else
    L1 v1 v2 (IntKind.wrap .i64 (v3+1)) v4
  else none
 else
  some ((v4,()),())
noncomputable def Z4e (L1:Qw0) (l_0:List Qky) (id_1:Int):Option Qpg:=
 L1 l_0 id_1 0 []
noncomputable def Qqw (n:Nat):Nat→Qw0:=iter (fun _ _ _ _=>none) fun L=>Qoj L
noncomputable def Qsw (n m:Nat) (v1:List Qky) (v2 v3:Int) (v4:List Qky):Option Qpg:=
 Qjv Zee tab (fiB [.val t29,.val t2] Z35) n [.val t29,.val t2] [⟨t29,[true],none⟩] Tryz.f139 [1,1,0,1,0] [] [0,1,5,6] m
 ⟨[(0,Vp t29 v1),(1,Vp t2 v2),(5,V1 (.ref (888888,5))),(6,Vp t2 v3)],[((888888,5),Ob.row 53 t52 v4)]⟩
theorem Z1a (n:Nat):∀ m,Qsw n m=Qqw n m
 | 0=>rfl
 | m+1=>by rw [show Qsw n (m+1)=Qoj (Qsw n m) from by kernel_rfl,Z1a n m];rfl
noncomputable def Z4y (n:Nat) (l_0:List Qky) (id_1:Int):Option Qpg:=Z4e (Qqw n n) l_0 id_1
noncomputable def Qti (l_0:List Qky) (id_1:Int):Option Qpg:=Z4y 1099511627776 l_0 id_1
noncomputable def Z4v:Ent:=⟨[.val t29,.val t2],[⟨t29,[true],none⟩],fun x=>Qti x.1 x.2.1⟩
theorem Qz7:GD 139 Z4v:=fnl Z35 (fun n x=>Z4y n x.1 x.2.1) Qk3 Tryz.func139 fun n x=>Eq.trans (b:=Z4e (Qsw n n) x.1 x.2.1) (by kernel_rfl) (by rw [Z1a n n];rfl)
abbrev Qpf:Type:=(Z22 × Bool × Unit) × Unit
noncomputable def Zdh:Ctx:=[(136,Qjh),(134,Z6l),(139,Z4v)]
def Z2a:Fi:={ keep:=[],vty:=[],vals:=[],live:=[(0,[0,3]),(1,[0,3,13]),(2,[4,5]),(3,[3,6]),(4,[3,6,7]),(5,[3,6,7,22]),(6,[3,6,7]),(7,[3,6,7,32]),(8,[4,5]),(9,[4,5])],melt:=[(8,1000006)] }
abbrev Qww:Type:=Int→Int→Int→Int→Z22→Option Qpf
noncomputable def Qoi (L1:Qww) (v3 v4 v5 v6:Int) (v7:List Qky):Option Qpf:=
 bif decide (v3<(v7.length:Int)) then
  bif decide (0≤v3)&&decide (v3<(v7.length:Int)) then
   bif decide (0≤v3)&&decide (v3<(v7.length:Int)) then
    bif decide ((List.getD v7 v3.toNat (0,0,0)).1>v4) then
     bif decide (0≤v3)&&decide (v3≤(((List.map some v7).length:Nat):Int)) then
      bif Nat.ble (0+((v3 - 0).toNat)) ((List.map some v7).length) then
       Option.bind (Qd (List.take ((v3 - 0).toNat) (List.drop 0 (List.map some v7)))) fun z8=>
       bif Nat.ble (0+z8.length) 1073741824 then
        bif Nat.ble (([]++z8).length+1) 1073741824 then
         bif (decide (0≤v3)&&decide (v3≤((v7.length:Nat):Int)))&&decide (((v7.length:Nat):Int)≤(((List.map some v7).length:Nat):Int)) then
          bif Nat.ble ((0+v3.toNat)+((((v7.length:Nat):Int) - v3).toNat)) ((List.map some v7).length) then
           Option.bind (Qd (List.take ((((v7.length:Nat):Int) - v3).toNat) (List.drop (0+v3.toNat) (List.map some v7)))) fun z9=>
           bif Nat.ble (((([]++z8)++[(v4,v5,v6)]).length)+z9.length) 1073741824 then
            some (((([]++z8)++[(v4,v5,v6)])++z9,true,()),())
           else none
          else none
         else none
        else none
       else none
      else none
     else none
    else
     L1 (IntKind.wrap .i64 (v3+1)) v4 v5 v6 v7
   else none
  else none
 else
 bif Nat.ble (v7.length+1) 1073741824 then
  some ((v7++[(v4,v5,v6)],true,()),())
 else none
noncomputable def Qty (L1:Qww) (l_0:List Qky) (k_1:Int × Int × Int):Option Qpf:=
 Option.bind (Qum l_0 k_1.1 k_1.2.1) fun r1=>
 bif r1.1.1 then
  some ((l_0,false,()),())
 else
  Option.bind (Qti l_0 k_1.1) fun r2=>
  L1 0 k_1.1 k_1.2.1 k_1.2.2 r2.1.1
noncomputable def Qom (n:Nat):Nat→Qww:=iter (fun _ _ _ _ _=>none) fun L=>Qoi L
noncomputable def Qsx (n m:Nat) (v3 v4 v5 v6:Int) (v7:List Qky):Option Qpf:=
 Qjv Zdh tab (fiB [.val t29,.val t52] Z2a) n [.val t29,.val t52] [⟨t29,[false],none⟩,⟨t4,[false],none⟩] Tryz.f136 [1,1,1,0,1,0] [] [3,6,7] m
 ⟨[(3,V1 (.ptr (3,0) 0)),(6,V1 (.ref (888888,6))),(7,Vp t2 v3)],[((3,0),Ob.box 53 [LV.pure t2 v4,LV.pure t2 v5,LV.pure t2 v6]),((888888,6),Ob.row 53 t52 v7)]⟩
theorem Z0k (n:Nat):∀ m,Qsx n m=Qom n m
 | 0=>rfl
 | m+1=>by rw [show Qsx n (m+1)=Qoi (Qsx n m) from by kernel_rfl,Z0k n m];rfl
noncomputable def Z4r (n:Nat) (l_0:List Qky) (k_1:Int × Int × Int):Option Qpf:=Qty (Qom n n) l_0 k_1
noncomputable def Qrg (l_0:List Qky) (k_1:Int × Int × Int):Option Qpf:=Z4r 1099511627776 l_0 k_1
noncomputable def Zdn:Ent:=⟨[.val t29,.val t52],[⟨t29,[false],none⟩,⟨t4,[false],none⟩],fun x=>Qrg x.1 x.2.1⟩
theorem Z9g:GD 136 Zdn:=fnl Z2a (fun n x=>Z4r n x.1 x.2.1) (Qjy (Qjx Tryz.func136 (by kernel_rfl) (by kernel_rfl)) (Qjy Z0y (Qjy Qz7 Qk3))) Tryz.func136 fun n x=>Eq.trans (b:=Qty (Qsx n n) x.1 x.2.1) (by kernel_rfl) (by rw [Z0k n n];rfl)
noncomputable def Quw (p_0:List Int):Option ((Int × Unit) × Unit):=
 bif decide ((p_0.length:Int)<2) then
  some ((0,()),())
 else
 bif decide (0≤IntKind.wrap .i64 ((p_0.length:Int) - 2))&&decide (IntKind.wrap .i64 ((p_0.length:Int) - 2)<(p_0.length:Int)) then
  some ((List.getD p_0 ((IntKind.wrap .i64 ((p_0.length:Int) - 2)).toNat) 0,()),())
 else none
noncomputable def Zc7:Ent:=⟨[.val t28],[⟨t2,[false],none⟩],fun x=>Quw x.1⟩
theorem Z7o:GD 171 Zc7:=fnk 1 (fo [[0],[0,5],[2],[2]]) Qk3 Tryz.func171
noncomputable def Qpk (p_0:List Int):Option ((Int × Unit) × Unit):=
 Option.bind (Quw p_0) fun r1=>
 bif r1.1.1==0 then
  some ((1,()),())
 else
  some ((r1.1.1,()),())
noncomputable def Zau:Ent:=⟨[.val t28],[⟨t2,[false],none⟩],fun x=>Qpk x.1⟩
theorem Qx5:GD 138 Zau:=fnk 1 (fo [[0],[3],[3,7],[2],[2]]) (Qjy Z7o Qk3) Tryz.func138
noncomputable def Qoz (t_0:Int × Int × Int × Int × Int × Int × (List Int) × Int × Int × Int × Int × Int × List Qky) (m_1:Int × Int × Int × Int × Int × Int × (List Int) × Int × Int × ByteArray):Option ((Qt7 × Z9c × Unit) × Unit):=
 Option.bind (Qk6 (u11 (u9 t_0 0) (IntKind.wrap .i64 ((g11 t_0)+1))) 6 m_1.2.1) fun r5=>
 some (((u11 (u9 t_0 0) (IntKind.wrap .i64 ((g11 t_0)+1))),[r5.1.1],()),())
noncomputable def Qov (t_0:Int × Int × Int × Int × Int × Int × (List Int) × Int × Int × Int × Int × Int × List Qky) (m_1:Int × Int × Int × Int × Int × Int × (List Int) × Int × Int × ByteArray):Option ((Qt7 × Z9c × Unit) × Unit):=
 bif (g9 t_0)==0 then
  Option.bind (Qk6 t_0 6 m_1.2.1) fun r1=>
  some ((t_0,[r1.1.1],()),())
 else
 bif (g9 t_0) != m_1.2.1 then
  Option.bind (Qk6 t_0 6 m_1.2.1) fun r2=>
  some ((t_0,[r2.1.1],()),())
 else
 bif (g3 t_0) != 0 then
  Option.bind (Qk6 t_0 6 m_1.2.1) fun r3=>
  some ((t_0,[r3.1.1],()),())
 else
  Option.bind (Qmr (g6 m_1) t_0.1) fun r4=>
  bif !r4.1.2.1 then
   Qoz t_0 m_1
  else
  bif decide ((g5 m_1)>20) then
   Qoz t_0 m_1
  else
   Option.bind (Qpk (g6 m_1)) fun r7=>
   some (((u11 (u9 (u8 (u7 (u6 (u5 (u4 (u3 t_0 m_1.2.1) (g3 m_1)) r7.1.1) r4.1.1) (g4 m_1)) (IntKind.wrap .i64 (t_0.2.2.1 - (g5 m_1)))) 0) 0),[],()),())
noncomputable def Qm0 (t_0:Int × Int × Int × Int × Int × Int × (List Int) × Int × Int × Int × Int × Int × List Qky) (m_1:Int × Int × Int × Int × Int × Int × (List Int) × Int × Int × ByteArray):Option ((Qt7 × Z9c × Unit) × Unit):=
 bif (g3 t_0) != 0 then
  bif m_1.2.1==(g3 t_0) then
   some ((t_0,[],()),())
  else
   Qov t_0 m_1
 else
  Qov t_0 m_1
noncomputable def Z7g:Ent:=⟨[.val t30,.val t45],[⟨t30,(nF 13),none⟩,⟨t48,[true],none⟩],fun x=>Qm0 x.1 x.2.1⟩
theorem Z3r:GD 137 Z7g:=fnk 1 (fo [[2,3,4,12,13,14,15,16,23,24,25,26,27,30,31,32,52,53,54],[2,3,4,17,23,24,25,26,27,30,31,32,52,53,54],[4,5],[2,3,4,33,52,53,54],[4,5],[2,3,4,6,7,52,53,54],[2,3,4,6,7,52,53,54],[2,3,4,6,55],[2,3,4],[4,5],[2,3,4],[2,4],[4,5]]) (Qjy Qqm (Qjy Qs2 (Qjy Qx5 Qk3))) Tryz.func137
noncomputable def Qrb (r2:(Qt7 × Unit) × Unit) (x_1:Int × Int × Int × Int × Int × Int × (List Int) × Int × Int × ByteArray) (x_2:Int):Option ((Qt7 × Z9c × Unit) × Unit):=
 Option.bind (Qrg (h12 r2.1.1) (x_1.2.1,(g3 x_1),r2.1.1.2.2.1)) fun r9=>
 Option.bind (Qn9 (e12 r2.1.1 r9.1.1) 2 x_1.2.1) fun r10=>
 some (((e12 r2.1.1 r9.1.1),[(u7 r10.1.1 x_2)],()),())
noncomputable def Z00 (r2:(Qt7 × Unit) × Unit) (x_1:Int × Int × Int × Int × Int × Int × (List Int) × Int × Int × ByteArray) (x_2:Int):Option ((Qt7 × Z9c × Unit) × Unit):=
 Option.bind (Qpo (h12 r2.1.1) x_1.2.1) fun r3=>
 bif r2.1.1.1==1 then
  Option.bind (Ql7 r2.1.1) fun r4=>
  bif !r4.1.1 then
   Option.bind (Qk6 r2.1.1 3 x_1.2.1) fun r5=>
   some ((r2.1.1,[r5.1.1],()),())
  else
   Option.bind (Qqy (g6 r2.1.1) x_1.2.1) fun r6=>
   bif r6.1.1 then
    Option.bind (Qk6 r2.1.1 3 x_1.2.1) fun r7=>
    some ((r2.1.1,[r7.1.1],()),())
   else
   bif !r3.1.2.1 then
    bif decide (((h12 r2.1.1).length:Int) ≥ 8) then
     Option.bind (Qk6 r2.1.1 3 x_1.2.1) fun r8=>
     some ((r2.1.1,[r8.1.1],()),())
    else
     Qrb r2 x_1 x_2
   else
    Qrb r2 x_1 x_2
 else
  Option.bind (Ql7 r2.1.1) fun r13=>
  bif !r13.1.1 then
   Option.bind (Qk6 r2.1.1 3 x_1.2.1) fun r14=>
   some ((r2.1.1,[r14.1.1],()),())
  else
   Option.bind (Qqy (g6 r2.1.1) x_1.2.1) fun r15=>
   bif r15.1.1 then
    Option.bind (Qk6 r2.1.1 3 x_1.2.1) fun r16=>
    some ((r2.1.1,[r16.1.1],()),())
   else
   bif !r3.1.2.1 then
    bif decide (((h12 r2.1.1).length:Int) ≥ 3) then
     Option.bind (Qk6 r2.1.1 3 x_1.2.1) fun r17=>
     some ((r2.1.1,[r17.1.1],()),())
    else
     Qrb r2 x_1 x_2
   else
    Qrb r2 x_1 x_2
noncomputable def Z06 (r2:(Qt7 × Unit) × Unit) (x_1:Int × Int × Int × Int × Int × Int × (List Int) × Int × Int × ByteArray):Option ((Qt7 × Z9c × Unit) × Unit):=
 Option.bind (Qpo (h12 r2.1.1) x_1.2.1) fun r26=>
 bif !r26.1.2.1 then
  Option.bind (Qk6 r2.1.1 3 x_1.2.1) fun r27=>
  some ((r2.1.1,[r27.1.1],()),())
 else
  Option.bind (Qrg (h12 r2.1.1) (x_1.2.1,(g3 x_1),r2.1.1.2.2.1)) fun r28=>
  some (((e12 r2.1.1 r28.1.1),[],()),())
noncomputable def Qza (x_1:Int × Int × Int × Int × Int × Int × (List Int) × Int × Int × ByteArray) (r2:(Qt7 × Unit) × Unit):Option ((Qt7 × Z9c × Unit) × Unit):=
 bif x_1.1==6 then
  Option.bind (Qti (h12 r2.1.1) x_1.2.1) fun r34=>
  some (((e12 r2.1.1 r34.1.1),[],()),())
 else
  some ((r2.1.1,[],()),())
noncomputable def Qmy (arr_0:Int × Int × Int × Int × Int × Int × (List Int) × Int × Int × Int × Int × Int × List Qky) (x_1:Int × Int × Int × Int × Int × Int × (List Int) × Int × Int × ByteArray) (x_2:Int):Option ((Qt7 × Z9c × Unit) × Unit):=
 Option.bind (Qrg (h12 arr_0) (x_1.2.1,(g3 x_1),arr_0.2.2.1)) fun r66=>
 Option.bind (Qn9 (e12 arr_0 r66.1.1) 2 x_1.2.1) fun r67=>
 some (((e12 arr_0 r66.1.1),[(u7 r67.1.1 x_2)],()),())
noncomputable def Qr8 (arr_0:Int × Int × Int × Int × Int × Int × (List Int) × Int × Int × Int × Int × Int × List Qky) (x_1:Int × Int × Int × Int × Int × Int × (List Int) × Int × Int × ByteArray) (x_2:Int):Option ((Qt7 × Z9c × Unit) × Unit):=
 Option.bind (Qpo (h12 arr_0) x_1.2.1) fun r60=>
 bif arr_0.1==1 then
  Option.bind (Ql7 arr_0) fun r61=>
  bif !r61.1.1 then
   Option.bind (Qk6 arr_0 3 x_1.2.1) fun r62=>
   some ((arr_0,[r62.1.1],()),())
  else
   Option.bind (Qqy (g6 arr_0) x_1.2.1) fun r63=>
   bif r63.1.1 then
    Option.bind (Qk6 arr_0 3 x_1.2.1) fun r64=>
    some ((arr_0,[r64.1.1],()),())
   else
   bif !r60.1.2.1 then
    bif decide (((h12 arr_0).length:Int) ≥ 8) then
     Option.bind (Qk6 arr_0 3 x_1.2.1) fun r65=>
     some ((arr_0,[r65.1.1],()),())
    else
     Qmy arr_0 x_1 x_2
   else
    Qmy arr_0 x_1 x_2
 else
  Option.bind (Ql7 arr_0) fun r70=>
  bif !r70.1.1 then
   Option.bind (Qk6 arr_0 3 x_1.2.1) fun r71=>
   some ((arr_0,[r71.1.1],()),())
  else
   Option.bind (Qqy (g6 arr_0) x_1.2.1) fun r72=>
   bif r72.1.1 then
    Option.bind (Qk6 arr_0 3 x_1.2.1) fun r73=>
    some ((arr_0,[r73.1.1],()),())
   else
   bif !r60.1.2.1 then
    bif decide (((h12 arr_0).length:Int) ≥ 3) then
     Option.bind (Qk6 arr_0 3 x_1.2.1) fun r74=>
     some ((arr_0,[r74.1.1],()),())
    else
     Qmy arr_0 x_1 x_2
   else
    Qmy arr_0 x_1 x_2
noncomputable def Qr3 (arr_0:Int × Int × Int × Int × Int × Int × (List Int) × Int × Int × Int × Int × Int × List Qky) (x_1:Int × Int × Int × Int × Int × Int × (List Int) × Int × Int × ByteArray):Option ((Qt7 × Z9c × Unit) × Unit):=
 Option.bind (Qpo (h12 arr_0) x_1.2.1) fun r83=>
 bif !r83.1.2.1 then
  Option.bind (Qk6 arr_0 3 x_1.2.1) fun r84=>
  some ((arr_0,[r84.1.1],()),())
 else
  Option.bind (Qrg (h12 arr_0) (x_1.2.1,(g3 x_1),arr_0.2.2.1)) fun r85=>
  some (((e12 arr_0 r85.1.1),[],()),())
noncomputable def Qr7 (x_1:Int × Int × Int × Int × Int × Int × (List Int) × Int × Int × ByteArray) (arr_0:Int × Int × Int × Int × Int × Int × (List Int) × Int × Int × Int × Int × Int × List Qky):Option ((Qt7 × Z9c × Unit) × Unit):=
 bif x_1.1==6 then
  Option.bind (Qti (h12 arr_0) x_1.2.1) fun r91=>
  some (((e12 arr_0 r91.1.1),[],()),())
 else
  some ((arr_0,[],()),())
noncomputable def Qm3 (arr_0:Int × Int × Int × Int × Int × Int × (List Int) × Int × Int × Int × Int × Int × List Qky) (x_1:Int × Int × Int × Int × Int × Int × (List Int) × Int × Int × ByteArray) (x_2:Int):Option ((Qt7 × Z9c × Unit) × Unit):=
 bif (g3 arr_0) != 0 then
  bif x_1.1==1 then
   Qr8 arr_0 x_1 x_2
  else
  bif x_1.1==2 then
   Option.bind (Qm0 arr_0 x_1) fun r79=>
   some ((r79.1.1,r79.1.2.1,()),())
  else
  bif x_1.1==3 then
   bif (g9 arr_0) != 0 then
    bif (g9 arr_0)==x_1.2.1 then
     bif x_1.2.1==(g3 arr_0) then
      Option.bind (Ql3 (u11 (u9 arr_0 0) (IntKind.wrap .i64 ((g11 arr_0)+1))) 0) fun r80=>
      some ((r80.1.1,[],()),())
     else
      some (((u11 (u9 arr_0 0) (IntKind.wrap .i64 ((g11 arr_0)+1))),[],()),())
    else
    bif x_1.2.1==(g3 arr_0) then
     Option.bind (Ql3 arr_0 0) fun r81=>
     some ((r81.1.1,[],()),())
    else
     some ((arr_0,[],()),())
   else
   bif x_1.2.1==(g3 arr_0) then
    Option.bind (Ql3 arr_0 0) fun r82=>
    some ((r82.1.1,[],()),())
   else
    some ((arr_0,[],()),())
  else
  bif x_1.1==4 then
   Qr3 arr_0 x_1
  else
  bif x_1.1==5 then
   bif !(x_1.2.1==(g3 arr_0)) then
    Option.bind (Qk6 arr_0 6 x_1.2.1) fun r86=>
    some ((arr_0,[r86.1.1],()),())
   else
    Option.bind (Qmr (g6 x_1) arr_0.1) fun r87=>
    bif !r87.1.2.1 then
     Option.bind (Ql3 arr_0 1) fun r88=>
     Option.bind (Qk6 arr_0 6 x_1.2.1) fun r89=>
     some ((r88.1.1,[r89.1.1],()),())
    else
     Option.bind (Qpk (g6 x_1)) fun r90=>
     bif decide (IntKind.wrap .i64 (arr_0.2.2.1 - (g5 x_1))>(g8 arr_0)) then
      some (((u8 (u7 (u6 (u5 arr_0 r90.1.1) r87.1.1) (g4 x_1)) (IntKind.wrap .i64 (arr_0.2.2.1 - (g5 x_1)))),[],()),())
     else
      some (((u6 (u5 arr_0 r90.1.1) r87.1.1),[],()),())
  else
   Qr7 x_1 arr_0
 else
 bif x_1.1==1 then
  Qr8 arr_0 x_1 x_2
 else
 bif x_1.1==2 then
  Option.bind (Qm0 arr_0 x_1) fun r111=>
  some ((r111.1.1,r111.1.2.1,()),())
 else
 bif x_1.1==3 then
  bif (g9 arr_0) != 0 then
   bif (g9 arr_0)==x_1.2.1 then
    some (((u11 (u9 arr_0 0) (IntKind.wrap .i64 ((g11 arr_0)+1))),[],()),())
   else
    some ((arr_0,[],()),())
  else
   some ((arr_0,[],()),())
 else
 bif x_1.1==4 then
  Qr3 arr_0 x_1
 else
 bif x_1.1==5 then
  Option.bind (Qk6 arr_0 6 x_1.2.1) fun r115=>
  some ((arr_0,[r115.1.1],()),())
 else
  Qr7 x_1 arr_0
noncomputable def Qtb (x_1:Int × Int × Int × Int × Int × Int × (List Int) × Int × Int × ByteArray) (arr_0:Int × Int × Int × Int × Int × Int × (List Int) × Int × Int × Int × Int × Int × List Qky) (x_2:Int):Option ((Qt7 × Z9c × Unit) × Unit):=
 bif x_1.2.1==(g3 arr_0) then
  bif decide ((g3 x_1)>(g4 arr_0)) then
   Option.bind (Ql3 arr_0 0) fun r2=>
   bif (g3 r2.1.1) != 0 then
    bif x_1.1==1 then
     Z00 r2 x_1 x_2
    else
    bif x_1.1==2 then
     Option.bind (Qm0 r2.1.1 x_1) fun r22=>
     some ((r22.1.1,r22.1.2.1,()),())
    else
    bif x_1.1==3 then
     bif (g9 r2.1.1) != 0 then
      bif (g9 r2.1.1)==x_1.2.1 then
       bif x_1.2.1==(g3 r2.1.1) then
        Option.bind (Ql3 (u11 (u9 r2.1.1 0) (IntKind.wrap .i64 ((g11 r2.1.1)+1))) 0) fun r23=>
        some ((r23.1.1,[],()),())
       else
        some (((u11 (u9 r2.1.1 0) (IntKind.wrap .i64 ((g11 r2.1.1)+1))),[],()),())
      else
      bif x_1.2.1==(g3 r2.1.1) then
       Option.bind (Ql3 r2.1.1 0) fun r24=>
       some ((r24.1.1,[],()),())
      else
       some ((r2.1.1,[],()),())
     else
     bif x_1.2.1==(g3 r2.1.1) then
      Option.bind (Ql3 r2.1.1 0) fun r25=>
      some ((r25.1.1,[],()),())
     else
      some ((r2.1.1,[],()),())
    else
    bif x_1.1==4 then
     Z06 r2 x_1
    else
    bif x_1.1==5 then
     bif !(x_1.2.1==(g3 r2.1.1)) then
      Option.bind (Qk6 r2.1.1 6 x_1.2.1) fun r29=>
      some ((r2.1.1,[r29.1.1],()),())
     else
      Option.bind (Qmr (g6 x_1) r2.1.1.1) fun r30=>
      bif !r30.1.2.1 then
       Option.bind (Ql3 r2.1.1 1) fun r31=>
       Option.bind (Qk6 r2.1.1 6 x_1.2.1) fun r32=>
       some ((r31.1.1,[r32.1.1],()),())
      else
       Option.bind (Qpk (g6 x_1)) fun r33=>
       bif decide (IntKind.wrap .i64 (r2.1.1.2.2.1 - (g5 x_1))>(g8 r2.1.1)) then
        some (((u8 (u7 (u6 (u5 r2.1.1 r33.1.1) r30.1.1) (g4 x_1)) (IntKind.wrap .i64 (r2.1.1.2.2.1 - (g5 x_1)))),[],()),())
       else
        some (((u6 (u5 r2.1.1 r33.1.1) r30.1.1),[],()),())
    else
     Qza x_1 r2
   else
   bif x_1.1==1 then
    Z00 r2 x_1 x_2
   else
   bif x_1.1==2 then
    Option.bind (Qm0 r2.1.1 x_1) fun r54=>
    some ((r54.1.1,r54.1.2.1,()),())
   else
   bif x_1.1==3 then
    bif (g9 r2.1.1) != 0 then
     bif (g9 r2.1.1)==x_1.2.1 then
      some (((u11 (u9 r2.1.1 0) (IntKind.wrap .i64 ((g11 r2.1.1)+1))),[],()),())
     else
      some ((r2.1.1,[],()),())
    else
     some ((r2.1.1,[],()),())
   else
   bif x_1.1==4 then
    Z06 r2 x_1
   else
   bif x_1.1==5 then
    Option.bind (Qk6 r2.1.1 6 x_1.2.1) fun r58=>
    some ((r2.1.1,[r58.1.1],()),())
   else
    Qza x_1 r2
  else
   Qm3 arr_0 x_1 x_2
 else
  Qm3 arr_0 x_1 x_2
noncomputable def Qlp (arr_0:Int × Int × Int × Int × Int × Int × (List Int) × Int × Int × Int × Int × Int × List Qky) (x_1:Int × Int × Int × Int × Int × Int × (List Int) × Int × Int × ByteArray) (x_2:Int):Option ((Qt7 × Z9c × Unit) × Unit):=
 Option.bind (Qum (h12 arr_0) x_1.2.1 (g3 x_1)) fun r1=>
 bif r1.1.1 then
  some ((arr_0,[],()),())
 else
 bif x_1.2.1==(g3 arr_0) then
  bif decide ((g3 x_1)<(g4 arr_0)) then
   some ((arr_0,[],()),())
  else
   Qtb x_1 arr_0 x_2
 else
  Qtb x_1 arr_0 x_2
noncomputable def Z1m:Ent:=⟨[.val t30,.val t45,.val t2],[⟨t30,(nF 13),none⟩,⟨t48,[true],none⟩],fun x=>Qlp x.1 x.2.1 x.2.2.1⟩
theorem Z76:GD 65 Z1m:=fnk 1 (fo [[2,3,4,6,25,26,27,28,29,30,31,32,33,34,35,36,45,46,47,48,49,57,58,59,60,61,82,83,84,85,86,89,90,91,92,93,94,95,96,97,141,142,143,144,145],[2,3,4,6,37,45,46,47,48,49,57,58,59,60,61,82,83,84,85,86,89,90,91,92,93,94,95,96,97,141,142,143,144,145],[6,7],[2,3,4,6,50,57,58,59,60,61,82,83,84,85,86,89,90,91,92,93,94,95,96,97,141,142,143,144,145],[2,3,4,6,57,58,59,60,61,82,83,84,85,86,89,90,91,92,93,94,95,96,97,141,142,143,144,145],[2,3,4,6,8,82,83,84,85,86,89,90,91,92,93,94,95,96,97,141,142,143,144,145],[2,3,4,6,8,64,82,83,84,85,86,89,90,91,92,93,94,95,96,97,141,142,143,144,145],[2,3,4,6,8,64,65,82,83,84,85,86,89,90,91,92,93,94,95,96,97,141,142,143,144,145],[2,3,4,6,10,82,83,84,85,86,89,90,91,92,93,94,95,96,97],[2,3,4,6,10,11,82,83,84,85,86,89,90,91,92,93,94,95,96,97],[2,3,4,6,10,11,77,82,83,84,85,86,89,90,91,92,93,94,95,96,97],[2,3,4,6,10,11,82,83,84,85,86,89,90,91,92,93,94,95,96,97],[2,3,4,6,98],[6,7],[2,3,4,6],[2,3,6,12],[3,6,12],[6,7],[3,4,6,8,64,128,141,142,143,144,145],[6,7],[3,4,6,8,64,135,141,142,143,144,145],[3,6,8,146],[3,6,8],[3,6,152],[3,6],[3,4,6,8,64,155],[3,4,6,14],[3,4,6,166],[6,7],[3,6],[3,4,6,8,64,187],[3,4,6,190],[6,7],[3,4,6,15,16],[3,4,6,15,206],[6,7],[3,4,6],[3,4,6,227],[3,6],[3,4,6,237],[3,6],[6,7]]) (Qjy Qqm (Qjy Qzu (Qjy Qs2 (Qjy Qxn (Qjy Qzo (Qjy Qym (Qjy Z0y (Qjy Z0x (Qjy Z9g (Qjy Z3r (Qjy Qx5 (Qjy Qz7 Qk3)))))))))))) Tryz.func65
abbrev Qki:Type:=(Qt7 × Unit) × (Zfr × Unit)
noncomputable def Qx9:Ctx:=[(17,Qsq),(25,Qsg),(26,Qq6),(38,Z4m),(43,Qw1),(60,Z2s),(65,Z1m)]
def Qsf:Fi:=fo [[0,1,2,6,21,22,23,53,54,55,56],[0,1,2,6,7,21,22,23,53,54,55,56],[0,1,2,6,7,8,21,22,23,53,54,55,56],[0,1,2,6,7,8,21,22,23,24,53,54,55,56],[0,1,2,6,7,8,21,22,23,53,54,55,56],[0,1,2,6,7,8,21,22,23,28,53,54,55,56],[0,1,2,6,7,8,21,22,23,53,54,55,56],[0,1,2,6,7,8,21,22,23,28,37,53,54,55,56],[0,1,2,6,7,8,21,22,23,53,54,55,56],[0,1,2,6,7,8,21,22,23,28,44,53,54,55,56],[0,1,2,6,7,8,9,21,22,23,53,54,55,56],[0,1,2,6,7,8,9,21,22,23,53,54,55,56,57],[0,1,2,6,7,8,9,21,22,23,53,54,55,56],[0,1,2,6,7,8,21,22,23,53,54,55,56],[0,1,2,6,7,8,21,22,23,53,54,55,56,83],[0,1,2,6,7,8,10,21,22,23,53,54,55,56],[0,1,2,6,7,8,10,21,22,23,53,54,55,56,90],[0,1,2,6,7,8,10,21,22,23,53,54,55,56],[0,1,2,6,7,8,21,22,23,53,54,55,56],[0,6]]
abbrev Qwe:Type:=Int→Int→Int→List Int→Int→Int→Int→Int→Int→Int→Int→Int→Int→Int→Int→Int→List Int→Z22→Int→Int→Int→Int→Int→Int→Int→Int→Int→Int→Int→List Int→Z22→Option Qki
abbrev Qp2:Type:=Int→Int→Int→List Int→Int→Int→Int→Int→Int→Int→Int→Int→Int→Int→Int→Int→List Int→Z22→Int→Int→Int→Int→Int→Int→List Int→Int→Int→Int→Int→Int→Z22→Option Qki
noncomputable def Qkq (v22 v23 v24 v25 v26 v27:Int) (v33:List Int) (v28 v29 v30 v31 v32:Int) (v34:List Qky) (r90:(Qyy × Unit) × (Zfr × Unit)) (L2:Qp2) (v4 v5 v6 v9 v10 v11 v12 v13 v14 v15 v16 v17 v18 v19:Int) (v20:List Int) (v21:List Qky):Option Qki:=
 Option.bind (Qlp (v22,v23,v24,v25,v26,v27,v33,v28,v29,v30,v31,v32,v34) r90.1.1 1) fun r97=>
 L2 v4 v5 (IntKind.wrap .i64 (v6+1)) r90.2.1.1 r90.2.1.2 v9 v10 v11 v12 v13 v14 v15 v16 v17 v18 v19 v20 v21 r97.1.1.1 r97.1.1.2.1 r97.1.1.2.2.1 (g3 r97.1.1) (g4 r97.1.1) (g5 r97.1.1) (g6 r97.1.1) (g7 r97.1.1) (g8 r97.1.1) (g9 r97.1.1) (g10 r97.1.1) (g11 r97.1.1) (h12 r97.1.1)
noncomputable def Qsb (L2:Qp2) (v4 v5 v6:Int) (v7:List Int) (v8 v9 v10 v11 v12 v13 v14 v15 v16 v17 v18 v19:Int) (v20:List Int) (v21:List Qky) (v22 v23 v24 v25 v26 v27 v28 v29 v30 v31 v32:Int) (v33:List Int) (v34:List Qky):Option Qki:=
 bif decide (v6<v5) then
  Option.bind (Qnv (v7,v8)) fun r35=>
  bif !r35.1.1 then
   Option.bind (Qk5 r35.2.1 4) fun r36=>
   bif r36.1.1==0 then
    Option.bind (Quz (v22,v23,v24,v25,v26,v27,v33,v28,v29,v30,v31,v32,v34)) fun r37=>
    L2 v4 v5 (IntKind.wrap .i64 (v6+1)) r36.2.1.1 r36.2.1.2 v9 v10 v11 v12 v13 v14 v15 v16 v17 v18 v19 v20 v21 r37.1.1.1 r37.1.1.2.1 r37.1.1.2.2.1 (g3 r37.1.1) (g4 r37.1.1) (g5 r37.1.1) (g6 r37.1.1) (g7 r37.1.1) (g8 r37.1.1) (g9 r37.1.1) (g10 r37.1.1) (g11 r37.1.1) (h12 r37.1.1)
   else
   bif r36.1.1==1 then
    Option.bind (Qkj r36.2.1 v4) fun r90=>
    bif v30 != 0 then
     bif v30 != v4 then
      Option.bind (Qk5 r90.2.1 2) fun r91=>
      Option.bind (Qk5 r91.2.1 9) fun r92=>
      Option.bind (Qk5 r92.2.1 22) fun r93=>
      Option.bind (Qkg r93.2.1) fun r94=>
      bif decide (1≤(r94.1.1.length:Int))&&decide ((r94.1.1.length:Int)≤(r94.1.1.length:Int)) then
       bif Nat.ble (1+(List.drop 1 (List.take ((r94.1.1.length:Int).toNat) r94.1.1)).length) 1073741824 then
        Option.bind (Qk5 r94.2.1 4) fun r95=>
        Option.bind (Qlp (v22,v23,v24,v25,v26,v27,v33,v28,v29,v30,v31,v32,v34) (2,v30,v4,IntKind.wrap .i64 (1+r91.1.1),r92.1.1,r93.1.1,[1]++(List.drop 1 (List.take ((r94.1.1.length:Int).toNat) r94.1.1)),IntKind.wrap .i64 (1+r95.1.1),0,(⟨#[]⟩:ByteArray)) 1) fun r96=>
        L2 v4 v5 (IntKind.wrap .i64 (v6+1)) r95.2.1.1 r95.2.1.2 v9 v10 v11 v12 v13 v14 v15 v16 v17 v18 v19 v20 v21 r96.1.1.1 r96.1.1.2.1 r96.1.1.2.2.1 (g3 r96.1.1) (g4 r96.1.1) (g5 r96.1.1) (g6 r96.1.1) (g7 r96.1.1) (g8 r96.1.1) (g9 r96.1.1) (g10 r96.1.1) (g11 r96.1.1) (h12 r96.1.1)
       else none
      else none
     else
      Qkq v22 v23 v24 v25 v26 v27 v33 v28 v29 v30 v31 v32 v34 r90 L2 v4 v5 v6 v9 v10 v11 v12 v13 v14 v15 v16 v17 v18 v19 v20 v21
    else
     Qkq v22 v23 v24 v25 v26 v27 v33 v28 v29 v30 v31 v32 v34 r90 L2 v4 v5 v6 v9 v10 v11 v12 v13 v14 v15 v16 v17 v18 v19 v20 v21
   else
   bif r36.1.1==2 then
    Option.bind (Qkj r36.2.1 v4) fun r99=>
    bif v25 != 0 then
     Option.bind (Qk5 r99.2.1 30) fun r100=>
     Option.bind (Qk5 r100.2.1 20) fun r101=>
     Option.bind (Qkg r101.2.1) fun r102=>
     Option.bind (Qk5 r102.2.1 9) fun r103=>
     Option.bind (Qlp (v22,v23,v24,v25,v26,v27,v33,v28,v29,v30,v31,v32,v34) (5,v25,v4,v26,r100.1.1,r101.1.1,r102.1.1,0,r103.1.1,(⟨#[]⟩:ByteArray)) 1) fun r104=>
     L2 v4 v5 (IntKind.wrap .i64 (v6+1)) r103.2.1.1 r103.2.1.2 v9 v10 v11 v12 v13 v14 v15 v16 v17 v18 v19 v20 v21 r104.1.1.1 r104.1.1.2.1 r104.1.1.2.2.1 (g3 r104.1.1) (g4 r104.1.1) (g5 r104.1.1) (g6 r104.1.1) (g7 r104.1.1) (g8 r104.1.1) (g9 r104.1.1) (g10 r104.1.1) (g11 r104.1.1) (h12 r104.1.1)
    else
     Qkq v22 v23 v24 v25 v26 v27 v33 v28 v29 v30 v31 v32 v34 r99 L2 v4 v5 v6 v9 v10 v11 v12 v13 v14 v15 v16 v17 v18 v19 v20 v21
   else
    Option.bind (Qkj r36.2.1 v4) fun r106=>
    Qkq v22 v23 v24 v25 v26 v27 v33 v28 v29 v30 v31 v32 v34 r106 L2 v4 v5 v6 v9 v10 v11 v12 v13 v14 v15 v16 v17 v18 v19 v20 v21
  else
   some (((v22,v23,v24,v25,v26,v27,v33,v28,v29,v30,v31,v32,v34),()),(r35.2.1,()))
 else
  some (((v22,v23,v24,v25,v26,v27,v33,v28,v29,v30,v31,v32,v34),()),((v7,v8),()))
noncomputable def Qkp (L2:Qp2) (v38 v39 v40:Int) (v41:List Int) (v42 v43 v44 v45 v46 v47 v48 v49 v50 v51 v52 v53:Int) (v54:List Int) (v55:List Qky) (v56 v57 v58 v59 v60 v61:Int) (v62:List Int) (v63 v64 v65 v66 v67:Int) (v68:List Qky):Option Qki:=
 bif decide (v40<v39) then
  Option.bind (Qnv (v41,v42)) fun r69=>
  bif !r69.1.1 then
   Option.bind (Qk5 r69.2.1 4) fun r70=>
   bif r70.1.1==0 then
    Option.bind (Quz (v56,v57,v58,v59,v60,v61,v62,v63,v64,v65,v66,v67,v68)) fun r71=>
    L2 v38 v39 (IntKind.wrap .i64 (v40+1)) r70.2.1.1 r70.2.1.2 v43 v44 v45 v46 v47 v48 v49 v50 v51 v52 v53 v54 v55 r71.1.1.1 r71.1.1.2.1 r71.1.1.2.2.1 (g3 r71.1.1) (g4 r71.1.1) (g5 r71.1.1) (g6 r71.1.1) (g7 r71.1.1) (g8 r71.1.1) (g9 r71.1.1) (g10 r71.1.1) (g11 r71.1.1) (h12 r71.1.1)
   else
   bif r70.1.1==1 then
    Option.bind (Qkj r70.2.1 v38) fun r72=>
    bif v65 != 0 then
     bif v65 != v38 then
      Option.bind (Qk5 r72.2.1 2) fun r73=>
      Option.bind (Qk5 r73.2.1 9) fun r74=>
      Option.bind (Qk5 r74.2.1 22) fun r75=>
      Option.bind (Qkg r75.2.1) fun r76=>
      bif decide (1≤(r76.1.1.length:Int))&&decide ((r76.1.1.length:Int)≤(r76.1.1.length:Int)) then
       bif Nat.ble (1+(List.drop 1 (List.take ((r76.1.1.length:Int).toNat) r76.1.1)).length) 1073741824 then
        Option.bind (Qk5 r76.2.1 4) fun r77=>
        Option.bind (Qlp (v56,v57,v58,v59,v60,v61,v62,v63,v64,v65,v66,v67,v68) (2,v65,v38,IntKind.wrap .i64 (1+r73.1.1),r74.1.1,r75.1.1,[1]++(List.drop 1 (List.take ((r76.1.1.length:Int).toNat) r76.1.1)),IntKind.wrap .i64 (1+r77.1.1),0,(⟨#[]⟩:ByteArray)) 1) fun r78=>
        L2 v38 v39 (IntKind.wrap .i64 (v40+1)) r77.2.1.1 r77.2.1.2 v43 v44 v45 v46 v47 v48 v49 v50 v51 v52 v53 v54 v55 r78.1.1.1 r78.1.1.2.1 r78.1.1.2.2.1 (g3 r78.1.1) (g4 r78.1.1) (g5 r78.1.1) (g6 r78.1.1) (g7 r78.1.1) (g8 r78.1.1) (g9 r78.1.1) (g10 r78.1.1) (g11 r78.1.1) (h12 r78.1.1)
       else none
      else none
     else
      Qkq v56 v57 v58 v59 v60 v61 v62 v63 v64 v65 v66 v67 v68 r72 L2 v38 v39 v40 v43 v44 v45 v46 v47 v48 v49 v50 v51 v52 v53 v54 v55
    else
     Qkq v56 v57 v58 v59 v60 v61 v62 v63 v64 v65 v66 v67 v68 r72 L2 v38 v39 v40 v43 v44 v45 v46 v47 v48 v49 v50 v51 v52 v53 v54 v55
   else
   bif r70.1.1==2 then
    Option.bind (Qkj r70.2.1 v38) fun r81=>
    bif v59 != 0 then
     Option.bind (Qk5 r81.2.1 30) fun r82=>
     Option.bind (Qk5 r82.2.1 20) fun r83=>
     Option.bind (Qkg r83.2.1) fun r84=>
     Option.bind (Qk5 r84.2.1 9) fun r85=>
     Option.bind (Qlp (v56,v57,v58,v59,v60,v61,v62,v63,v64,v65,v66,v67,v68) (5,v59,v38,v60,r82.1.1,r83.1.1,r84.1.1,0,r85.1.1,(⟨#[]⟩:ByteArray)) 1) fun r86=>
     L2 v38 v39 (IntKind.wrap .i64 (v40+1)) r85.2.1.1 r85.2.1.2 v43 v44 v45 v46 v47 v48 v49 v50 v51 v52 v53 v54 v55 r86.1.1.1 r86.1.1.2.1 r86.1.1.2.2.1 (g3 r86.1.1) (g4 r86.1.1) (g5 r86.1.1) (g6 r86.1.1) (g7 r86.1.1) (g8 r86.1.1) (g9 r86.1.1) (g10 r86.1.1) (g11 r86.1.1) (h12 r86.1.1)
    else
     Qkq v56 v57 v58 v59 v60 v61 v62 v63 v64 v65 v66 v67 v68 r81 L2 v38 v39 v40 v43 v44 v45 v46 v47 v48 v49 v50 v51 v52 v53 v54 v55
   else
    Option.bind (Qkj r70.2.1 v38) fun r88=>
    Qkq v56 v57 v58 v59 v60 v61 v62 v63 v64 v65 v66 v67 v68 r88 L2 v38 v39 v40 v43 v44 v45 v46 v47 v48 v49 v50 v51 v52 v53 v54 v55
  else
   some (((v56,v57,v58,v59,v60,v61,v62,v63,v64,v65,v66,v67,v68),()),(r69.2.1,()))
 else
  some (((v56,v57,v58,v59,v60,v61,v62,v63,v64,v65,v66,v67,v68),()),((v41,v42),()))
noncomputable def Qpx (L1:Qwe) (p_0:(List Int) × Int) (id_1 most_2:Int):Option Qki:=
 Option.bind (Qk5 p_0 5) fun r1=>
 Option.bind (Qk5 r1.2.1 4) fun r2=>
 Option.bind (Qtf id_1 2 r1.1.1 r2.1.1) fun r3=>
 L1 id_1 most_2 0 r2.2.1.1 r2.2.1.2 0 0 0 0 0 0 0 0 0 0 0 [] [] r3.1.1.1 r3.1.1.2.1 r3.1.1.2.2.1 (g3 r3.1.1) (g4 r3.1.1) (g5 r3.1.1) (g7 r3.1.1) (g8 r3.1.1) (g9 r3.1.1) (g10 r3.1.1) (g11 r3.1.1) (g6 r3.1.1) (h12 r3.1.1)
noncomputable def Qmt (n:Nat):Nat→Qp2:=iter (fun _ _ _ _ _ _ _ _ _ _ _ _ _ _ _ _ _ _ _ _ _ _ _ _ _ _ _ _ _ _ _=>none) fun L=>Qkp L
noncomputable def Qs6 (n:Nat):Nat→Qwe:=Qjg (fun _ _ _ _ _ _ _ _ _ _ _ _ _ _ _ _ _ _ _ _ _ _ _ _ _ _ _ _ _ _ _=>none) fun m L=>Qsb (Qmt n m)
noncomputable def Qs0 (n m:Nat) (v4 v5 v6:Int) (v7:List Int) (v8 v9 v10 v11 v12 v13 v14 v15 v16 v17 v18 v19:Int) (v20:List Int) (v21:List Qky) (v22 v23 v24 v25 v26 v27 v28 v29 v30 v31 v32:Int) (v33:List Int) (v34:List Qky):Option Qki:=
 Qjv Qx9 tab (fiB [.box 75 t74 [false,false],.val t2,.val t2] Qsf) n [.box 75 t74 [false,false],.val t2,.val t2] [⟨t30,(nF 13),none⟩] Tryz.f41 [1,1,0,1,0] [] [0,1,2,6,7,8] m
 ⟨[(0,V1 (.ptr (0,0) 0)),(1,Vp t2 v4),(2,Vp t2 v5),(6,V1 (.ptr (6,0) 0)),(7,V1 (.ptr (7,0) 0)),(8,Vp t2 v6)],[((0,0),Ob.box 75 [LV.pure t25 v7,LV.pure t2 v8]),((6,0),Ob.box 31 [LV.pure t2 v9,LV.pure t2 v10,LV.pure t2 v11,LV.pure t2 v12,LV.pure t2 v13,LV.pure t2 v14,LV.ref (6,7),LV.pure t2 v15,LV.pure t2 v16,LV.pure t2 v17,LV.pure t2 v18,LV.pure t2 v19,LV.ref (6,13)]),((6,7),Ob.row 3 t2 v20),((6,13),Ob.row 53 t52 v21),((7,0),Ob.box 31 [LV.pure t2 v22,LV.pure t2 v23,LV.pure t2 v24,LV.pure t2 v25,LV.pure t2 v26,LV.pure t2 v27,LV.ref (7,7),LV.pure t2 v28,LV.pure t2 v29,LV.pure t2 v30,LV.pure t2 v31,LV.pure t2 v32,LV.ref (7,13)]),((7,7),Ob.row 3 t2 v33),((7,13),Ob.row 53 t52 v34)]⟩
noncomputable def Qox (n m:Nat) (v38 v39 v40:Int) (v41:List Int) (v42 v43 v44 v45 v46 v47 v48 v49 v50 v51 v52 v53:Int) (v54:List Int) (v55:List Qky) (v56 v57 v58 v59 v60 v61:Int) (v62:List Int) (v63 v64 v65 v66 v67:Int) (v68:List Qky):Option Qki:=
 Qjv Qx9 tab (fiB [.box 75 t74 [false,false],.val t2,.val t2] Qsf) n [.box 75 t74 [false,false],.val t2,.val t2] [⟨t30,(nF 13),none⟩] Tryz.f41 [1,1,0,1,0] [] [0,1,2,6,7,8] m
 ⟨[(0,V1 (.ptr (0,0) 0)),(1,Vp t2 v38),(2,Vp t2 v39),(6,V1 (.ptr (6,0) 0)),(7,V1 (.ptr (7,0) 0)),(8,Vp t2 v40)],[((0,0),Ob.box 75 [LV.pure t25 v41,LV.pure t2 v42]),((6,0),Ob.box 31 [LV.pure t2 v43,LV.pure t2 v44,LV.pure t2 v45,LV.pure t2 v46,LV.pure t2 v47,LV.pure t2 v48,LV.ref (6,7),LV.pure t2 v49,LV.pure t2 v50,LV.pure t2 v51,LV.pure t2 v52,LV.pure t2 v53,LV.ref (6,13)]),((6,7),Ob.row 3 t2 v54),((6,13),Ob.row 53 t52 v55),((7,0),Ob.box 31 [LV.pure t2 v56,LV.pure t2 v57,LV.pure t2 v58,LV.pure t2 v59,LV.pure t2 v60,LV.pure t2 v61,LV.pure t28 v62,LV.pure t2 v63,LV.pure t2 v64,LV.pure t2 v65,LV.pure t2 v66,LV.pure t2 v67,LV.pure t29 v68])]⟩
theorem Qvi (n:Nat):∀ m,Qox n m=Qmt n m
 | 0=>rfl
 | m+1=>by rw [show Qox n (m+1)=Qkp (Qox n m) from by kernel_rfl,Qvi n m];rfl
theorem Z4s (n:Nat):∀ m,Qs0 n m=Qs6 n m
 | 0=>rfl
 | m+1=>by rw [show Qs0 n (m+1)=Qsb (Qox n m) from by kernel_rfl,Qvi n m];rfl
noncomputable def Qxp (n:Nat) (p_0:(List Int) × Int) (id_1 most_2:Int):Option Qki:=Qpx (Qs6 n n) p_0 id_1 most_2
noncomputable def Que (p_0:(List Int) × Int) (id_1 most_2:Int):Option Qki:=Qxp 1099511627776 p_0 id_1 most_2
noncomputable def Z7h:Ent:=⟨[.box 75 t74 [false,false],.val t2,.val t2],[⟨t30,(nF 13),none⟩],fun x=>Que x.1 x.2.1 x.2.2.1⟩
theorem Z3v:GD 41 Z7h:=fnl Qsf (fun n x=>Qxp n x.1 x.2.1 x.2.2.1) (Qjy Qup (Qjy Qu2 (Qjy Ql4 (Qjy Z02 (Qjy Qu5 (Qjy Z8a (Qjy Z76 Qk3))))))) Tryz.func41 fun n x=>Eq.trans (b:=Qpx (Qs0 n n) x.1 x.2.1 x.2.2.1) (by kernel_rfl) (by rw [Z4s n n];rfl)
noncomputable def Qnf (f_0:Int × Int × Qkz × Qkz × Qso × Int × Int) (top_1:Int):Option ((Z2k × Unit) × Unit):=
 bif decide (f_0.1>0) then
  bif decide (top_1≤1000000) then
   some (((u1 f_0 (if top_1>f_0.2.1 then top_1 else f_0.2.1)),()),())
  else
   some ((f_0,()),())
 else
  some ((f_0,()),())
noncomputable def Z1j:Ent:=⟨[.val t36,.val t2],[⟨t36,(nF 7),none⟩],fun x=>Qnf x.1 x.2.1⟩
theorem Qpy:GD 66 Z1j:=fnk 1 (fo [[1,2,4,9,10],[1,2,4,11],[2,4],[4]]) Qk3 Tryz.func66
noncomputable def Qtx (f_0:Int × Int × Qkz × Qkz × Qso × Int × Int) (next_1:Int):Option ((Z2k × Unit) × Unit):=
 bif decide (f_0.1>0) then
  Option.bind (Qnf f_0 (IntKind.wrap .i64 (next_1 - 1))) fun r1=>
  some ((r1.1.1,()),())
 else
 bif decide (next_1 ≥ 1) then
  bif decide (next_1≤1000000) then
   some (((next_1,f_0.2),()),())
  else
   some ((f_0,()),())
 else
  some ((f_0,()),())
noncomputable def Z1y:Ent:=⟨[.val t36,.val t2],[⟨t36,(nF 7),none⟩],fun x=>Qtx x.1 x.2.1⟩
theorem Z71:GD 67 Z1y:=fnk 1 (fo [[1,2,4,15,16],[1,2,4,7,15,16],[4],[1,2,4,17],[2,4],[4]]) (Qjy Qpy Qk3) Tryz.func67
noncomputable def Qkw (s_0:Int × Int):Option ((Bool × Unit) × Unit):=
 bif decide (s_0.1 ≥ 1) then
  bif decide (s_0.1≤s_0.2) then
   some ((decide (s_0.2≤1000000),()),())
  else
   some ((false,()),())
 else
  some ((false,()),())
noncomputable def Z9n:Ent:=⟨[.val t34],[⟨t4,[false],none⟩],fun x=>Qkw x.1⟩
theorem Qwg:GD 107 Z9n:=fnk 1 (fo [[1,7,8,9,10,11,14,15,16],[2]]) Qk3 Tryz.func107
noncomputable def Qmk (l_0:List Qla):Option ((Int × Unit) × Unit):=
 bif (l_0.length:Int)==0 then
  some ((0,()),())
 else
 bif decide (0<(l_0.length:Int)) then
  some (((List.getD l_0 0 (0,(⟨#[]⟩:ByteArray))).1,()),())
 else none
noncomputable def Z1h:Ent:=⟨[.val t32],[⟨t2,[false],none⟩],fun x=>Qmk x.1⟩
theorem Qxk:GD 168 Z1h:=fnk 1 (fo [[0],[0,5],[2],[2]]) Qk3 Tryz.func168
noncomputable def Qoo (l_0:List Qrq) (lo_1 hi_2 why_3:Int):Option ((Qso × Unit) × Unit):=
 bif Nat.ble (0+l_0.length) 1073741824 then
  bif Nat.ble (([]++l_0).length+1) 1073741824 then
   some ((([]++l_0)++[(2,lo_1,hi_2,(⟨#[]⟩:ByteArray),why_3)],()),())
  else none
 else none
noncomputable def Z2f:Ent:=⟨[.val t33,.val t2,.val t2,.val t2],[⟨t33,[true],none⟩],fun x=>Qoo x.1 x.2.1 x.2.2.1 x.2.2.2.1⟩
theorem Z8l:GD 169 Z2f:=fnk 1 (fo [[0,1,2,3],[8]]) Qk3 Tryz.func169
noncomputable def Qnc (l_0:List Qla) (next_1:Int):Option ((Qkz × Qla × Bool × Unit) × Unit):=
 bif (l_0.length:Int)==0 then
  some ((l_0,(0,(⟨#[]⟩:ByteArray)),false,()),())
 else
 bif decide (0<(l_0.length:Int)) then
  bif ((List.getD l_0 0 (0,(⟨#[]⟩:ByteArray))).1) != next_1 then
   some ((l_0,(0,(⟨#[]⟩:ByteArray)),false,()),())
  else
  bif decide (1≤(l_0.length:Int))&&decide ((l_0.length:Int)≤(l_0.length:Int)) then
   bif Nat.ble (0+(List.drop 1 (List.take ((l_0.length:Int).toNat) l_0)).length) 1073741824 then
    bif decide (0<(l_0.length:Int)) then
     some (([]++(List.drop 1 (List.take ((l_0.length:Int).toNat) l_0)),(List.getD l_0 0 (0,(⟨#[]⟩:ByteArray))),true,()),())
    else none
   else none
  else none
 else none
noncomputable def Qy8:Ent:=⟨[.val t32,.val t2],[⟨t32,[false],none⟩,⟨t58,[false,false],none⟩,⟨t4,[false],none⟩],fun x=>Qnc x.1 x.2.1⟩
theorem Z5f:GD 170 Qy8:=fnk 1 (fo [[0,1,5,11,12,13,14,15,16],[0,5,17],[4,5,6],[4,5,6]]) Qk3 Tryz.func170
noncomputable def Qqa (l_0:List Qrq) (seq_1:Int) (text_2:ByteArray):Option ((Qso × Unit) × Unit):=
 bif Nat.ble (0+l_0.length) 1073741824 then
  bif Nat.ble (([]++l_0).length+1) 1073741824 then
   some ((([]++l_0)++[(1,seq_1,seq_1,text_2,0)],()),())
  else none
 else none
noncomputable def Z2n:Ent:=⟨[.val t33,.val t2,.val t9],[⟨t33,[true],none⟩],fun x=>Qqa x.1 x.2.1 x.2.2.1⟩
theorem Qya:GD 132 Z2n:=fnk 1 (fo [[0,1,2],[6]]) Qk3 Tryz.func132
noncomputable def Qpv (l_0:List Qla) (i_1:Int × ByteArray):Option ((Qkz × Unit) × Unit):=
 bif Nat.ble (([]++l_0).length+1) 1073741824 then
  bif decide (((([]++l_0)++[i_1]).length:Int)>6) then
   bif decide (1≤((([]++l_0)++[i_1]).length:Int))&&decide (((([]++l_0)++[i_1]).length:Int)≤((([]++l_0)++[i_1]).length:Int)) then
    some ((List.drop 1 (List.take (((([]++l_0)++[i_1]).length:Int).toNat) (([]++l_0)++[i_1])),()),())
   else none
  else
   some ((([]++l_0)++[i_1],()),())
 else none
noncomputable def Qng (l_0:List Qla) (i_1:Int × ByteArray):Option ((Qkz × Unit) × Unit):=
 bif Nat.ble (0+l_0.length) 1073741824 then
  bif decide ((l_0.length:Int)>0) then
   bif decide (0≤IntKind.wrap .i64 ((l_0.length:Int) - 1))&&decide (IntKind.wrap .i64 ((l_0.length:Int) - 1)<(l_0.length:Int)) then
    bif decide ((List.getD l_0 ((IntKind.wrap .i64 ((l_0.length:Int) - 1)).toNat) (0,(⟨#[]⟩:ByteArray))).1 ≥ i_1.1) then
     some (([]++l_0,()),())
    else
     Qpv l_0 i_1
   else none
  else
   Qpv l_0 i_1
 else none
noncomputable def Qyf:Ent:=⟨[.val t32,.val t58],[⟨t32,[false],none⟩],fun x=>Qng x.1 x.2.1⟩
theorem Qvn:GD 133 Qyf:=fnk 1 (fo [[0,3,13,14,15,16,17,18,19,20,21,22],[0,3,5,13,14,15,16,17,18,19,20,21,22],[3,5,23],[4],[5],[5,31],[5],[4]]) Qk3 Tryz.func133
abbrev Ql9:Type:=(Z2k × Qkz × Unit) × Unit
noncomputable def Z3l:Ctx:=[(132,Z2n),(133,Qyf),(170,Qy8)]
def Qv9:Fi:={ keep:=[],vty:=[(4,32)],vals:=[],live:=[(0,[1,2]),(1,[1,2,4]),(2,[1,2,4,5,6,7]),(3,[1,2,4,5,6,18]),(4,[2,3]),(5,[1,2,4,6]),(6,[1,2,4,6]),(7,[1,2,4])] }
abbrev Z0r:Type:=Int→Int→Qkz→Qkz→Qso→Int→Int→Int→Int→Int→Int→Qkz→Qkz→Qso→Qkz→Option Ql9
abbrev Qv6:Type:=Int→Int→Qkz→Qkz→Int→Int→Qso→Int→Int→Int→Int→Qkz→Qkz→Qso→Qkz→Option Ql9
noncomputable def Qv1 (L2:Qv6) (v1 v2:Int) (v3 v4:List Qla) (v5:List Qrq) (v6 v7 v8 v9 v10 v11:Int) (v12 v13:List Qla) (v14:List Qrq) (v15:List Qla):Option Ql9:=
 Option.bind (Qnc v4 v1) fun r16=>
 bif !r16.1.2.2.1 then
  some (((v1,v2,v3,v4,v5,v6,v7),v15,()),())
 else
  Option.bind (Qqa v5 r16.1.2.1.1 r16.1.2.1.2) fun r17=>
  Option.bind (Qng v3 r16.1.2.1) fun r18=>
  bif Nat.ble (v15.length+1) 1073741824 then
   L2 (IntKind.wrap .i64 (v1+1)) v2 r18.1.1 r16.1.1 0 0 r17.1.1 v8 v9 v10 v11 v12 v13 v14 (v15++[r16.1.2.1])
  else none
noncomputable def Qne (L2:Qv6) (v19 v20:Int) (v21 v22:List Qla) (v23 v24:Int) (v25:List Qrq) (v26 v27 v28 v29:Int) (v30 v31:List Qla) (v32:List Qrq) (v33:List Qla):Option Ql9:=
 Option.bind (Qnc v22 v19) fun r34=>
 bif !r34.1.2.2.1 then
  some (((v19,v20,v21,v22,v25,v23,v24),v33,()),())
 else
  Option.bind (Qqa v25 r34.1.2.1.1 r34.1.2.1.2) fun r35=>
  Option.bind (Qng v21 r34.1.2.1) fun r36=>
  bif Nat.ble (v33.length+1) 1073741824 then
   L2 (IntKind.wrap .i64 (v19+1)) v20 r36.1.1 r34.1.1 0 0 r35.1.1 v26 v27 v28 v29 v30 v31 v32 (v33++[r34.1.2.1])
  else none
noncomputable def Z2v (L1:Z0r) (f_0:Int × Int × Qkz × Qkz × Qso × Int × Int):Option Ql9:=
 L1 f_0.1 f_0.2.1 f_0.2.2.1 (g3 f_0) (g4 f_0) (g5 f_0) (h6 f_0) 0 0 0 0 [] [] [] []
noncomputable def Qmg (n:Nat):Nat→Qv6:=iter (fun _ _ _ _ _ _ _ _ _ _ _ _ _ _ _=>none) fun L=>Qne L
noncomputable def Qs1 (n:Nat):Nat→Z0r:=Qjg (fun _ _ _ _ _ _ _ _ _ _ _ _ _ _ _=>none) fun m L=>Qv1 (Qmg n m)
noncomputable def Qvc (n m:Nat) (v1 v2:Int) (v3 v4:List Qla) (v5:List Qrq) (v6 v7 v8 v9 v10 v11:Int) (v12 v13:List Qla) (v14:List Qrq) (v15:List Qla):Option Ql9:=
 Qjv Z3l tab (fiB [.val t36] Qv9) n [.val t36] [⟨t36,(nF 7),none⟩,⟨t32,[true],none⟩] Tryz.f130 [1,1,0] [] [1,2,4] m
 ⟨[(1,V1 (.ptr (1,0) 0)),(2,V1 (.ptr (2,0) 0)),(4,V1 (.ref (888888,4)))],[((1,0),Ob.box 37 [LV.pure t2 v1,LV.pure t2 v2,LV.pure t32 v3,LV.pure t32 v4,LV.pure t33 v5,LV.pure t2 v6,LV.pure t2 v7]),((2,0),Ob.box 37 [LV.pure t2 v8,LV.pure t2 v9,LV.ref (2,3),LV.ref (2,4),LV.ref (2,5),LV.pure t2 v10,LV.pure t2 v11]),((2,3),Ob.row 59 t58 v12),((2,4),Ob.row 59 t58 v13),((2,5),Ob.row 55 t54 v14),((888888,4),Ob.row 59 t58 v15)]⟩
noncomputable def Qs5 (n m:Nat) (v19 v20:Int) (v21 v22:List Qla) (v23 v24:Int) (v25:List Qrq) (v26 v27 v28 v29:Int) (v30 v31:List Qla) (v32:List Qrq) (v33:List Qla):Option Ql9:=
 Qjv Z3l tab (fiB [.val t36] Qv9) n [.val t36] [⟨t36,(nF 7),none⟩,⟨t32,[true],none⟩] Tryz.f130 [1,1,0] [] [1,2,4] m
 ⟨[(1,V1 (.ptr (1,0) 0)),(2,V1 (.ptr (2,0) 0)),(4,V1 (.ref (888888,4)))],[((1,0),Ob.box 37 [LV.pure t2 v19,LV.pure t2 v20,LV.pure t32 v21,LV.pure t32 v22,LV.ref (1,5),LV.pure t2 v23,LV.pure t2 v24]),((1,5),Ob.row 55 t54 v25),((2,0),Ob.box 37 [LV.pure t2 v26,LV.pure t2 v27,LV.ref (2,3),LV.ref (2,4),LV.ref (2,5),LV.pure t2 v28,LV.pure t2 v29]),((2,3),Ob.row 59 t58 v30),((2,4),Ob.row 59 t58 v31),((2,5),Ob.row 55 t54 v32),((888888,4),Ob.row 59 t58 v33)]⟩
theorem Z03 (n:Nat):∀ m,Qs5 n m=Qmg n m
 | 0=>rfl
 | m+1=>by rw [show Qs5 n (m+1)=Qne (Qs5 n m) from by kernel_rfl,Z03 n m];rfl
theorem Za2 (n:Nat):∀ m,Qvc n m=Qs1 n m
 | 0=>rfl
 | m+1=>by rw [show Qvc n (m+1)=Qv1 (Qs5 n m) from by kernel_rfl,Z03 n m];rfl
noncomputable def Z2y (n:Nat) (f_0:Int × Int × Qkz × Qkz × Qso × Int × Int):Option Ql9:=Z2v (Qs1 n n) f_0
noncomputable def Qku (f_0:Int × Int × Qkz × Qkz × Qso × Int × Int):Option Ql9:=Z2y 1099511627776 f_0
noncomputable def Z2m:Ent:=⟨[.val t36],[⟨t36,(nF 7),none⟩,⟨t32,[true],none⟩],fun x=>Qku x.1⟩
theorem Qqg:GD 130 Z2m:=fnl Qv9 (fun n x=>Z2y n x.1) (Qjy Qya (Qjy Qvn (Qjy Z5f Qk3))) Tryz.func130 fun n x=>Eq.trans (b:=Z2v (Qvc n n) x.1) (by kernel_rfl) (by rw [Za2 n n];rfl)
abbrev Qkn:Type:=(Z2k × Zjc × Unit) × Unit
noncomputable def Z1e:Ctx:=[(130,Z2m),(168,Z1h),(169,Z2f)]
def Quc:Fi:={ keep:=[],vty:=[(8,146)],vals:=[(3,5)],live:=[(0,[1,2,3,6,14,15,30,31,32,33,34]),(1,[1,2,3,6,8,14,15,30,31,32,33,34]),(2,[1,2,3,6,8,16,30,31,32,33,34]),(3,[6,7]),(4,[1,2,3,6,8,21,30,31,32,33,34]),(5,[1,2,3,6,8,30,31,32,33,34]),(6,[1,2,3,6,8,9,30,31,32,33,34]),(7,[1,2,3,6,8,9,30,31,32,33,34,35]),(8,[1,2,3,6,8,9,30,31,32,33,34]),(9,[1,2,3,6,8,9,30,31,32,33,34,43]),(10,[1,2,3,6,8,9,30,31,32,33,34]),(11,[1,2,3,6,8,9,30,31,32,33,34]),(12,[1,2,3,6,8,30,31,32,33,34]),(13,[1,2,3,6,8,30,31,32,33,34,65]),(14,[1,2,3,6,8,30,31,32,33,34]),(15,[6,7])] }
abbrev Qzi:Type:=Int→Int→Bool→Int→Int→Qkz→Qkz→Qso→Int→Int→Int→Int→Int→Int→Qkz→Qkz→Qso→Zjc→Option Qkn
abbrev Qoq:Type:=Int→Int→Int→Int→Qkz→Qkz→Qso→Int→Int→Int→Int→Int→Int→Qkz→Qkz→Qso→Zjc→Option Qkn
noncomputable def Qr2 (v4 v1 v5:Int) (v6 v7:List Qla) (v8:List Qrq) (L2:Qoq) (v2 v11 v12 v13 v14:Int) (v15 v16:List Qla) (v17:List Qrq) (v18:List (Int × Int)):Option Qkn:=
 bif decide (v4≤v1) then
  Option.bind (Qku (v4,v5,v6,v7,v8,0,0)) fun r51=>
  L2 v1 v2 r51.1.1.1 r51.1.1.2.1 r51.1.1.2.2.1 (g3 r51.1.1) (g4 r51.1.1) (g5 r51.1.1) (h6 r51.1.1) v11 v12 v13 v14 v15 v16 v17 v18
 else
  L2 v1 v2 v4 v5 v6 v7 v8 0 0 v11 v12 v13 v14 v15 v16 v17 v18
noncomputable def Qn2 (v1 v4:Int) (v8:List Qrq) (v2:Int) (v18:List (Int × Int)) (v5:Int) (v6 v7:List Qla) (L2:Qoq) (v11 v12 v13 v14:Int) (v15 v16:List Qla) (v17:List Qrq):Option Qkn:=
 bif decide (v1 ≥ v4) then
  Option.bind (Qoo v8 v4 v1 v2) fun r52=>
  bif Nat.ble (v18.length+1) 1073741824 then
   bif decide (IntKind.wrap .i64 (v1+1)≤v1) then
    Option.bind (Qku (IntKind.wrap .i64 (v1+1),v5,v6,v7,r52.1.1,0,0)) fun r53=>
    L2 v1 v2 r53.1.1.1 r53.1.1.2.1 r53.1.1.2.2.1 (g3 r53.1.1) (g4 r53.1.1) (g5 r53.1.1) (h6 r53.1.1) v11 v12 v13 v14 v15 v16 v17 (v18++[(v4,v1)])
   else
    L2 v1 v2 (IntKind.wrap .i64 (v1+1)) v5 v6 v7 r52.1.1 0 0 v11 v12 v13 v14 v15 v16 v17 (v18++[(v4,v1)])
  else none
 else
  Qr2 v4 v1 v5 v6 v7 v8 L2 v2 v11 v12 v13 v14 v15 v16 v17 v18
noncomputable def Qug (L2:Qoq) (v1 v2:Int) (v3:Bool) (v4 v5:Int) (v6 v7:List Qla) (v8:List Qrq) (v9 v10 v11 v12 v13 v14:Int) (v15 v16:List Qla) (v17:List Qrq) (v18:List (Int × Int)):Option Qkn:=
 bif decide (v4≤v1) then
  bif decide ((v7.length:Int)>0) then
   Option.bind (Qmk v7) fun r19=>
   bif decide (r19.1.1≤v1) then
    Option.bind (Qmk v7) fun r20=>
    bif decide (IntKind.wrap .i64 (r20.1.1 - 1) ≥ v4) then
     Option.bind (Qoo v8 v4 (IntKind.wrap .i64 (r20.1.1 - 1)) v2) fun r21=>
     bif Nat.ble (v18.length+1) 1073741824 then
      bif decide (IntKind.wrap .i64 ((IntKind.wrap .i64 (r20.1.1 - 1))+1)≤v1) then
       Option.bind (Qku (IntKind.wrap .i64 ((IntKind.wrap .i64 (r20.1.1 - 1))+1),v5,v6,v7,r21.1.1,0,0)) fun r22=>
       L2 v1 v2 r22.1.1.1 r22.1.1.2.1 r22.1.1.2.2.1 (g3 r22.1.1) (g4 r22.1.1) (g5 r22.1.1) (h6 r22.1.1) v11 v12 v13 v14 v15 v16 v17 (v18++[(v4,IntKind.wrap .i64 (r20.1.1 - 1))])
      else
       L2 v1 v2 (IntKind.wrap .i64 ((IntKind.wrap .i64 (r20.1.1 - 1))+1)) v5 v6 v7 r21.1.1 0 0 v11 v12 v13 v14 v15 v16 v17 (v18++[(v4,IntKind.wrap .i64 (r20.1.1 - 1))])
     else none
    else
     Qr2 v4 v1 v5 v6 v7 v8 L2 v2 v11 v12 v13 v14 v15 v16 v17 v18
   else
    Qn2 v1 v4 v8 v2 v18 v5 v6 v7 L2 v11 v12 v13 v14 v15 v16 v17
  else
   Qn2 v1 v4 v8 v2 v18 v5 v6 v7 L2 v11 v12 v13 v14 v15 v16 v17
 else
  some (((v4,v5,v6,v7,v8,v9,v10),v18,()),())
noncomputable def Qm2 (L2:Qoq) (v23 v24 v25 v26:Int) (v27 v28:List Qla) (v29:List Qrq) (v30 v31 v32 v33 v34 v35:Int) (v36 v37:List Qla) (v38:List Qrq) (v39:List (Int × Int)):Option Qkn:=
 bif decide (v25≤v23) then
  bif decide ((v28.length:Int)>0) then
   Option.bind (Qmk v28) fun r40=>
   bif decide (r40.1.1≤v23) then
    Option.bind (Qmk v28) fun r41=>
    bif decide (IntKind.wrap .i64 (r41.1.1 - 1) ≥ v25) then
     Option.bind (Qoo v29 v25 (IntKind.wrap .i64 (r41.1.1 - 1)) v24) fun r42=>
     bif Nat.ble (v39.length+1) 1073741824 then
      bif decide (IntKind.wrap .i64 ((IntKind.wrap .i64 (r41.1.1 - 1))+1)≤v23) then
       Option.bind (Qku (IntKind.wrap .i64 ((IntKind.wrap .i64 (r41.1.1 - 1))+1),v26,v27,v28,r42.1.1,0,0)) fun r43=>
       L2 v23 v24 r43.1.1.1 r43.1.1.2.1 r43.1.1.2.2.1 (g3 r43.1.1) (g4 r43.1.1) (g5 r43.1.1) (h6 r43.1.1) v32 v33 v34 v35 v36 v37 v38 (v39++[(v25,IntKind.wrap .i64 (r41.1.1 - 1))])
      else
       L2 v23 v24 (IntKind.wrap .i64 ((IntKind.wrap .i64 (r41.1.1 - 1))+1)) v26 v27 v28 r42.1.1 0 0 v32 v33 v34 v35 v36 v37 v38 (v39++[(v25,IntKind.wrap .i64 (r41.1.1 - 1))])
     else none
    else
     Qr2 v25 v23 v26 v27 v28 v29 L2 v24 v32 v33 v34 v35 v36 v37 v38 v39
   else
    Qn2 v23 v25 v29 v24 v39 v26 v27 v28 L2 v32 v33 v34 v35 v36 v37 v38
  else
   Qn2 v23 v25 v29 v24 v39 v26 v27 v28 L2 v32 v33 v34 v35 v36 v37 v38
 else
  some (((v25,v26,v27,v28,v29,v30,v31),v39,()),())
noncomputable def Qse (L1:Qzi) (f_0:Int × Int × Qkz × Qkz × Qso × Int × Int) (hi_1 why_2:Int):Option Qkn:=
 bif decide (f_0.1<1) then
  some ((f_0,[],()),())
 else
 bif decide (hi_1>1000000) then
  some ((f_0,[],()),())
 else
  L1 hi_1 why_2 (decide (hi_1>1000000)) f_0.1 f_0.2.1 f_0.2.2.1 (g3 f_0) (g4 f_0) (g5 f_0) (h6 f_0) 0 0 0 0 [] [] [] []
noncomputable def Qn3 (n:Nat):Nat→Qoq:=iter (fun _ _ _ _ _ _ _ _ _ _ _ _ _ _ _ _ _=>none) fun L=>Qm2 L
noncomputable def Qos (n:Nat):Nat→Qzi:=Qjg (fun _ _ _ _ _ _ _ _ _ _ _ _ _ _ _ _ _ _=>none) fun m L=>Qug (Qn3 n m)
noncomputable def Qui (n m:Nat) (v1 v2:Int) (v3:Bool) (v4 v5:Int) (v6 v7:List Qla) (v8:List Qrq) (v9 v10 v11 v12 v13 v14:Int) (v15 v16:List Qla) (v17:List Qrq) (v18:List (Int × Int)):Option Qkn:=
 Qjv Z1e tab (fiB [.val t36,.val t2,.val t2] Quc) n [.val t36,.val t2,.val t2] [⟨t36,(nF 7),none⟩,⟨Zrl,[true],none⟩] Tryz.f129 [1,1,1,0,0] [] [1,2,3,6,8,16] m
 ⟨[(1,Vp t2 v1),(2,Vp t2 v2),(3,V1 (.ptr (3,0) 0)),(6,V1 (.ptr (6,0) 0)),(8,V1 (.ref (888888,8))),(16,Vp t4 v3)],[((3,0),Ob.box 37 [LV.pure t2 v4,LV.pure t2 v5,LV.pure t32 v6,LV.pure t32 v7,LV.pure t33 v8,LV.pure t2 v9,LV.pure t2 v10]),((6,0),Ob.box 37 [LV.pure t2 v11,LV.pure t2 v12,LV.ref (6,3),LV.ref (6,4),LV.ref (6,5),LV.pure t2 v13,LV.pure t2 v14]),((6,3),Ob.row 59 t58 v15),((6,4),Ob.row 59 t58 v16),((6,5),Ob.row 55 t54 v17),((888888,8),Ob.row 100 t34 v18)]⟩
noncomputable def Qr1 (n m:Nat) (v23 v24 v25 v26:Int) (v27 v28:List Qla) (v29:List Qrq) (v30 v31 v32 v33 v34 v35:Int) (v36 v37:List Qla) (v38:List Qrq) (v39:List (Int × Int)):Option Qkn:=
 Qjv Z1e tab (fiB [.val t36,.val t2,.val t2] Quc) n [.val t36,.val t2,.val t2] [⟨t36,(nF 7),none⟩,⟨Zrl,[true],none⟩] Tryz.f129 [1,1,1,0,0] [] [1,2,3,6,8,16] m
 ⟨[(1,Vp t2 v23),(2,Vp t2 v24),(3,V1 (.ptr (3,0) 0)),(6,V1 (.ptr (6,0) 0)),(8,V1 (.ref (888888,8)))],[((3,0),Ob.box 37 [LV.pure t2 v25,LV.pure t2 v26,LV.pure t32 v27,LV.pure t32 v28,LV.pure t33 v29,LV.pure t2 v30,LV.pure t2 v31]),((6,0),Ob.box 37 [LV.pure t2 v32,LV.pure t2 v33,LV.ref (6,3),LV.ref (6,4),LV.ref (6,5),LV.pure t2 v34,LV.pure t2 v35]),((6,3),Ob.row 59 t58 v36),((6,4),Ob.row 59 t58 v37),((6,5),Ob.row 55 t54 v38),((888888,8),Ob.row 100 t34 v39)]⟩
theorem Qy7 (n:Nat):∀ m,Qr1 n m=Qn3 n m
 | 0=>rfl
 | m+1=>by rw [show Qr1 n (m+1)=Qm2 (Qr1 n m) from by kernel_rfl,Qy7 n m];rfl
theorem Z8j (n:Nat):∀ m,Qui n m=Qos n m
 | 0=>rfl
 | m+1=>by rw [show Qui n (m+1)=Qug (Qr1 n m) from by kernel_rfl,Qy7 n m];rfl
noncomputable def Z10 (n:Nat) (f_0:Int × Int × Qkz × Qkz × Qso × Int × Int) (hi_1 why_2:Int):Option Qkn:=Qse (Qos n n) f_0 hi_1 why_2
noncomputable def Qts (f_0:Int × Int × Qkz × Qkz × Qso × Int × Int) (hi_1 why_2:Int):Option Qkn:=Z10 1099511627776 f_0 hi_1 why_2
noncomputable def Zax:Ent:=⟨[.val t36,.val t2,.val t2],[⟨t36,(nF 7),none⟩,⟨Zrl,[true],none⟩],fun x=>Qts x.1 x.2.1 x.2.2.1⟩
theorem Qxm:GD 129 Zax:=fnl Quc (fun n x=>Z10 n x.1 x.2.1 x.2.2.1) (Qjy Qqg (Qjy Qxk (Qjy Z8l Qk3))) Tryz.func129 fun n x=>Eq.trans (b:=Qse (Qui n n) x.1 x.2.1 x.2.2.1) (by kernel_rfl) (by rw [Z8j n n];rfl)
noncomputable def Qtt (f_0:Int × Int × Qkz × Qkz × Qso × Int × Int) (lo_1 hi_2:Int):Option ((Z2k × Unit) × Unit):=
 bif f_0.1==0 then
  some ((f_0,()),())
 else
  Option.bind (Qkw (lo_1,hi_2)) fun r1=>
  bif !r1.1.1 then
   some ((f_0,()),())
  else
   Option.bind (Qnf f_0 hi_2) fun r2=>
   bif decide (r2.1.1.1<lo_1) then
    some ((r2.1.1,()),())
   else
   bif decide (r2.1.1.1>hi_2) then
    some ((r2.1.1,()),())
   else
    Option.bind (Qts r2.1.1 hi_2 1) fun r3=>
    Option.bind (Qku r3.1.1) fun r4=>
    some ((r4.1.1,()),())
noncomputable def Z1x:Ent:=⟨[.val t36,.val t2,.val t2],[⟨t36,(nF 7),none⟩],fun x=>Qtt x.1 x.2.1 x.2.2.1⟩
theorem Z78:GD 69 Z1x:=fnk 1 (fo [[1,2,3,6,11,12,13,14,15,26,27,28,29],[1,2,3,6,16,26,27,28,29],[6],[1,2,3,6,26,27,28,29],[2,3,6,30],[6],[3,6],[3,6],[6]]) (Qjy Qpy (Qjy Qwg (Qjy Qxm (Qjy Qqg Qk3)))) Tryz.func69
noncomputable def Qto (f_0:Int × Int × Qkz × Qkz × Qso × Int × Int):Option (((Int × Int) × Bool × Unit) × Unit):=
 bif decide (((g3 f_0).length:Int)>0) then
  Option.bind (Qmk (g3 f_0)) fun r1=>
  bif f_0.1==0 then
   some (((0,0),false,()),())
  else
  bif decide (IntKind.wrap .i64 (r1.1.1 - 1)<f_0.1) then
   some (((0,0),false,()),())
  else
   some (((f_0.1,IntKind.wrap .i64 (r1.1.1 - 1)),true,()),())
 else
 bif f_0.1==0 then
  some (((0,0),false,()),())
 else
 bif decide (f_0.2.1<f_0.1) then
  some (((0,0),false,()),())
 else
  some (((f_0.1,f_0.2.1),true,()),())
noncomputable def Zba:Ent:=⟨[.val t36],[⟨t34,[false,false],none⟩,⟨t4,[false],none⟩],fun x=>Qto x.1⟩
theorem Z6x:GD 127 Zba:=fnk 1 (fo [[1,2,19,20,21,22],[1,2,4,19,20,21,22],[1,2,4,10,19,20,21,22],[1,2,4,19,20,21,22],[1,2,4,23],[2,3],[2,3]]) (Qjy Qxk Qk3) Tryz.func127
noncomputable def Qy4 (a_0:Int × Int) (now_1:Int):Option ((Bool × Unit) × Unit):=
 bif a_0.1==0 then
  some ((true,()),())
 else
  some ((decide (now_1 ≥ a_0.2),()),())
noncomputable def Zg2:Ent:=⟨[.val t34,.val t2],[⟨t4,[false],none⟩],fun x=>Qy4 x.1 x.2.1⟩
theorem Zb2:GD 128 Zg2:=fnk 1 (fo [[1,2,9,10,11,12],[4]]) Qk3 Tryz.func128
abbrev Qoh:Type:=((Int × Int) × Unit) × Unit
noncomputable def Zcj:Ctx:=[]
def Z0l:Fi:=fo [[1,2,4,12,13],[1,2,4,5,12,13],[1,2,4,5,6,12,13],[1,2,4,5,6,12,13,14],[1,2,4,5,6,12,13],[1,2,4,5,6,12,13],[4]]
abbrev Qv3:Type:=Int→Int→Int→Int→Int→Int→Int→Option Qoh
noncomputable def Qsi (L1:Qv3) (v1 v2 v3 v4 v5 v6 v7:Int):Option Qoh:=
 bif decide (v3<v4) then
  bif decide (v3<3) then
   L1 v1 (IntKind.wrap .i64 (v2*2)) (IntKind.wrap .i64 (v3+1)) v4 v5 v6 v7
  else
   some (((IntKind.wrap .i64 (v4+1),IntKind.wrap .i64 (v1+v2)),()),())
 else
  some (((IntKind.wrap .i64 (v4+1),IntKind.wrap .i64 (v1+v2)),()),())
noncomputable def Z3e (L1:Qv3) (a_0:Int × Int) (now_1:Int):Option Qoh:=
 L1 now_1 2 0 a_0.1 a_0.2 0 0
noncomputable def Qnd (n:Nat):Nat→Qv3:=iter (fun _ _ _ _ _ _ _=>none) fun L=>Qsi L
noncomputable def Qrv (n m:Nat) (v1 v2 v3 v4 v5 v6 v7:Int):Option Qoh:=
 Qjv Zcj tab (fiB [.val t34,.val t2] Z0l) n [.val t34,.val t2] [⟨t34,[false,false],none⟩] Tryz.f131 [1,1,0,1,0] [] [1,2,4,5,6] m
 ⟨[(1,Vp t2 v1),(2,V1 (.ptr (2,0) 0)),(4,V1 (.ptr (4,0) 0)),(5,Vp t2 v2),(6,Vp t2 v3)],[((2,0),Ob.box 35 [LV.pure t2 v4,LV.pure t2 v5]),((4,0),Ob.box 35 [LV.pure t2 v6,LV.pure t2 v7])]⟩
theorem Z01 (n:Nat):∀ m,Qrv n m=Qnd n m
 | 0=>rfl
 | m+1=>by rw [show Qrv n (m+1)=Qsi (Qrv n m) from by kernel_rfl,Z01 n m];rfl
noncomputable def Z2b (n:Nat) (a_0:Int × Int) (now_1:Int):Option Qoh:=Z3e (Qnd n n) a_0 now_1
noncomputable def Qyx (a_0:Int × Int) (now_1:Int):Option Qoh:=Z2b 1099511627776 a_0 now_1
noncomputable def Zda:Ent:=⟨[.val t34,.val t2],[⟨t34,[false,false],none⟩],fun x=>Qyx x.1 x.2.1⟩
theorem Z7x:GD 131 Zda:=fnl Z0l (fun n x=>Z2b n x.1 x.2.1) Qk3 Tryz.func131 fun n x=>Eq.trans (b:=Z3e (Qrv n n) x.1 x.2.1) (by kernel_rfl) (by rw [Z01 n n];rfl)
noncomputable def Quu (f_0:Int × Int × Qkz × Qkz × Qso × Int × Int) (now_1:Int):Option ((Z2k × (Int × Int) × Bool × Unit) × Unit):=
 Option.bind (Qto f_0) fun r1=>
 bif !r1.1.2.1 then
  some ((f_0,(0,0),false,()),())
 else
  Option.bind (Qy4 (h5 f_0) now_1) fun r2=>
  bif !r2.1.1 then
   some ((f_0,(0,0),false,()),())
  else
  bif decide ((g5 f_0) ≥ 3) then
   Option.bind (Qts f_0 r1.1.1.2 2) fun r3=>
   Option.bind (Qku r3.1.1) fun r4=>
   some ((r4.1.1,(0,0),false,()),())
  else
   Option.bind (Qyx (h5 f_0) now_1) fun r5=>
   some (((e5 f_0 r5.1.1),r1.1.1,true,()),())
noncomputable def Z3p:Ent:=⟨[.val t36,.val t2],[⟨t36,(nF 7),none⟩,⟨t34,[false,false],none⟩,⟨t4,[false],none⟩],fun x=>Quu x.1 x.2.1⟩
theorem Z7u:GD 61 Z3p:=fnk 1 (fo [[1,2,4,5,17,18,19,20,21],[1,2,4,5,7,8,17,18,19,20,21],[1,2,4,5,7,22],[4,5,6],[1,2,4,5,7,28],[2,4,5],[2,4,5],[4,5,6],[2,4,5,7],[4,5,6]]) (Qjy Z6x (Qjy Zb2 (Qjy Qxm (Qjy Qqg (Qjy Z7x Qk3))))) Tryz.func61
abbrev Qpe:Type:=(ByteArray × Bool × Unit) × Unit
noncomputable def Zeh:Ctx:=[]
def Z3f:Fi:=fo [[0,1],[0,1,6],[0,1,6,10],[0,1,6],[0,1,6,19],[4,5],[4,5]]
abbrev Qw3:Type:=Qkz→Int→Int→Option Qpe
noncomputable def Qo3 (L1:Qw3) (v1:List Qla) (v2 v3:Int):Option Qpe:=
 bif decide (v3<(v1.length:Int)) then
  bif decide (0≤v3)&&decide (v3<(v1.length:Int)) then
   bif ((List.getD v1 v3.toNat (0,(⟨#[]⟩:ByteArray))).1)==v2 then
    bif decide (0≤v3)&&decide (v3<(v1.length:Int)) then
     some (((List.getD v1 v3.toNat (0,(⟨#[]⟩:ByteArray))).2,true,()),())
    else none
   else
    L1 v1 v2 (IntKind.wrap .i64 (v3+1))
  else none
 else
  some (((⟨#[]⟩:ByteArray),false,()),())
noncomputable def Z5b (L1:Qw3) (l_0:List Qla) (seq_1:Int):Option Qpe:=
 L1 l_0 seq_1 0
noncomputable def Qqf (n:Nat):Nat→Qw3:=iter (fun _ _ _=>none) fun L=>Qo3 L
noncomputable def Qsz (n m:Nat) (v1:List Qla) (v2 v3:Int):Option Qpe:=
 Qjv Zeh tab (fiB [.val t32,.val t2] Z3f) n [.val t32,.val t2] [⟨t9,[false],none⟩,⟨t4,[false],none⟩] Tryz.f172 [1,0,1,0] [] [0,1,6] m
 ⟨[(0,Vp t32 v1),(1,Vp t2 v2),(6,Vp t2 v3)],[]⟩
theorem Z1n (n:Nat):∀ m,Qsz n m=Qqf n m
 | 0=>rfl
 | m+1=>by rw [show Qsz n (m+1)=Qo3 (Qsz n m) from by kernel_rfl,Z1n n m];rfl
noncomputable def Z4b (n:Nat) (l_0:List Qla) (seq_1:Int):Option Qpe:=Z5b (Qqf n n) l_0 seq_1
noncomputable def Z19 (l_0:List Qla) (seq_1:Int):Option Qpe:=Z4b 1099511627776 l_0 seq_1
noncomputable def Z5m:Ent:=⟨[.val t32,.val t2],[⟨t9,[false],none⟩,⟨t4,[false],none⟩],fun x=>Z19 x.1 x.2.1⟩
theorem Z9q:GD 172 Z5m:=fnl Z3f (fun n x=>Z4b n x.1 x.2.1) Qk3 Tryz.func172 fun n x=>Eq.trans (b:=Z5b (Qsz n n) x.1 x.2.1) (by kernel_rfl) (by rw [Z1n n n];rfl)
abbrev Qlz:Type:=(Qkz × Bool × Unit) × Unit
noncomputable def Z9u:Ctx:=[(172,Z5m)]
def Qyj:Fi:={ keep:=[],vty:=[(10,32)],vals:=[],live:=[(0,[0,1,5,25,26,27,28,29,32,44,45,46,47,48,49,50,51]),(1,[0,1,5,9,25,26,27,28,29,32,44,45,46,47,48,49,50,51]),(2,[0,5,33,44,45,46,47,48,49,50,51]),(3,[6,7]),(4,[0,5,10,44,45,46,47,48,49,50,51]),(5,[0,5,10,11,44,45,46,47,48,49,50,51]),(6,[0,5,10,11,12,44,45,46,47,48,49,50,51]),(7,[0,5,10,11,12,38,44,45,46,47,48,49,50,51]),(8,[0,5,10,11,12,44,45,46,47,48,49,50,51]),(9,[0,5,10,11,12,44,45,46,47,48,49,50,51,52]),(10,[0,5,10,11,12,44,45,46,47,48,49,50,51]),(11,[0,5,10,11,12,44,45,46,47,48,49,50,51]),(12,[5,10,65]),(13,[10]),(14,[6,7])] }
abbrev Qqo:Type:=Qkz→Bool→Int→Int→ByteArray→Qkz→Option Qlz
noncomputable def Qql (v4:Int) (v2 v7:List Qla) (L1:Qqo) (v3:Bool) (v5:Int) (v6:ByteArray):Option Qlz:=
 bif decide (0≤v4)&&decide (v4<(v2.length:Int)) then
  bif Nat.ble (v7.length+1) 1073741824 then
   L1 v2 v3 (IntKind.wrap .i64 (v4+1)) v5 v6 (v7++[(List.getD v2 v4.toNat (0,(⟨#[]⟩:ByteArray)))])
  else none
 else none
noncomputable def Qkk (L1:Qqo) (v2:List Qla) (v3:Bool) (v4 v5:Int) (v6:ByteArray) (v7:List Qla):Option Qlz:=
 bif decide (v4<(v2.length:Int)) then
  bif !v3 then
   bif decide (0≤v4)&&decide (v4<(v2.length:Int)) then
    bif decide ((List.getD v2 v4.toNat (0,(⟨#[]⟩:ByteArray))).1>v5) then
     bif Nat.ble (v7.length+1) 1073741824 then
      bif decide (0≤v4)&&decide (v4<(v2.length:Int)) then
       bif Nat.ble ((v7++[(v5,v6)]).length+1) 1073741824 then
        L1 v2 true (IntKind.wrap .i64 (v4+1)) v5 v6 ((v7++[(v5,v6)])++[(List.getD v2 v4.toNat (0,(⟨#[]⟩:ByteArray)))])
       else none
      else none
     else none
    else
     Qql v4 v2 v7 L1 v3 v5 v6
   else none
  else
   Qql v4 v2 v7 L1 v3 v5 v6
 else
 bif !v3 then
  bif Nat.ble (v7.length+1) 1073741824 then
   some ((v7++[(v5,v6)],true,()),())
  else none
 else
  some ((v7,true,()),())
noncomputable def Qr5 (L1:Qqo) (l_0:List Qla) (next_1:Int) (x_2:Int × ByteArray):Option Qlz:=
 Option.bind (Z19 l_0 x_2.1) fun r1=>
 bif decide (x_2.1<next_1) then
  some ((l_0,false,()),())
 else
 bif decide (IntKind.wrap .i64 (x_2.1 - next_1) ≥ 8) then
  some ((l_0,false,()),())
 else
 bif r1.1.2.1 then
  some ((l_0,false,()),())
 else
  L1 l_0 false 0 x_2.1 x_2.2 []
noncomputable def Qkr (n:Nat):Nat→Qqo:=iter (fun _ _ _ _ _ _=>none) fun L=>Qkk L
noncomputable def Qqv (n m:Nat) (v2:List Qla) (v3:Bool) (v4 v5:Int) (v6:ByteArray) (v7:List Qla):Option Qlz:=
 Qjv Z9u tab (fiB [.val t32,.val t2,.val t58] Qyj) n [.val t32,.val t2,.val t58] [⟨t32,[false],none⟩,⟨t4,[false],none⟩] Tryz.f140 [1,1,1,1,1,0,1,0] [] [0,5,10,11,12] m
 ⟨[(0,Vp t32 v2),(5,V1 (.ptr (5,0) 0)),(10,V1 (.ref (888888,10))),(11,Vp t4 v3),(12,Vp t2 v4)],[((5,0),Ob.box 59 [LV.pure t2 v5,LV.pure t9 v6]),((888888,10),Ob.row 59 t58 v7)]⟩
theorem Qx4 (n:Nat):∀ m,Qqv n m=Qkr n m
 | 0=>rfl
 | m+1=>by rw [show Qqv n (m+1)=Qkk (Qqv n m) from by kernel_rfl,Qx4 n m];rfl
noncomputable def Qzl (n:Nat) (l_0:List Qla) (next_1:Int) (x_2:Int × ByteArray):Option Qlz:=Qr5 (Qkr n n) l_0 next_1 x_2
noncomputable def Qwh (l_0:List Qla) (next_1:Int) (x_2:Int × ByteArray):Option Qlz:=Qzl 1099511627776 l_0 next_1 x_2
noncomputable def Z9y:Ent:=⟨[.val t32,.val t2,.val t58],[⟨t32,[false],none⟩,⟨t4,[false],none⟩],fun x=>Qwh x.1 x.2.1 x.2.2.1⟩
theorem Z66:GD 140 Z9y:=fnl Qyj (fun n x=>Qzl n x.1 x.2.1 x.2.2.1) (Qjy Z9q Qk3) Tryz.func140 fun n x=>Eq.trans (b:=Qr5 (Qqv n n) x.1 x.2.1 x.2.2.1) (by kernel_rfl) (by rw [Qx4 n n];rfl)
noncomputable def Qtz (f_0:Int × Int × Qkz × Qkz × Qso × Int × Int) (i_1:Int × ByteArray):Option ((Z2k × Unit) × Unit):=
 bif f_0.1==0 then
  some ((f_0,()),())
 else
 bif decide (i_1.1<1) then
  some ((f_0,()),())
 else
 bif decide (i_1.1>1000000) then
  some ((f_0,()),())
 else
 bif decide ((i_1.2.size:Int)>12) then
  some ((f_0,()),())
 else
  Option.bind (Qnf f_0 i_1.1) fun r1=>
  Option.bind (Qwh (g3 r1.1.1) r1.1.1.1 i_1) fun r2=>
  Option.bind (Qku (u3 r1.1.1 r2.1.1)) fun r3=>
  some ((r3.1.1,()),())
noncomputable def Z11:Ent:=⟨[.val t36,.val t58],[⟨t36,(nF 7),none⟩],fun x=>Qtz x.1 x.2.1⟩
theorem Z6u:GD 68 Z11:=fnk 1 (fo [[2,3,4,9,10,11,14,15,16,19,20,21,22],[2,3,4,23],[4],[2,3,4],[2,4],[2,4],[4]]) (Qjy Qpy (Qjy Qqg (Qjy Z66 Qk3))) Tryz.func68
abbrev Qlo:Type:=(Z2k × Unit) × (Zfr × Unit)
noncomputable def Z5v:Ctx:=[(25,Qsg),(26,Qq6),(44,Qw6),(61,Z3p),(66,Z1j),(67,Z1y),(68,Z11),(69,Z1x)]
def Qvm:Fi:=fo [[0,1,4,18,19,20],[0,1,4,5,18,19,20],[0,1,4,5,6,18,19,20],[0,1,4,5,6,7,18,19,20],[0,1,4,5,6,7,18,19,20,21],[0,1,4,5,6,7,18,19,20],[0,1,4,5,6,7,18,19,20,25],[0,1,4,5,6,7,18,19,20],[0,1,4,5,6,7,18,19,20,25,38],[0,1,4,5,6,7,8,18,19,20],[0,1,4,5,6,7,18,19,20],[0,1,4,5,6,7,18,19,20,25,54],[0,1,4,5,6,7,18,19,20],[0,1,4,5,6,7,18,19,20,63],[0,1,4,5,6,7,18,19,20],[0,1,4,5,6,7,18,19,20],[0,4]]
abbrev Qrm:Type:=Int→Int→Int→List Int→Int→Int→Int→Int→Int→Qkz→Qkz→Qso→Int→Int→Qkz→Qkz→Qso→Int→Int→Option Qlo
noncomputable def Qkv (L1:Qrm) (v3 v4 v5:Int) (v6:List Int) (v7 v8 v9 v10 v11:Int) (v12 v13:List Qla) (v14:List Qrq) (v15 v16:Int) (v17 v18:List Qla) (v19:List Qrq) (v20 v21:Int):Option Qlo:=
 bif decide (v5<v3) then
  Option.bind (Qnv (v6,v7)) fun r22=>
  bif !r22.1.1 then
   Option.bind (Qk5 r22.2.1 6) fun r23=>
   bif r23.1.1==0 then
    Option.bind (Qk5 r23.2.1 3) fun r24=>
    Option.bind (Qk5 r24.2.1 4) fun r25=>
    Option.bind (Qtt (v15,v16,v17,v18,v19,v20,v21) (if IntKind.wrap .i64 ((IntKind.wrap .i64 (v15 - 1))+r24.1.1)>1 then IntKind.wrap .i64 ((IntKind.wrap .i64 (v15 - 1))+r24.1.1) else 1) (IntKind.wrap .i64 ((if IntKind.wrap .i64 ((IntKind.wrap .i64 (v15 - 1))+r24.1.1)>1 then IntKind.wrap .i64 ((IntKind.wrap .i64 (v15 - 1))+r24.1.1) else 1)+r25.1.1))) fun r26=>
    L1 v3 v4 (IntKind.wrap .i64 (v5+1)) r25.2.1.1 r25.2.1.2 v8 v9 v10 v11 v12 v13 v14 r26.1.1.1 r26.1.1.2.1 r26.1.1.2.2.1 (g3 r26.1.1) (g4 r26.1.1) (g5 r26.1.1) (h6 r26.1.1)
   else
   bif r23.1.1==1 then
    Option.bind (Qk5 r23.2.1 5) fun r27=>
    Option.bind (Qnf (v15,v16,v17,v18,v19,v20,v21) (IntKind.wrap .i64 (v15+r27.1.1))) fun r28=>
    L1 v3 v4 (IntKind.wrap .i64 (v5+1)) r27.2.1.1 r27.2.1.2 v8 v9 v10 v11 v12 v13 v14 r28.1.1.1 r28.1.1.2.1 r28.1.1.2.2.1 (g3 r28.1.1) (g4 r28.1.1) (g5 r28.1.1) (h6 r28.1.1)
   else
   bif r23.1.1==2 then
    Option.bind (Qk5 r23.2.1 6) fun r29=>
    Option.bind (Quu (v15,v16,v17,v18,v19,v20,v21) (IntKind.wrap .i64 ((IntKind.wrap .i64 (v4+1))+r29.1.1))) fun r30=>
    L1 v3 (IntKind.wrap .i64 ((IntKind.wrap .i64 (v4+1))+r29.1.1)) (IntKind.wrap .i64 (v5+1)) r29.2.1.1 r29.2.1.2 v8 v9 v10 v11 v12 v13 v14 r30.1.1.1 r30.1.1.2.1 r30.1.1.2.2.1 (g3 r30.1.1) (g4 r30.1.1) (g5 r30.1.1) (h6 r30.1.1)
   else
    Option.bind (Qk5 r23.2.1 5) fun r31=>
    Option.bind (Qlk r31.2.1) fun r32=>
    Option.bind (Qtz (v15,v16,v17,v18,v19,v20,v21) (if IntKind.wrap .i64 ((IntKind.wrap .i64 (v15 - 1))+r31.1.1)>1 then IntKind.wrap .i64 ((IntKind.wrap .i64 (v15 - 1))+r31.1.1) else 1,r32.1.1)) fun r33=>
    L1 v3 v4 (IntKind.wrap .i64 (v5+1)) r32.2.1.1 r32.2.1.2 v8 v9 v10 v11 v12 v13 v14 r33.1.1.1 r33.1.1.2.1 r33.1.1.2.2.1 (g3 r33.1.1) (g4 r33.1.1) (g5 r33.1.1) (h6 r33.1.1)
  else
   some (((v15,v16,v17,v18,v19,v20,v21),()),(r22.2.1,()))
 else
  some (((v15,v16,v17,v18,v19,v20,v21),()),((v6,v7),()))
noncomputable def Qp3 (L1:Qrm) (p_0:(List Int) × Int) (most_1:Int):Option Qlo:=
 Option.bind (Qk5 p_0 5) fun r1=>
 Option.bind (Qtx (0,0,[],[],[],0,0) (IntKind.wrap .i64 (1+r1.1.1))) fun r2=>
 L1 most_1 0 0 r1.2.1.1 r1.2.1.2 0 0 0 0 [] [] [] r2.1.1.1 r2.1.1.2.1 r2.1.1.2.2.1 (g3 r2.1.1) (g4 r2.1.1) (g5 r2.1.1) (h6 r2.1.1)
noncomputable def Qlg (n:Nat):Nat→Qrm:=iter (fun _ _ _ _ _ _ _ _ _ _ _ _ _ _ _ _ _ _ _=>none) fun L=>Qkv L
noncomputable def Qog (n m:Nat) (v3 v4 v5:Int) (v6:List Int) (v7 v8 v9 v10 v11:Int) (v12 v13:List Qla) (v14:List Qrq) (v15 v16:Int) (v17 v18:List Qla) (v19:List Qrq) (v20 v21:Int):Option Qlo:=
 Qjv Z5v tab (fiB [.box 75 t74 [false,false],.val t2] Qvm) n [.box 75 t74 [false,false],.val t2] [⟨t36,(nF 7),none⟩] Tryz.f42 [1,1,1,0,1,0] [] [0,1,4,5,6,7] m
 ⟨[(0,V1 (.ptr (0,0) 0)),(1,Vp t2 v3),(4,V1 (.ptr (4,0) 0)),(5,V1 (.ptr (5,0) 0)),(6,Vp t2 v4),(7,Vp t2 v5)],[((0,0),Ob.box 75 [LV.pure t25 v6,LV.pure t2 v7]),((4,0),Ob.box 37 [LV.pure t2 v8,LV.pure t2 v9,LV.ref (4,3),LV.ref (4,4),LV.ref (4,5),LV.pure t2 v10,LV.pure t2 v11]),((4,3),Ob.row 59 t58 v12),((4,4),Ob.row 59 t58 v13),((4,5),Ob.row 55 t54 v14),((5,0),Ob.box 37 [LV.pure t2 v15,LV.pure t2 v16,LV.pure t32 v17,LV.pure t32 v18,LV.pure t33 v19,LV.pure t2 v20,LV.pure t2 v21])]⟩
theorem Quo (n:Nat):∀ m,Qog n m=Qlg n m
 | 0=>rfl
 | m+1=>by rw [show Qog n (m+1)=Qkv (Qog n m) from by kernel_rfl,Quo n m];rfl
noncomputable def Qwk (n:Nat) (p_0:(List Int) × Int) (most_1:Int):Option Qlo:=Qp3 (Qlg n n) p_0 most_1
noncomputable def Qt8 (p_0:(List Int) × Int) (most_1:Int):Option Qlo:=Qwk 1099511627776 p_0 most_1
noncomputable def Z6c:Ent:=⟨[.box 75 t74 [false,false],.val t2],[⟨t36,(nF 7),none⟩],fun x=>Qt8 x.1 x.2.1⟩
theorem Z21:GD 42 Z6c:=fnl Qvm (fun n x=>Qwk n x.1 x.2.1) (Qjy Qu2 (Qjy Ql4 (Qjy Qu1 (Qjy Z7u (Qjy Qpy (Qjy Z71 (Qjy Z6u (Qjy Z78 Qk3)))))))) Tryz.func42 fun n x=>Eq.trans (b:=Qp3 (Qog n n) x.1 x.2.1) (by kernel_rfl) (by rw [Quo n n];rfl)
noncomputable def Quy (picks_0:List Int) (id_1:Int):Option ((Zrn × Unit) × Unit):=
 Option.bind (Qrk picks_0) fun r1=>
 Option.bind (Qk5 r1.1.1 3) fun r2=>
 Option.bind (Qk5 r2.2.1 3) fun r3=>
 Option.bind (Qk5 r3.2.1 9) fun r4=>
 Option.bind (Quv (false,r2.1.1,(⟨#[]⟩:ByteArray),Ztb,(0,0,[],[],[],0,0),r3.1.1) id_1 (⟨#[110]⟩:ByteArray) r4.1.1) fun r5=>
 Option.bind (Que r4.2.1 id_1 20) fun r6=>
 bif id_1 != 1 then
  Option.bind (Qt8 r6.2.1 12) fun r7=>
  Option.bind (Qk5 r7.2.1 5) fun r8=>
  bif r8.1.1==0 then
   some (((u4 (u3 r5.1.1 (u1 r6.1.1 r5.1.1.2.1)) (0,0,[],[],[],0,0)),()),())
  else
   some (((u4 (u3 r5.1.1 (u1 r6.1.1 r5.1.1.2.1)) r7.1.1),()),())
 else
  some (((u3 r5.1.1 (u1 r6.1.1 r5.1.1.2.1)),()),())
noncomputable def Z3b:Ent:=⟨[.val t25,.val t2],[⟨t38,(nF 24),none⟩],fun x=>Quy x.1 x.2.1⟩
theorem Z89:GD 16 Z3b:=fnk 1 (fo [[0,1,4],[1,4,5],[1,4,5,6],[1,4,5,6],[1,4,5,6],[4,5,6,31],[4,5,6],[4,6,37],[4,6],[4]]) (Qjy Qzr (Qjy Z7t (Qjy Ql4 (Qjy Z3v (Qjy Z21 Qk3))))) Tryz.func16
noncomputable def Qmv (n_0:Int):Option ((Bool × Unit) × Unit):=
 bif decide (n_0 ≥ 0) then
  some ((decide (n_0≤1000000),()),())
 else
  some ((false,()),())
noncomputable def Zec:Ent:=⟨[.val t2],[⟨t4,[false],none⟩],fun x=>Qmv x.1⟩
theorem Z9z:GD 106 Zec:=fnk 1 (fo [[0,6,7],[2]]) Qk3 Tryz.func106
abbrev Qmp:Type:=(Bool × Unit) × Unit
noncomputable def Z92:Ctx:=[]
def Qxh:Fi:=fo [[0,1],[0,1,10],[4],[0,1,5],[0,1,5,14],[0,1,5],[0,1,5,25],[4],[4]]
abbrev Qsu:Type:=List Int→List Int→Int→Option Qmp
noncomputable def Qm6 (L1:Qsu) (v1 v2:List Int) (v3:Int):Option Qmp:=
 bif decide (v3<(v1.length:Int)) then
  bif decide (0≤v3)&&decide (v3<(v1.length:Int)) then
   bif decide (0≤v3)&&decide (v3<(v2.length:Int)) then
    bif (List.getD v1 v3.toNat 0) != (List.getD v2 v3.toNat 0) then
     some ((false,()),())
    else
     L1 v1 v2 (IntKind.wrap .i64 (v3+1))
   else none
  else none
 else
  some ((true,()),())
noncomputable def Qqd (L1:Qsu) (a_0 b_1:List Int):Option Qmp:=
 bif (a_0.length:Int) != (b_1.length:Int) then
  some ((false,()),())
 else
  L1 a_0 b_1 0
noncomputable def Qma (n:Nat):Nat→Qsu:=iter (fun _ _ _=>none) fun L=>Qm6 L
noncomputable def Qq4 (n m:Nat) (v1 v2:List Int) (v3:Int):Option Qmp:=
 Qjv Z92 tab (fiB [.val t28,.val t28] Qxh) n [.val t28,.val t28] [⟨t4,[false],none⟩] Tryz.f81 [1,1,0,1,0] [] [0,1,5] m
 ⟨[(0,Vp t28 v1),(1,Vp t28 v2),(5,Vp t2 v3)],[]⟩
theorem Qw4 (n:Nat):∀ m,Qq4 n m=Qma n m
 | 0=>rfl
 | m+1=>by rw [show Qq4 n (m+1)=Qm6 (Qq4 n m) from by kernel_rfl,Qw4 n m];rfl
noncomputable def Qyk (n:Nat) (a_0 b_1:List Int):Option Qmp:=Qqd (Qma n n) a_0 b_1
noncomputable def Qs4 (a_0 b_1:List Int):Option Qmp:=Qyk 1099511627776 a_0 b_1
noncomputable def Z8c:Ent:=⟨[.val t28,.val t28],[⟨t4,[false],none⟩],fun x=>Qs4 x.1 x.2.1⟩
theorem Qvt:GD 81 Z8c:=fnl Qxh (fun n x=>Qyk n x.1 x.2.1) Qk3 Tryz.func81 fun n x=>Eq.trans (b:=Qqd (Qq4 n n) x.1 x.2.1) (by kernel_rfl) (by rw [Qw4 n n];rfl)
noncomputable def Qkb (a_0 b_1:Int × Int × Int × Int × Int × Int × (List Int) × Int × Int × ByteArray):Option ((Bool × Unit) × Unit):=
 bif a_0.1==b_1.1 then
  bif a_0.2.1==b_1.2.1 then
   bif a_0.2.2.1==b_1.2.2.1 then
    bif a_0.2.2.2.1==b_1.2.2.2.1 then
     bif a_0.2.2.2.2.1==b_1.2.2.2.2.1 then
      bif a_0.2.2.2.2.2.1==b_1.2.2.2.2.2.1 then
       bif a_0.2.2.2.2.2.2.2.1==b_1.2.2.2.2.2.2.2.1 then
        bif a_0.2.2.2.2.2.2.2.2.1==b_1.2.2.2.2.2.2.2.2.1 then
         bif Qeq a_0.2.2.2.2.2.2.2.2.2 b_1.2.2.2.2.2.2.2.2.2 then
          Option.bind (Qs4 a_0.2.2.2.2.2.2.1 b_1.2.2.2.2.2.2.1) fun r1=>
          some ((r1.1.1,()),())
         else
          some ((false,()),())
        else
         some ((false,()),())
       else
        some ((false,()),())
      else
       some ((false,()),())
     else
      some ((false,()),())
    else
     some ((false,()),())
   else
    some ((false,()),())
  else
   some ((false,()),())
 else
  some ((false,()),())
noncomputable def Z88:Ent:=⟨[.val t45,.val t45],[⟨t4,[false],none⟩],fun x=>Qkb x.1 x.2.1⟩
theorem Z52:GD 72 Z88:=fnk 1 (fo [[2,3,11,12,13,14,15,18,19,20,21,22,25,26,27,28,29,32,33,34,35,36,39,40,41,42,43,46,47,48,49,50,53,54,55,56,57,60,61,62,63,64,67,68,69,70,71],[4]]) (Qjy Qvt Qk3) Tryz.func72
noncomputable def Qsy (arr_0:Int × Int × Int × Int × Int × Int × (List Int) × Int × Int × ByteArray):Option ((Bool × Unit) × Unit):=
 bif decide (arr_0.1<1) then
  some ((false,()),())
 else
 bif decide (arr_0.1>9) then
  some ((false,()),())
 else
 bif decide (arr_0.2.1<1) then
  some ((false,()),())
 else
 bif decide (arr_0.2.1>8) then
  some ((false,()),())
 else
 bif decide (arr_0.2.2.1<1) then
  some ((false,()),())
 else
 bif decide (arr_0.2.2.1>8) then
  some ((false,()),())
 else
 bif arr_0.2.1==arr_0.2.2.1 then
  some ((false,()),())
 else
 bif decide (arr_0.2.2.2.1<1) then
  some ((false,()),())
 else
 bif decide (arr_0.2.2.2.1>1073741824) then
  some ((false,()),())
 else
 bif arr_0.1==2 then
  bif arr_0.1==2 then
   bif decide (arr_0.2.2.2.2.1 ≥ 0) then
    bif decide (arr_0.2.2.2.2.1≤1073741824) then
     bif decide (arr_0.2.2.2.2.2.1 ≥ 0) then
      bif decide (arr_0.2.2.2.2.2.1≤1073741824) then
       Option.bind (Qo0 arr_0.2.2.2.2.2.2.1) fun r1=>
       bif arr_0.1==2 then
        bif r1.1.1 then
         Option.bind (Qmv arr_0.2.2.2.2.2.2.2.1) fun r2=>
         bif r2.1.1 then
          Option.bind (Qkb (arr_0.1,arr_0.2.1,arr_0.2.2.1,arr_0.2.2.2.1,arr_0.2.2.2.2.1,arr_0.2.2.2.2.2.1,arr_0.2.2.2.2.2.2.1,arr_0.2.2.2.2.2.2.2.1,0,(⟨#[]⟩:ByteArray)) arr_0) fun r3=>
          some ((r3.1.1,()),())
         else
          some ((false,()),())
        else
         some ((false,()),())
       else
       bif r1.1.1 then
        Option.bind (Qmv arr_0.2.2.2.2.2.2.2.2.1) fun r4=>
        bif r4.1.1 then
         Option.bind (Qkb (arr_0.1,arr_0.2.1,arr_0.2.2.1,arr_0.2.2.2.1,arr_0.2.2.2.2.1,arr_0.2.2.2.2.2.1,arr_0.2.2.2.2.2.2.1,0,arr_0.2.2.2.2.2.2.2.2.1,(⟨#[]⟩:ByteArray)) arr_0) fun r5=>
         some ((r5.1.1,()),())
        else
         some ((false,()),())
       else
        some ((false,()),())
      else
      bif arr_0.1==2 then
       some ((false,()),())
      else
       some ((false,()),())
     else
     bif arr_0.1==2 then
      some ((false,()),())
     else
      some ((false,()),())
    else
    bif arr_0.1==2 then
     some ((false,()),())
    else
     some ((false,()),())
   else
   bif arr_0.1==2 then
    some ((false,()),())
   else
    some ((false,()),())
  else
  bif arr_0.1==7 then
   bif decide (arr_0.2.2.2.2.2.2.2.1 ≥ 1) then
    Option.bind (Qmv arr_0.2.2.2.2.2.2.2.1) fun r6=>
    bif r6.1.1 then
     bif decide ((arr_0.2.2.2.2.2.2.2.2.2.size:Int)≤12) then
      Option.bind (Qkb (arr_0.1,arr_0.2.1,arr_0.2.2.1,arr_0.2.2.2.1,0,0,[],arr_0.2.2.2.2.2.2.2.1,0,arr_0.2.2.2.2.2.2.2.2.2) arr_0) fun r7=>
      some ((r7.1.1,()),())
     else
      some ((false,()),())
    else
     some ((false,()),())
   else
    some ((false,()),())
  else
  bif arr_0.1==8 then
   bif arr_0.1==8 then
    Option.bind (Qkw (arr_0.2.2.2.2.2.2.2.1,arr_0.2.2.2.2.2.2.2.2.1)) fun r8=>
    bif r8.1.1 then
     Option.bind (Qkb (arr_0.1,arr_0.2.1,arr_0.2.2.1,arr_0.2.2.2.1,0,0,[],arr_0.2.2.2.2.2.2.2.1,arr_0.2.2.2.2.2.2.2.2.1,(⟨#[]⟩:ByteArray)) arr_0) fun r9=>
     some ((r9.1.1,()),())
    else
     some ((false,()),())
   else
    Option.bind (Qkb (arr_0.1,arr_0.2.1,arr_0.2.2.1,arr_0.2.2.2.1,0,0,[],0,0,(⟨#[]⟩:ByteArray)) arr_0) fun r10=>
    some ((r10.1.1,()),())
  else
  bif arr_0.1==9 then
   Option.bind (Qkw (arr_0.2.2.2.2.2.2.2.1,arr_0.2.2.2.2.2.2.2.2.1)) fun r11=>
   bif r11.1.1 then
    Option.bind (Qkb (arr_0.1,arr_0.2.1,arr_0.2.2.1,arr_0.2.2.2.1,0,0,[],arr_0.2.2.2.2.2.2.2.1,arr_0.2.2.2.2.2.2.2.2.1,(⟨#[]⟩:ByteArray)) arr_0) fun r12=>
    some ((r12.1.1,()),())
   else
    some ((false,()),())
  else
   Option.bind (Qkb (arr_0.1,arr_0.2.1,arr_0.2.2.1,arr_0.2.2.2.1,0,0,[],0,0,(⟨#[]⟩:ByteArray)) arr_0) fun r13=>
   some ((r13.1.1,()),())
 else
 bif arr_0.1==5 then
  bif decide (arr_0.2.2.2.2.1 ≥ 0) then
   bif decide (arr_0.2.2.2.2.1≤1073741824) then
    bif decide (arr_0.2.2.2.2.2.1 ≥ 0) then
     bif decide (arr_0.2.2.2.2.2.1≤1073741824) then
      Option.bind (Qo0 arr_0.2.2.2.2.2.2.1) fun r14=>
      bif arr_0.1==2 then
       bif r14.1.1 then
        Option.bind (Qmv arr_0.2.2.2.2.2.2.2.1) fun r15=>
        bif r15.1.1 then
         Option.bind (Qkb (arr_0.1,arr_0.2.1,arr_0.2.2.1,arr_0.2.2.2.1,arr_0.2.2.2.2.1,arr_0.2.2.2.2.2.1,arr_0.2.2.2.2.2.2.1,arr_0.2.2.2.2.2.2.2.1,0,(⟨#[]⟩:ByteArray)) arr_0) fun r16=>
         some ((r16.1.1,()),())
        else
         some ((false,()),())
       else
        some ((false,()),())
      else
      bif r14.1.1 then
       Option.bind (Qmv arr_0.2.2.2.2.2.2.2.2.1) fun r17=>
       bif r17.1.1 then
        Option.bind (Qkb (arr_0.1,arr_0.2.1,arr_0.2.2.1,arr_0.2.2.2.1,arr_0.2.2.2.2.1,arr_0.2.2.2.2.2.1,arr_0.2.2.2.2.2.2.1,0,arr_0.2.2.2.2.2.2.2.2.1,(⟨#[]⟩:ByteArray)) arr_0) fun r18=>
        some ((r18.1.1,()),())
       else
        some ((false,()),())
      else
       some ((false,()),())
     else
     bif arr_0.1==2 then
      some ((false,()),())
     else
      some ((false,()),())
    else
    bif arr_0.1==2 then
     some ((false,()),())
    else
     some ((false,()),())
   else
   bif arr_0.1==2 then
    some ((false,()),())
   else
    some ((false,()),())
  else
  bif arr_0.1==2 then
   some ((false,()),())
  else
   some ((false,()),())
 else
 bif arr_0.1==7 then
  bif decide (arr_0.2.2.2.2.2.2.2.1 ≥ 1) then
   Option.bind (Qmv arr_0.2.2.2.2.2.2.2.1) fun r19=>
   bif r19.1.1 then
    bif decide ((arr_0.2.2.2.2.2.2.2.2.2.size:Int)≤12) then
     Option.bind (Qkb (arr_0.1,arr_0.2.1,arr_0.2.2.1,arr_0.2.2.2.1,0,0,[],arr_0.2.2.2.2.2.2.2.1,0,arr_0.2.2.2.2.2.2.2.2.2) arr_0) fun r20=>
     some ((r20.1.1,()),())
    else
     some ((false,()),())
   else
    some ((false,()),())
  else
   some ((false,()),())
 else
 bif arr_0.1==8 then
  bif arr_0.1==8 then
   Option.bind (Qkw (arr_0.2.2.2.2.2.2.2.1,arr_0.2.2.2.2.2.2.2.2.1)) fun r21=>
   bif r21.1.1 then
    Option.bind (Qkb (arr_0.1,arr_0.2.1,arr_0.2.2.1,arr_0.2.2.2.1,0,0,[],arr_0.2.2.2.2.2.2.2.1,arr_0.2.2.2.2.2.2.2.2.1,(⟨#[]⟩:ByteArray)) arr_0) fun r22=>
    some ((r22.1.1,()),())
   else
    some ((false,()),())
  else
   Option.bind (Qkb (arr_0.1,arr_0.2.1,arr_0.2.2.1,arr_0.2.2.2.1,0,0,[],0,0,(⟨#[]⟩:ByteArray)) arr_0) fun r23=>
   some ((r23.1.1,()),())
 else
 bif arr_0.1==9 then
  Option.bind (Qkw (arr_0.2.2.2.2.2.2.2.1,arr_0.2.2.2.2.2.2.2.2.1)) fun r24=>
  bif r24.1.1 then
   Option.bind (Qkb (arr_0.1,arr_0.2.1,arr_0.2.2.1,arr_0.2.2.2.1,0,0,[],arr_0.2.2.2.2.2.2.2.1,arr_0.2.2.2.2.2.2.2.2.1,(⟨#[]⟩:ByteArray)) arr_0) fun r25=>
   some ((r25.1.1,()),())
  else
   some ((false,()),())
 else
  Option.bind (Qkb (arr_0.1,arr_0.2.1,arr_0.2.2.1,arr_0.2.2.2.1,0,0,[],0,0,(⟨#[]⟩:ByteArray)) arr_0) fun r26=>
  some ((r26.1.1,()),())
noncomputable def Qzh:Ent:=⟨[.val t45],[⟨t4,[false],none⟩],fun x=>Qsy x.1⟩
theorem Z5q:GD 50 Qzh:=fnk 1 (fo [[1,9,10,11,14,15,16,19,20,21,24,25,26,29,30,31,34,35,36,37,38,41,42,43,46,47,48,77,78,79,82,83,84,87,88,89,92,93,94,104,105,106,113,114,115,129,130,131,134,135,136,137,156,157,158],[1,49,77,78,79,82,83,84,87,88,89,92,93,94,104,105,106,113,114,115,129,130,131,134,135,136,137,156,157,158],[2],[1,3,77,78,79,82,83,84,87,88,89,92,93,94,104,105,106,113,114,115,129,130,131,134,135,136,137,156,157,158],[1,3,4,77,78,79,82,83,84,87,88,89,92,93,94,104,105,106,113,114,115,129,130,131,134,135,136,137,156,157,158],[1,3,4,60,77,78,79,82,83,84,87,88,89,92,93,94,104,105,106,113,114,115,129,130,131,134,135,136,137,156,157,158],[1,3,4,60,61,77,78,79,82,83,84,87,88,89,92,93,94,104,105,106,113,114,115,129,130,131,134,135,136,137,156,157,158],[1,3,4,60,61,77,78,79,82,83,84,87,88,89,92,93,94,104,105,106,113,114,115,129,130,131,134,135,136,137,156,157,158],[1,3,77,78,79,82,83,84,87,88,89,92,93,94,104,105,106,113,114,115,156,157,158],[1,3,4,104,105,106,113,114,115,156,157,158],[1,3,4,98,104,105,106,113,114,115,156,157,158],[1,3,4,104,105,106,156,157,158],[1,3,4,156,157,158],[1,3,4,113,114,115,156,157,158],[1,3,4,156,157,158],[1,3,4,60,117,129,130,131,134,135,136,137,156,157,158],[1,3,129,130,131,134,135,136,137,156,157,158],[1,3,4,156,157,158],[1,3,4,60,139,156,157,158],[1,3,4,139,156,157,158],[1,3,156,157,158],[1,3,4,156,157,158],[2]]) (Qjy Z52 (Qjy Qwj (Qjy Z9z (Qjy Qwg Qk3)))) Tryz.func50
abbrev Qn0:Type:=((List Int) × Unit) × Unit
noncomputable def Z9l:Ctx:=[]
def Qyp:Fi:=fo [[0,1],[1,5],[1,5,10],[1,5],[4]]
abbrev Qtd:Type:=Int→List Int→Option Qn0
noncomputable def Qqs (L1:Qtd) (v1:Int) (v2:List Int):Option Qn0:=
 bif decide (v1 ≥ 128) then
  bif Nat.ble (v2.length+1) 1073741824 then
   L1 (IntKind.wrap .i64 (Int.tdiv v1 128)) (v2++[IntKind.wrap .u8 (IntKind.wrap .i64 ((Int.tmod v1 128)+128))])
  else none
 else
 bif Nat.ble (v2.length+1) 1073741824 then
  some ((v2++[IntKind.wrap .u8 v1],()),())
 else none
noncomputable def Qrd (L1:Qtd) (b_0:List Int) (v_1:Int):Option Qn0:=
 bif Nat.ble (0+b_0.length) 1073741824 then
  L1 v_1 ([]++b_0)
 else none
noncomputable def Qnu (n:Nat):Nat→Qtd:=iter (fun _ _=>none) fun L=>Qqs L
noncomputable def Qqj (n m:Nat) (v1:Int) (v2:List Int):Option Qn0:=
 Qjv Z9l tab (fiB [.val t25,.val t2] Qyp) n [.val t25,.val t2] [⟨t25,[true],none⟩] Tryz.f51 [1,1,0,0] [] [1,5] m
 ⟨[(1,Vp t2 v1),(5,V1 (.ref (888888,5)))],[((888888,5),Ob.row 5 t5 v2)]⟩
theorem Qxg (n:Nat):∀ m,Qqj n m=Qnu n m
 | 0=>rfl
 | m+1=>by rw [show Qqj n (m+1)=Qqs (Qqj n m) from by kernel_rfl,Qxg n m];rfl
noncomputable def Qzy (n:Nat) (b_0:List Int) (v_1:Int):Option Qn0:=Qrd (Qnu n n) b_0 v_1
noncomputable def Qt4 (b_0:List Int) (v_1:Int):Option Qn0:=Qzy 1099511627776 b_0 v_1
noncomputable def Qzg:Ent:=⟨[.val t25,.val t2],[⟨t25,[true],none⟩],fun x=>Qt4 x.1 x.2.1⟩
theorem Qwi:GD 51 Qzg:=fnl Qyp (fun n x=>Qzy n x.1 x.2.1) Qk3 Tryz.func51 fun n x=>Eq.trans (b:=Qrd (Qqj n n) x.1 x.2.1) (by kernel_rfl) (by rw [Qxg n n];rfl)
noncomputable def Qry (b_0:List Int) (s_1:ByteArray):Option (((List Int) × Unit) × Unit):=
 Option.bind (Qt4 b_0 (s_1.size:Int)) fun r1=>
 bif Nat.ble (r1.1.1.length+(s_1.data.toList.map fun b=>(b.toNat:Int)).length) 1073741824 then
  some ((r1.1.1++(s_1.data.toList.map fun b=>(b.toNat:Int)),()),())
 else none
noncomputable def Qyt:Ent:=⟨[.val t25,.val t9],[⟨t25,[true],none⟩],fun x=>Qry x.1 x.2.1⟩
theorem Z54:GD 52 Qyt:=fnk 1 (fo [[0,1],[4]]) (Qjy Qwi Qk3) Tryz.func52
abbrev Qlr:Type:=(Int × Unit) × Unit
noncomputable def Z5i:Ctx:=[]
def Qwp:Fi:=fo [[0],[0,3],[0,3,4],[0,3,4,9],[0,3,4],[0,3,4],[0,3,4,5],[0,3,4,5,20],[0,3,4,5],[0,3,4,5,25],[0,3,4,5],[0,3,4,5],[2]]
abbrev Qt0:Type:=List Int→Int→Int→Option Qlr
abbrev Qw7:Type:=List Int→Int→Int→Int→Option Qlr
noncomputable def Qoa (L2:Qw7) (v1:List Int) (v2 v3:Int):Option Qlr:=
 bif decide (v3<(v1.length:Int)) then
  bif decide (0≤v3)&&decide (v3<(v1.length:Int)) then
   L2 v1 (IntKind.wrap .u32 ((BitVec.ofInt 32 v2 ^^^ BitVec.ofInt 32 (IntKind.wrap .u32 (List.getD v1 v3.toNat 0))).toNat)) v3 0
  else none
 else
  some ((IntKind.wrap .u32 ((BitVec.ofInt 32 4294967295 ^^^ BitVec.ofInt 32 v2).toNat),()),())
noncomputable def Qo8 (L2:Qw7) (L1:Qt0) (v4:List Int) (v5 v6 v7:Int):Option Qlr:=
 bif decide (v7<8) then
  bif (Int.tmod v5 2)==1 then
   L2 v4 (IntKind.wrap .u32 ((BitVec.ofInt 32 (IntKind.wrap .u32 (Int.tdiv v5 2)) ^^^ BitVec.ofInt 32 3988292384).toNat)) v6 (IntKind.wrap .i64 (v7+1))
  else
   L2 v4 (IntKind.wrap .u32 (Int.tdiv v5 2)) v6 (IntKind.wrap .i64 (v7+1))
 else
  L1 v4 v5 (IntKind.wrap .i64 (v6+1))
noncomputable def Z53 (L1:Qt0) (b_0:List Int):Option Qlr:=
 L1 b_0 4294967295 0
noncomputable def Qmw (n:Nat) (m1:Nat) (r1:Qt0):Nat→Qw7:=iter (fun _ _ _ _=>none) fun L=>Qo8 L r1
noncomputable def Qo2 (n:Nat):Nat→Qt0:=Qjg (fun _ _ _=>none) fun m L=>Qoa (Qmw n m L n)
noncomputable def Qqi (n m:Nat) (v1:List Int) (v2 v3:Int):Option Qlr:=
 Qjv Z5i tab (fiB [.val t25] Qwp) n [.val t25] [⟨t91,[false],none⟩] Tryz.f53 [1,1,0,1,0] [] [0,3,4] m
 ⟨[(0,Vp t25 v1),(3,Vp t91 v2),(4,Vp t2 v3)],[]⟩
noncomputable def Qt2 (n m1 m:Nat) (v4:List Int) (v5 v6 v7:Int):Option Qlr:=
 Qjv Z5i tab (fiB [.val t25] Qwp) n [.val t25] [⟨t91,[false],none⟩] Tryz.f53 [1,1,0,1,0,0,1,0,0,1,1,0] [(m1,[0,3,4])] [0,3,4,5] m
 ⟨[(0,Vp t25 v4),(3,Vp t91 v5),(4,Vp t2 v6),(5,Vp t2 v7)],[]⟩
theorem Z0m (n m1:Nat):∀ m,Qt2 n m1 m=Qmw n m1 (Qqi n m1) m
 | 0=>rfl
 | m+1=>by rw [show Qt2 n m1 (m+1)=Qo8 (Qt2 n m1 m) (Qqi n m1) from by kernel_rfl,Z0m n m1 m];rfl
theorem Z0w (n:Nat):∀ m,Qqi n m=Qo2 n m
 | 0=>rfl
 | m+1=>by rw [show Qqi n (m+1)=Qoa (Qt2 n m n) from by kernel_rfl,Z0m n m n,Z0w n m];rfl
noncomputable def Z4j (n:Nat) (b_0:List Int):Option Qlr:=Z53 (Qo2 n n) b_0
noncomputable def Z1s (b_0:List Int):Option Qlr:=Z4j 1099511627776 b_0
noncomputable def Z59:Ent:=⟨[.val t25],[⟨t91,[false],none⟩],fun x=>Z1s x.1⟩
theorem Z9d:GD 53 Z59:=fnl Qwp (fun n x=>Z4j n x.1) Qk3 Tryz.func53 fun n x=>Eq.trans (b:=Z53 (Qqi n n) x.1) (by kernel_rfl) (by rw [Z0w n n];rfl)
abbrev Qn4:Type:=((List Int) × Unit) × Unit
noncomputable def Z9p:Ctx:=[(50,Qzh),(51,Qzg),(52,Qyt),(53,Z59)]
def Qyv:Fi:={ keep:=[],vty:=[(4,25)],vals:=[],live:=[(0,[1]),(1,[1,9]),(2,[2]),(3,[1,3]),(4,[1,3]),(5,[1,3,4]),(6,[1,3,4,5]),(7,[1,3,4,5,39]),(8,[1,3,4,5]),(9,[1,3,4,5]),(10,[4]),(11,[4,6]),(12,[2])] }
abbrev Qtg:Type:=Int→Int→Int→Int→Int→Int→Int→List Int→Int→Int→ByteArray→List Int→List Int→Option Qn4
noncomputable def Qmm (L1:Qtg) (v2 v3 v4 v5 v6 v7 v8:Int) (v9:List Int) (v10 v11:Int) (v12:ByteArray) (v13 v14:List Int):Option Qn4:=
 bif decide (v2<(v13.length:Int)) then
  bif decide (0≤v2)&&decide (v2<(v13.length:Int)) then
   bif decide (0≤v2)&&decide (v2<(v13.length:Int)) then
    Option.bind (Qt4 v14 (List.getD v13 v2.toNat 0)) fun r15=>
    L1 (IntKind.wrap .i64 (v2+1)) v3 v4 v5 v6 v7 v8 v9 v10 v11 v12 v13 r15.1.1
   else none
  else none
 else
  Option.bind (Qry v14 v12) fun r16=>
  Option.bind (Z1s r16.1.1) fun r17=>
  bif Nat.ble (r16.1.1.length+4) 1073741824 then
   some ((r16.1.1++[IntKind.wrap .u8 (Int.fdiv r17.1.1 (2 ^ 24)),IntKind.wrap .u8 (Int.fdiv r17.1.1 (2 ^ 16)),IntKind.wrap .u8 (Int.fdiv r17.1.1 (2 ^ 8)),IntKind.wrap .u8 r17.1.1],()),())
  else none
noncomputable def Qrc (L1:Qtg) (m_0:Int × Int × Int × Int × Int × Int × (List Int) × Int × Int × ByteArray):Option Qn4:=
 Option.bind (Qsy m_0) fun r1=>
 bif !r1.1.1 then
  some (([],()),())
 else
 bif Nat.ble (7+m_0.2.2.2.2.2.2.1.length) 1073741824 then
  bif Nat.ble (([m_0.1,m_0.2.1,m_0.2.2.1,m_0.2.2.2.1,m_0.2.2.2.2.1,m_0.2.2.2.2.2.1,(m_0.2.2.2.2.2.2.1.length:Int)]++m_0.2.2.2.2.2.2.1).length+2) 1073741824 then
   L1 0 m_0.1 m_0.2.1 m_0.2.2.1 m_0.2.2.2.1 m_0.2.2.2.2.1 m_0.2.2.2.2.2.1 m_0.2.2.2.2.2.2.1 m_0.2.2.2.2.2.2.2.1 m_0.2.2.2.2.2.2.2.2.1 m_0.2.2.2.2.2.2.2.2.2 (([m_0.1,m_0.2.1,m_0.2.2.1,m_0.2.2.2.1,m_0.2.2.2.2.1,m_0.2.2.2.2.2.1,(m_0.2.2.2.2.2.2.1.length:Int)]++m_0.2.2.2.2.2.2.1)++[m_0.2.2.2.2.2.2.2.1,m_0.2.2.2.2.2.2.2.2.1]) []
  else none
 else none
noncomputable def Qml (n:Nat):Nat→Qtg:=iter (fun _ _ _ _ _ _ _ _ _ _ _ _ _=>none) fun L=>Qmm L
noncomputable def Qqr (n m:Nat) (v2 v3 v4 v5 v6 v7 v8:Int) (v9:List Int) (v10 v11:Int) (v12:ByteArray) (v13 v14:List Int):Option Qn4:=
 Qjv Z9p tab (fiB [.val t45] Qyv) n [.val t45] [⟨t25,[true],none⟩] Tryz.f19 [1,1,1,1,1,0,1,0] [] [1,3,4,5] m
 ⟨[(1,V1 (.ptr (1,0) 0)),(3,V1 (.ref (888888,3))),(4,V1 (.ref (888888,4))),(5,Vp t2 v2)],[((1,0),Ob.box 46 [LV.pure t2 v3,LV.pure t2 v4,LV.pure t2 v5,LV.pure t2 v6,LV.pure t2 v7,LV.pure t2 v8,LV.pure t28 v9,LV.pure t2 v10,LV.pure t2 v11,LV.pure t9 v12]),((888888,3),Ob.row 3 t2 v13),((888888,4),Ob.row 5 t5 v14)]⟩
theorem Qxb (n:Nat):∀ m,Qqr n m=Qml n m
 | 0=>rfl
 | m+1=>by rw [show Qqr n (m+1)=Qmm (Qqr n m) from by kernel_rfl,Qxb n m];rfl
noncomputable def Qz9 (n:Nat) (m_0:Int × Int × Int × Int × Int × Int × (List Int) × Int × Int × ByteArray):Option Qn4:=Qrc (Qml n n) m_0
noncomputable def Qmu (m_0:Int × Int × Int × Int × Int × Int × (List Int) × Int × Int × ByteArray):Option Qn4:=Qz9 1099511627776 m_0
noncomputable def Qud:Ent:=⟨[.val t45],[⟨t25,[true],none⟩],fun x=>Qmu x.1⟩
theorem Qwm:GD 19 Qud:=fnl Qyv (fun n x=>Qz9 n x.1) (Qjy Z5q (Qjy Qwi (Qjy Z54 (Qjy Z9d Qk3)))) Tryz.func19 fun n x=>Eq.trans (b:=Qrc (Qqr n n) x.1) (by kernel_rfl) (by rw [Qxb n n];rfl)
abbrev Qmq:Type:=(Int × Int × Bool × Unit) × Unit
noncomputable def Z83:Ctx:=[]
def Qx6:Fi:=fo [[0,13,14,38,39,40,41,42,45,46],[0,5,6,13,14,38,39,40,41,42,45,46],[0,5,6,7,13,14,38,39,40,41,42,45,46],[0,5,6,7,13,14,15,38,39,40,41,42,45,46],[0,5,6,7,13,14,38,39,40,41,42,45,46],[0,5,6,7,13,14,38,39,40,41,42,45,46],[0,5,6,7,13,14,38,39,40,41,42,45,46],[0,5,6,7,13,14,34,38,39,40,41,42,45,46],[5,7,47],[2,3,4],[2,3,4],[2,3,4]]
abbrev Qsr:Type:=List Int→Int→Int→Int→Option Qmq
noncomputable def Qq0 (L1:Qsr) (v1:List Int) (v2 v3 v4:Int):Option Qmq:=
 bif decide (v4<(v1.length:Int)) then
  bif decide (v4<5) then
   bif decide (0≤v4)&&decide (v4<(v1.length:Int)) then
    bif decide (0≤v4)&&decide (v4<(v1.length:Int)) then
     bif decide (List.getD v1 v4.toNat 0<128) then
      bif decide (v4>0) then
       bif decide (0≤v4)&&decide (v4<(v1.length:Int)) then
        bif (List.getD v1 v4.toNat 0)==0 then
         some ((0,0,false,()),())
        else
        bif decide (IntKind.wrap .i64 (v2+(IntKind.wrap .i64 ((IntKind.wrap .i64 (Int.tmod (List.getD v1 v4.toNat 0) 128))*v3)))>1073741824) then
         some ((0,0,false,()),())
        else
         some ((IntKind.wrap .i64 (v2+(IntKind.wrap .i64 ((IntKind.wrap .i64 (Int.tmod (List.getD v1 v4.toNat 0) 128))*v3))),IntKind.wrap .i64 (v4+1),true,()),())
       else none
      else
      bif decide (IntKind.wrap .i64 (v2+(IntKind.wrap .i64 ((IntKind.wrap .i64 (Int.tmod (List.getD v1 v4.toNat 0) 128))*v3)))>1073741824) then
       some ((0,0,false,()),())
      else
       some ((IntKind.wrap .i64 (v2+(IntKind.wrap .i64 ((IntKind.wrap .i64 (Int.tmod (List.getD v1 v4.toNat 0) 128))*v3))),IntKind.wrap .i64 (v4+1),true,()),())
     else
      L1 v1 (IntKind.wrap .i64 (v2+(IntKind.wrap .i64 ((IntKind.wrap .i64 (Int.tmod (List.getD v1 v4.toNat 0) 128))*v3)))) (IntKind.wrap .i64 (v3*128)) (IntKind.wrap .i64 (v4+1))
    else none
   else none
  else
   some ((0,0,false,()),())
 else
  some ((0,0,false,()),())
noncomputable def Qyb (L1:Qsr) (b_0:List Int):Option Qmq:=
 L1 b_0 0 1 0
noncomputable def Qpw (n:Nat):Nat→Qsr:=iter (fun _ _ _ _=>none) fun L=>Qq0 L
noncomputable def Qq3 (n m:Nat) (v1:List Int) (v2 v3 v4:Int):Option Qmq:=
 Qjv Z83 tab (fiB [.val t25] Qx6) n [.val t25] [⟨t2,[false],none⟩,⟨t2,[false],none⟩,⟨t4,[false],none⟩] Tryz.f108 [1,1,0,1,0] [] [0,5,6,7] m
 ⟨[(0,Vp t25 v1),(5,Vp t2 v2),(6,Vp t2 v3),(7,Vp t2 v4)],[]⟩
theorem Qw8 (n:Nat):∀ m,Qq3 n m=Qpw n m
 | 0=>rfl
 | m+1=>by rw [show Qq3 n (m+1)=Qq0 (Qq3 n m) from by kernel_rfl,Qw8 n m];rfl
noncomputable def Qyo (n:Nat) (b_0:List Int):Option Qmq:=Qyb (Qpw n n) b_0
noncomputable def Qs7 (b_0:List Int):Option Qmq:=Qyo 1099511627776 b_0
noncomputable def Z8y:Ent:=⟨[.val t25],[⟨t2,[false],none⟩,⟨t2,[false],none⟩,⟨t4,[false],none⟩],fun x=>Qs7 x.1⟩
theorem Qvl:GD 108 Z8y:=fnl Qx6 (fun n x=>Qyo n x.1) Qk3 Tryz.func108 fun n x=>Eq.trans (b:=Qyb (Qq3 n n) x.1) (by kernel_rfl) (by rw [Qw8 n n];rfl)
noncomputable def Qk8 (r_0:(List Int) × Bool):Option ((Int × Unit) × (Zsx × Unit)):=
 Option.bind (Qs7 r_0.1) fun r1=>
 bif !r1.1.2.2.1 then
  some ((0,()),((r_0.1,true),()))
 else
 bif r_0.2 then
  some ((0,()),(r_0,()))
 else
 bif (decide (0≤r1.1.2.1)&&decide (r1.1.2.1≤(r_0.1.length:Int)))&&decide ((r_0.1.length:Int)≤(r_0.1.length:Int)) then
  some ((r1.1.1,()),((List.drop r1.1.2.1.toNat (List.take ((r_0.1.length:Int).toNat) r_0.1),r_0.2),()))
 else none
noncomputable def Qvy:Ent:=⟨[.box 96 t95 [false,false]],[⟨t2,[false],none⟩],fun x=>Qk8 x.1⟩
theorem Z14:GD 54 Qvy:=fnk 1 (fo [[0],[0,3,4,5],[0,3,4,16],[0,3,4],[0,3,4,23],[0,2],[0,3],[0,2]]) (Qjy Qvl Qk3) Tryz.func54
noncomputable def Qu6 (b_0:List Int):Option ((ByteArray × Int × Bool × Unit) × Unit):=
 Option.bind (Qs7 b_0) fun r1=>
 bif !r1.1.2.2.1 then
  some (((⟨#[]⟩:ByteArray),0,false,()),())
 else
 bif decide (r1.1.1>IntKind.wrap .i64 ((b_0.length:Int) - r1.1.2.1)) then
  some (((⟨#[]⟩:ByteArray),0,false,()),())
 else
 bif (decide (0≤r1.1.2.1)&&decide (r1.1.2.1≤IntKind.wrap .i64 (r1.1.2.1+r1.1.1)))&&decide (IntKind.wrap .i64 (r1.1.2.1+r1.1.1)≤(b_0.length:Int)) then
  some ((Q5g (List.drop r1.1.2.1.toNat (List.take ((IntKind.wrap .i64 (r1.1.2.1+r1.1.1)).toNat) b_0)),IntKind.wrap .i64 (r1.1.2.1+r1.1.1),true,()),())
 else none
noncomputable def Z73:Ent:=⟨[.val t25],[⟨t9,[false],none⟩,⟨t2,[false],none⟩,⟨t4,[false],none⟩],fun x=>Qu6 x.1⟩
theorem Z43:GD 109 Z73:=fnk 1 (fo [[0,17,18,19,20,21,22],[0,5,6,7,17,18,19,20,21,22],[0,5,6,23],[2,3,4],[2,3,4]]) (Qjy Qvl Qk3) Tryz.func109
noncomputable def Qlu (r_0:(List Int) × Bool):Option (Zpd × (Zsx × Unit)):=
 Option.bind (Qu6 r_0.1) fun r1=>
 bif !r1.1.2.2.1 then
  some (((⟨#[]⟩:ByteArray),()),((r_0.1,true),()))
 else
 bif r_0.2 then
  some (((⟨#[]⟩:ByteArray),()),(r_0,()))
 else
 bif (decide (0≤r1.1.2.1)&&decide (r1.1.2.1≤(r_0.1.length:Int)))&&decide ((r_0.1.length:Int)≤(r_0.1.length:Int)) then
  some ((r1.1.1,()),((List.drop r1.1.2.1.toNat (List.take ((r_0.1.length:Int).toNat) r_0.1),r_0.2),()))
 else none
noncomputable def Qur:Ent:=⟨[.box 96 t95 [false,false]],[⟨t9,[false],none⟩],fun x=>Qlu x.1⟩
theorem Z0c:GD 55 Qur:=fnk 1 (fo [[0],[0,3,4,5],[0,3,4,16],[0,3,4],[0,3,4,23],[0,2],[0,3],[0,2]]) (Qjy Z43 Qk3) Tryz.func55
abbrev Qmo:Type:=(Qyy × Bool × Unit) × Unit
noncomputable def Z8x:Ctx:=[(19,Qud),(54,Qvy),(55,Qur)]
def Qxl:Fi:=fo [[0,2,41,42,43,44,45,70,71,72,73,74,75],[0,2,9,41,42,43,44,45,70,71,72,73,74,75],[2,3],[0,2,4,41,42,43,44,45,70,71,72,73,74,75],[0,2,4,5,41,42,43,44,45,70,71,72,73,74,75],[0,2,4,5,41,42,43,44,45,70,71,72,73,74,75],[0,2,4,5,41,42,43,44,45,70,71,72,73,74,75],[0,2,4,5,41,42,43,44,45,70,71,72,73,74,75],[0,2,4,5,41,42,43,44,45,70,71,72,73,74,75],[0,2,4,5,41,42,43,44,45,70,71,72,73,74,75],[0,2,4,5,6,41,42,43,44,45,70,71,72,73,74,75],[0,2,4,5,6,41,42,43,44,45,46,70,71,72,73,74,75],[0,2,4,5,6,41,42,43,44,45,70,71,72,73,74,75],[0,2,4,5,6,41,42,43,44,45,70,71,72,73,74,75],[0,2,4,5,70,71,72,73,74,75],[0,2,4,5,70,71,72,73,74,75],[0,2,4,5,70,71,72,73,74,75],[2,5,76],[2,3],[2,3]]
abbrev Qss:Type:=List Int→Int→Int→Int→Int→Int→Int→Int→Int→Int→ByteArray→List Int→List Int→Bool→Int→Int→Int→Int→Int→Int→Int→Int→ByteArray→List Int→Option Qmo
noncomputable def Qmc (L1:Qss) (v8:List Int) (v9 v10 v11 v12 v13 v14 v15 v16 v17:Int) (v18:ByteArray) (v19 v20:List Int) (v21:Bool) (v22 v23 v24 v25 v26 v27 v28 v29:Int) (v30:ByteArray) (v31:List Int):Option Qmo:=
 bif decide (v9>0) then
  bif !v21 then
   Option.bind (Qk8 (v20,v21)) fun r32=>
   bif Nat.ble (v31.length+1) 1073741824 then
    L1 v8 (IntKind.wrap .i64 (v9 - 1)) v10 v11 v12 v13 v14 v15 v16 v17 v18 v19 r32.2.1.1 r32.2.1.2 v22 v23 v24 v25 v26 v27 v28 v29 v30 (v31++[r32.1.1])
   else none
  else
   Option.bind (Qk8 (v20,v21)) fun r33=>
   Option.bind (Qk8 r33.2.1) fun r34=>
   Option.bind (Qlu r34.2.1) fun r35=>
   bif r35.2.1.2 then
    some ((Zje,false,()),())
   else
    Option.bind (Qmu (v22,v23,v24,v25,v26,v27,v31,r33.1.1,r34.1.1,r35.1.1)) fun r36=>
    bif !(Qeq (Q5g r36.1.1) (Q5g v8)) then
     some ((Zje,false,()),())
    else
     some (((v22,v23,v24,v25,v26,v27,v31,r33.1.1,r34.1.1,r35.1.1),true,()),())
 else
  Option.bind (Qk8 (v20,v21)) fun r37=>
  Option.bind (Qk8 r37.2.1) fun r38=>
  Option.bind (Qlu r38.2.1) fun r39=>
  bif r39.2.1.2 then
   some ((Zje,false,()),())
  else
   Option.bind (Qmu (v22,v23,v24,v25,v26,v27,v31,r37.1.1,r38.1.1,r39.1.1)) fun r40=>
   bif !(Qeq (Q5g r40.1.1) (Q5g v8)) then
    some ((Zje,false,()),())
   else
    some (((v22,v23,v24,v25,v26,v27,v31,r37.1.1,r38.1.1,r39.1.1),true,()),())
noncomputable def Qqt (L1:Qss) (b_0:List Int):Option Qmo:=
 bif decide ((b_0.length:Int)<4) then
  some ((Zje,false,()),())
 else
 bif decide (0≤IntKind.wrap .i64 ((b_0.length:Int) - 4))&&decide (IntKind.wrap .i64 ((b_0.length:Int) - 4)≤(b_0.length:Int)) then
  Option.bind (Qk8 (List.drop 0 (List.take ((IntKind.wrap .i64 ((b_0.length:Int) - 4)).toNat) b_0),false)) fun r1=>
  Option.bind (Qk8 r1.2.1) fun r2=>
  Option.bind (Qk8 r2.2.1) fun r3=>
  Option.bind (Qk8 r3.2.1) fun r4=>
  Option.bind (Qk8 r4.2.1) fun r5=>
  Option.bind (Qk8 r5.2.1) fun r6=>
  Option.bind (Qk8 r6.2.1) fun r7=>
  L1 b_0 r7.1.1 0 0 0 0 0 0 0 0 (⟨#[]⟩:ByteArray) [] r7.2.1.1 r7.2.1.2 r1.1.1 r2.1.1 r3.1.1 r4.1.1 r5.1.1 r6.1.1 0 0 (⟨#[]⟩:ByteArray) []
 else none
noncomputable def Qm7 (n:Nat):Nat→Qss:=iter (fun _ _ _ _ _ _ _ _ _ _ _ _ _ _ _ _ _ _ _ _ _ _ _ _=>none) fun L=>Qmc L
noncomputable def Qq1 (n m:Nat) (v8:List Int) (v9 v10 v11 v12 v13 v14 v15 v16 v17:Int) (v18:ByteArray) (v19 v20:List Int) (v21:Bool) (v22 v23 v24 v25 v26 v27 v28 v29:Int) (v30:ByteArray) (v31:List Int):Option Qmo:=
 Qjv Z8x tab (fiB [.val t25] Qxl) n [.val t25] [⟨t45,(nF 6++[true,false,false,false]),none⟩,⟨t4,[false],none⟩] Tryz.f20 [1,1,1,1,1,1,1,1,1,0,1,0] [] [0,2,4,5,6] m
 ⟨[(0,Vp t25 v8),(2,V1 (.ptr (2,0) 0)),(4,V1 (.ptr (17,0) 0)),(5,V1 (.ptr (5,0) 0)),(6,Vp t2 v9)],[((2,0),Ob.box 46 [LV.pure t2 v10,LV.pure t2 v11,LV.pure t2 v12,LV.pure t2 v13,LV.pure t2 v14,LV.pure t2 v15,LV.ref (2,7),LV.pure t2 v16,LV.pure t2 v17,LV.pure t9 v18]),((2,7),Ob.row 3 t2 v19),((17,0),Ob.box 96 [LV.pure t25 v20,LV.pure t4 v21]),((5,0),Ob.box 46 [LV.pure t2 v22,LV.pure t2 v23,LV.pure t2 v24,LV.pure t2 v25,LV.pure t2 v26,LV.pure t2 v27,LV.ref (5,7),LV.pure t2 v28,LV.pure t2 v29,LV.pure t9 v30]),((5,7),Ob.row 3 t2 v31)]⟩
theorem Qwr (n:Nat):∀ m,Qq1 n m=Qm7 n m
 | 0=>rfl
 | m+1=>by rw [show Qq1 n (m+1)=Qmc (Qq1 n m) from by kernel_rfl,Qwr n m];rfl
noncomputable def Qyg (n:Nat) (b_0:List Int):Option Qmo:=Qqt (Qm7 n n) b_0
noncomputable def Qv7 (b_0:List Int):Option Qmo:=Qyg 1099511627776 b_0
noncomputable def Qyh:Ent:=⟨[.val t25],[⟨t45,(nF 6++[true,false,false,false]),none⟩,⟨t4,[false],none⟩],fun x=>Qv7 x.1⟩
theorem Z4c:GD 20 Qyh:=fnl Qxl (fun n x=>Qyg n x.1) (Qjy Qwm (Qjy Z14 (Qjy Z0c Qk3))) Tryz.func20 fun n x=>Eq.trans (b:=Qqt (Qq1 n n) x.1) (by kernel_rfl) (by rw [Qwr n n];rfl)
abbrev Qmn:Type:=(Bool × Unit) × Unit
noncomputable def Z85:Ctx:=[]
def Qxe:Fi:=fo [[0,1],[0,1,10],[4],[0,1,5],[0,1,5,14],[0,1,5],[0,1,5,25],[4],[4]]
abbrev Qst:Type:=Z22→Z22→Int→Option Qmn
noncomputable def Qm9 (L1:Qst) (v1 v2:List Qky) (v3:Int):Option Qmn:=
 bif decide (v3<(v1.length:Int)) then
  bif decide (0≤v3)&&decide (v3<(v1.length:Int)) then
   bif decide (0≤v3)&&decide (v3<(v2.length:Int)) then
    bif !((((List.getD v1 v3.toNat (0,0,0)).1)==((List.getD v2 v3.toNat (0,0,0)).1))&&(((((List.getD v1 v3.toNat (0,0,0)).2).1)==(((List.getD v2 v3.toNat (0,0,0)).2).1))&&(((((List.getD v1 v3.toNat (0,0,0)).2).2)==(((List.getD v2 v3.toNat (0,0,0)).2).2))&&true))) then
     some ((false,()),())
    else
     L1 v1 v2 (IntKind.wrap .i64 (v3+1))
   else none
  else none
 else
  some ((true,()),())
noncomputable def Qqu (L1:Qst) (a_0 b_1:List Qky):Option Qmn:=
 bif (a_0.length:Int) != (b_1.length:Int) then
  some ((false,()),())
 else
  L1 a_0 b_1 0
noncomputable def Qm5 (n:Nat):Nat→Qst:=iter (fun _ _ _=>none) fun L=>Qm9 L
noncomputable def Qq2 (n m:Nat) (v1 v2:List Qky) (v3:Int):Option Qmn:=
 Qjv Z85 tab (fiB [.val t29,.val t29] Qxe) n [.val t29,.val t29] [⟨t4,[false],none⟩] Tryz.f82 [1,1,0,1,0] [] [0,1,5] m
 ⟨[(0,Vp t29 v1),(1,Vp t29 v2),(5,Vp t2 v3)],[]⟩
theorem Qwn (n:Nat):∀ m,Qq2 n m=Qm5 n m
 | 0=>rfl
 | m+1=>by rw [show Qq2 n (m+1)=Qm9 (Qq2 n m) from by kernel_rfl,Qwn n m];rfl
noncomputable def Qyi (n:Nat) (a_0 b_1:List Qky):Option Qmn:=Qqu (Qm5 n n) a_0 b_1
noncomputable def Qv5 (a_0 b_1:List Qky):Option Qmn:=Qyi 1099511627776 a_0 b_1
noncomputable def Z8u:Ent:=⟨[.val t29,.val t29],[⟨t4,[false],none⟩],fun x=>Qv5 x.1 x.2.1⟩
theorem Z4p:GD 82 Z8u:=fnl Qxe (fun n x=>Qyi n x.1 x.2.1) Qk3 Tryz.func82 fun n x=>Eq.trans (b:=Qqu (Qq2 n n) x.1 x.2.1) (by kernel_rfl) (by rw [Qwn n n];rfl)
noncomputable def Qrw (a_0 b_1:Int × Int × Int × Int × Int × Int × (List Int) × Int × Int × Int × Int × Int × List Qky):Option ((Bool × Unit) × Unit):=
 bif a_0.1==b_1.1 then
  bif a_0.2.1==b_1.2.1 then
   bif a_0.2.2.1==b_1.2.2.1 then
    bif (g3 a_0)==(g3 b_1) then
     bif (g4 a_0)==(g4 b_1) then
      bif (g5 a_0)==(g5 b_1) then
       Option.bind (Qs4 (g6 a_0) (g6 b_1)) fun r1=>
       bif r1.1.1 then
        bif (g7 a_0)==(g7 b_1) then
         bif (g8 a_0)==(g8 b_1) then
          bif (g9 a_0)==(g9 b_1) then
           bif (g10 a_0)==(g10 b_1) then
            bif (g11 a_0)==(g11 b_1) then
            Option.bind (Qv5 (h12 a_0) (h12 b_1)) fun r2=>
            some ((r2.1.1,()),())
            else
            some ((false,()),())
           else
            some ((false,()),())
          else
           some ((false,()),())
         else
          some ((false,()),())
        else
         some ((false,()),())
       else
        some ((false,()),())
      else
       some ((false,()),())
     else
      some ((false,()),())
    else
     some ((false,()),())
   else
    some ((false,()),())
  else
   some ((false,()),())
 else
  some ((false,()),())
noncomputable def Z91:Ent:=⟨[.val t30,.val t30],[⟨t4,[false],none⟩],fun x=>Qrw x.1 x.2.1⟩
theorem Z4g:GD 39 Z91:=fnk 1 (fo [[2,3,11,12,13,14,15,18,19,20,21,22,25,26,27,28,29,32,33,34,35,36,39,40,41,42,43,46,47,48,49,50,53,54,55,56,57,60,61,62,63,64,67,68,69,70,71,74,75,76,77,78,81,82,83,84,85,88,89,90,91,92],[4]]) (Qjy Qvt (Qjy Z4p Qk3)) Tryz.func39
abbrev Qln:Type:=(Bool × Unit) × Unit
noncomputable def Z5t:Ctx:=[]
def Qvg:Fi:=fo [[0,1],[0,1,10],[4],[0,1,5],[0,1,5,14],[0,1,5],[0,1,5,25],[4],[4]]
abbrev Qrl:Type:=Qkz→Qkz→Int→Option Qln
noncomputable def Qlh (L1:Qrl) (v1 v2:List Qla) (v3:Int):Option Qln:=
 bif decide (v3<(v1.length:Int)) then
  bif decide (0≤v3)&&decide (v3<(v1.length:Int)) then
   bif decide (0≤v3)&&decide (v3<(v2.length:Int)) then
    bif !((((List.getD v1 v3.toNat (0,(⟨#[]⟩:ByteArray))).1)==((List.getD v2 v3.toNat (0,(⟨#[]⟩:ByteArray))).1))&&((Qeq ((List.getD v1 v3.toNat (0,(⟨#[]⟩:ByteArray))).2) ((List.getD v2 v3.toNat (0,(⟨#[]⟩:ByteArray))).2))&&true)) then
     some ((false,()),())
    else
     L1 v1 v2 (IntKind.wrap .i64 (v3+1))
   else none
  else none
 else
  some ((true,()),())
noncomputable def Qoy (L1:Qrl) (a_0 b_1:List Qla):Option Qln:=
 bif (a_0.length:Int) != (b_1.length:Int) then
  some ((false,()),())
 else
  L1 a_0 b_1 0
noncomputable def Qlc (n:Nat):Nat→Qrl:=iter (fun _ _ _=>none) fun L=>Qlh L
noncomputable def Qo1 (n m:Nat) (v1 v2:List Qla) (v3:Int):Option Qln:=
 Qjv Z5t tab (fiB [.val t32,.val t32] Qvg) n [.val t32,.val t32] [⟨t4,[false],none⟩] Tryz.f83 [1,1,0,1,0] [] [0,1,5] m
 ⟨[(0,Vp t32 v1),(1,Vp t32 v2),(5,Vp t2 v3)],[]⟩
theorem Qun (n:Nat):∀ m,Qo1 n m=Qlc n m
 | 0=>rfl
 | m+1=>by rw [show Qo1 n (m+1)=Qlh (Qo1 n m) from by kernel_rfl,Qun n m];rfl
noncomputable def Qwv (n:Nat) (a_0 b_1:List Qla):Option Qln:=Qoy (Qlc n n) a_0 b_1
noncomputable def Qqn (a_0 b_1:List Qla):Option Qln:=Qwv 1099511627776 a_0 b_1
noncomputable def Z5x:Ent:=⟨[.val t32,.val t32],[⟨t4,[false],none⟩],fun x=>Qqn x.1 x.2.1⟩
theorem Z24:GD 83 Z5x:=fnl Qvg (fun n x=>Qwv n x.1 x.2.1) Qk3 Tryz.func83 fun n x=>Eq.trans (b:=Qoy (Qo1 n n) x.1 x.2.1) (by kernel_rfl) (by rw [Qun n n];rfl)
abbrev Qld:Type:=(Bool × Unit) × Unit
noncomputable def Z57:Ctx:=[]
def Qul:Fi:=fo [[0,1],[0,1,10],[4],[0,1,5],[0,1,5,14],[0,1,5],[0,1,5,25],[4],[4]]
abbrev Qqx:Type:=Qso→Qso→Int→Option Qld
noncomputable def Ql5 (L1:Qqx) (v1 v2:List Qrq) (v3:Int):Option Qld:=
 bif decide (v3<(v1.length:Int)) then
  bif decide (0≤v3)&&decide (v3<(v1.length:Int)) then
   bif decide (0≤v3)&&decide (v3<(v2.length:Int)) then
    bif !((((List.getD v1 v3.toNat Zns).1)==((List.getD v2 v3.toNat Zns).1))&&(((((List.getD v1 v3.toNat Zns).2).1)==(((List.getD v2 v3.toNat Zns).2).1))&&((((((List.getD v1 v3.toNat Zns).2).2).1)==((((List.getD v2 v3.toNat Zns).2).2).1))&&((Qeq (((((List.getD v1 v3.toNat Zns).2).2).2).1) (((((List.getD v2 v3.toNat Zns).2).2).2).1))&&(((((((List.getD v1 v3.toNat Zns).2).2).2).2)==(((((List.getD v2 v3.toNat Zns).2).2).2).2))&&true))))) then
     some ((false,()),())
    else
     L1 v1 v2 (IntKind.wrap .i64 (v3+1))
   else none
  else none
 else
  some ((true,()),())
noncomputable def Qol (L1:Qqx) (a_0 b_1:List Qrq):Option Qld:=
 bif (a_0.length:Int) != (b_1.length:Int) then
  some ((false,()),())
 else
  L1 a_0 b_1 0
noncomputable def Ql6 (n:Nat):Nat→Qqx:=iter (fun _ _ _=>none) fun L=>Ql5 L
noncomputable def Qnt (n m:Nat) (v1 v2:List Qrq) (v3:Int):Option Qld:=
 Qjv Z57 tab (fiB [.val t33,.val t33] Qul) n [.val t33,.val t33] [⟨t4,[false],none⟩] Tryz.f84 [1,1,0,1,0] [] [0,1,5] m
 ⟨[(0,Vp t33 v1),(1,Vp t33 v2),(5,Vp t2 v3)],[]⟩
theorem Qu3 (n:Nat):∀ m,Qnt n m=Ql6 n m
 | 0=>rfl
 | m+1=>by rw [show Qnt n (m+1)=Ql5 (Qnt n m) from by kernel_rfl,Qu3 n m];rfl
noncomputable def Qvu (n:Nat) (a_0 b_1:List Qrq):Option Qld:=Qol (Ql6 n n) a_0 b_1
noncomputable def Qsp (a_0 b_1:List Qrq):Option Qld:=Qvu 1099511627776 a_0 b_1
noncomputable def Z5d:Ent:=⟨[.val t33,.val t33],[⟨t4,[false],none⟩],fun x=>Qsp x.1 x.2.1⟩
theorem Z16:GD 84 Z5d:=fnl Qul (fun n x=>Qvu n x.1 x.2.1) Qk3 Tryz.func84 fun n x=>Eq.trans (b:=Qol (Qnt n n) x.1 x.2.1) (by kernel_rfl) (by rw [Qu3 n n];rfl)
noncomputable def Qr6 (a_0 b_1:Int × Int × Qkz × Qkz × Qso × Int × Int):Option ((Bool × Unit) × Unit):=
 bif a_0.1==b_1.1 then
  bif a_0.2.1==b_1.2.1 then
   Option.bind (Qqn a_0.2.2.1 b_1.2.2.1) fun r1=>
   bif r1.1.1 then
    Option.bind (Qqn (g3 a_0) (g3 b_1)) fun r2=>
    bif r2.1.1 then
     Option.bind (Qsp (g4 a_0) (g4 b_1)) fun r3=>
     bif r3.1.1 then
      some ((((g5 a_0)==(g5 b_1))&&(((h6 a_0)==(h6 b_1))&&true),()),())
     else
      some ((false,()),())
    else
     some ((false,()),())
   else
    some ((false,()),())
  else
   some ((false,()),())
 else
  some ((false,()),())
noncomputable def Z72:Ent:=⟨[.val t36,.val t36],[⟨t4,[false],none⟩],fun x=>Qr6 x.1 x.2.1⟩
theorem Z42:GD 40 Z72:=fnk 1 (fo [[2,3,11,12,13,14,15,18,19,20,21,22,25,26,27,28,29,32,33,34,35,36,39,40,41,42,43],[4]]) (Qjy Z24 (Qjy Z16 Qk3)) Tryz.func40
noncomputable def Qm1 (a_0 b_1:Bool × Int × ByteArray × Qt7 × Z2k × Int):Option ((Bool × Unit) × Unit):=
 bif a_0.1==b_1.1 then
  bif a_0.2.1==b_1.2.1 then
   bif Qeq a_0.2.2.1 b_1.2.2.1 then
    Option.bind (Qrw (g3 a_0) (g3 b_1)) fun r1=>
    bif r1.1.1 then
     Option.bind (Qr6 (g4 a_0) (g4 b_1)) fun r2=>
     bif r2.1.1 then
      some (((h5 a_0)==(h5 b_1),()),())
     else
      some ((false,()),())
    else
     some ((false,()),())
   else
    some ((false,()),())
  else
   some ((false,()),())
 else
  some ((false,()),())
noncomputable def Qx7:Ent:=⟨[.val t38,.val t38],[⟨t4,[false],none⟩],fun x=>Qm1 x.1 x.2.1⟩
theorem Z3x:GD 15 Qx7:=fnk 1 (fo [[2,3,11,12,13,14,15,18,19,20,21,22,25,26,27,28,29,32,33,34,35,36,39,40,41,42,43],[4]]) (Qjy Z4g (Qjy Z42 Qk3)) Tryz.func15
noncomputable def Qrn (n_0:Bool × Int × ByteArray × Qt7 × Z2k × Int):Option ((Zrn × Unit) × Unit):=
 bif !n_0.1 then
  some ((n_0,()),())
 else
  some (((u4 (u3 (u2 (u0 n_0 false) (⟨#[]⟩:ByteArray)) Ztb) (0,0,[],[],[],0,0)),()),())
noncomputable def Z0s:Ent:=⟨[.val t38],[⟨t38,(nF 24),none⟩],fun x=>Qrn x.1⟩
theorem Z6y:GD 21 Z0s:=fnk 1 (fo [[1,2],[1,2,5],[2],[2]]) Qk3 Tryz.func21
noncomputable def Zam (k_0:Int × Int × Int) (x_1:Int):Option ((Bool × Unit) × Unit):=
 some ((decide (IntKind.wrap .i64 (x_1 - k_0.2.2)>20),()),())
noncomputable def Zg3:Ent:=⟨[.val t52,.rbox t2],[⟨t4,[false],none⟩],fun x=>Zam x.1 x.2.1⟩
theorem Zbd:GD 161 Zg3:=fnk 1 (fo [[1,2],[3]]) Qk3 Tryz.func161
noncomputable def Zkb (l_0:List Qky) (now_1:Int):Option ((Z22 × Unit) × Unit):=
 Option.bind (Qme l_0) fun r1=>
 Option.bind (Qt9 r1.1.1 (fun x=>(Zam x.1 now_1).bind fun r=>some (r.1.1,()))) fun r2=>
 some ((r2.1.1,()),())
noncomputable def Zmk:Ent:=⟨[.val t29,.val t2],[⟨t29,[true],none⟩],fun x=>Zkb x.1 x.2.1⟩
theorem Zgi:GD 110 Zmk:=fnk 1 (fo [[0,3],[4]]) (Qjy Qnz (Qjy Qu4 (Qjy Zbd Qk3))) Tryz.func110
noncomputable def Qz6 (n_0:Qt7 × List Qyy):Option (Unit × (Z20 × Unit)):=
 Option.bind (Qks ((u11 (u10 (u9 n_0.1 1) (IntKind.wrap .i64 (n_0.1.2.2.1+3))) (IntKind.wrap .i64 ((g11 n_0.1)+1))),n_0.2) 1 1 0) fun r2=>
 some ((),(r2.2.1,()))
noncomputable def Qyw (n_0:Qt7 × List Qyy):Option (Unit × (Z20 × Unit)):=
 Option.bind (Qks ((u10 (u9 n_0.1 1) (IntKind.wrap .i64 (n_0.1.2.2.1+3))),n_0.2) 1 1 0) fun r6=>
 some ((),(r6.2.1,()))
noncomputable def Z6r (n_0:Qt7 × List Qyy):Option (Unit × (Z20 × Unit)):=
 bif (g9 n_0.1) != 0 then
  some ((),(n_0,()))
 else
 bif (g11 n_0.1)==0 then
  bif (g5 n_0.1) != 0 then
   bif (g5 n_0.1) != n_0.1.1 then
    Option.bind (Qks ((u10 (u9 n_0.1 (g5 n_0.1)) (IntKind.wrap .i64 (n_0.1.2.2.1+3))),n_0.2) 1 (g5 n_0.1) 0) fun r5=>
    some ((),(r5.2.1,()))
   else
    Qyw n_0
  else
   Qyw n_0
 else
  Qyw n_0
noncomputable def Z09 (n_0:Qt7 × List Qyy):Option (Unit × (Z20 × Unit)):=
 bif n_0.1.1==1 then
  some ((),(n_0,()))
 else
 bif (g3 n_0.1) != 0 then
  some ((),(n_0,()))
 else
 bif (g9 n_0.1) != 0 then
  bif decide (n_0.1.2.2.1 ≥ (g10 n_0.1)) then
   bif (IntKind.wrap .i64 ((g11 n_0.1)+1))==0 then
    bif (g5 n_0.1) != 0 then
     bif (g5 n_0.1) != n_0.1.1 then
      Option.bind (Qks ((u11 (u10 (u9 n_0.1 (g5 n_0.1)) (IntKind.wrap .i64 (n_0.1.2.2.1+3))) (IntKind.wrap .i64 ((g11 n_0.1)+1))),n_0.2) 1 (g5 n_0.1) 0) fun r1=>
      some ((),(r1.2.1,()))
     else
      Qz6 n_0
    else
     Qz6 n_0
   else
    Qz6 n_0
  else
   Z6r n_0
 else
  Z6r n_0
noncomputable def Zhx:Ent:=⟨[.box 141 Znh (nF 13++[true])],[],fun x=>Z09 x.1⟩
theorem Zbi:GD 112 Zhx:=fnk 1 (fo [[0,15,23,24,25,26,27,28,29,30,31,32,33,65,66,67,68,69,70,73,74,75,76,77,78,79,80,81,82,83],[0,34,65,66,67,68,69,70,73,74,75,76,77,78,79,80,81,82,83],[0,65,66,67,68,69,70,73,74,75,76,77,78,79,80,81,82,83],[0,65,66,67,68,69,70,73,74,75,76,77,78,79,80,81,82,83],[0,53,65,66,67,68,69,70,73,74,75,76,77,78,79,80,81,82,83],[0,65,66,67,68,69,70,73,74,75,76,77,78,79,80,81,82,83],[0,84],[0],[0],[0]]) (Qjy Qnj Qk3) Tryz.func112
abbrev Qq9:Type:=Unit × (Z20 × Unit)
noncomputable def Zft:Ctx:=[(111,Zhn),(142,Z6j)]
def Z4k:Fi:=fo [[0,10],[0,16],[0],[0,28,29,30],[0,28,29,30,31],[0,3,28,29,30],[0,3,28,29,30,38],[0,28,29,30],[0,28,29,30]]
abbrev Qxz:Type:=Z22→Int→Int→Int→Int→Int→Int→Int→Int→List Int→Int→Int→Int→Int→Int→Z22→Z9c→Option Qq9
noncomputable def Z5k (L1:Qxz) (v2:List Qky) (v3 v4 v5 v6 v7 v8 v9 v10:Int) (v11:List Int) (v12 v13 v14 v15 v16:Int) (v17:List Qky) (v18:List Qyy):Option Qq9:=
 bif decide (v4<v3) then
  bif decide (0≤v4)&&decide (v4<(v2.length:Int)) then
   Option.bind (Z7s (v5,v6,v7,v8,v9,v10,v11,v12,v13,v14,v15,v16,v17)) fun r19=>
   bif r19.1.1 then
    Option.bind (Qks ((v5,v6,v7,v8,v9,v10,v11,v12,v13,v14,v15,v16,v17),v18) 5 ((List.getD v2 v4.toNat (0,0,0)).1) 0) fun r20=>
    L1 v2 v3 (IntKind.wrap .i64 (v4+1)) r20.2.1.1.1 r20.2.1.1.2.1 r20.2.1.1.2.2.1 (g3 r20.2.1.1) (g4 r20.2.1.1) (g5 r20.2.1.1) (g6 r20.2.1.1) (g7 r20.2.1.1) (g8 r20.2.1.1) (g9 r20.2.1.1) (g10 r20.2.1.1) (g11 r20.2.1.1) (h12 r20.2.1.1) r20.2.1.2
   else
    L1 v2 v3 (IntKind.wrap .i64 (v4+1)) v5 v6 v7 v8 v9 v10 v11 v12 v13 v14 v15 v16 v17 v18
  else none
 else
  some ((),(((v5,v6,v7,v8,v9,v10,v11,v12,v13,v14,v15,v16,v17),v18),()))
noncomputable def Z6p (L1:Qxz) (n_0:Qt7 × List Qyy):Option Qq9:=
 bif (Int.tmod n_0.1.2.2.1 2) != 0 then
  some ((),(n_0,()))
 else
 bif (g3 n_0.1) != 0 then
  Option.bind (Qks n_0 4 (g3 n_0.1) 0) fun r1=>
  L1 (h12 r1.2.1.1) ((h12 r1.2.1.1).length:Int) 0 r1.2.1.1.1 r1.2.1.1.2.1 r1.2.1.1.2.2.1 (g3 r1.2.1.1) (g4 r1.2.1.1) (g5 r1.2.1.1) (g6 r1.2.1.1) (g7 r1.2.1.1) (g8 r1.2.1.1) (g9 r1.2.1.1) (g10 r1.2.1.1) (g11 r1.2.1.1) (h12 r1.2.1.1) r1.2.1.2
 else
  L1 (h12 n_0.1) ((h12 n_0.1).length:Int) 0 n_0.1.1 n_0.1.2.1 n_0.1.2.2.1 (g3 n_0.1) (g4 n_0.1) (g5 n_0.1) (g6 n_0.1) (g7 n_0.1) (g8 n_0.1) (g9 n_0.1) (g10 n_0.1) (g11 n_0.1) (h12 n_0.1) n_0.2
noncomputable def Z5e (n:Nat):Nat→Qxz:=iter (fun _ _ _ _ _ _ _ _ _ _ _ _ _ _ _ _ _=>none) fun L=>Z5k L
noncomputable def Qtq (n m:Nat) (v2:List Qky) (v3 v4 v5 v6 v7 v8 v9 v10:Int) (v11:List Int) (v12 v13 v14 v15 v16:Int) (v17:List Qky) (v18:List Qyy):Option Qq9:=
 Qjv Zft tab (fiB [.box 141 Znh (nF 13++[true])] Z4k) n [.box 141 Znh (nF 13++[true])] [] Tryz.f113 [1,1,1,0] [] [0,28,29,30] m
 ⟨[(0,V1 (.ptr (0,0) 0)),(28,Vp t29 v2),(29,Vp t2 v3),(30,Vp t2 v4)],[((0,0),Ob.box 141 [LV.pure t2 v5,LV.pure t2 v6,LV.pure t2 v7,LV.pure t2 v8,LV.pure t2 v9,LV.pure t2 v10,LV.pure t28 v11,LV.pure t2 v12,LV.pure t2 v13,LV.pure t2 v14,LV.pure t2 v15,LV.pure t2 v16,LV.pure t29 v17,LV.ref (0,14)]),((0,14),Ob.row 46 t45 v18)]⟩
theorem Z2l (n:Nat):∀ m,Qtq n m=Z5e n m
 | 0=>rfl
 | m+1=>by rw [show Qtq n (m+1)=Z5k (Qtq n m) from by kernel_rfl,Z2l n m];rfl
noncomputable def Z6m (n:Nat) (n_0:Qt7 × List Qyy):Option Qq9:=Z6p (Z5e n n) n_0
noncomputable def Qy1 (n_0:Qt7 × List Qyy):Option Qq9:=Z6m 1099511627776 n_0
noncomputable def Zg1:Ent:=⟨[.box 141 Znh (nF 13++[true])],[],fun x=>Qy1 x.1⟩
theorem Zb3:GD 113 Zg1:=fnl Z4k (fun n x=>Z6m n x.1) (Qjy Z49 (Qjy Qnj Qk3)) Tryz.func113 fun n x=>Eq.trans (b:=Z6p (Qtq n n) x.1) (by kernel_rfl) (by rw [Z2l n n];rfl)
noncomputable def Zaw (r1:(Z20 × Unit) × Unit) (r2:(Z22 × Unit) × Unit):Option ((Qt7 × Z9c × Unit) × Unit):=
 Option.bind (Z09 ((e12 (u2 r1.1.1.1 (IntKind.wrap .i64 (r1.1.1.1.2.2.1+1))) r2.1.1),r1.1.1.2)) fun r9=>
 Option.bind (Qy1 r9.2.1) fun r10=>
 some ((r10.2.1.1,r10.2.1.2,()),())
noncomputable def Zgr (r1:(Z20 × Unit) × Unit) (r2:(Z22 × Unit) × Unit):Option ((Qt7 × Z9c × Unit) × Unit):=
 bif r1.1.1.1.1 != 1 then
  bif (g3 r1.1.1.1) != 0 then
   Option.bind (Z7s (e12 (u2 r1.1.1.1 (IntKind.wrap .i64 (r1.1.1.1.2.2.1+1))) r2.1.1)) fun r5=>
   bif !r5.1.1 then
    Option.bind (Qwf ((e12 (u2 r1.1.1.1 (IntKind.wrap .i64 (r1.1.1.1.2.2.1+1))) r2.1.1),r1.1.1.2) 0) fun r6=>
    Option.bind (Z09 r6.2.1) fun r7=>
    Option.bind (Qy1 r7.2.1) fun r8=>
    some ((r8.2.1.1,r8.2.1.2,()),())
   else
    Zaw r1 r2
  else
   Zaw r1 r2
 else
  Zaw r1 r2
noncomputable def Zoy (t_0:Int × Int × Int × Int × Int × Int × (List Int) × Int × Int × Int × Int × Int × List Qky):Option ((Qt7 × Z9c × Unit) × Unit):=
 Option.bind (Zqk t_0) fun r1=>
 Option.bind (Zkb (h12 r1.1.1.1) (IntKind.wrap .i64 (r1.1.1.1.2.2.1+1))) fun r2=>
 bif r1.1.1.1.1==1 then
  bif (Int.tmod (IntKind.wrap .i64 (r1.1.1.1.2.2.1+1)) 2)==0 then
   Option.bind (Z09 ((e12 (u8 (u7 (u2 r1.1.1.1 (IntKind.wrap .i64 (r1.1.1.1.2.2.1+1))) (IntKind.wrap .i64 ((g7 r1.1.1.1)+1))) (IntKind.wrap .i64 (r1.1.1.1.2.2.1+1))) r2.1.1),r1.1.1.2)) fun r3=>
   Option.bind (Qy1 r3.2.1) fun r4=>
   some ((r4.2.1.1,r4.2.1.2,()),())
  else
   Zgr r1 r2
 else
  Zgr r1 r2
noncomputable def Zkf:Ent:=⟨[.val t30],[⟨t30,(nF 13),none⟩,⟨t48,[true],none⟩],fun x=>Zoy x.1⟩
theorem Zkm:GD 56 Zkf:=fnk 1 (fo [[1,2,39,40,41,42,43,44,45,74,75,76,77,78,79,82,83,84,85,86,87],[2,4,39,40,41,42,43,44,45,74,75,76,77,78,79,82,83,84,85,86,87],[2,4,39,40,41,42,43,44,45,74,75,76,77,78,79,82,83,84,85,86,87],[2,4,39,40,41,42,43,44,45,74,75,76,77,78,79,82,83,84,85,86,87],[2,4,31,74,75,76,77,78,79,82,83,84,85,86,87],[2,4],[2,4,66],[2,4],[2,4],[2,4],[2,3]]) (Qjy Zgq (Qjy Qt5 (Qjy Zgi (Qjy Z49 (Qjy Zbi (Qjy Zb3 Qk3)))))) Tryz.func56
noncomputable def Zls (f_0:Int × Int × Qkz × Qkz × Qso × Int × Int):Option (((Int × Int) × Bool × Unit) × Unit):=
 bif decide (((g3 f_0).length:Int)>0) then
  Option.bind (Zh3 (g3 f_0)) fun r1=>
  bif f_0.1==0 then
   some (((0,0),false,()),())
  else
  bif decide (IntKind.wrap .i64 (r1.1.1 - 1)<f_0.1) then
   some (((0,0),false,()),())
  else
   some (((f_0.1,IntKind.wrap .i64 (r1.1.1 - 1)),true,()),())
 else
 bif f_0.1==0 then
  some (((0,0),false,()),())
 else
 bif decide (f_0.2.1<f_0.1) then
  some (((0,0),false,()),())
 else
  some (((f_0.1,f_0.2.1),true,()),())
noncomputable def Zob:Ent:=⟨[.val t36],[⟨t34,[false,false],none⟩,⟨t4,[false],none⟩],fun x=>Zls x.1⟩
theorem Zjb:GD 114 Zob:=fnk 1 (fo [[1,2,23,24,25,26,27],[1,2,4,23,24,25,26,27],[1,2,4,13,23,24,25,26,27],[1,2,4,23,24,25,26,27],[2,4,28],[2,3],[2,3]]) (Qjy Zad Qk3) Tryz.func114
noncomputable def Zop (a_0:Int × Int) (now_1:Int):Option ((Bool × Unit) × Unit):=
 bif a_0.1==0 then
  some ((true,()),())
 else
  some ((decide (now_1 ≥ a_0.2),()),())
noncomputable def Zpw:Ent:=⟨[.val t34,.val t2],[⟨t4,[false],none⟩],fun x=>Zop x.1 x.2.1⟩
theorem Zla:GD 115 Zpw:=fnk 1 (fo [[1,2,9,10,11,12],[4]]) Qk3 Tryz.func115
noncomputable def Zjr (a_0:Int × Int):Option ((Bool × Unit) × Unit):=
 some ((decide (a_0.1 ≥ 3),()),())
noncomputable def Zlo:Ent:=⟨[.val t34],[⟨t4,[false],none⟩],fun x=>Zjr x.1⟩
theorem Zhc:GD 117 Zlo:=fnk 1 (fo [[1],[2]]) Qk3 Tryz.func117
noncomputable def Zkg (a_0:Int × Int) (now_1:Int):Option (((Int × Int) × Unit) × Unit):=
 bif decide (0≤(if 0>(if 3<a_0.1 then 3 else a_0.1) then 0 else if 3<a_0.1 then 3 else a_0.1)) then
  some (((IntKind.wrap .i64 (a_0.1+1),IntKind.wrap .i64 (now_1+(IntKind.wrap .i64 (2*2 ^ (min ((if 0>(if 3<a_0.1 then 3 else a_0.1) then 0 else if 3<a_0.1 then 3 else a_0.1).toNat) 64))))),()),())
 else none
noncomputable def Zmj:Ent:=⟨[.val t34,.val t2],[⟨t34,[false,false],none⟩],fun x=>Zkg x.1 x.2.1⟩
theorem Zi3:GD 120 Zmj:=fnk 1 (fo [[1,2,4],[4]]) Qk3 Tryz.func120
noncomputable def Zm5 (f_0:Int × Int × Qkz × Qkz × Qso × Int × Int) (now_1:Int):Option ((Z2k × (Int × Int) × Bool × Unit) × Unit):=
 Option.bind (Zls f_0) fun r1=>
 bif !r1.1.2.1 then
  Option.bind (Qpl f_0) fun r2=>
  some ((r2.1.1,(0,0),false,()),())
 else
  Option.bind (Zop (h5 f_0) now_1) fun r3=>
  bif !r3.1.1 then
   Option.bind (Qpl f_0) fun r4=>
   some ((r4.1.1,(0,0),false,()),())
  else
   Option.bind (Zjr (h5 f_0)) fun r5=>
   bif r5.1.1 then
    Option.bind (Zic f_0 r1.1.1.2 2) fun r6=>
    Option.bind (Zgb r6.1.1) fun r7=>
    some ((r7.1.1,(0,0),false,()),())
   else
    Option.bind (Qpl f_0) fun r8=>
    Option.bind (Zkg (h5 r8.1.1) now_1) fun r9=>
    some (((e5 r8.1.1 r9.1.1),r1.1.1,true,()),())
noncomputable def Zie:Ent:=⟨[.val t36,.val t2],[⟨t36,(nF 7),none⟩,⟨t34,[false,false],none⟩,⟨t4,[false],none⟩],fun x=>Zm5 x.1 x.2.1⟩
theorem Zix:GD 57 Zie:=fnk 1 (fo [[1,2,4,5,18,19,20,21,22],[1,2,4,5,7,8,18,19,20,21,22],[1,2,4,5,7,14],[4,5,6],[1,2,4,5,7,27],[2,4,5],[2,4,5],[4,5,6],[1,2,4,5,7],[2,4,5,7],[4,5,6]]) (Qjy Zjb (Qjy Zla (Qjy Qsn (Qjy Zhc (Qjy Zac (Qjy Z5w (Qjy Zi3 Qk3))))))) Tryz.func57
abbrev Qxq:Type:=(Zrn × Z9c × Unit) × Unit
noncomputable def Zno:Ctx:=[(35,Zgk),(49,Zig),(56,Zkf),(57,Zie),(58,Z3o)]
def Zfb:Fi:=fo [[1,2],[1,2,4],[1,2,4,16],[2,3],[1,2,4,5,6],[1,2,4,6],[1,2,4,6,26,27,28],[1,2,4,6,26,27,28,29],[1,2,4,6,7,8,26,27,28],[1,2,4,6,7,26,27,28,35],[1,2,4,6,26,27,28],[1,2,4,6,26,27,28],[1,2,4,6,49],[2,3],[1,2,4,6,9,10,11],[1,2,4,6,10,11],[1,2,4,6,10,64],[1,2,4,6],[2,3]]
abbrev Z7k:Type:=Int→Int→Bool→Int→ByteArray→Int→Int→Int→Int→Int→Int→List Int→Int→Int→Int→Int→Int→Z22→Int→Int→Qkz→Qkz→Qso→Int→Int→Int→Int→ByteArray→Int→Int→Int→Int→Int→Int→Int→Int→Int→Int→Int→Int→Int→Int→Int→Int→List Int→Z22→Qkz→Qkz→Qso→Bool→Int→ByteArray→Int→Int→Int→Int→Int→Int→List Int→Int→Int→Int→Int→Int→Z22→Int→Int→Qkz→Qkz→Qso→Int→Int→Int→Z9c→Option Qxq
noncomputable def Zf6 (L1:Z7k) (v3 v4:Int) (v5:Bool) (v6:Int) (v7:ByteArray) (v8 v9 v10 v11 v12 v13:Int) (v14:List Int) (v15 v16 v17 v18 v19:Int) (v20:List Qky) (v21 v22:Int) (v23 v24:List Qla) (v25:List Qrq) (v26 v27 v28 v29:Int) (v30:ByteArray) (v31 v32 v33 v34 v35 v36 v37 v38 v39 v40 v41 v42 v43 v44 v45 v46:Int) (v47:List Int) (v48:List Qky) (v49 v50:List Qla) (v51:List Qrq) (v52:Bool) (v53:Int) (v54:ByteArray) (v55 v56 v57 v58 v59 v60:Int) (v61:List Int) (v62 v63 v64 v65 v66:Int) (v67:List Qky) (v68 v69:Int) (v70 v71:List Qla) (v72:List Qrq) (v73 v74 v75:Int) (v76:List Qyy):Option Qxq:=
 bif decide (v4<v3) then
  bif decide (0≤v4)&&decide (v4<(v76.length:Int)) then
   bif decide (0≤v4)&&decide (v4<(v76.length:Int)) then
    bif ((List.getD v76 v4.toNat Zje).1)==5 then
     bif decide (0≤v4)&&decide (v4<(v76.length:Int)) then
      bif decide (0≤v4)&&decide (v4<(v76.length:Int)) then
       L1 v3 (IntKind.wrap .i64 (v4+1)) v5 v6 v7 v8 v9 v10 v11 v12 v13 v14 v15 v16 v17 v18 v19 v20 v21 v22 v23 v24 v25 v26 v27 v28 v29 v30 v31 v32 v33 v34 v35 v36 v37 v38 v39 v40 v41 v42 v43 v44 v45 v46 v47 v48 v49 v50 v51 v52 v53 v54 v55 v56 v57 v58 v59 v60 v61 v62 v63 v64 v65 v66 v67 v68 v69 v70 v71 v72 v73 v74 v75 (List.set v76 v4.toNat ((List.getD v76 v4.toNat Zje).1,((List.getD v76 v4.toNat Zje).2).1,(((List.getD v76 v4.toNat Zje).2).2).1,((((List.getD v76 v4.toNat Zje).2).2).2).1,(((((List.getD v76 v4.toNat Zje).2).2).2).2).1,((((((List.getD v76 v4.toNat Zje).2).2).2).2).2).1,(((((((List.getD v76 v4.toNat Zje).2).2).2).2).2).2).1,((((((((List.getD v76 v4.toNat Zje).2).2).2).2).2).2).2).1,if 0>IntKind.wrap .i64 (v21 - 1) then 0 else IntKind.wrap .i64 (v21 - 1),(((((((((List.getD v76 v4.toNat Zje).2).2).2).2).2).2).2).2).2))
      else none
     else none
    else
     L1 v3 (IntKind.wrap .i64 (v4+1)) v5 v6 v7 v8 v9 v10 v11 v12 v13 v14 v15 v16 v17 v18 v19 v20 v21 v22 v23 v24 v25 v26 v27 v28 v29 v30 v31 v32 v33 v34 v35 v36 v37 v38 v39 v40 v41 v42 v43 v44 v45 v46 v47 v48 v49 v50 v51 v52 v53 v54 v55 v56 v57 v58 v59 v60 v61 v62 v63 v64 v65 v66 v67 v68 v69 v70 v71 v72 v73 v74 v75 v76
   else none
  else none
 else
 bif v58==0 then
  some (((v52,v53,v54,(v55,v56,v57,v58,v59,v60,v61,v62,v63,v64,v65,v66,v67),(v68,v69,v70,v71,v72,v73,v74),v75),v76,()),())
 else
  Option.bind (Zm5 (v21,v22,v23,v24,v25,v26,v27) v57) fun r77=>
  bif r77.1.2.2.1 then
   Option.bind (Z0i (v52,v53,v54,(v55,v56,v57,v58,v59,v60,v61,v62,v63,v64,v65,v66,v67),r77.1.1,v75) 8 v58 r77.1.2.1.1 r77.1.2.1.2 (⟨#[]⟩:ByteArray)) fun r78=>
   bif Nat.ble (v76.length+1) 1073741824 then
    Option.bind (Z5g (v52,v53,v54,(v55,v56,v57,v58,v59,v60,v61,v62,v63,v64,v65,v66,v67),r77.1.1,v75) (v21,v22,v23,v24,v25,v26,v27)) fun r79=>
    bif Nat.ble ((v76++[r78.1.1]).length+r79.1.1.length) 1073741824 then
     some (((v52,v53,v54,(v55,v56,v57,v58,v59,v60,v61,v62,v63,v64,v65,v66,v67),r77.1.1,v75),(v76++[r78.1.1])++r79.1.1,()),())
    else none
   else none
  else
   Option.bind (Z5g (v52,v53,v54,(v55,v56,v57,v58,v59,v60,v61,v62,v63,v64,v65,v66,v67),r77.1.1,v75) (v21,v22,v23,v24,v25,v26,v27)) fun r80=>
   bif Nat.ble (v76.length+r80.1.1.length) 1073741824 then
    some (((v52,v53,v54,(v55,v56,v57,v58,v59,v60,v61,v62,v63,v64,v65,v66,v67),r77.1.1,v75),v76++r80.1.1,()),())
   else none
noncomputable def Z64 (L1:Z7k) (n_0:Bool × Int × ByteArray × Qt7 × Z2k × Int):Option Qxq:=
 Option.bind (Qqp n_0) fun r1=>
 bif !n_0.1 then
  some ((r1.1.1,[],()),())
 else
  Option.bind (Zoy (g3 n_0)) fun r2=>
  L1 (r2.1.2.1.length:Int) 0 n_0.1 n_0.2.1 n_0.2.2.1 (g3 n_0).1 (g3 n_0).2.1 (g3 n_0).2.2.1 (g3 (g3 n_0)) (g4 (g3 n_0)) (g5 (g3 n_0)) (g6 (g3 n_0)) (g7 (g3 n_0)) (g8 (g3 n_0)) (g9 (g3 n_0)) (g10 (g3 n_0)) (g11 (g3 n_0)) (h12 (g3 n_0)) (g4 n_0).1 (g4 n_0).2.1 (g4 n_0).2.2.1 (g3 (g4 n_0)) (g4 (g4 n_0)) (g5 (g4 n_0)) (h6 (g4 n_0)) (h5 n_0) 0 (⟨#[]⟩:ByteArray) 0 0 0 0 0 0 0 0 0 0 0 0 0 0 0 0 [] [] [] [] [] r1.1.1.1 r1.1.1.2.1 r1.1.1.2.2.1 r2.1.1.1 r2.1.1.2.1 r2.1.1.2.2.1 (g3 r2.1.1) (g4 r2.1.1) (g5 r2.1.1) (g6 r2.1.1) (g7 r2.1.1) (g8 r2.1.1) (g9 r2.1.1) (g10 r2.1.1) (g11 r2.1.1) (h12 r2.1.1) (g4 r1.1.1).1 (g4 r1.1.1).2.1 (g4 r1.1.1).2.2.1 (g3 (g4 r1.1.1)) (g4 (g4 r1.1.1)) (g5 (g4 r1.1.1)) (h6 (g4 r1.1.1)) (h5 r1.1.1) r2.1.2.1
noncomputable def Z7r (n:Nat):Nat→Z7k:=iter (fun _ _ _ _ _ _ _ _ _ _ _ _ _ _ _ _ _ _ _ _ _ _ _ _ _ _ _ _ _ _ _ _ _ _ _ _ _ _ _ _ _ _ _ _ _ _ _ _ _ _ _ _ _ _ _ _ _ _ _ _ _ _ _ _ _ _ _ _ _ _ _ _ _ _=>none) fun L=>Zf6 L
noncomputable def Z3a (n m:Nat) (v3 v4:Int) (v5:Bool) (v6:Int) (v7:ByteArray) (v8 v9 v10 v11 v12 v13:Int) (v14:List Int) (v15 v16 v17 v18 v19:Int) (v20:List Qky) (v21 v22:Int) (v23 v24:List Qla) (v25:List Qrq) (v26 v27 v28 v29:Int) (v30:ByteArray) (v31 v32 v33 v34 v35 v36 v37 v38 v39 v40 v41 v42 v43 v44 v45 v46:Int) (v47:List Int) (v48:List Qky) (v49 v50:List Qla) (v51:List Qrq) (v52:Bool) (v53:Int) (v54:ByteArray) (v55 v56 v57 v58 v59 v60:Int) (v61:List Int) (v62 v63 v64 v65 v66:Int) (v67:List Qky) (v68 v69:Int) (v70 v71:List Qla) (v72:List Qrq) (v73 v74 v75:Int) (v76:List Qyy):Option Qxq:=
 Qjv Zno tab (fiB [.val t38] Zfb) n [.val t38] [⟨t38,(nF 24),none⟩,⟨t48,[true],none⟩] Tryz.f22 [1,1,1,1,1,0,1,0] [] [1,2,4,6,26,27,28] m
 ⟨[(1,V1 (.ptr (1,0) 0)),(2,V1 (.ptr (2,0) 0)),(4,V1 (.ptr (4,0) 0)),(6,V1 (.ref (888888,26))),(26,V1 (.ref (888888,26))),(27,Vp t2 v3),(28,Vp t2 v4)],[((1,0),Ob.box 39 [LV.pure t4 v5,LV.pure t2 v6,LV.pure t9 v7,LV.pure t2 v8,LV.pure t2 v9,LV.pure t2 v10,LV.pure t2 v11,LV.pure t2 v12,LV.pure t2 v13,LV.pure t28 v14,LV.pure t2 v15,LV.pure t2 v16,LV.pure t2 v17,LV.pure t2 v18,LV.pure t2 v19,LV.pure t29 v20,LV.pure t2 v21,LV.pure t2 v22,LV.pure t32 v23,LV.pure t32 v24,LV.pure t33 v25,LV.pure t2 v26,LV.pure t2 v27,LV.pure t2 v28]),((2,0),Ob.box 39 [LV.lit false,LV.pure t2 v29,LV.pure t9 v30,LV.pure t2 v31,LV.pure t2 v32,LV.pure t2 v33,LV.pure t2 v34,LV.pure t2 v35,LV.pure t2 v36,LV.ref (2,10),LV.pure t2 v37,LV.pure t2 v38,LV.pure t2 v39,LV.pure t2 v40,LV.pure t2 v41,LV.ref (2,16),LV.pure t2 v42,LV.pure t2 v43,LV.ref (2,19),LV.ref (2,20),LV.ref (2,21),LV.pure t2 v44,LV.pure t2 v45,LV.pure t2 v46]),((2,10),Ob.row 3 t2 v47),((2,16),Ob.row 53 t52 v48),((2,19),Ob.row 59 t58 v49),((2,20),Ob.row 59 t58 v50),((2,21),Ob.row 55 t54 v51),((4,0),Ob.box 39 [LV.pure t4 v52,LV.pure t2 v53,LV.pure t9 v54,LV.pure t2 v55,LV.pure t2 v56,LV.pure t2 v57,LV.pure t2 v58,LV.pure t2 v59,LV.pure t2 v60,LV.pure t28 v61,LV.pure t2 v62,LV.pure t2 v63,LV.pure t2 v64,LV.pure t2 v65,LV.pure t2 v66,LV.pure t29 v67,LV.pure t2 v68,LV.pure t2 v69,LV.pure t32 v70,LV.pure t32 v71,LV.pure t33 v72,LV.pure t2 v73,LV.pure t2 v74,LV.pure t2 v75]),((888888,26),Ob.row 46 t45 v76)]⟩
theorem Zcy (n:Nat):∀ m,Z3a n m=Z7r n m
 | 0=>rfl
 | m+1=>by rw [show Z3a n (m+1)=Zf6 (Z3a n m) from by kernel_rfl,Zcy n m];rfl
noncomputable def Zhe (n:Nat) (n_0:Bool × Int × ByteArray × Qt7 × Z2k × Int):Option Qxq:=Z64 (Z7r n n) n_0
noncomputable def Zh7 (n_0:Bool × Int × ByteArray × Qt7 × Z2k × Int):Option Qxq:=Zhe 1099511627776 n_0
noncomputable def Zhr:Ent:=⟨[.val t38],[⟨t38,(nF 24),none⟩,⟨t48,[true],none⟩],fun x=>Zh7 x.1⟩
theorem Zj5:GD 22 Zhr:=fnl Zfb (fun n x=>Zhe n x.1) (Qjy Quq (Qjy Z47 (Qjy Zkm (Qjy Zix (Qjy Z1r Qk3))))) Tryz.func22 fun n x=>Eq.trans (b:=Z64 (Z3a n n) x.1) (by kernel_rfl) (by rw [Zcy n n];rfl)
abbrev Ql8:Type:=(Bool × Unit) × Unit
noncomputable def Z74:Ctx:=[(10,Z0q),(11,Z4l),(15,Qx7),(16,Z3b),(17,Qsq),(18,Zeq),(19,Qud),(20,Qyh),(21,Z0s),(22,Zhr)]
def Qwb:Fi:=fo [[0,1,2,3,32,33,34,37,38,39,99,100,101,102,122,123,124,125,150,151,152,153,156,157,158,159],[0,1,2,3,27,32,33,34,37,38,39,99,100,101,102,122,123,124,125,150,151,152,153,156,157,158,159],[8],[0,1,2,3,40,99,100,101,102,122,123,124,125,150,151,152,153,156,157,158,159],[8],[0,1,2,9,99,100,101,102,122,123,124,125,150,151,152,153,156,157,158,159],[1,2,9,10,99,100,101,102,122,123,124,125,150,151,152,153,156,157,158,159],[1,2,9,10,11,99,100,101,102,122,123,124,125,150,151,152,153,156,157,158,159],[1,2,9,10,12,99,100,101,102,122,123,124,125,150,151,152,153,156,157,158,159],[2,9,10,12,13,99,100,101,102,122,123,124,125,150,151,152,153,156,157,158,159],[2,9,10,12,13,99,100,101,102,122,123,124,125,150,151,152,153,156,157,158,159],[9,10,14,99,100,101,102,122,123,124,125,150,151,152,153,156,157,158,159],[9,10,14,15,99,100,101,102,122,123,124,125,150,151,152,153,156,157,158,159],[9,10,14,15,86,99,100,101,102,122,123,124,125,150,151,152,153,156,157,158,159],[9,10,14,15,99,100,101,102,122,123,124,125,150,151,152,153,156,157,158,159],[9,10,14,15,16,17,99,100,101,102,122,123,124,125,150,151,152,153,156,157,158,159],[9,10,14,15,99,100,101,102,103,122,123,124,125,150,151,152,153,156,157,158,159],[9,10,14,15,18,19,99,100,101,102,122,123,124,125,150,151,152,153,156,157,158,159],[9,10,14,15,18,19,20,99,100,101,102,122,123,124,125,150,151,152,153,156,157,158,159],[9,10,14,15,18,19,20,99,100,101,102,122,123,124,125,150,151,152,153,156,157,158,159],[9,10,14,15,99,100,101,102,122,123,124,125,126,150,151,152,153,156,157,158,159],[8],[9,10,14,15,21,99,100,101,102,122,123,124,125,150,151,152,153,156,157,158,159],[9,10,14,15,21,22,23,99,100,101,102,122,123,124,125,150,151,152,153,156,157,158,159],[9,10,14,15,21,22,23,24,25,99,100,101,102,122,123,124,125,150,151,152,153,156,157,158,159],[9,10,14,15,99,100,101,102,122,123,124,125,150,151,152,153,156,157,158,159,160],[8],[8]]
abbrev Qp1:Type:=Int→Int→Bool→Int→ByteArray→Int→Int→Int→Int→Int→Int→List Int→Int→Int→Int→Int→Int→Z22→Int→Int→Qkz→Qkz→Qso→Int→Int→Int→List (List Int)→Option Ql8
noncomputable def Qp5 (v10:Int) (v35:List (List Int)) (v11:Bool) (v12:Int) (v13:ByteArray) (v14 v15 v16 v17 v18 v19:Int) (v20:List Int) (v21 v22 v23 v24 v25:Int) (v26:List Qky) (v27 v28:Int) (v29 v30:List Qla) (v31:List Qrq) (v32 v33 v34:Int) (L1:Qp1) (v9:Int):Option Ql8:=
 bif decide (0≤v10)&&decide (v10<(v35.length:Int)) then
  bif decide (0≤v10)&&decide (v10<(v35.length:Int)) then
   Option.bind (Qtv (v11,v12,v13,(v14,v15,v16,v17,v18,v19,v20,v21,v22,v23,v24,v25,v26),(v27,v28,v29,v30,v31,v32,v33),v34) (List.getD v35 v10.toNat [])) fun r37=>
   bif (r37.1.2.1.length:Int) != 0 then
    some ((false,()),())
   else
    Option.bind (Qm1 r37.1.1 (v11,v12,v13,(v14,v15,v16,v17,v18,v19,v20,v21,v22,v23,v24,v25,v26),(v27,v28,v29,v30,v31,v32,v33),IntKind.wrap .i64 (v34+1))) fun r38=>
    bif !r38.1.1 then
     some ((false,()),())
    else
     Option.bind (Qrn (v11,v12,v13,(v14,v15,v16,v17,v18,v19,v20,v21,v22,v23,v24,v25,v26),(v27,v28,v29,v30,v31,v32,v33),v34)) fun r39=>
     bif decide (0≤v10)&&decide (v10<(v35.length:Int)) then
      bif decide (0≤v10)&&decide (v10<(v35.length:Int)) then
       Option.bind (Qtv r39.1.1 (List.getD v35 v10.toNat [])) fun r40=>
       Option.bind (Zh7 r39.1.1) fun r41=>
       bif (IntKind.wrap .i64 ((r40.1.2.1.length:Int)+(r41.1.2.1.length:Int))) != 0 then
        some ((false,()),())
       else
        Option.bind (Qm1 r40.1.1 r39.1.1) fun r42=>
        bif !r42.1.1 then
         some ((false,()),())
        else
         Option.bind (Qm1 r41.1.1 r39.1.1) fun r43=>
         bif !r43.1.1 then
          some ((false,()),())
         else
          L1 v9 (IntKind.wrap .i64 (v10+1)) v11 v12 v13 v14 v15 v16 v17 v18 v19 v20 v21 v22 v23 v24 v25 v26 v27 v28 v29 v30 v31 v32 v33 v34 v35
      else none
     else none
  else none
 else none
noncomputable def Qls (L1:Qp1) (v9 v10:Int) (v11:Bool) (v12:Int) (v13:ByteArray) (v14 v15 v16 v17 v18 v19:Int) (v20:List Int) (v21 v22 v23 v24 v25:Int) (v26:List Qky) (v27 v28:Int) (v29 v30:List Qla) (v31:List Qrq) (v32 v33 v34:Int) (v35:List (List Int)):Option Ql8:=
 bif decide (v10<3) then
  bif decide (0≤v10)&&decide (v10<(v35.length:Int)) then
   bif decide (0≤v10)&&decide (v10<(v35.length:Int)) then
    Option.bind (Qv7 (List.getD v35 v10.toNat [])) fun r36=>
    bif r36.1.2.1 then
     bif r36.1.1.2.2.1==v9 then
      L1 v9 (IntKind.wrap .i64 (v10+1)) v11 v12 v13 v14 v15 v16 v17 v18 v19 v20 v21 v22 v23 v24 v25 v26 v27 v28 v29 v30 v31 v32 v33 v34 v35
     else
      Qp5 v10 v35 v11 v12 v13 v14 v15 v16 v17 v18 v19 v20 v21 v22 v23 v24 v25 v26 v27 v28 v29 v30 v31 v32 v33 v34 L1 v9
    else
     Qp5 v10 v35 v11 v12 v13 v14 v15 v16 v17 v18 v19 v20 v21 v22 v23 v24 v25 v26 v27 v28 v29 v30 v31 v32 v33 v34 L1 v9
   else none
  else none
 else
  some ((true,()),())
noncomputable def Qq5 (L1:Qp1) (arr_0 x_1 x_2:List Int) (x_3:Int):Option Ql8:=
 Option.bind (Qxy) fun r1=>
 bif !r1.1.1 then
  some ((false,()),())
 else
 bif decide ((arr_0.length:Int)>150) then
  some ((true,()),())
 else
 bif decide ((x_1.length:Int)>15) then
  some ((true,()),())
 else
 bif decide ((x_2.length:Int)>60) then
  some ((true,()),())
 else
  Option.bind (Quy arr_0 (IntKind.wrap .i64 (1+(IntKind.wrap .i64 (Int.tmod x_3 8))))) fun r2=>
  Option.bind (Qrk x_1) fun r3=>
  Option.bind (Qkj r3.1.1 (IntKind.wrap .i64 (1+(Int.tmod (IntKind.wrap .i64 (1+(IntKind.wrap .i64 (Int.tmod x_3 8)))) 8)))) fun r4=>
  Option.bind (Qmu r4.1.1) fun r5=>
  Option.bind (Qrk x_1) fun r6=>
  Option.bind (Qkj r6.1.1 (IntKind.wrap .i64 (1+(IntKind.wrap .i64 (Int.tmod x_3 8))))) fun r7=>
  Option.bind (Qmu r7.1.1) fun r8=>
  bif Nat.ble (0+r8.1.1.length) 1073741824 then
   bif !((([]++r8.1.1).length:Int)==0) then
    bif decide (0≤IntKind.wrap .i64 ((IntKind.wrap .i64 ((([]++r8.1.1).length:Int) - 1)) - (Int.tmod (x_2.length:Int) (([]++r8.1.1).length:Int))))&&decide (IntKind.wrap .i64 ((IntKind.wrap .i64 ((([]++r8.1.1).length:Int) - 1)) - (Int.tmod (x_2.length:Int) (([]++r8.1.1).length:Int)))<(([]++r8.1.1).length:Int)) then
     bif decide (0≤IntKind.wrap .i64 ((IntKind.wrap .i64 ((([]++r8.1.1).length:Int) - 1)) - (Int.tmod (x_2.length:Int) (([]++r8.1.1).length:Int))))&&decide (IntKind.wrap .i64 ((IntKind.wrap .i64 ((([]++r8.1.1).length:Int) - 1)) - (Int.tmod (x_2.length:Int) (([]++r8.1.1).length:Int)))<(([]++r8.1.1).length:Int)) then
      bif decide (0≤IntKind.wrap .i64 ((IntKind.wrap .i64 ((([]++r8.1.1).length:Int) - 1)) - (Int.tmod (x_2.length:Int) (([]++r8.1.1).length:Int))))&&decide (IntKind.wrap .i64 ((IntKind.wrap .i64 ((([]++r8.1.1).length:Int) - 1)) - (Int.tmod (x_2.length:Int) (([]++r8.1.1).length:Int)))<(([]++r8.1.1).length:Int)) then
       bif decide (0≤IntKind.wrap .i64 ((IntKind.wrap .i64 ((([]++r8.1.1).length:Int) - 1)) - (Int.tmod (x_2.length:Int) (([]++r8.1.1).length:Int))))&&decide (IntKind.wrap .i64 ((IntKind.wrap .i64 ((([]++r8.1.1).length:Int) - 1)) - (Int.tmod (x_2.length:Int) (([]++r8.1.1).length:Int)))<(([]++r8.1.1).length:Int)) then
        L1 (IntKind.wrap .i64 (1+(IntKind.wrap .i64 (Int.tmod x_3 8)))) 0 r2.1.1.1 r2.1.1.2.1 r2.1.1.2.2.1 (g3 r2.1.1).1 (g3 r2.1.1).2.1 (g3 r2.1.1).2.2.1 (g3 (g3 r2.1.1)) (g4 (g3 r2.1.1)) (g5 (g3 r2.1.1)) (g6 (g3 r2.1.1)) (g7 (g3 r2.1.1)) (g8 (g3 r2.1.1)) (g9 (g3 r2.1.1)) (g10 (g3 r2.1.1)) (g11 (g3 r2.1.1)) (h12 (g3 r2.1.1)) (g4 r2.1.1).1 (g4 r2.1.1).2.1 (g4 r2.1.1).2.2.1 (g3 (g4 r2.1.1)) (g4 (g4 r2.1.1)) (g5 (g4 r2.1.1)) (h6 (g4 r2.1.1)) (h5 r2.1.1) [x_2,r5.1.1,List.set ([]++r8.1.1) ((IntKind.wrap .i64 ((IntKind.wrap .i64 ((([]++r8.1.1).length:Int) - 1)) - (Int.tmod (x_2.length:Int) (([]++r8.1.1).length:Int)))).toNat) (IntKind.wrap .u8 ((BitVec.ofInt 8 (List.getD ([]++r8.1.1) ((IntKind.wrap .i64 ((IntKind.wrap .i64 ((([]++r8.1.1).length:Int) - 1)) - (Int.tmod (x_2.length:Int) (([]++r8.1.1).length:Int)))).toNat) 0) ^^^ BitVec.ofInt 8 (IntKind.wrap .u8 (1+(IntKind.wrap .u8 (x_2.length:Int))))).toNat))]
       else none
      else none
     else none
    else none
   else none
  else none
noncomputable def Ql0 (n:Nat):Nat→Qp1:=iter (fun _ _ _ _ _ _ _ _ _ _ _ _ _ _ _ _ _ _ _ _ _ _ _ _ _ _ _=>none) fun L=>Qls L
noncomputable def Qp0 (n m:Nat) (v9 v10:Int) (v11:Bool) (v12:Int) (v13:ByteArray) (v14 v15 v16 v17 v18 v19:Int) (v20:List Int) (v21 v22 v23 v24 v25:Int) (v26:List Qky) (v27 v28:Int) (v29 v30:List Qla) (v31:List Qrq) (v32 v33 v34:Int) (v35:List (List Int)):Option Ql8:=
 Qjv Z74 tab (fiB [.val t25,.val t25,.val t25,.val t5] Qwb) n [.val t25,.val t25,.val t25,.val t5] [⟨t4,[false],none⟩] Tryz.f7 [1,1,1,1,1,1,1,1,1,1,0,1,0] [] [9,10,14,15] m
 ⟨[(9,Vp t2 v9),(10,V1 (.ptr (10,0) 0)),(14,V1 (.ref (888888,14))),(15,Vp t2 v10)],[((10,0),Ob.box 39 [LV.pure t4 v11,LV.pure t2 v12,LV.pure t9 v13,LV.pure t2 v14,LV.pure t2 v15,LV.pure t2 v16,LV.pure t2 v17,LV.pure t2 v18,LV.pure t2 v19,LV.pure t28 v20,LV.pure t2 v21,LV.pure t2 v22,LV.pure t2 v23,LV.pure t2 v24,LV.pure t2 v25,LV.pure t29 v26,LV.pure t2 v27,LV.pure t2 v28,LV.pure t32 v29,LV.pure t32 v30,LV.pure t33 v31,LV.pure t2 v32,LV.pure t2 v33,LV.pure t2 v34]),((888888,14),Ob.row 25 t25 v35)]⟩
theorem Qvw (n:Nat):∀ m,Qp0 n m=Ql0 n m
 | 0=>rfl
 | m+1=>by rw [show Qp0 n (m+1)=Qls (Qp0 n m) from by kernel_rfl,Qvw n m];rfl
noncomputable def Qxd (n:Nat) (arr_0 x_1 x_2:List Int) (x_3:Int):Option Ql8:=Qq5 (Ql0 n n) arr_0 x_1 x_2 x_3
noncomputable def Qre (arr_0 x_1 x_2:List Int) (x_3:Int):Option Ql8:=Qxd 1099511627776 arr_0 x_1 x_2 x_3
noncomputable def Z7f:Ent:=⟨[.val t25,.val t25,.val t25,.val t5],[⟨t4,[false],none⟩],fun x=>Qre x.1 x.2.1 x.2.2.1 x.2.2.2.1⟩
theorem Z40:GD 7 Z7f:=fnl Qwb (fun n x=>Qxd n x.1 x.2.1 x.2.2.1 x.2.2.2.1) (Qjy Z7b (Qjy Qzr (Qjy Z3x (Qjy Z89 (Qjy Qup (Qjy Z8p (Qjy Qwm (Qjy Z4c (Qjy Z6y (Qjy Zj5 Qk3)))))))))) Tryz.func7 fun n x=>Eq.trans (b:=Qq5 (Qp0 n n) x.1 x.2.1 x.2.2.1 x.2.2.2.1) (by kernel_rfl) (by rw [Qvw n n];rfl)
noncomputable def Z1l (f_0:Int × Int × Qkz × Qkz × Qso × Int × Int) (text_1:ByteArray):Option ((Z2k × Bool × Unit) × Unit):=
 bif decide ((text_1.size:Int)>12) then
  some ((f_0,false,()),())
 else
 bif decide ((if 1>f_0.1 then 1 else f_0.1)>1000000) then
  some ((f_0,false,()),())
 else
  Option.bind (Qqa (g4 f_0) (if 1>f_0.1 then 1 else f_0.1) text_1) fun r1=>
  Option.bind (Qng f_0.2.2.1 (if 1>f_0.1 then 1 else f_0.1,text_1)) fun r2=>
  some (((u4 (u2 (u1 (u0 f_0 (IntKind.wrap .i64 ((if 1>f_0.1 then 1 else f_0.1)+1))) (if 1>f_0.1 then 1 else f_0.1)) r2.1.1) r1.1.1),true,()),())
noncomputable def Zdi:Ent:=⟨[.val t36,.val t9],[⟨t36,(nF 7),none⟩,⟨t4,[false],none⟩],fun x=>Z1l x.1 x.2.1⟩
theorem Znj:GD 64 Zdi:=fnk 1 (fo [[1,2,4,14,15],[1,2,4,6,14,15],[1,2,4,6,16],[4,5],[2,4,6],[2,4],[4,5]]) (Qjy Qya (Qjy Qvn Qk3)) Tryz.func64
end Go.PE
