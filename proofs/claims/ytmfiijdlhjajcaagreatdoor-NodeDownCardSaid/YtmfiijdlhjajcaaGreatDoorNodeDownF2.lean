/-
  Functions of the program, each as the evaluator answers it, and its contract.
  Conditions: none.
-/
import Derived.Test.YtmfiijdlhjajcaaGreatDoorNodeDownF1
set_option linter.unusedVariables false
set_option maxRecDepth 100000
namespace Go.PE
open Go.Proofs
noncomputable def Qld (t_0:Int × Int × Int × Int × Int × Int × (List Int) × Int × Int × Int × Int × Int × List Qlf):Option ((Bool × Unit) × Unit):=
 bif t_0.1==1 then
  some ((true,()),())
 else
 bif (g3 t_0) != 0 then
  some ((decide (IntKind.wrap .i64 (t_0.2.2.1 - (g8 t_0))≤20),()),())
 else
  some ((false,()),())
noncomputable def Z17:Ent:=⟨[.val t30],[⟨t4,[false],none⟩],fun x=>Qld x.1⟩
theorem Qx1:GD 124 Z17:=fnk 1 (fo [[1,7,8,9,10,11,12,13,14,15,16,17],[2]]) Qk3 Tryz.func124
noncomputable def Qla (t_0:Int × Int × Int × Int × Int × Int × (List Int) × Int × Int × Int × Int × Int × List Qlf) (step_1:Int):Option ((Qwg × Unit) × Unit):=
 some (((u11 (u9 (u6 (u4 (u3 t_0 0) 0) []) 0) step_1),()),())
noncomputable def Z38:Ent:=⟨[.val t30,.val t2],[⟨t30,(nF 13),none⟩],fun x=>Qla x.1 x.2.1⟩
theorem Qz4:GD 125 Z38:=fnk 1 (fo [[1,2,4],[2,4],[4]]) Qk3 Tryz.func125
noncomputable def Qk6 (t_0:Int × Int × Int × Int × Int × Int × (List Int) × Int × Int × Int × Int × Int × List Qlf) (kind_1 to_2:Int):Option ((Z18 × Unit) × Unit):=
 some (((kind_1,t_0.1,to_2,t_0.2.1,0,0,[],0,0,(⟨#[]⟩:ByteArray)),()),())
noncomputable def Z1k:Ent:=⟨[.val t30,.val t2,.val t2],[⟨t45,(nF 6++[true,false,false,false]),none⟩],fun x=>Qk6 x.1 x.2.1 x.2.2.1⟩
theorem Qpy:GD 62 Z1k:=fnk 1 (fo [[1,2,3,6],[6]]) Qk3 Tryz.func62
noncomputable def Qn5 (t_0:Int × Int × Int × Int × Int × Int × (List Int) × Int × Int × Int × Int × Int × List Qlf) (kind_1 to_2:Int):Option ((Z18 × Unit) × Unit):=
 Option.bind (Qk6 t_0 kind_1 to_2) fun r1=>
 bif Nat.ble (0+(g6 t_0).length) 1073741824 then
  some (((u6 (u5 (u4 r1.1.1 (g7 t_0)) (IntKind.wrap .i64 (t_0.2.2.1 - (g8 t_0)))) ([]++(g6 t_0))),()),())
 else none
noncomputable def Z1j:Ent:=⟨[.val t30,.val t2,.val t2],[⟨t45,(nF 6++[true,false,false,false]),none⟩],fun x=>Qn5 x.1 x.2.1 x.2.2.1⟩
theorem Qxx:GD 126 Z1j:=fnk 1 (fo [[1,2,3,6],[3,6,7],[6,7],[6]]) (Qjy Qpy Qk3) Tryz.func126
abbrev Qkc:Type:=(Qwg × Zau × Unit) × Unit
noncomputable def Z2b:Ctx:=[(62,Z1k),(123,Z2o),(124,Z17),(125,Z38),(126,Z1j)]
def Quw:Fi:={ keep:=[],vty:=[(5,48)],vals:=[],live:=[(0,[1,2,36,37,38,49,50,51,52,53,72,73,74,77,78,79,80,81,113,114]),(1,[1,2,36,37,38,49,50,51,52,53,72,73,74,77,78,79,80,81,113,114]),(2,[1,2,36,37,38,49,50,51,52,53,72,73,74,77,78,79,80,81,113,114]),(3,[1,2,4,36,37,38,49,50,51,52,53,72,73,74,77,78,79,80,81,113,114]),(4,[1,2,4,5,36,37,38,49,50,51,52,53,72,73,74,77,78,79,80,81,113,114]),(5,[1,2,4,5,23,36,37,38,49,50,51,52,53,72,73,74,77,78,79,80,81,113,114]),(6,[1,2,4,5,24,113,114]),(7,[1,2,4,5,113,114]),(8,[1,2,4,5,39,49,50,51,52,53,72,73,74,77,78,79,80,81,113,114]),(9,[1,2,4,5,49,50,51,52,53,72,73,74,77,78,79,80,81,113,114]),(10,[1,2,4,5,44,49,50,51,52,53,72,73,74,77,78,79,80,81,113,114]),(11,[1,2,4,5,54,72,73,74,77,78,79,80,81,113,114]),(12,[1,2,4,5,72,73,74,77,78,79,80,81,113,114]),(13,[1,2,4,5,62,72,73,74,77,78,79,80,81,113,114]),(14,[1,2,4,5,72,73,74,77,78,79,80,81,113,114]),(15,[1,2,4,5,82,113,114]),(16,[1,2,4,5,113,114]),(17,[1,2,4,5,113,114]),(18,[1,2,5,94,113,114]),(19,[2,3]),(20,[1,2,5,99,113,114]),(21,[1,2,5,113,114]),(22,[1,2,5,6,113,114]),(23,[1,2,5,6,113,114,115]),(24,[1,2,5,6,113,114]),(25,[1,2,5,6,113,114]),(26,[2,3])] }
abbrev Qkb:Type:=Int→Int→Int→Int→Int→Int→Int→List Int→Int→Int→Int→Int→Int→Z63→Int→Int→Int→Int→Int→Int→Int→Int→Int→Int→Int→List Int→Z63→Zau→Option Qkc
noncomputable def Qpi (arr_0:Int × Int × Int × Int × Int × Int × (List Int) × Int × Int × Int × Int × Int × List Qlf) (r1:(Z63 × Unit) × Unit) (L1:Qkb):Option Qkc:=
 bif !((Int.tmod (IntKind.wrap .i64 (arr_0.2.2.1+1)) 2)==0) then
  some (((e12 (u2 arr_0 (IntKind.wrap .i64 (arr_0.2.2.1+1))) r1.1.1),[],()),())
 else
 bif (g3 arr_0) != 0 then
  Option.bind (Qk6 (e12 (u2 arr_0 (IntKind.wrap .i64 (arr_0.2.2.1+1))) r1.1.1) 4 (g3 arr_0)) fun r33=>
  L1 0 arr_0.1 arr_0.2.1 (IntKind.wrap .i64 (arr_0.2.2.1+1)) (g3 arr_0) (g4 arr_0) (g5 arr_0) (g6 arr_0) (g7 arr_0) (g8 arr_0) (g9 arr_0) (g10 arr_0) (g11 arr_0) r1.1.1 0 0 0 0 0 0 0 0 0 0 0 [] [] [r33.1.1]
 else
  L1 0 arr_0.1 arr_0.2.1 (IntKind.wrap .i64 (arr_0.2.2.1+1)) (g3 arr_0) (g4 arr_0) (g5 arr_0) (g6 arr_0) (g7 arr_0) (g8 arr_0) (g9 arr_0) (g10 arr_0) (g11 arr_0) r1.1.1 0 0 0 0 0 0 0 0 0 0 0 [] [] []
noncomputable def Qut (r35:(Qwg × Unit) × Unit) (arr_0:Int × Int × Int × Int × Int × Int × (List Int) × Int × Int × Int × Int × Int × List Qlf) (L2:Qkb):Option Qkc:=
 Option.bind (Qk6 (u11 (u10 (u9 r35.1.1 1) (IntKind.wrap .i64 (r35.1.1.2.2.1+3))) (IntKind.wrap .i64 ((g11 r35.1.1)+1))) 1 1) fun r68=>
 bif !((Int.tmod (IntKind.wrap .i64 (arr_0.2.2.1+1)) 2)==0) then
  some (((u11 (u10 (u9 r35.1.1 1) (IntKind.wrap .i64 (r35.1.1.2.2.1+3))) (IntKind.wrap .i64 ((g11 r35.1.1)+1))),[r68.1.1],()),())
 else
 bif (g3 r35.1.1) != 0 then
  Option.bind (Qk6 (u11 (u10 (u9 r35.1.1 1) (IntKind.wrap .i64 (r35.1.1.2.2.1+3))) (IntKind.wrap .i64 ((g11 r35.1.1)+1))) 4 (g3 r35.1.1)) fun r69=>
  L2 0 r35.1.1.1 r35.1.1.2.1 r35.1.1.2.2.1 (g3 r35.1.1) (g4 r35.1.1) (g5 r35.1.1) (g6 r35.1.1) (g7 r35.1.1) (g8 r35.1.1) 1 (IntKind.wrap .i64 (r35.1.1.2.2.1+3)) (IntKind.wrap .i64 ((g11 r35.1.1)+1)) (h12 r35.1.1) 0 0 0 0 0 0 0 0 0 0 0 [] [] [r68.1.1,r69.1.1]
 else
  L2 0 r35.1.1.1 r35.1.1.2.1 r35.1.1.2.2.1 (g3 r35.1.1) (g4 r35.1.1) (g5 r35.1.1) (g6 r35.1.1) (g7 r35.1.1) (g8 r35.1.1) 1 (IntKind.wrap .i64 (r35.1.1.2.2.1+3)) (IntKind.wrap .i64 ((g11 r35.1.1)+1)) (h12 r35.1.1) 0 0 0 0 0 0 0 0 0 0 0 [] [] [r68.1.1]
noncomputable def Qpk (r35:(Qwg × Unit) × Unit) (arr_0:Int × Int × Int × Int × Int × Int × (List Int) × Int × Int × Int × Int × Int × List Qlf) (L2:Qkb):Option Qkc:=
 Option.bind (Qk6 (u10 (u9 r35.1.1 1) (IntKind.wrap .i64 (r35.1.1.2.2.1+3))) 1 1) fun r76=>
 bif !((Int.tmod (IntKind.wrap .i64 (arr_0.2.2.1+1)) 2)==0) then
  some (((u10 (u9 r35.1.1 1) (IntKind.wrap .i64 (r35.1.1.2.2.1+3))),[r76.1.1],()),())
 else
 bif (g3 r35.1.1) != 0 then
  Option.bind (Qk6 (u10 (u9 r35.1.1 1) (IntKind.wrap .i64 (r35.1.1.2.2.1+3))) 4 (g3 r35.1.1)) fun r77=>
  L2 0 r35.1.1.1 r35.1.1.2.1 r35.1.1.2.2.1 (g3 r35.1.1) (g4 r35.1.1) (g5 r35.1.1) (g6 r35.1.1) (g7 r35.1.1) (g8 r35.1.1) 1 (IntKind.wrap .i64 (r35.1.1.2.2.1+3)) (g11 r35.1.1) (h12 r35.1.1) 0 0 0 0 0 0 0 0 0 0 0 [] [] [r76.1.1,r77.1.1]
 else
  L2 0 r35.1.1.1 r35.1.1.2.1 r35.1.1.2.2.1 (g3 r35.1.1) (g4 r35.1.1) (g5 r35.1.1) (g6 r35.1.1) (g7 r35.1.1) (g8 r35.1.1) 1 (IntKind.wrap .i64 (r35.1.1.2.2.1+3)) (g11 r35.1.1) (h12 r35.1.1) 0 0 0 0 0 0 0 0 0 0 0 [] [] [r76.1.1]
noncomputable def Z02 (arr_0:Int × Int × Int × Int × Int × Int × (List Int) × Int × Int × Int × Int × Int × List Qlf) (r35:(Qwg × Unit) × Unit) (L2:Qkb):Option Qkc:=
 bif !((Int.tmod (IntKind.wrap .i64 (arr_0.2.2.1+1)) 2)==0) then
  some ((r35.1.1,[],()),())
 else
 bif (g3 r35.1.1) != 0 then
  Option.bind (Qk6 r35.1.1 4 (g3 r35.1.1)) fun r82=>
  L2 0 r35.1.1.1 r35.1.1.2.1 r35.1.1.2.2.1 (g3 r35.1.1) (g4 r35.1.1) (g5 r35.1.1) (g6 r35.1.1) (g7 r35.1.1) (g8 r35.1.1) (g9 r35.1.1) (g10 r35.1.1) (g11 r35.1.1) (h12 r35.1.1) 0 0 0 0 0 0 0 0 0 0 0 [] [] [r82.1.1]
 else
  L2 0 r35.1.1.1 r35.1.1.2.1 r35.1.1.2.2.1 (g3 r35.1.1) (g4 r35.1.1) (g5 r35.1.1) (g6 r35.1.1) (g7 r35.1.1) (g8 r35.1.1) (g9 r35.1.1) (g10 r35.1.1) (g11 r35.1.1) (h12 r35.1.1) 0 0 0 0 0 0 0 0 0 0 0 [] [] []
noncomputable def Quq (r35:(Qwg × Unit) × Unit) (arr_0:Int × Int × Int × Int × Int × Int × (List Int) × Int × Int × Int × Int × Int × List Qlf) (L2:Qkb):Option Qkc:=
 bif (g9 r35.1.1)==0 then
  bif (g11 r35.1.1)==0 then
   bif (g5 r35.1.1) != 0 then
    bif (g5 r35.1.1) != r35.1.1.1 then
     Option.bind (Qk6 (u10 (u9 r35.1.1 (g5 r35.1.1)) (IntKind.wrap .i64 (r35.1.1.2.2.1+3))) 1 (g5 r35.1.1)) fun r74=>
     bif !((Int.tmod (IntKind.wrap .i64 (arr_0.2.2.1+1)) 2)==0) then
      some (((u10 (u9 r35.1.1 (g5 r35.1.1)) (IntKind.wrap .i64 (r35.1.1.2.2.1+3))),[r74.1.1],()),())
     else
     bif (g3 r35.1.1) != 0 then
      Option.bind (Qk6 (u10 (u9 r35.1.1 (g5 r35.1.1)) (IntKind.wrap .i64 (r35.1.1.2.2.1+3))) 4 (g3 r35.1.1)) fun r75=>
      L2 0 r35.1.1.1 r35.1.1.2.1 r35.1.1.2.2.1 (g3 r35.1.1) (g4 r35.1.1) (g5 r35.1.1) (g6 r35.1.1) (g7 r35.1.1) (g8 r35.1.1) (g5 r35.1.1) (IntKind.wrap .i64 (r35.1.1.2.2.1+3)) (g11 r35.1.1) (h12 r35.1.1) 0 0 0 0 0 0 0 0 0 0 0 [] [] [r74.1.1,r75.1.1]
     else
      L2 0 r35.1.1.1 r35.1.1.2.1 r35.1.1.2.2.1 (g3 r35.1.1) (g4 r35.1.1) (g5 r35.1.1) (g6 r35.1.1) (g7 r35.1.1) (g8 r35.1.1) (g5 r35.1.1) (IntKind.wrap .i64 (r35.1.1.2.2.1+3)) (g11 r35.1.1) (h12 r35.1.1) 0 0 0 0 0 0 0 0 0 0 0 [] [] [r74.1.1]
    else
     Qpk r35 arr_0 L2
   else
    Qpk r35 arr_0 L2
  else
   Qpk r35 arr_0 L2
 else
  Z02 arr_0 r35 L2
noncomputable def Qpf (arr_0:Int × Int × Int × Int × Int × Int × (List Int) × Int × Int × Int × Int × Int × List Qlf) (r1:(Z63 × Unit) × Unit) (L1:Qkb):Option Qkc:=
 Option.bind (Qk6 (e12 (u11 (u10 (u9 (u2 arr_0 (IntKind.wrap .i64 (arr_0.2.2.1+1))) 1) (IntKind.wrap .i64 ((IntKind.wrap .i64 (arr_0.2.2.1+1))+3))) (IntKind.wrap .i64 ((g11 arr_0)+1))) r1.1.1) 1 1) fun r95=>
 bif !((Int.tmod (IntKind.wrap .i64 (arr_0.2.2.1+1)) 2)==0) then
  some (((e12 (u11 (u10 (u9 (u2 arr_0 (IntKind.wrap .i64 (arr_0.2.2.1+1))) 1) (IntKind.wrap .i64 ((IntKind.wrap .i64 (arr_0.2.2.1+1))+3))) (IntKind.wrap .i64 ((g11 arr_0)+1))) r1.1.1),[r95.1.1],()),())
 else
 bif (g3 arr_0) != 0 then
  Option.bind (Qk6 (e12 (u11 (u10 (u9 (u2 arr_0 (IntKind.wrap .i64 (arr_0.2.2.1+1))) 1) (IntKind.wrap .i64 ((IntKind.wrap .i64 (arr_0.2.2.1+1))+3))) (IntKind.wrap .i64 ((g11 arr_0)+1))) r1.1.1) 4 (g3 arr_0)) fun r96=>
  L1 0 arr_0.1 arr_0.2.1 (IntKind.wrap .i64 (arr_0.2.2.1+1)) (g3 arr_0) (g4 arr_0) (g5 arr_0) (g6 arr_0) (g7 arr_0) (g8 arr_0) 1 (IntKind.wrap .i64 ((IntKind.wrap .i64 (arr_0.2.2.1+1))+3)) (IntKind.wrap .i64 ((g11 arr_0)+1)) r1.1.1 0 0 0 0 0 0 0 0 0 0 0 [] [] [r95.1.1,r96.1.1]
 else
  L1 0 arr_0.1 arr_0.2.1 (IntKind.wrap .i64 (arr_0.2.2.1+1)) (g3 arr_0) (g4 arr_0) (g5 arr_0) (g6 arr_0) (g7 arr_0) (g8 arr_0) 1 (IntKind.wrap .i64 ((IntKind.wrap .i64 (arr_0.2.2.1+1))+3)) (IntKind.wrap .i64 ((g11 arr_0)+1)) r1.1.1 0 0 0 0 0 0 0 0 0 0 0 [] [] [r95.1.1]
noncomputable def Qpj (arr_0:Int × Int × Int × Int × Int × Int × (List Int) × Int × Int × Int × Int × Int × List Qlf) (r1:(Z63 × Unit) × Unit) (L1:Qkb):Option Qkc:=
 Option.bind (Qk6 (e12 (u10 (u9 (u2 arr_0 (IntKind.wrap .i64 (arr_0.2.2.1+1))) 1) (IntKind.wrap .i64 ((IntKind.wrap .i64 (arr_0.2.2.1+1))+3))) r1.1.1) 1 1) fun r103=>
 bif !((Int.tmod (IntKind.wrap .i64 (arr_0.2.2.1+1)) 2)==0) then
  some (((e12 (u10 (u9 (u2 arr_0 (IntKind.wrap .i64 (arr_0.2.2.1+1))) 1) (IntKind.wrap .i64 ((IntKind.wrap .i64 (arr_0.2.2.1+1))+3))) r1.1.1),[r103.1.1],()),())
 else
 bif (g3 arr_0) != 0 then
  Option.bind (Qk6 (e12 (u10 (u9 (u2 arr_0 (IntKind.wrap .i64 (arr_0.2.2.1+1))) 1) (IntKind.wrap .i64 ((IntKind.wrap .i64 (arr_0.2.2.1+1))+3))) r1.1.1) 4 (g3 arr_0)) fun r104=>
  L1 0 arr_0.1 arr_0.2.1 (IntKind.wrap .i64 (arr_0.2.2.1+1)) (g3 arr_0) (g4 arr_0) (g5 arr_0) (g6 arr_0) (g7 arr_0) (g8 arr_0) 1 (IntKind.wrap .i64 ((IntKind.wrap .i64 (arr_0.2.2.1+1))+3)) (g11 arr_0) r1.1.1 0 0 0 0 0 0 0 0 0 0 0 [] [] [r103.1.1,r104.1.1]
 else
  L1 0 arr_0.1 arr_0.2.1 (IntKind.wrap .i64 (arr_0.2.2.1+1)) (g3 arr_0) (g4 arr_0) (g5 arr_0) (g6 arr_0) (g7 arr_0) (g8 arr_0) 1 (IntKind.wrap .i64 ((IntKind.wrap .i64 (arr_0.2.2.1+1))+3)) (g11 arr_0) r1.1.1 0 0 0 0 0 0 0 0 0 0 0 [] [] [r103.1.1]
noncomputable def Qrq (arr_0:Int × Int × Int × Int × Int × Int × (List Int) × Int × Int × Int × Int × Int × List Qlf) (r1:(Z63 × Unit) × Unit) (L1:Qkb):Option Qkc:=
 bif (g9 arr_0)==0 then
  bif (g11 arr_0)==0 then
   bif (g5 arr_0) != 0 then
    bif (g5 arr_0) != arr_0.1 then
     Option.bind (Qk6 (e12 (u10 (u9 (u2 arr_0 (IntKind.wrap .i64 (arr_0.2.2.1+1))) (g5 arr_0)) (IntKind.wrap .i64 ((IntKind.wrap .i64 (arr_0.2.2.1+1))+3))) r1.1.1) 1 (g5 arr_0)) fun r101=>
     bif !((Int.tmod (IntKind.wrap .i64 (arr_0.2.2.1+1)) 2)==0) then
      some (((e12 (u10 (u9 (u2 arr_0 (IntKind.wrap .i64 (arr_0.2.2.1+1))) (g5 arr_0)) (IntKind.wrap .i64 ((IntKind.wrap .i64 (arr_0.2.2.1+1))+3))) r1.1.1),[r101.1.1],()),())
     else
     bif (g3 arr_0) != 0 then
      Option.bind (Qk6 (e12 (u10 (u9 (u2 arr_0 (IntKind.wrap .i64 (arr_0.2.2.1+1))) (g5 arr_0)) (IntKind.wrap .i64 ((IntKind.wrap .i64 (arr_0.2.2.1+1))+3))) r1.1.1) 4 (g3 arr_0)) fun r102=>
      L1 0 arr_0.1 arr_0.2.1 (IntKind.wrap .i64 (arr_0.2.2.1+1)) (g3 arr_0) (g4 arr_0) (g5 arr_0) (g6 arr_0) (g7 arr_0) (g8 arr_0) (g5 arr_0) (IntKind.wrap .i64 ((IntKind.wrap .i64 (arr_0.2.2.1+1))+3)) (g11 arr_0) r1.1.1 0 0 0 0 0 0 0 0 0 0 0 [] [] [r101.1.1,r102.1.1]
     else
      L1 0 arr_0.1 arr_0.2.1 (IntKind.wrap .i64 (arr_0.2.2.1+1)) (g3 arr_0) (g4 arr_0) (g5 arr_0) (g6 arr_0) (g7 arr_0) (g8 arr_0) (g5 arr_0) (IntKind.wrap .i64 ((IntKind.wrap .i64 (arr_0.2.2.1+1))+3)) (g11 arr_0) r1.1.1 0 0 0 0 0 0 0 0 0 0 0 [] [] [r101.1.1]
    else
     Qpj arr_0 r1 L1
   else
    Qpj arr_0 r1 L1
  else
   Qpj arr_0 r1 L1
 else
  Qpi arr_0 r1 L1
noncomputable def Qrm (arr_0:Int × Int × Int × Int × Int × Int × (List Int) × Int × Int × Int × Int × Int × List Qlf) (r1:(Z63 × Unit) × Unit) (L1:Qkb):Option Qkc:=
 bif (g3 arr_0)==0 then
  bif (g9 arr_0) != 0 then
   bif decide (IntKind.wrap .i64 (arr_0.2.2.1+1) ≥ (g10 arr_0)) then
    bif (IntKind.wrap .i64 ((g11 arr_0)+1))==0 then
     bif (g5 arr_0) != 0 then
      bif (g5 arr_0) != arr_0.1 then
       Option.bind (Qk6 (e12 (u11 (u10 (u9 (u2 arr_0 (IntKind.wrap .i64 (arr_0.2.2.1+1))) (g5 arr_0)) (IntKind.wrap .i64 ((IntKind.wrap .i64 (arr_0.2.2.1+1))+3))) (IntKind.wrap .i64 ((g11 arr_0)+1))) r1.1.1) 1 (g5 arr_0)) fun r93=>
       bif !((Int.tmod (IntKind.wrap .i64 (arr_0.2.2.1+1)) 2)==0) then
        some (((e12 (u11 (u10 (u9 (u2 arr_0 (IntKind.wrap .i64 (arr_0.2.2.1+1))) (g5 arr_0)) (IntKind.wrap .i64 ((IntKind.wrap .i64 (arr_0.2.2.1+1))+3))) (IntKind.wrap .i64 ((g11 arr_0)+1))) r1.1.1),[r93.1.1],()),())
       else
       bif (g3 arr_0) != 0 then
        Option.bind (Qk6 (e12 (u11 (u10 (u9 (u2 arr_0 (IntKind.wrap .i64 (arr_0.2.2.1+1))) (g5 arr_0)) (IntKind.wrap .i64 ((IntKind.wrap .i64 (arr_0.2.2.1+1))+3))) (IntKind.wrap .i64 ((g11 arr_0)+1))) r1.1.1) 4 (g3 arr_0)) fun r94=>
        L1 0 arr_0.1 arr_0.2.1 (IntKind.wrap .i64 (arr_0.2.2.1+1)) (g3 arr_0) (g4 arr_0) (g5 arr_0) (g6 arr_0) (g7 arr_0) (g8 arr_0) (g5 arr_0) (IntKind.wrap .i64 ((IntKind.wrap .i64 (arr_0.2.2.1+1))+3)) (IntKind.wrap .i64 ((g11 arr_0)+1)) r1.1.1 0 0 0 0 0 0 0 0 0 0 0 [] [] [r93.1.1,r94.1.1]
       else
        L1 0 arr_0.1 arr_0.2.1 (IntKind.wrap .i64 (arr_0.2.2.1+1)) (g3 arr_0) (g4 arr_0) (g5 arr_0) (g6 arr_0) (g7 arr_0) (g8 arr_0) (g5 arr_0) (IntKind.wrap .i64 ((IntKind.wrap .i64 (arr_0.2.2.1+1))+3)) (IntKind.wrap .i64 ((g11 arr_0)+1)) r1.1.1 0 0 0 0 0 0 0 0 0 0 0 [] [] [r93.1.1]
      else
       Qpf arr_0 r1 L1
     else
      Qpf arr_0 r1 L1
    else
     Qpf arr_0 r1 L1
   else
    Qrq arr_0 r1 L1
  else
   Qrq arr_0 r1 L1
 else
  Qpi arr_0 r1 L1
noncomputable def Qnc (L1:Qkb) (v3 v4 v5 v6 v7 v8 v9:Int) (v10:List Int) (v11 v12 v13 v14 v15:Int) (v16:List Qlf) (v17 v18 v19 v20 v21 v22 v23 v24 v25 v26 v27:Int) (v28:List Int) (v29:List Qlf) (v30:List Z18):Option Qkc:=
 bif decide (v3<(v16.length:Int)) then
  Option.bind (Qld (v4,v5,v6,v7,v8,v9,v10,v11,v12,v13,v14,v15,v16)) fun r31=>
  bif r31.1.1 then
   bif decide (0≤v3)&&decide (v3<(v16.length:Int)) then
    bif decide (0≤v3)&&decide (v3<(v16.length:Int)) then
     Option.bind (Qn5 (v4,v5,v6,v7,v8,v9,v10,v11,v12,v13,v14,v15,v16) 5 ((List.getD v16 v3.toNat (0,0,0)).1)) fun r32=>
     bif Nat.ble (v30.length+1) 1073741824 then
      L1 (IntKind.wrap .i64 (v3+1)) v4 v5 v6 v7 v8 v9 v10 v11 v12 v13 v14 v15 v16 v17 v18 v19 v20 v21 v22 v23 v24 v25 v26 v27 v28 v29 (v30++[r32.1.1])
     else none
    else none
   else none
  else
   some (((v4,v5,v6,v7,v8,v9,v10,v11,v12,v13,v14,v15,v16),v30,()),())
 else
  some (((v4,v5,v6,v7,v8,v9,v10,v11,v12,v13,v14,v15,v16),v30,()),())
noncomputable def Qng (L2:Qkb) (v38 v39 v40 v41 v42 v43 v44:Int) (v45:List Int) (v46 v47 v48 v49 v50:Int) (v51:List Qlf) (v52 v53 v54 v55 v56 v57 v58 v59 v60 v61 v62:Int) (v63:List Int) (v64:List Qlf) (v65:List Z18):Option Qkc:=
 bif decide (v38<(v51.length:Int)) then
  Option.bind (Qld (v39,v40,v41,v42,v43,v44,v45,v46,v47,v48,v49,v50,v51)) fun r66=>
  bif r66.1.1 then
   bif decide (0≤v38)&&decide (v38<(v51.length:Int)) then
    Option.bind (Qn5 (v39,v40,v41,v42,v43,v44,v45,v46,v47,v48,v49,v50,v51) 5 ((List.getD v51 v38.toNat (0,0,0)).1)) fun r67=>
    bif Nat.ble (v65.length+1) 1073741824 then
     L2 (IntKind.wrap .i64 (v38+1)) v39 v40 v41 v42 v43 v44 v45 v46 v47 v48 v49 v50 v51 v52 v53 v54 v55 v56 v57 v58 v59 v60 v61 v62 v63 v64 (v65++[r67.1.1])
    else none
   else none
  else
   some (((v39,v40,v41,v42,v43,v44,v45,v46,v47,v48,v49,v50,v51),v65,()),())
 else
  some (((v39,v40,v41,v42,v43,v44,v45,v46,v47,v48,v49,v50,v51),v65,()),())
noncomputable def Qnx (L1 L2:Qkb) (arr_0:Int × Int × Int × Int × Int × Int × (List Int) × Int × Int × Int × Int × Int × List Qlf):Option Qkc:=
 Option.bind (Qy9 (h12 arr_0) (IntKind.wrap .i64 (arr_0.2.2.1+1))) fun r1=>
 bif arr_0.1==1 then
  bif (Int.tmod (IntKind.wrap .i64 (arr_0.2.2.1+1)) 2)==0 then
   bif !((Int.tmod (IntKind.wrap .i64 (arr_0.2.2.1+1)) 2)==0) then
    some (((e12 (u8 (u7 (u2 arr_0 (IntKind.wrap .i64 (arr_0.2.2.1+1))) (IntKind.wrap .i64 ((g7 arr_0)+1))) (IntKind.wrap .i64 (arr_0.2.2.1+1))) r1.1.1),[],()),())
   else
   bif (g3 arr_0) != 0 then
    Option.bind (Qk6 (e12 (u8 (u7 (u2 arr_0 (IntKind.wrap .i64 (arr_0.2.2.1+1))) (IntKind.wrap .i64 ((g7 arr_0)+1))) (IntKind.wrap .i64 (arr_0.2.2.1+1))) r1.1.1) 4 (g3 arr_0)) fun r2=>
    L1 0 arr_0.1 arr_0.2.1 (IntKind.wrap .i64 (arr_0.2.2.1+1)) (g3 arr_0) (g4 arr_0) (g5 arr_0) (g6 arr_0) (IntKind.wrap .i64 ((g7 arr_0)+1)) (IntKind.wrap .i64 (arr_0.2.2.1+1)) (g9 arr_0) (g10 arr_0) (g11 arr_0) r1.1.1 0 0 0 0 0 0 0 0 0 0 0 [] [] [r2.1.1]
   else
    L1 0 arr_0.1 arr_0.2.1 (IntKind.wrap .i64 (arr_0.2.2.1+1)) (g3 arr_0) (g4 arr_0) (g5 arr_0) (g6 arr_0) (IntKind.wrap .i64 ((g7 arr_0)+1)) (IntKind.wrap .i64 (arr_0.2.2.1+1)) (g9 arr_0) (g10 arr_0) (g11 arr_0) r1.1.1 0 0 0 0 0 0 0 0 0 0 0 [] [] []
  else
   Qpi arr_0 r1 L1
 else
 bif (g3 arr_0) != 0 then
  Option.bind (Qld (e12 (u2 arr_0 (IntKind.wrap .i64 (arr_0.2.2.1+1))) r1.1.1)) fun r34=>
  bif !r34.1.1 then
   Option.bind (Qla (e12 (u2 arr_0 (IntKind.wrap .i64 (arr_0.2.2.1+1))) r1.1.1) 0) fun r35=>
   bif (g3 r35.1.1)==0 then
    bif (g9 r35.1.1) != 0 then
     bif decide (r35.1.1.2.2.1 ≥ (g10 r35.1.1)) then
      bif (IntKind.wrap .i64 ((g11 r35.1.1)+1))==0 then
       bif (g5 r35.1.1) != 0 then
        bif (g5 r35.1.1) != r35.1.1.1 then
         Option.bind (Qk6 (u11 (u10 (u9 r35.1.1 (g5 r35.1.1)) (IntKind.wrap .i64 (r35.1.1.2.2.1+3))) (IntKind.wrap .i64 ((g11 r35.1.1)+1))) 1 (g5 r35.1.1)) fun r36=>
         bif !((Int.tmod (IntKind.wrap .i64 (arr_0.2.2.1+1)) 2)==0) then
          some (((u11 (u10 (u9 r35.1.1 (g5 r35.1.1)) (IntKind.wrap .i64 (r35.1.1.2.2.1+3))) (IntKind.wrap .i64 ((g11 r35.1.1)+1))),[r36.1.1],()),())
         else
         bif (g3 r35.1.1) != 0 then
          Option.bind (Qk6 (u11 (u10 (u9 r35.1.1 (g5 r35.1.1)) (IntKind.wrap .i64 (r35.1.1.2.2.1+3))) (IntKind.wrap .i64 ((g11 r35.1.1)+1))) 4 (g3 r35.1.1)) fun r37=>
          L2 0 r35.1.1.1 r35.1.1.2.1 r35.1.1.2.2.1 (g3 r35.1.1) (g4 r35.1.1) (g5 r35.1.1) (g6 r35.1.1) (g7 r35.1.1) (g8 r35.1.1) (g5 r35.1.1) (IntKind.wrap .i64 (r35.1.1.2.2.1+3)) (IntKind.wrap .i64 ((g11 r35.1.1)+1)) (h12 r35.1.1) 0 0 0 0 0 0 0 0 0 0 0 [] [] [r36.1.1,r37.1.1]
         else
          L2 0 r35.1.1.1 r35.1.1.2.1 r35.1.1.2.2.1 (g3 r35.1.1) (g4 r35.1.1) (g5 r35.1.1) (g6 r35.1.1) (g7 r35.1.1) (g8 r35.1.1) (g5 r35.1.1) (IntKind.wrap .i64 (r35.1.1.2.2.1+3)) (IntKind.wrap .i64 ((g11 r35.1.1)+1)) (h12 r35.1.1) 0 0 0 0 0 0 0 0 0 0 0 [] [] [r36.1.1]
        else
         Qut r35 arr_0 L2
       else
        Qut r35 arr_0 L2
      else
       Qut r35 arr_0 L2
     else
      Quq r35 arr_0 L2
    else
     Quq r35 arr_0 L2
   else
    Z02 arr_0 r35 L2
  else
   Qrm arr_0 r1 L1
 else
  Qrm arr_0 r1 L1
noncomputable def Qlo (n:Nat):Nat→Qkb:=iter (fun _ _ _ _ _ _ _ _ _ _ _ _ _ _ _ _ _ _ _ _ _ _ _ _ _ _ _ _=>none) fun L=>Qnc L
noncomputable def Qlr (n:Nat):Nat→Qkb:=iter (fun _ _ _ _ _ _ _ _ _ _ _ _ _ _ _ _ _ _ _ _ _ _ _ _ _ _ _ _=>none) fun L=>Qng L
noncomputable def Qry (n m:Nat) (v3 v4 v5 v6 v7 v8 v9:Int) (v10:List Int) (v11 v12 v13 v14 v15:Int) (v16:List Qlf) (v17 v18 v19 v20 v21 v22 v23 v24 v25 v26 v27:Int) (v28:List Int) (v29:List Qlf) (v30:List Z18):Option Qkc:=
 Qjv Z2b tab (fiB [.val t30] Quw) n [.val t30] [⟨t30,(nF 13),none⟩,⟨t48,[true],none⟩] Tryz.f60 [1,1,1,1,1,1,1,1,0,1,0] [] [1,2,5,6] m
 ⟨[(1,V1 (.ptr (1,0) 0)),(2,V1 (.ptr (2,0) 0)),(5,V1 (.ref (888888,5))),(6,Vp t2 v3)],[((1,0),Ob.box 31 [LV.pure t2 v4,LV.pure t2 v5,LV.pure t2 v6,LV.pure t2 v7,LV.pure t2 v8,LV.pure t2 v9,LV.pure t28 v10,LV.pure t2 v11,LV.pure t2 v12,LV.pure t2 v13,LV.pure t2 v14,LV.pure t2 v15,LV.ref (1,13)]),((1,13),Ob.row 53 t52 v16),((2,0),Ob.box 31 [LV.pure t2 v17,LV.pure t2 v18,LV.pure t2 v19,LV.pure t2 v20,LV.pure t2 v21,LV.pure t2 v22,LV.ref (2,7),LV.pure t2 v23,LV.pure t2 v24,LV.pure t2 v25,LV.pure t2 v26,LV.pure t2 v27,LV.ref (2,13)]),((2,7),Ob.row 3 t2 v28),((2,13),Ob.row 53 t52 v29),((888888,5),Ob.row 46 t45 v30)]⟩
noncomputable def Qrf (n m:Nat) (v38 v39 v40 v41 v42 v43 v44:Int) (v45:List Int) (v46 v47 v48 v49 v50:Int) (v51:List Qlf) (v52 v53 v54 v55 v56 v57 v58 v59 v60 v61 v62:Int) (v63:List Int) (v64:List Qlf) (v65:List Z18):Option Qkc:=
 Qjv Z2b tab (fiB [.val t30] Quw) n [.val t30] [⟨t30,(nF 13),none⟩,⟨t48,[true],none⟩] Tryz.f60 [1,1,1,1,1,1,1,1,0,1,0] [] [1,2,5,6] m
 ⟨[(1,V1 (.ptr (1,0) 0)),(2,V1 (.ptr (2,0) 0)),(5,V1 (.ref (888888,5))),(6,Vp t2 v38)],[((1,0),Ob.box 31 [LV.pure t2 v39,LV.pure t2 v40,LV.pure t2 v41,LV.pure t2 v42,LV.pure t2 v43,LV.pure t2 v44,LV.pure t28 v45,LV.pure t2 v46,LV.pure t2 v47,LV.pure t2 v48,LV.pure t2 v49,LV.pure t2 v50,LV.pure t29 v51]),((2,0),Ob.box 31 [LV.pure t2 v52,LV.pure t2 v53,LV.pure t2 v54,LV.pure t2 v55,LV.pure t2 v56,LV.pure t2 v57,LV.ref (2,7),LV.pure t2 v58,LV.pure t2 v59,LV.pure t2 v60,LV.pure t2 v61,LV.pure t2 v62,LV.ref (2,13)]),((2,7),Ob.row 3 t2 v63),((2,13),Ob.row 53 t52 v64),((888888,5),Ob.row 46 t45 v65)]⟩
theorem Qyq (n:Nat):∀ m,Qry n m=Qlo n m
 | 0=>rfl
 | m+1=>by rw [show Qry n (m+1)=Qnc (Qry n m) from by kernel_rfl,Qyq n m];rfl
theorem Qz3 (n:Nat):∀ m,Qrf n m=Qlr n m
 | 0=>rfl
 | m+1=>by rw [show Qrf n (m+1)=Qng (Qrf n m) from by kernel_rfl,Qz3 n m];rfl
noncomputable def Z2j (n:Nat) (arr_0:Int × Int × Int × Int × Int × Int × (List Int) × Int × Int × Int × Int × Int × List Qlf):Option Qkc:=Qnx (Qlo n n) (Qlr n n) arr_0
noncomputable def Qum (arr_0:Int × Int × Int × Int × Int × Int × (List Int) × Int × Int × Int × Int × Int × List Qlf):Option Qkc:=Z2j 1099511627776 arr_0
noncomputable def Z2e:Ent:=⟨[.val t30],[⟨t30,(nF 13),none⟩,⟨t48,[true],none⟩],fun x=>Qum x.1⟩
theorem Z6s:GD 60 Z2e:=fnl Quw (fun n x=>Z2j n x.1) (Qjy Qpy (Qjy Z7h (Qjy Qx1 (Qjy Qz4 (Qjy Qxx Qk3))))) Tryz.func60 fun n x=>Eq.trans (b:=Qnx (Qry n n) (Qrf n n) x.1) (by kernel_rfl) (by rw [Qyq n n,Qz3 n n];rfl)
abbrev Qpu:Type:=(Bool × Unit) × Unit
noncomputable def Zdx:Ctx:=[]
def Z3l:Fi:=fo [[0,1],[0,1,5],[0,1,5,9],[0,1,5],[0,1,5,17],[4],[4]]
abbrev Qxb:Type:=List Int→Int→Int→Option Qpu
noncomputable def Qp6 (L1:Qxb) (v1:List Int) (v2 v3:Int):Option Qpu:=
 bif decide (v3<(v1.length:Int)) then
  bif decide (0≤v3)&&decide (v3<(v1.length:Int)) then
   bif (List.getD v1 v3.toNat 0)==v2 then
    some ((true,()),())
   else
    L1 v1 v2 (IntKind.wrap .i64 (v3+1))
  else none
 else
  some ((false,()),())
noncomputable def Z5f (L1:Qxb) (p_0:List Int) (id_1:Int):Option Qpu:=
 L1 p_0 id_1 0
noncomputable def Qr8 (n:Nat):Nat→Qxb:=iter (fun _ _ _=>none) fun L=>Qp6 L
noncomputable def Qtd (n m:Nat) (v1:List Int) (v2 v3:Int):Option Qpu:=
 Qjv Zdx tab (fiB [.val t28,.val t2] Z3l) n [.val t28,.val t2] [⟨t4,[false],none⟩] Tryz.f135 [1,0,1,0] [] [0,1,5] m
 ⟨[(0,Vp t28 v1),(1,Vp t2 v2),(5,Vp t2 v3)],[]⟩
theorem Z20 (n:Nat):∀ m,Qtd n m=Qr8 n m
 | 0=>rfl
 | m+1=>by rw [show Qtd n (m+1)=Qp6 (Qtd n m) from by kernel_rfl,Z20 n m];rfl
noncomputable def Z5c (n:Nat) (p_0:List Int) (id_1:Int):Option Qpu:=Z5f (Qr8 n n) p_0 id_1
noncomputable def Qqk (p_0:List Int) (id_1:Int):Option Qpu:=Z5c 1099511627776 p_0 id_1
noncomputable def Z5b:Ent:=⟨[.val t28,.val t2],[⟨t4,[false],none⟩],fun x=>Qqk x.1 x.2.1⟩
theorem Z0m:GD 135 Z5b:=fnl Z3l (fun n x=>Z5c n x.1 x.2.1) Qk3 Tryz.func135 fun n x=>Eq.trans (b:=Z5f (Qtd n n) x.1 x.2.1) (by kernel_rfl) (by rw [Z20 n n];rfl)
abbrev Qn1:Type:=(Bool × Unit) × Unit
noncomputable def Z8d:Ctx:=[(135,Z5b)]
def Qxt:Fi:=fo [[0,8,9,10,13,14,15,16,30,31,32,33,34,37,38,39,40,41,42,43,44],[0,17,30,31,32,33,34,37,38,39,40,41,42,43,44],[2],[0,3,30,31,32,33,34,37,38,39,40,41,42,43,44],[0,3,21,30,31,32,33,34,37,38,39,40,41,42,43,44],[0,3,30,31,32,33,34,37,38,39,40,41,42,43,44],[0,3,30,31,32,33,34,37,38,39,40,41,42,43,44,45],[2],[2]]
abbrev Qt1:Type:=List Int→Int→Option Qn1
noncomputable def Qmm (L1:Qt1) (v1:List Int) (v2:Int):Option Qn1:=
 bif decide (v2<(v1.length:Int)) then
  bif decide (0≤v2)&&decide (v2<(v1.length:Int)) then
   bif decide (List.getD v1 v2.toNat 0<1) then
    some ((false,()),())
   else
   bif decide (0≤v2)&&decide (v2<(v1.length:Int)) then
    bif decide (List.getD v1 v2.toNat 0>8) then
     some ((false,()),())
    else
    bif decide (0≤v2)&&decide (v2≤(v1.length:Int)) then
     bif decide (0≤v2)&&decide (v2<(v1.length:Int)) then
      Option.bind (Qqk (List.drop 0 (List.take v2.toNat v1)) (List.getD v1 v2.toNat 0)) fun r3=>
      bif r3.1.1 then
       some ((false,()),())
      else
       L1 v1 (IntKind.wrap .i64 (v2+1))
     else none
    else none
   else none
  else none
 else
  some ((true,()),())
noncomputable def Qqm (L1:Qt1) (p_0:List Int):Option Qn1:=
 bif decide ((p_0.length:Int)<1) then
  some ((false,()),())
 else
 bif decide ((p_0.length:Int)>10) then
  some ((false,()),())
 else
 bif decide (0<(p_0.length:Int)) then
  bif (List.getD p_0 0 0) != 1 then
   some ((false,()),())
  else
   L1 p_0 0
 else none
noncomputable def Qmn (n:Nat):Nat→Qt1:=iter (fun _ _=>none) fun L=>Qmm L
noncomputable def Qq4 (n m:Nat) (v1:List Int) (v2:Int):Option Qn1:=
 Qjv Z8d tab (fiB [.val t28] Qxt) n [.val t28] [⟨t4,[false],none⟩] Tryz.f105 [1,1,0,1,0] [] [0,3] m
 ⟨[(0,Vp t28 v1),(3,Vp t2 v2)],[]⟩
theorem Qwx (n:Nat):∀ m,Qq4 n m=Qmn n m
 | 0=>rfl
 | m+1=>by rw [show Qq4 n (m+1)=Qmm (Qq4 n m) from by kernel_rfl,Qwx n m];rfl
noncomputable def Qyv (n:Nat) (p_0:List Int):Option Qn1:=Qqm (Qmn n n) p_0
noncomputable def Qo0 (p_0:List Int):Option Qn1:=Qyv 1099511627776 p_0
noncomputable def Z7y:Ent:=⟨[.val t28],[⟨t4,[false],none⟩],fun x=>Qo0 x.1⟩
theorem Qvv:GD 105 Z7y:=fnl Qxt (fun n x=>Qyv n x.1) (Qjy Z0m Qk3) Tryz.func105 fun n x=>Eq.trans (b:=Qqm (Qq4 n n) x.1) (by kernel_rfl) (by rw [Qwx n n];rfl)
noncomputable def Qmu (p_0:List Int) (id_1:Int):Option (((List Int) × Bool × Unit) × Unit):=
 bif Nat.ble (0+p_0.length) 1073741824 then
  bif Nat.ble (([]++p_0).length+1) 1073741824 then
   Option.bind (Qo0 (([]++p_0)++[id_1])) fun r1=>
   bif !r1.1.1 then
    some (([],false,()),())
   else
    some ((([]++p_0)++[id_1],true,()),())
  else none
 else none
noncomputable def Qyp:Ent:=⟨[.val t28,.val t2],[⟨t28,[true],none⟩,⟨t4,[false],none⟩],fun x=>Qmu x.1 x.2.1⟩
theorem Qrr:GD 85 Qyp:=fnk 1 (fo [[0,1],[6],[6,15],[4,5],[4,5]]) (Qjy Qvv Qk3) Tryz.func85
abbrev Qlv:Type:=((List Int) × Unit) × (Zcu × Unit)
noncomputable def Z56:Ctx:=[(26,Qpt),(85,Qyp)]
def Qv7:Fi:=fo [[0],[0,3],[0,3,4],[0,3,4,11],[0,3,4],[0,3,4,5,6],[0,3,4,5,22],[0,3,4],[0,2]]
abbrev Qr1:Type:=Int→List Int→Int→List Int→Option Qlv
noncomputable def Qlk (L1:Qr1) (v2:Int) (v3:List Int) (v4:Int) (v5:List Int):Option Qlv:=
 bif decide (v2>0) then
  Option.bind (Qk5 (v3,v4) 7) fun r6=>
  Option.bind (Qmu v5 (IntKind.wrap .i64 (2+r6.1.1))) fun r7=>
  bif r7.1.2.1 then
   L1 (IntKind.wrap .i64 (v2 - 1)) r6.2.1.1 r6.2.1.2 r7.1.1
  else
   L1 (IntKind.wrap .i64 (v2 - 1)) r6.2.1.1 r6.2.1.2 v5
 else
  some ((v5,()),((v3,v4),()))
noncomputable def Qoy (L1:Qr1) (p_0:(List Int) × Int):Option Qlv:=
 Option.bind (Qk5 p_0 4) fun r1=>
 L1 r1.1.1 r1.2.1.1 r1.2.1.2 [1]
noncomputable def Qll (n:Nat):Nat→Qr1:=iter (fun _ _ _ _=>none) fun L=>Qlk L
noncomputable def Qny (n m:Nat) (v2:Int) (v3:List Int) (v4:Int) (v5:List Int):Option Qlv:=
 Qjv Z56 tab (fiB [.box 75 t74 [false,false]] Qv7) n [.box 75 t74 [false,false]] [⟨t28,[true],none⟩] Tryz.f43 [1,1,0,1,0] [] [0,3,4] m
 ⟨[(0,V1 (.ptr (0,0) 0)),(3,V1 (.ref (888888,3))),(4,Vp t2 v2)],[((0,0),Ob.box 75 [LV.pure t25 v3,LV.pure t2 v4]),((888888,3),Ob.row 3 t2 v5)]⟩
theorem Quh (n:Nat):∀ m,Qny n m=Qll n m
 | 0=>rfl
 | m+1=>by rw [show Qny n (m+1)=Qlk (Qny n m) from by kernel_rfl,Quh n m];rfl
noncomputable def Qvk (n:Nat) (p_0:(List Int) × Int):Option Qlv:=Qoy (Qll n n) p_0
noncomputable def Qkh (p_0:(List Int) × Int):Option Qlv:=Qvk 1099511627776 p_0
noncomputable def Qvu:Ent:=⟨[.box 75 t74 [false,false]],[⟨t28,[true],none⟩],fun x=>Qkh x.1⟩
theorem Qtv:GD 43 Qvu:=fnl Qv7 (fun n x=>Qvk n x.1) (Qjy Qlc (Qjy Qrr Qk3)) Tryz.func43 fun n x=>Eq.trans (b:=Qoy (Qny n n) x.1) (by kernel_rfl) (by rw [Quh n n];rfl)
noncomputable def Qlq (p_0:(List Int) × Int):Option (Zpp × (Zcu × Unit)):=
 Option.bind (Qk5 p_0 5) fun r1=>
 bif decide (0≤r1.1.1)&&decide (r1.1.1<5) then
  bif decide (0≤r1.1.1)&&decide (r1.1.1<5) then
   some ((List.getD [(⟨#[]⟩:ByteArray),(⟨#[97]⟩:ByteArray),(⟨#[98,99]⟩:ByteArray),(⟨#[104,101,108,108,111]⟩:ByteArray),(⟨#[116,119,101,108,118,101,32,98,121,116,101,115]⟩:ByteArray)] r1.1.1.toNat (⟨#[]⟩:ByteArray),()),(r1.2.1,()))
  else none
 else none
noncomputable def Qw6:Ent:=⟨[.box 75 t74 [false,false]],[⟨t9,[false],none⟩],fun x=>Qlq x.1⟩
theorem Qtw:GD 44 Qw6:=fnk 1 (fo [[0],[0,2]]) (Qjy Qlc Qk3) Tryz.func44
noncomputable def Qkp (p_0:(List Int) × Int) (to_1:Int):Option ((Z18 × Unit) × (Zcu × Unit)):=
 Option.bind (Qk5 p_0 8) fun r1=>
 bif (IntKind.wrap .i64 (1+r1.1.1))==to_1 then
  Option.bind (Qk5 r1.2.1 9) fun r2=>
  Option.bind (Qk5 r2.2.1 3) fun r3=>
  bif (IntKind.wrap .i64 (1+r2.1.1))==2 then
   Option.bind (Qk5 r3.2.1 20) fun r4=>
   Option.bind (Qk5 r4.2.1 25) fun r5=>
   Option.bind (Qkh r5.2.1) fun r6=>
   Option.bind (Qk5 r6.2.1 9) fun r7=>
   some (((IntKind.wrap .i64 (1+r2.1.1),IntKind.wrap .i64 (1+(Int.tmod to_1 8)),to_1,IntKind.wrap .i64 (1+r3.1.1),r4.1.1,r5.1.1,r6.1.1,r7.1.1,0,(⟨#[]⟩:ByteArray)),()),(r7.2.1,()))
  else
  bif (IntKind.wrap .i64 (1+r2.1.1))==5 then
   Option.bind (Qk5 r3.2.1 20) fun r8=>
   Option.bind (Qk5 r8.2.1 25) fun r9=>
   Option.bind (Qkh r9.2.1) fun r10=>
   Option.bind (Qk5 r10.2.1 12) fun r11=>
   some (((IntKind.wrap .i64 (1+r2.1.1),IntKind.wrap .i64 (1+(Int.tmod to_1 8)),to_1,IntKind.wrap .i64 (1+r3.1.1),r8.1.1,r9.1.1,r10.1.1,0,r11.1.1,(⟨#[]⟩:ByteArray)),()),(r11.2.1,()))
  else
  bif (IntKind.wrap .i64 (1+r2.1.1))==7 then
   Option.bind (Qk5 r3.2.1 12) fun r12=>
   Option.bind (Qlq r12.2.1) fun r13=>
   some (((IntKind.wrap .i64 (1+r2.1.1),IntKind.wrap .i64 (1+(Int.tmod to_1 8)),to_1,IntKind.wrap .i64 (1+r3.1.1),0,0,[],IntKind.wrap .i64 (1+r12.1.1),0,r13.1.1),()),(r13.2.1,()))
  else
  bif (IntKind.wrap .i64 (1+r2.1.1))==8 then
   bif (IntKind.wrap .i64 (1+r2.1.1))==8 then
    Option.bind (Qk5 r3.2.1 9) fun r14=>
    Option.bind (Qk5 r14.2.1 6) fun r15=>
    some (((IntKind.wrap .i64 (1+r2.1.1),IntKind.wrap .i64 (1+(Int.tmod to_1 8)),to_1,IntKind.wrap .i64 (1+r3.1.1),0,0,[],IntKind.wrap .i64 (1+r14.1.1),IntKind.wrap .i64 ((IntKind.wrap .i64 (1+r14.1.1))+r15.1.1),(⟨#[]⟩:ByteArray)),()),(r15.2.1,()))
   else
    some (((IntKind.wrap .i64 (1+r2.1.1),IntKind.wrap .i64 (1+(Int.tmod to_1 8)),to_1,IntKind.wrap .i64 (1+r3.1.1),0,0,[],0,0,(⟨#[]⟩:ByteArray)),()),(r3.2.1,()))
  else
  bif (IntKind.wrap .i64 (1+r2.1.1))==9 then
   Option.bind (Qk5 r3.2.1 9) fun r16=>
   Option.bind (Qk5 r16.2.1 6) fun r17=>
   some (((IntKind.wrap .i64 (1+r2.1.1),IntKind.wrap .i64 (1+(Int.tmod to_1 8)),to_1,IntKind.wrap .i64 (1+r3.1.1),0,0,[],IntKind.wrap .i64 (1+r16.1.1),IntKind.wrap .i64 ((IntKind.wrap .i64 (1+r16.1.1))+r17.1.1),(⟨#[]⟩:ByteArray)),()),(r17.2.1,()))
  else
   some (((IntKind.wrap .i64 (1+r2.1.1),IntKind.wrap .i64 (1+(Int.tmod to_1 8)),to_1,IntKind.wrap .i64 (1+r3.1.1),0,0,[],0,0,(⟨#[]⟩:ByteArray)),()),(r3.2.1,()))
 else
  Option.bind (Qk5 r1.2.1 9) fun r18=>
  Option.bind (Qk5 r18.2.1 3) fun r19=>
  bif (IntKind.wrap .i64 (1+r18.1.1))==2 then
   Option.bind (Qk5 r19.2.1 20) fun r20=>
   Option.bind (Qk5 r20.2.1 25) fun r21=>
   Option.bind (Qkh r21.2.1) fun r22=>
   Option.bind (Qk5 r22.2.1 9) fun r23=>
   some (((IntKind.wrap .i64 (1+r18.1.1),IntKind.wrap .i64 (1+r1.1.1),to_1,IntKind.wrap .i64 (1+r19.1.1),r20.1.1,r21.1.1,r22.1.1,r23.1.1,0,(⟨#[]⟩:ByteArray)),()),(r23.2.1,()))
  else
  bif (IntKind.wrap .i64 (1+r18.1.1))==5 then
   Option.bind (Qk5 r19.2.1 20) fun r24=>
   Option.bind (Qk5 r24.2.1 25) fun r25=>
   Option.bind (Qkh r25.2.1) fun r26=>
   Option.bind (Qk5 r26.2.1 12) fun r27=>
   some (((IntKind.wrap .i64 (1+r18.1.1),IntKind.wrap .i64 (1+r1.1.1),to_1,IntKind.wrap .i64 (1+r19.1.1),r24.1.1,r25.1.1,r26.1.1,0,r27.1.1,(⟨#[]⟩:ByteArray)),()),(r27.2.1,()))
  else
  bif (IntKind.wrap .i64 (1+r18.1.1))==7 then
   Option.bind (Qk5 r19.2.1 12) fun r28=>
   Option.bind (Qlq r28.2.1) fun r29=>
   some (((IntKind.wrap .i64 (1+r18.1.1),IntKind.wrap .i64 (1+r1.1.1),to_1,IntKind.wrap .i64 (1+r19.1.1),0,0,[],IntKind.wrap .i64 (1+r28.1.1),0,r29.1.1),()),(r29.2.1,()))
  else
  bif (IntKind.wrap .i64 (1+r18.1.1))==8 then
   bif (IntKind.wrap .i64 (1+r18.1.1))==8 then
    Option.bind (Qk5 r19.2.1 9) fun r30=>
    Option.bind (Qk5 r30.2.1 6) fun r31=>
    some (((IntKind.wrap .i64 (1+r18.1.1),IntKind.wrap .i64 (1+r1.1.1),to_1,IntKind.wrap .i64 (1+r19.1.1),0,0,[],IntKind.wrap .i64 (1+r30.1.1),IntKind.wrap .i64 ((IntKind.wrap .i64 (1+r30.1.1))+r31.1.1),(⟨#[]⟩:ByteArray)),()),(r31.2.1,()))
   else
    some (((IntKind.wrap .i64 (1+r18.1.1),IntKind.wrap .i64 (1+r1.1.1),to_1,IntKind.wrap .i64 (1+r19.1.1),0,0,[],0,0,(⟨#[]⟩:ByteArray)),()),(r19.2.1,()))
  else
  bif (IntKind.wrap .i64 (1+r18.1.1))==9 then
   Option.bind (Qk5 r19.2.1 9) fun r32=>
   Option.bind (Qk5 r32.2.1 6) fun r33=>
   some (((IntKind.wrap .i64 (1+r18.1.1),IntKind.wrap .i64 (1+r1.1.1),to_1,IntKind.wrap .i64 (1+r19.1.1),0,0,[],IntKind.wrap .i64 (1+r32.1.1),IntKind.wrap .i64 ((IntKind.wrap .i64 (1+r32.1.1))+r33.1.1),(⟨#[]⟩:ByteArray)),()),(r33.2.1,()))
  else
   some (((IntKind.wrap .i64 (1+r18.1.1),IntKind.wrap .i64 (1+r1.1.1),to_1,IntKind.wrap .i64 (1+r19.1.1),0,0,[],0,0,(⟨#[]⟩:ByteArray)),()),(r19.2.1,()))
noncomputable def Qsb:Ent:=⟨[.box 75 t74 [false,false],.val t2],[⟨t45,(nF 6++[true,false,false,false]),none⟩],fun x=>Qkp x.1 x.2.1⟩
theorem Qua:GD 17 Qsb:=fnk 1 (fo [[0,1,4],[0,1,4,5],[0,1,4,5,12],[0,1,4,5],[0,4,6],[0,4,6,26],[0,4,6,26,27],[0,4,6],[0,4,6,26,41],[0,4,6],[0,4,6,26,55],[0,4,6],[0,4,6,26,64],[0,4,6,64],[0,4,6],[0,4,6],[0,4]]) (Qjy Qlc (Qjy Qtv (Qjy Qtw Qk3))) Tryz.func17
abbrev Qpb:Type:=(Qlf × Bool × Unit) × Unit
noncomputable def Zbv:Ctx:=[]
def Z2c:Fi:=fo [[0,1,4],[0,1,4,6],[0,1,4,6,10],[0,1,4,6],[0,1,4,6,19],[4,5],[4,5]]
abbrev Qw3:Type:=Z63→Int→Int→Int→Int→Int→Option Qpb
noncomputable def Qoe (L1:Qw3) (v1:List Qlf) (v2 v3 v4 v5 v6:Int):Option Qpb:=
 bif decide (v3<(v1.length:Int)) then
  bif decide (0≤v3)&&decide (v3<(v1.length:Int)) then
   bif ((List.getD v1 v3.toNat (0,0,0)).1)==v2 then
    bif decide (0≤v3)&&decide (v3<(v1.length:Int)) then
     some (((List.getD v1 v3.toNat (0,0,0)),true,()),())
    else none
   else
    L1 v1 v2 (IntKind.wrap .i64 (v3+1)) v4 v5 v6
  else none
 else
  some (((0,0,0),false,()),())
noncomputable def Z3g (L1:Qw3) (l_0:List Qlf) (id_1:Int):Option Qpb:=
 L1 l_0 id_1 0 0 0 0
noncomputable def Qq9 (n:Nat):Nat→Qw3:=iter (fun _ _ _ _ _ _=>none) fun L=>Qoe L
noncomputable def Qsi (n m:Nat) (v1:List Qlf) (v2 v3 v4 v5 v6:Int):Option Qpb:=
 Qjv Zbv tab (fiB [.val t29,.val t2] Z2c) n [.val t29,.val t2] [⟨t52,[false,false,false],none⟩,⟨t4,[false],none⟩] Tryz.f70 [1,0,1,0] [] [0,1,4,6] m
 ⟨[(0,Vp t29 v1),(1,Vp t2 v2),(4,V1 (.ptr (4,0) 0)),(6,Vp t2 v3)],[((4,0),Ob.box 53 [LV.pure t2 v4,LV.pure t2 v5,LV.pure t2 v6])]⟩
theorem Z12 (n:Nat):∀ m,Qsi n m=Qq9 n m
 | 0=>rfl
 | m+1=>by rw [show Qsi n (m+1)=Qoe (Qsi n m) from by kernel_rfl,Z12 n m];rfl
noncomputable def Z43 (n:Nat) (l_0:List Qlf) (id_1:Int):Option Qpb:=Z3g (Qq9 n n) l_0 id_1
noncomputable def Qpl (l_0:List Qlf) (id_1:Int):Option Qpb:=Z43 1099511627776 l_0 id_1
noncomputable def Zcn:Ent:=⟨[.val t29,.val t2],[⟨t52,[false,false,false],none⟩,⟨t4,[false],none⟩],fun x=>Qpl x.1 x.2.1⟩
theorem Qz9:GD 70 Zcn:=fnl Z2c (fun n x=>Z43 n x.1 x.2.1) Qk3 Tryz.func70 fun n x=>Eq.trans (b:=Z3g (Qsi n n) x.1 x.2.1) (by kernel_rfl) (by rw [Z12 n n];rfl)
noncomputable def Qud (l_0:List Qlf) (id_1 inc_2:Int):Option ((Bool × Unit) × Unit):=
 Option.bind (Qpl l_0 id_1) fun r1=>
 bif r1.1.2.1 then
  some ((decide (r1.1.1.2.1>inc_2),()),())
 else
  some ((false,()),())
noncomputable def Z5d:Ent:=⟨[.val t29,.val t2,.val t2],[⟨t4,[false],none⟩],fun x=>Qud x.1 x.2.1 x.2.2.1⟩
theorem Z0y:GD 134 Z5d:=fnk 1 (fo [[0,1,2,17,18,19,20],[2,7,8,17,18,19,20],[6]]) (Qjy Qz9 Qk3) Tryz.func134
abbrev Qpa:Type:=(Z63 × Unit) × Unit
noncomputable def Zcb:Ctx:=[]
def Z2n:Fi:={ keep:=[],vty:=[(5,29)],vals:=[],live:=[(0,[0,1]),(1,[0,1,5]),(2,[0,1,5,6]),(3,[0,1,5,6,10]),(4,[0,1,5,6]),(5,[0,1,5,6,19]),(6,[0,1,5,6]),(7,[4])] }
abbrev Qvh:Type:=Z63→Int→Int→Z63→Option Qpa
noncomputable def Qoa (L1:Qvh) (v1:List Qlf) (v2 v3:Int) (v4:List Qlf):Option Qpa:=
 bif decide (v3<(v1.length:Int)) then
  bif decide (0≤v3)&&decide (v3<(v1.length:Int)) then
   bif ((List.getD v1 v3.toNat (0,0,0)).1) != v2 then
    bif decide (0≤v3)&&decide (v3<(v1.length:Int)) then
     bif Nat.ble (v4.length+1) 1073741824 then
      L1 v1 v2 (IntKind.wrap .i64 (v3+1)) (v4++[(List.getD v1 v3.toNat (0,0,0))])
     else none
    else none
   else
    L1 v1 v2 (IntKind.wrap .i64 (v3+1)) v4
  else none
 else
  some ((v4,()),())
noncomputable def Z4c (L1:Qvh) (l_0:List Qlf) (id_1:Int):Option Qpa:=
 L1 l_0 id_1 0 []
noncomputable def Qq6 (n:Nat):Nat→Qvh:=iter (fun _ _ _ _=>none) fun L=>Qoa L
noncomputable def Qsf (n m:Nat) (v1:List Qlf) (v2 v3:Int) (v4:List Qlf):Option Qpa:=
 Qjv Zcb tab (fiB [.val t29,.val t2] Z2n) n [.val t29,.val t2] [⟨t29,[true],none⟩] Tryz.f139 [1,1,0,1,0] [] [0,1,5,6] m
 ⟨[(0,Vp t29 v1),(1,Vp t2 v2),(5,V1 (.ref (888888,5))),(6,Vp t2 v3)],[((888888,5),Ob.row 53 t52 v4)]⟩
theorem Z06 (n:Nat):∀ m,Qsf n m=Qq6 n m
 | 0=>rfl
 | m+1=>by rw [show Qsf n (m+1)=Qoa (Qsf n m) from by kernel_rfl,Z06 n m];rfl
noncomputable def Z47 (n:Nat) (l_0:List Qlf) (id_1:Int):Option Qpa:=Z4c (Qq6 n n) l_0 id_1
noncomputable def Qt9 (l_0:List Qlf) (id_1:Int):Option Qpa:=Z47 1099511627776 l_0 id_1
noncomputable def Z3p:Ent:=⟨[.val t29,.val t2],[⟨t29,[true],none⟩],fun x=>Qt9 x.1 x.2.1⟩
theorem Qym:GD 139 Z3p:=fnl Z2n (fun n x=>Z47 n x.1 x.2.1) Qk3 Tryz.func139 fun n x=>Eq.trans (b:=Z4c (Qsf n n) x.1 x.2.1) (by kernel_rfl) (by rw [Z06 n n];rfl)
abbrev Qp8:Type:=(Z63 × Bool × Unit) × Unit
noncomputable def Zco:Ctx:=[(136,Qjh),(134,Z5d),(139,Z3p)]
def Z2f:Fi:={ keep:=[],vty:=[],vals:=[],live:=[(0,[0,3]),(1,[0,3,13]),(2,[4,5]),(3,[3,6]),(4,[3,6,7]),(5,[3,6,7,22]),(6,[3,6,7]),(7,[3,6,7,32]),(8,[4,5]),(9,[4,5])],melt:=[(8,1000006)] }
abbrev Qvr:Type:=Int→Int→Int→Int→Z63→Option Qp8
noncomputable def Qnv (L1:Qvr) (v3 v4 v5 v6:Int) (v7:List Qlf):Option Qp8:=
 bif decide (v3<(v7.length:Int)) then
  bif decide (0≤v3)&&decide (v3<(v7.length:Int)) then
   bif decide (0≤v3)&&decide (v3<(v7.length:Int)) then
    bif decide ((List.getD v7 v3.toNat (0,0,0)).1>v4) then
     bif decide (0≤v3)&&decide (v3≤(((List.map some v7).length:Nat):Int)) then
      bif Nat.ble (0+((v3 - 0).toNat)) ((List.map some v7).length) then
       Option.bind (Qd (List.take ((v3 - 0).toNat) (List.drop 0 (List.map some v7)))) fun z8=>
       bif Nat.ble (0+z8.length) 1073741824 then
        bif Nat.ble (([]++z8).length+1) 1073741824 then
         bif (decide (0≤v3)&&decide (v3≤((v7.length:Nat):Int)))&&decide (((v7.length:Nat):Int)≤(((List.map some v7).length:Nat):Int)) then
          bif Nat.ble ((0+v3.toNat)+((((v7.length:Nat):Int) - v3).toNat)) ((List.map some v7).length) then
           Option.bind (Qd (List.take ((((v7.length:Nat):Int) - v3).toNat) (List.drop (0+v3.toNat) (List.map some v7)))) fun z9=>
           bif Nat.ble (((([]++z8)++[(v4,v5,v6)]).length)+z9.length) 1073741824 then
            some (((([]++z8)++[(v4,v5,v6)])++z9,true,()),())
           else none
          else none
         else none
        else none
       else none
      else none
     else none
    else
     L1 (IntKind.wrap .i64 (v3+1)) v4 v5 v6 v7
   else none
  else none
 else
 bif Nat.ble (v7.length+1) 1073741824 then
  some ((v7++[(v4,v5,v6)],true,()),())
 else none
noncomputable def Qto (L1:Qvr) (l_0:List Qlf) (k_1:Int × Int × Int):Option Qp8:=
 Option.bind (Qud l_0 k_1.1 k_1.2.1) fun r1=>
 bif r1.1.1 then
  some ((l_0,false,()),())
 else
  Option.bind (Qt9 l_0 k_1.1) fun r2=>
  L1 0 k_1.1 k_1.2.1 k_1.2.2 r2.1.1
noncomputable def Qo7 (n:Nat):Nat→Qvr:=iter (fun _ _ _ _ _=>none) fun L=>Qnv L
noncomputable def Qsd (n m:Nat) (v3 v4 v5 v6:Int) (v7:List Qlf):Option Qp8:=
 Qjv Zco tab (fiB [.val t29,.val t52] Z2f) n [.val t29,.val t52] [⟨t29,[false],none⟩,⟨t4,[false],none⟩] Tryz.f136 [1,1,1,0,1,0] [] [3,6,7] m
 ⟨[(3,V1 (.ptr (3,0) 0)),(6,V1 (.ref (888888,6))),(7,Vp t2 v3)],[((3,0),Ob.box 53 [LV.pure t2 v4,LV.pure t2 v5,LV.pure t2 v6]),((888888,6),Ob.row 53 t52 v7)]⟩
theorem Z00 (n:Nat):∀ m,Qsd n m=Qo7 n m
 | 0=>rfl
 | m+1=>by rw [show Qsd n (m+1)=Qnv (Qsd n m) from by kernel_rfl,Z00 n m];rfl
noncomputable def Z3c (n:Nat) (l_0:List Qlf) (k_1:Int × Int × Int):Option Qp8:=Qto (Qo7 n n) l_0 k_1
noncomputable def Qr0 (l_0:List Qlf) (k_1:Int × Int × Int):Option Qp8:=Z3c 1099511627776 l_0 k_1
noncomputable def Zc6:Ent:=⟨[.val t29,.val t52],[⟨t29,[false],none⟩,⟨t4,[false],none⟩],fun x=>Qr0 x.1 x.2.1⟩
theorem Z81:GD 136 Zc6:=fnl Z2f (fun n x=>Z3c n x.1 x.2.1) (Qjy (Qjx Tryz.func136 (by kernel_rfl) (by kernel_rfl)) (Qjy Z0y (Qjy Qym Qk3))) Tryz.func136 fun n x=>Eq.trans (b:=Qto (Qsd n n) x.1 x.2.1) (by kernel_rfl) (by rw [Z00 n n];rfl)
noncomputable def Quj (p_0:List Int):Option ((Int × Unit) × Unit):=
 bif decide ((p_0.length:Int)<2) then
  some ((0,()),())
 else
 bif decide (0≤IntKind.wrap .i64 ((p_0.length:Int) - 2))&&decide (IntKind.wrap .i64 ((p_0.length:Int) - 2)<(p_0.length:Int)) then
  some ((List.getD p_0 ((IntKind.wrap .i64 ((p_0.length:Int) - 2)).toNat) 0,()),())
 else none
noncomputable def Zao:Ent:=⟨[.val t28],[⟨t2,[false],none⟩],fun x=>Quj x.1⟩
theorem Z7g:GD 171 Zao:=fnk 1 (fo [[0],[0,5],[2],[2]]) Qk3 Tryz.func171
noncomputable def Qpd (p_0:List Int):Option ((Int × Unit) × Unit):=
 Option.bind (Quj p_0) fun r1=>
 bif r1.1.1==0 then
  some ((1,()),())
 else
  some ((r1.1.1,()),())
noncomputable def Z9f:Ent:=⟨[.val t28],[⟨t2,[false],none⟩],fun x=>Qpd x.1⟩
theorem Qwz:GD 138 Z9f:=fnk 1 (fo [[0],[3],[3,7],[2],[2]]) (Qjy Z7g Qk3) Tryz.func138
noncomputable def Qow (t_0:Int × Int × Int × Int × Int × Int × (List Int) × Int × Int × Int × Int × Int × List Qlf) (m_1:Int × Int × Int × Int × Int × Int × (List Int) × Int × Int × ByteArray):Option ((Qwg × Zau × Unit) × Unit):=
 Option.bind (Qk6 (u11 (u9 t_0 0) (IntKind.wrap .i64 ((g11 t_0)+1))) 6 m_1.2.1) fun r5=>
 some (((u11 (u9 t_0 0) (IntKind.wrap .i64 ((g11 t_0)+1))),[r5.1.1],()),())
noncomputable def Qoq (t_0:Int × Int × Int × Int × Int × Int × (List Int) × Int × Int × Int × Int × Int × List Qlf) (m_1:Int × Int × Int × Int × Int × Int × (List Int) × Int × Int × ByteArray):Option ((Qwg × Zau × Unit) × Unit):=
 bif (g9 t_0)==0 then
  Option.bind (Qk6 t_0 6 m_1.2.1) fun r1=>
  some ((t_0,[r1.1.1],()),())
 else
 bif (g9 t_0) != m_1.2.1 then
  Option.bind (Qk6 t_0 6 m_1.2.1) fun r2=>
  some ((t_0,[r2.1.1],()),())
 else
 bif (g3 t_0) != 0 then
  Option.bind (Qk6 t_0 6 m_1.2.1) fun r3=>
  some ((t_0,[r3.1.1],()),())
 else
  Option.bind (Qmu (g6 m_1) t_0.1) fun r4=>
  bif !r4.1.2.1 then
   Qow t_0 m_1
  else
  bif decide ((g5 m_1)>20) then
   Qow t_0 m_1
  else
   Option.bind (Qpd (g6 m_1)) fun r7=>
   some (((u11 (u9 (u8 (u7 (u6 (u5 (u4 (u3 t_0 m_1.2.1) (g3 m_1)) r7.1.1) r4.1.1) (g4 m_1)) (IntKind.wrap .i64 (t_0.2.2.1 - (g5 m_1)))) 0) 0),[],()),())
noncomputable def Qm8 (t_0:Int × Int × Int × Int × Int × Int × (List Int) × Int × Int × Int × Int × Int × List Qlf) (m_1:Int × Int × Int × Int × Int × Int × (List Int) × Int × Int × ByteArray):Option ((Qwg × Zau × Unit) × Unit):=
 bif (g3 t_0) != 0 then
  bif m_1.2.1==(g3 t_0) then
   some ((t_0,[],()),())
  else
   Qoq t_0 m_1
 else
  Qoq t_0 m_1
noncomputable def Z5o:Ent:=⟨[.val t30,.val t45],[⟨t30,(nF 13),none⟩,⟨t48,[true],none⟩],fun x=>Qm8 x.1 x.2.1⟩
theorem Z2r:GD 137 Z5o:=fnk 1 (fo [[2,3,4,12,13,14,15,16,23,24,25,26,27,30,31,32,52,53,54],[2,3,4,17,23,24,25,26,27,30,31,32,52,53,54],[4,5],[2,3,4,33,52,53,54],[4,5],[2,3,4,6,7,52,53,54],[2,3,4,6,7,52,53,54],[2,3,4,6,55],[2,3,4],[4,5],[2,3,4],[2,4],[4,5]]) (Qjy Qpy (Qjy Qrr (Qjy Qwz Qk3))) Tryz.func137
noncomputable def Qqn (r2:(Qwg × Unit) × Unit) (x_1:Int × Int × Int × Int × Int × Int × (List Int) × Int × Int × ByteArray) (x_2:Int):Option ((Qwg × Zau × Unit) × Unit):=
 Option.bind (Qr0 (h12 r2.1.1) (x_1.2.1,(g3 x_1),r2.1.1.2.2.1)) fun r9=>
 Option.bind (Qn5 (e12 r2.1.1 r9.1.1) 2 x_1.2.1) fun r10=>
 some (((e12 r2.1.1 r9.1.1),[(u7 r10.1.1 x_2)],()),())
noncomputable def Qz8 (r2:(Qwg × Unit) × Unit) (x_1:Int × Int × Int × Int × Int × Int × (List Int) × Int × Int × ByteArray) (x_2:Int):Option ((Qwg × Zau × Unit) × Unit):=
 Option.bind (Qpl (h12 r2.1.1) x_1.2.1) fun r3=>
 bif r2.1.1.1==1 then
  Option.bind (Qld r2.1.1) fun r4=>
  bif !r4.1.1 then
   Option.bind (Qk6 r2.1.1 3 x_1.2.1) fun r5=>
   some ((r2.1.1,[r5.1.1],()),())
  else
   Option.bind (Qqk (g6 r2.1.1) x_1.2.1) fun r6=>
   bif r6.1.1 then
    Option.bind (Qk6 r2.1.1 3 x_1.2.1) fun r7=>
    some ((r2.1.1,[r7.1.1],()),())
   else
   bif !r3.1.2.1 then
    bif decide (((h12 r2.1.1).length:Int) ≥ 8) then
     Option.bind (Qk6 r2.1.1 3 x_1.2.1) fun r8=>
     some ((r2.1.1,[r8.1.1],()),())
    else
     Qqn r2 x_1 x_2
   else
    Qqn r2 x_1 x_2
 else
  Option.bind (Qld r2.1.1) fun r13=>
  bif !r13.1.1 then
   Option.bind (Qk6 r2.1.1 3 x_1.2.1) fun r14=>
   some ((r2.1.1,[r14.1.1],()),())
  else
   Option.bind (Qqk (g6 r2.1.1) x_1.2.1) fun r15=>
   bif r15.1.1 then
    Option.bind (Qk6 r2.1.1 3 x_1.2.1) fun r16=>
    some ((r2.1.1,[r16.1.1],()),())
   else
   bif !r3.1.2.1 then
    bif decide (((h12 r2.1.1).length:Int) ≥ 3) then
     Option.bind (Qk6 r2.1.1 3 x_1.2.1) fun r17=>
     some ((r2.1.1,[r17.1.1],()),())
    else
     Qqn r2 x_1 x_2
   else
    Qqn r2 x_1 x_2
noncomputable def Qyi (r2:(Qwg × Unit) × Unit) (x_1:Int × Int × Int × Int × Int × Int × (List Int) × Int × Int × ByteArray):Option ((Qwg × Zau × Unit) × Unit):=
 Option.bind (Qpl (h12 r2.1.1) x_1.2.1) fun r26=>
 bif !r26.1.2.1 then
  Option.bind (Qk6 r2.1.1 3 x_1.2.1) fun r27=>
  some ((r2.1.1,[r27.1.1],()),())
 else
  Option.bind (Qr0 (h12 r2.1.1) (x_1.2.1,(g3 x_1),r2.1.1.2.2.1)) fun r28=>
  some (((e12 r2.1.1 r28.1.1),[],()),())
noncomputable def Qyh (x_1:Int × Int × Int × Int × Int × Int × (List Int) × Int × Int × ByteArray) (r2:(Qwg × Unit) × Unit):Option ((Qwg × Zau × Unit) × Unit):=
 bif x_1.1==6 then
  Option.bind (Qt9 (h12 r2.1.1) x_1.2.1) fun r34=>
  some (((e12 r2.1.1 r34.1.1),[],()),())
 else
  some ((r2.1.1,[],()),())
noncomputable def Qn3 (arr_0:Int × Int × Int × Int × Int × Int × (List Int) × Int × Int × Int × Int × Int × List Qlf) (x_1:Int × Int × Int × Int × Int × Int × (List Int) × Int × Int × ByteArray) (x_2:Int):Option ((Qwg × Zau × Unit) × Unit):=
 Option.bind (Qr0 (h12 arr_0) (x_1.2.1,(g3 x_1),arr_0.2.2.1)) fun r66=>
 Option.bind (Qn5 (e12 arr_0 r66.1.1) 2 x_1.2.1) fun r67=>
 some (((e12 arr_0 r66.1.1),[(u7 r67.1.1 x_2)],()),())
noncomputable def Qqx (arr_0:Int × Int × Int × Int × Int × Int × (List Int) × Int × Int × Int × Int × Int × List Qlf) (x_1:Int × Int × Int × Int × Int × Int × (List Int) × Int × Int × ByteArray) (x_2:Int):Option ((Qwg × Zau × Unit) × Unit):=
 Option.bind (Qpl (h12 arr_0) x_1.2.1) fun r60=>
 bif arr_0.1==1 then
  Option.bind (Qld arr_0) fun r61=>
  bif !r61.1.1 then
   Option.bind (Qk6 arr_0 3 x_1.2.1) fun r62=>
   some ((arr_0,[r62.1.1],()),())
  else
   Option.bind (Qqk (g6 arr_0) x_1.2.1) fun r63=>
   bif r63.1.1 then
    Option.bind (Qk6 arr_0 3 x_1.2.1) fun r64=>
    some ((arr_0,[r64.1.1],()),())
   else
   bif !r60.1.2.1 then
    bif decide (((h12 arr_0).length:Int) ≥ 8) then
     Option.bind (Qk6 arr_0 3 x_1.2.1) fun r65=>
     some ((arr_0,[r65.1.1],()),())
    else
     Qn3 arr_0 x_1 x_2
   else
    Qn3 arr_0 x_1 x_2
 else
  Option.bind (Qld arr_0) fun r70=>
  bif !r70.1.1 then
   Option.bind (Qk6 arr_0 3 x_1.2.1) fun r71=>
   some ((arr_0,[r71.1.1],()),())
  else
   Option.bind (Qqk (g6 arr_0) x_1.2.1) fun r72=>
   bif r72.1.1 then
    Option.bind (Qk6 arr_0 3 x_1.2.1) fun r73=>
    some ((arr_0,[r73.1.1],()),())
   else
   bif !r60.1.2.1 then
    bif decide (((h12 arr_0).length:Int) ≥ 3) then
     Option.bind (Qk6 arr_0 3 x_1.2.1) fun r74=>
     some ((arr_0,[r74.1.1],()),())
    else
     Qn3 arr_0 x_1 x_2
   else
    Qn3 arr_0 x_1 x_2
noncomputable def Qqy (arr_0:Int × Int × Int × Int × Int × Int × (List Int) × Int × Int × Int × Int × Int × List Qlf) (x_1:Int × Int × Int × Int × Int × Int × (List Int) × Int × Int × ByteArray):Option ((Qwg × Zau × Unit) × Unit):=
 Option.bind (Qpl (h12 arr_0) x_1.2.1) fun r83=>
 bif !r83.1.2.1 then
  Option.bind (Qk6 arr_0 3 x_1.2.1) fun r84=>
  some ((arr_0,[r84.1.1],()),())
 else
  Option.bind (Qr0 (h12 arr_0) (x_1.2.1,(g3 x_1),arr_0.2.2.1)) fun r85=>
  some (((e12 arr_0 r85.1.1),[],()),())
noncomputable def Qqu (x_1:Int × Int × Int × Int × Int × Int × (List Int) × Int × Int × ByteArray) (arr_0:Int × Int × Int × Int × Int × Int × (List Int) × Int × Int × Int × Int × Int × List Qlf):Option ((Qwg × Zau × Unit) × Unit):=
 bif x_1.1==6 then
  Option.bind (Qt9 (h12 arr_0) x_1.2.1) fun r91=>
  some (((e12 arr_0 r91.1.1),[],()),())
 else
  some ((arr_0,[],()),())
noncomputable def Qm6 (arr_0:Int × Int × Int × Int × Int × Int × (List Int) × Int × Int × Int × Int × Int × List Qlf) (x_1:Int × Int × Int × Int × Int × Int × (List Int) × Int × Int × ByteArray) (x_2:Int):Option ((Qwg × Zau × Unit) × Unit):=
 bif (g3 arr_0) != 0 then
  bif x_1.1==1 then
   Qqx arr_0 x_1 x_2
  else
  bif x_1.1==2 then
   Option.bind (Qm8 arr_0 x_1) fun r79=>
   some ((r79.1.1,r79.1.2.1,()),())
  else
  bif x_1.1==3 then
   bif (g9 arr_0) != 0 then
    bif (g9 arr_0)==x_1.2.1 then
     bif x_1.2.1==(g3 arr_0) then
      Option.bind (Qla (u11 (u9 arr_0 0) (IntKind.wrap .i64 ((g11 arr_0)+1))) 0) fun r80=>
      some ((r80.1.1,[],()),())
     else
      some (((u11 (u9 arr_0 0) (IntKind.wrap .i64 ((g11 arr_0)+1))),[],()),())
    else
    bif x_1.2.1==(g3 arr_0) then
     Option.bind (Qla arr_0 0) fun r81=>
     some ((r81.1.1,[],()),())
    else
     some ((arr_0,[],()),())
   else
   bif x_1.2.1==(g3 arr_0) then
    Option.bind (Qla arr_0 0) fun r82=>
    some ((r82.1.1,[],()),())
   else
    some ((arr_0,[],()),())
  else
  bif x_1.1==4 then
   Qqy arr_0 x_1
  else
  bif x_1.1==5 then
   bif !(x_1.2.1==(g3 arr_0)) then
    Option.bind (Qk6 arr_0 6 x_1.2.1) fun r86=>
    some ((arr_0,[r86.1.1],()),())
   else
    Option.bind (Qmu (g6 x_1) arr_0.1) fun r87=>
    bif !r87.1.2.1 then
     Option.bind (Qla arr_0 1) fun r88=>
     Option.bind (Qk6 arr_0 6 x_1.2.1) fun r89=>
     some ((r88.1.1,[r89.1.1],()),())
    else
     Option.bind (Qpd (g6 x_1)) fun r90=>
     bif decide (IntKind.wrap .i64 (arr_0.2.2.1 - (g5 x_1))>(g8 arr_0)) then
      some (((u8 (u7 (u6 (u5 arr_0 r90.1.1) r87.1.1) (g4 x_1)) (IntKind.wrap .i64 (arr_0.2.2.1 - (g5 x_1)))),[],()),())
     else
      some (((u6 (u5 arr_0 r90.1.1) r87.1.1),[],()),())
  else
   Qqu x_1 arr_0
 else
 bif x_1.1==1 then
  Qqx arr_0 x_1 x_2
 else
 bif x_1.1==2 then
  Option.bind (Qm8 arr_0 x_1) fun r111=>
  some ((r111.1.1,r111.1.2.1,()),())
 else
 bif x_1.1==3 then
  bif (g9 arr_0) != 0 then
   bif (g9 arr_0)==x_1.2.1 then
    some (((u11 (u9 arr_0 0) (IntKind.wrap .i64 ((g11 arr_0)+1))),[],()),())
   else
    some ((arr_0,[],()),())
  else
   some ((arr_0,[],()),())
 else
 bif x_1.1==4 then
  Qqy arr_0 x_1
 else
 bif x_1.1==5 then
  Option.bind (Qk6 arr_0 6 x_1.2.1) fun r115=>
  some ((arr_0,[r115.1.1],()),())
 else
  Qqu x_1 arr_0
noncomputable def Qt5 (x_1:Int × Int × Int × Int × Int × Int × (List Int) × Int × Int × ByteArray) (arr_0:Int × Int × Int × Int × Int × Int × (List Int) × Int × Int × Int × Int × Int × List Qlf) (x_2:Int):Option ((Qwg × Zau × Unit) × Unit):=
 bif x_1.2.1==(g3 arr_0) then
  bif decide ((g3 x_1)>(g4 arr_0)) then
   Option.bind (Qla arr_0 0) fun r2=>
   bif (g3 r2.1.1) != 0 then
    bif x_1.1==1 then
     Qz8 r2 x_1 x_2
    else
    bif x_1.1==2 then
     Option.bind (Qm8 r2.1.1 x_1) fun r22=>
     some ((r22.1.1,r22.1.2.1,()),())
    else
    bif x_1.1==3 then
     bif (g9 r2.1.1) != 0 then
      bif (g9 r2.1.1)==x_1.2.1 then
       bif x_1.2.1==(g3 r2.1.1) then
        Option.bind (Qla (u11 (u9 r2.1.1 0) (IntKind.wrap .i64 ((g11 r2.1.1)+1))) 0) fun r23=>
        some ((r23.1.1,[],()),())
       else
        some (((u11 (u9 r2.1.1 0) (IntKind.wrap .i64 ((g11 r2.1.1)+1))),[],()),())
      else
      bif x_1.2.1==(g3 r2.1.1) then
       Option.bind (Qla r2.1.1 0) fun r24=>
       some ((r24.1.1,[],()),())
      else
       some ((r2.1.1,[],()),())
     else
     bif x_1.2.1==(g3 r2.1.1) then
      Option.bind (Qla r2.1.1 0) fun r25=>
      some ((r25.1.1,[],()),())
     else
      some ((r2.1.1,[],()),())
    else
    bif x_1.1==4 then
     Qyi r2 x_1
    else
    bif x_1.1==5 then
     bif !(x_1.2.1==(g3 r2.1.1)) then
      Option.bind (Qk6 r2.1.1 6 x_1.2.1) fun r29=>
      some ((r2.1.1,[r29.1.1],()),())
     else
      Option.bind (Qmu (g6 x_1) r2.1.1.1) fun r30=>
      bif !r30.1.2.1 then
       Option.bind (Qla r2.1.1 1) fun r31=>
       Option.bind (Qk6 r2.1.1 6 x_1.2.1) fun r32=>
       some ((r31.1.1,[r32.1.1],()),())
      else
       Option.bind (Qpd (g6 x_1)) fun r33=>
       bif decide (IntKind.wrap .i64 (r2.1.1.2.2.1 - (g5 x_1))>(g8 r2.1.1)) then
        some (((u8 (u7 (u6 (u5 r2.1.1 r33.1.1) r30.1.1) (g4 x_1)) (IntKind.wrap .i64 (r2.1.1.2.2.1 - (g5 x_1)))),[],()),())
       else
        some (((u6 (u5 r2.1.1 r33.1.1) r30.1.1),[],()),())
    else
     Qyh x_1 r2
   else
   bif x_1.1==1 then
    Qz8 r2 x_1 x_2
   else
   bif x_1.1==2 then
    Option.bind (Qm8 r2.1.1 x_1) fun r54=>
    some ((r54.1.1,r54.1.2.1,()),())
   else
   bif x_1.1==3 then
    bif (g9 r2.1.1) != 0 then
     bif (g9 r2.1.1)==x_1.2.1 then
      some (((u11 (u9 r2.1.1 0) (IntKind.wrap .i64 ((g11 r2.1.1)+1))),[],()),())
     else
      some ((r2.1.1,[],()),())
    else
     some ((r2.1.1,[],()),())
   else
   bif x_1.1==4 then
    Qyi r2 x_1
   else
   bif x_1.1==5 then
    Option.bind (Qk6 r2.1.1 6 x_1.2.1) fun r58=>
    some ((r2.1.1,[r58.1.1],()),())
   else
    Qyh x_1 r2
  else
   Qm6 arr_0 x_1 x_2
 else
  Qm6 arr_0 x_1 x_2
noncomputable def Qm4 (arr_0:Int × Int × Int × Int × Int × Int × (List Int) × Int × Int × Int × Int × Int × List Qlf) (x_1:Int × Int × Int × Int × Int × Int × (List Int) × Int × Int × ByteArray) (x_2:Int):Option ((Qwg × Zau × Unit) × Unit):=
 Option.bind (Qud (h12 arr_0) x_1.2.1 (g3 x_1)) fun r1=>
 bif r1.1.1 then
  some ((arr_0,[],()),())
 else
 bif x_1.2.1==(g3 arr_0) then
  bif decide ((g3 x_1)<(g4 arr_0)) then
   some ((arr_0,[],()),())
  else
   Qt5 x_1 arr_0 x_2
 else
  Qt5 x_1 arr_0 x_2
noncomputable def Qzy:Ent:=⟨[.val t30,.val t45,.val t2],[⟨t30,(nF 13),none⟩,⟨t48,[true],none⟩],fun x=>Qm4 x.1 x.2.1 x.2.2.1⟩
theorem Z5p:GD 65 Qzy:=fnk 1 (fo [[2,3,4,6,25,26,27,28,29,30,31,32,33,34,35,36,45,46,47,48,49,57,58,59,60,61,82,83,84,85,86,89,90,91,92,93,94,95,96,97,141,142,143,144,145],[2,3,4,6,37,45,46,47,48,49,57,58,59,60,61,82,83,84,85,86,89,90,91,92,93,94,95,96,97,141,142,143,144,145],[6,7],[2,3,4,6,50,57,58,59,60,61,82,83,84,85,86,89,90,91,92,93,94,95,96,97,141,142,143,144,145],[2,3,4,6,57,58,59,60,61,82,83,84,85,86,89,90,91,92,93,94,95,96,97,141,142,143,144,145],[2,3,4,6,8,82,83,84,85,86,89,90,91,92,93,94,95,96,97,141,142,143,144,145],[2,3,4,6,8,64,82,83,84,85,86,89,90,91,92,93,94,95,96,97,141,142,143,144,145],[2,3,4,6,8,64,65,82,83,84,85,86,89,90,91,92,93,94,95,96,97,141,142,143,144,145],[2,3,4,6,10,82,83,84,85,86,89,90,91,92,93,94,95,96,97],[2,3,4,6,10,11,82,83,84,85,86,89,90,91,92,93,94,95,96,97],[2,3,4,6,10,11,77,82,83,84,85,86,89,90,91,92,93,94,95,96,97],[2,3,4,6,10,11,82,83,84,85,86,89,90,91,92,93,94,95,96,97],[2,3,4,6,98],[6,7],[2,3,4,6],[2,3,6,12],[3,6,12],[6,7],[3,4,6,8,64,128,141,142,143,144,145],[6,7],[3,4,6,8,64,135,141,142,143,144,145],[3,6,8,146],[3,6,8],[3,6,152],[3,6],[3,4,6,8,64,155],[3,4,6,14],[3,4,6,166],[6,7],[3,6],[3,4,6,8,64,187],[3,4,6,190],[6,7],[3,4,6,15,16],[3,4,6,15,206],[6,7],[3,4,6],[3,4,6,227],[3,6],[3,4,6,237],[3,6],[6,7]]) (Qjy Qpy (Qjy Qz9 (Qjy Qrr (Qjy Qx1 (Qjy Qz4 (Qjy Qxx (Qjy Z0y (Qjy Z0m (Qjy Z81 (Qjy Z2r (Qjy Qwz (Qjy Qym Qk3)))))))))))) Tryz.func65
abbrev Qkk:Type:=(Qwg × Unit) × (Zcu × Unit)
noncomputable def Qwn:Ctx:=[(17,Qsb),(25,Qrj),(26,Qpt),(38,Z3f),(43,Qvu),(60,Z2e),(65,Qzy)]
def Qs4:Fi:=fo [[0,1,2,6,21,22,23,53,54,55,56],[0,1,2,6,7,21,22,23,53,54,55,56],[0,1,2,6,7,8,21,22,23,53,54,55,56],[0,1,2,6,7,8,21,22,23,24,53,54,55,56],[0,1,2,6,7,8,21,22,23,53,54,55,56],[0,1,2,6,7,8,21,22,23,28,53,54,55,56],[0,1,2,6,7,8,21,22,23,53,54,55,56],[0,1,2,6,7,8,21,22,23,28,37,53,54,55,56],[0,1,2,6,7,8,21,22,23,53,54,55,56],[0,1,2,6,7,8,21,22,23,28,44,53,54,55,56],[0,1,2,6,7,8,9,21,22,23,53,54,55,56],[0,1,2,6,7,8,9,21,22,23,53,54,55,56,57],[0,1,2,6,7,8,9,21,22,23,53,54,55,56],[0,1,2,6,7,8,21,22,23,53,54,55,56],[0,1,2,6,7,8,21,22,23,53,54,55,56,83],[0,1,2,6,7,8,10,21,22,23,53,54,55,56],[0,1,2,6,7,8,10,21,22,23,53,54,55,56,90],[0,1,2,6,7,8,10,21,22,23,53,54,55,56],[0,1,2,6,7,8,21,22,23,53,54,55,56],[0,6]]
abbrev Qw8:Type:=Int→Int→Int→List Int→Int→Int→Int→Int→Int→Int→Int→Int→Int→Int→Int→Int→List Int→Z63→Int→Int→Int→Int→Int→Int→Int→Int→Int→Int→Int→List Int→Z63→Option Qkk
abbrev Qp2:Type:=Int→Int→Int→List Int→Int→Int→Int→Int→Int→Int→Int→Int→Int→Int→Int→Int→List Int→Z63→Int→Int→Int→Int→Int→Int→List Int→Int→Int→Int→Int→Int→Z63→Option Qkk
noncomputable def Qku (v22 v23 v24 v25 v26 v27:Int) (v33:List Int) (v28 v29 v30 v31 v32:Int) (v34:List Qlf) (r90:(Z18 × Unit) × (Zcu × Unit)) (L2:Qp2) (v4 v5 v6 v9 v10 v11 v12 v13 v14 v15 v16 v17 v18 v19:Int) (v20:List Int) (v21:List Qlf):Option Qkk:=
 Option.bind (Qm4 (v22,v23,v24,v25,v26,v27,v33,v28,v29,v30,v31,v32,v34) r90.1.1 1) fun r97=>
 L2 v4 v5 (IntKind.wrap .i64 (v6+1)) r90.2.1.1 r90.2.1.2 v9 v10 v11 v12 v13 v14 v15 v16 v17 v18 v19 v20 v21 r97.1.1.1 r97.1.1.2.1 r97.1.1.2.2.1 (g3 r97.1.1) (g4 r97.1.1) (g5 r97.1.1) (g6 r97.1.1) (g7 r97.1.1) (g8 r97.1.1) (g9 r97.1.1) (g10 r97.1.1) (g11 r97.1.1) (h12 r97.1.1)
noncomputable def Qvt (L2:Qp2) (v4 v5 v6:Int) (v7:List Int) (v8 v9 v10 v11 v12 v13 v14 v15 v16 v17 v18 v19:Int) (v20:List Int) (v21:List Qlf) (v22 v23 v24 v25 v26 v27 v28 v29 v30 v31 v32:Int) (v33:List Int) (v34:List Qlf):Option Qkk:=
 bif decide (v6<v5) then
  Option.bind (Qnu (v7,v8)) fun r35=>
  bif !r35.1.1 then
   Option.bind (Qk5 r35.2.1 4) fun r36=>
   bif r36.1.1==0 then
    Option.bind (Qum (v22,v23,v24,v25,v26,v27,v33,v28,v29,v30,v31,v32,v34)) fun r37=>
    L2 v4 v5 (IntKind.wrap .i64 (v6+1)) r36.2.1.1 r36.2.1.2 v9 v10 v11 v12 v13 v14 v15 v16 v17 v18 v19 v20 v21 r37.1.1.1 r37.1.1.2.1 r37.1.1.2.2.1 (g3 r37.1.1) (g4 r37.1.1) (g5 r37.1.1) (g6 r37.1.1) (g7 r37.1.1) (g8 r37.1.1) (g9 r37.1.1) (g10 r37.1.1) (g11 r37.1.1) (h12 r37.1.1)
   else
   bif r36.1.1==1 then
    Option.bind (Qkp r36.2.1 v4) fun r90=>
    bif v30 != 0 then
     bif v30 != v4 then
      Option.bind (Qk5 r90.2.1 2) fun r91=>
      Option.bind (Qk5 r91.2.1 9) fun r92=>
      Option.bind (Qk5 r92.2.1 22) fun r93=>
      Option.bind (Qkh r93.2.1) fun r94=>
      bif decide (1≤(r94.1.1.length:Int))&&decide ((r94.1.1.length:Int)≤(r94.1.1.length:Int)) then
       bif Nat.ble (1+(List.drop 1 (List.take ((r94.1.1.length:Int).toNat) r94.1.1)).length) 1073741824 then
        Option.bind (Qk5 r94.2.1 4) fun r95=>
        Option.bind (Qm4 (v22,v23,v24,v25,v26,v27,v33,v28,v29,v30,v31,v32,v34) (2,v30,v4,IntKind.wrap .i64 (1+r91.1.1),r92.1.1,r93.1.1,[1]++(List.drop 1 (List.take ((r94.1.1.length:Int).toNat) r94.1.1)),IntKind.wrap .i64 (1+r95.1.1),0,(⟨#[]⟩:ByteArray)) 1) fun r96=>
        L2 v4 v5 (IntKind.wrap .i64 (v6+1)) r95.2.1.1 r95.2.1.2 v9 v10 v11 v12 v13 v14 v15 v16 v17 v18 v19 v20 v21 r96.1.1.1 r96.1.1.2.1 r96.1.1.2.2.1 (g3 r96.1.1) (g4 r96.1.1) (g5 r96.1.1) (g6 r96.1.1) (g7 r96.1.1) (g8 r96.1.1) (g9 r96.1.1) (g10 r96.1.1) (g11 r96.1.1) (h12 r96.1.1)
       else none
      else none
     else
      Qku v22 v23 v24 v25 v26 v27 v33 v28 v29 v30 v31 v32 v34 r90 L2 v4 v5 v6 v9 v10 v11 v12 v13 v14 v15 v16 v17 v18 v19 v20 v21
    else
     Qku v22 v23 v24 v25 v26 v27 v33 v28 v29 v30 v31 v32 v34 r90 L2 v4 v5 v6 v9 v10 v11 v12 v13 v14 v15 v16 v17 v18 v19 v20 v21
   else
   bif r36.1.1==2 then
    Option.bind (Qkp r36.2.1 v4) fun r99=>
    bif v25 != 0 then
     Option.bind (Qk5 r99.2.1 30) fun r100=>
     Option.bind (Qk5 r100.2.1 20) fun r101=>
     Option.bind (Qkh r101.2.1) fun r102=>
     Option.bind (Qk5 r102.2.1 9) fun r103=>
     Option.bind (Qm4 (v22,v23,v24,v25,v26,v27,v33,v28,v29,v30,v31,v32,v34) (5,v25,v4,v26,r100.1.1,r101.1.1,r102.1.1,0,r103.1.1,(⟨#[]⟩:ByteArray)) 1) fun r104=>
     L2 v4 v5 (IntKind.wrap .i64 (v6+1)) r103.2.1.1 r103.2.1.2 v9 v10 v11 v12 v13 v14 v15 v16 v17 v18 v19 v20 v21 r104.1.1.1 r104.1.1.2.1 r104.1.1.2.2.1 (g3 r104.1.1) (g4 r104.1.1) (g5 r104.1.1) (g6 r104.1.1) (g7 r104.1.1) (g8 r104.1.1) (g9 r104.1.1) (g10 r104.1.1) (g11 r104.1.1) (h12 r104.1.1)
    else
     Qku v22 v23 v24 v25 v26 v27 v33 v28 v29 v30 v31 v32 v34 r99 L2 v4 v5 v6 v9 v10 v11 v12 v13 v14 v15 v16 v17 v18 v19 v20 v21
   else
    Option.bind (Qkp r36.2.1 v4) fun r106=>
    Qku v22 v23 v24 v25 v26 v27 v33 v28 v29 v30 v31 v32 v34 r106 L2 v4 v5 v6 v9 v10 v11 v12 v13 v14 v15 v16 v17 v18 v19 v20 v21
  else
   some (((v22,v23,v24,v25,v26,v27,v33,v28,v29,v30,v31,v32,v34),()),(r35.2.1,()))
 else
  some (((v22,v23,v24,v25,v26,v27,v33,v28,v29,v30,v31,v32,v34),()),((v7,v8),()))
noncomputable def Ql7 (L2:Qp2) (v38 v39 v40:Int) (v41:List Int) (v42 v43 v44 v45 v46 v47 v48 v49 v50 v51 v52 v53:Int) (v54:List Int) (v55:List Qlf) (v56 v57 v58 v59 v60 v61:Int) (v62:List Int) (v63 v64 v65 v66 v67:Int) (v68:List Qlf):Option Qkk:=
 bif decide (v40<v39) then
  Option.bind (Qnu (v41,v42)) fun r69=>
  bif !r69.1.1 then
   Option.bind (Qk5 r69.2.1 4) fun r70=>
   bif r70.1.1==0 then
    Option.bind (Qum (v56,v57,v58,v59,v60,v61,v62,v63,v64,v65,v66,v67,v68)) fun r71=>
    L2 v38 v39 (IntKind.wrap .i64 (v40+1)) r70.2.1.1 r70.2.1.2 v43 v44 v45 v46 v47 v48 v49 v50 v51 v52 v53 v54 v55 r71.1.1.1 r71.1.1.2.1 r71.1.1.2.2.1 (g3 r71.1.1) (g4 r71.1.1) (g5 r71.1.1) (g6 r71.1.1) (g7 r71.1.1) (g8 r71.1.1) (g9 r71.1.1) (g10 r71.1.1) (g11 r71.1.1) (h12 r71.1.1)
   else
   bif r70.1.1==1 then
    Option.bind (Qkp r70.2.1 v38) fun r72=>
    bif v65 != 0 then
     bif v65 != v38 then
      Option.bind (Qk5 r72.2.1 2) fun r73=>
      Option.bind (Qk5 r73.2.1 9) fun r74=>
      Option.bind (Qk5 r74.2.1 22) fun r75=>
      Option.bind (Qkh r75.2.1) fun r76=>
      bif decide (1≤(r76.1.1.length:Int))&&decide ((r76.1.1.length:Int)≤(r76.1.1.length:Int)) then
       bif Nat.ble (1+(List.drop 1 (List.take ((r76.1.1.length:Int).toNat) r76.1.1)).length) 1073741824 then
        Option.bind (Qk5 r76.2.1 4) fun r77=>
        Option.bind (Qm4 (v56,v57,v58,v59,v60,v61,v62,v63,v64,v65,v66,v67,v68) (2,v65,v38,IntKind.wrap .i64 (1+r73.1.1),r74.1.1,r75.1.1,[1]++(List.drop 1 (List.take ((r76.1.1.length:Int).toNat) r76.1.1)),IntKind.wrap .i64 (1+r77.1.1),0,(⟨#[]⟩:ByteArray)) 1) fun r78=>
        L2 v38 v39 (IntKind.wrap .i64 (v40+1)) r77.2.1.1 r77.2.1.2 v43 v44 v45 v46 v47 v48 v49 v50 v51 v52 v53 v54 v55 r78.1.1.1 r78.1.1.2.1 r78.1.1.2.2.1 (g3 r78.1.1) (g4 r78.1.1) (g5 r78.1.1) (g6 r78.1.1) (g7 r78.1.1) (g8 r78.1.1) (g9 r78.1.1) (g10 r78.1.1) (g11 r78.1.1) (h12 r78.1.1)
       else none
      else none
     else
      Qku v56 v57 v58 v59 v60 v61 v62 v63 v64 v65 v66 v67 v68 r72 L2 v38 v39 v40 v43 v44 v45 v46 v47 v48 v49 v50 v51 v52 v53 v54 v55
    else
     Qku v56 v57 v58 v59 v60 v61 v62 v63 v64 v65 v66 v67 v68 r72 L2 v38 v39 v40 v43 v44 v45 v46 v47 v48 v49 v50 v51 v52 v53 v54 v55
   else
   bif r70.1.1==2 then
    Option.bind (Qkp r70.2.1 v38) fun r81=>
    bif v59 != 0 then
     Option.bind (Qk5 r81.2.1 30) fun r82=>
     Option.bind (Qk5 r82.2.1 20) fun r83=>
     Option.bind (Qkh r83.2.1) fun r84=>
     Option.bind (Qk5 r84.2.1 9) fun r85=>
     Option.bind (Qm4 (v56,v57,v58,v59,v60,v61,v62,v63,v64,v65,v66,v67,v68) (5,v59,v38,v60,r82.1.1,r83.1.1,r84.1.1,0,r85.1.1,(⟨#[]⟩:ByteArray)) 1) fun r86=>
     L2 v38 v39 (IntKind.wrap .i64 (v40+1)) r85.2.1.1 r85.2.1.2 v43 v44 v45 v46 v47 v48 v49 v50 v51 v52 v53 v54 v55 r86.1.1.1 r86.1.1.2.1 r86.1.1.2.2.1 (g3 r86.1.1) (g4 r86.1.1) (g5 r86.1.1) (g6 r86.1.1) (g7 r86.1.1) (g8 r86.1.1) (g9 r86.1.1) (g10 r86.1.1) (g11 r86.1.1) (h12 r86.1.1)
    else
     Qku v56 v57 v58 v59 v60 v61 v62 v63 v64 v65 v66 v67 v68 r81 L2 v38 v39 v40 v43 v44 v45 v46 v47 v48 v49 v50 v51 v52 v53 v54 v55
   else
    Option.bind (Qkp r70.2.1 v38) fun r88=>
    Qku v56 v57 v58 v59 v60 v61 v62 v63 v64 v65 v66 v67 v68 r88 L2 v38 v39 v40 v43 v44 v45 v46 v47 v48 v49 v50 v51 v52 v53 v54 v55
  else
   some (((v56,v57,v58,v59,v60,v61,v62,v63,v64,v65,v66,v67,v68),()),(r69.2.1,()))
 else
  some (((v56,v57,v58,v59,v60,v61,v62,v63,v64,v65,v66,v67,v68),()),((v41,v42),()))
noncomputable def Qpp (L1:Qw8) (p_0:(List Int) × Int) (id_1 most_2:Int):Option Qkk:=
 Option.bind (Qk5 p_0 5) fun r1=>
 Option.bind (Qk5 r1.2.1 4) fun r2=>
 Option.bind (Qsr id_1 2 r1.1.1 r2.1.1) fun r3=>
 L1 id_1 most_2 0 r2.2.1.1 r2.2.1.2 0 0 0 0 0 0 0 0 0 0 0 [] [] r3.1.1.1 r3.1.1.2.1 r3.1.1.2.2.1 (g3 r3.1.1) (g4 r3.1.1) (g5 r3.1.1) (g7 r3.1.1) (g8 r3.1.1) (g9 r3.1.1) (g10 r3.1.1) (g11 r3.1.1) (g6 r3.1.1) (h12 r3.1.1)
noncomputable def Qmt (n:Nat):Nat→Qp2:=iter (fun _ _ _ _ _ _ _ _ _ _ _ _ _ _ _ _ _ _ _ _ _ _ _ _ _ _ _ _ _ _ _=>none) fun L=>Ql7 L
noncomputable def Qrp (n:Nat):Nat→Qw8:=Qjg (fun _ _ _ _ _ _ _ _ _ _ _ _ _ _ _ _ _ _ _ _ _ _ _ _ _ _ _ _ _ _ _=>none) fun m L=>Qvt (Qmt n m)
noncomputable def Qrl (n m:Nat) (v4 v5 v6:Int) (v7:List Int) (v8 v9 v10 v11 v12 v13 v14 v15 v16 v17 v18 v19:Int) (v20:List Int) (v21:List Qlf) (v22 v23 v24 v25 v26 v27 v28 v29 v30 v31 v32:Int) (v33:List Int) (v34:List Qlf):Option Qkk:=
 Qjv Qwn tab (fiB [.box 75 t74 [false,false],.val t2,.val t2] Qs4) n [.box 75 t74 [false,false],.val t2,.val t2] [⟨t30,(nF 13),none⟩] Tryz.f41 [1,1,0,1,0] [] [0,1,2,6,7,8] m
 ⟨[(0,V1 (.ptr (0,0) 0)),(1,Vp t2 v4),(2,Vp t2 v5),(6,V1 (.ptr (6,0) 0)),(7,V1 (.ptr (7,0) 0)),(8,Vp t2 v6)],[((0,0),Ob.box 75 [LV.pure t25 v7,LV.pure t2 v8]),((6,0),Ob.box 31 [LV.pure t2 v9,LV.pure t2 v10,LV.pure t2 v11,LV.pure t2 v12,LV.pure t2 v13,LV.pure t2 v14,LV.ref (6,7),LV.pure t2 v15,LV.pure t2 v16,LV.pure t2 v17,LV.pure t2 v18,LV.pure t2 v19,LV.ref (6,13)]),((6,7),Ob.row 3 t2 v20),((6,13),Ob.row 53 t52 v21),((7,0),Ob.box 31 [LV.pure t2 v22,LV.pure t2 v23,LV.pure t2 v24,LV.pure t2 v25,LV.pure t2 v26,LV.pure t2 v27,LV.ref (7,7),LV.pure t2 v28,LV.pure t2 v29,LV.pure t2 v30,LV.pure t2 v31,LV.pure t2 v32,LV.ref (7,13)]),((7,7),Ob.row 3 t2 v33),((7,13),Ob.row 53 t52 v34)]⟩
noncomputable def Qp0 (n m:Nat) (v38 v39 v40:Int) (v41:List Int) (v42 v43 v44 v45 v46 v47 v48 v49 v50 v51 v52 v53:Int) (v54:List Int) (v55:List Qlf) (v56 v57 v58 v59 v60 v61:Int) (v62:List Int) (v63 v64 v65 v66 v67:Int) (v68:List Qlf):Option Qkk:=
 Qjv Qwn tab (fiB [.box 75 t74 [false,false],.val t2,.val t2] Qs4) n [.box 75 t74 [false,false],.val t2,.val t2] [⟨t30,(nF 13),none⟩] Tryz.f41 [1,1,0,1,0] [] [0,1,2,6,7,8] m
 ⟨[(0,V1 (.ptr (0,0) 0)),(1,Vp t2 v38),(2,Vp t2 v39),(6,V1 (.ptr (6,0) 0)),(7,V1 (.ptr (7,0) 0)),(8,Vp t2 v40)],[((0,0),Ob.box 75 [LV.pure t25 v41,LV.pure t2 v42]),((6,0),Ob.box 31 [LV.pure t2 v43,LV.pure t2 v44,LV.pure t2 v45,LV.pure t2 v46,LV.pure t2 v47,LV.pure t2 v48,LV.ref (6,7),LV.pure t2 v49,LV.pure t2 v50,LV.pure t2 v51,LV.pure t2 v52,LV.pure t2 v53,LV.ref (6,13)]),((6,7),Ob.row 3 t2 v54),((6,13),Ob.row 53 t52 v55),((7,0),Ob.box 31 [LV.pure t2 v56,LV.pure t2 v57,LV.pure t2 v58,LV.pure t2 v59,LV.pure t2 v60,LV.pure t2 v61,LV.pure t28 v62,LV.pure t2 v63,LV.pure t2 v64,LV.pure t2 v65,LV.pure t2 v66,LV.pure t2 v67,LV.pure t29 v68])]⟩
theorem Qv5 (n:Nat):∀ m,Qp0 n m=Qmt n m
 | 0=>rfl
 | m+1=>by rw [show Qp0 n (m+1)=Ql7 (Qp0 n m) from by kernel_rfl,Qv5 n m];rfl
theorem Z3v (n:Nat):∀ m,Qrl n m=Qrp n m
 | 0=>rfl
 | m+1=>by rw [show Qrl n (m+1)=Qvt (Qp0 n m) from by kernel_rfl,Qv5 n m];rfl
noncomputable def Qx0 (n:Nat) (p_0:(List Int) × Int) (id_1 most_2:Int):Option Qkk:=Qpp (Qrp n n) p_0 id_1 most_2
noncomputable def Qu6 (p_0:(List Int) × Int) (id_1 most_2:Int):Option Qkk:=Qx0 1099511627776 p_0 id_1 most_2
noncomputable def Z5k:Ent:=⟨[.box 75 t74 [false,false],.val t2,.val t2],[⟨t30,(nF 13),none⟩],fun x=>Qu6 x.1 x.2.1 x.2.2.1⟩
theorem Z2v:GD 41 Z5k:=fnl Qs4 (fun n x=>Qx0 n x.1 x.2.1 x.2.2.1) (Qjy Qua (Qjy Qtu (Qjy Qlc (Qjy Qyj (Qjy Qtv (Qjy Z6s (Qjy Z5p Qk3))))))) Tryz.func41 fun n x=>Eq.trans (b:=Qpp (Qrl n n) x.1 x.2.1 x.2.2.1) (by kernel_rfl) (by rw [Z3v n n];rfl)
noncomputable def Qno (f_0:Int × Int × Qlg × Qlg × Qtb × Int × Int) (top_1:Int):Option ((Z5r × Unit) × Unit):=
 bif decide (f_0.1>0) then
  bif decide (top_1≤1000000) then
   some (((u1 f_0 (if top_1>f_0.2.1 then top_1 else f_0.2.1)),()),())
  else
   some ((f_0,()),())
 else
  some ((f_0,()),())
noncomputable def Z0d:Ent:=⟨[.val t36,.val t2],[⟨t36,(nF 7),none⟩],fun x=>Qno x.1 x.2.1⟩
theorem Qpo:GD 66 Z0d:=fnk 1 (fo [[1,2,4,9,10],[1,2,4,11],[2,4],[4]]) Qk3 Tryz.func66
noncomputable def Qtp (f_0:Int × Int × Qlg × Qlg × Qtb × Int × Int) (next_1:Int):Option ((Z5r × Unit) × Unit):=
 bif decide (f_0.1>0) then
  Option.bind (Qno f_0 (IntKind.wrap .i64 (next_1 - 1))) fun r1=>
  some ((r1.1.1,()),())
 else
 bif decide (next_1 ≥ 1) then
  bif decide (next_1≤1000000) then
   some (((next_1,f_0.2),()),())
  else
   some ((f_0,()),())
 else
  some ((f_0,()),())
noncomputable def Z0o:Ent:=⟨[.val t36,.val t2],[⟨t36,(nF 7),none⟩],fun x=>Qtp x.1 x.2.1⟩
theorem Z62:GD 67 Z0o:=fnk 1 (fo [[1,2,4,15,16],[1,2,4,7,15,16],[4],[1,2,4,17],[2,4],[4]]) (Qjy Qpo Qk3) Tryz.func67
noncomputable def Ql4 (s_0:Int × Int):Option ((Bool × Unit) × Unit):=
 bif decide (s_0.1 ≥ 1) then
  bif decide (s_0.1≤s_0.2) then
   some ((decide (s_0.2≤1000000),()),())
  else
   some ((false,()),())
 else
  some ((false,()),())
noncomputable def Z8g:Ent:=⟨[.val t34],[⟨t4,[false],none⟩],fun x=>Ql4 x.1⟩
theorem Qvg:GD 107 Z8g:=fnk 1 (fo [[1,7,8,9,10,11,14,15,16],[2]]) Qk3 Tryz.func107
noncomputable def Qmk (l_0:List Qls):Option ((Int × Unit) × Unit):=
 bif (l_0.length:Int)==0 then
  some ((0,()),())
 else
 bif decide (0<(l_0.length:Int)) then
  some (((List.getD l_0 0 (0,(⟨#[]⟩:ByteArray))).1,()),())
 else none
noncomputable def Z07:Ent:=⟨[.val t32],[⟨t2,[false],none⟩],fun x=>Qmk x.1⟩
theorem Qwy:GD 168 Z07:=fnk 1 (fo [[0],[0,5],[2],[2]]) Qk3 Tryz.func168
noncomputable def Qog (l_0:List Qrc) (lo_1 hi_2 why_3:Int):Option ((Qtb × Unit) × Unit):=
 bif Nat.ble (0+l_0.length) 1073741824 then
  bif Nat.ble (([]++l_0).length+1) 1073741824 then
   some ((([]++l_0)++[(2,lo_1,hi_2,(⟨#[]⟩:ByteArray),why_3)],()),())
  else none
 else none
noncomputable def Z2k:Ent:=⟨[.val t33,.val t2,.val t2,.val t2],[⟨t33,[true],none⟩],fun x=>Qog x.1 x.2.1 x.2.2.1 x.2.2.2.1⟩
theorem Z6k:GD 169 Z2k:=fnk 1 (fo [[0,1,2,3],[8]]) Qk3 Tryz.func169
noncomputable def Qnf (l_0:List Qls) (next_1:Int):Option ((Qlg × Qls × Bool × Unit) × Unit):=
 bif (l_0.length:Int)==0 then
  some ((l_0,(0,(⟨#[]⟩:ByteArray)),false,()),())
 else
 bif decide (0<(l_0.length:Int)) then
  bif ((List.getD l_0 0 (0,(⟨#[]⟩:ByteArray))).1) != next_1 then
   some ((l_0,(0,(⟨#[]⟩:ByteArray)),false,()),())
  else
  bif decide (1≤(l_0.length:Int))&&decide ((l_0.length:Int)≤(l_0.length:Int)) then
   bif Nat.ble (0+(List.drop 1 (List.take ((l_0.length:Int).toNat) l_0)).length) 1073741824 then
    bif decide (0<(l_0.length:Int)) then
     some (([]++(List.drop 1 (List.take ((l_0.length:Int).toNat) l_0)),(List.getD l_0 0 (0,(⟨#[]⟩:ByteArray))),true,()),())
    else none
   else none
  else none
 else none
noncomputable def Qxw:Ent:=⟨[.val t32,.val t2],[⟨t32,[false],none⟩,⟨t58,[false,false],none⟩,⟨t4,[false],none⟩],fun x=>Qnf x.1 x.2.1⟩
theorem Z3y:GD 170 Qxw:=fnk 1 (fo [[0,1,5,11,12,13,14,15,16],[0,5,17],[4,5,6],[4,5,6]]) Qk3 Tryz.func170
noncomputable def Qs6 (l_0:List Qrc) (seq_1:Int) (text_2:ByteArray):Option ((Qtb × Unit) × Unit):=
 bif Nat.ble (0+l_0.length) 1073741824 then
  bif Nat.ble (([]++l_0).length+1) 1073741824 then
   some ((([]++l_0)++[(1,seq_1,seq_1,text_2,0)],()),())
  else none
 else none
noncomputable def Z2m:Ent:=⟨[.val t33,.val t2,.val t9],[⟨t33,[true],none⟩],fun x=>Qs6 x.1 x.2.1 x.2.2.1⟩
theorem Z71:GD 132 Z2m:=fnk 1 (fo [[0,1,2],[6]]) Qk3 Tryz.func132
noncomputable def Qpr (l_0:List Qls) (i_1:Int × ByteArray):Option ((Qlg × Unit) × Unit):=
 bif Nat.ble (([]++l_0).length+1) 1073741824 then
  bif decide (((([]++l_0)++[i_1]).length:Int)>6) then
   bif decide (1≤((([]++l_0)++[i_1]).length:Int))&&decide (((([]++l_0)++[i_1]).length:Int)≤((([]++l_0)++[i_1]).length:Int)) then
    some ((List.drop 1 (List.take (((([]++l_0)++[i_1]).length:Int).toNat) (([]++l_0)++[i_1])),()),())
   else none
  else
   some ((([]++l_0)++[i_1],()),())
 else none
noncomputable def Qph (l_0:List Qls) (i_1:Int × ByteArray):Option ((Qlg × Unit) × Unit):=
 bif Nat.ble (0+l_0.length) 1073741824 then
  bif decide ((l_0.length:Int)>0) then
   bif decide (0≤IntKind.wrap .i64 ((l_0.length:Int) - 1))&&decide (IntKind.wrap .i64 ((l_0.length:Int) - 1)<(l_0.length:Int)) then
    bif decide ((List.getD l_0 ((IntKind.wrap .i64 ((l_0.length:Int) - 1)).toNat) (0,(⟨#[]⟩:ByteArray))).1 ≥ i_1.1) then
     some (([]++l_0,()),())
    else
     Qpr l_0 i_1
   else none
  else
   Qpr l_0 i_1
 else none
noncomputable def Qy3:Ent:=⟨[.val t32,.val t58],[⟨t32,[false],none⟩],fun x=>Qph x.1 x.2.1⟩
theorem Z48:GD 133 Qy3:=fnk 1 (fo [[0,3,13,14,15,16,17,18,19,20,21,22],[0,3,5,13,14,15,16,17,18,19,20,21,22],[3,5,23],[4],[5],[5,31],[5],[4]]) Qk3 Tryz.func133
abbrev Qle:Type:=(Z5r × Qlg × Unit) × Unit
noncomputable def Z1d:Ctx:=[(132,Z2m),(133,Qy3),(170,Qxw)]
def Quo:Fi:={ keep:=[],vty:=[(4,32)],vals:=[],live:=[(0,[1,2]),(1,[1,2,4]),(2,[1,2,4,5,6,7]),(3,[1,2,4,5,6,18]),(4,[2,3]),(5,[1,2,4,6]),(6,[1,2,4,6]),(7,[1,2,4])] }
abbrev Z0n:Type:=Int→Int→Qlg→Qlg→Qtb→Int→Int→Int→Int→Int→Int→Qlg→Qlg→Qtb→Qlg→Option Qle
abbrev Qup:Type:=Int→Int→Qlg→Qlg→Int→Int→Qtb→Int→Int→Int→Int→Qlg→Qlg→Qtb→Qlg→Option Qle
noncomputable def Z05 (L2:Qup) (v1 v2:Int) (v3 v4:List Qls) (v5:List Qrc) (v6 v7 v8 v9 v10 v11:Int) (v12 v13:List Qls) (v14:List Qrc) (v15:List Qls):Option Qle:=
 Option.bind (Qnf v4 v1) fun r16=>
 bif !r16.1.2.2.1 then
  some (((v1,v2,v3,v4,v5,v6,v7),v15,()),())
 else
  Option.bind (Qs6 v5 r16.1.2.1.1 r16.1.2.1.2) fun r17=>
  Option.bind (Qph v3 r16.1.2.1) fun r18=>
  bif Nat.ble (v15.length+1) 1073741824 then
   L2 (IntKind.wrap .i64 (v1+1)) v2 r18.1.1 r16.1.1 0 0 r17.1.1 v8 v9 v10 v11 v12 v13 v14 (v15++[r16.1.2.1])
  else none
noncomputable def Qpe (L2:Qup) (v19 v20:Int) (v21 v22:List Qls) (v23 v24:Int) (v25:List Qrc) (v26 v27 v28 v29:Int) (v30 v31:List Qls) (v32:List Qrc) (v33:List Qls):Option Qle:=
 Option.bind (Qnf v22 v19) fun r34=>
 bif !r34.1.2.2.1 then
  some (((v19,v20,v21,v22,v25,v23,v24),v33,()),())
 else
  Option.bind (Qs6 v25 r34.1.2.1.1 r34.1.2.1.2) fun r35=>
  Option.bind (Qph v21 r34.1.2.1) fun r36=>
  bif Nat.ble (v33.length+1) 1073741824 then
   L2 (IntKind.wrap .i64 (v19+1)) v20 r36.1.1 r34.1.1 0 0 r35.1.1 v26 v27 v28 v29 v30 v31 v32 (v33++[r34.1.2.1])
  else none
noncomputable def Z23 (L1:Z0n) (f_0:Int × Int × Qlg × Qlg × Qtb × Int × Int):Option Qle:=
 L1 f_0.1 f_0.2.1 f_0.2.2.1 (g3 f_0) (g4 f_0) (g5 f_0) (h6 f_0) 0 0 0 0 [] [] [] []
noncomputable def Qmh (n:Nat):Nat→Qup:=iter (fun _ _ _ _ _ _ _ _ _ _ _ _ _ _ _=>none) fun L=>Qpe L
noncomputable def Qru (n:Nat):Nat→Z0n:=Qjg (fun _ _ _ _ _ _ _ _ _ _ _ _ _ _ _=>none) fun m L=>Z05 (Qmh n m)
noncomputable def Qur (n m:Nat) (v1 v2:Int) (v3 v4:List Qls) (v5:List Qrc) (v6 v7 v8 v9 v10 v11:Int) (v12 v13:List Qls) (v14:List Qrc) (v15:List Qls):Option Qle:=
 Qjv Z1d tab (fiB [.val t36] Quo) n [.val t36] [⟨t36,(nF 7),none⟩,⟨t32,[true],none⟩] Tryz.f130 [1,1,0] [] [1,2,4] m
 ⟨[(1,V1 (.ptr (1,0) 0)),(2,V1 (.ptr (2,0) 0)),(4,V1 (.ref (888888,4)))],[((1,0),Ob.box 37 [LV.pure t2 v1,LV.pure t2 v2,LV.pure t32 v3,LV.pure t32 v4,LV.pure t33 v5,LV.pure t2 v6,LV.pure t2 v7]),((2,0),Ob.box 37 [LV.pure t2 v8,LV.pure t2 v9,LV.ref (2,3),LV.ref (2,4),LV.ref (2,5),LV.pure t2 v10,LV.pure t2 v11]),((2,3),Ob.row 59 t58 v12),((2,4),Ob.row 59 t58 v13),((2,5),Ob.row 55 t54 v14),((888888,4),Ob.row 59 t58 v15)]⟩
noncomputable def Qrn (n m:Nat) (v19 v20:Int) (v21 v22:List Qls) (v23 v24:Int) (v25:List Qrc) (v26 v27 v28 v29:Int) (v30 v31:List Qls) (v32:List Qrc) (v33:List Qls):Option Qle:=
 Qjv Z1d tab (fiB [.val t36] Quo) n [.val t36] [⟨t36,(nF 7),none⟩,⟨t32,[true],none⟩] Tryz.f130 [1,1,0] [] [1,2,4] m
 ⟨[(1,V1 (.ptr (1,0) 0)),(2,V1 (.ptr (2,0) 0)),(4,V1 (.ref (888888,4)))],[((1,0),Ob.box 37 [LV.pure t2 v19,LV.pure t2 v20,LV.pure t32 v21,LV.pure t32 v22,LV.ref (1,5),LV.pure t2 v23,LV.pure t2 v24]),((1,5),Ob.row 55 t54 v25),((2,0),Ob.box 37 [LV.pure t2 v26,LV.pure t2 v27,LV.ref (2,3),LV.ref (2,4),LV.ref (2,5),LV.pure t2 v28,LV.pure t2 v29]),((2,3),Ob.row 59 t58 v30),((2,4),Ob.row 59 t58 v31),((2,5),Ob.row 55 t54 v32),((888888,4),Ob.row 59 t58 v33)]⟩
theorem Qyk (n:Nat):∀ m,Qrn n m=Qmh n m
 | 0=>rfl
 | m+1=>by rw [show Qrn n (m+1)=Qpe (Qrn n m) from by kernel_rfl,Qyk n m];rfl
theorem Z89 (n:Nat):∀ m,Qur n m=Qru n m
 | 0=>rfl
 | m+1=>by rw [show Qur n (m+1)=Z05 (Qrn n m) from by kernel_rfl,Qyk n m];rfl
noncomputable def Z1o (n:Nat) (f_0:Int × Int × Qlg × Qlg × Qtb × Int × Int):Option Qle:=Z23 (Qru n n) f_0
noncomputable def Ql9 (f_0:Int × Int × Qlg × Qlg × Qtb × Int × Int):Option Qle:=Z1o 1099511627776 f_0
noncomputable def Z1f:Ent:=⟨[.val t36],[⟨t36,(nF 7),none⟩,⟨t32,[true],none⟩],fun x=>Ql9 x.1⟩
theorem Qpx:GD 130 Z1f:=fnl Quo (fun n x=>Z1o n x.1) (Qjy Z71 (Qjy Z48 (Qjy Z3y Qk3))) Tryz.func130 fun n x=>Eq.trans (b:=Z23 (Qur n n) x.1) (by kernel_rfl) (by rw [Z89 n n];rfl)
abbrev Qko:Type:=(Z5r × Zg9 × Unit) × Unit
noncomputable def Z03:Ctx:=[(130,Z1f),(168,Z07),(169,Z2k)]
def Qu4:Fi:={ keep:=[],vty:=[(8,146)],vals:=[(3,5)],live:=[(0,[1,2,3,6,14,15,30,31,32,33,34]),(1,[1,2,3,6,8,14,15,30,31,32,33,34]),(2,[1,2,3,6,8,16,30,31,32,33,34]),(3,[6,7]),(4,[1,2,3,6,8,21,30,31,32,33,34]),(5,[1,2,3,6,8,30,31,32,33,34]),(6,[1,2,3,6,8,9,30,31,32,33,34]),(7,[1,2,3,6,8,9,30,31,32,33,34,35]),(8,[1,2,3,6,8,9,30,31,32,33,34]),(9,[1,2,3,6,8,9,30,31,32,33,34,43]),(10,[1,2,3,6,8,9,30,31,32,33,34]),(11,[1,2,3,6,8,9,30,31,32,33,34]),(12,[1,2,3,6,8,30,31,32,33,34]),(13,[1,2,3,6,8,30,31,32,33,34,65]),(14,[1,2,3,6,8,30,31,32,33,34]),(15,[6,7])] }
abbrev Qyg:Type:=Int→Int→Bool→Int→Int→Qlg→Qlg→Qtb→Int→Int→Int→Int→Int→Int→Qlg→Qlg→Qtb→Zg9→Option Qko
abbrev Qoi:Type:=Int→Int→Int→Int→Qlg→Qlg→Qtb→Int→Int→Int→Int→Int→Int→Qlg→Qlg→Qtb→Zg9→Option Qko
noncomputable def Qqq (v4 v1 v5:Int) (v6 v7:List Qls) (v8:List Qrc) (L2:Qoi) (v2 v11 v12 v13 v14:Int) (v15 v16:List Qls) (v17:List Qrc) (v18:List (Int × Int)):Option Qko:=
 bif decide (v4≤v1) then
  Option.bind (Ql9 (v4,v5,v6,v7,v8,0,0)) fun r51=>
  L2 v1 v2 r51.1.1.1 r51.1.1.2.1 r51.1.1.2.2.1 (g3 r51.1.1) (g4 r51.1.1) (g5 r51.1.1) (h6 r51.1.1) v11 v12 v13 v14 v15 v16 v17 v18
 else
  L2 v1 v2 v4 v5 v6 v7 v8 0 0 v11 v12 v13 v14 v15 v16 v17 v18
noncomputable def Qmy (v1 v4:Int) (v8:List Qrc) (v2:Int) (v18:List (Int × Int)) (v5:Int) (v6 v7:List Qls) (L2:Qoi) (v11 v12 v13 v14:Int) (v15 v16:List Qls) (v17:List Qrc):Option Qko:=
 bif decide (v1 ≥ v4) then
  Option.bind (Qog v8 v4 v1 v2) fun r52=>
  bif Nat.ble (v18.length+1) 1073741824 then
   bif decide (IntKind.wrap .i64 (v1+1)≤v1) then
    Option.bind (Ql9 (IntKind.wrap .i64 (v1+1),v5,v6,v7,r52.1.1,0,0)) fun r53=>
    L2 v1 v2 r53.1.1.1 r53.1.1.2.1 r53.1.1.2.2.1 (g3 r53.1.1) (g4 r53.1.1) (g5 r53.1.1) (h6 r53.1.1) v11 v12 v13 v14 v15 v16 v17 (v18++[(v4,v1)])
   else
    L2 v1 v2 (IntKind.wrap .i64 (v1+1)) v5 v6 v7 r52.1.1 0 0 v11 v12 v13 v14 v15 v16 v17 (v18++[(v4,v1)])
  else none
 else
  Qqq v4 v1 v5 v6 v7 v8 L2 v2 v11 v12 v13 v14 v15 v16 v17 v18
noncomputable def Qz7 (L2:Qoi) (v1 v2:Int) (v3:Bool) (v4 v5:Int) (v6 v7:List Qls) (v8:List Qrc) (v9 v10 v11 v12 v13 v14:Int) (v15 v16:List Qls) (v17:List Qrc) (v18:List (Int × Int)):Option Qko:=
 bif decide (v4≤v1) then
  bif decide ((v7.length:Int)>0) then
   Option.bind (Qmk v7) fun r19=>
   bif decide (r19.1.1≤v1) then
    Option.bind (Qmk v7) fun r20=>
    bif decide (IntKind.wrap .i64 (r20.1.1 - 1) ≥ v4) then
     Option.bind (Qog v8 v4 (IntKind.wrap .i64 (r20.1.1 - 1)) v2) fun r21=>
     bif Nat.ble (v18.length+1) 1073741824 then
      bif decide (IntKind.wrap .i64 ((IntKind.wrap .i64 (r20.1.1 - 1))+1)≤v1) then
       Option.bind (Ql9 (IntKind.wrap .i64 ((IntKind.wrap .i64 (r20.1.1 - 1))+1),v5,v6,v7,r21.1.1,0,0)) fun r22=>
       L2 v1 v2 r22.1.1.1 r22.1.1.2.1 r22.1.1.2.2.1 (g3 r22.1.1) (g4 r22.1.1) (g5 r22.1.1) (h6 r22.1.1) v11 v12 v13 v14 v15 v16 v17 (v18++[(v4,IntKind.wrap .i64 (r20.1.1 - 1))])
      else
       L2 v1 v2 (IntKind.wrap .i64 ((IntKind.wrap .i64 (r20.1.1 - 1))+1)) v5 v6 v7 r21.1.1 0 0 v11 v12 v13 v14 v15 v16 v17 (v18++[(v4,IntKind.wrap .i64 (r20.1.1 - 1))])
     else none
    else
     Qqq v4 v1 v5 v6 v7 v8 L2 v2 v11 v12 v13 v14 v15 v16 v17 v18
   else
    Qmy v1 v4 v8 v2 v18 v5 v6 v7 L2 v11 v12 v13 v14 v15 v16 v17
  else
   Qmy v1 v4 v8 v2 v18 v5 v6 v7 L2 v11 v12 v13 v14 v15 v16 v17
 else
  some (((v4,v5,v6,v7,v8,v9,v10),v18,()),())
noncomputable def Qmz (L2:Qoi) (v23 v24 v25 v26:Int) (v27 v28:List Qls) (v29:List Qrc) (v30 v31 v32 v33 v34 v35:Int) (v36 v37:List Qls) (v38:List Qrc) (v39:List (Int × Int)):Option Qko:=
 bif decide (v25≤v23) then
  bif decide ((v28.length:Int)>0) then
   Option.bind (Qmk v28) fun r40=>
   bif decide (r40.1.1≤v23) then
    Option.bind (Qmk v28) fun r41=>
    bif decide (IntKind.wrap .i64 (r41.1.1 - 1) ≥ v25) then
     Option.bind (Qog v29 v25 (IntKind.wrap .i64 (r41.1.1 - 1)) v24) fun r42=>
     bif Nat.ble (v39.length+1) 1073741824 then
      bif decide (IntKind.wrap .i64 ((IntKind.wrap .i64 (r41.1.1 - 1))+1)≤v23) then
       Option.bind (Ql9 (IntKind.wrap .i64 ((IntKind.wrap .i64 (r41.1.1 - 1))+1),v26,v27,v28,r42.1.1,0,0)) fun r43=>
       L2 v23 v24 r43.1.1.1 r43.1.1.2.1 r43.1.1.2.2.1 (g3 r43.1.1) (g4 r43.1.1) (g5 r43.1.1) (h6 r43.1.1) v32 v33 v34 v35 v36 v37 v38 (v39++[(v25,IntKind.wrap .i64 (r41.1.1 - 1))])
      else
       L2 v23 v24 (IntKind.wrap .i64 ((IntKind.wrap .i64 (r41.1.1 - 1))+1)) v26 v27 v28 r42.1.1 0 0 v32 v33 v34 v35 v36 v37 v38 (v39++[(v25,IntKind.wrap .i64 (r41.1.1 - 1))])
     else none
    else
     Qqq v25 v23 v26 v27 v28 v29 L2 v24 v32 v33 v34 v35 v36 v37 v38 v39
   else
    Qmy v23 v25 v29 v24 v39 v26 v27 v28 L2 v32 v33 v34 v35 v36 v37 v38
  else
   Qmy v23 v25 v29 v24 v39 v26 v27 v28 L2 v32 v33 v34 v35 v36 v37 v38
 else
  some (((v25,v26,v27,v28,v29,v30,v31),v39,()),())
noncomputable def Qs3 (L1:Qyg) (f_0:Int × Int × Qlg × Qlg × Qtb × Int × Int) (hi_1 why_2:Int):Option Qko:=
 bif decide (f_0.1<1) then
  some ((f_0,[],()),())
 else
 bif decide (hi_1>1000000) then
  some ((f_0,[],()),())
 else
  L1 hi_1 why_2 (decide (hi_1>1000000)) f_0.1 f_0.2.1 f_0.2.2.1 (g3 f_0) (g4 f_0) (g5 f_0) (h6 f_0) 0 0 0 0 [] [] [] []
noncomputable def Qmw (n:Nat):Nat→Qoi:=iter (fun _ _ _ _ _ _ _ _ _ _ _ _ _ _ _ _ _=>none) fun L=>Qmz L
noncomputable def Qol (n:Nat):Nat→Qyg:=Qjg (fun _ _ _ _ _ _ _ _ _ _ _ _ _ _ _ _ _ _=>none) fun m L=>Qz7 (Qmw n m)
noncomputable def Qu2 (n m:Nat) (v1 v2:Int) (v3:Bool) (v4 v5:Int) (v6 v7:List Qls) (v8:List Qrc) (v9 v10 v11 v12 v13 v14:Int) (v15 v16:List Qls) (v17:List Qrc) (v18:List (Int × Int)):Option Qko:=
 Qjv Z03 tab (fiB [.val t36,.val t2,.val t2] Qu4) n [.val t36,.val t2,.val t2] [⟨t36,(nF 7),none⟩,⟨Zoz,[true],none⟩] Tryz.f129 [1,1,1,0,0] [] [1,2,3,6,8,16] m
 ⟨[(1,Vp t2 v1),(2,Vp t2 v2),(3,V1 (.ptr (3,0) 0)),(6,V1 (.ptr (6,0) 0)),(8,V1 (.ref (888888,8))),(16,Vp t4 v3)],[((3,0),Ob.box 37 [LV.pure t2 v4,LV.pure t2 v5,LV.pure t32 v6,LV.pure t32 v7,LV.pure t33 v8,LV.pure t2 v9,LV.pure t2 v10]),((6,0),Ob.box 37 [LV.pure t2 v11,LV.pure t2 v12,LV.ref (6,3),LV.ref (6,4),LV.ref (6,5),LV.pure t2 v13,LV.pure t2 v14]),((6,3),Ob.row 59 t58 v15),((6,4),Ob.row 59 t58 v16),((6,5),Ob.row 55 t54 v17),((888888,8),Ob.row 100 t34 v18)]⟩
noncomputable def Qqs (n m:Nat) (v23 v24 v25 v26:Int) (v27 v28:List Qls) (v29:List Qrc) (v30 v31 v32 v33 v34 v35:Int) (v36 v37:List Qls) (v38:List Qrc) (v39:List (Int × Int)):Option Qko:=
 Qjv Z03 tab (fiB [.val t36,.val t2,.val t2] Qu4) n [.val t36,.val t2,.val t2] [⟨t36,(nF 7),none⟩,⟨Zoz,[true],none⟩] Tryz.f129 [1,1,1,0,0] [] [1,2,3,6,8,16] m
 ⟨[(1,Vp t2 v23),(2,Vp t2 v24),(3,V1 (.ptr (3,0) 0)),(6,V1 (.ptr (6,0) 0)),(8,V1 (.ref (888888,8)))],[((3,0),Ob.box 37 [LV.pure t2 v25,LV.pure t2 v26,LV.pure t32 v27,LV.pure t32 v28,LV.pure t33 v29,LV.pure t2 v30,LV.pure t2 v31]),((6,0),Ob.box 37 [LV.pure t2 v32,LV.pure t2 v33,LV.ref (6,3),LV.ref (6,4),LV.ref (6,5),LV.pure t2 v34,LV.pure t2 v35]),((6,3),Ob.row 59 t58 v36),((6,4),Ob.row 59 t58 v37),((6,5),Ob.row 55 t54 v38),((888888,8),Ob.row 100 t34 v39)]⟩
theorem Qxp (n:Nat):∀ m,Qqs n m=Qmw n m
 | 0=>rfl
 | m+1=>by rw [show Qqs n (m+1)=Qmz (Qqs n m) from by kernel_rfl,Qxp n m];rfl
theorem Z6q (n:Nat):∀ m,Qu2 n m=Qol n m
 | 0=>rfl
 | m+1=>by rw [show Qu2 n (m+1)=Qz7 (Qqs n m) from by kernel_rfl,Qxp n m];rfl
noncomputable def Z0f (n:Nat) (f_0:Int × Int × Qlg × Qlg × Qtb × Int × Int) (hi_1 why_2:Int):Option Qko:=Qs3 (Qol n n) f_0 hi_1 why_2
noncomputable def Qtg (f_0:Int × Int × Qlg × Qlg × Qtb × Int × Int) (hi_1 why_2:Int):Option Qko:=Z0f 1099511627776 f_0 hi_1 why_2
noncomputable def Z9c:Ent:=⟨[.val t36,.val t2,.val t2],[⟨t36,(nF 7),none⟩,⟨Zoz,[true],none⟩],fun x=>Qtg x.1 x.2.1 x.2.2.1⟩
theorem Qwm:GD 129 Z9c:=fnl Qu4 (fun n x=>Z0f n x.1 x.2.1 x.2.2.1) (Qjy Qpx (Qjy Qwy (Qjy Z6k Qk3))) Tryz.func129 fun n x=>Eq.trans (b:=Qs3 (Qu2 n n) x.1 x.2.1 x.2.2.1) (by kernel_rfl) (by rw [Z6q n n];rfl)
noncomputable def Qtr (f_0:Int × Int × Qlg × Qlg × Qtb × Int × Int) (lo_1 hi_2:Int):Option ((Z5r × Unit) × Unit):=
 bif f_0.1==0 then
  some ((f_0,()),())
 else
  Option.bind (Ql4 (lo_1,hi_2)) fun r1=>
  bif !r1.1.1 then
   some ((f_0,()),())
  else
   Option.bind (Qno f_0 hi_2) fun r2=>
   bif decide (r2.1.1.1<lo_1) then
    some ((r2.1.1,()),())
   else
   bif decide (r2.1.1.1>hi_2) then
    some ((r2.1.1,()),())
   else
    Option.bind (Qtg r2.1.1 hi_2 1) fun r3=>
    Option.bind (Ql9 r3.1.1) fun r4=>
    some ((r4.1.1,()),())
noncomputable def Z16:Ent:=⟨[.val t36,.val t2,.val t2],[⟨t36,(nF 7),none⟩],fun x=>Qtr x.1 x.2.1 x.2.2.1⟩
theorem Z5w:GD 69 Z16:=fnk 1 (fo [[1,2,3,6,11,12,13,14,15,26,27,28,29],[1,2,3,6,16,26,27,28,29],[6],[1,2,3,6,26,27,28,29],[2,3,6,30],[6],[3,6],[3,6],[6]]) (Qjy Qpo (Qjy Qvg (Qjy Qwm (Qjy Qpx Qk3)))) Tryz.func69
noncomputable def Qtt (f_0:Int × Int × Qlg × Qlg × Qtb × Int × Int):Option (((Int × Int) × Bool × Unit) × Unit):=
 bif decide (((g3 f_0).length:Int)>0) then
  Option.bind (Qmk (g3 f_0)) fun r1=>
  bif f_0.1==0 then
   some (((0,0),false,()),())
  else
  bif decide (IntKind.wrap .i64 (r1.1.1 - 1)<f_0.1) then
   some (((0,0),false,()),())
  else
   some (((f_0.1,IntKind.wrap .i64 (r1.1.1 - 1)),true,()),())
 else
 bif f_0.1==0 then
  some (((0,0),false,()),())
 else
 bif decide (f_0.2.1<f_0.1) then
  some (((0,0),false,()),())
 else
  some (((f_0.1,f_0.2.1),true,()),())
noncomputable def Z9q:Ent:=⟨[.val t36],[⟨t34,[false,false],none⟩,⟨t4,[false],none⟩],fun x=>Qtt x.1⟩
theorem Z5j:GD 127 Z9q:=fnk 1 (fo [[1,2,19,20,21,22],[1,2,4,19,20,21,22],[1,2,4,10,19,20,21,22],[1,2,4,19,20,21,22],[1,2,4,23],[2,3],[2,3]]) (Qjy Qwy Qk3) Tryz.func127
noncomputable def Qxi (a_0:Int × Int) (now_1:Int):Option ((Bool × Unit) × Unit):=
 bif a_0.1==0 then
  some ((true,()),())
 else
  some ((decide (now_1 ≥ a_0.2),()),())
noncomputable def Zdv:Ent:=⟨[.val t34,.val t2],[⟨t4,[false],none⟩],fun x=>Qxi x.1 x.2.1⟩
theorem Z9i:GD 128 Zdv:=fnk 1 (fo [[1,2,9,10,11,12],[4]]) Qk3 Tryz.func128
abbrev Qo1:Type:=((Int × Int) × Unit) × Unit
noncomputable def Zas:Ctx:=[]
def Z08:Fi:=fo [[1,2,4,12,13],[1,2,4,5,12,13],[1,2,4,5,6,12,13],[1,2,4,5,6,12,13,14],[1,2,4,5,6,12,13],[1,2,4,5,6,12,13],[4]]
abbrev Quy:Type:=Int→Int→Int→Int→Int→Int→Int→Option Qo1
noncomputable def Qrk (L1:Quy) (v1 v2 v3 v4 v5 v6 v7:Int):Option Qo1:=
 bif decide (v3<v4) then
  bif decide (v3<3) then
   L1 v1 (IntKind.wrap .i64 (v2*2)) (IntKind.wrap .i64 (v3+1)) v4 v5 v6 v7
  else
   some (((IntKind.wrap .i64 (v4+1),IntKind.wrap .i64 (v1+v2)),()),())
 else
  some (((IntKind.wrap .i64 (v4+1),IntKind.wrap .i64 (v1+v2)),()),())
noncomputable def Z2i (L1:Quy) (a_0:Int × Int) (now_1:Int):Option Qo1:=
 L1 now_1 2 0 a_0.1 a_0.2 0 0
noncomputable def Qnn (n:Nat):Nat→Quy:=iter (fun _ _ _ _ _ _ _=>none) fun L=>Qrk L
noncomputable def Qrs (n m:Nat) (v1 v2 v3 v4 v5 v6 v7:Int):Option Qo1:=
 Qjv Zas tab (fiB [.val t34,.val t2] Z08) n [.val t34,.val t2] [⟨t34,[false,false],none⟩] Tryz.f131 [1,1,0,1,0] [] [1,2,4,5,6] m
 ⟨[(1,Vp t2 v1),(2,V1 (.ptr (2,0) 0)),(4,V1 (.ptr (4,0) 0)),(5,Vp t2 v2),(6,Vp t2 v3)],[((2,0),Ob.box 35 [LV.pure t2 v4,LV.pure t2 v5]),((4,0),Ob.box 35 [LV.pure t2 v6,LV.pure t2 v7])]⟩
theorem Qzd (n:Nat):∀ m,Qrs n m=Qnn n m
 | 0=>rfl
 | m+1=>by rw [show Qrs n (m+1)=Qrk (Qrs n m) from by kernel_rfl,Qzd n m];rfl
noncomputable def Z1x (n:Nat) (a_0:Int × Int) (now_1:Int):Option Qo1:=Z2i (Qnn n n) a_0 now_1
noncomputable def Qyd (a_0:Int × Int) (now_1:Int):Option Qo1:=Z1x 1099511627776 a_0 now_1
noncomputable def Zb4:Ent:=⟨[.val t34,.val t2],[⟨t34,[false,false],none⟩],fun x=>Qyd x.1 x.2.1⟩
theorem Z7l:GD 131 Zb4:=fnl Z08 (fun n x=>Z1x n x.1 x.2.1) Qk3 Tryz.func131 fun n x=>Eq.trans (b:=Z2i (Qrs n n) x.1 x.2.1) (by kernel_rfl) (by rw [Qzd n n];rfl)
noncomputable def Qul (f_0:Int × Int × Qlg × Qlg × Qtb × Int × Int) (now_1:Int):Option ((Z5r × (Int × Int) × Bool × Unit) × Unit):=
 Option.bind (Qtt f_0) fun r1=>
 bif !r1.1.2.1 then
  some ((f_0,(0,0),false,()),())
 else
  Option.bind (Qxi (h5 f_0) now_1) fun r2=>
  bif !r2.1.1 then
   some ((f_0,(0,0),false,()),())
  else
  bif decide ((g5 f_0) ≥ 3) then
   Option.bind (Qtg f_0 r1.1.1.2 2) fun r3=>
   Option.bind (Ql9 r3.1.1) fun r4=>
   some ((r4.1.1,(0,0),false,()),())
  else
   Option.bind (Qyd (h5 f_0) now_1) fun r5=>
   some (((e5 f_0 r5.1.1),r1.1.1,true,()),())
noncomputable def Z1l:Ent:=⟨[.val t36,.val t2],[⟨t36,(nF 7),none⟩,⟨t34,[false,false],none⟩,⟨t4,[false],none⟩],fun x=>Qul x.1 x.2.1⟩
theorem Z7d:GD 61 Z1l:=fnk 1 (fo [[1,2,4,5,17,18,19,20,21],[1,2,4,5,7,8,17,18,19,20,21],[1,2,4,5,7,22],[4,5,6],[1,2,4,5,7,28],[2,4,5],[2,4,5],[4,5,6],[2,4,5,7],[4,5,6]]) (Qjy Z5j (Qjy Z9i (Qjy Qwm (Qjy Qpx (Qjy Z7l Qk3))))) Tryz.func61
abbrev Qp5:Type:=(ByteArray × Bool × Unit) × Unit
noncomputable def Zc4:Ctx:=[]
def Z1y:Fi:=fo [[0,1],[0,1,6],[0,1,6,10],[0,1,6],[0,1,6,19],[4,5],[4,5]]
abbrev Qvz:Type:=Qlg→Int→Int→Option Qp5
noncomputable def Qo2 (L1:Qvz) (v1:List Qls) (v2 v3:Int):Option Qp5:=
 bif decide (v3<(v1.length:Int)) then
  bif decide (0≤v3)&&decide (v3<(v1.length:Int)) then
   bif ((List.getD v1 v3.toNat (0,(⟨#[]⟩:ByteArray))).1)==v2 then
    bif decide (0≤v3)&&decide (v3<(v1.length:Int)) then
     some (((List.getD v1 v3.toNat (0,(⟨#[]⟩:ByteArray))).2,true,()),())
    else none
   else
    L1 v1 v2 (IntKind.wrap .i64 (v3+1))
  else none
 else
  some (((⟨#[]⟩:ByteArray),false,()),())
noncomputable def Z3s (L1:Qvz) (l_0:List Qls) (seq_1:Int):Option Qp5:=
 L1 l_0 seq_1 0
noncomputable def Qpz (n:Nat):Nat→Qvz:=iter (fun _ _ _=>none) fun L=>Qo2 L
noncomputable def Qsn (n m:Nat) (v1:List Qls) (v2 v3:Int):Option Qp5:=
 Qjv Zc4 tab (fiB [.val t32,.val t2] Z1y) n [.val t32,.val t2] [⟨t9,[false],none⟩,⟨t4,[false],none⟩] Tryz.f172 [1,0,1,0] [] [0,1,6] m
 ⟨[(0,Vp t32 v1),(1,Vp t2 v2),(6,Vp t2 v3)],[]⟩
theorem Z0x (n:Nat):∀ m,Qsn n m=Qpz n m
 | 0=>rfl
 | m+1=>by rw [show Qsn n (m+1)=Qo2 (Qsn n m) from by kernel_rfl,Z0x n m];rfl
noncomputable def Z3x (n:Nat) (l_0:List Qls) (seq_1:Int):Option Qp5:=Z3s (Qpz n n) l_0 seq_1
noncomputable def Z0r (l_0:List Qls) (seq_1:Int):Option Qp5:=Z3x 1099511627776 l_0 seq_1
noncomputable def Z37:Ent:=⟨[.val t32,.val t2],[⟨t9,[false],none⟩,⟨t4,[false],none⟩],fun x=>Z0r x.1 x.2.1⟩
theorem Z8l:GD 172 Z37:=fnl Z1y (fun n x=>Z3x n x.1 x.2.1) Qk3 Tryz.func172 fun n x=>Eq.trans (b:=Z3s (Qsn n n) x.1 x.2.1) (by kernel_rfl) (by rw [Z0x n n];rfl)
abbrev Qm7:Type:=(Qlg × Bool × Unit) × Unit
noncomputable def Z83:Ctx:=[(172,Z37)]
def Qxo:Fi:={ keep:=[],vty:=[(10,32)],vals:=[],live:=[(0,[0,1,5,25,26,27,28,29,32,44,45,46,47,48,49,50,51]),(1,[0,1,5,9,25,26,27,28,29,32,44,45,46,47,48,49,50,51]),(2,[0,5,33,44,45,46,47,48,49,50,51]),(3,[6,7]),(4,[0,5,10,44,45,46,47,48,49,50,51]),(5,[0,5,10,11,44,45,46,47,48,49,50,51]),(6,[0,5,10,11,12,44,45,46,47,48,49,50,51]),(7,[0,5,10,11,12,38,44,45,46,47,48,49,50,51]),(8,[0,5,10,11,12,44,45,46,47,48,49,50,51]),(9,[0,5,10,11,12,44,45,46,47,48,49,50,51,52]),(10,[0,5,10,11,12,44,45,46,47,48,49,50,51]),(11,[0,5,10,11,12,44,45,46,47,48,49,50,51]),(12,[5,10,65]),(13,[10]),(14,[6,7])] }
abbrev Qpw:Type:=Qlg→Bool→Int→Int→ByteArray→Qlg→Option Qm7
noncomputable def Qq0 (v4:Int) (v2 v7:List Qls) (L1:Qpw) (v3:Bool) (v5:Int) (v6:ByteArray):Option Qm7:=
 bif decide (0≤v4)&&decide (v4<(v2.length:Int)) then
  bif Nat.ble (v7.length+1) 1073741824 then
   L1 v2 v3 (IntKind.wrap .i64 (v4+1)) v5 v6 (v7++[(List.getD v2 v4.toNat (0,(⟨#[]⟩:ByteArray)))])
  else none
 else none
noncomputable def Qkm (L1:Qpw) (v2:List Qls) (v3:Bool) (v4 v5:Int) (v6:ByteArray) (v7:List Qls):Option Qm7:=
 bif decide (v4<(v2.length:Int)) then
  bif !v3 then
   bif decide (0≤v4)&&decide (v4<(v2.length:Int)) then
    bif decide ((List.getD v2 v4.toNat (0,(⟨#[]⟩:ByteArray))).1>v5) then
     bif Nat.ble (v7.length+1) 1073741824 then
      bif decide (0≤v4)&&decide (v4<(v2.length:Int)) then
       bif Nat.ble ((v7++[(v5,v6)]).length+1) 1073741824 then
        L1 v2 true (IntKind.wrap .i64 (v4+1)) v5 v6 ((v7++[(v5,v6)])++[(List.getD v2 v4.toNat (0,(⟨#[]⟩:ByteArray)))])
       else none
      else none
     else none
    else
     Qq0 v4 v2 v7 L1 v3 v5 v6
   else none
  else
   Qq0 v4 v2 v7 L1 v3 v5 v6
 else
 bif !v3 then
  bif Nat.ble (v7.length+1) 1073741824 then
   some ((v7++[(v5,v6)],true,()),())
  else none
 else
  some ((v7,true,()),())
noncomputable def Qqr (L1:Qpw) (l_0:List Qls) (next_1:Int) (x_2:Int × ByteArray):Option Qm7:=
 Option.bind (Z0r l_0 x_2.1) fun r1=>
 bif decide (x_2.1<next_1) then
  some ((l_0,false,()),())
 else
 bif decide (IntKind.wrap .i64 (x_2.1 - next_1) ≥ 8) then
  some ((l_0,false,()),())
 else
 bif r1.1.2.1 then
  some ((l_0,false,()),())
 else
  L1 l_0 false 0 x_2.1 x_2.2 []
noncomputable def Qkv (n:Nat):Nat→Qpw:=iter (fun _ _ _ _ _ _=>none) fun L=>Qkm L
noncomputable def Qqb (n m:Nat) (v2:List Qls) (v3:Bool) (v4 v5:Int) (v6:ByteArray) (v7:List Qls):Option Qm7:=
 Qjv Z83 tab (fiB [.val t32,.val t2,.val t58] Qxo) n [.val t32,.val t2,.val t58] [⟨t32,[false],none⟩,⟨t4,[false],none⟩] Tryz.f140 [1,1,1,1,1,0,1,0] [] [0,5,10,11,12] m
 ⟨[(0,Vp t32 v2),(5,V1 (.ptr (5,0) 0)),(10,V1 (.ref (888888,10))),(11,Vp t4 v3),(12,Vp t2 v4)],[((5,0),Ob.box 59 [LV.pure t2 v5,LV.pure t9 v6]),((888888,10),Ob.row 59 t58 v7)]⟩
theorem Qwo (n:Nat):∀ m,Qqb n m=Qkv n m
 | 0=>rfl
 | m+1=>by rw [show Qqb n (m+1)=Qkm (Qqb n m) from by kernel_rfl,Qwo n m];rfl
noncomputable def Qze (n:Nat) (l_0:List Qls) (next_1:Int) (x_2:Int × ByteArray):Option Qm7:=Qqr (Qkv n n) l_0 next_1 x_2
noncomputable def Qvs (l_0:List Qls) (next_1:Int) (x_2:Int × ByteArray):Option Qm7:=Qze 1099511627776 l_0 next_1 x_2
noncomputable def Z8i:Ent:=⟨[.val t32,.val t2,.val t58],[⟨t32,[false],none⟩,⟨t4,[false],none⟩],fun x=>Qvs x.1 x.2.1 x.2.2.1⟩
theorem Z4y:GD 140 Z8i:=fnl Qxo (fun n x=>Qze n x.1 x.2.1 x.2.2.1) (Qjy Z8l Qk3) Tryz.func140 fun n x=>Eq.trans (b:=Qqr (Qqb n n) x.1 x.2.1 x.2.2.1) (by kernel_rfl) (by rw [Qwo n n];rfl)
noncomputable def Qth (f_0:Int × Int × Qlg × Qlg × Qtb × Int × Int) (i_1:Int × ByteArray):Option ((Z5r × Unit) × Unit):=
 bif f_0.1==0 then
  some ((f_0,()),())
 else
 bif decide (i_1.1<1) then
  some ((f_0,()),())
 else
 bif decide (i_1.1>1000000) then
  some ((f_0,()),())
 else
 bif decide ((i_1.2.size:Int)>12) then
  some ((f_0,()),())
 else
  Option.bind (Qno f_0 i_1.1) fun r1=>
  Option.bind (Qvs (g3 r1.1.1) r1.1.1.1 i_1) fun r2=>
  Option.bind (Ql9 (u3 r1.1.1 r2.1.1)) fun r3=>
  some ((r3.1.1,()),())
noncomputable def Z0g:Ent:=⟨[.val t36,.val t58],[⟨t36,(nF 7),none⟩],fun x=>Qth x.1 x.2.1⟩
theorem Z5z:GD 68 Z0g:=fnk 1 (fo [[2,3,4,9,10,11,14,15,16,19,20,21,22],[2,3,4,23],[4],[2,3,4],[2,4],[2,4],[4]]) (Qjy Qpo (Qjy Qpx (Qjy Z4y Qk3))) Tryz.func68
abbrev Qm3:Type:=(Z5r × Unit) × (Zcu × Unit)
noncomputable def Z4m:Ctx:=[(25,Qrj),(26,Qpt),(44,Qw6),(61,Z1l),(66,Z0d),(67,Z0o),(68,Z0g),(69,Z16)]
def Qv8:Fi:=fo [[0,1,4,18,19,20],[0,1,4,5,18,19,20],[0,1,4,5,6,18,19,20],[0,1,4,5,6,7,18,19,20],[0,1,4,5,6,7,18,19,20,21],[0,1,4,5,6,7,18,19,20],[0,1,4,5,6,7,18,19,20,25],[0,1,4,5,6,7,18,19,20],[0,1,4,5,6,7,18,19,20,25,38],[0,1,4,5,6,7,8,18,19,20],[0,1,4,5,6,7,18,19,20],[0,1,4,5,6,7,18,19,20,25,54],[0,1,4,5,6,7,18,19,20],[0,1,4,5,6,7,18,19,20,63],[0,1,4,5,6,7,18,19,20],[0,1,4,5,6,7,18,19,20],[0,4]]
abbrev Qqz:Type:=Int→Int→Int→List Int→Int→Int→Int→Int→Int→Qlg→Qlg→Qtb→Int→Int→Qlg→Qlg→Qtb→Int→Int→Option Qm3
noncomputable def Ql1 (L1:Qqz) (v3 v4 v5:Int) (v6:List Int) (v7 v8 v9 v10 v11:Int) (v12 v13:List Qls) (v14:List Qrc) (v15 v16:Int) (v17 v18:List Qls) (v19:List Qrc) (v20 v21:Int):Option Qm3:=
 bif decide (v5<v3) then
  Option.bind (Qnu (v6,v7)) fun r22=>
  bif !r22.1.1 then
   Option.bind (Qk5 r22.2.1 6) fun r23=>
   bif r23.1.1==0 then
    Option.bind (Qk5 r23.2.1 3) fun r24=>
    Option.bind (Qk5 r24.2.1 4) fun r25=>
    Option.bind (Qtr (v15,v16,v17,v18,v19,v20,v21) (if IntKind.wrap .i64 ((IntKind.wrap .i64 (v15 - 1))+r24.1.1)>1 then IntKind.wrap .i64 ((IntKind.wrap .i64 (v15 - 1))+r24.1.1) else 1) (IntKind.wrap .i64 ((if IntKind.wrap .i64 ((IntKind.wrap .i64 (v15 - 1))+r24.1.1)>1 then IntKind.wrap .i64 ((IntKind.wrap .i64 (v15 - 1))+r24.1.1) else 1)+r25.1.1))) fun r26=>
    L1 v3 v4 (IntKind.wrap .i64 (v5+1)) r25.2.1.1 r25.2.1.2 v8 v9 v10 v11 v12 v13 v14 r26.1.1.1 r26.1.1.2.1 r26.1.1.2.2.1 (g3 r26.1.1) (g4 r26.1.1) (g5 r26.1.1) (h6 r26.1.1)
   else
   bif r23.1.1==1 then
    Option.bind (Qk5 r23.2.1 5) fun r27=>
    Option.bind (Qno (v15,v16,v17,v18,v19,v20,v21) (IntKind.wrap .i64 (v15+r27.1.1))) fun r28=>
    L1 v3 v4 (IntKind.wrap .i64 (v5+1)) r27.2.1.1 r27.2.1.2 v8 v9 v10 v11 v12 v13 v14 r28.1.1.1 r28.1.1.2.1 r28.1.1.2.2.1 (g3 r28.1.1) (g4 r28.1.1) (g5 r28.1.1) (h6 r28.1.1)
   else
   bif r23.1.1==2 then
    Option.bind (Qk5 r23.2.1 6) fun r29=>
    Option.bind (Qul (v15,v16,v17,v18,v19,v20,v21) (IntKind.wrap .i64 ((IntKind.wrap .i64 (v4+1))+r29.1.1))) fun r30=>
    L1 v3 (IntKind.wrap .i64 ((IntKind.wrap .i64 (v4+1))+r29.1.1)) (IntKind.wrap .i64 (v5+1)) r29.2.1.1 r29.2.1.2 v8 v9 v10 v11 v12 v13 v14 r30.1.1.1 r30.1.1.2.1 r30.1.1.2.2.1 (g3 r30.1.1) (g4 r30.1.1) (g5 r30.1.1) (h6 r30.1.1)
   else
    Option.bind (Qk5 r23.2.1 5) fun r31=>
    Option.bind (Qlq r31.2.1) fun r32=>
    Option.bind (Qth (v15,v16,v17,v18,v19,v20,v21) (if IntKind.wrap .i64 ((IntKind.wrap .i64 (v15 - 1))+r31.1.1)>1 then IntKind.wrap .i64 ((IntKind.wrap .i64 (v15 - 1))+r31.1.1) else 1,r32.1.1)) fun r33=>
    L1 v3 v4 (IntKind.wrap .i64 (v5+1)) r32.2.1.1 r32.2.1.2 v8 v9 v10 v11 v12 v13 v14 r33.1.1.1 r33.1.1.2.1 r33.1.1.2.2.1 (g3 r33.1.1) (g4 r33.1.1) (g5 r33.1.1) (h6 r33.1.1)
  else
   some (((v15,v16,v17,v18,v19,v20,v21),()),(r22.2.1,()))
 else
  some (((v15,v16,v17,v18,v19,v20,v21),()),((v6,v7),()))
noncomputable def Qoo (L1:Qqz) (p_0:(List Int) × Int) (most_1:Int):Option Qm3:=
 Option.bind (Qk5 p_0 5) fun r1=>
 Option.bind (Qtp (0,0,[],[],[],0,0) (IntKind.wrap .i64 (1+r1.1.1))) fun r2=>
 L1 most_1 0 0 r1.2.1.1 r1.2.1.2 0 0 0 0 [] [] [] r2.1.1.1 r2.1.1.2.1 r2.1.1.2.2.1 (g3 r2.1.1) (g4 r2.1.1) (g5 r2.1.1) (h6 r2.1.1)
noncomputable def Qln (n:Nat):Nat→Qqz:=iter (fun _ _ _ _ _ _ _ _ _ _ _ _ _ _ _ _ _ _ _=>none) fun L=>Ql1 L
noncomputable def Qo6 (n m:Nat) (v3 v4 v5:Int) (v6:List Int) (v7 v8 v9 v10 v11:Int) (v12 v13:List Qls) (v14:List Qrc) (v15 v16:Int) (v17 v18:List Qls) (v19:List Qrc) (v20 v21:Int):Option Qm3:=
 Qjv Z4m tab (fiB [.box 75 t74 [false,false],.val t2] Qv8) n [.box 75 t74 [false,false],.val t2] [⟨t36,(nF 7),none⟩] Tryz.f42 [1,1,1,0,1,0] [] [0,1,4,5,6,7] m
 ⟨[(0,V1 (.ptr (0,0) 0)),(1,Vp t2 v3),(4,V1 (.ptr (4,0) 0)),(5,V1 (.ptr (5,0) 0)),(6,Vp t2 v4),(7,Vp t2 v5)],[((0,0),Ob.box 75 [LV.pure t25 v6,LV.pure t2 v7]),((4,0),Ob.box 37 [LV.pure t2 v8,LV.pure t2 v9,LV.ref (4,3),LV.ref (4,4),LV.ref (4,5),LV.pure t2 v10,LV.pure t2 v11]),((4,3),Ob.row 59 t58 v12),((4,4),Ob.row 59 t58 v13),((4,5),Ob.row 55 t54 v14),((5,0),Ob.box 37 [LV.pure t2 v15,LV.pure t2 v16,LV.pure t32 v17,LV.pure t32 v18,LV.pure t33 v19,LV.pure t2 v20,LV.pure t2 v21])]⟩
theorem Qui (n:Nat):∀ m,Qo6 n m=Qln n m
 | 0=>rfl
 | m+1=>by rw [show Qo6 n (m+1)=Ql1 (Qo6 n m) from by kernel_rfl,Qui n m];rfl
noncomputable def Qvo (n:Nat) (p_0:(List Int) × Int) (most_1:Int):Option Qm3:=Qoo (Qln n n) p_0 most_1
noncomputable def Qsy (p_0:(List Int) × Int) (most_1:Int):Option Qm3:=Qvo 1099511627776 p_0 most_1
noncomputable def Z4r:Ent:=⟨[.box 75 t74 [false,false],.val t2],[⟨t36,(nF 7),none⟩],fun x=>Qsy x.1 x.2.1⟩
theorem Z1a:GD 42 Z4r:=fnl Qv8 (fun n x=>Qvo n x.1 x.2.1) (Qjy Qtu (Qjy Qlc (Qjy Qtw (Qjy Z7d (Qjy Qpo (Qjy Z62 (Qjy Z5z (Qjy Z5w Qk3)))))))) Tryz.func42 fun n x=>Eq.trans (b:=Qoo (Qo6 n n) x.1 x.2.1) (by kernel_rfl) (by rw [Qui n n];rfl)
noncomputable def Qs5 (picks_0:List Int) (id_1:Int):Option ((Zql × Unit) × Unit):=
 Option.bind (Qsw picks_0) fun r1=>
 Option.bind (Qk5 r1.1.1 3) fun r2=>
 Option.bind (Qk5 r2.2.1 3) fun r3=>
 Option.bind (Qk5 r3.2.1 9) fun r4=>
 Option.bind (Quk (false,r2.1.1,(⟨#[]⟩:ByteArray),Zrt,(0,0,[],[],[],0,0),r3.1.1) id_1 (⟨#[110]⟩:ByteArray) r4.1.1) fun r5=>
 Option.bind (Qu6 r4.2.1 id_1 20) fun r6=>
 bif id_1 != 1 then
  Option.bind (Qsy r6.2.1 12) fun r7=>
  Option.bind (Qk5 r7.2.1 5) fun r8=>
  bif r8.1.1==0 then
   some (((u4 (u3 r5.1.1 (u1 r6.1.1 r5.1.1.2.1)) (0,0,[],[],[],0,0)),()),())
  else
   some (((u4 (u3 r5.1.1 (u1 r6.1.1 r5.1.1.2.1)) r7.1.1),()),())
 else
  some (((u3 r5.1.1 (u1 r6.1.1 r5.1.1.2.1)),()),())
noncomputable def Z1h:Ent:=⟨[.val t25,.val t2],[⟨t38,(nF 24),none⟩],fun x=>Qs5 x.1 x.2.1⟩
theorem Z6f:GD 16 Z1h:=fnk 1 (fo [[0,1,4],[1,4,5],[1,4,5,6],[1,4,5,6],[1,4,5,6],[4,5,6,31],[4,5,6],[4,6,37],[4,6],[4]]) (Qjy Qyl (Qjy Z75 (Qjy Qlc (Qjy Z2v (Qjy Z1a Qk3))))) Tryz.func16
noncomputable def Qmp (n_0:Int):Option ((Bool × Unit) × Unit):=
 bif decide (n_0 ≥ 0) then
  some ((decide (n_0≤1000000),()),())
 else
  some ((false,()),())
noncomputable def Zc2:Ent:=⟨[.val t2],[⟨t4,[false],none⟩],fun x=>Qmp x.1⟩
theorem Z80:GD 106 Zc2:=fnk 1 (fo [[0,6,7],[2]]) Qk3 Tryz.func106
abbrev Qmo:Type:=(Bool × Unit) × Unit
noncomputable def Z6j:Ctx:=[]
def Qwv:Fi:=fo [[0,1],[0,1,10],[4],[0,1,5],[0,1,5,14],[0,1,5],[0,1,5,25],[4],[4]]
abbrev Qsc:Type:=List Int→List Int→Int→Option Qmo
noncomputable def Qmc (L1:Qsc) (v1 v2:List Int) (v3:Int):Option Qmo:=
 bif decide (v3<(v1.length:Int)) then
  bif decide (0≤v3)&&decide (v3<(v1.length:Int)) then
   bif decide (0≤v3)&&decide (v3<(v2.length:Int)) then
    bif (List.getD v1 v3.toNat 0) != (List.getD v2 v3.toNat 0) then
     some ((false,()),())
    else
     L1 v1 v2 (IntKind.wrap .i64 (v3+1))
   else none
  else none
 else
  some ((true,()),())
noncomputable def Qqe (L1:Qsc) (a_0 b_1:List Int):Option Qmo:=
 bif (a_0.length:Int) != (b_1.length:Int) then
  some ((false,()),())
 else
  L1 a_0 b_1 0
noncomputable def Qmd (n:Nat):Nat→Qsc:=iter (fun _ _ _=>none) fun L=>Qmc L
noncomputable def Qpn (n m:Nat) (v1 v2:List Int) (v3:Int):Option Qmo:=
 Qjv Z6j tab (fiB [.val t28,.val t28] Qwv) n [.val t28,.val t28] [⟨t4,[false],none⟩] Tryz.f81 [1,1,0,1,0] [] [0,1,5] m
 ⟨[(0,Vp t28 v1),(1,Vp t28 v2),(5,Vp t2 v3)],[]⟩
theorem Qw4 (n:Nat):∀ m,Qpn n m=Qmd n m
 | 0=>rfl
 | m+1=>by rw [show Qpn n (m+1)=Qmc (Qpn n m) from by kernel_rfl,Qw4 n m];rfl
noncomputable def Qy6 (n:Nat) (a_0 b_1:List Int):Option Qmo:=Qqe (Qmd n n) a_0 b_1
noncomputable def Quu (a_0 b_1:List Int):Option Qmo:=Qy6 1099511627776 a_0 b_1
noncomputable def Z68:Ent:=⟨[.val t28,.val t28],[⟨t4,[false],none⟩],fun x=>Quu x.1 x.2.1⟩
theorem Z4b:GD 81 Z68:=fnl Qwv (fun n x=>Qy6 n x.1 x.2.1) Qk3 Tryz.func81 fun n x=>Eq.trans (b:=Qqe (Qpn n n) x.1 x.2.1) (by kernel_rfl) (by rw [Qw4 n n];rfl)
noncomputable def Qka (a_0 b_1:Int × Int × Int × Int × Int × Int × (List Int) × Int × Int × ByteArray):Option ((Bool × Unit) × Unit):=
 bif a_0.1==b_1.1 then
  bif a_0.2.1==b_1.2.1 then
   bif a_0.2.2.1==b_1.2.2.1 then
    bif a_0.2.2.2.1==b_1.2.2.2.1 then
     bif a_0.2.2.2.2.1==b_1.2.2.2.2.1 then
      bif a_0.2.2.2.2.2.1==b_1.2.2.2.2.2.1 then
       bif a_0.2.2.2.2.2.2.2.1==b_1.2.2.2.2.2.2.2.1 then
        bif a_0.2.2.2.2.2.2.2.2.1==b_1.2.2.2.2.2.2.2.2.1 then
         bif Qeq a_0.2.2.2.2.2.2.2.2.2 b_1.2.2.2.2.2.2.2.2.2 then
          Option.bind (Quu a_0.2.2.2.2.2.2.1 b_1.2.2.2.2.2.2.1) fun r1=>
          some ((r1.1.1,()),())
         else
          some ((false,()),())
        else
         some ((false,()),())
       else
        some ((false,()),())
      else
       some ((false,()),())
     else
      some ((false,()),())
    else
     some ((false,()),())
   else
    some ((false,()),())
  else
   some ((false,()),())
 else
  some ((false,()),())
noncomputable def Z79:Ent:=⟨[.val t45,.val t45],[⟨t4,[false],none⟩],fun x=>Qka x.1 x.2.1⟩
theorem Z40:GD 72 Z79:=fnk 1 (fo [[2,3,11,12,13,14,15,18,19,20,21,22,25,26,27,28,29,32,33,34,35,36,39,40,41,42,43,46,47,48,49,50,53,54,55,56,57,60,61,62,63,64,67,68,69,70,71],[4]]) (Qjy Z4b Qk3) Tryz.func72
noncomputable def Qsk (arr_0:Int × Int × Int × Int × Int × Int × (List Int) × Int × Int × ByteArray):Option ((Bool × Unit) × Unit):=
 bif decide (arr_0.1<1) then
  some ((false,()),())
 else
 bif decide (arr_0.1>9) then
  some ((false,()),())
 else
 bif decide (arr_0.2.1<1) then
  some ((false,()),())
 else
 bif decide (arr_0.2.1>8) then
  some ((false,()),())
 else
 bif decide (arr_0.2.2.1<1) then
  some ((false,()),())
 else
 bif decide (arr_0.2.2.1>8) then
  some ((false,()),())
 else
 bif arr_0.2.1==arr_0.2.2.1 then
  some ((false,()),())
 else
 bif decide (arr_0.2.2.2.1<1) then
  some ((false,()),())
 else
 bif decide (arr_0.2.2.2.1>1073741824) then
  some ((false,()),())
 else
 bif arr_0.1==2 then
  bif arr_0.1==2 then
   bif decide (arr_0.2.2.2.2.1 ≥ 0) then
    bif decide (arr_0.2.2.2.2.1≤1073741824) then
     bif decide (arr_0.2.2.2.2.2.1 ≥ 0) then
      bif decide (arr_0.2.2.2.2.2.1≤1073741824) then
       Option.bind (Qo0 arr_0.2.2.2.2.2.2.1) fun r1=>
       bif arr_0.1==2 then
        bif r1.1.1 then
         Option.bind (Qmp arr_0.2.2.2.2.2.2.2.1) fun r2=>
         bif r2.1.1 then
          Option.bind (Qka (arr_0.1,arr_0.2.1,arr_0.2.2.1,arr_0.2.2.2.1,arr_0.2.2.2.2.1,arr_0.2.2.2.2.2.1,arr_0.2.2.2.2.2.2.1,arr_0.2.2.2.2.2.2.2.1,0,(⟨#[]⟩:ByteArray)) arr_0) fun r3=>
          some ((r3.1.1,()),())
         else
          some ((false,()),())
        else
         some ((false,()),())
       else
       bif r1.1.1 then
        Option.bind (Qmp arr_0.2.2.2.2.2.2.2.2.1) fun r4=>
        bif r4.1.1 then
         Option.bind (Qka (arr_0.1,arr_0.2.1,arr_0.2.2.1,arr_0.2.2.2.1,arr_0.2.2.2.2.1,arr_0.2.2.2.2.2.1,arr_0.2.2.2.2.2.2.1,0,arr_0.2.2.2.2.2.2.2.2.1,(⟨#[]⟩:ByteArray)) arr_0) fun r5=>
         some ((r5.1.1,()),())
        else
         some ((false,()),())
       else
        some ((false,()),())
      else
      bif arr_0.1==2 then
       some ((false,()),())
      else
       some ((false,()),())
     else
     bif arr_0.1==2 then
      some ((false,()),())
     else
      some ((false,()),())
    else
    bif arr_0.1==2 then
     some ((false,()),())
    else
     some ((false,()),())
   else
   bif arr_0.1==2 then
    some ((false,()),())
   else
    some ((false,()),())
  else
  bif arr_0.1==7 then
   bif decide (arr_0.2.2.2.2.2.2.2.1 ≥ 1) then
    Option.bind (Qmp arr_0.2.2.2.2.2.2.2.1) fun r6=>
    bif r6.1.1 then
     bif decide ((arr_0.2.2.2.2.2.2.2.2.2.size:Int)≤12) then
      Option.bind (Qka (arr_0.1,arr_0.2.1,arr_0.2.2.1,arr_0.2.2.2.1,0,0,[],arr_0.2.2.2.2.2.2.2.1,0,arr_0.2.2.2.2.2.2.2.2.2) arr_0) fun r7=>
      some ((r7.1.1,()),())
     else
      some ((false,()),())
    else
     some ((false,()),())
   else
    some ((false,()),())
  else
  bif arr_0.1==8 then
   bif arr_0.1==8 then
    Option.bind (Ql4 (arr_0.2.2.2.2.2.2.2.1,arr_0.2.2.2.2.2.2.2.2.1)) fun r8=>
    bif r8.1.1 then
     Option.bind (Qka (arr_0.1,arr_0.2.1,arr_0.2.2.1,arr_0.2.2.2.1,0,0,[],arr_0.2.2.2.2.2.2.2.1,arr_0.2.2.2.2.2.2.2.2.1,(⟨#[]⟩:ByteArray)) arr_0) fun r9=>
     some ((r9.1.1,()),())
    else
     some ((false,()),())
   else
    Option.bind (Qka (arr_0.1,arr_0.2.1,arr_0.2.2.1,arr_0.2.2.2.1,0,0,[],0,0,(⟨#[]⟩:ByteArray)) arr_0) fun r10=>
    some ((r10.1.1,()),())
  else
  bif arr_0.1==9 then
   Option.bind (Ql4 (arr_0.2.2.2.2.2.2.2.1,arr_0.2.2.2.2.2.2.2.2.1)) fun r11=>
   bif r11.1.1 then
    Option.bind (Qka (arr_0.1,arr_0.2.1,arr_0.2.2.1,arr_0.2.2.2.1,0,0,[],arr_0.2.2.2.2.2.2.2.1,arr_0.2.2.2.2.2.2.2.2.1,(⟨#[]⟩:ByteArray)) arr_0) fun r12=>
    some ((r12.1.1,()),())
   else
    some ((false,()),())
  else
   Option.bind (Qka (arr_0.1,arr_0.2.1,arr_0.2.2.1,arr_0.2.2.2.1,0,0,[],0,0,(⟨#[]⟩:ByteArray)) arr_0) fun r13=>
   some ((r13.1.1,()),())
 else
 bif arr_0.1==5 then
  bif decide (arr_0.2.2.2.2.1 ≥ 0) then
   bif decide (arr_0.2.2.2.2.1≤1073741824) then
    bif decide (arr_0.2.2.2.2.2.1 ≥ 0) then
     bif decide (arr_0.2.2.2.2.2.1≤1073741824) then
      Option.bind (Qo0 arr_0.2.2.2.2.2.2.1) fun r14=>
      bif arr_0.1==2 then
       bif r14.1.1 then
        Option.bind (Qmp arr_0.2.2.2.2.2.2.2.1) fun r15=>
        bif r15.1.1 then
         Option.bind (Qka (arr_0.1,arr_0.2.1,arr_0.2.2.1,arr_0.2.2.2.1,arr_0.2.2.2.2.1,arr_0.2.2.2.2.2.1,arr_0.2.2.2.2.2.2.1,arr_0.2.2.2.2.2.2.2.1,0,(⟨#[]⟩:ByteArray)) arr_0) fun r16=>
         some ((r16.1.1,()),())
        else
         some ((false,()),())
       else
        some ((false,()),())
      else
      bif r14.1.1 then
       Option.bind (Qmp arr_0.2.2.2.2.2.2.2.2.1) fun r17=>
       bif r17.1.1 then
        Option.bind (Qka (arr_0.1,arr_0.2.1,arr_0.2.2.1,arr_0.2.2.2.1,arr_0.2.2.2.2.1,arr_0.2.2.2.2.2.1,arr_0.2.2.2.2.2.2.1,0,arr_0.2.2.2.2.2.2.2.2.1,(⟨#[]⟩:ByteArray)) arr_0) fun r18=>
        some ((r18.1.1,()),())
       else
        some ((false,()),())
      else
       some ((false,()),())
     else
     bif arr_0.1==2 then
      some ((false,()),())
     else
      some ((false,()),())
    else
    bif arr_0.1==2 then
     some ((false,()),())
    else
     some ((false,()),())
   else
   bif arr_0.1==2 then
    some ((false,()),())
   else
    some ((false,()),())
  else
  bif arr_0.1==2 then
   some ((false,()),())
  else
   some ((false,()),())
 else
 bif arr_0.1==7 then
  bif decide (arr_0.2.2.2.2.2.2.2.1 ≥ 1) then
   Option.bind (Qmp arr_0.2.2.2.2.2.2.2.1) fun r19=>
   bif r19.1.1 then
    bif decide ((arr_0.2.2.2.2.2.2.2.2.2.size:Int)≤12) then
     Option.bind (Qka (arr_0.1,arr_0.2.1,arr_0.2.2.1,arr_0.2.2.2.1,0,0,[],arr_0.2.2.2.2.2.2.2.1,0,arr_0.2.2.2.2.2.2.2.2.2) arr_0) fun r20=>
     some ((r20.1.1,()),())
    else
     some ((false,()),())
   else
    some ((false,()),())
  else
   some ((false,()),())
 else
 bif arr_0.1==8 then
  bif arr_0.1==8 then
   Option.bind (Ql4 (arr_0.2.2.2.2.2.2.2.1,arr_0.2.2.2.2.2.2.2.2.1)) fun r21=>
   bif r21.1.1 then
    Option.bind (Qka (arr_0.1,arr_0.2.1,arr_0.2.2.1,arr_0.2.2.2.1,0,0,[],arr_0.2.2.2.2.2.2.2.1,arr_0.2.2.2.2.2.2.2.2.1,(⟨#[]⟩:ByteArray)) arr_0) fun r22=>
    some ((r22.1.1,()),())
   else
    some ((false,()),())
  else
   Option.bind (Qka (arr_0.1,arr_0.2.1,arr_0.2.2.1,arr_0.2.2.2.1,0,0,[],0,0,(⟨#[]⟩:ByteArray)) arr_0) fun r23=>
   some ((r23.1.1,()),())
 else
 bif arr_0.1==9 then
  Option.bind (Ql4 (arr_0.2.2.2.2.2.2.2.1,arr_0.2.2.2.2.2.2.2.2.1)) fun r24=>
  bif r24.1.1 then
   Option.bind (Qka (arr_0.1,arr_0.2.1,arr_0.2.2.1,arr_0.2.2.2.1,0,0,[],arr_0.2.2.2.2.2.2.2.1,arr_0.2.2.2.2.2.2.2.2.1,(⟨#[]⟩:ByteArray)) arr_0) fun r25=>
   some ((r25.1.1,()),())
  else
   some ((false,()),())
 else
  Option.bind (Qka (arr_0.1,arr_0.2.1,arr_0.2.2.1,arr_0.2.2.2.1,0,0,[],0,0,(⟨#[]⟩:ByteArray)) arr_0) fun r26=>
  some ((r26.1.1,()),())
noncomputable def Qyo:Ent:=⟨[.val t45],[⟨t4,[false],none⟩],fun x=>Qsk x.1⟩
theorem Z51:GD 50 Qyo:=fnk 1 (fo [[1,9,10,11,14,15,16,19,20,21,24,25,26,29,30,31,34,35,36,37,38,41,42,43,46,47,48,77,78,79,82,83,84,87,88,89,92,93,94,104,105,106,113,114,115,129,130,131,134,135,136,137,156,157,158],[1,49,77,78,79,82,83,84,87,88,89,92,93,94,104,105,106,113,114,115,129,130,131,134,135,136,137,156,157,158],[2],[1,3,77,78,79,82,83,84,87,88,89,92,93,94,104,105,106,113,114,115,129,130,131,134,135,136,137,156,157,158],[1,3,4,77,78,79,82,83,84,87,88,89,92,93,94,104,105,106,113,114,115,129,130,131,134,135,136,137,156,157,158],[1,3,4,60,77,78,79,82,83,84,87,88,89,92,93,94,104,105,106,113,114,115,129,130,131,134,135,136,137,156,157,158],[1,3,4,60,61,77,78,79,82,83,84,87,88,89,92,93,94,104,105,106,113,114,115,129,130,131,134,135,136,137,156,157,158],[1,3,4,60,61,77,78,79,82,83,84,87,88,89,92,93,94,104,105,106,113,114,115,129,130,131,134,135,136,137,156,157,158],[1,3,77,78,79,82,83,84,87,88,89,92,93,94,104,105,106,113,114,115,156,157,158],[1,3,4,104,105,106,113,114,115,156,157,158],[1,3,4,98,104,105,106,113,114,115,156,157,158],[1,3,4,104,105,106,156,157,158],[1,3,4,156,157,158],[1,3,4,113,114,115,156,157,158],[1,3,4,156,157,158],[1,3,4,60,117,129,130,131,134,135,136,137,156,157,158],[1,3,129,130,131,134,135,136,137,156,157,158],[1,3,4,156,157,158],[1,3,4,60,139,156,157,158],[1,3,4,139,156,157,158],[1,3,156,157,158],[1,3,4,156,157,158],[2]]) (Qjy Z40 (Qjy Qvv (Qjy Z80 (Qjy Qvg Qk3)))) Tryz.func50
abbrev Qmx:Type:=((List Int) × Unit) × Unit
noncomputable def Z8j:Ctx:=[]
def Qxs:Fi:=fo [[0,1],[1,5],[1,5,10],[1,5],[4]]
abbrev Qt8:Type:=Int→List Int→Option Qmx
noncomputable def Qqf (L1:Qt8) (v1:Int) (v2:List Int):Option Qmx:=
 bif decide (v1 ≥ 128) then
  bif Nat.ble (v2.length+1) 1073741824 then
   L1 (IntKind.wrap .i64 (Int.tdiv v1 128)) (v2++[IntKind.wrap .u8 (IntKind.wrap .i64 ((Int.tmod v1 128)+128))])
  else none
 else
 bif Nat.ble (v2.length+1) 1073741824 then
  some ((v2++[IntKind.wrap .u8 v1],()),())
 else none
noncomputable def Qqp (L1:Qt8) (b_0:List Int) (v_1:Int):Option Qmx:=
 bif Nat.ble (0+b_0.length) 1073741824 then
  L1 v_1 ([]++b_0)
 else none
noncomputable def Qns (n:Nat):Nat→Qt8:=iter (fun _ _=>none) fun L=>Qqf L
noncomputable def Qq3 (n m:Nat) (v1:Int) (v2:List Int):Option Qmx:=
 Qjv Z8j tab (fiB [.val t25,.val t2] Qxs) n [.val t25,.val t2] [⟨t25,[true],none⟩] Tryz.f51 [1,1,0,0] [] [1,5] m
 ⟨[(1,Vp t2 v1),(5,V1 (.ref (888888,5)))],[((888888,5),Ob.row 5 t5 v2)]⟩
theorem Qwp (n:Nat):∀ m,Qq3 n m=Qns n m
 | 0=>rfl
 | m+1=>by rw [show Qq3 n (m+1)=Qqf (Qq3 n m) from by kernel_rfl,Qwp n m];rfl
noncomputable def Qyt (n:Nat) (b_0:List Int) (v_1:Int):Option Qmx:=Qqp (Qns n n) b_0 v_1
noncomputable def Qsm (b_0:List Int) (v_1:Int):Option Qmx:=Qyt 1099511627776 b_0 v_1
noncomputable def Qyn:Ent:=⟨[.val t25,.val t2],[⟨t25,[true],none⟩],fun x=>Qsm x.1 x.2.1⟩
theorem Qw0:GD 51 Qyn:=fnl Qxs (fun n x=>Qyt n x.1 x.2.1) Qk3 Tryz.func51 fun n x=>Eq.trans (b:=Qqp (Qq3 n n) x.1 x.2.1) (by kernel_rfl) (by rw [Qwp n n];rfl)
noncomputable def Qrt (b_0:List Int) (s_1:ByteArray):Option (((List Int) × Unit) × Unit):=
 Option.bind (Qsm b_0 (s_1.size:Int)) fun r1=>
 bif Nat.ble (r1.1.1.length+(s_1.data.toList.map fun b=>(b.toNat:Int)).length) 1073741824 then
  some ((r1.1.1++(s_1.data.toList.map fun b=>(b.toNat:Int)),()),())
 else none
noncomputable def Qxq:Ent:=⟨[.val t25,.val t9],[⟨t25,[true],none⟩],fun x=>Qrt x.1 x.2.1⟩
theorem Z42:GD 52 Qxq:=fnk 1 (fo [[0,1],[4]]) (Qjy Qw0 Qk3) Tryz.func52
abbrev Qlz:Type:=(Int × Unit) × Unit
noncomputable def Z3u:Ctx:=[]
def Qvm:Fi:=fo [[0],[0,3],[0,3,4],[0,3,4,9],[0,3,4],[0,3,4],[0,3,4,5],[0,3,4,5,20],[0,3,4,5],[0,3,4,5,25],[0,3,4,5],[0,3,4,5],[2]]
abbrev Qsj:Type:=List Int→Int→Int→Option Qlz
abbrev Qwc:Type:=List Int→Int→Int→Int→Option Qlz
noncomputable def Qo9 (L2:Qwc) (v1:List Int) (v2 v3:Int):Option Qlz:=
 bif decide (v3<(v1.length:Int)) then
  bif decide (0≤v3)&&decide (v3<(v1.length:Int)) then
   L2 v1 (IntKind.wrap .u32 ((BitVec.ofInt 32 v2 ^^^ BitVec.ofInt 32 (IntKind.wrap .u32 (List.getD v1 v3.toNat 0))).toNat)) v3 0
  else none
 else
  some ((IntKind.wrap .u32 ((BitVec.ofInt 32 4294967295 ^^^ BitVec.ofInt 32 v2).toNat),()),())
noncomputable def Qo8 (L2:Qwc) (L1:Qsj) (v4:List Int) (v5 v6 v7:Int):Option Qlz:=
 bif decide (v7<8) then
  bif (Int.tmod v5 2)==1 then
   L2 v4 (IntKind.wrap .u32 ((BitVec.ofInt 32 (IntKind.wrap .u32 (Int.tdiv v5 2)) ^^^ BitVec.ofInt 32 3988292384).toNat)) v6 (IntKind.wrap .i64 (v7+1))
  else
   L2 v4 (IntKind.wrap .u32 (Int.tdiv v5 2)) v6 (IntKind.wrap .i64 (v7+1))
 else
  L1 v4 v5 (IntKind.wrap .i64 (v6+1))
noncomputable def Z3j (L1:Qsj) (b_0:List Int):Option Qlz:=
 L1 b_0 4294967295 0
noncomputable def Qmq (n:Nat) (m1:Nat) (r1:Qsj):Nat→Qwc:=iter (fun _ _ _ _=>none) fun L=>Qo8 L r1
noncomputable def Qnz (n:Nat):Nat→Qsj:=Qjg (fun _ _ _=>none) fun m L=>Qo9 (Qmq n m L n)
noncomputable def Qpv (n m:Nat) (v1:List Int) (v2 v3:Int):Option Qlz:=
 Qjv Z3u tab (fiB [.val t25] Qvm) n [.val t25] [⟨t91,[false],none⟩] Tryz.f53 [1,1,0,1,0] [] [0,3,4] m
 ⟨[(0,Vp t25 v1),(3,Vp t91 v2),(4,Vp t2 v3)],[]⟩
noncomputable def Qse (n m1 m:Nat) (v4:List Int) (v5 v6 v7:Int):Option Qlz:=
 Qjv Z3u tab (fiB [.val t25] Qvm) n [.val t25] [⟨t91,[false],none⟩] Tryz.f53 [1,1,0,1,0,0,1,0,0,1,1,0] [(m1,[0,3,4])] [0,3,4,5] m
 ⟨[(0,Vp t25 v4),(3,Vp t91 v5),(4,Vp t2 v6),(5,Vp t2 v7)],[]⟩
theorem Z0l (n m1:Nat):∀ m,Qse n m1 m=Qmq n m1 (Qpv n m1) m
 | 0=>rfl
 | m+1=>by rw [show Qse n m1 (m+1)=Qo8 (Qse n m1 m) (Qpv n m1) from by kernel_rfl,Z0l n m1 m];rfl
theorem Z0c (n:Nat):∀ m,Qpv n m=Qnz n m
 | 0=>rfl
 | m+1=>by rw [show Qpv n (m+1)=Qo9 (Qse n m n) from by kernel_rfl,Z0l n m n,Z0c n m];rfl
noncomputable def Z49 (n:Nat) (b_0:List Int):Option Qlz:=Z3j (Qnz n n) b_0
noncomputable def Z0e (b_0:List Int):Option Qlz:=Z49 1099511627776 b_0
noncomputable def Z3r:Ent:=⟨[.val t25],[⟨t91,[false],none⟩],fun x=>Z0e x.1⟩
theorem Z8f:GD 53 Z3r:=fnl Qvm (fun n x=>Z49 n x.1) Qk3 Tryz.func53 fun n x=>Eq.trans (b:=Z3j (Qpv n n) x.1) (by kernel_rfl) (by rw [Z0c n n];rfl)
abbrev Qn4:Type:=((List Int) × Unit) × Unit
noncomputable def Z88:Ctx:=[(50,Qyo),(51,Qyn),(52,Qxq),(53,Z3r)]
def Qxl:Fi:={ keep:=[],vty:=[(4,25)],vals:=[],live:=[(0,[1]),(1,[1,9]),(2,[2]),(3,[1,3]),(4,[1,3]),(5,[1,3,4]),(6,[1,3,4,5]),(7,[1,3,4,5,39]),(8,[1,3,4,5]),(9,[1,3,4,5]),(10,[4]),(11,[4,6]),(12,[2])] }
abbrev Qt2:Type:=Int→Int→Int→Int→Int→Int→Int→List Int→Int→Int→ByteArray→List Int→List Int→Option Qn4
noncomputable def Qmj (L1:Qt2) (v2 v3 v4 v5 v6 v7 v8:Int) (v9:List Int) (v10 v11:Int) (v12:ByteArray) (v13 v14:List Int):Option Qn4:=
 bif decide (v2<(v13.length:Int)) then
  bif decide (0≤v2)&&decide (v2<(v13.length:Int)) then
   bif decide (0≤v2)&&decide (v2<(v13.length:Int)) then
    Option.bind (Qsm v14 (List.getD v13 v2.toNat 0)) fun r15=>
    L1 (IntKind.wrap .i64 (v2+1)) v3 v4 v5 v6 v7 v8 v9 v10 v11 v12 v13 r15.1.1
   else none
  else none
 else
  Option.bind (Qrt v14 v12) fun r16=>
  Option.bind (Z0e r16.1.1) fun r17=>
  bif Nat.ble (r16.1.1.length+4) 1073741824 then
   some ((r16.1.1++[IntKind.wrap .u8 (Int.fdiv r17.1.1 (2 ^ 24)),IntKind.wrap .u8 (Int.fdiv r17.1.1 (2 ^ 16)),IntKind.wrap .u8 (Int.fdiv r17.1.1 (2 ^ 8)),IntKind.wrap .u8 r17.1.1],()),())
  else none
noncomputable def Qqo (L1:Qt2) (m_0:Int × Int × Int × Int × Int × Int × (List Int) × Int × Int × ByteArray):Option Qn4:=
 Option.bind (Qsk m_0) fun r1=>
 bif !r1.1.1 then
  some (([],()),())
 else
 bif Nat.ble (7+m_0.2.2.2.2.2.2.1.length) 1073741824 then
  bif Nat.ble (([m_0.1,m_0.2.1,m_0.2.2.1,m_0.2.2.2.1,m_0.2.2.2.2.1,m_0.2.2.2.2.2.1,(m_0.2.2.2.2.2.2.1.length:Int)]++m_0.2.2.2.2.2.2.1).length+2) 1073741824 then
   L1 0 m_0.1 m_0.2.1 m_0.2.2.1 m_0.2.2.2.1 m_0.2.2.2.2.1 m_0.2.2.2.2.2.1 m_0.2.2.2.2.2.2.1 m_0.2.2.2.2.2.2.2.1 m_0.2.2.2.2.2.2.2.2.1 m_0.2.2.2.2.2.2.2.2.2 (([m_0.1,m_0.2.1,m_0.2.2.1,m_0.2.2.2.1,m_0.2.2.2.2.1,m_0.2.2.2.2.2.1,(m_0.2.2.2.2.2.2.1.length:Int)]++m_0.2.2.2.2.2.2.1)++[m_0.2.2.2.2.2.2.2.1,m_0.2.2.2.2.2.2.2.2.1]) []
  else none
 else none
noncomputable def Qml (n:Nat):Nat→Qt2:=iter (fun _ _ _ _ _ _ _ _ _ _ _ _ _=>none) fun L=>Qmj L
noncomputable def Qqa (n m:Nat) (v2 v3 v4 v5 v6 v7 v8:Int) (v9:List Int) (v10 v11:Int) (v12:ByteArray) (v13 v14:List Int):Option Qn4:=
 Qjv Z88 tab (fiB [.val t45] Qxl) n [.val t45] [⟨t25,[true],none⟩] Tryz.f19 [1,1,1,1,1,0,1,0] [] [1,3,4,5] m
 ⟨[(1,V1 (.ptr (1,0) 0)),(3,V1 (.ref (888888,3))),(4,V1 (.ref (888888,4))),(5,Vp t2 v2)],[((1,0),Ob.box 46 [LV.pure t2 v3,LV.pure t2 v4,LV.pure t2 v5,LV.pure t2 v6,LV.pure t2 v7,LV.pure t2 v8,LV.pure t28 v9,LV.pure t2 v10,LV.pure t2 v11,LV.pure t9 v12]),((888888,3),Ob.row 3 t2 v13),((888888,4),Ob.row 5 t5 v14)]⟩
theorem Qwi (n:Nat):∀ m,Qqa n m=Qml n m
 | 0=>rfl
 | m+1=>by rw [show Qqa n (m+1)=Qmj (Qqa n m) from by kernel_rfl,Qwi n m];rfl
noncomputable def Qza (n:Nat) (m_0:Int × Int × Int × Int × Int × Int × (List Int) × Int × Int × ByteArray):Option Qn4:=Qqo (Qml n n) m_0
noncomputable def Qso (m_0:Int × Int × Int × Int × Int × Int × (List Int) × Int × Int × ByteArray):Option Qn4:=Qza 1099511627776 m_0
noncomputable def Qz2:Ent:=⟨[.val t45],[⟨t25,[true],none⟩],fun x=>Qso x.1⟩
theorem Z4x:GD 19 Qz2:=fnl Qxl (fun n x=>Qza n x.1) (Qjy Z51 (Qjy Qw0 (Qjy Z42 (Qjy Z8f Qk3)))) Tryz.func19 fun n x=>Eq.trans (b:=Qqo (Qqa n n) x.1) (by kernel_rfl) (by rw [Qwi n n];rfl)
abbrev Qkd:Type:=(Bool × Unit) × Unit
noncomputable def Qwk:Ctx:=[(10,Z13),(11,Z3t),(16,Z1h),(17,Qsb),(18,Zd2),(19,Qz2)]
def Qri:Fi:=fo [[0,1,2,22,23,24,101,102,103,104,105,106,107,108,109,110,111,112,113,114,120,121,122,123,124,125,126,127,134,135,136,137,138,139,140,141,142,143,144,147,148,149,150,151,152,153,154,155,156,157,158,159,160,161,162,163,164,165,166,167,168,169,170,171,172,173,176,177,178,179,180,181,182,183,184,185,186,187,188,189,190,191,192,193,194,195,196,197,198,199,200,201,202,211,212,213,214,215,216,217,218,219,220,221,222,223,224,225,226],[0,1,2,17,22,23,24,101,102,103,104,105,106,107,108,109,110,111,112,113,114,120,121,122,123,124,125,126,127,134,135,136,137,138,139,140,141,142,143,144,147,148,149,150,151,152,153,154,155,156,157,158,159,160,161,162,163,164,165,166,167,168,169,170,171,172,173,176,177,178,179,180,181,182,183,184,185,186,187,188,189,190,191,192,193,194,195,196,197,198,199,200,201,202,211,212,213,214,215,216,217,218,219,220,221,222,223,224,225,226],[6],[0,1,2,25,101,102,103,104,105,106,107,108,109,110,111,112,113,114,120,121,122,123,124,125,126,127,134,135,136,137,138,139,140,141,142,143,144,147,148,149,150,151,152,153,154,155,156,157,158,159,160,161,162,163,164,165,166,167,168,169,170,171,172,173,176,177,178,179,180,181,182,183,184,185,186,187,188,189,190,191,192,193,194,195,196,197,198,199,200,201,202,211,212,213,214,215,216,217,218,219,220,221,222,223,224,225,226],[6],[0,1,7,101,102,103,104,105,106,107,108,109,110,111,112,113,114,120,121,122,123,124,125,126,127,134,135,136,137,138,139,140,141,142,143,144,147,148,149,150,151,152,153,154,155,156,157,158,159,160,161,162,163,164,165,166,167,168,169,170,171,172,173,176,177,178,179,180,181,182,183,184,185,186,187,188,189,190,191,192,193,194,195,196,197,198,199,200,201,202,211,212,213,214,215,216,217,218,219,220,221,222,223,224,225,226],[1,7,8,101,102,103,104,105,106,107,108,109,110,111,112,113,114,120,121,122,123,124,125,126,127,134,135,136,137,138,139,140,141,142,143,144,147,148,149,150,151,152,153,154,155,156,157,158,159,160,161,162,163,164,165,166,167,168,169,170,171,172,173,176,177,178,179,180,181,182,183,184,185,186,187,188,189,190,191,192,193,194,195,196,197,198,199,200,201,202,211,212,213,214,215,216,217,218,219,220,221,222,223,224,225,226],[8,9,101,102,103,104,105,106,107,108,109,110,111,112,113,114,120,121,122,123,124,125,126,127,134,135,136,137,138,139,140,141,142,143,144,147,148,149,150,151,152,153,154,155,156,157,158,159,160,161,162,163,164,165,166,167,168,169,170,171,172,173,176,177,178,179,180,181,182,183,184,185,186,187,188,189,190,191,192,193,194,195,196,197,198,199,200,201,202,211,212,213,214,215,216,217,218,219,220,221,222,223,224,225,226],[8,9,40,101,102,103,104,105,106,107,108,109,110,111,112,113,114,120,121,122,123,124,125,126,127,134,135,136,137,138,139,140,141,142,143,144,147,148,149,150,151,152,153,154,155,156,157,158,159,160,161,162,163,164,165,166,167,168,169,170,171,172,173,176,177,178,179,180,181,182,183,184,185,186,187,188,189,190,191,192,193,194,195,196,197,198,199,200,201,202,211,212,213,214,215,216,217,218,219,220,221,222,223,224,225,226],[8,9,101,102,103,104,105,106,107,108,109,110,111,112,113,114,120,121,122,123,124,125,126,127,134,135,136,137,138,139,140,141,142,143,144,147,148,149,150,151,152,153,154,155,156,157,158,159,160,161,162,163,164,165,166,167,168,169,170,171,172,173,176,177,178,179,180,181,182,183,184,185,186,187,188,189,190,191,192,193,194,195,196,197,198,199,200,201,202,211,212,213,214,215,216,217,218,219,220,221,222,223,224,225,226],[8,9,10,11,101,102,103,104,105,106,107,108,109,110,111,112,113,114,120,121,122,123,124,125,126,127,134,135,136,137,138,139,140,141,142,143,144,147,148,149,150,151,152,153,154,155,156,157,158,159,160,161,162,163,164,165,166,167,168,169,170,171,172,173,176,177,178,179,180,181,182,183,184,185,186,187,188,189,190,191,192,193,194,195,196,197,198,199,200,201,202,211,212,213,214,215,216,217,218,219,220,221,222,223,224,225,226],[8,9,10,11,64,101,102,103,104,105,106,107,108,109,110,111,112,113,114,120,121,122,123,124,125,126,127,134,135,136,137,138,139,140,141,142,143,144,147,148,149,150,151,152,153,154,155,156,157,158,159,160,161,162,163,164,165,166,167,168,169,170,171,172,173,176,177,178,179,180,181,182,183,184,185,186,187,188,189,190,191,192,193,194,195,196,197,198,199,200,201,202,211,212,213,214,215,216,217,218,219,220,221,222,223,224,225,226],[6],[9,10,11,12,101,102,103,104,105,106,107,108,109,110,111,112,113,114,120,121,122,123,124,125,126,127,134,135,136,137,138,139,140,141,142,143,144,147,148,149,150,151,152,153,154,155,156,157,158,159,160,161,162,163,164,165,166,167,168,169,170,171,172,173,176,177,178,179,180,181,182,183,184,185,186,187,188,189,190,191,192,193,194,195,196,197,198,199,200,201,202,211,212,213,214,215,216,217,218,219,220,221,222,223,224,225,226],[9,10,11,12,13,101,102,103,104,105,106,107,108,109,110,111,112,113,114,120,121,122,123,124,125,126,127,134,135,136,137,138,139,140,141,142,143,144,147,148,149,150,151,152,153,154,155,156,157,158,159,160,161,162,163,164,165,166,167,168,169,170,171,172,173,176,177,178,179,180,181,182,183,184,185,186,187,188,189,190,191,192,193,194,195,196,197,198,199,200,201,202,211,212,213,214,215,216,217,218,219,220,221,222,223,224,225,226],[9,10,11,12,13,78,101,102,103,104,105,106,107,108,109,110,111,112,113,114,120,121,122,123,124,125,126,127,134,135,136,137,138,139,140,141,142,143,144,147,148,149,150,151,152,153,154,155,156,157,158,159,160,161,162,163,164,165,166,167,168,169,170,171,172,173,176,177,178,179,180,181,182,183,184,185,186,187,188,189,190,191,192,193,194,195,196,197,198,199,200,201,202,211,212,213,214,215,216,217,218,219,220,221,222,223,224,225,226],[9,10,11,12,13,101,102,103,104,105,106,107,108,109,110,111,112,113,114,120,121,122,123,124,125,126,127,134,135,136,137,138,139,140,141,142,143,144,147,148,149,150,151,152,153,154,155,156,157,158,159,160,161,162,163,164,165,166,167,168,169,170,171,172,173,176,177,178,179,180,181,182,183,184,185,186,187,188,189,190,191,192,193,194,195,196,197,198,199,200,201,202,211,212,213,214,215,216,217,218,219,220,221,222,223,224,225,226],[9,10,11,12,13,14,101,102,103,104,105,106,107,108,109,110,111,112,113,114,120,121,122,123,124,125,126,127,134,135,136,137,138,139,140,141,142,143,144,147,148,149,150,151,152,153,154,155,156,157,158,159,160,161,162,163,164,165,166,167,168,169,170,171,172,173,176,177,178,179,180,181,182,183,184,185,186,187,188,189,190,191,192,193,194,195,196,197,198,199,200,201,202,211,212,213,214,215,216,217,218,219,220,221,222,223,224,225,226],[9,10,11,12,13,14,15,101,102,103,104,105,106,107,108,109,110,111,112,113,114,120,121,122,123,124,125,126,127,134,135,136,137,138,139,140,141,142,143,144,147,148,149,150,151,152,153,154,155,156,157,158,159,160,161,162,163,164,165,166,167,168,169,170,171,172,173,176,177,178,179,180,181,182,183,184,185,186,187,188,189,190,191,192,193,194,195,196,197,198,199,200,201,202,211,212,213,214,215,216,217,218,219,220,221,222,223,224,225,226],[9,10,11,12,13,14,15,84,101,102,103,104,105,106,107,108,109,110,111,112,113,114,120,121,122,123,124,125,126,127,134,135,136,137,138,139,140,141,142,143,144,147,148,149,150,151,152,153,154,155,156,157,158,159,160,161,162,163,164,165,166,167,168,169,170,171,172,173,176,177,178,179,180,181,182,183,184,185,186,187,188,189,190,191,192,193,194,195,196,197,198,199,200,201,202,211,212,213,214,215,216,217,218,219,220,221,222,223,224,225,226],[9,10,11,12,13,14,15,101,102,103,104,105,106,107,108,109,110,111,112,113,114,120,121,122,123,124,125,126,127,134,135,136,137,138,139,140,141,142,143,144,147,148,149,150,151,152,153,154,155,156,157,158,159,160,161,162,163,164,165,166,167,168,169,170,171,172,173,176,177,178,179,180,181,182,183,184,185,186,187,188,189,190,191,192,193,194,195,196,197,198,199,200,201,202,211,212,213,214,215,216,217,218,219,220,221,222,223,224,225,226],[9,10,11,12,13,14,15,101,102,103,104,105,106,107,108,109,110,111,112,113,114,115,120,121,122,123,124,125,126,127,134,135,136,137,138,139,140,141,142,143,144,147,148,149,150,151,152,153,154,155,156,157,158,159,160,161,162,163,164,165,166,167,168,169,170,171,172,173,176,177,178,179,180,181,182,183,184,185,186,187,188,189,190,191,192,193,194,195,196,197,198,199,200,201,202,211,212,213,214,215,216,217,218,219,220,221,222,223,224,225,226],[9,10,11,12,13,14,15,101,102,103,104,105,106,107,108,109,110,111,112,113,114,120,121,122,123,124,125,126,127,128,134,135,136,137,138,139,140,141,142,143,144,147,148,149,150,151,152,153,154,155,156,157,158,159,160,161,162,163,164,165,166,167,168,169,170,171,172,173,176,177,178,179,180,181,182,183,184,185,186,187,188,189,190,191,192,193,194,195,196,197,198,199,200,201,202,211,212,213,214,215,216,217,218,219,220,221,222,223,224,225,226],[9,10,11,12,13,14,15,101,102,103,104,105,106,107,108,109,110,111,112,113,114,120,121,122,123,124,125,126,127,134,135,136,137,138,139,140,141,142,143,144,147,148,149,150,151,152,153,154,155,156,157,158,159,160,161,162,163,164,165,166,167,168,169,170,171,172,173,176,177,178,179,180,181,182,183,184,185,186,187,188,189,190,191,192,193,194,195,196,197,198,199,200,201,202,203,211,212,213,214,215,216,217,218,219,220,221,222,223,224,225,226],[6],[9,10,11,12,13,14,15,101,102,103,104,105,106,107,108,109,110,111,112,113,114,120,121,122,123,124,125,126,127,134,135,136,137,138,139,140,141,142,143,144,147,148,149,150,151,152,153,154,155,156,157,158,159,160,161,162,163,164,165,166,167,168,169,170,171,172,173,176,177,178,179,180,181,182,183,184,185,186,187,188,189,190,191,192,193,194,195,196,197,198,199,200,201,202,211,212,213,214,215,216,217,218,219,220,221,222,223,224,225,226],[9,10,11,12,13,101,102,103,104,105,106,107,108,109,110,111,112,113,114,120,121,122,123,124,125,126,127,134,135,136,137,138,139,140,141,142,143,144,147,148,149,150,151,152,153,154,155,156,157,158,159,160,161,162,163,164,165,166,167,168,169,170,171,172,173,176,177,178,179,180,181,182,183,184,185,186,187,188,189,190,191,192,193,194,195,196,197,198,199,200,201,202,211,212,213,214,215,216,217,218,219,220,221,222,223,224,225,226,227],[6],[6]]
abbrev Qmr:Type:=Qtb→Int→Int→Int→Int→Int→Int→Int→Int→Int→ByteArray→List Int→Bool→Int→ByteArray→Int→Int→Int→Int→Int→Int→List Int→Int→Int→Int→Int→Int→Z63→Int→Int→Qlg→Qlg→Qtb→Int→Int→Int→Zau→Option Qkd
abbrev Qlt:Type:=Qtb→Int→Int→Int→Int→Int→Int→Int→Int→Int→Int→Int→ByteArray→List Int→Bool→Int→ByteArray→Int→Int→Int→Int→Int→Int→List Int→Int→Int→Int→Int→Int→Z63→Int→Int→Qlg→Qlg→Qtb→Int→Int→Int→Zau→Option Qkd
noncomputable def Qon (v47:Int) (v82:List Z18) (v46:Int) (v44:List Qrc) (L2:Qlt) (v45 v48 v49 v50 v51 v52 v53 v54 v55:Int) (v56:ByteArray) (v57:List Int) (v58:Bool) (v59:Int) (v60:ByteArray) (v61 v62 v63 v64 v65 v66:Int) (v67:List Int) (v68 v69 v70 v71 v72:Int) (v73:List Qlf) (v74 v75:Int) (v76 v77:List Qls) (v78:List Qrc) (v79 v80 v81:Int):Option Qkd:=
 bif decide (0≤v47)&&decide (v47<(v82.length:Int)) then
  bif decide (0≤v47)&&decide (v47<(v82.length:Int)) then
   bif ((List.getD v82 v47.toNat Zkx).1)==9 then
    bif decide (0≤v46)&&decide (v46<(v44.length:Int)) then
     bif ((List.getD v44 v46.toNat Zos).1) != 2 then
      some ((false,()),())
     else
     bif decide (0≤v47)&&decide (v47<(v82.length:Int)) then
      bif decide (0≤v47)&&decide (v47<(v82.length:Int)) then
       bif decide (0≤v46)&&decide (v46<(v44.length:Int)) then
        bif ((((((((((List.getD v82 v47.toNat Zkx).2).2).2).2).2).2).2).2).1) != ((((List.getD v44 v46.toNat Zos).2).2).1) then
         some ((false,()),())
        else
         L2 v44 v45 (IntKind.wrap .i64 (v46+1)) (IntKind.wrap .i64 (v47+1)) v48 v49 v50 v51 v52 v53 v54 v55 v56 v57 v58 v59 v60 v61 v62 v63 v64 v65 v66 v67 v68 v69 v70 v71 v72 v73 v74 v75 v76 v77 v78 v79 v80 v81 v82
       else none
      else none
     else none
    else none
   else
    L2 v44 v45 (IntKind.wrap .i64 (v46+1)) (IntKind.wrap .i64 (v47+1)) v48 v49 v50 v51 v52 v53 v54 v55 v56 v57 v58 v59 v60 v61 v62 v63 v64 v65 v66 v67 v68 v69 v70 v71 v72 v73 v74 v75 v76 v77 v78 v79 v80 v81 v82
  else none
 else none
noncomputable def Qoz (v46:Int) (v44:List Qrc) (v47:Int) (v82:List Z18) (L2:Qlt) (v45 v48 v49 v50 v51 v52 v53 v54 v55:Int) (v56:ByteArray) (v57:List Int) (v58:Bool) (v59:Int) (v60:ByteArray) (v61 v62 v63 v64 v65 v66:Int) (v67:List Int) (v68 v69 v70 v71 v72:Int) (v73:List Qlf) (v74 v75:Int) (v76 v77:List Qls) (v78:List Qrc) (v79 v80 v81:Int):Option Qkd:=
 bif decide (v46 ≥ (v44.length:Int)) then
  some ((false,()),())
 else
 bif decide (0≤v47)&&decide (v47<(v82.length:Int)) then
  bif decide (0≤v47)&&decide (v47<(v82.length:Int)) then
   bif decide (0≤v46)&&decide (v46<(v44.length:Int)) then
    bif (((((((((List.getD v82 v47.toNat Zkx).2).2).2).2).2).2).2).1) != (((List.getD v44 v46.toNat Zos).2).1) then
     some ((false,()),())
    else
    bif decide (0≤v47)&&decide (v47<(v82.length:Int)) then
     bif decide (0≤v47)&&decide (v47<(v82.length:Int)) then
      bif ((List.getD v82 v47.toNat Zkx).1)==7 then
       bif decide (0≤v46)&&decide (v46<(v44.length:Int)) then
        bif ((List.getD v44 v46.toNat Zos).1) != 1 then
         some ((false,()),())
        else
        bif decide (0≤v47)&&decide (v47<(v82.length:Int)) then
         bif decide (0≤v47)&&decide (v47<(v82.length:Int)) then
          bif decide (0≤v46)&&decide (v46<(v44.length:Int)) then
           bif !(Qeq ((((((((((List.getD v82 v47.toNat Zkx).2).2).2).2).2).2).2).2).2) (((((List.getD v44 v46.toNat Zos).2).2).2).1)) then
            some ((false,()),())
           else
            Qon v47 v82 v46 v44 L2 v45 v48 v49 v50 v51 v52 v53 v54 v55 v56 v57 v58 v59 v60 v61 v62 v63 v64 v65 v66 v67 v68 v69 v70 v71 v72 v73 v74 v75 v76 v77 v78 v79 v80 v81
          else none
         else none
        else none
       else none
      else
       Qon v47 v82 v46 v44 L2 v45 v48 v49 v50 v51 v52 v53 v54 v55 v56 v57 v58 v59 v60 v61 v62 v63 v64 v65 v66 v67 v68 v69 v70 v71 v72 v73 v74 v75 v76 v77 v78 v79 v80 v81
     else none
    else none
   else none
  else none
 else none
noncomputable def Qov (v48 v47:Int) (v82:List Z18) (v49:Int) (L2:Qlt) (v44:List Qrc) (v45 v46 v50 v51 v52 v53 v54 v55:Int) (v56:ByteArray) (v57:List Int) (v58:Bool) (v59:Int) (v60:ByteArray) (v61 v62 v63 v64 v65 v66:Int) (v67:List Int) (v68 v69 v70 v71 v72:Int) (v73:List Qlf) (v74 v75:Int) (v76 v77:List Qls) (v78:List Qrc) (v79 v80 v81:Int):Option Qkd:=
 bif v48==8 then
  bif decide (0≤v47)&&decide (v47<(v82.length:Int)) then
   bif decide (0≤v47)&&decide (v47<(v82.length:Int)) then
    bif ((((List.getD v82 v47.toNat Zkx).2).2).1)==v49 then
     L2 v44 v45 v46 (IntKind.wrap .i64 (v47+1)) v48 v49 v50 v51 v52 v53 v54 v55 v56 v57 v58 v59 v60 v61 v62 v63 v64 v65 v66 v67 v68 v69 v70 v71 v72 v73 v74 v75 v76 v77 v78 v79 v80 v81 v82
    else
     Qoz v46 v44 v47 v82 L2 v45 v48 v49 v50 v51 v52 v53 v54 v55 v56 v57 v58 v59 v60 v61 v62 v63 v64 v65 v66 v67 v68 v69 v70 v71 v72 v73 v74 v75 v76 v77 v78 v79 v80 v81
   else none
  else none
 else
  Qoz v46 v44 v47 v82 L2 v45 v48 v49 v50 v51 v52 v53 v54 v55 v56 v57 v58 v59 v60 v61 v62 v63 v64 v65 v66 v67 v68 v69 v70 v71 v72 v73 v74 v75 v76 v77 v78 v79 v80 v81
noncomputable def Qlw (L2:Qlt) (v7:List Qrc) (v8 v9 v10 v11 v12 v13 v14 v15 v16:Int) (v17:ByteArray) (v18:List Int) (v19:Bool) (v20:Int) (v21:ByteArray) (v22 v23 v24 v25 v26 v27:Int) (v28:List Int) (v29 v30 v31 v32 v33:Int) (v34:List Qlf) (v35 v36:Int) (v37 v38:List Qls) (v39:List Qrc) (v40 v41 v42:Int) (v43:List Z18):Option Qkd:=
 bif decide (v8<(v34.length:Int)) then
  L2 v7 v8 0 0 v9 v10 v11 v12 v13 v14 v15 v16 v17 v18 v19 v20 v21 v22 v23 v24 v25 v26 v27 v28 v29 v30 v31 v32 v33 v34 v35 v36 v37 v38 v39 v40 v41 v42 v43
 else
  some ((true,()),())
noncomputable def Qm0 (L2:Qlt) (L1:Qmr) (v44:List Qrc) (v45 v46 v47 v48 v49 v50 v51 v52 v53 v54 v55:Int) (v56:ByteArray) (v57:List Int) (v58:Bool) (v59:Int) (v60:ByteArray) (v61 v62 v63 v64 v65 v66:Int) (v67:List Int) (v68 v69 v70 v71 v72:Int) (v73:List Qlf) (v74 v75:Int) (v76 v77:List Qls) (v78:List Qrc) (v79 v80 v81:Int) (v82:List Z18):Option Qkd:=
 bif decide (v47<(v82.length:Int)) then
  bif decide (0≤v47)&&decide (v47<(v82.length:Int)) then
   bif decide (0≤v47)&&decide (v47<(v82.length:Int)) then
    bif decide (0≤v45)&&decide (v45<(v73.length:Int)) then
     bif ((((List.getD v82 v47.toNat Zkx).2).2).1) != ((List.getD v73 v45.toNat (0,0,0)).1) then
      L2 v44 v45 v46 (IntKind.wrap .i64 (v47+1)) v48 v49 v50 v51 v52 v53 v54 v55 v56 v57 v58 v59 v60 v61 v62 v63 v64 v65 v66 v67 v68 v69 v70 v71 v72 v73 v74 v75 v76 v77 v78 v79 v80 v81 v82
     else
     bif decide (0≤v47)&&decide (v47<(v82.length:Int)) then
      bif decide (0≤v47)&&decide (v47<(v82.length:Int)) then
       bif ((List.getD v82 v47.toNat Zkx).1) != 7 then
        bif decide (0≤v47)&&decide (v47<(v82.length:Int)) then
         bif decide (0≤v47)&&decide (v47<(v82.length:Int)) then
          bif ((List.getD v82 v47.toNat Zkx).1) != 9 then
           L2 v44 v45 v46 (IntKind.wrap .i64 (v47+1)) v48 v49 v50 v51 v52 v53 v54 v55 v56 v57 v58 v59 v60 v61 v62 v63 v64 v65 v66 v67 v68 v69 v70 v71 v72 v73 v74 v75 v76 v77 v78 v79 v80 v81 v82
          else
           Qov v48 v47 v82 v49 L2 v44 v45 v46 v50 v51 v52 v53 v54 v55 v56 v57 v58 v59 v60 v61 v62 v63 v64 v65 v66 v67 v68 v69 v70 v71 v72 v73 v74 v75 v76 v77 v78 v79 v80 v81
         else none
        else none
       else
        Qov v48 v47 v82 v49 L2 v44 v45 v46 v50 v51 v52 v53 v54 v55 v56 v57 v58 v59 v60 v61 v62 v63 v64 v65 v66 v67 v68 v69 v70 v71 v72 v73 v74 v75 v76 v77 v78 v79 v80 v81
      else none
     else none
    else none
   else none
  else none
 else
 bif v46 != (v44.length:Int) then
  bif v48==8 then
   bif decide (0≤v45)&&decide (v45<(v73.length:Int)) then
    bif !(((List.getD v73 v45.toNat (0,0,0)).1)==v49) then
     some ((false,()),())
    else
     L1 v44 (IntKind.wrap .i64 (v45+1)) v48 v49 v50 v51 v52 v53 v54 v55 v56 v57 v58 v59 v60 v61 v62 v63 v64 v65 v66 v67 v68 v69 v70 v71 v72 v73 v74 v75 v76 v77 v78 v79 v80 v81 v82
   else none
  else
   some ((false,()),())
 else
  L1 v44 (IntKind.wrap .i64 (v45+1)) v48 v49 v50 v51 v52 v53 v54 v55 v56 v57 v58 v59 v60 v61 v62 v63 v64 v65 v66 v67 v68 v69 v70 v71 v72 v73 v74 v75 v76 v77 v78 v79 v80 v81 v82
noncomputable def Qps (L1:Qmr) (arr_0 x_1:List Int) (x_2:Int):Option Qkd:=
 Option.bind (Qxa) fun r1=>
 bif !r1.1.1 then
  some ((false,()),())
 else
 bif decide ((arr_0.length:Int)>150) then
  some ((true,()),())
 else
 bif decide ((x_1.length:Int)>15) then
  some ((true,()),())
 else
  Option.bind (Qs5 arr_0 (IntKind.wrap .i64 (2+(IntKind.wrap .i64 (Int.tmod x_2 7))))) fun r2=>
  Option.bind (Qsw x_1) fun r3=>
  Option.bind (Qkp r3.1.1 (IntKind.wrap .i64 (2+(IntKind.wrap .i64 (Int.tmod x_2 7))))) fun r4=>
  bif (g3 (g3 r2.1.1)) != 0 then
   Option.bind (Qso (u3 (u1 r4.1.1 (g3 (g3 r2.1.1))) (g4 (g3 r2.1.1)))) fun r5=>
   Option.bind (Qtl r2.1.1 r5.1.1) fun r6=>
   bif decide (((g4 (g4 r6.1.1)).length:Int)<((g4 (g4 r2.1.1)).length:Int)) then
    some ((false,()),())
   else
   bif (decide (0≤((g4 (g4 r2.1.1)).length:Int))&&decide (((g4 (g4 r2.1.1)).length:Int)≤((g4 (g4 r6.1.1)).length:Int)))&&decide (((g4 (g4 r6.1.1)).length:Int)≤((g4 (g4 r6.1.1)).length:Int)) then
    L1 (List.drop (((g4 (g4 r2.1.1)).length:Int).toNat) (List.take (((g4 (g4 r6.1.1)).length:Int).toNat) (g4 (g4 r6.1.1)))) 0 r4.1.1.1 (g3 (g3 r2.1.1)) r4.1.1.2.2.1 (g4 (g3 r2.1.1)) (g4 r4.1.1) (g5 r4.1.1) (g7 r4.1.1) (g8 r4.1.1) (h9 r4.1.1) (g6 r4.1.1) r6.1.1.1 r6.1.1.2.1 r6.1.1.2.2.1 (g3 r6.1.1).1 (g3 r6.1.1).2.1 (g3 r6.1.1).2.2.1 (g3 (g3 r6.1.1)) (g4 (g3 r6.1.1)) (g5 (g3 r6.1.1)) (g6 (g3 r6.1.1)) (g7 (g3 r6.1.1)) (g8 (g3 r6.1.1)) (g9 (g3 r6.1.1)) (g10 (g3 r6.1.1)) (g11 (g3 r6.1.1)) (h12 (g3 r6.1.1)) (g4 r6.1.1).1 (g4 r6.1.1).2.1 (g4 r6.1.1).2.2.1 (g3 (g4 r6.1.1)) (g4 (g4 r6.1.1)) (g5 (g4 r6.1.1)) (h6 (g4 r6.1.1)) (h5 r6.1.1) r6.1.2.1
   else none
  else
   Option.bind (Qso r4.1.1) fun r83=>
   Option.bind (Qtl r2.1.1 r83.1.1) fun r84=>
   bif decide (((g4 (g4 r84.1.1)).length:Int)<((g4 (g4 r2.1.1)).length:Int)) then
    some ((false,()),())
   else
   bif (decide (0≤((g4 (g4 r2.1.1)).length:Int))&&decide (((g4 (g4 r2.1.1)).length:Int)≤((g4 (g4 r84.1.1)).length:Int)))&&decide (((g4 (g4 r84.1.1)).length:Int)≤((g4 (g4 r84.1.1)).length:Int)) then
    L1 (List.drop (((g4 (g4 r2.1.1)).length:Int).toNat) (List.take (((g4 (g4 r84.1.1)).length:Int).toNat) (g4 (g4 r84.1.1)))) 0 r4.1.1.1 r4.1.1.2.1 r4.1.1.2.2.1 (g3 r4.1.1) (g4 r4.1.1) (g5 r4.1.1) (g7 r4.1.1) (g8 r4.1.1) (h9 r4.1.1) (g6 r4.1.1) r84.1.1.1 r84.1.1.2.1 r84.1.1.2.2.1 (g3 r84.1.1).1 (g3 r84.1.1).2.1 (g3 r84.1.1).2.2.1 (g3 (g3 r84.1.1)) (g4 (g3 r84.1.1)) (g5 (g3 r84.1.1)) (g6 (g3 r84.1.1)) (g7 (g3 r84.1.1)) (g8 (g3 r84.1.1)) (g9 (g3 r84.1.1)) (g10 (g3 r84.1.1)) (g11 (g3 r84.1.1)) (h12 (g3 r84.1.1)) (g4 r84.1.1).1 (g4 r84.1.1).2.1 (g4 r84.1.1).2.2.1 (g3 (g4 r84.1.1)) (g4 (g4 r84.1.1)) (g5 (g4 r84.1.1)) (h6 (g4 r84.1.1)) (h5 r84.1.1) r84.1.2.1
   else none
noncomputable def Qke (n:Nat) (m1:Nat) (r1:Qmr):Nat→Qlt:=iter (fun _ _ _ _ _ _ _ _ _ _ _ _ _ _ _ _ _ _ _ _ _ _ _ _ _ _ _ _ _ _ _ _ _ _ _ _ _ _ _=>none) fun L=>Qm0 L r1
noncomputable def Qkt (n:Nat):Nat→Qmr:=Qjg (fun _ _ _ _ _ _ _ _ _ _ _ _ _ _ _ _ _ _ _ _ _ _ _ _ _ _ _ _ _ _ _ _ _ _ _ _ _=>none) fun m L=>Qlw (Qke n m L n)
noncomputable def Qms (n m:Nat) (v7:List Qrc) (v8 v9 v10 v11 v12 v13 v14 v15 v16:Int) (v17:ByteArray) (v18:List Int) (v19:Bool) (v20:Int) (v21:ByteArray) (v22 v23 v24 v25 v26 v27:Int) (v28:List Int) (v29 v30 v31 v32 v33:Int) (v34:List Qlf) (v35 v36:Int) (v37 v38:List Qls) (v39:List Qrc) (v40 v41 v42:Int) (v43:List Z18):Option Qkd:=
 Qjv Qwk tab (fiB [.val t25,.val t25,.val t5] Qri) n [.val t25,.val t25,.val t5] [⟨t4,[false],none⟩] Tryz.f4 [1,1,1,1,1,1,1,1,1,1,0,1,0] [] [9,10,11,12,13] m
 ⟨[(9,V1 (.ptr (9,0) 0)),(10,V1 (.ptr (10,0) 0)),(11,V1 (.ref (888888,11))),(12,Vp t33 v7),(13,Vp t2 v8)],[((9,0),Ob.box 46 [LV.pure t2 v9,LV.pure t2 v10,LV.pure t2 v11,LV.pure t2 v12,LV.pure t2 v13,LV.pure t2 v14,LV.ref (9,7),LV.pure t2 v15,LV.pure t2 v16,LV.pure t9 v17]),((9,7),Ob.row 3 t2 v18),((10,0),Ob.box 39 [LV.pure t4 v19,LV.pure t2 v20,LV.pure t9 v21,LV.pure t2 v22,LV.pure t2 v23,LV.pure t2 v24,LV.pure t2 v25,LV.pure t2 v26,LV.pure t2 v27,LV.pure t28 v28,LV.pure t2 v29,LV.pure t2 v30,LV.pure t2 v31,LV.pure t2 v32,LV.pure t2 v33,LV.pure t29 v34,LV.pure t2 v35,LV.pure t2 v36,LV.pure t32 v37,LV.pure t32 v38,LV.pure t33 v39,LV.pure t2 v40,LV.pure t2 v41,LV.pure t2 v42]),((888888,11),Ob.row 46 t45 v43)]⟩
noncomputable def Qor (n m1 m:Nat) (v44:List Qrc) (v45 v46 v47 v48 v49 v50 v51 v52 v53 v54 v55:Int) (v56:ByteArray) (v57:List Int) (v58:Bool) (v59:Int) (v60:ByteArray) (v61 v62 v63 v64 v65 v66:Int) (v67:List Int) (v68 v69 v70 v71 v72:Int) (v73:List Qlf) (v74 v75:Int) (v76 v77:List Qls) (v78:List Qrc) (v79 v80 v81:Int) (v82:List Z18):Option Qkd:=
 Qjv Qwk tab (fiB [.val t25,.val t25,.val t5] Qri) n [.val t25,.val t25,.val t5] [⟨t4,[false],none⟩] Tryz.f4 [1,1,1,1,1,1,1,1,1,1,0,1,0,0,1,0,0,1,0,1,0] [(m1,[9,10,11,12,13])] [9,10,11,12,13,14,15] m
 ⟨[(9,V1 (.ptr (9,0) 0)),(10,V1 (.ptr (10,0) 0)),(11,V1 (.ref (888888,11))),(12,Vp t33 v44),(13,Vp t2 v45),(14,Vp t2 v46),(15,Vp t2 v47)],[((9,0),Ob.box 46 [LV.pure t2 v48,LV.pure t2 v49,LV.pure t2 v50,LV.pure t2 v51,LV.pure t2 v52,LV.pure t2 v53,LV.ref (9,7),LV.pure t2 v54,LV.pure t2 v55,LV.pure t9 v56]),((9,7),Ob.row 3 t2 v57),((10,0),Ob.box 39 [LV.pure t4 v58,LV.pure t2 v59,LV.pure t9 v60,LV.pure t2 v61,LV.pure t2 v62,LV.pure t2 v63,LV.pure t2 v64,LV.pure t2 v65,LV.pure t2 v66,LV.pure t28 v67,LV.pure t2 v68,LV.pure t2 v69,LV.pure t2 v70,LV.pure t2 v71,LV.pure t2 v72,LV.pure t29 v73,LV.pure t2 v74,LV.pure t2 v75,LV.pure t32 v76,LV.pure t32 v77,LV.pure t33 v78,LV.pure t2 v79,LV.pure t2 v80,LV.pure t2 v81]),((888888,11),Ob.row 46 t45 v82)]⟩
theorem Qv1 (n m1:Nat):∀ m,Qor n m1 m=Qke n m1 (Qms n m1) m
 | 0=>rfl
 | m+1=>by rw [show Qor n m1 (m+1)=Qm0 (Qor n m1 m) (Qms n m1) from by kernel_rfl,Qv1 n m1 m];rfl
theorem Qv4 (n:Nat):∀ m,Qms n m=Qkt n m
 | 0=>rfl
 | m+1=>by rw [show Qms n (m+1)=Qlw (Qor n m n) from by kernel_rfl,Qv1 n m n,Qv4 n m];rfl
noncomputable def Qws (n:Nat) (arr_0 x_1:List Int) (x_2:Int):Option Qkd:=Qps (Qkt n n) arr_0 x_1 x_2
noncomputable def Qqv (arr_0 x_1:List Int) (x_2:Int):Option Qkd:=Qws 1099511627776 arr_0 x_1 x_2
noncomputable def Z5q:Ent:=⟨[.val t25,.val t25,.val t5],[⟨t4,[false],none⟩],fun x=>Qqv x.1 x.2.1 x.2.2.1⟩
theorem Z2s:GD 4 Z5q:=fnl Qri (fun n x=>Qws n x.1 x.2.1 x.2.2.1) (Qjy Z5h (Qjy Qyl (Qjy Z6f (Qjy Qua (Qjy Z7c (Qjy Z4x Qk3)))))) Tryz.func4 fun n x=>Eq.trans (b:=Qps (Qms n n) x.1 x.2.1 x.2.2.1) (by kernel_rfl) (by rw [Qv4 n n];rfl)
end Go.PE
