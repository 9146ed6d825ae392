/-
  Functions of the program, each as the evaluator answers it, and its contract.
  Conditions: none.
-/
import Derived.Test.YtmfiijdlhjajcaaGreatDoorNodeServesF1
set_option linter.unusedVariables false
set_option maxRecDepth 100000
namespace Go.PE
open Go.Proofs
abbrev Qke:Type:=(Qvr × Qzk × Unit) × Unit
noncomputable def Z33:Ctx:=[(62,Z3i),(123,Z2u),(124,Z1t),(125,Z51),(126,Z38)]
def Qvu:Fi:={ keep:=[],vty:=[(5,48)],vals:=[],live:=[(0,[1,2,36,37,38,49,50,51,52,53,72,73,74,77,78,79,80,81,113,114]),(1,[1,2,36,37,38,49,50,51,52,53,72,73,74,77,78,79,80,81,113,114]),(2,[1,2,36,37,38,49,50,51,52,53,72,73,74,77,78,79,80,81,113,114]),(3,[1,2,4,36,37,38,49,50,51,52,53,72,73,74,77,78,79,80,81,113,114]),(4,[1,2,4,5,36,37,38,49,50,51,52,53,72,73,74,77,78,79,80,81,113,114]),(5,[1,2,4,5,23,36,37,38,49,50,51,52,53,72,73,74,77,78,79,80,81,113,114]),(6,[1,2,4,5,24,113,114]),(7,[1,2,4,5,113,114]),(8,[1,2,4,5,39,49,50,51,52,53,72,73,74,77,78,79,80,81,113,114]),(9,[1,2,4,5,49,50,51,52,53,72,73,74,77,78,79,80,81,113,114]),(10,[1,2,4,5,44,49,50,51,52,53,72,73,74,77,78,79,80,81,113,114]),(11,[1,2,4,5,54,72,73,74,77,78,79,80,81,113,114]),(12,[1,2,4,5,72,73,74,77,78,79,80,81,113,114]),(13,[1,2,4,5,62,72,73,74,77,78,79,80,81,113,114]),(14,[1,2,4,5,72,73,74,77,78,79,80,81,113,114]),(15,[1,2,4,5,82,113,114]),(16,[1,2,4,5,113,114]),(17,[1,2,4,5,113,114]),(18,[1,2,5,94,113,114]),(19,[2,3]),(20,[1,2,5,99,113,114]),(21,[1,2,5,113,114]),(22,[1,2,5,6,113,114]),(23,[1,2,5,6,113,114,115]),(24,[1,2,5,6,113,114]),(25,[1,2,5,6,113,114]),(26,[2,3])] }
abbrev Qkd:Type:=Int→Int→Int→Int→Int→Int→Int→List Int→Int→Int→Int→Int→Int→Qlv→Int→Int→Int→Int→Int→Int→Int→Int→Int→Int→Int→List Int→Qlv→Qzk→Option Qke
noncomputable def Qq8 (arr_0:Qvr) (r1:(Qlv × Unit) × Unit) (L1:Qkd):Option Qke:=
 bif !((Int.tmod (IntKind.wrap .i64 (arr_0.2.2.1+1)) 2)==0) then
  some (((e12 (u2 arr_0 (IntKind.wrap .i64 (arr_0.2.2.1+1))) r1.1.1),[],()),())
 else
 bif (g3 arr_0) != 0 then
  Option.bind (Qk6 (e12 (u2 arr_0 (IntKind.wrap .i64 (arr_0.2.2.1+1))) r1.1.1) 4 (g3 arr_0)) fun r33=>
  L1 0 arr_0.1 arr_0.2.1 (IntKind.wrap .i64 (arr_0.2.2.1+1)) (g3 arr_0) (g4 arr_0) (g5 arr_0) (g6 arr_0) (g7 arr_0) (g8 arr_0) (g9 arr_0) (g10 arr_0) (g11 arr_0) r1.1.1 0 0 0 0 0 0 0 0 0 0 0 [] [] [r33.1.1]
 else
  L1 0 arr_0.1 arr_0.2.1 (IntKind.wrap .i64 (arr_0.2.2.1+1)) (g3 arr_0) (g4 arr_0) (g5 arr_0) (g6 arr_0) (g7 arr_0) (g8 arr_0) (g9 arr_0) (g10 arr_0) (g11 arr_0) r1.1.1 0 0 0 0 0 0 0 0 0 0 0 [] [] []
noncomputable def Qw0 (r35:(Qvr × Unit) × Unit) (arr_0:Qvr) (L2:Qkd):Option Qke:=
 Option.bind (Qk6 (u11 (u10 (u9 r35.1.1 1) (IntKind.wrap .i64 (r35.1.1.2.2.1+3))) (IntKind.wrap .i64 ((g11 r35.1.1)+1))) 1 1) fun r68=>
 bif !((Int.tmod (IntKind.wrap .i64 (arr_0.2.2.1+1)) 2)==0) then
  some (((u11 (u10 (u9 r35.1.1 1) (IntKind.wrap .i64 (r35.1.1.2.2.1+3))) (IntKind.wrap .i64 ((g11 r35.1.1)+1))),[r68.1.1],()),())
 else
 bif (g3 r35.1.1) != 0 then
  Option.bind (Qk6 (u11 (u10 (u9 r35.1.1 1) (IntKind.wrap .i64 (r35.1.1.2.2.1+3))) (IntKind.wrap .i64 ((g11 r35.1.1)+1))) 4 (g3 r35.1.1)) fun r69=>
  L2 0 r35.1.1.1 r35.1.1.2.1 r35.1.1.2.2.1 (g3 r35.1.1) (g4 r35.1.1) (g5 r35.1.1) (g6 r35.1.1) (g7 r35.1.1) (g8 r35.1.1) 1 (IntKind.wrap .i64 (r35.1.1.2.2.1+3)) (IntKind.wrap .i64 ((g11 r35.1.1)+1)) (h12 r35.1.1) 0 0 0 0 0 0 0 0 0 0 0 [] [] [r68.1.1,r69.1.1]
 else
  L2 0 r35.1.1.1 r35.1.1.2.1 r35.1.1.2.2.1 (g3 r35.1.1) (g4 r35.1.1) (g5 r35.1.1) (g6 r35.1.1) (g7 r35.1.1) (g8 r35.1.1) 1 (IntKind.wrap .i64 (r35.1.1.2.2.1+3)) (IntKind.wrap .i64 ((g11 r35.1.1)+1)) (h12 r35.1.1) 0 0 0 0 0 0 0 0 0 0 0 [] [] [r68.1.1]
noncomputable def Qq6 (r35:(Qvr × Unit) × Unit) (arr_0:Qvr) (L2:Qkd):Option Qke:=
 Option.bind (Qk6 (u10 (u9 r35.1.1 1) (IntKind.wrap .i64 (r35.1.1.2.2.1+3))) 1 1) fun r76=>
 bif !((Int.tmod (IntKind.wrap .i64 (arr_0.2.2.1+1)) 2)==0) then
  some (((u10 (u9 r35.1.1 1) (IntKind.wrap .i64 (r35.1.1.2.2.1+3))),[r76.1.1],()),())
 else
 bif (g3 r35.1.1) != 0 then
  Option.bind (Qk6 (u10 (u9 r35.1.1 1) (IntKind.wrap .i64 (r35.1.1.2.2.1+3))) 4 (g3 r35.1.1)) fun r77=>
  L2 0 r35.1.1.1 r35.1.1.2.1 r35.1.1.2.2.1 (g3 r35.1.1) (g4 r35.1.1) (g5 r35.1.1) (g6 r35.1.1) (g7 r35.1.1) (g8 r35.1.1) 1 (IntKind.wrap .i64 (r35.1.1.2.2.1+3)) (g11 r35.1.1) (h12 r35.1.1) 0 0 0 0 0 0 0 0 0 0 0 [] [] [r76.1.1,r77.1.1]
 else
  L2 0 r35.1.1.1 r35.1.1.2.1 r35.1.1.2.2.1 (g3 r35.1.1) (g4 r35.1.1) (g5 r35.1.1) (g6 r35.1.1) (g7 r35.1.1) (g8 r35.1.1) 1 (IntKind.wrap .i64 (r35.1.1.2.2.1+3)) (g11 r35.1.1) (h12 r35.1.1) 0 0 0 0 0 0 0 0 0 0 0 [] [] [r76.1.1]
noncomputable def Z1w (arr_0:Qvr) (r35:(Qvr × Unit) × Unit) (L2:Qkd):Option Qke:=
 bif !((Int.tmod (IntKind.wrap .i64 (arr_0.2.2.1+1)) 2)==0) then
  some ((r35.1.1,[],()),())
 else
 bif (g3 r35.1.1) != 0 then
  Option.bind (Qk6 r35.1.1 4 (g3 r35.1.1)) fun r82=>
  L2 0 r35.1.1.1 r35.1.1.2.1 r35.1.1.2.2.1 (g3 r35.1.1) (g4 r35.1.1) (g5 r35.1.1) (g6 r35.1.1) (g7 r35.1.1) (g8 r35.1.1) (g9 r35.1.1) (g10 r35.1.1) (g11 r35.1.1) (h12 r35.1.1) 0 0 0 0 0 0 0 0 0 0 0 [] [] [r82.1.1]
 else
  L2 0 r35.1.1.1 r35.1.1.2.1 r35.1.1.2.2.1 (g3 r35.1.1) (g4 r35.1.1) (g5 r35.1.1) (g6 r35.1.1) (g7 r35.1.1) (g8 r35.1.1) (g9 r35.1.1) (g10 r35.1.1) (g11 r35.1.1) (h12 r35.1.1) 0 0 0 0 0 0 0 0 0 0 0 [] [] []
noncomputable def Qvp (r35:(Qvr × Unit) × Unit) (arr_0:Qvr) (L2:Qkd):Option Qke:=
 bif (g9 r35.1.1)==0 then
  bif (g11 r35.1.1)==0 then
   bif (g5 r35.1.1) != 0 then
    bif (g5 r35.1.1) != r35.1.1.1 then
     Option.bind (Qk6 (u10 (u9 r35.1.1 (g5 r35.1.1)) (IntKind.wrap .i64 (r35.1.1.2.2.1+3))) 1 (g5 r35.1.1)) fun r74=>
     bif !((Int.tmod (IntKind.wrap .i64 (arr_0.2.2.1+1)) 2)==0) then
      some (((u10 (u9 r35.1.1 (g5 r35.1.1)) (IntKind.wrap .i64 (r35.1.1.2.2.1+3))),[r74.1.1],()),())
     else
     bif (g3 r35.1.1) != 0 then
      Option.bind (Qk6 (u10 (u9 r35.1.1 (g5 r35.1.1)) (IntKind.wrap .i64 (r35.1.1.2.2.1+3))) 4 (g3 r35.1.1)) fun r75=>
      L2 0 r35.1.1.1 r35.1.1.2.1 r35.1.1.2.2.1 (g3 r35.1.1) (g4 r35.1.1) (g5 r35.1.1) (g6 r35.1.1) (g7 r35.1.1) (g8 r35.1.1) (g5 r35.1.1) (IntKind.wrap .i64 (r35.1.1.2.2.1+3)) (g11 r35.1.1) (h12 r35.1.1) 0 0 0 0 0 0 0 0 0 0 0 [] [] [r74.1.1,r75.1.1]
     else
      L2 0 r35.1.1.1 r35.1.1.2.1 r35.1.1.2.2.1 (g3 r35.1.1) (g4 r35.1.1) (g5 r35.1.1) (g6 r35.1.1) (g7 r35.1.1) (g8 r35.1.1) (g5 r35.1.1) (IntKind.wrap .i64 (r35.1.1.2.2.1+3)) (g11 r35.1.1) (h12 r35.1.1) 0 0 0 0 0 0 0 0 0 0 0 [] [] [r74.1.1]
    else
     Qq6 r35 arr_0 L2
   else
    Qq6 r35 arr_0 L2
  else
   Qq6 r35 arr_0 L2
 else
  Z1w arr_0 r35 L2
noncomputable def Qq5 (arr_0:Qvr) (r1:(Qlv × Unit) × Unit) (L1:Qkd):Option Qke:=
 Option.bind (Qk6 (e12 (u11 (u10 (u9 (u2 arr_0 (IntKind.wrap .i64 (arr_0.2.2.1+1))) 1) (IntKind.wrap .i64 ((IntKind.wrap .i64 (arr_0.2.2.1+1))+3))) (IntKind.wrap .i64 ((g11 arr_0)+1))) r1.1.1) 1 1) fun r95=>
 bif !((Int.tmod (IntKind.wrap .i64 (arr_0.2.2.1+1)) 2)==0) then
  some (((e12 (u11 (u10 (u9 (u2 arr_0 (IntKind.wrap .i64 (arr_0.2.2.1+1))) 1) (IntKind.wrap .i64 ((IntKind.wrap .i64 (arr_0.2.2.1+1))+3))) (IntKind.wrap .i64 ((g11 arr_0)+1))) r1.1.1),[r95.1.1],()),())
 else
 bif (g3 arr_0) != 0 then
  Option.bind (Qk6 (e12 (u11 (u10 (u9 (u2 arr_0 (IntKind.wrap .i64 (arr_0.2.2.1+1))) 1) (IntKind.wrap .i64 ((IntKind.wrap .i64 (arr_0.2.2.1+1))+3))) (IntKind.wrap .i64 ((g11 arr_0)+1))) r1.1.1) 4 (g3 arr_0)) fun r96=>
  L1 0 arr_0.1 arr_0.2.1 (IntKind.wrap .i64 (arr_0.2.2.1+1)) (g3 arr_0) (g4 arr_0) (g5 arr_0) (g6 arr_0) (g7 arr_0) (g8 arr_0) 1 (IntKind.wrap .i64 ((IntKind.wrap .i64 (arr_0.2.2.1+1))+3)) (IntKind.wrap .i64 ((g11 arr_0)+1)) r1.1.1 0 0 0 0 0 0 0 0 0 0 0 [] [] [r95.1.1,r96.1.1]
 else
  L1 0 arr_0.1 arr_0.2.1 (IntKind.wrap .i64 (arr_0.2.2.1+1)) (g3 arr_0) (g4 arr_0) (g5 arr_0) (g6 arr_0) (g7 arr_0) (g8 arr_0) 1 (IntKind.wrap .i64 ((IntKind.wrap .i64 (arr_0.2.2.1+1))+3)) (IntKind.wrap .i64 ((g11 arr_0)+1)) r1.1.1 0 0 0 0 0 0 0 0 0 0 0 [] [] [r95.1.1]
noncomputable def Qq1 (arr_0:Qvr) (r1:(Qlv × Unit) × Unit) (L1:Qkd):Option Qke:=
 Option.bind (Qk6 (e12 (u10 (u9 (u2 arr_0 (IntKind.wrap .i64 (arr_0.2.2.1+1))) 1) (IntKind.wrap .i64 ((IntKind.wrap .i64 (arr_0.2.2.1+1))+3))) r1.1.1) 1 1) fun r103=>
 bif !((Int.tmod (IntKind.wrap .i64 (arr_0.2.2.1+1)) 2)==0) then
  some (((e12 (u10 (u9 (u2 arr_0 (IntKind.wrap .i64 (arr_0.2.2.1+1))) 1) (IntKind.wrap .i64 ((IntKind.wrap .i64 (arr_0.2.2.1+1))+3))) r1.1.1),[r103.1.1],()),())
 else
 bif (g3 arr_0) != 0 then
  Option.bind (Qk6 (e12 (u10 (u9 (u2 arr_0 (IntKind.wrap .i64 (arr_0.2.2.1+1))) 1) (IntKind.wrap .i64 ((IntKind.wrap .i64 (arr_0.2.2.1+1))+3))) r1.1.1) 4 (g3 arr_0)) fun r104=>
  L1 0 arr_0.1 arr_0.2.1 (IntKind.wrap .i64 (arr_0.2.2.1+1)) (g3 arr_0) (g4 arr_0) (g5 arr_0) (g6 arr_0) (g7 arr_0) (g8 arr_0) 1 (IntKind.wrap .i64 ((IntKind.wrap .i64 (arr_0.2.2.1+1))+3)) (g11 arr_0) r1.1.1 0 0 0 0 0 0 0 0 0 0 0 [] [] [r103.1.1,r104.1.1]
 else
  L1 0 arr_0.1 arr_0.2.1 (IntKind.wrap .i64 (arr_0.2.2.1+1)) (g3 arr_0) (g4 arr_0) (g5 arr_0) (g6 arr_0) (g7 arr_0) (g8 arr_0) 1 (IntKind.wrap .i64 ((IntKind.wrap .i64 (arr_0.2.2.1+1))+3)) (g11 arr_0) r1.1.1 0 0 0 0 0 0 0 0 0 0 0 [] [] [r103.1.1]
noncomputable def Qss (arr_0:Qvr) (r1:(Qlv × Unit) × Unit) (L1:Qkd):Option Qke:=
 bif (g9 arr_0)==0 then
  bif (g11 arr_0)==0 then
   bif (g5 arr_0) != 0 then
    bif (g5 arr_0) != arr_0.1 then
     Option.bind (Qk6 (e12 (u10 (u9 (u2 arr_0 (IntKind.wrap .i64 (arr_0.2.2.1+1))) (g5 arr_0)) (IntKind.wrap .i64 ((IntKind.wrap .i64 (arr_0.2.2.1+1))+3))) r1.1.1) 1 (g5 arr_0)) fun r101=>
     bif !((Int.tmod (IntKind.wrap .i64 (arr_0.2.2.1+1)) 2)==0) then
      some (((e12 (u10 (u9 (u2 arr_0 (IntKind.wrap .i64 (arr_0.2.2.1+1))) (g5 arr_0)) (IntKind.wrap .i64 ((IntKind.wrap .i64 (arr_0.2.2.1+1))+3))) r1.1.1),[r101.1.1],()),())
     else
     bif (g3 arr_0) != 0 then
      Option.bind (Qk6 (e12 (u10 (u9 (u2 arr_0 (IntKind.wrap .i64 (arr_0.2.2.1+1))) (g5 arr_0)) (IntKind.wrap .i64 ((IntKind.wrap .i64 (arr_0.2.2.1+1))+3))) r1.1.1) 4 (g3 arr_0)) fun r102=>
      L1 0 arr_0.1 arr_0.2.1 (IntKind.wrap .i64 (arr_0.2.2.1+1)) (g3 arr_0) (g4 arr_0) (g5 arr_0) (g6 arr_0) (g7 arr_0) (g8 arr_0) (g5 arr_0) (IntKind.wrap .i64 ((IntKind.wrap .i64 (arr_0.2.2.1+1))+3)) (g11 arr_0) r1.1.1 0 0 0 0 0 0 0 0 0 0 0 [] [] [r101.1.1,r102.1.1]
     else
      L1 0 arr_0.1 arr_0.2.1 (IntKind.wrap .i64 (arr_0.2.2.1+1)) (g3 arr_0) (g4 arr_0) (g5 arr_0) (g6 arr_0) (g7 arr_0) (g8 arr_0) (g5 arr_0) (IntKind.wrap .i64 ((IntKind.wrap .i64 (arr_0.2.2.1+1))+3)) (g11 arr_0) r1.1.1 0 0 0 0 0 0 0 0 0 0 0 [] [] [r101.1.1]
    else
     Qq1 arr_0 r1 L1
   else
    Qq1 arr_0 r1 L1
  else
   Qq1 arr_0 r1 L1
 else
  Qq8 arr_0 r1 L1
noncomputable def Qst (arr_0:Qvr) (r1:(Qlv × Unit) × Unit) (L1:Qkd):Option Qke:=
 bif (g3 arr_0)==0 then
  bif (g9 arr_0) != 0 then
   bif decide (IntKind.wrap .i64 (arr_0.2.2.1+1) ≥ (g10 arr_0)) then
    bif (IntKind.wrap .i64 ((g11 arr_0)+1))==0 then
     bif (g5 arr_0) != 0 then
      bif (g5 arr_0) != arr_0.1 then
       Option.bind (Qk6 (e12 (u11 (u10 (u9 (u2 arr_0 (IntKind.wrap .i64 (arr_0.2.2.1+1))) (g5 arr_0)) (IntKind.wrap .i64 ((IntKind.wrap .i64 (arr_0.2.2.1+1))+3))) (IntKind.wrap .i64 ((g11 arr_0)+1))) r1.1.1) 1 (g5 arr_0)) fun r93=>
       bif !((Int.tmod (IntKind.wrap .i64 (arr_0.2.2.1+1)) 2)==0) then
        some (((e12 (u11 (u10 (u9 (u2 arr_0 (IntKind.wrap .i64 (arr_0.2.2.1+1))) (g5 arr_0)) (IntKind.wrap .i64 ((IntKind.wrap .i64 (arr_0.2.2.1+1))+3))) (IntKind.wrap .i64 ((g11 arr_0)+1))) r1.1.1),[r93.1.1],()),())
       else
       bif (g3 arr_0) != 0 then
        Option.bind (Qk6 (e12 (u11 (u10 (u9 (u2 arr_0 (IntKind.wrap .i64 (arr_0.2.2.1+1))) (g5 arr_0)) (IntKind.wrap .i64 ((IntKind.wrap .i64 (arr_0.2.2.1+1))+3))) (IntKind.wrap .i64 ((g11 arr_0)+1))) r1.1.1) 4 (g3 arr_0)) fun r94=>
        L1 0 arr_0.1 arr_0.2.1 (IntKind.wrap .i64 (arr_0.2.2.1+1)) (g3 arr_0) (g4 arr_0) (g5 arr_0) (g6 arr_0) (g7 arr_0) (g8 arr_0) (g5 arr_0) (IntKind.wrap .i64 ((IntKind.wrap .i64 (arr_0.2.2.1+1))+3)) (IntKind.wrap .i64 ((g11 arr_0)+1)) r1.1.1 0 0 0 0 0 0 0 0 0 0 0 [] [] [r93.1.1,r94.1.1]
       else
        L1 0 arr_0.1 arr_0.2.1 (IntKind.wrap .i64 (arr_0.2.2.1+1)) (g3 arr_0) (g4 arr_0) (g5 arr_0) (g6 arr_0) (g7 arr_0) (g8 arr_0) (g5 arr_0) (IntKind.wrap .i64 ((IntKind.wrap .i64 (arr_0.2.2.1+1))+3)) (IntKind.wrap .i64 ((g11 arr_0)+1)) r1.1.1 0 0 0 0 0 0 0 0 0 0 0 [] [] [r93.1.1]
      else
       Qq5 arr_0 r1 L1
     else
      Qq5 arr_0 r1 L1
    else
     Qq5 arr_0 r1 L1
   else
    Qss arr_0 r1 L1
  else
   Qss arr_0 r1 L1
 else
  Qq8 arr_0 r1 L1
noncomputable def Qnw (L1:Qkd) (v3 v4 v5 v6 v7 v8 v9:Int) (v10:List Int) (v11 v12 v13 v14 v15:Int) (v16:Qlv) (v17 v18 v19 v20 v21 v22 v23 v24 v25 v26 v27:Int) (v28:List Int) (v29:Qlv) (v30:Qzk):Option Qke:=
 bif decide (v3<(v16.length:Int)) then
  Option.bind (Qlk (v4,v5,v6,v7,v8,v9,v10,v11,v12,v13,v14,v15,v16)) fun r31=>
  bif r31.1.1 then
   bif decide (0≤v3)&&decide (v3<(v16.length:Int)) then
    bif decide (0≤v3)&&decide (v3<(v16.length:Int)) then
     Option.bind (Qnn (v4,v5,v6,v7,v8,v9,v10,v11,v12,v13,v14,v15,v16) 5 ((List.getD v16 v3.toNat (0,0,0)).1)) fun r32=>
     bif Nat.ble (v30.length+1) 1073741824 then
      L1 (IntKind.wrap .i64 (v3+1)) v4 v5 v6 v7 v8 v9 v10 v11 v12 v13 v14 v15 v16 v17 v18 v19 v20 v21 v22 v23 v24 v25 v26 v27 v28 v29 (v30++[r32.1.1])
     else none
    else none
   else none
  else
   some (((v4,v5,v6,v7,v8,v9,v10,v11,v12,v13,v14,v15,v16),v30,()),())
 else
  some (((v4,v5,v6,v7,v8,v9,v10,v11,v12,v13,v14,v15,v16),v30,()),())
noncomputable def Qo2 (L2:Qkd) (v38 v39 v40 v41 v42 v43 v44:Int) (v45:List Int) (v46 v47 v48 v49 v50:Int) (v51:Qlv) (v52 v53 v54 v55 v56 v57 v58 v59 v60 v61 v62:Int) (v63:List Int) (v64:Qlv) (v65:Qzk):Option Qke:=
 bif decide (v38<(v51.length:Int)) then
  Option.bind (Qlk (v39,v40,v41,v42,v43,v44,v45,v46,v47,v48,v49,v50,v51)) fun r66=>
  bif r66.1.1 then
   bif decide (0≤v38)&&decide (v38<(v51.length:Int)) then
    Option.bind (Qnn (v39,v40,v41,v42,v43,v44,v45,v46,v47,v48,v49,v50,v51) 5 ((List.getD v51 v38.toNat (0,0,0)).1)) fun r67=>
    bif Nat.ble (v65.length+1) 1073741824 then
     L2 (IntKind.wrap .i64 (v38+1)) v39 v40 v41 v42 v43 v44 v45 v46 v47 v48 v49 v50 v51 v52 v53 v54 v55 v56 v57 v58 v59 v60 v61 v62 v63 v64 (v65++[r67.1.1])
    else none
   else none
  else
   some (((v39,v40,v41,v42,v43,v44,v45,v46,v47,v48,v49,v50,v51),v65,()),())
 else
  some (((v39,v40,v41,v42,v43,v44,v45,v46,v47,v48,v49,v50,v51),v65,()),())
noncomputable def Qot (L1 L2:Qkd) (arr_0:Qvr):Option Qke:=
 Option.bind (Qzm (h12 arr_0) (IntKind.wrap .i64 (arr_0.2.2.1+1))) fun r1=>
 bif arr_0.1==1 then
  bif (Int.tmod (IntKind.wrap .i64 (arr_0.2.2.1+1)) 2)==0 then
   bif !((Int.tmod (IntKind.wrap .i64 (arr_0.2.2.1+1)) 2)==0) then
    some (((e12 (u8 (u7 (u2 arr_0 (IntKind.wrap .i64 (arr_0.2.2.1+1))) (IntKind.wrap .i64 ((g7 arr_0)+1))) (IntKind.wrap .i64 (arr_0.2.2.1+1))) r1.1.1),[],()),())
   else
   bif (g3 arr_0) != 0 then
    Option.bind (Qk6 (e12 (u8 (u7 (u2 arr_0 (IntKind.wrap .i64 (arr_0.2.2.1+1))) (IntKind.wrap .i64 ((g7 arr_0)+1))) (IntKind.wrap .i64 (arr_0.2.2.1+1))) r1.1.1) 4 (g3 arr_0)) fun r2=>
    L1 0 arr_0.1 arr_0.2.1 (IntKind.wrap .i64 (arr_0.2.2.1+1)) (g3 arr_0) (g4 arr_0) (g5 arr_0) (g6 arr_0) (IntKind.wrap .i64 ((g7 arr_0)+1)) (IntKind.wrap .i64 (arr_0.2.2.1+1)) (g9 arr_0) (g10 arr_0) (g11 arr_0) r1.1.1 0 0 0 0 0 0 0 0 0 0 0 [] [] [r2.1.1]
   else
    L1 0 arr_0.1 arr_0.2.1 (IntKind.wrap .i64 (arr_0.2.2.1+1)) (g3 arr_0) (g4 arr_0) (g5 arr_0) (g6 arr_0) (IntKind.wrap .i64 ((g7 arr_0)+1)) (IntKind.wrap .i64 (arr_0.2.2.1+1)) (g9 arr_0) (g10 arr_0) (g11 arr_0) r1.1.1 0 0 0 0 0 0 0 0 0 0 0 [] [] []
  else
   Qq8 arr_0 r1 L1
 else
 bif (g3 arr_0) != 0 then
  Option.bind (Qlk (e12 (u2 arr_0 (IntKind.wrap .i64 (arr_0.2.2.1+1))) r1.1.1)) fun r34=>
  bif !r34.1.1 then
   Option.bind (Qle (e12 (u2 arr_0 (IntKind.wrap .i64 (arr_0.2.2.1+1))) r1.1.1) 0) fun r35=>
   bif (g3 r35.1.1)==0 then
    bif (g9 r35.1.1) != 0 then
     bif decide (r35.1.1.2.2.1 ≥ (g10 r35.1.1)) then
      bif (IntKind.wrap .i64 ((g11 r35.1.1)+1))==0 then
       bif (g5 r35.1.1) != 0 then
        bif (g5 r35.1.1) != r35.1.1.1 then
         Option.bind (Qk6 (u11 (u10 (u9 r35.1.1 (g5 r35.1.1)) (IntKind.wrap .i64 (r35.1.1.2.2.1+3))) (IntKind.wrap .i64 ((g11 r35.1.1)+1))) 1 (g5 r35.1.1)) fun r36=>
         bif !((Int.tmod (IntKind.wrap .i64 (arr_0.2.2.1+1)) 2)==0) then
          some (((u11 (u10 (u9 r35.1.1 (g5 r35.1.1)) (IntKind.wrap .i64 (r35.1.1.2.2.1+3))) (IntKind.wrap .i64 ((g11 r35.1.1)+1))),[r36.1.1],()),())
         else
         bif (g3 r35.1.1) != 0 then
          Option.bind (Qk6 (u11 (u10 (u9 r35.1.1 (g5 r35.1.1)) (IntKind.wrap .i64 (r35.1.1.2.2.1+3))) (IntKind.wrap .i64 ((g11 r35.1.1)+1))) 4 (g3 r35.1.1)) fun r37=>
          L2 0 r35.1.1.1 r35.1.1.2.1 r35.1.1.2.2.1 (g3 r35.1.1) (g4 r35.1.1) (g5 r35.1.1) (g6 r35.1.1) (g7 r35.1.1) (g8 r35.1.1) (g5 r35.1.1) (IntKind.wrap .i64 (r35.1.1.2.2.1+3)) (IntKind.wrap .i64 ((g11 r35.1.1)+1)) (h12 r35.1.1) 0 0 0 0 0 0 0 0 0 0 0 [] [] [r36.1.1,r37.1.1]
         else
          L2 0 r35.1.1.1 r35.1.1.2.1 r35.1.1.2.2.1 (g3 r35.1.1) (g4 r35.1.1) (g5 r35.1.1) (g6 r35.1.1) (g7 r35.1.1) (g8 r35.1.1) (g5 r35.1.1) (IntKind.wrap .i64 (r35.1.1.2.2.1+3)) (IntKind.wrap .i64 ((g11 r35.1.1)+1)) (h12 r35.1.1) 0 0 0 0 0 0 0 0 0 0 0 [] [] [r36.1.1]
        else
         Qw0 r35 arr_0 L2
       else
        Qw0 r35 arr_0 L2
      else
       Qw0 r35 arr_0 L2
     else
      Qvp r35 arr_0 L2
    else
     Qvp r35 arr_0 L2
   else
    Z1w arr_0 r35 L2
  else
   Qst arr_0 r1 L1
 else
  Qst arr_0 r1 L1
noncomputable def Qm4 (n:Nat):Nat→Qkd:=iter (fun _ _ _ _ _ _ _ _ _ _ _ _ _ _ _ _ _ _ _ _ _ _ _ _ _ _ _ _=>none) fun L=>Qnw L
noncomputable def Qm3 (n:Nat):Nat→Qkd:=iter (fun _ _ _ _ _ _ _ _ _ _ _ _ _ _ _ _ _ _ _ _ _ _ _ _ _ _ _ _=>none) fun L=>Qo2 L
noncomputable def Qs9 (n m:Nat) (v3 v4 v5 v6 v7 v8 v9:Int) (v10:List Int) (v11 v12 v13 v14 v15:Int) (v16:Qlv) (v17 v18 v19 v20 v21 v22 v23 v24 v25 v26 v27:Int) (v28:List Int) (v29:Qlv) (v30:Qzk):Option Qke:=
 Qjv Z33 tab (fiB [.val t30] Qvu) n [.val t30] [⟨t30,(nF 13),none⟩,⟨t48,[true],none⟩] Tryz.f60 [1,1,1,1,1,1,1,1,0,1,0] [] [1,2,5,6] m
 ⟨[(1,V1 (.ptr (1,0) 0)),(2,V1 (.ptr (2,0) 0)),(5,V1 (.ref (888888,5))),(6,Vp t2 v3)],[((1,0),Ob.box 31 [LV.pure t2 v4,LV.pure t2 v5,LV.pure t2 v6,LV.pure t2 v7,LV.pure t2 v8,LV.pure t2 v9,LV.pure t28 v10,LV.pure t2 v11,LV.pure t2 v12,LV.pure t2 v13,LV.pure t2 v14,LV.pure t2 v15,LV.ref (1,13)]),((1,13),Ob.row 53 t52 v16),((2,0),Ob.box 31 [LV.pure t2 v17,LV.pure t2 v18,LV.pure t2 v19,LV.pure t2 v20,LV.pure t2 v21,LV.pure t2 v22,LV.ref (2,7),LV.pure t2 v23,LV.pure t2 v24,LV.pure t2 v25,LV.pure t2 v26,LV.pure t2 v27,LV.ref (2,13)]),((2,7),Ob.row 3 t2 v28),((2,13),Ob.row 53 t52 v29),((888888,5),Ob.row 46 t45 v30)]⟩
noncomputable def Qsw (n m:Nat) (v38 v39 v40 v41 v42 v43 v44:Int) (v45:List Int) (v46 v47 v48 v49 v50:Int) (v51:Qlv) (v52 v53 v54 v55 v56 v57 v58 v59 v60 v61 v62:Int) (v63:List Int) (v64:Qlv) (v65:Qzk):Option Qke:=
 Qjv Z33 tab (fiB [.val t30] Qvu) n [.val t30] [⟨t30,(nF 13),none⟩,⟨t48,[true],none⟩] Tryz.f60 [1,1,1,1,1,1,1,1,0,1,0] [] [1,2,5,6] m
 ⟨[(1,V1 (.ptr (1,0) 0)),(2,V1 (.ptr (2,0) 0)),(5,V1 (.ref (888888,5))),(6,Vp t2 v38)],[((1,0),Ob.box 31 [LV.pure t2 v39,LV.pure t2 v40,LV.pure t2 v41,LV.pure t2 v42,LV.pure t2 v43,LV.pure t2 v44,LV.pure t28 v45,LV.pure t2 v46,LV.pure t2 v47,LV.pure t2 v48,LV.pure t2 v49,LV.pure t2 v50,LV.pure t29 v51]),((2,0),Ob.box 31 [LV.pure t2 v52,LV.pure t2 v53,LV.pure t2 v54,LV.pure t2 v55,LV.pure t2 v56,LV.pure t2 v57,LV.ref (2,7),LV.pure t2 v58,LV.pure t2 v59,LV.pure t2 v60,LV.pure t2 v61,LV.pure t2 v62,LV.ref (2,13)]),((2,7),Ob.row 3 t2 v63),((2,13),Ob.row 53 t52 v64),((888888,5),Ob.row 46 t45 v65)]⟩
theorem Z0c (n:Nat):∀ m,Qs9 n m=Qm4 n m
 | 0=>rfl
 | m+1=>by rw [show Qs9 n (m+1)=Qnw (Qs9 n m) from by kernel_rfl,Z0c n m];rfl
theorem Z01 (n:Nat):∀ m,Qsw n m=Qm3 n m
 | 0=>rfl
 | m+1=>by rw [show Qsw n (m+1)=Qo2 (Qsw n m) from by kernel_rfl,Z01 n m];rfl
noncomputable def Z31 (n:Nat) (arr_0:Qvr):Option Qke:=Qot (Qm4 n n) (Qm3 n n) arr_0
noncomputable def Qvm (arr_0:Qvr):Option Qke:=Z31 1099511627776 arr_0
noncomputable def Z34:Ent:=⟨[.val t30],[⟨t30,(nF 13),none⟩,⟨t48,[true],none⟩],fun x=>Qvm x.1⟩
theorem Z8e:GD 60 Z34:=fnl Qvu (fun n x=>Z31 n x.1) (Qjy Qql (Qjy Z8m (Qjy Qxr (Qjy Z07 (Qjy Qyv Qk3))))) Tryz.func60 fun n x=>Eq.trans (b:=Qot (Qs9 n n) (Qsw n n) x.1) (by kernel_rfl) (by rw [Z0c n n,Z01 n n];rfl)
abbrev Qqi:Type:=(Bool × Unit) × Unit
noncomputable def Zff:Ctx:=[]
def Z5t:Fi:=fo [[0,1],[0,1,5],[0,1,5,9],[0,1,5],[0,1,5,17],[4],[4]]
abbrev Qyh:Type:=List Int→Int→Int→Option Qqi
noncomputable def Qpy (L1:Qyh) (v1:List Int) (v2 v3:Int):Option Qqi:=
 bif decide (v3<(v1.length:Int)) then
  bif decide (0≤v3)&&decide (v3<(v1.length:Int)) then
   bif (List.getD v1 v3.toNat 0)==v2 then
    some ((true,()),())
   else
    L1 v1 v2 (IntKind.wrap .i64 (v3+1))
  else none
 else
  some ((false,()),())
noncomputable def Z6x (L1:Qyh) (p_0:List Int) (id_1:Int):Option Qqi:=
 L1 p_0 id_1 0
noncomputable def Qrw (n:Nat):Nat→Qyh:=iter (fun _ _ _=>none) fun L=>Qpy L
noncomputable def Qu7 (n m:Nat) (v1:List Int) (v2 v3:Int):Option Qqi:=
 Qjv Zff tab (fiB [.val t28,.val t2] Z5t) n [.val t28,.val t2] [⟨t4,[false],none⟩] Tryz.f135 [1,0,1,0] [] [0,1,5] m
 ⟨[(0,Vp t28 v1),(1,Vp t2 v2),(5,Vp t2 v3)],[]⟩
theorem Z3f (n:Nat):∀ m,Qu7 n m=Qrw n m
 | 0=>rfl
 | m+1=>by rw [show Qu7 n (m+1)=Qpy (Qu7 n m) from by kernel_rfl,Z3f n m];rfl
noncomputable def Z6v (n:Nat) (p_0:List Int) (id_1:Int):Option Qqi:=Z6x (Qrw n n) p_0 id_1
noncomputable def Qrc (p_0:List Int) (id_1:Int):Option Qqi:=Z6v 1099511627776 p_0 id_1
noncomputable def Z6r:Ent:=⟨[.val t28,.val t2],[⟨t4,[false],none⟩],fun x=>Qrc x.1 x.2.1⟩
theorem Z1n:GD 135 Z6r:=fnl Z5t (fun n x=>Z6v n x.1 x.2.1) Qk3 Tryz.func135 fun n x=>Eq.trans (b:=Z6x (Qu7 n n) x.1 x.2.1) (by kernel_rfl) (by rw [Z3f n n];rfl)
abbrev Qni:Type:=(Bool × Unit) × Unit
noncomputable def Z9n:Ctx:=[(135,Z6r)]
def Qyy:Fi:=fr [[0,8,9,10,13,0,16,30,0,34,37,0,44],[0,17,30,0,34,37,0,44],[2],[0,3,30,0,34,37,0,44],[0,3,21,30,0,34,37,0,44],[0,3,30,0,34,37,0,44],[0,3,30,0,34,37,0,45],[2],[2]]
abbrev Qtn:Type:=List Int→Int→Option Qni
noncomputable def Qmx (L1:Qtn) (v1:List Int) (v2:Int):Option Qni:=
 bif decide (v2<(v1.length:Int)) then
  bif decide (0≤v2)&&decide (v2<(v1.length:Int)) then
   bif decide (List.getD v1 v2.toNat 0<1) then
    some ((false,()),())
   else
   bif decide (0≤v2)&&decide (v2<(v1.length:Int)) then
    bif decide (List.getD v1 v2.toNat 0>8) then
     some ((false,()),())
    else
    bif decide (0≤v2)&&decide (v2≤(v1.length:Int)) then
     bif decide (0≤v2)&&decide (v2<(v1.length:Int)) then
      Option.bind (Qrc (List.drop 0 (List.take v2.toNat v1)) (List.getD v1 v2.toNat 0)) fun r3=>
      bif r3.1.1 then
       some ((false,()),())
      else
       L1 v1 (IntKind.wrap .i64 (v2+1))
     else none
    else none
   else none
  else none
 else
  some ((true,()),())
noncomputable def Qrq (L1:Qtn) (p_0:List Int):Option Qni:=
 bif decide ((p_0.length:Int)<1) then
  some ((false,()),())
 else
 bif decide ((p_0.length:Int)>10) then
  some ((false,()),())
 else
 bif decide (0<(p_0.length:Int)) then
  bif (List.getD p_0 0 0) != 1 then
   some ((false,()),())
  else
   L1 p_0 0
 else none
noncomputable def Qn1 (n:Nat):Nat→Qtn:=iter (fun _ _=>none) fun L=>Qmx L
noncomputable def Qr1 (n m:Nat) (v1:List Int) (v2:Int):Option Qni:=
 Qjv Z9n tab (fiB [.val t28] Qyy) n [.val t28] [⟨t4,[false],none⟩] Tryz.f105 [1,1,0,1,0] [] [0,3] m
 ⟨[(0,Vp t28 v1),(3,Vp t2 v2)],[]⟩
theorem Qyb (n:Nat):∀ m,Qr1 n m=Qn1 n m
 | 0=>rfl
 | m+1=>by rw [show Qr1 n (m+1)=Qmx (Qr1 n m) from by kernel_rfl,Qyb n m];rfl
noncomputable def Z0j (n:Nat) (p_0:List Int):Option Qni:=Qrq (Qn1 n n) p_0
noncomputable def Qp0 (p_0:List Int):Option Qni:=Z0j 1099511627776 p_0
noncomputable def Za5:Ent:=⟨[.val t28],[⟨t4,[false],none⟩],fun x=>Qp0 x.1⟩
theorem Qxh:GD 105 Za5:=fnl Qyy (fun n x=>Z0j n x.1) (Qjy Z1n Qk3) Tryz.func105 fun n x=>Eq.trans (b:=Qrq (Qr1 n n) x.1) (by kernel_rfl) (by rw [Qyb n n];rfl)
noncomputable def Qn6 (p_0:List Int) (id_1:Int):Option (((List Int) × Bool × Unit) × Unit):=
 bif Nat.ble (0+p_0.length) 1073741824 then
  bif Nat.ble (([]++p_0).length+1) 1073741824 then
   Option.bind (Qp0 (([]++p_0)++[id_1])) fun r1=>
   bif !r1.1.1 then
    some (([],false,()),())
   else
    some ((([]++p_0)++[id_1],true,()),())
  else none
 else none
noncomputable def Qzs:Ent:=⟨[.val t28,.val t2],[⟨t28,[true],none⟩,⟨t4,[false],none⟩],fun x=>Qn6 x.1 x.2.1⟩
theorem Qsy:GD 85 Qzs:=fnk 1 (fo [[0,1],[6],[6,15],[4,5],[4,5]]) (Qjy Qxh Qk3) Tryz.func85
abbrev Qmd:Type:=((List Int) × Unit) × (Z5v × Unit)
noncomputable def Z61:Ctx:=[(26,Qqc),(85,Qzs)]
def Qwa:Fi:=fr [[0],[0,3],[0,3,4],[0,3,4,11],[0,3,4],[0,3,0,6],[0,3,4,5,22],[0,3,4],[0,2]]
abbrev Qrv:Type:=Int→List Int→Int→List Int→Option Qmd
noncomputable def Qlw (L1:Qrv) (v2:Int) (v3:List Int) (v4:Int) (v5:List Int):Option Qmd:=
 bif decide (v2>0) then
  Option.bind (Qk5 (v3,v4) 7) fun r6=>
  Option.bind (Qn6 v5 (IntKind.wrap .i64 (2+r6.1.1))) fun r7=>
  bif r7.1.2.1 then
   L1 (IntKind.wrap .i64 (v2 - 1)) r6.2.1.1 r6.2.1.2 r7.1.1
  else
   L1 (IntKind.wrap .i64 (v2 - 1)) r6.2.1.1 r6.2.1.2 v5
 else
  some ((v5,()),((v3,v4),()))
noncomputable def Qpb (L1:Qrv) (p_0:Z5v):Option Qmd:=
 Option.bind (Qk5 p_0 4) fun r1=>
 L1 r1.1.1 r1.2.1.1 r1.2.1.2 [1]
noncomputable def Qly (n:Nat):Nat→Qrv:=iter (fun _ _ _ _=>none) fun L=>Qlw L
noncomputable def Qoi (n m:Nat) (v2:Int) (v3:List Int) (v4:Int) (v5:List Int):Option Qmd:=
 Qjv Z61 tab (fiB [.box 75 t74 [false,false]] Qwa) n [.box 75 t74 [false,false]] [⟨t28,[true],none⟩] Tryz.f43 [1,1,0,1,0] [] [0,3,4] m
 ⟨[(0,V1 (.ptr (0,0) 0)),(3,V1 (.ref (888888,3))),(4,Vp t2 v2)],[((0,0),Ob.box 75 [LV.pure t25 v3,LV.pure t2 v4]),((888888,3),Ob.row 3 t2 v5)]⟩
theorem Qvg (n:Nat):∀ m,Qoi n m=Qly n m
 | 0=>rfl
 | m+1=>by rw [show Qoi n (m+1)=Qlw (Qoi n m) from by kernel_rfl,Qvg n m];rfl
noncomputable def Qxd (n:Nat) (p_0:Z5v):Option Qmd:=Qpb (Qly n n) p_0
noncomputable def Qkh (p_0:Z5v):Option Qmd:=Qxd 1099511627776 p_0
noncomputable def Qxi:Ent:=⟨[.box 75 t74 [false,false]],[⟨t28,[true],none⟩],fun x=>Qkh x.1⟩
theorem Qum:GD 43 Qxi:=fnl Qwa (fun n x=>Qxd n x.1) (Qjy Qlh (Qjy Qsy Qk3)) Tryz.func43 fun n x=>Eq.trans (b:=Qpb (Qoi n n) x.1) (by kernel_rfl) (by rw [Qvg n n];rfl)
noncomputable def Qm2 (p_0:Z5v):Option (Zqz × (Z5v × Unit)):=
 Option.bind (Qk5 p_0 5) fun r1=>
 bif decide (0≤r1.1.1)&&decide (r1.1.1<5) then
  bif decide (0≤r1.1.1)&&decide (r1.1.1<5) then
   some ((List.getD [(⟨#[]⟩:ByteArray),(⟨#[97]⟩:ByteArray),(⟨#[98,99]⟩:ByteArray),(⟨#[104,101,108,108,111]⟩:ByteArray),(⟨#[116,119,101,108,118,101,32,98,121,116,101,115]⟩:ByteArray)] r1.1.1.toNat (⟨#[]⟩:ByteArray),()),(r1.2.1,()))
  else none
 else none
noncomputable def Qxa:Ent:=⟨[.box 75 t74 [false,false]],[⟨t9,[false],none⟩],fun x=>Qm2 x.1⟩
theorem Qun:GD 44 Qxa:=fnk 1 (fo [[0],[0,2]]) (Qjy Qlh Qk3) Tryz.func44
noncomputable def Ql4 (p_0:Z5v) (to_1:Int):Option ((Qwl × Unit) × (Z5v × Unit)):=
 Option.bind (Qk5 p_0 8) fun r1=>
 bif (IntKind.wrap .i64 (1+r1.1.1))==to_1 then
  Option.bind (Qk5 r1.2.1 9) fun r2=>
  Option.bind (Qk5 r2.2.1 3) fun r3=>
  bif (IntKind.wrap .i64 (1+r2.1.1))==2 then
   Option.bind (Qk5 r3.2.1 20) fun r4=>
   Option.bind (Qk5 r4.2.1 25) fun r5=>
   Option.bind (Qkh r5.2.1) fun r6=>
   Option.bind (Qk5 r6.2.1 9) fun r7=>
   some (((IntKind.wrap .i64 (1+r2.1.1),IntKind.wrap .i64 (1+(Int.tmod to_1 8)),to_1,IntKind.wrap .i64 (1+r3.1.1),r4.1.1,r5.1.1,r6.1.1,r7.1.1,0,(⟨#[]⟩:ByteArray)),()),(r7.2.1,()))
  else
  bif (IntKind.wrap .i64 (1+r2.1.1))==5 then
   Option.bind (Qk5 r3.2.1 20) fun r8=>
   Option.bind (Qk5 r8.2.1 25) fun r9=>
   Option.bind (Qkh r9.2.1) fun r10=>
   Option.bind (Qk5 r10.2.1 12) fun r11=>
   some (((IntKind.wrap .i64 (1+r2.1.1),IntKind.wrap .i64 (1+(Int.tmod to_1 8)),to_1,IntKind.wrap .i64 (1+r3.1.1),r8.1.1,r9.1.1,r10.1.1,0,r11.1.1,(⟨#[]⟩:ByteArray)),()),(r11.2.1,()))
  else
  bif (IntKind.wrap .i64 (1+r2.1.1))==7 then
   Option.bind (Qk5 r3.2.1 12) fun r12=>
   Option.bind (Qm2 r12.2.1) fun r13=>
   some (((IntKind.wrap .i64 (1+r2.1.1),IntKind.wrap .i64 (1+(Int.tmod to_1 8)),to_1,IntKind.wrap .i64 (1+r3.1.1),0,0,[],IntKind.wrap .i64 (1+r12.1.1),0,r13.1.1),()),(r13.2.1,()))
  else
  bif (IntKind.wrap .i64 (1+r2.1.1))==8 then
   bif (IntKind.wrap .i64 (1+r2.1.1))==8 then
    Option.bind (Qk5 r3.2.1 9) fun r14=>
    Option.bind (Qk5 r14.2.1 6) fun r15=>
    some (((IntKind.wrap .i64 (1+r2.1.1),IntKind.wrap .i64 (1+(Int.tmod to_1 8)),to_1,IntKind.wrap .i64 (1+r3.1.1),0,0,[],IntKind.wrap .i64 (1+r14.1.1),IntKind.wrap .i64 ((IntKind.wrap .i64 (1+r14.1.1))+r15.1.1),(⟨#[]⟩:ByteArray)),()),(r15.2.1,()))
   else
    some (((IntKind.wrap .i64 (1+r2.1.1),IntKind.wrap .i64 (1+(Int.tmod to_1 8)),to_1,IntKind.wrap .i64 (1+r3.1.1),0,0,[],0,0,(⟨#[]⟩:ByteArray)),()),(r3.2.1,()))
  else
  bif (IntKind.wrap .i64 (1+r2.1.1))==9 then
   Option.bind (Qk5 r3.2.1 9) fun r16=>
   Option.bind (Qk5 r16.2.1 6) fun r17=>
   some (((IntKind.wrap .i64 (1+r2.1.1),IntKind.wrap .i64 (1+(Int.tmod to_1 8)),to_1,IntKind.wrap .i64 (1+r3.1.1),0,0,[],IntKind.wrap .i64 (1+r16.1.1),IntKind.wrap .i64 ((IntKind.wrap .i64 (1+r16.1.1))+r17.1.1),(⟨#[]⟩:ByteArray)),()),(r17.2.1,()))
  else
   some (((IntKind.wrap .i64 (1+r2.1.1),IntKind.wrap .i64 (1+(Int.tmod to_1 8)),to_1,IntKind.wrap .i64 (1+r3.1.1),0,0,[],0,0,(⟨#[]⟩:ByteArray)),()),(r3.2.1,()))
 else
  Option.bind (Qk5 r1.2.1 9) fun r18=>
  Option.bind (Qk5 r18.2.1 3) fun r19=>
  bif (IntKind.wrap .i64 (1+r18.1.1))==2 then
   Option.bind (Qk5 r19.2.1 20) fun r20=>
   Option.bind (Qk5 r20.2.1 25) fun r21=>
   Option.bind (Qkh r21.2.1) fun r22=>
   Option.bind (Qk5 r22.2.1 9) fun r23=>
   some (((IntKind.wrap .i64 (1+r18.1.1),IntKind.wrap .i64 (1+r1.1.1),to_1,IntKind.wrap .i64 (1+r19.1.1),r20.1.1,r21.1.1,r22.1.1,r23.1.1,0,(⟨#[]⟩:ByteArray)),()),(r23.2.1,()))
  else
  bif (IntKind.wrap .i64 (1+r18.1.1))==5 then
   Option.bind (Qk5 r19.2.1 20) fun r24=>
   Option.bind (Qk5 r24.2.1 25) fun r25=>
   Option.bind (Qkh r25.2.1) fun r26=>
   Option.bind (Qk5 r26.2.1 12) fun r27=>
   some (((IntKind.wrap .i64 (1+r18.1.1),IntKind.wrap .i64 (1+r1.1.1),to_1,IntKind.wrap .i64 (1+r19.1.1),r24.1.1,r25.1.1,r26.1.1,0,r27.1.1,(⟨#[]⟩:ByteArray)),()),(r27.2.1,()))
  else
  bif (IntKind.wrap .i64 (1+r18.1.1))==7 then
   Option.bind (Qk5 r19.2.1 12) fun r28=>
   Option.bind (Qm2 r28.2.1) fun r29=>
   some (((IntKind.wrap .i64 (1+r18.1.1),IntKind.wrap .i64 (1+r1.1.1),to_1,IntKind.wrap .i64 (1+r19.1.1),0,0,[],IntKind.wrap .i64 (1+r28.1.1),0,r29.1.1),()),(r29.2.1,()))
  else
  bif (IntKind.wrap .i64 (1+r18.1.1))==8 then
   bif (IntKind.wrap .i64 (1+r18.1.1))==8 then
    Option.bind (Qk5 r19.2.1 9) fun r30=>
    Option.bind (Qk5 r30.2.1 6) fun r31=>
    some (((IntKind.wrap .i64 (1+r18.1.1),IntKind.wrap .i64 (1+r1.1.1),to_1,IntKind.wrap .i64 (1+r19.1.1),0,0,[],IntKind.wrap .i64 (1+r30.1.1),IntKind.wrap .i64 ((IntKind.wrap .i64 (1+r30.1.1))+r31.1.1),(⟨#[]⟩:ByteArray)),()),(r31.2.1,()))
   else
    some (((IntKind.wrap .i64 (1+r18.1.1),IntKind.wrap .i64 (1+r1.1.1),to_1,IntKind.wrap .i64 (1+r19.1.1),0,0,[],0,0,(⟨#[]⟩:ByteArray)),()),(r19.2.1,()))
  else
  bif (IntKind.wrap .i64 (1+r18.1.1))==9 then
   Option.bind (Qk5 r19.2.1 9) fun r32=>
   Option.bind (Qk5 r32.2.1 6) fun r33=>
   some (((IntKind.wrap .i64 (1+r18.1.1),IntKind.wrap .i64 (1+r1.1.1),to_1,IntKind.wrap .i64 (1+r19.1.1),0,0,[],IntKind.wrap .i64 (1+r32.1.1),IntKind.wrap .i64 ((IntKind.wrap .i64 (1+r32.1.1))+r33.1.1),(⟨#[]⟩:ByteArray)),()),(r33.2.1,()))
  else
   some (((IntKind.wrap .i64 (1+r18.1.1),IntKind.wrap .i64 (1+r1.1.1),to_1,IntKind.wrap .i64 (1+r19.1.1),0,0,[],0,0,(⟨#[]⟩:ByteArray)),()),(r19.2.1,()))
noncomputable def Qy2:Ent:=⟨[.box 75 t74 [false,false],.val t2],[⟨t45,(nF 6++[true,false,false,false]),none⟩],fun x=>Ql4 x.1 x.2.1⟩
theorem Z45:GD 17 Qy2:=fnk 1 (fo [[0,1,4],[0,1,4,5],[0,1,4,5,12],[0,1,4,5],[0,4,6],[0,4,6,26],[0,4,6,26,27],[0,4,6],[0,4,6,26,41],[0,4,6],[0,4,6,26,55],[0,4,6],[0,4,6,26,64],[0,4,6,64],[0,4,6],[0,4,6],[0,4]]) (Qjy Qlh (Qjy Qum (Qjy Qun Qk3))) Tryz.func17
abbrev Qps:Type:=(Qyn × Bool × Unit) × Unit
noncomputable def Ze0:Ctx:=[]
def Z3m:Fi:=fo [[0,1,4],[0,1,4,6],[0,1,4,6,10],[0,1,4,6],[0,1,4,6,19],[4,5],[4,5]]
abbrev Qwz:Type:=Qlv→Int→Int→Int→Int→Int→Option Qps
noncomputable def Qor (L1:Qwz) (v1:Qlv) (v2 v3 v4 v5 v6:Int):Option Qps:=
 bif decide (v3<(v1.length:Int)) then
  bif decide (0≤v3)&&decide (v3<(v1.length:Int)) then
   bif ((List.getD v1 v3.toNat (0,0,0)).1)==v2 then
    bif decide (0≤v3)&&decide (v3<(v1.length:Int)) then
     some (((List.getD v1 v3.toNat (0,0,0)),true,()),())
    else none
   else
    L1 v1 v2 (IntKind.wrap .i64 (v3+1)) v4 v5 v6
  else none
 else
  some (((0,0,0),false,()),())
noncomputable def Z58 (L1:Qwz) (l_0:Qlv) (id_1:Int):Option Qps:=
 L1 l_0 id_1 0 0 0 0
noncomputable def Qqw (n:Nat):Nat→Qwz:=iter (fun _ _ _ _ _ _=>none) fun L=>Qor L
noncomputable def Qtc (n m:Nat) (v1:Qlv) (v2 v3 v4 v5 v6:Int):Option Qps:=
 Qjv Ze0 tab (fiB [.val t29,.val t2] Z3m) n [.val t29,.val t2] [⟨t52,[false,false,false],none⟩,⟨t4,[false],none⟩] Tryz.f70 [1,0,1,0] [] [0,1,4,6] m
 ⟨[(0,Vp t29 v1),(1,Vp t2 v2),(4,V1 (.ptr (4,0) 0)),(6,Vp t2 v3)],[((4,0),Ob.box 53 [LV.pure t2 v4,LV.pure t2 v5,LV.pure t2 v6])]⟩
theorem Z1c (n:Nat):∀ m,Qtc n m=Qqw n m
 | 0=>rfl
 | m+1=>by rw [show Qtc n (m+1)=Qor (Qtc n m) from by kernel_rfl,Z1c n m];rfl
noncomputable def Z4r (n:Nat) (l_0:Qlv) (id_1:Int):Option Qps:=Z58 (Qqw n n) l_0 id_1
noncomputable def Qq4 (l_0:Qlv) (id_1:Int):Option Qps:=Z4r 1099511627776 l_0 id_1
noncomputable def Zdo:Ent:=⟨[.val t29,.val t2],[⟨t52,[false,false,false],none⟩,⟨t4,[false],none⟩],fun x=>Qq4 x.1 x.2.1⟩
theorem Z0i:GD 70 Zdo:=fnl Z3m (fun n x=>Z4r n x.1 x.2.1) Qk3 Tryz.func70 fun n x=>Eq.trans (b:=Z58 (Qtc n n) x.1 x.2.1) (by kernel_rfl) (by rw [Z1c n n];rfl)
noncomputable def Qvd (l_0:Qlv) (id_1 inc_2:Int):Option ((Bool × Unit) × Unit):=
 Option.bind (Qq4 l_0 id_1) fun r1=>
 bif r1.1.2.1 then
  some ((decide (r1.1.1.2.1>inc_2),()),())
 else
  some ((false,()),())
noncomputable def Z6s:Ent:=⟨[.val t29,.val t2,.val t2],[⟨t4,[false],none⟩],fun x=>Qvd x.1 x.2.1 x.2.2.1⟩
theorem Z21:GD 134 Z6s:=fnk 1 (fr [[0,1,2,17,0,20],[2,7,8,17,0,20],[6]]) (Qjy Z0i Qk3) Tryz.func134
abbrev Qpu:Type:=(Qlv × Unit) × Unit
noncomputable def Zdj:Ctx:=[]
def Z2s:Fi:={ keep:=[],vty:=[(5,29)],vals:=[],live:=[(0,[0,1]),(1,[0,1,5]),(2,[0,1,5,6]),(3,[0,1,5,6,10]),(4,[0,1,5,6]),(5,[0,1,5,6,19]),(6,[0,1,5,6]),(7,[4])] }
abbrev Qx5:Type:=Qlv→Int→Int→Qlv→Option Qpu
noncomputable def Qp2 (L1:Qx5) (v1:Qlv) (v2 v3:Int) (v4:Qlv):Option Qpu:=
 bif decide (v3<(v1.length:Int)) then
  bif decide (0≤v3)&&decide (v3<(v1.length:Int)) then
   bif ((List.getD v1 v3.toNat (0,0,0)).1) != v2 then
    bif decide (0≤v3)&&decide (v3<(v1.length:Int)) then
     bif Nat.ble (v4.length+1) 1073741824 then
      L1 v1 v2 (IntKind.wrap .i64 (v3+1)) (v4++[(List.getD v1 v3.toNat (0,0,0))])
     else none
    else none
   else
    L1 v1 v2 (IntKind.wrap .i64 (v3+1)) v4
  else none
 else
  some ((v4,()),())
noncomputable def Z5p (L1:Qx5) (l_0:Qlv) (id_1:Int):Option Qpu:=
 L1 l_0 id_1 0 []
noncomputable def Qqo (n:Nat):Nat→Qx5:=iter (fun _ _ _ _=>none) fun L=>Qp2 L
noncomputable def Qth (n m:Nat) (v1:Qlv) (v2 v3:Int) (v4:Qlv):Option Qpu:=
 Qjv Zdj tab (fiB [.val t29,.val t2] Z2s) n [.val t29,.val t2] [⟨t29,[true],none⟩] Tryz.f139 [1,1,0,1,0] [] [0,1,5,6] m
 ⟨[(0,Vp t29 v1),(1,Vp t2 v2),(5,V1 (.ref (888888,5))),(6,Vp t2 v3)],[((888888,5),Ob.row 53 t52 v4)]⟩
theorem Z29 (n:Nat):∀ m,Qth n m=Qqo n m
 | 0=>rfl
 | m+1=>by rw [show Qth n (m+1)=Qp2 (Qth n m) from by kernel_rfl,Z29 n m];rfl
noncomputable def Z5i (n:Nat) (l_0:Qlv) (id_1:Int):Option Qpu:=Z5p (Qqo n n) l_0 id_1
noncomputable def Qtl (l_0:Qlv) (id_1:Int):Option Qpu:=Z5i 1099511627776 l_0 id_1
noncomputable def Z4z:Ent:=⟨[.val t29,.val t2],[⟨t29,[true],none⟩],fun x=>Qtl x.1 x.2.1⟩
theorem Z06:GD 139 Z4z:=fnl Z2s (fun n x=>Z5i n x.1 x.2.1) Qk3 Tryz.func139 fun n x=>Eq.trans (b:=Z5p (Qth n n) x.1 x.2.1) (by kernel_rfl) (by rw [Z29 n n];rfl)
abbrev Qpw:Type:=(Qlv × Bool × Unit) × Unit
noncomputable def Zdp:Ctx:=[(136,Qjh),(134,Z6s),(139,Z4z)]
def Z3k:Fi:={ keep:=[],vty:=[],vals:=[],live:=[(0,[0,3]),(1,[0,3,13]),(2,[4,5]),(3,[3,6]),(4,[3,6,7]),(5,[3,6,7,22]),(6,[3,6,7]),(7,[3,6,7,32]),(8,[4,5]),(9,[4,5])],melt:=[(8,1000006)] }
abbrev Qx9:Type:=Int→Int→Int→Int→Qlv→Option Qpw
noncomputable def Qok (L1:Qx9) (v3 v4 v5 v6:Int) (v7:Qlv):Option Qpw:=
 bif decide (v3<(v7.length:Int)) then
  bif decide (0≤v3)&&decide (v3<(v7.length:Int)) then
   bif decide (0≤v3)&&decide (v3<(v7.length:Int)) then
    bif decide ((List.getD v7 v3.toNat (0,0,0)).1>v4) then
     bif decide (0≤v3)&&decide (v3≤(((List.map some v7).length:Nat):Int)) then
      bif Nat.ble (0+((v3 - 0).toNat)) ((List.map some v7).length) then
       Option.bind (Qd (List.take ((v3 - 0).toNat) (List.drop 0 (List.map some v7)))) fun z8=>
       bif Nat.ble (0+z8.length) 1073741824 then
        bif Nat.ble (([]++z8).length+1) 1073741824 then
         bif (decide (0≤v3)&&decide (v3≤((v7.length:Nat):Int)))&&decide (((v7.length:Nat):Int)≤(((List.map some v7).length:Nat):Int)) then
          bif Nat.ble ((0+v3.toNat)+((((v7.length:Nat):Int) - v3).toNat)) ((List.map some v7).length) then
           Option.bind (Qd (List.take ((((v7.length:Nat):Int) - v3).toNat) (List.drop (0+v3.toNat) (List.map some v7)))) fun z9=>
           bif Nat.ble (((([]++z8)++[(v4,v5,v6)]).length)+z9.length) 1073741824 then
            some (((([]++z8)++[(v4,v5,v6)])++z9,true,()),())
           else none
          else none
         else none
        else none
       else none
      else none
     else none
    else
     L1 (IntKind.wrap .i64 (v3+1)) v4 v5 v6 v7
   else none
  else none
 else
 bif Nat.ble (v7.length+1) 1073741824 then
  some ((v7++[(v4,v5,v6)],true,()),())
 else none
noncomputable def Quh (L1:Qx9) (l_0:Qlv) (k_1:Qyn):Option Qpw:=
 Option.bind (Qvd l_0 k_1.1 k_1.2.1) fun r1=>
 bif r1.1.1 then
  some ((l_0,false,()),())
 else
  Option.bind (Qtl l_0 k_1.1) fun r2=>
  L1 0 k_1.1 k_1.2.1 k_1.2.2 r2.1.1
noncomputable def Qox (n:Nat):Nat→Qx9:=iter (fun _ _ _ _ _=>none) fun L=>Qok L
noncomputable def Qt9 (n m:Nat) (v3 v4 v5 v6:Int) (v7:Qlv):Option Qpw:=
 Qjv Zdp tab (fiB [.val t29,.val t52] Z3k) n [.val t29,.val t52] [⟨t29,[false],none⟩,⟨t4,[false],none⟩] Tryz.f136 [1,1,1,0,1,0] [] [3,6,7] m
 ⟨[(3,V1 (.ptr (3,0) 0)),(6,V1 (.ref (888888,6))),(7,Vp t2 v3)],[((3,0),Ob.box 53 [LV.pure t2 v4,LV.pure t2 v5,LV.pure t2 v6]),((888888,6),Ob.row 53 t52 v7)]⟩
theorem Z1z (n:Nat):∀ m,Qt9 n m=Qox n m
 | 0=>rfl
 | m+1=>by rw [show Qt9 n (m+1)=Qok (Qt9 n m) from by kernel_rfl,Z1z n m];rfl
noncomputable def Z5l (n:Nat) (l_0:Qlv) (k_1:Qyn):Option Qpw:=Quh (Qox n n) l_0 k_1
noncomputable def Qrx (l_0:Qlv) (k_1:Qyn):Option Qpw:=Z5l 1099511627776 l_0 k_1
noncomputable def Zec:Ent:=⟨[.val t29,.val t52],[⟨t29,[false],none⟩,⟨t4,[false],none⟩],fun x=>Qrx x.1 x.2.1⟩
theorem Za0:GD 136 Zec:=fnl Z3k (fun n x=>Z5l n x.1 x.2.1) (Qjy (Qjx Tryz.func136 (by kernel_rfl) (by kernel_rfl)) (Qjy Z21 (Qjy Z06 Qk3))) Tryz.func136 fun n x=>Eq.trans (b:=Quh (Qt9 n n) x.1 x.2.1) (by kernel_rfl) (by rw [Z1z n n];rfl)
noncomputable def Qvi (p_0:List Int):Option ((Int × Unit) × Unit):=
 bif decide ((p_0.length:Int)<2) then
  some ((0,()),())
 else
 bif decide (0≤IntKind.wrap .i64 ((p_0.length:Int) - 2))&&decide (IntKind.wrap .i64 ((p_0.length:Int) - 2)<(p_0.length:Int)) then
  some ((List.getD p_0 ((IntKind.wrap .i64 ((p_0.length:Int) - 2)).toNat) 0,()),())
 else none
noncomputable def Zbq:Ent:=⟨[.val t28],[⟨t2,[false],none⟩],fun x=>Qvi x.1⟩
theorem Z8p:GD 171 Zbq:=fnk 1 (fo [[0],[0,5],[2],[2]]) Qk3 Tryz.func171
noncomputable def Qpx (p_0:List Int):Option ((Int × Unit) × Unit):=
 Option.bind (Qvi p_0) fun r1=>
 bif r1.1.1==0 then
  some ((1,()),())
 else
  some ((r1.1.1,()),())
noncomputable def Zbg:Ent:=⟨[.val t28],[⟨t2,[false],none⟩],fun x=>Qpx x.1⟩
theorem Qy7:GD 138 Zbg:=fnk 1 (fo [[0],[3],[3,7],[2],[2]]) (Qjy Z8p Qk3) Tryz.func138
noncomputable def Qpn (t_0:Qvr) (m_1:Qwl):Option ((Qvr × Qzk × Unit) × Unit):=
 Option.bind (Qk6 (u11 (u9 t_0 0) (IntKind.wrap .i64 ((g11 t_0)+1))) 6 m_1.2.1) fun r5=>
 some (((u11 (u9 t_0 0) (IntKind.wrap .i64 ((g11 t_0)+1))),[r5.1.1],()),())
noncomputable def Qpj (t_0:Qvr) (m_1:Qwl):Option ((Qvr × Qzk × Unit) × Unit):=
 bif (g9 t_0)==0 then
  Option.bind (Qk6 t_0 6 m_1.2.1) fun r1=>
  some ((t_0,[r1.1.1],()),())
 else
 bif (g9 t_0) != m_1.2.1 then
  Option.bind (Qk6 t_0 6 m_1.2.1) fun r2=>
  some ((t_0,[r2.1.1],()),())
 else
 bif (g3 t_0) != 0 then
  Option.bind (Qk6 t_0 6 m_1.2.1) fun r3=>
  some ((t_0,[r3.1.1],()),())
 else
  Option.bind (Qn6 (g6 m_1) t_0.1) fun r4=>
  bif !r4.1.2.1 then
   Qpn t_0 m_1
  else
  bif decide ((g5 m_1)>20) then
   Qpn t_0 m_1
  else
   Option.bind (Qpx (g6 m_1)) fun r7=>
   some (((u11 (u9 (u8 (u7 (u6 (u5 (u4 (u3 t_0 m_1.2.1) (g3 m_1)) r7.1.1) r4.1.1) (g4 m_1)) (IntKind.wrap .i64 (t_0.2.2.1 - (g5 m_1)))) 0) 0),[],()),())
noncomputable def Qmg (t_0:Qvr) (m_1:Qwl):Option ((Qvr × Qzk × Unit) × Unit):=
 bif (g3 t_0) != 0 then
  bif m_1.2.1==(g3 t_0) then
   some ((t_0,[],()),())
  else
   Qpj t_0 m_1
 else
  Qpj t_0 m_1
noncomputable def Z7k:Ent:=⟨[.val t30,.val t45],[⟨t30,(nF 13),none⟩,⟨t48,[true],none⟩],fun x=>Qmg x.1 x.2.1⟩
theorem Z4f:GD 137 Z7k:=fnk 1 (fr [[2,3,4,12,0,16,23,0,27,30,0,32,52,0,54],[2,3,4,17,23,0,27,30,0,32,52,0,54],[4,5],[2,3,4,33,52,0,54],[4,5],[2,3,4,6,7,52,0,54],[2,3,4,6,7,52,0,54],[2,3,4,6,55],[2,3,4],[4,5],[2,3,4],[2,4],[4,5]]) (Qjy Qql (Qjy Qsy (Qjy Qy7 Qk3))) Tryz.func137
noncomputable def Qrs (r2:(Qvr × Unit) × Unit) (x_1:Qwl) (x_2:Int):Option ((Qvr × Qzk × Unit) × Unit):=
 Option.bind (Qrx (h12 r2.1.1) (x_1.2.1,(g3 x_1),r2.1.1.2.2.1)) fun r9=>
 Option.bind (Qnn (e12 r2.1.1 r9.1.1) 2 x_1.2.1) fun r10=>
 some (((e12 r2.1.1 r9.1.1),[(u7 r10.1.1 x_2)],()),())
noncomputable def Z0n (r2:(Qvr × Unit) × Unit) (x_1:Qwl) (x_2:Int):Option ((Qvr × Qzk × Unit) × Unit):=
 Option.bind (Qq4 (h12 r2.1.1) x_1.2.1) fun r3=>
 bif r2.1.1.1==1 then
  Option.bind (Qlk r2.1.1) fun r4=>
  bif !r4.1.1 then
   Option.bind (Qk6 r2.1.1 3 x_1.2.1) fun r5=>
   some ((r2.1.1,[r5.1.1],()),())
  else
   Option.bind (Qrc (g6 r2.1.1) x_1.2.1) fun r6=>
   bif r6.1.1 then
    Option.bind (Qk6 r2.1.1 3 x_1.2.1) fun r7=>
    some ((r2.1.1,[r7.1.1],()),())
   else
   bif !r3.1.2.1 then
    bif decide (((h12 r2.1.1).length:Int) ≥ 8) then
     Option.bind (Qk6 r2.1.1 3 x_1.2.1) fun r8=>
     some ((r2.1.1,[r8.1.1],()),())
    else
     Qrs r2 x_1 x_2
   else
    Qrs r2 x_1 x_2
 else
  Option.bind (Qlk r2.1.1) fun r13=>
  bif !r13.1.1 then
   Option.bind (Qk6 r2.1.1 3 x_1.2.1) fun r14=>
   some ((r2.1.1,[r14.1.1],()),())
  else
   Option.bind (Qrc (g6 r2.1.1) x_1.2.1) fun r15=>
   bif r15.1.1 then
    Option.bind (Qk6 r2.1.1 3 x_1.2.1) fun r16=>
    some ((r2.1.1,[r16.1.1],()),())
   else
   bif !r3.1.2.1 then
    bif decide (((h12 r2.1.1).length:Int) ≥ 3) then
     Option.bind (Qk6 r2.1.1 3 x_1.2.1) fun r17=>
     some ((r2.1.1,[r17.1.1],()),())
    else
     Qrs r2 x_1 x_2
   else
    Qrs r2 x_1 x_2
noncomputable def Z08 (r2:(Qvr × Unit) × Unit) (x_1:Qwl):Option ((Qvr × Qzk × Unit) × Unit):=
 Option.bind (Qq4 (h12 r2.1.1) x_1.2.1) fun r26=>
 bif !r26.1.2.1 then
  Option.bind (Qk6 r2.1.1 3 x_1.2.1) fun r27=>
  some ((r2.1.1,[r27.1.1],()),())
 else
  Option.bind (Qrx (h12 r2.1.1) (x_1.2.1,(g3 x_1),r2.1.1.2.2.1)) fun r28=>
  some (((e12 r2.1.1 r28.1.1),[],()),())
noncomputable def Z0q (x_1:Qwl) (r2:(Qvr × Unit) × Unit):Option ((Qvr × Qzk × Unit) × Unit):=
 bif x_1.1==6 then
  Option.bind (Qtl (h12 r2.1.1) x_1.2.1) fun r34=>
  some (((e12 r2.1.1 r34.1.1),[],()),())
 else
  some ((r2.1.1,[],()),())
noncomputable def Qng (arr_0:Qvr) (x_1:Qwl) (x_2:Int):Option ((Qvr × Qzk × Unit) × Unit):=
 Option.bind (Qrx (h12 arr_0) (x_1.2.1,(g3 x_1),arr_0.2.2.1)) fun r66=>
 Option.bind (Qnn (e12 arr_0 r66.1.1) 2 x_1.2.1) fun r67=>
 some (((e12 arr_0 r66.1.1),[(u7 r67.1.1 x_2)],()),())
noncomputable def Qrj (arr_0:Qvr) (x_1:Qwl) (x_2:Int):Option ((Qvr × Qzk × Unit) × Unit):=
 Option.bind (Qq4 (h12 arr_0) x_1.2.1) fun r60=>
 bif arr_0.1==1 then
  Option.bind (Qlk arr_0) fun r61=>
  bif !r61.1.1 then
   Option.bind (Qk6 arr_0 3 x_1.2.1) fun r62=>
   some ((arr_0,[r62.1.1],()),())
  else
   Option.bind (Qrc (g6 arr_0) x_1.2.1) fun r63=>
   bif r63.1.1 then
    Option.bind (Qk6 arr_0 3 x_1.2.1) fun r64=>
    some ((arr_0,[r64.1.1],()),())
   else
   bif !r60.1.2.1 then
    bif decide (((h12 arr_0).length:Int) ≥ 8) then
     Option.bind (Qk6 arr_0 3 x_1.2.1) fun r65=>
     some ((arr_0,[r65.1.1],()),())
    else
     Qng arr_0 x_1 x_2
   else
    Qng arr_0 x_1 x_2
 else
  Option.bind (Qlk arr_0) fun r70=>
  bif !r70.1.1 then
   Option.bind (Qk6 arr_0 3 x_1.2.1) fun r71=>
   some ((arr_0,[r71.1.1],()),())
  else
   Option.bind (Qrc (g6 arr_0) x_1.2.1) fun r72=>
   bif r72.1.1 then
    Option.bind (Qk6 arr_0 3 x_1.2.1) fun r73=>
    some ((arr_0,[r73.1.1],()),())
   else
   bif !r60.1.2.1 then
    bif decide (((h12 arr_0).length:Int) ≥ 3) then
     Option.bind (Qk6 arr_0 3 x_1.2.1) fun r74=>
     some ((arr_0,[r74.1.1],()),())
    else
     Qng arr_0 x_1 x_2
   else
    Qng arr_0 x_1 x_2
noncomputable def Qrl (arr_0:Qvr) (x_1:Qwl):Option ((Qvr × Qzk × Unit) × Unit):=
 Option.bind (Qq4 (h12 arr_0) x_1.2.1) fun r83=>
 bif !r83.1.2.1 then
  Option.bind (Qk6 arr_0 3 x_1.2.1) fun r84=>
  some ((arr_0,[r84.1.1],()),())
 else
  Option.bind (Qrx (h12 arr_0) (x_1.2.1,(g3 x_1),arr_0.2.2.1)) fun r85=>
  some (((e12 arr_0 r85.1.1),[],()),())
noncomputable def Qrn (x_1:Qwl) (arr_0:Qvr):Option ((Qvr × Qzk × Unit) × Unit):=
 bif x_1.1==6 then
  Option.bind (Qtl (h12 arr_0) x_1.2.1) fun r91=>
  some (((e12 arr_0 r91.1.1),[],()),())
 else
  some ((arr_0,[],()),())
noncomputable def Qmj (arr_0:Qvr) (x_1:Qwl) (x_2:Int):Option ((Qvr × Qzk × Unit) × Unit):=
 bif (g3 arr_0) != 0 then
  bif x_1.1==1 then
   Qrj arr_0 x_1 x_2
  else
  bif x_1.1==2 then
   Option.bind (Qmg arr_0 x_1) fun r79=>
   some ((r79.1.1,r79.1.2.1,()),())
  else
  bif x_1.1==3 then
   bif (g9 arr_0) != 0 then
    bif (g9 arr_0)==x_1.2.1 then
     bif x_1.2.1==(g3 arr_0) then
      Option.bind (Qle (u11 (u9 arr_0 0) (IntKind.wrap .i64 ((g11 arr_0)+1))) 0) fun r80=>
      some ((r80.1.1,[],()),())
     else
      some (((u11 (u9 arr_0 0) (IntKind.wrap .i64 ((g11 arr_0)+1))),[],()),())
    else
    bif x_1.2.1==(g3 arr_0) then
     Option.bind (Qle arr_0 0) fun r81=>
     some ((r81.1.1,[],()),())
    else
     some ((arr_0,[],()),())
   else
   bif x_1.2.1==(g3 arr_0) then
    Option.bind (Qle arr_0 0) fun r82=>
    some ((r82.1.1,[],()),())
   else
    some ((arr_0,[],()),())
  else
  bif x_1.1==4 then
   Qrl arr_0 x_1
  else
  bif x_1.1==5 then
   bif !(x_1.2.1==(g3 arr_0)) then
    Option.bind (Qk6 arr_0 6 x_1.2.1) fun r86=>
    some ((arr_0,[r86.1.1],()),())
   else
    Option.bind (Qn6 (g6 x_1) arr_0.1) fun r87=>
    bif !r87.1.2.1 then
     Option.bind (Qle arr_0 1) fun r88=>
     Option.bind (Qk6 arr_0 6 x_1.2.1) fun r89=>
     some ((r88.1.1,[r89.1.1],()),())
    else
     Option.bind (Qpx (g6 x_1)) fun r90=>
     bif decide (IntKind.wrap .i64 (arr_0.2.2.1 - (g5 x_1))>(g8 arr_0)) then
      some (((u8 (u7 (u6 (u5 arr_0 r90.1.1) r87.1.1) (g4 x_1)) (IntKind.wrap .i64 (arr_0.2.2.1 - (g5 x_1)))),[],()),())
     else
      some (((u6 (u5 arr_0 r90.1.1) r87.1.1),[],()),())
  else
   Qrn x_1 arr_0
 else
 bif x_1.1==1 then
  Qrj arr_0 x_1 x_2
 else
 bif x_1.1==2 then
  Option.bind (Qmg arr_0 x_1) fun r111=>
  some ((r111.1.1,r111.1.2.1,()),())
 else
 bif x_1.1==3 then
  bif (g9 arr_0) != 0 then
   bif (g9 arr_0)==x_1.2.1 then
    some (((u11 (u9 arr_0 0) (IntKind.wrap .i64 ((g11 arr_0)+1))),[],()),())
   else
    some ((arr_0,[],()),())
  else
   some ((arr_0,[],()),())
 else
 bif x_1.1==4 then
  Qrl arr_0 x_1
 else
 bif x_1.1==5 then
  Option.bind (Qk6 arr_0 6 x_1.2.1) fun r115=>
  some ((arr_0,[r115.1.1],()),())
 else
  Qrn x_1 arr_0
noncomputable def Qtk (x_1:Qwl) (arr_0:Qvr) (x_2:Int):Option ((Qvr × Qzk × Unit) × Unit):=
 bif x_1.2.1==(g3 arr_0) then
  bif decide ((g3 x_1)>(g4 arr_0)) then
   Option.bind (Qle arr_0 0) fun r2=>
   bif (g3 r2.1.1) != 0 then
    bif x_1.1==1 then
     Z0n r2 x_1 x_2
    else
    bif x_1.1==2 then
     Option.bind (Qmg r2.1.1 x_1) fun r22=>
     some ((r22.1.1,r22.1.2.1,()),())
    else
    bif x_1.1==3 then
     bif (g9 r2.1.1) != 0 then
      bif (g9 r2.1.1)==x_1.2.1 then
       bif x_1.2.1==(g3 r2.1.1) then
        Option.bind (Qle (u11 (u9 r2.1.1 0) (IntKind.wrap .i64 ((g11 r2.1.1)+1))) 0) fun r23=>
        some ((r23.1.1,[],()),())
       else
        some (((u11 (u9 r2.1.1 0) (IntKind.wrap .i64 ((g11 r2.1.1)+1))),[],()),())
      else
      bif x_1.2.1==(g3 r2.1.1) then
       Option.bind (Qle r2.1.1 0) fun r24=>
       some ((r24.1.1,[],()),())
      else
       some ((r2.1.1,[],()),())
     else
     bif x_1.2.1==(g3 r2.1.1) then
      Option.bind (Qle r2.1.1 0) fun r25=>
      some ((r25.1.1,[],()),())
     else
      some ((r2.1.1,[],()),())
    else
    bif x_1.1==4 then
     Z08 r2 x_1
    else
    bif x_1.1==5 then
     bif !(x_1.2.1==(g3 r2.1.1)) then
      Option.bind (Qk6 r2.1.1 6 x_1.2.1) fun r29=>
      some ((r2.1.1,[r29.1.1],()),())
     else
      Option.bind (Qn6 (g6 x_1) r2.1.1.1) fun r30=>
      bif !r30.1.2.1 then
       Option.bind (Qle r2.1.1 1) fun r31=>
       Option.bind (Qk6 r2.1.1 6 x_1.2.1) fun r32=>
       some ((r31.1.1,[r32.1.1],()),())
      else
       Option.bind (Qpx (g6 x_1)) fun r33=>
       bif decide (IntKind.wrap .i64 (r2.1.1.2.2.1 - (g5 x_1))>(g8 r2.1.1)) then
        some (((u8 (u7 (u6 (u5 r2.1.1 r33.1.1) r30.1.1) (g4 x_1)) (IntKind.wrap .i64 (r2.1.1.2.2.1 - (g5 x_1)))),[],()),())
       else
        some (((u6 (u5 r2.1.1 r33.1.1) r30.1.1),[],()),())
    else
     Z0q x_1 r2
   else
   bif x_1.1==1 then
    Z0n r2 x_1 x_2
   else
   bif x_1.1==2 then
    Option.bind (Qmg r2.1.1 x_1) fun r54=>
    some ((r54.1.1,r54.1.2.1,()),())
   else
   bif x_1.1==3 then
    bif (g9 r2.1.1) != 0 then
     bif (g9 r2.1.1)==x_1.2.1 then
      some (((u11 (u9 r2.1.1 0) (IntKind.wrap .i64 ((g11 r2.1.1)+1))),[],()),())
     else
      some ((r2.1.1,[],()),())
    else
     some ((r2.1.1,[],()),())
   else
   bif x_1.1==4 then
    Z08 r2 x_1
   else
   bif x_1.1==5 then
    Option.bind (Qk6 r2.1.1 6 x_1.2.1) fun r58=>
    some ((r2.1.1,[r58.1.1],()),())
   else
    Z0q x_1 r2
  else
   Qmj arr_0 x_1 x_2
 else
  Qmj arr_0 x_1 x_2
noncomputable def Qm6 (arr_0:Qvr) (x_1:Qwl) (x_2:Int):Option ((Qvr × Qzk × Unit) × Unit):=
 Option.bind (Qvd (h12 arr_0) x_1.2.1 (g3 x_1)) fun r1=>
 bif r1.1.1 then
  some ((arr_0,[],()),())
 else
 bif x_1.2.1==(g3 arr_0) then
  bif decide ((g3 x_1)<(g4 arr_0)) then
   some ((arr_0,[],()),())
  else
   Qtk x_1 arr_0 x_2
 else
  Qtk x_1 arr_0 x_2
noncomputable def Z1u:Ent:=⟨[.val t30,.val t45,.val t2],[⟨t30,(nF 13),none⟩,⟨t48,[true],none⟩],fun x=>Qm6 x.1 x.2.1 x.2.2.1⟩
theorem Z7f:GD 65 Z1u:=fnk 1 (fr [[2,3,4,6,25,0,36,45,0,49,57,0,61,82,0,86,89,0,97,141,0,145],[2,3,4,6,37,45,0,49,57,0,61,82,0,86,89,0,97,141,0,145],[6,7],[2,3,4,6,50,57,0,61,82,0,86,89,0,97,141,0,145],[2,3,4,6,57,0,61,82,0,86,89,0,97,141,0,145],[2,3,4,6,8,82,0,86,89,0,97,141,0,145],[2,3,4,6,8,64,82,0,86,89,0,97,141,0,145],[2,3,4,6,8,64,65,82,0,86,89,0,97,141,0,145],[2,3,4,6,10,82,0,86,89,0,97],[2,3,4,6,10,11,82,0,86,89,0,97],[2,3,4,6,10,11,77,82,0,86,89,0,97],[2,3,4,6,10,11,82,0,86,89,0,97],[2,3,4,6,98],[6,7],[2,3,4,6],[2,3,6,12],[3,6,12],[6,7],[3,4,6,8,64,128,141,0,145],[6,7],[3,4,6,8,64,135,141,0,145],[3,6,8,146],[3,6,8],[3,6,152],[3,6],[3,4,6,8,64,155],[3,4,6,14],[3,4,6,166],[6,7],[3,6],[3,4,6,8,64,187],[3,4,6,190],[6,7],[3,4,6,15,16],[3,4,6,15,206],[6,7],[3,4,6],[3,4,6,227],[3,6],[3,4,6,237],[3,6],[6,7]]) (Qjy Qql (Qjy Z0i (Qjy Qsy (Qjy Qxr (Qjy Z07 (Qjy Qyv (Qjy Z21 (Qjy Z1n (Qjy Za0 (Qjy Z4f (Qjy Qy7 (Qjy Z06 Qk3)))))))))))) Tryz.func65
abbrev Qkl:Type:=(Qvr × Unit) × (Z5v × Unit)
noncomputable def Qy1:Ctx:=[(17,Qy2),(25,Qse),(26,Qqc),(38,Z5m),(43,Qxi),(60,Z34),(65,Z1u)]
def Qsi:Fi:=fr [[0,1,2,6,21,0,23,53,0,56],[0,1,2,6,7,21,0,23,53,0,56],[0,1,2,6,7,8,21,0,23,53,0,56],[0,1,2,6,7,8,21,0,24,53,0,56],[0,1,2,6,7,8,21,0,23,53,0,56],[0,1,2,6,7,8,21,0,23,28,53,0,56],[0,1,2,6,7,8,21,0,23,53,0,56],[0,1,2,6,7,8,21,0,23,28,37,53,0,56],[0,1,2,6,7,8,21,0,23,53,0,56],[0,1,2,6,7,8,21,0,23,28,44,53,0,56],[0,1,2,6,0,9,21,0,23,53,0,56],[0,1,2,6,0,9,21,0,23,53,0,57],[0,1,2,6,0,9,21,0,23,53,0,56],[0,1,2,6,7,8,21,0,23,53,0,56],[0,1,2,6,7,8,21,0,23,53,0,56,83],[0,1,2,6,7,8,10,21,0,23,53,0,56],[0,1,2,6,7,8,10,21,0,23,53,0,56,90],[0,1,2,6,7,8,10,21,0,23,53,0,56],[0,1,2,6,7,8,21,0,23,53,0,56],[0,6]]
abbrev Qwy:Type:=Int→Int→Int→List Int→Int→Int→Int→Int→Int→Int→Int→Int→Int→Int→Int→Int→List Int→Qlv→Int→Int→Int→Int→Int→Int→Int→Int→Int→Int→Int→List Int→Qlv→Option Qkl
abbrev Qph:Type:=Int→Int→Int→List Int→Int→Int→Int→Int→Int→Int→Int→Int→Int→Int→Int→Int→List Int→Qlv→Int→Int→Int→Int→Int→Int→List Int→Int→Int→Int→Int→Int→Qlv→Option Qkl
noncomputable def Qkw (v22 v23 v24 v25 v26 v27:Int) (v33:List Int) (v28 v29 v30 v31 v32:Int) (v34:Qlv) (r90:(Qwl × Unit) × (Z5v × Unit)) (L2:Qph) (v4 v5 v6 v9 v10 v11 v12 v13 v14 v15 v16 v17 v18 v19:Int) (v20:List Int) (v21:Qlv):Option Qkl:=
 Option.bind (Qm6 (v22,v23,v24,v25,v26,v27,v33,v28,v29,v30,v31,v32,v34) r90.1.1 1) fun r97=>
 L2 v4 v5 (IntKind.wrap .i64 (v6+1)) r90.2.1.1 r90.2.1.2 v9 v10 v11 v12 v13 v14 v15 v16 v17 v18 v19 v20 v21 r97.1.1.1 r97.1.1.2.1 r97.1.1.2.2.1 (g3 r97.1.1) (g4 r97.1.1) (g5 r97.1.1) (g6 r97.1.1) (g7 r97.1.1) (g8 r97.1.1) (g9 r97.1.1) (g10 r97.1.1) (g11 r97.1.1) (h12 r97.1.1)
noncomputable def Qwq (L2:Qph) (v4 v5 v6:Int) (v7:List Int) (v8 v9 v10 v11 v12 v13 v14 v15 v16 v17 v18 v19:Int) (v20:List Int) (v21:Qlv) (v22 v23 v24 v25 v26 v27 v28 v29 v30 v31 v32:Int) (v33:List Int) (v34:Qlv):Option Qkl:=
 bif decide (v6<v5) then
  Option.bind (Qod (v7,v8)) fun r35=>
  bif !r35.1.1 then
   Option.bind (Qk5 r35.2.1 4) fun r36=>
   bif r36.1.1==0 then
    Option.bind (Qvm (v22,v23,v24,v25,v26,v27,v33,v28,v29,v30,v31,v32,v34)) fun r37=>
    L2 v4 v5 (IntKind.wrap .i64 (v6+1)) r36.2.1.1 r36.2.1.2 v9 v10 v11 v12 v13 v14 v15 v16 v17 v18 v19 v20 v21 r37.1.1.1 r37.1.1.2.1 r37.1.1.2.2.1 (g3 r37.1.1) (g4 r37.1.1) (g5 r37.1.1) (g6 r37.1.1) (g7 r37.1.1) (g8 r37.1.1) (g9 r37.1.1) (g10 r37.1.1) (g11 r37.1.1) (h12 r37.1.1)
   else
   bif r36.1.1==1 then
    Option.bind (Ql4 r36.2.1 v4) fun r90=>
    bif v30 != 0 then
     bif v30 != v4 then
      Option.bind (Qk5 r90.2.1 2) fun r91=>
      Option.bind (Qk5 r91.2.1 9) fun r92=>
      Option.bind (Qk5 r92.2.1 22) fun r93=>
      Option.bind (Qkh r93.2.1) fun r94=>
      bif decide (1≤(r94.1.1.length:Int))&&decide ((r94.1.1.length:Int)≤(r94.1.1.length:Int)) then
       bif Nat.ble (1+(List.drop 1 (List.take ((r94.1.1.length:Int).toNat) r94.1.1)).length) 1073741824 then
        Option.bind (Qk5 r94.2.1 4) fun r95=>
        Option.bind (Qm6 (v22,v23,v24,v25,v26,v27,v33,v28,v29,v30,v31,v32,v34) (2,v30,v4,IntKind.wrap .i64 (1+r91.1.1),r92.1.1,r93.1.1,[1]++(List.drop 1 (List.take ((r94.1.1.length:Int).toNat) r94.1.1)),IntKind.wrap .i64 (1+r95.1.1),0,(⟨#[]⟩:ByteArray)) 1) fun r96=>
        L2 v4 v5 (IntKind.wrap .i64 (v6+1)) r95.2.1.1 r95.2.1.2 v9 v10 v11 v12 v13 v14 v15 v16 v17 v18 v19 v20 v21 r96.1.1.1 r96.1.1.2.1 r96.1.1.2.2.1 (g3 r96.1.1) (g4 r96.1.1) (g5 r96.1.1) (g6 r96.1.1) (g7 r96.1.1) (g8 r96.1.1) (g9 r96.1.1) (g10 r96.1.1) (g11 r96.1.1) (h12 r96.1.1)
       else none
      else none
     else
      Qkw v22 v23 v24 v25 v26 v27 v33 v28 v29 v30 v31 v32 v34 r90 L2 v4 v5 v6 v9 v10 v11 v12 v13 v14 v15 v16 v17 v18 v19 v20 v21
    else
     Qkw v22 v23 v24 v25 v26 v27 v33 v28 v29 v30 v31 v32 v34 r90 L2 v4 v5 v6 v9 v10 v11 v12 v13 v14 v15 v16 v17 v18 v19 v20 v21
   else
   bif r36.1.1==2 then
    Option.bind (Ql4 r36.2.1 v4) fun r99=>
    bif v25 != 0 then
     Option.bind (Qk5 r99.2.1 30) fun r100=>
     Option.bind (Qk5 r100.2.1 20) fun r101=>
     Option.bind (Qkh r101.2.1) fun r102=>
     Option.bind (Qk5 r102.2.1 9) fun r103=>
     Option.bind (Qm6 (v22,v23,v24,v25,v26,v27,v33,v28,v29,v30,v31,v32,v34) (5,v25,v4,v26,r100.1.1,r101.1.1,r102.1.1,0,r103.1.1,(⟨#[]⟩:ByteArray)) 1) fun r104=>
     L2 v4 v5 (IntKind.wrap .i64 (v6+1)) r103.2.1.1 r103.2.1.2 v9 v10 v11 v12 v13 v14 v15 v16 v17 v18 v19 v20 v21 r104.1.1.1 r104.1.1.2.1 r104.1.1.2.2.1 (g3 r104.1.1) (g4 r104.1.1) (g5 r104.1.1) (g6 r104.1.1) (g7 r104.1.1) (g8 r104.1.1) (g9 r104.1.1) (g10 r104.1.1) (g11 r104.1.1) (h12 r104.1.1)
    else
     Qkw v22 v23 v24 v25 v26 v27 v33 v28 v29 v30 v31 v32 v34 r99 L2 v4 v5 v6 v9 v10 v11 v12 v13 v14 v15 v16 v17 v18 v19 v20 v21
   else
    Option.bind (Ql4 r36.2.1 v4) fun r106=>
    Qkw v22 v23 v24 v25 v26 v27 v33 v28 v29 v30 v31 v32 v34 r106 L2 v4 v5 v6 v9 v10 v11 v12 v13 v14 v15 v16 v17 v18 v19 v20 v21
  else
   some (((v22,v23,v24,v25,v26,v27,v33,v28,v29,v30,v31,v32,v34),()),(r35.2.1,()))
 else
  some (((v22,v23,v24,v25,v26,v27,v33,v28,v29,v30,v31,v32,v34),()),((v7,v8),()))
noncomputable def Qlc (L2:Qph) (v38 v39 v40:Int) (v41:List Int) (v42 v43 v44 v45 v46 v47 v48 v49 v50 v51 v52 v53:Int) (v54:List Int) (v55:Qlv) (v56 v57 v58 v59 v60 v61:Int) (v62:List Int) (v63 v64 v65 v66 v67:Int) (v68:Qlv):Option Qkl:=
 bif decide (v40<v39) then
  Option.bind (Qod (v41,v42)) fun r69=>
  bif !r69.1.1 then
   Option.bind (Qk5 r69.2.1 4) fun r70=>
   bif r70.1.1==0 then
    Option.bind (Qvm (v56,v57,v58,v59,v60,v61,v62,v63,v64,v65,v66,v67,v68)) fun r71=>
    L2 v38 v39 (IntKind.wrap .i64 (v40+1)) r70.2.1.1 r70.2.1.2 v43 v44 v45 v46 v47 v48 v49 v50 v51 v52 v53 v54 v55 r71.1.1.1 r71.1.1.2.1 r71.1.1.2.2.1 (g3 r71.1.1) (g4 r71.1.1) (g5 r71.1.1) (g6 r71.1.1) (g7 r71.1.1) (g8 r71.1.1) (g9 r71.1.1) (g10 r71.1.1) (g11 r71.1.1) (h12 r71.1.1)
   else
   bif r70.1.1==1 then
    Option.bind (Ql4 r70.2.1 v38) fun r72=>
    bif v65 != 0 then
     bif v65 != v38 then
      Option.bind (Qk5 r72.2.1 2) fun r73=>
      Option.bind (Qk5 r73.2.1 9) fun r74=>
      Option.bind (Qk5 r74.2.1 22) fun r75=>
      Option.bind (Qkh r75.2.1) fun r76=>
      bif decide (1≤(r76.1.1.length:Int))&&decide ((r76.1.1.length:Int)≤(r76.1.1.length:Int)) then
       bif Nat.ble (1+(List.drop 1 (List.take ((r76.1.1.length:Int).toNat) r76.1.1)).length) 1073741824 then
        Option.bind (Qk5 r76.2.1 4) fun r77=>
        Option.bind (Qm6 (v56,v57,v58,v59,v60,v61,v62,v63,v64,v65,v66,v67,v68) (2,v65,v38,IntKind.wrap .i64 (1+r73.1.1),r74.1.1,r75.1.1,[1]++(List.drop 1 (List.take ((r76.1.1.length:Int).toNat) r76.1.1)),IntKind.wrap .i64 (1+r77.1.1),0,(⟨#[]⟩:ByteArray)) 1) fun r78=>
        L2 v38 v39 (IntKind.wrap .i64 (v40+1)) r77.2.1.1 r77.2.1.2 v43 v44 v45 v46 v47 v48 v49 v50 v51 v52 v53 v54 v55 r78.1.1.1 r78.1.1.2.1 r78.1.1.2.2.1 (g3 r78.1.1) (g4 r78.1.1) (g5 r78.1.1) (g6 r78.1.1) (g7 r78.1.1) (g8 r78.1.1) (g9 r78.1.1) (g10 r78.1.1) (g11 r78.1.1) (h12 r78.1.1)
       else none
      else none
     else
      Qkw v56 v57 v58 v59 v60 v61 v62 v63 v64 v65 v66 v67 v68 r72 L2 v38 v39 v40 v43 v44 v45 v46 v47 v48 v49 v50 v51 v52 v53 v54 v55
    else
     Qkw v56 v57 v58 v59 v60 v61 v62 v63 v64 v65 v66 v67 v68 r72 L2 v38 v39 v40 v43 v44 v45 v46 v47 v48 v49 v50 v51 v52 v53 v54 v55
   else
   bif r70.1.1==2 then
    Option.bind (Ql4 r70.2.1 v38) fun r81=>
    bif v59 != 0 then
     Option.bind (Qk5 r81.2.1 30) fun r82=>
     Option.bind (Qk5 r82.2.1 20) fun r83=>
     Option.bind (Qkh r83.2.1) fun r84=>
     Option.bind (Qk5 r84.2.1 9) fun r85=>
     Option.bind (Qm6 (v56,v57,v58,v59,v60,v61,v62,v63,v64,v65,v66,v67,v68) (5,v59,v38,v60,r82.1.1,r83.1.1,r84.1.1,0,r85.1.1,(⟨#[]⟩:ByteArray)) 1) fun r86=>
     L2 v38 v39 (IntKind.wrap .i64 (v40+1)) r85.2.1.1 r85.2.1.2 v43 v44 v45 v46 v47 v48 v49 v50 v51 v52 v53 v54 v55 r86.1.1.1 r86.1.1.2.1 r86.1.1.2.2.1 (g3 r86.1.1) (g4 r86.1.1) (g5 r86.1.1) (g6 r86.1.1) (g7 r86.1.1) (g8 r86.1.1) (g9 r86.1.1) (g10 r86.1.1) (g11 r86.1.1) (h12 r86.1.1)
    else
     Qkw v56 v57 v58 v59 v60 v61 v62 v63 v64 v65 v66 v67 v68 r81 L2 v38 v39 v40 v43 v44 v45 v46 v47 v48 v49 v50 v51 v52 v53 v54 v55
   else
    Option.bind (Ql4 r70.2.1 v38) fun r88=>
    Qkw v56 v57 v58 v59 v60 v61 v62 v63 v64 v65 v66 v67 v68 r88 L2 v38 v39 v40 v43 v44 v45 v46 v47 v48 v49 v50 v51 v52 v53 v54 v55
  else
   some (((v56,v57,v58,v59,v60,v61,v62,v63,v64,v65,v66,v67,v68),()),(r69.2.1,()))
 else
  some (((v56,v57,v58,v59,v60,v61,v62,v63,v64,v65,v66,v67,v68),()),((v41,v42),()))
noncomputable def Qqe (L1:Qwy) (p_0:Z5v) (id_1 most_2:Int):Option Qkl:=
 Option.bind (Qk5 p_0 5) fun r1=>
 Option.bind (Qk5 r1.2.1 4) fun r2=>
 Option.bind (Qu1 id_1 2 r1.1.1 r2.1.1) fun r3=>
 L1 id_1 most_2 0 r2.2.1.1 r2.2.1.2 0 0 0 0 0 0 0 0 0 0 0 [] [] r3.1.1.1 r3.1.1.2.1 r3.1.1.2.2.1 (g3 r3.1.1) (g4 r3.1.1) (g5 r3.1.1) (g7 r3.1.1) (g8 r3.1.1) (g9 r3.1.1) (g10 r3.1.1) (g11 r3.1.1) (g6 r3.1.1) (h12 r3.1.1)
noncomputable def Qn7 (n:Nat):Nat→Qph:=iter (fun _ _ _ _ _ _ _ _ _ _ _ _ _ _ _ _ _ _ _ _ _ _ _ _ _ _ _ _ _ _ _=>none) fun L=>Qlc L
noncomputable def Qsb (n:Nat):Nat→Qwy:=Qjg (fun _ _ _ _ _ _ _ _ _ _ _ _ _ _ _ _ _ _ _ _ _ _ _ _ _ _ _ _ _ _ _=>none) fun m L=>Qwq (Qn7 n m)
noncomputable def Qso (n m:Nat) (v4 v5 v6:Int) (v7:List Int) (v8 v9 v10 v11 v12 v13 v14 v15 v16 v17 v18 v19:Int) (v20:List Int) (v21:Qlv) (v22 v23 v24 v25 v26 v27 v28 v29 v30 v31 v32:Int) (v33:List Int) (v34:Qlv):Option Qkl:=
 Qjv Qy1 tab (fiB [.box 75 t74 [false,false],.val t2,.val t2] Qsi) n [.box 75 t74 [false,false],.val t2,.val t2] [⟨t30,(nF 13),none⟩] Tryz.f41 [1,1,0,1,0] [] [0,1,2,6,7,8] m
 ⟨[(0,V1 (.ptr (0,0) 0)),(1,Vp t2 v4),(2,Vp t2 v5),(6,V1 (.ptr (6,0) 0)),(7,V1 (.ptr (7,0) 0)),(8,Vp t2 v6)],[((0,0),Ob.box 75 [LV.pure t25 v7,LV.pure t2 v8]),((6,0),Ob.box 31 [LV.pure t2 v9,LV.pure t2 v10,LV.pure t2 v11,LV.pure t2 v12,LV.pure t2 v13,LV.pure t2 v14,LV.ref (6,7),LV.pure t2 v15,LV.pure t2 v16,LV.pure t2 v17,LV.pure t2 v18,LV.pure t2 v19,LV.ref (6,13)]),((6,7),Ob.row 3 t2 v20),((6,13),Ob.row 53 t52 v21),((7,0),Ob.box 31 [LV.pure t2 v22,LV.pure t2 v23,LV.pure t2 v24,LV.pure t2 v25,LV.pure t2 v26,LV.pure t2 v27,LV.ref (7,7),LV.pure t2 v28,LV.pure t2 v29,LV.pure t2 v30,LV.pure t2 v31,LV.pure t2 v32,LV.ref (7,13)]),((7,7),Ob.row 3 t2 v33),((7,13),Ob.row 53 t52 v34)]⟩
noncomputable def Qpe (n m:Nat) (v38 v39 v40:Int) (v41:List Int) (v42 v43 v44 v45 v46 v47 v48 v49 v50 v51 v52 v53:Int) (v54:List Int) (v55:Qlv) (v56 v57 v58 v59 v60 v61:Int) (v62:List Int) (v63 v64 v65 v66 v67:Int) (v68:Qlv):Option Qkl:=
 Qjv Qy1 tab (fiB [.box 75 t74 [false,false],.val t2,.val t2] Qsi) n [.box 75 t74 [false,false],.val t2,.val t2] [⟨t30,(nF 13),none⟩] Tryz.f41 [1,1,0,1,0] [] [0,1,2,6,7,8] m
 ⟨[(0,V1 (.ptr (0,0) 0)),(1,Vp t2 v38),(2,Vp t2 v39),(6,V1 (.ptr (6,0) 0)),(7,V1 (.ptr (7,0) 0)),(8,Vp t2 v40)],[((0,0),Ob.box 75 [LV.pure t25 v41,LV.pure t2 v42]),((6,0),Ob.box 31 [LV.pure t2 v43,LV.pure t2 v44,LV.pure t2 v45,LV.pure t2 v46,LV.pure t2 v47,LV.pure t2 v48,LV.ref (6,7),LV.pure t2 v49,LV.pure t2 v50,LV.pure t2 v51,LV.pure t2 v52,LV.pure t2 v53,LV.ref (6,13)]),((6,7),Ob.row 3 t2 v54),((6,13),Ob.row 53 t52 v55),((7,0),Ob.box 31 [LV.pure t2 v56,LV.pure t2 v57,LV.pure t2 v58,LV.pure t2 v59,LV.pure t2 v60,LV.pure t2 v61,LV.pure t28 v62,LV.pure t2 v63,LV.pure t2 v64,LV.pure t2 v65,LV.pure t2 v66,LV.pure t2 v67,LV.pure t29 v68])]⟩
theorem Qwc (n:Nat):∀ m,Qpe n m=Qn7 n m
 | 0=>rfl
 | m+1=>by rw [show Qpe n (m+1)=Qlc (Qpe n m) from by kernel_rfl,Qwc n m];rfl
theorem Z57 (n:Nat):∀ m,Qso n m=Qsb n m
 | 0=>rfl
 | m+1=>by rw [show Qso n (m+1)=Qwq (Qpe n m) from by kernel_rfl,Qwc n m];rfl
noncomputable def Qy5 (n:Nat) (p_0:Z5v) (id_1 most_2:Int):Option Qkl:=Qqe (Qsb n n) p_0 id_1 most_2
noncomputable def Qv0 (p_0:Z5v) (id_1 most_2:Int):Option Qkl:=Qy5 1099511627776 p_0 id_1 most_2
noncomputable def Z76:Ent:=⟨[.box 75 t74 [false,false],.val t2,.val t2],[⟨t30,(nF 13),none⟩],fun x=>Qv0 x.1 x.2.1 x.2.2.1⟩
theorem Z4g:GD 41 Z76:=fnl Qsi (fun n x=>Qy5 n x.1 x.2.1 x.2.2.1) (Qjy Z45 (Qjy Quo (Qjy Qlh (Qjy Z0m (Qjy Qum (Qjy Z8e (Qjy Z7f Qk3))))))) Tryz.func41 fun n x=>Eq.trans (b:=Qqe (Qso n n) x.1 x.2.1 x.2.2.1) (by kernel_rfl) (by rw [Z57 n n];rfl)
noncomputable def Qnt (f_0:Qxo) (top_1:Int):Option ((Qxo × Unit) × Unit):=
 bif decide (f_0.1>0) then
  bif decide (top_1≤1000000) then
   some (((u1 f_0 (if top_1>f_0.2.1 then top_1 else f_0.2.1)),()),())
  else
   some ((f_0,()),())
 else
  some ((f_0,()),())
noncomputable def Z1d:Ent:=⟨[.val t36,.val t2],[⟨t36,(nF 7),none⟩],fun x=>Qnt x.1 x.2.1⟩
theorem Qqa:GD 66 Z1d:=fnk 1 (fo [[1,2,4,9,10],[1,2,4,11],[2,4],[4]]) Qk3 Tryz.func66
noncomputable def Qu8 (f_0:Qxo) (next_1:Int):Option ((Qxo × Unit) × Unit):=
 bif decide (f_0.1>0) then
  Option.bind (Qnt f_0 (IntKind.wrap .i64 (next_1 - 1))) fun r1=>
  some ((r1.1.1,()),())
 else
 bif decide (next_1 ≥ 1) then
  bif decide (next_1≤1000000) then
   some (((next_1,f_0.2),()),())
  else
   some ((f_0,()),())
 else
  some ((f_0,()),())
noncomputable def Z2g:Ent:=⟨[.val t36,.val t2],[⟨t36,(nF 7),none⟩],fun x=>Qu8 x.1 x.2.1⟩
theorem Z7c:GD 67 Z2g:=fnk 1 (fo [[1,2,4,15,16],[1,2,4,7,15,16],[4],[1,2,4,17],[2,4],[4]]) (Qjy Qqa Qk3) Tryz.func67
noncomputable def Qla (s_0:Int × Int):Option ((Bool × Unit) × Unit):=
 bif decide (s_0.1 ≥ 1) then
  bif decide (s_0.1≤s_0.2) then
   some ((decide (s_0.2≤1000000),()),())
  else
   some ((false,()),())
 else
  some ((false,()),())
noncomputable def Z9p:Ent:=⟨[.val t34],[⟨t4,[false],none⟩],fun x=>Qla x.1⟩
theorem Qx4:GD 107 Z9p:=fnk 1 (fr [[1,7,0,11,14,0,16],[2]]) Qk3 Tryz.func107
noncomputable def Qn3 (l_0:Qkj):Option ((Int × Unit) × Unit):=
 bif (l_0.length:Int)==0 then
  some ((0,()),())
 else
 bif decide (0<(l_0.length:Int)) then
  some (((List.getD l_0 0 (0,(⟨#[]⟩:ByteArray))).1,()),())
 else none
noncomputable def Z1i:Ent:=⟨[.val t32],[⟨t2,[false],none⟩],fun x=>Qn3 x.1⟩
theorem Qya:GD 168 Z1i:=fnk 1 (fo [[0],[0,5],[2],[2]]) Qk3 Tryz.func168
noncomputable def Qp4 (l_0:Qnj) (lo_1 hi_2 why_3:Int):Option ((Qnj × Unit) × Unit):=
 bif Nat.ble (0+l_0.length) 1073741824 then
  bif Nat.ble (([]++l_0).length+1) 1073741824 then
   some ((([]++l_0)++[(2,lo_1,hi_2,(⟨#[]⟩:ByteArray),why_3)],()),())
  else none
 else none
noncomputable def Z39:Ent:=⟨[.val t33,.val t2,.val t2,.val t2],[⟨t33,[true],none⟩],fun x=>Qp4 x.1 x.2.1 x.2.2.1 x.2.2.2.1⟩
theorem Z8x:GD 169 Z39:=fnk 1 (fo [[0,1,2,3],[8]]) Qk3 Tryz.func169
noncomputable def Qnx (l_0:Qkj) (next_1:Int):Option ((Qkj × Qzl × Bool × Unit) × Unit):=
 bif (l_0.length:Int)==0 then
  some ((l_0,(0,(⟨#[]⟩:ByteArray)),false,()),())
 else
 bif decide (0<(l_0.length:Int)) then
  bif ((List.getD l_0 0 (0,(⟨#[]⟩:ByteArray))).1) != next_1 then
   some ((l_0,(0,(⟨#[]⟩:ByteArray)),false,()),())
  else
  bif decide (1≤(l_0.length:Int))&&decide ((l_0.length:Int)≤(l_0.length:Int)) then
   bif Nat.ble (0+(List.drop 1 (List.take ((l_0.length:Int).toNat) l_0)).length) 1073741824 then
    bif decide (0<(l_0.length:Int)) then
     some (([]++(List.drop 1 (List.take ((l_0.length:Int).toNat) l_0)),(List.getD l_0 0 (0,(⟨#[]⟩:ByteArray))),true,()),())
    else none
   else none
  else none
 else none
noncomputable def Qz0:Ent:=⟨[.val t32,.val t2],[⟨t32,[false],none⟩,⟨t58,[false,false],none⟩,⟨t4,[false],none⟩],fun x=>Qnx x.1 x.2.1⟩
theorem Z4t:GD 170 Qz0:=fnk 1 (fr [[0,1,5,11,0,16],[0,5,17],[4,5,6],[4,5,6]]) Qk3 Tryz.func170
noncomputable def Qsz (l_0:Qnj) (seq_1:Int) (text_2:ByteArray):Option ((Qnj × Unit) × Unit):=
 bif Nat.ble (0+l_0.length) 1073741824 then
  bif Nat.ble (([]++l_0).length+1) 1073741824 then
   some ((([]++l_0)++[(1,seq_1,seq_1,text_2,0)],()),())
  else none
 else none
noncomputable def Z2z:Ent:=⟨[.val t33,.val t2,.val t9],[⟨t33,[true],none⟩],fun x=>Qsz x.1 x.2.1 x.2.2.1⟩
theorem Z8r:GD 132 Z2z:=fnk 1 (fo [[0,1,2],[6]]) Qk3 Tryz.func132
noncomputable def Qqg (l_0:Qkj) (i_1:Qzl):Option ((Qkj × Unit) × Unit):=
 bif Nat.ble (([]++l_0).length+1) 1073741824 then
  bif decide (((([]++l_0)++[i_1]).length:Int)>6) then
   bif decide (1≤((([]++l_0)++[i_1]).length:Int))&&decide (((([]++l_0)++[i_1]).length:Int)≤((([]++l_0)++[i_1]).length:Int)) then
    some ((List.drop 1 (List.take (((([]++l_0)++[i_1]).length:Int).toNat) (([]++l_0)++[i_1])),()),())
   else none
  else
   some ((([]++l_0)++[i_1],()),())
 else none
noncomputable def Qq2 (l_0:Qkj) (i_1:Qzl):Option ((Qkj × Unit) × Unit):=
 bif Nat.ble (0+l_0.length) 1073741824 then
  bif decide ((l_0.length:Int)>0) then
   bif decide (0≤IntKind.wrap .i64 ((l_0.length:Int) - 1))&&decide (IntKind.wrap .i64 ((l_0.length:Int) - 1)<(l_0.length:Int)) then
    bif decide ((List.getD l_0 ((IntKind.wrap .i64 ((l_0.length:Int) - 1)).toNat) (0,(⟨#[]⟩:ByteArray))).1 ≥ i_1.1) then
     some (([]++l_0,()),())
    else
     Qqg l_0 i_1
   else none
  else
   Qqg l_0 i_1
 else none
noncomputable def Qzd:Ent:=⟨[.val t32,.val t58],[⟨t32,[false],none⟩],fun x=>Qq2 x.1 x.2.1⟩
theorem Z4l:GD 133 Qzd:=fnk 1 (fr [[0,3,13,0,22],[0,3,5,13,0,22],[3,5,23],[4],[5],[5,31],[5],[4]]) Qk3 Tryz.func133
abbrev Qlp:Type:=(Qxo × Qkj × Unit) × Unit
noncomputable def Z3r:Ctx:=[(132,Z2z),(133,Qzd),(170,Qz0)]
def Qvw:Fi:={ keep:=[],vty:=[(4,32)],vals:=[],live:=[(0,[1,2]),(1,[1,2,4]),(2,[1,2,4,5,6,7]),(3,[1,2,4,5,6,18]),(4,[2,3]),(5,[1,2,4,6]),(6,[1,2,4,6]),(7,[1,2,4])] }
abbrev Z2h:Type:=Int→Int→Qkj→Qkj→Qnj→Int→Int→Int→Int→Int→Int→Qkj→Qkj→Qnj→Qkj→Option Qlp
abbrev Qvs:Type:=Int→Int→Qkj→Qkj→Int→Int→Qnj→Int→Int→Int→Int→Qkj→Qkj→Qnj→Qkj→Option Qlp
noncomputable def Z2j (L2:Qvs) (v1 v2:Int) (v3 v4:Qkj) (v5:Qnj) (v6 v7 v8 v9 v10 v11:Int) (v12 v13:Qkj) (v14:Qnj) (v15:Qkj):Option Qlp:=
 Option.bind (Qnx v4 v1) fun r16=>
 bif !r16.1.2.2.1 then
  some (((v1,v2,v3,v4,v5,v6,v7),v15,()),())
 else
  Option.bind (Qsz v5 r16.1.2.1.1 r16.1.2.1.2) fun r17=>
  Option.bind (Qq2 v3 r16.1.2.1) fun r18=>
  bif Nat.ble (v15.length+1) 1073741824 then
   L2 (IntKind.wrap .i64 (v1+1)) v2 r18.1.1 r16.1.1 0 0 r17.1.1 v8 v9 v10 v11 v12 v13 v14 (v15++[r16.1.2.1])
  else none
noncomputable def Qpz (L2:Qvs) (v19 v20:Int) (v21 v22:Qkj) (v23 v24:Int) (v25:Qnj) (v26 v27 v28 v29:Int) (v30 v31:Qkj) (v32:Qnj) (v33:Qkj):Option Qlp:=
 Option.bind (Qnx v22 v19) fun r34=>
 bif !r34.1.2.2.1 then
  some (((v19,v20,v21,v22,v25,v23,v24),v33,()),())
 else
  Option.bind (Qsz v25 r34.1.2.1.1 r34.1.2.1.2) fun r35=>
  Option.bind (Qq2 v21 r34.1.2.1) fun r36=>
  bif Nat.ble (v33.length+1) 1073741824 then
   L2 (IntKind.wrap .i64 (v19+1)) v20 r36.1.1 r34.1.1 0 0 r35.1.1 v26 v27 v28 v29 v30 v31 v32 (v33++[r34.1.2.1])
  else none
noncomputable def Z41 (L1:Z2h) (f_0:Qxo):Option Qlp:=
 L1 f_0.1 f_0.2.1 f_0.2.2.1 (g3 f_0) (g4 f_0) (g5 f_0) (h6 f_0) 0 0 0 0 [] [] [] []
noncomputable def Qmv (n:Nat):Nat→Qvs:=iter (fun _ _ _ _ _ _ _ _ _ _ _ _ _ _ _=>none) fun L=>Qpz L
noncomputable def Qsn (n:Nat):Nat→Z2h:=Qjg (fun _ _ _ _ _ _ _ _ _ _ _ _ _ _ _=>none) fun m L=>Z2j (Qmv n m)
noncomputable def Qvz (n m:Nat) (v1 v2:Int) (v3 v4:Qkj) (v5:Qnj) (v6 v7 v8 v9 v10 v11:Int) (v12 v13:Qkj) (v14:Qnj) (v15:Qkj):Option Qlp:=
 Qjv Z3r tab (fiB [.val t36] Qvw) n [.val t36] [⟨t36,(nF 7),none⟩,⟨t32,[true],none⟩] Tryz.f130 [1,1,0] [] [1,2,4] m
 ⟨[(1,V1 (.ptr (1,0) 0)),(2,V1 (.ptr (2,0) 0)),(4,V1 (.ref (888888,4)))],[((1,0),Ob.box 37 [LV.pure t2 v1,LV.pure t2 v2,LV.pure t32 v3,LV.pure t32 v4,LV.pure t33 v5,LV.pure t2 v6,LV.pure t2 v7]),((2,0),Ob.box 37 [LV.pure t2 v8,LV.pure t2 v9,LV.ref (2,3),LV.ref (2,4),LV.ref (2,5),LV.pure t2 v10,LV.pure t2 v11]),((2,3),Ob.row 59 t58 v12),((2,4),Ob.row 59 t58 v13),((2,5),Ob.row 55 t54 v14),((888888,4),Ob.row 59 t58 v15)]⟩
noncomputable def Qsq (n m:Nat) (v19 v20:Int) (v21 v22:Qkj) (v23 v24:Int) (v25:Qnj) (v26 v27 v28 v29:Int) (v30 v31:Qkj) (v32:Qnj) (v33:Qkj):Option Qlp:=
 Qjv Z3r tab (fiB [.val t36] Qvw) n [.val t36] [⟨t36,(nF 7),none⟩,⟨t32,[true],none⟩] Tryz.f130 [1,1,0] [] [1,2,4] m
 ⟨[(1,V1 (.ptr (1,0) 0)),(2,V1 (.ptr (2,0) 0)),(4,V1 (.ref (888888,4)))],[((1,0),Ob.box 37 [LV.pure t2 v19,LV.pure t2 v20,LV.pure t32 v21,LV.pure t32 v22,LV.ref (1,5),LV.pure t2 v23,LV.pure t2 v24]),((1,5),Ob.row 55 t54 v25),((2,0),Ob.box 37 [LV.pure t2 v26,LV.pure t2 v27,LV.ref (2,3),LV.ref (2,4),LV.ref (2,5),LV.pure t2 v28,LV.pure t2 v29]),((2,3),Ob.row 59 t58 v30),((2,4),Ob.row 59 t58 v31),((2,5),Ob.row 55 t54 v32),((888888,4),Ob.row 59 t58 v33)]⟩
theorem Z0o (n:Nat):∀ m,Qsq n m=Qmv n m
 | 0=>rfl
 | m+1=>by rw [show Qsq n (m+1)=Qpz (Qsq n m) from by kernel_rfl,Z0o n m];rfl
theorem Z9m (n:Nat):∀ m,Qvz n m=Qsn n m
 | 0=>rfl
 | m+1=>by rw [show Qvz n (m+1)=Z2j (Qsq n m) from by kernel_rfl,Z0o n m];rfl
noncomputable def Z3n (n:Nat) (f_0:Qxo):Option Qlp:=Z41 (Qsn n n) f_0
noncomputable def Qlg (f_0:Qxo):Option Qlp:=Z3n 1099511627776 f_0
noncomputable def Z44:Ent:=⟨[.val t36],[⟨t36,(nF 7),none⟩,⟨t32,[true],none⟩],fun x=>Qlg x.1⟩
theorem Qqu:GD 130 Z44:=fnl Qvw (fun n x=>Z3n n x.1) (Qjy Z8r (Qjy Z4l (Qjy Z4t Qk3))) Tryz.func130 fun n x=>Eq.trans (b:=Z41 (Qvz n n) x.1) (by kernel_rfl) (by rw [Z9m n n];rfl)
abbrev Qkr:Type:=(Qxo × Qrf × Unit) × Unit
noncomputable def Z1k:Ctx:=[(130,Z44),(168,Z1i),(169,Z39)]
def Qv1:Fi:={ keep:=[],vty:=[(8,146)],vals:=[(3,5)],live:=[(0,[1,2,3,6,14,15,30,31,32,33,34]),(1,[1,2,3,6,8,14,15,30,31,32,33,34]),(2,[1,2,3,6,8,16,30,31,32,33,34]),(3,[6,7]),(4,[1,2,3,6,8,21,30,31,32,33,34]),(5,[1,2,3,6,8,30,31,32,33,34]),(6,[1,2,3,6,8,9,30,31,32,33,34]),(7,[1,2,3,6,8,9,30,31,32,33,34,35]),(8,[1,2,3,6,8,9,30,31,32,33,34]),(9,[1,2,3,6,8,9,30,31,32,33,34,43]),(10,[1,2,3,6,8,9,30,31,32,33,34]),(11,[1,2,3,6,8,9,30,31,32,33,34]),(12,[1,2,3,6,8,30,31,32,33,34]),(13,[1,2,3,6,8,30,31,32,33,34,65]),(14,[1,2,3,6,8,30,31,32,33,34]),(15,[6,7])] }
abbrev Z0g:Type:=Int→Int→Bool→Int→Int→Qkj→Qkj→Qnj→Int→Int→Int→Int→Int→Int→Qkj→Qkj→Qnj→Qrf→Option Qkr
abbrev Qp8:Type:=Int→Int→Int→Int→Qkj→Qkj→Qnj→Int→Int→Int→Int→Int→Int→Qkj→Qkj→Qnj→Qrf→Option Qkr
noncomputable def Qrk (v4 v1 v5:Int) (v6 v7:Qkj) (v8:Qnj) (L2:Qp8) (v2 v11 v12 v13 v14:Int) (v15 v16:Qkj) (v17:Qnj) (v18:Qrf):Option Qkr:=
 bif decide (v4≤v1) then
  Option.bind (Qlg (v4,v5,v6,v7,v8,0,0)) fun r51=>
  L2 v1 v2 r51.1.1.1 r51.1.1.2.1 r51.1.1.2.2.1 (g3 r51.1.1) (g4 r51.1.1) (g5 r51.1.1) (h6 r51.1.1) v11 v12 v13 v14 v15 v16 v17 v18
 else
  L2 v1 v2 v4 v5 v6 v7 v8 0 0 v11 v12 v13 v14 v15 v16 v17 v18
noncomputable def Qn9 (v1 v4:Int) (v8:Qnj) (v2:Int) (v18:Qrf) (v5:Int) (v6 v7:Qkj) (L2:Qp8) (v11 v12 v13 v14:Int) (v15 v16:Qkj) (v17:Qnj):Option Qkr:=
 bif decide (v1 ≥ v4) then
  Option.bind (Qp4 v8 v4 v1 v2) fun r52=>
  bif Nat.ble (v18.length+1) 1073741824 then
   bif decide (IntKind.wrap .i64 (v1+1)≤v1) then
    Option.bind (Qlg (IntKind.wrap .i64 (v1+1),v5,v6,v7,r52.1.1,0,0)) fun r53=>
    L2 v1 v2 r53.1.1.1 r53.1.1.2.1 r53.1.1.2.2.1 (g3 r53.1.1) (g4 r53.1.1) (g5 r53.1.1) (h6 r53.1.1) v11 v12 v13 v14 v15 v16 v17 (v18++[(v4,v1)])
   else
    L2 v1 v2 (IntKind.wrap .i64 (v1+1)) v5 v6 v7 r52.1.1 0 0 v11 v12 v13 v14 v15 v16 v17 (v18++[(v4,v1)])
  else none
 else
  Qrk v4 v1 v5 v6 v7 v8 L2 v2 v11 v12 v13 v14 v15 v16 v17 v18
noncomputable def Z0h (L2:Qp8) (v1 v2:Int) (v3:Bool) (v4 v5:Int) (v6 v7:Qkj) (v8:Qnj) (v9 v10 v11 v12 v13 v14:Int) (v15 v16:Qkj) (v17:Qnj) (v18:Qrf):Option Qkr:=
 bif decide (v4≤v1) then
  bif decide ((v7.length:Int)>0) then
   Option.bind (Qn3 v7) fun r19=>
   bif decide (r19.1.1≤v1) then
    Option.bind (Qn3 v7) fun r20=>
    bif decide (IntKind.wrap .i64 (r20.1.1 - 1) ≥ v4) then
     Option.bind (Qp4 v8 v4 (IntKind.wrap .i64 (r20.1.1 - 1)) v2) fun r21=>
     bif Nat.ble (v18.length+1) 1073741824 then
      bif decide (IntKind.wrap .i64 ((IntKind.wrap .i64 (r20.1.1 - 1))+1)≤v1) then
       Option.bind (Qlg (IntKind.wrap .i64 ((IntKind.wrap .i64 (r20.1.1 - 1))+1),v5,v6,v7,r21.1.1,0,0)) fun r22=>
       L2 v1 v2 r22.1.1.1 r22.1.1.2.1 r22.1.1.2.2.1 (g3 r22.1.1) (g4 r22.1.1) (g5 r22.1.1) (h6 r22.1.1) v11 v12 v13 v14 v15 v16 v17 (v18++[(v4,IntKind.wrap .i64 (r20.1.1 - 1))])
      else
       L2 v1 v2 (IntKind.wrap .i64 ((IntKind.wrap .i64 (r20.1.1 - 1))+1)) v5 v6 v7 r21.1.1 0 0 v11 v12 v13 v14 v15 v16 v17 (v18++[(v4,IntKind.wrap .i64 (r20.1.1 - 1))])
     else none
    else
     Qrk v4 v1 v5 v6 v7 v8 L2 v2 v11 v12 v13 v14 v15 v16 v17 v18
   else
    Qn9 v1 v4 v8 v2 v18 v5 v6 v7 L2 v11 v12 v13 v14 v15 v16 v17
  else
   Qn9 v1 v4 v8 v2 v18 v5 v6 v7 L2 v11 v12 v13 v14 v15 v16 v17
 else
  some (((v4,v5,v6,v7,v8,v9,v10),v18,()),())
noncomputable def Qne (L2:Qp8) (v23 v24 v25 v26:Int) (v27 v28:Qkj) (v29:Qnj) (v30 v31 v32 v33 v34 v35:Int) (v36 v37:Qkj) (v38:Qnj) (v39:Qrf):Option Qkr:=
 bif decide (v25≤v23) then
  bif decide ((v28.length:Int)>0) then
   Option.bind (Qn3 v28) fun r40=>
   bif decide (r40.1.1≤v23) then
    Option.bind (Qn3 v28) fun r41=>
    bif decide (IntKind.wrap .i64 (r41.1.1 - 1) ≥ v25) then
     Option.bind (Qp4 v29 v25 (IntKind.wrap .i64 (r41.1.1 - 1)) v24) fun r42=>
     bif Nat.ble (v39.length+1) 1073741824 then
      bif decide (IntKind.wrap .i64 ((IntKind.wrap .i64 (r41.1.1 - 1))+1)≤v23) then
       Option.bind (Qlg (IntKind.wrap .i64 ((IntKind.wrap .i64 (r41.1.1 - 1))+1),v26,v27,v28,r42.1.1,0,0)) fun r43=>
       L2 v23 v24 r43.1.1.1 r43.1.1.2.1 r43.1.1.2.2.1 (g3 r43.1.1) (g4 r43.1.1) (g5 r43.1.1) (h6 r43.1.1) v32 v33 v34 v35 v36 v37 v38 (v39++[(v25,IntKind.wrap .i64 (r41.1.1 - 1))])
      else
       L2 v23 v24 (IntKind.wrap .i64 ((IntKind.wrap .i64 (r41.1.1 - 1))+1)) v26 v27 v28 r42.1.1 0 0 v32 v33 v34 v35 v36 v37 v38 (v39++[(v25,IntKind.wrap .i64 (r41.1.1 - 1))])
     else none
    else
     Qrk v25 v23 v26 v27 v28 v29 L2 v24 v32 v33 v34 v35 v36 v37 v38 v39
   else
    Qn9 v23 v25 v29 v24 v39 v26 v27 v28 L2 v32 v33 v34 v35 v36 v37 v38
  else
   Qn9 v23 v25 v29 v24 v39 v26 v27 v28 L2 v32 v33 v34 v35 v36 v37 v38
 else
  some (((v25,v26,v27,v28,v29,v30,v31),v39,()),())
noncomputable def Qsv (L1:Z0g) (f_0:Qxo) (hi_1 why_2:Int):Option Qkr:=
 bif decide (f_0.1<1) then
  some ((f_0,[],()),())
 else
 bif decide (hi_1>1000000) then
  some ((f_0,[],()),())
 else
  L1 hi_1 why_2 (decide (hi_1>1000000)) f_0.1 f_0.2.1 f_0.2.2.1 (g3 f_0) (g4 f_0) (g5 f_0) (h6 f_0) 0 0 0 0 [] [] [] []
noncomputable def Qnd (n:Nat):Nat→Qp8:=iter (fun _ _ _ _ _ _ _ _ _ _ _ _ _ _ _ _ _=>none) fun L=>Qne L
noncomputable def Qp6 (n:Nat):Nat→Z0g:=Qjg (fun _ _ _ _ _ _ _ _ _ _ _ _ _ _ _ _ _ _=>none) fun m L=>Z0h (Qnd n m)
noncomputable def Qv2 (n m:Nat) (v1 v2:Int) (v3:Bool) (v4 v5:Int) (v6 v7:Qkj) (v8:Qnj) (v9 v10 v11 v12 v13 v14:Int) (v15 v16:Qkj) (v17:Qnj) (v18:Qrf):Option Qkr:=
 Qjv Z1k tab (fiB [.val t36,.val t2,.val t2] Qv1) n [.val t36,.val t2,.val t2] [⟨t36,(nF 7),none⟩,⟨Zqs,[true],none⟩] Tryz.f129 [1,1,1,0,0] [] [1,2,3,6,8,16] m
 ⟨[(1,Vp t2 v1),(2,Vp t2 v2),(3,V1 (.ptr (3,0) 0)),(6,V1 (.ptr (6,0) 0)),(8,V1 (.ref (888888,8))),(16,Vp t4 v3)],[((3,0),Ob.box 37 [LV.pure t2 v4,LV.pure t2 v5,LV.pure t32 v6,LV.pure t32 v7,LV.pure t33 v8,LV.pure t2 v9,LV.pure t2 v10]),((6,0),Ob.box 37 [LV.pure t2 v11,LV.pure t2 v12,LV.ref (6,3),LV.ref (6,4),LV.ref (6,5),LV.pure t2 v13,LV.pure t2 v14]),((6,3),Ob.row 59 t58 v15),((6,4),Ob.row 59 t58 v16),((6,5),Ob.row 55 t54 v17),((888888,8),Ob.row 100 t34 v18)]⟩
noncomputable def Qro (n m:Nat) (v23 v24 v25 v26:Int) (v27 v28:Qkj) (v29:Qnj) (v30 v31 v32 v33 v34 v35:Int) (v36 v37:Qkj) (v38:Qnj) (v39:Qrf):Option Qkr:=
 Qjv Z1k tab (fiB [.val t36,.val t2,.val t2] Qv1) n [.val t36,.val t2,.val t2] [⟨t36,(nF 7),none⟩,⟨Zqs,[true],none⟩] Tryz.f129 [1,1,1,0,0] [] [1,2,3,6,8,16] m
 ⟨[(1,Vp t2 v23),(2,Vp t2 v24),(3,V1 (.ptr (3,0) 0)),(6,V1 (.ptr (6,0) 0)),(8,V1 (.ref (888888,8)))],[((3,0),Ob.box 37 [LV.pure t2 v25,LV.pure t2 v26,LV.pure t32 v27,LV.pure t32 v28,LV.pure t33 v29,LV.pure t2 v30,LV.pure t2 v31]),((6,0),Ob.box 37 [LV.pure t2 v32,LV.pure t2 v33,LV.ref (6,3),LV.ref (6,4),LV.ref (6,5),LV.pure t2 v34,LV.pure t2 v35]),((6,3),Ob.row 59 t58 v36),((6,4),Ob.row 59 t58 v37),((6,5),Ob.row 55 t54 v38),((888888,8),Ob.row 100 t34 v39)]⟩
theorem Qz2 (n:Nat):∀ m,Qro n m=Qnd n m
 | 0=>rfl
 | m+1=>by rw [show Qro n (m+1)=Qne (Qro n m) from by kernel_rfl,Qz2 n m];rfl
theorem Z8w (n:Nat):∀ m,Qv2 n m=Qp6 n m
 | 0=>rfl
 | m+1=>by rw [show Qv2 n (m+1)=Z0h (Qro n m) from by kernel_rfl,Qz2 n m];rfl
noncomputable def Z2i (n:Nat) (f_0:Qxo) (hi_1 why_2:Int):Option Qkr:=Qsv (Qp6 n n) f_0 hi_1 why_2
noncomputable def Quc (f_0:Qxo) (hi_1 why_2:Int):Option Qkr:=Z2i 1099511627776 f_0 hi_1 why_2
noncomputable def Zb4:Ent:=⟨[.val t36,.val t2,.val t2],[⟨t36,(nF 7),none⟩,⟨Zqs,[true],none⟩],fun x=>Quc x.1 x.2.1 x.2.2.1⟩
theorem Qxy:GD 129 Zb4:=fnl Qv1 (fun n x=>Z2i n x.1 x.2.1 x.2.2.1) (Qjy Qqu (Qjy Qya (Qjy Z8x Qk3))) Tryz.func129 fun n x=>Eq.trans (b:=Qsv (Qv2 n n) x.1 x.2.1 x.2.2.1) (by kernel_rfl) (by rw [Z8w n n];rfl)
noncomputable def Qud (f_0:Qxo) (lo_1 hi_2:Int):Option ((Qxo × Unit) × Unit):=
 bif f_0.1==0 then
  some ((f_0,()),())
 else
  Option.bind (Qla (lo_1,hi_2)) fun r1=>
  bif !r1.1.1 then
   some ((f_0,()),())
  else
   Option.bind (Qnt f_0 hi_2) fun r2=>
   bif decide (r2.1.1.1<lo_1) then
    some ((r2.1.1,()),())
   else
   bif decide (r2.1.1.1>hi_2) then
    some ((r2.1.1,()),())
   else
    Option.bind (Quc r2.1.1 hi_2 1) fun r3=>
    Option.bind (Qlg r3.1.1) fun r4=>
    some ((r4.1.1,()),())
noncomputable def Z1f:Ent:=⟨[.val t36,.val t2,.val t2],[⟨t36,(nF 7),none⟩],fun x=>Qud x.1 x.2.1 x.2.2.1⟩
theorem Z71:GD 69 Z1f:=fnk 1 (fr [[1,2,3,6,11,0,15,26,0,29],[1,2,3,6,16,26,0,29],[6],[1,2,3,6,26,0,29],[2,3,6,30],[6],[3,6],[3,6],[6]]) (Qjy Qqa (Qjy Qx4 (Qjy Qxy (Qjy Qqu Qk3)))) Tryz.func69
noncomputable def Qu6 (f_0:Qxo):Option (((Int × Int) × Bool × Unit) × Unit):=
 bif decide (((g3 f_0).length:Int)>0) then
  Option.bind (Qn3 (g3 f_0)) fun r1=>
  bif f_0.1==0 then
   some (((0,0),false,()),())
  else
  bif decide (IntKind.wrap .i64 (r1.1.1 - 1)<f_0.1) then
   some (((0,0),false,()),())
  else
   some (((f_0.1,IntKind.wrap .i64 (r1.1.1 - 1)),true,()),())
 else
 bif f_0.1==0 then
  some (((0,0),false,()),())
 else
 bif decide (f_0.2.1<f_0.1) then
  some (((0,0),false,()),())
 else
  some (((f_0.1,f_0.2.1),true,()),())
noncomputable def Zbb:Ent:=⟨[.val t36],[⟨t34,[false,false],none⟩,⟨t4,[false],none⟩],fun x=>Qu6 x.1⟩
theorem Z78:GD 127 Zbb:=fnk 1 (fr [[1,2,19,0,22],[1,2,4,19,0,22],[1,2,4,10,19,0,22],[1,2,4,19,0,22],[1,2,4,23],[2,3],[2,3]]) (Qjy Qya Qk3) Tryz.func127
noncomputable def Qys (a_0:Int × Int) (now_1:Int):Option ((Bool × Unit) × Unit):=
 bif a_0.1==0 then
  some ((true,()),())
 else
  some ((decide (now_1 ≥ a_0.2),()),())
noncomputable def Zfb:Ent:=⟨[.val t34,.val t2],[⟨t4,[false],none⟩],fun x=>Qys x.1 x.2.1⟩
theorem Zb0:GD 128 Zfb:=fnk 1 (fr [[1,2,9,0,12],[4]]) Qk3 Tryz.func128
abbrev Qoo:Type:=((Int × Int) × Unit) × Unit
noncomputable def Zck:Ctx:=[]
def Z2f:Fi:=fr [[1,2,4,12,13],[1,2,4,5,12,13],[1,2,4,5,6,12,13],[1,2,4,5,6,12,0,14],[1,2,4,5,6,12,13],[1,2,4,5,6,12,13],[4]]
abbrev Qvy:Type:=Int→Int→Int→Int→Int→Int→Int→Option Qoo
noncomputable def Qsm (L1:Qvy) (v1 v2 v3 v4 v5 v6 v7:Int):Option Qoo:=
 bif decide (v3<v4) then
  bif decide (v3<3) then
   L1 v1 (IntKind.wrap .i64 (v2*2)) (IntKind.wrap .i64 (v3+1)) v4 v5 v6 v7
  else
   some (((IntKind.wrap .i64 (v4+1),IntKind.wrap .i64 (v1+v2)),()),())
 else
  some (((IntKind.wrap .i64 (v4+1),IntKind.wrap .i64 (v1+v2)),()),())
noncomputable def Z3z (L1:Qvy) (a_0:Int × Int) (now_1:Int):Option Qoo:=
 L1 now_1 2 0 a_0.1 a_0.2 0 0
noncomputable def Qnv (n:Nat):Nat→Qvy:=iter (fun _ _ _ _ _ _ _=>none) fun L=>Qsm L
noncomputable def Qsd (n m:Nat) (v1 v2 v3 v4 v5 v6 v7:Int):Option Qoo:=
 Qjv Zck tab (fiB [.val t34,.val t2] Z2f) n [.val t34,.val t2] [⟨t34,[false,false],none⟩] Tryz.f131 [1,1,0,1,0] [] [1,2,4,5,6] m
 ⟨[(1,Vp t2 v1),(2,V1 (.ptr (2,0) 0)),(4,V1 (.ptr (4,0) 0)),(5,Vp t2 v2),(6,Vp t2 v3)],[((2,0),Ob.box 35 [LV.pure t2 v4,LV.pure t2 v5]),((4,0),Ob.box 35 [LV.pure t2 v6,LV.pure t2 v7])]⟩
theorem Qzv (n:Nat):∀ m,Qsd n m=Qnv n m
 | 0=>rfl
 | m+1=>by rw [show Qsd n (m+1)=Qsm (Qsd n m) from by kernel_rfl,Qzv n m];rfl
noncomputable def Z2w (n:Nat) (a_0:Int × Int) (now_1:Int):Option Qoo:=Z3z (Qnv n n) a_0 now_1
noncomputable def Qzq (a_0:Int × Int) (now_1:Int):Option Qoo:=Z2w 1099511627776 a_0 now_1
noncomputable def Zcu:Ent:=⟨[.val t34,.val t2],[⟨t34,[false,false],none⟩],fun x=>Qzq x.1 x.2.1⟩
theorem Z97:GD 131 Zcu:=fnl Z2f (fun n x=>Z2w n x.1 x.2.1) Qk3 Tryz.func131 fun n x=>Eq.trans (b:=Z3z (Qsd n n) x.1 x.2.1) (by kernel_rfl) (by rw [Qzv n n];rfl)
noncomputable def Qvl (f_0:Qxo) (now_1:Int):Option ((Qxo × (Int × Int) × Bool × Unit) × Unit):=
 Option.bind (Qu6 f_0) fun r1=>
 bif !r1.1.2.1 then
  some ((f_0,(0,0),false,()),())
 else
  Option.bind (Qys (h5 f_0) now_1) fun r2=>
  bif !r2.1.1 then
   some ((f_0,(0,0),false,()),())
  else
  bif decide ((g5 f_0) ≥ 3) then
   Option.bind (Quc f_0 r1.1.1.2 2) fun r3=>
   Option.bind (Qlg r3.1.1) fun r4=>
   some ((r4.1.1,(0,0),false,()),())
  else
   Option.bind (Qzq (h5 f_0) now_1) fun r5=>
   some (((e5 f_0 r5.1.1),r1.1.1,true,()),())
noncomputable def Z3b:Ent:=⟨[.val t36,.val t2],[⟨t36,(nF 7),none⟩,⟨t34,[false,false],none⟩,⟨t4,[false],none⟩],fun x=>Qvl x.1 x.2.1⟩
theorem Z92:GD 61 Z3b:=fnk 1 (fr [[1,2,4,5,17,0,21],[1,2,4,5,7,8,17,0,21],[1,2,4,5,7,22],[4,5,6],[1,2,4,5,7,28],[2,4,5],[2,4,5],[4,5,6],[2,4,5,7],[4,5,6]]) (Qjy Z78 (Qjy Zb0 (Qjy Qxy (Qjy Qqu (Qjy Z97 Qk3))))) Tryz.func61
abbrev Qpt:Type:=(ByteArray × Bool × Unit) × Unit
noncomputable def Zdx:Ctx:=[]
def Z2x:Fi:=fo [[0,1],[0,1,6],[0,1,6,10],[0,1,6],[0,1,6,19],[4,5],[4,5]]
abbrev Qxc:Type:=Qkj→Int→Int→Option Qpt
noncomputable def Qou (L1:Qxc) (v1:Qkj) (v2 v3:Int):Option Qpt:=
 bif decide (v3<(v1.length:Int)) then
  bif decide (0≤v3)&&decide (v3<(v1.length:Int)) then
   bif ((List.getD v1 v3.toNat (0,(⟨#[]⟩:ByteArray))).1)==v2 then
    bif decide (0≤v3)&&decide (v3<(v1.length:Int)) then
     some (((List.getD v1 v3.toNat (0,(⟨#[]⟩:ByteArray))).2,true,()),())
    else none
   else
    L1 v1 v2 (IntKind.wrap .i64 (v3+1))
  else none
 else
  some (((⟨#[]⟩:ByteArray),false,()),())
noncomputable def Z5d (L1:Qxc) (l_0:Qkj) (seq_1:Int):Option Qpt:=
 L1 l_0 seq_1 0
noncomputable def Qqj (n:Nat):Nat→Qxc:=iter (fun _ _ _=>none) fun L=>Qou L
noncomputable def Qtf (n m:Nat) (v1:Qkj) (v2 v3:Int):Option Qpt:=
 Qjv Zdx tab (fiB [.val t32,.val t2] Z2x) n [.val t32,.val t2] [⟨t9,[false],none⟩,⟨t4,[false],none⟩] Tryz.f172 [1,0,1,0] [] [0,1,6] m
 ⟨[(0,Vp t32 v1),(1,Vp t2 v2),(6,Vp t2 v3)],[]⟩
theorem Z22 (n:Nat):∀ m,Qtf n m=Qqj n m
 | 0=>rfl
 | m+1=>by rw [show Qtf n (m+1)=Qou (Qtf n m) from by kernel_rfl,Z22 n m];rfl
noncomputable def Z5a (n:Nat) (l_0:Qkj) (seq_1:Int):Option Qpt:=Z5d (Qqj n n) l_0 seq_1
noncomputable def Z1a (l_0:Qkj) (seq_1:Int):Option Qpt:=Z5a 1099511627776 l_0 seq_1
noncomputable def Z5o:Ent:=⟨[.val t32,.val t2],[⟨t9,[false],none⟩,⟨t4,[false],none⟩],fun x=>Z1a x.1 x.2.1⟩
theorem Z9y:GD 172 Z5o:=fnl Z2x (fun n x=>Z5a n x.1 x.2.1) Qk3 Tryz.func172 fun n x=>Eq.trans (b:=Z5d (Qtf n n) x.1 x.2.1) (by kernel_rfl) (by rw [Z22 n n];rfl)
abbrev Qmi:Type:=(Qkj × Bool × Unit) × Unit
noncomputable def Z9z:Ctx:=[(172,Z5o)]
def Qzb:Fi:={ keep:=[],vty:=[(10,32)],vals:=[],live:=[(0,[0,1,5,25,26,27,28,29,32,44,45,46,47,48,49,50,51]),(1,[0,1,5,9,25,26,27,28,29,32,44,45,46,47,48,49,50,51]),(2,[0,5,33,44,45,46,47,48,49,50,51]),(3,[6,7]),(4,[0,5,10,44,45,46,47,48,49,50,51]),(5,[0,5,10,11,44,45,46,47,48,49,50,51]),(6,[0,5,10,11,12,44,45,46,47,48,49,50,51]),(7,[0,5,10,11,12,38,44,45,46,47,48,49,50,51]),(8,[0,5,10,11,12,44,45,46,47,48,49,50,51]),(9,[0,5,10,11,12,44,45,46,47,48,49,50,51,52]),(10,[0,5,10,11,12,44,45,46,47,48,49,50,51]),(11,[0,5,10,11,12,44,45,46,47,48,49,50,51]),(12,[5,10,65]),(13,[10]),(14,[6,7])] }
abbrev Qqr:Type:=Qkj→Bool→Int→Int→ByteArray→Qkj→Option Qmi
noncomputable def Qqz (v4:Int) (v2 v7:Qkj) (L1:Qqr) (v3:Bool) (v5:Int) (v6:ByteArray):Option Qmi:=
 bif decide (0≤v4)&&decide (v4<(v2.length:Int)) then
  bif Nat.ble (v7.length+1) 1073741824 then
   L1 v2 v3 (IntKind.wrap .i64 (v4+1)) v5 v6 (v7++[(List.getD v2 v4.toNat (0,(⟨#[]⟩:ByteArray)))])
  else none
 else none
noncomputable def Qkq (L1:Qqr) (v2:Qkj) (v3:Bool) (v4 v5:Int) (v6:ByteArray) (v7:Qkj):Option Qmi:=
 bif decide (v4<(v2.length:Int)) then
  bif !v3 then
   bif decide (0≤v4)&&decide (v4<(v2.length:Int)) then
    bif decide ((List.getD v2 v4.toNat (0,(⟨#[]⟩:ByteArray))).1>v5) then
     bif Nat.ble (v7.length+1) 1073741824 then
      bif decide (0≤v4)&&decide (v4<(v2.length:Int)) then
       bif Nat.ble ((v7++[(v5,v6)]).length+1) 1073741824 then
        L1 v2 true (IntKind.wrap .i64 (v4+1)) v5 v6 ((v7++[(v5,v6)])++[(List.getD v2 v4.toNat (0,(⟨#[]⟩:ByteArray)))])
       else none
      else none
     else none
    else
     Qqz v4 v2 v7 L1 v3 v5 v6
   else none
  else
   Qqz v4 v2 v7 L1 v3 v5 v6
 else
 bif !v3 then
  bif Nat.ble (v7.length+1) 1073741824 then
   some ((v7++[(v5,v6)],true,()),())
  else none
 else
  some ((v7,true,()),())
noncomputable def Qrm (L1:Qqr) (l_0:Qkj) (next_1:Int) (x_2:Qzl):Option Qmi:=
 Option.bind (Z1a l_0 x_2.1) fun r1=>
 bif decide (x_2.1<next_1) then
  some ((l_0,false,()),())
 else
 bif decide (IntKind.wrap .i64 (x_2.1 - next_1) ≥ 8) then
  some ((l_0,false,()),())
 else
 bif r1.1.2.1 then
  some ((l_0,false,()),())
 else
  L1 l_0 false 0 x_2.1 x_2.2 []
noncomputable def Qkv (n:Nat):Nat→Qqr:=iter (fun _ _ _ _ _ _=>none) fun L=>Qkq L
noncomputable def Qr4 (n m:Nat) (v2:Qkj) (v3:Bool) (v4 v5:Int) (v6:ByteArray) (v7:Qkj):Option Qmi:=
 Qjv Z9z tab (fiB [.val t32,.val t2,.val t58] Qzb) n [.val t32,.val t2,.val t58] [⟨t32,[false],none⟩,⟨t4,[false],none⟩] Tryz.f140 [1,1,1,1,1,0,1,0] [] [0,5,10,11,12] m
 ⟨[(0,Vp t32 v2),(5,V1 (.ptr (5,0) 0)),(10,V1 (.ref (888888,10))),(11,Vp t4 v3),(12,Vp t2 v4)],[((5,0),Ob.box 59 [LV.pure t2 v5,LV.pure t9 v6]),((888888,10),Ob.row 59 t58 v7)]⟩
theorem Qxx (n:Nat):∀ m,Qr4 n m=Qkv n m
 | 0=>rfl
 | m+1=>by rw [show Qr4 n (m+1)=Qkq (Qr4 n m) from by kernel_rfl,Qxx n m];rfl
noncomputable def Z0e (n:Nat) (l_0:Qkj) (next_1:Int) (x_2:Qzl):Option Qmi:=Qrm (Qkv n n) l_0 next_1 x_2
noncomputable def Qwt (l_0:Qkj) (next_1:Int) (x_2:Qzl):Option Qmi:=Z0e 1099511627776 l_0 next_1 x_2
noncomputable def Za3:Ent:=⟨[.val t32,.val t2,.val t58],[⟨t32,[false],none⟩,⟨t4,[false],none⟩],fun x=>Qwt x.1 x.2.1 x.2.2.1⟩
theorem Z6f:GD 140 Za3:=fnl Qzb (fun n x=>Z0e n x.1 x.2.1 x.2.2.1) (Qjy Z9y Qk3) Tryz.func140 fun n x=>Eq.trans (b:=Qrm (Qr4 n n) x.1 x.2.1 x.2.2.1) (by kernel_rfl) (by rw [Qxx n n];rfl)
noncomputable def Qug (f_0:Qxo) (i_1:Qzl):Option ((Qxo × Unit) × Unit):=
 bif f_0.1==0 then
  some ((f_0,()),())
 else
 bif decide (i_1.1<1) then
  some ((f_0,()),())
 else
 bif decide (i_1.1>1000000) then
  some ((f_0,()),())
 else
 bif decide ((i_1.2.size:Int)>12) then
  some ((f_0,()),())
 else
  Option.bind (Qnt f_0 i_1.1) fun r1=>
  Option.bind (Qwt (g3 r1.1.1) r1.1.1.1 i_1) fun r2=>
  Option.bind (Qlg (u3 r1.1.1 r2.1.1)) fun r3=>
  some ((r3.1.1,()),())
noncomputable def Z2a:Ent:=⟨[.val t36,.val t58],[⟨t36,(nF 7),none⟩],fun x=>Qug x.1 x.2.1⟩
theorem Z72:GD 68 Z2a:=fnk 1 (fr [[2,3,4,9,0,11,14,0,16,19,0,22],[2,3,4,23],[4],[2,3,4],[2,4],[2,4],[4]]) (Qjy Qqa (Qjy Qqu (Qjy Z6f Qk3))) Tryz.func68
abbrev Qmf:Type:=(Qxo × Unit) × (Z5v × Unit)
noncomputable def Z6n:Ctx:=[(25,Qse),(26,Qqc),(44,Qxa),(61,Z3b),(66,Z1d),(67,Z2g),(68,Z2a),(69,Z1f)]
def Qwg:Fi:=fr [[0,1,4,18,0,20],[0,1,4,5,18,0,20],[0,1,4,5,6,18,0,20],[0,1,4,0,7,18,0,20],[0,1,4,0,7,18,0,21],[0,1,4,0,7,18,0,20],[0,1,4,0,7,18,0,20,25],[0,1,4,0,7,18,0,20],[0,1,4,0,7,18,0,20,25,38],[0,1,4,0,8,18,0,20],[0,1,4,0,7,18,0,20],[0,1,4,0,7,18,0,20,25,54],[0,1,4,0,7,18,0,20],[0,1,4,0,7,18,0,20,63],[0,1,4,0,7,18,0,20],[0,1,4,0,7,18,0,20],[0,4]]
abbrev Qry:Type:=Int→Int→Int→List Int→Int→Int→Int→Int→Int→Qkj→Qkj→Qnj→Int→Int→Qkj→Qkj→Qnj→Int→Int→Option Qmf
noncomputable def Ql6 (L1:Qry) (v3 v4 v5:Int) (v6:List Int) (v7 v8 v9 v10 v11:Int) (v12 v13:Qkj) (v14:Qnj) (v15 v16:Int) (v17 v18:Qkj) (v19:Qnj) (v20 v21:Int):Option Qmf:=
 bif decide (v5<v3) then
  Option.bind (Qod (v6,v7)) fun r22=>
  bif !r22.1.1 then
   Option.bind (Qk5 r22.2.1 6) fun r23=>
   bif r23.1.1==0 then
    Option.bind (Qk5 r23.2.1 3) fun r24=>
    Option.bind (Qk5 r24.2.1 4) fun r25=>
    Option.bind (Qud (v15,v16,v17,v18,v19,v20,v21) (if IntKind.wrap .i64 ((IntKind.wrap .i64 (v15 - 1))+r24.1.1)>1 then IntKind.wrap .i64 ((IntKind.wrap .i64 (v15 - 1))+r24.1.1) else 1) (IntKind.wrap .i64 ((if IntKind.wrap .i64 ((IntKind.wrap .i64 (v15 - 1))+r24.1.1)>1 then IntKind.wrap .i64 ((IntKind.wrap .i64 (v15 - 1))+r24.1.1) else 1)+r25.1.1))) fun r26=>
    L1 v3 v4 (IntKind.wrap .i64 (v5+1)) r25.2.1.1 r25.2.1.2 v8 v9 v10 v11 v12 v13 v14 r26.1.1.1 r26.1.1.2.1 r26.1.1.2.2.1 (g3 r26.1.1) (g4 r26.1.1) (g5 r26.1.1) (h6 r26.1.1)
   else
   bif r23.1.1==1 then
    Option.bind (Qk5 r23.2.1 5) fun r27=>
    Option.bind (Qnt (v15,v16,v17,v18,v19,v20,v21) (IntKind.wrap .i64 (v15+r27.1.1))) fun r28=>
    L1 v3 v4 (IntKind.wrap .i64 (v5+1)) r27.2.1.1 r27.2.1.2 v8 v9 v10 v11 v12 v13 v14 r28.1.1.1 r28.1.1.2.1 r28.1.1.2.2.1 (g3 r28.1.1) (g4 r28.1.1) (g5 r28.1.1) (h6 r28.1.1)
   else
   bif r23.1.1==2 then
    Option.bind (Qk5 r23.2.1 6) fun r29=>
    Option.bind (Qvl (v15,v16,v17,v18,v19,v20,v21) (IntKind.wrap .i64 ((IntKind.wrap .i64 (v4+1))+r29.1.1))) fun r30=>
    L1 v3 (IntKind.wrap .i64 ((IntKind.wrap .i64 (v4+1))+r29.1.1)) (IntKind.wrap .i64 (v5+1)) r29.2.1.1 r29.2.1.2 v8 v9 v10 v11 v12 v13 v14 r30.1.1.1 r30.1.1.2.1 r30.1.1.2.2.1 (g3 r30.1.1) (g4 r30.1.1) (g5 r30.1.1) (h6 r30.1.1)
   else
    Option.bind (Qk5 r23.2.1 5) fun r31=>
    Option.bind (Qm2 r31.2.1) fun r32=>
    Option.bind (Qug (v15,v16,v17,v18,v19,v20,v21) (if IntKind.wrap .i64 ((IntKind.wrap .i64 (v15 - 1))+r31.1.1)>1 then IntKind.wrap .i64 ((IntKind.wrap .i64 (v15 - 1))+r31.1.1) else 1,r32.1.1)) fun r33=>
    L1 v3 v4 (IntKind.wrap .i64 (v5+1)) r32.2.1.1 r32.2.1.2 v8 v9 v10 v11 v12 v13 v14 r33.1.1.1 r33.1.1.2.1 r33.1.1.2.2.1 (g3 r33.1.1) (g4 r33.1.1) (g5 r33.1.1) (h6 r33.1.1)
  else
   some (((v15,v16,v17,v18,v19,v20,v21),()),(r22.2.1,()))
 else
  some (((v15,v16,v17,v18,v19,v20,v21),()),((v6,v7),()))
noncomputable def Qpd (L1:Qry) (p_0:Z5v) (most_1:Int):Option Qmf:=
 Option.bind (Qk5 p_0 5) fun r1=>
 Option.bind (Qu8 (0,0,[],[],[],0,0) (IntKind.wrap .i64 (1+r1.1.1))) fun r2=>
 L1 most_1 0 0 r1.2.1.1 r1.2.1.2 0 0 0 0 [] [] [] r2.1.1.1 r2.1.1.2.1 r2.1.1.2.2.1 (g3 r2.1.1) (g4 r2.1.1) (g5 r2.1.1) (h6 r2.1.1)
noncomputable def Qls (n:Nat):Nat→Qry:=iter (fun _ _ _ _ _ _ _ _ _ _ _ _ _ _ _ _ _ _ _=>none) fun L=>Ql6 L
noncomputable def Qoe (n m:Nat) (v3 v4 v5:Int) (v6:List Int) (v7 v8 v9 v10 v11:Int) (v12 v13:Qkj) (v14:Qnj) (v15 v16:Int) (v17 v18:Qkj) (v19:Qnj) (v20 v21:Int):Option Qmf:=
 Qjv Z6n tab (fiB [.box 75 t74 [false,false],.val t2] Qwg) n [.box 75 t74 [false,false],.val t2] [⟨t36,(nF 7),none⟩] Tryz.f42 [1,1,1,0,1,0] [] [0,1,4,5,6,7] m
 ⟨[(0,V1 (.ptr (0,0) 0)),(1,Vp t2 v3),(4,V1 (.ptr (4,0) 0)),(5,V1 (.ptr (5,0) 0)),(6,Vp t2 v4),(7,Vp t2 v5)],[((0,0),Ob.box 75 [LV.pure t25 v6,LV.pure t2 v7]),((4,0),Ob.box 37 [LV.pure t2 v8,LV.pure t2 v9,LV.ref (4,3),LV.ref (4,4),LV.ref (4,5),LV.pure t2 v10,LV.pure t2 v11]),((4,3),Ob.row 59 t58 v12),((4,4),Ob.row 59 t58 v13),((4,5),Ob.row 55 t54 v14),((5,0),Ob.box 37 [LV.pure t2 v15,LV.pure t2 v16,LV.pure t32 v17,LV.pure t32 v18,LV.pure t33 v19,LV.pure t2 v20,LV.pure t2 v21])]⟩
theorem Qvh (n:Nat):∀ m,Qoe n m=Qls n m
 | 0=>rfl
 | m+1=>by rw [show Qoe n (m+1)=Ql6 (Qoe n m) from by kernel_rfl,Qvh n m];rfl
noncomputable def Qx1 (n:Nat) (p_0:Z5v) (most_1:Int):Option Qmf:=Qpd (Qls n n) p_0 most_1
noncomputable def Qty (p_0:Z5v) (most_1:Int):Option Qmf:=Qx1 1099511627776 p_0 most_1
noncomputable def Z6k:Ent:=⟨[.box 75 t74 [false,false],.val t2],[⟨t36,(nF 7),none⟩],fun x=>Qty x.1 x.2.1⟩
theorem Z2o:GD 42 Z6k:=fnl Qwg (fun n x=>Qx1 n x.1 x.2.1) (Qjy Quo (Qjy Qlh (Qjy Qun (Qjy Z92 (Qjy Qqa (Qjy Z7c (Qjy Z72 (Qjy Z71 Qk3)))))))) Tryz.func42 fun n x=>Eq.trans (b:=Qpd (Qoe n n) x.1 x.2.1) (by kernel_rfl) (by rw [Qvh n n];rfl)
noncomputable def Qvj (picks_0:List Int) (id_1:Int):Option ((Zen × Unit) × Unit):=
 Option.bind (Z2k picks_0) fun r1=>
 Option.bind (Qk5 r1.1.1 3) fun r2=>
 Option.bind (Qk5 r2.2.1 3) fun r3=>
 Option.bind (Qk5 r3.2.1 9) fun r4=>
 Option.bind (Qvk (false,r2.1.1,(⟨#[]⟩:ByteArray),Zt0,(0,0,[],[],[],0,0),r3.1.1) id_1 (⟨#[110]⟩:ByteArray) r4.1.1) fun r5=>
 Option.bind (Qv0 r4.2.1 id_1 20) fun r6=>
 bif id_1 != 1 then
  Option.bind (Qty r6.2.1 12) fun r7=>
  Option.bind (Qk5 r7.2.1 5) fun r8=>
  bif r8.1.1==0 then
   some (((u4 (u3 r5.1.1 (u1 r6.1.1 r5.1.1.2.1)) (0,0,[],[],[],0,0)),()),())
  else
   some (((u4 (u3 r5.1.1 (u1 r6.1.1 r5.1.1.2.1)) r7.1.1),()),())
 else
  some (((u3 r5.1.1 (u1 r6.1.1 r5.1.1.2.1)),()),())
noncomputable def Z3s:Ent:=⟨[.val t25,.val t2],[⟨t38,(nF 24),none⟩],fun x=>Qvj x.1 x.2.1⟩
theorem Z94:GD 16 Z3s:=fnk 1 (fo [[0,1,4],[1,4,5],[1,4,5,6],[1,4,5,6],[1,4,5,6],[4,5,6,31],[4,5,6],[4,6,37],[4,6],[4]]) (Qjy Z9l (Qjy Z7u (Qjy Qlh (Qjy Z4g (Qjy Z2o Qk3))))) Tryz.func16
noncomputable def Qn5 (n_0:Int):Option ((Bool × Unit) × Unit):=
 bif decide (n_0 ≥ 0) then
  some ((decide (n_0≤1000000),()),())
 else
  some ((false,()),())
noncomputable def Zdh:Ent:=⟨[.val t2],[⟨t4,[false],none⟩],fun x=>Qn5 x.1⟩
theorem Z9r:GD 106 Zdh:=fnk 1 (fo [[0,6,7],[2]]) Qk3 Tryz.func106
abbrev Qn0:Type:=(Bool × Unit) × Unit
noncomputable def Z8n:Ctx:=[]
def Qxt:Fi:=fo [[0,1],[0,1,10],[4],[0,1,5],[0,1,5,14],[0,1,5],[0,1,5,25],[4],[4]]
abbrev Qt5:Type:=List Int→List Int→Int→Option Qn0
noncomputable def Qmq (L1:Qt5) (v1 v2:List Int) (v3:Int):Option Qn0:=
 bif decide (v3<(v1.length:Int)) then
  bif decide (0≤v3)&&decide (v3<(v1.length:Int)) then
   bif decide (0≤v3)&&decide (v3<(v2.length:Int)) then
    bif (List.getD v1 v3.toNat 0) != (List.getD v2 v3.toNat 0) then
     some ((false,()),())
    else
     L1 v1 v2 (IntKind.wrap .i64 (v3+1))
   else none
  else none
 else
  some ((true,()),())
noncomputable def Qr2 (L1:Qt5) (a_0 b_1:List Int):Option Qn0:=
 bif (a_0.length:Int) != (b_1.length:Int) then
  some ((false,()),())
 else
  L1 a_0 b_1 0
noncomputable def Qml (n:Nat):Nat→Qt5:=iter (fun _ _ _=>none) fun L=>Qmq L
noncomputable def Qq9 (n m:Nat) (v1 v2:List Int) (v3:Int):Option Qn0:=
 Qjv Z8n tab (fiB [.val t28,.val t28] Qxt) n [.val t28,.val t28] [⟨t4,[false],none⟩] Tryz.f81 [1,1,0,1,0] [] [0,1,5] m
 ⟨[(0,Vp t28 v1),(1,Vp t28 v2),(5,Vp t2 v3)],[]⟩
theorem Qx0 (n:Nat):∀ m,Qq9 n m=Qml n m
 | 0=>rfl
 | m+1=>by rw [show Qq9 n (m+1)=Qmq (Qq9 n m) from by kernel_rfl,Qx0 n m];rfl
noncomputable def Qze (n:Nat) (a_0 b_1:List Int):Option Qn0:=Qr2 (Qml n n) a_0 b_1
noncomputable def Qs8 (a_0 b_1:List Int):Option Qn0:=Qze 1099511627776 a_0 b_1
noncomputable def Z8j:Ent:=⟨[.val t28,.val t28],[⟨t4,[false],none⟩],fun x=>Qs8 x.1 x.2.1⟩
theorem Qw7:GD 81 Z8j:=fnl Qxt (fun n x=>Qze n x.1 x.2.1) Qk3 Tryz.func81 fun n x=>Eq.trans (b:=Qr2 (Qq9 n n) x.1 x.2.1) (by kernel_rfl) (by rw [Qx0 n n];rfl)
noncomputable def Qkb (a_0 b_1:Qwl):Option ((Bool × Unit) × Unit):=
 bif a_0.1==b_1.1 then
  bif a_0.2.1==b_1.2.1 then
   bif a_0.2.2.1==b_1.2.2.1 then
    bif a_0.2.2.2.1==b_1.2.2.2.1 then
     bif a_0.2.2.2.2.1==b_1.2.2.2.2.1 then
      bif a_0.2.2.2.2.2.1==b_1.2.2.2.2.2.1 then
       bif a_0.2.2.2.2.2.2.2.1==b_1.2.2.2.2.2.2.2.1 then
        bif a_0.2.2.2.2.2.2.2.2.1==b_1.2.2.2.2.2.2.2.2.1 then
         bif Qeq a_0.2.2.2.2.2.2.2.2.2 b_1.2.2.2.2.2.2.2.2.2 then
          Option.bind (Qs8 a_0.2.2.2.2.2.2.1 b_1.2.2.2.2.2.2.1) fun r1=>
          some ((r1.1.1,()),())
         else
          some ((false,()),())
        else
         some ((false,()),())
       else
        some ((false,()),())
      else
       some ((false,()),())
     else
      some ((false,()),())
    else
     some ((false,()),())
   else
    some ((false,()),())
  else
   some ((false,()),())
 else
  some ((false,()),())
noncomputable def Z8y:Ent:=⟨[.val t45,.val t45],[⟨t4,[false],none⟩],fun x=>Qkb x.1 x.2.1⟩
theorem Z5j:GD 72 Z8y:=fnk 1 (fr [[2,3,11,0,15,18,0,22,25,0,29,32,0,36,39,0,43,46,0,50,53,0,57,60,0,64,67,0,71],[4]]) (Qjy Qw7 Qk3) Tryz.func72
noncomputable def Qti (arr_0:Qwl):Option ((Bool × Unit) × Unit):=
 bif decide (arr_0.1<1) then
  some ((false,()),())
 else
 bif decide (arr_0.1>9) then
  some ((false,()),())
 else
 bif decide (arr_0.2.1<1) then
  some ((false,()),())
 else
 bif decide (arr_0.2.1>8) then
  some ((false,()),())
 else
 bif decide (arr_0.2.2.1<1) then
  some ((false,()),())
 else
 bif decide (arr_0.2.2.1>8) then
  some ((false,()),())
 else
 bif arr_0.2.1==arr_0.2.2.1 then
  some ((false,()),())
 else
 bif decide (arr_0.2.2.2.1<1) then
  some ((false,()),())
 else
 bif decide (arr_0.2.2.2.1>1073741824) then
  some ((false,()),())
 else
 bif arr_0.1==2 then
  bif arr_0.1==2 then
   bif decide (arr_0.2.2.2.2.1 ≥ 0) then
    bif decide (arr_0.2.2.2.2.1≤1073741824) then
     bif decide (arr_0.2.2.2.2.2.1 ≥ 0) then
      bif decide (arr_0.2.2.2.2.2.1≤1073741824) then
       Option.bind (Qp0 arr_0.2.2.2.2.2.2.1) fun r1=>
       bif arr_0.1==2 then
        bif r1.1.1 then
         Option.bind (Qn5 arr_0.2.2.2.2.2.2.2.1) fun r2=>
         bif r2.1.1 then
          Option.bind (Qkb (arr_0.1,arr_0.2.1,arr_0.2.2.1,arr_0.2.2.2.1,arr_0.2.2.2.2.1,arr_0.2.2.2.2.2.1,arr_0.2.2.2.2.2.2.1,arr_0.2.2.2.2.2.2.2.1,0,(⟨#[]⟩:ByteArray)) arr_0) fun r3=>
          some ((r3.1.1,()),())
         else
          some ((false,()),())
        else
         some ((false,()),())
       else
       bif r1.1.1 then
        Option.bind (Qn5 arr_0.2.2.2.2.2.2.2.2.1) fun r4=>
        bif r4.1.1 then
         Option.bind (Qkb (arr_0.1,arr_0.2.1,arr_0.2.2.1,arr_0.2.2.2.1,arr_0.2.2.2.2.1,arr_0.2.2.2.2.2.1,arr_0.2.2.2.2.2.2.1,0,arr_0.2.2.2.2.2.2.2.2.1,(⟨#[]⟩:ByteArray)) arr_0) fun r5=>
         some ((r5.1.1,()),())
        else
         some ((false,()),())
       else
        some ((false,()),())
      else
      bif arr_0.1==2 then
       some ((false,()),())
      else
       some ((false,()),())
     else
     bif arr_0.1==2 then
      some ((false,()),())
     else
      some ((false,()),())
    else
    bif arr_0.1==2 then
     some ((false,()),())
    else
     some ((false,()),())
   else
   bif arr_0.1==2 then
    some ((false,()),())
   else
    some ((false,()),())
  else
  bif arr_0.1==7 then
   bif decide (arr_0.2.2.2.2.2.2.2.1 ≥ 1) then
    Option.bind (Qn5 arr_0.2.2.2.2.2.2.2.1) fun r6=>
    bif r6.1.1 then
     bif decide ((arr_0.2.2.2.2.2.2.2.2.2.size:Int)≤12) then
      Option.bind (Qkb (arr_0.1,arr_0.2.1,arr_0.2.2.1,arr_0.2.2.2.1,0,0,[],arr_0.2.2.2.2.2.2.2.1,0,arr_0.2.2.2.2.2.2.2.2.2) arr_0) fun r7=>
      some ((r7.1.1,()),())
     else
      some ((false,()),())
    else
     some ((false,()),())
   else
    some ((false,()),())
  else
  bif arr_0.1==8 then
   bif arr_0.1==8 then
    Option.bind (Qla (arr_0.2.2.2.2.2.2.2.1,arr_0.2.2.2.2.2.2.2.2.1)) fun r8=>
    bif r8.1.1 then
     Option.bind (Qkb (arr_0.1,arr_0.2.1,arr_0.2.2.1,arr_0.2.2.2.1,0,0,[],arr_0.2.2.2.2.2.2.2.1,arr_0.2.2.2.2.2.2.2.2.1,(⟨#[]⟩:ByteArray)) arr_0) fun r9=>
     some ((r9.1.1,()),())
    else
     some ((false,()),())
   else
    Option.bind (Qkb (arr_0.1,arr_0.2.1,arr_0.2.2.1,arr_0.2.2.2.1,0,0,[],0,0,(⟨#[]⟩:ByteArray)) arr_0) fun r10=>
    some ((r10.1.1,()),())
  else
  bif arr_0.1==9 then
   Option.bind (Qla (arr_0.2.2.2.2.2.2.2.1,arr_0.2.2.2.2.2.2.2.2.1)) fun r11=>
   bif r11.1.1 then
    Option.bind (Qkb (arr_0.1,arr_0.2.1,arr_0.2.2.1,arr_0.2.2.2.1,0,0,[],arr_0.2.2.2.2.2.2.2.1,arr_0.2.2.2.2.2.2.2.2.1,(⟨#[]⟩:ByteArray)) arr_0) fun r12=>
    some ((r12.1.1,()),())
   else
    some ((false,()),())
  else
   Option.bind (Qkb (arr_0.1,arr_0.2.1,arr_0.2.2.1,arr_0.2.2.2.1,0,0,[],0,0,(⟨#[]⟩:ByteArray)) arr_0) fun r13=>
   some ((r13.1.1,()),())
 else
 bif arr_0.1==5 then
  bif decide (arr_0.2.2.2.2.1 ≥ 0) then
   bif decide (arr_0.2.2.2.2.1≤1073741824) then
    bif decide (arr_0.2.2.2.2.2.1 ≥ 0) then
     bif decide (arr_0.2.2.2.2.2.1≤1073741824) then
      Option.bind (Qp0 arr_0.2.2.2.2.2.2.1) fun r14=>
      bif arr_0.1==2 then
       bif r14.1.1 then
        Option.bind (Qn5 arr_0.2.2.2.2.2.2.2.1) fun r15=>
        bif r15.1.1 then
         Option.bind (Qkb (arr_0.1,arr_0.2.1,arr_0.2.2.1,arr_0.2.2.2.1,arr_0.2.2.2.2.1,arr_0.2.2.2.2.2.1,arr_0.2.2.2.2.2.2.1,arr_0.2.2.2.2.2.2.2.1,0,(⟨#[]⟩:ByteArray)) arr_0) fun r16=>
         some ((r16.1.1,()),())
        else
         some ((false,()),())
       else
        some ((false,()),())
      else
      bif r14.1.1 then
       Option.bind (Qn5 arr_0.2.2.2.2.2.2.2.2.1) fun r17=>
       bif r17.1.1 then
        Option.bind (Qkb (arr_0.1,arr_0.2.1,arr_0.2.2.1,arr_0.2.2.2.1,arr_0.2.2.2.2.1,arr_0.2.2.2.2.2.1,arr_0.2.2.2.2.2.2.1,0,arr_0.2.2.2.2.2.2.2.2.1,(⟨#[]⟩:ByteArray)) arr_0) fun r18=>
        some ((r18.1.1,()),())
       else
        some ((false,()),())
      else
       some ((false,()),())
     else
     bif arr_0.1==2 then
      some ((false,()),())
     else
      some ((false,()),())
    else
    bif arr_0.1==2 then
     some ((false,()),())
    else
     some ((false,()),())
   else
   bif arr_0.1==2 then
    some ((false,()),())
   else
    some ((false,()),())
  else
  bif arr_0.1==2 then
   some ((false,()),())
  else
   some ((false,()),())
 else
 bif arr_0.1==7 then
  bif decide (arr_0.2.2.2.2.2.2.2.1 ≥ 1) then
   Option.bind (Qn5 arr_0.2.2.2.2.2.2.2.1) fun r19=>
   bif r19.1.1 then
    bif decide ((arr_0.2.2.2.2.2.2.2.2.2.size:Int)≤12) then
     Option.bind (Qkb (arr_0.1,arr_0.2.1,arr_0.2.2.1,arr_0.2.2.2.1,0,0,[],arr_0.2.2.2.2.2.2.2.1,0,arr_0.2.2.2.2.2.2.2.2.2) arr_0) fun r20=>
     some ((r20.1.1,()),())
    else
     some ((false,()),())
   else
    some ((false,()),())
  else
   some ((false,()),())
 else
 bif arr_0.1==8 then
  bif arr_0.1==8 then
   Option.bind (Qla (arr_0.2.2.2.2.2.2.2.1,arr_0.2.2.2.2.2.2.2.2.1)) fun r21=>
   bif r21.1.1 then
    Option.bind (Qkb (arr_0.1,arr_0.2.1,arr_0.2.2.1,arr_0.2.2.2.1,0,0,[],arr_0.2.2.2.2.2.2.2.1,arr_0.2.2.2.2.2.2.2.2.1,(⟨#[]⟩:ByteArray)) arr_0) fun r22=>
    some ((r22.1.1,()),())
   else
    some ((false,()),())
  else
   Option.bind (Qkb (arr_0.1,arr_0.2.1,arr_0.2.2.1,arr_0.2.2.2.1,0,0,[],0,0,(⟨#[]⟩:ByteArray)) arr_0) fun r23=>
   some ((r23.1.1,()),())
 else
 bif arr_0.1==9 then
  Option.bind (Qla (arr_0.2.2.2.2.2.2.2.1,arr_0.2.2.2.2.2.2.2.2.1)) fun r24=>
  bif r24.1.1 then
   Option.bind (Qkb (arr_0.1,arr_0.2.1,arr_0.2.2.1,arr_0.2.2.2.1,0,0,[],arr_0.2.2.2.2.2.2.2.1,arr_0.2.2.2.2.2.2.2.2.1,(⟨#[]⟩:ByteArray)) arr_0) fun r25=>
   some ((r25.1.1,()),())
  else
   some ((false,()),())
 else
  Option.bind (Qkb (arr_0.1,arr_0.2.1,arr_0.2.2.1,arr_0.2.2.2.1,0,0,[],0,0,(⟨#[]⟩:ByteArray)) arr_0) fun r26=>
  some ((r26.1.1,()),())
noncomputable def Z0d:Ent:=⟨[.val t45],[⟨t4,[false],none⟩],fun x=>Qti x.1⟩
theorem Z66:GD 50 Z0d:=fnk 1 (fr [[1,9,0,11,14,0,16,19,0,21,24,0,26,29,0,31,34,0,38,41,0,43,46,0,48,77,0,79,82,0,84,87,0,89,92,0,94,104,0,106,113,0,115,129,0,131,134,0,137,156,0,158],[1,49,77,0,79,82,0,84,87,0,89,92,0,94,104,0,106,113,0,115,129,0,131,134,0,137,156,0,158],[2],[1,3,77,0,79,82,0,84,87,0,89,92,0,94,104,0,106,113,0,115,129,0,131,134,0,137,156,0,158],[1,3,4,77,0,79,82,0,84,87,0,89,92,0,94,104,0,106,113,0,115,129,0,131,134,0,137,156,0,158],[1,3,4,60,77,0,79,82,0,84,87,0,89,92,0,94,104,0,106,113,0,115,129,0,131,134,0,137,156,0,158],[1,3,4,60,61,77,0,79,82,0,84,87,0,89,92,0,94,104,0,106,113,0,115,129,0,131,134,0,137,156,0,158],[1,3,4,60,61,77,0,79,82,0,84,87,0,89,92,0,94,104,0,106,113,0,115,129,0,131,134,0,137,156,0,158],[1,3,77,0,79,82,0,84,87,0,89,92,0,94,104,0,106,113,0,115,156,0,158],[1,3,4,104,0,106,113,0,115,156,0,158],[1,3,4,98,104,0,106,113,0,115,156,0,158],[1,3,4,104,0,106,156,0,158],[1,3,4,156,0,158],[1,3,4,113,0,115,156,0,158],[1,3,4,156,0,158],[1,3,4,60,117,129,0,131,134,0,137,156,0,158],[1,3,129,0,131,134,0,137,156,0,158],[1,3,4,156,0,158],[1,3,4,60,139,156,0,158],[1,3,4,139,156,0,158],[1,3,156,0,158],[1,3,4,156,0,158],[2]]) (Qjy Z5j (Qjy Qxh (Qjy Z9r (Qjy Qx4 Qk3)))) Tryz.func50
abbrev Qnc:Type:=((List Int) × Unit) × Unit
noncomputable def Za1:Ctx:=[]
def Qz8:Fi:=fo [[0,1],[1,5],[1,5,10],[1,5],[4]]
abbrev Qto:Type:=Int→List Int→Option Qnc
noncomputable def Qqt (L1:Qto) (v1:Int) (v2:List Int):Option Qnc:=
 bif decide (v1 ≥ 128) then
  bif Nat.ble (v2.length+1) 1073741824 then
   L1 (IntKind.wrap .i64 (Int.tdiv v1 128)) (v2++[IntKind.wrap .u8 (IntKind.wrap .i64 ((Int.tmod v1 128)+128))])
  else none
 else
 bif Nat.ble (v2.length+1) 1073741824 then
  some ((v2++[IntKind.wrap .u8 v1],()),())
 else none
noncomputable def Qrh (L1:Qto) (b_0:List Int) (v_1:Int):Option Qnc:=
 bif Nat.ble (0+b_0.length) 1073741824 then
  L1 v_1 ([]++b_0)
 else none
noncomputable def Qo9 (n:Nat):Nat→Qto:=iter (fun _ _=>none) fun L=>Qqt L
noncomputable def Qr5 (n m:Nat) (v1:Int) (v2:List Int):Option Qnc:=
 Qjv Za1 tab (fiB [.val t25,.val t2] Qz8) n [.val t25,.val t2] [⟨t25,[true],none⟩] Tryz.f51 [1,1,0,0] [] [1,5] m
 ⟨[(1,Vp t2 v1),(5,V1 (.ref (888888,5)))],[((888888,5),Ob.row 5 t5 v2)]⟩
theorem Qy0 (n:Nat):∀ m,Qr5 n m=Qo9 n m
 | 0=>rfl
 | m+1=>by rw [show Qr5 n (m+1)=Qqt (Qr5 n m) from by kernel_rfl,Qy0 n m];rfl
noncomputable def Z0a (n:Nat) (b_0:List Int) (v_1:Int):Option Qnc:=Qrh (Qo9 n n) b_0 v_1
noncomputable def Qtd (b_0:List Int) (v_1:Int):Option Qnc:=Z0a 1099511627776 b_0 v_1
noncomputable def Z00:Ent:=⟨[.val t25,.val t2],[⟨t25,[true],none⟩],fun x=>Qtd x.1 x.2.1⟩
theorem Qwx:GD 51 Z00:=fnl Qz8 (fun n x=>Z0a n x.1 x.2.1) Qk3 Tryz.func51 fun n x=>Eq.trans (b:=Qrh (Qr5 n n) x.1 x.2.1) (by kernel_rfl) (by rw [Qy0 n n];rfl)
noncomputable def Qsh (b_0:List Int) (s_1:ByteArray):Option (((List Int) × Unit) × Unit):=
 Option.bind (Qtd b_0 (s_1.size:Int)) fun r1=>
 bif Nat.ble (r1.1.1.length+(s_1.data.toList.map fun b=>(b.toNat:Int)).length) 1073741824 then
  some ((r1.1.1++(s_1.data.toList.map fun b=>(b.toNat:Int)),()),())
 else none
noncomputable def Qz5:Ent:=⟨[.val t25,.val t9],[⟨t25,[true],none⟩],fun x=>Qsh x.1 x.2.1⟩
theorem Z4s:GD 52 Qz5:=fnk 1 (fo [[0,1],[4]]) (Qjy Qwx Qk3) Tryz.func52
abbrev Qm8:Type:=(Int × Unit) × Unit
noncomputable def Z5g:Ctx:=[]
def Qxm:Fi:=fo [[0],[0,3],[0,3,4],[0,3,4,9],[0,3,4],[0,3,4],[0,3,4,5],[0,3,4,5,20],[0,3,4,5],[0,3,4,5,25],[0,3,4,5],[0,3,4,5],[2]]
abbrev Qte:Type:=List Int→Int→Int→Option Qm8
abbrev Qwn:Type:=List Int→Int→Int→Int→Option Qm8
noncomputable def Qos (L2:Qwn) (v1:List Int) (v2 v3:Int):Option Qm8:=
 bif decide (v3<(v1.length:Int)) then
  bif decide (0≤v3)&&decide (v3<(v1.length:Int)) then
   L2 v1 (IntKind.wrap .u32 ((BitVec.ofInt 32 v2 ^^^ BitVec.ofInt 32 (IntKind.wrap .u32 (List.getD v1 v3.toNat 0))).toNat)) v3 0
  else none
 else
  some ((IntKind.wrap .u32 ((BitVec.ofInt 32 4294967295 ^^^ BitVec.ofInt 32 v2).toNat),()),())
noncomputable def Qoz (L2:Qwn) (L1:Qte) (v4:List Int) (v5 v6 v7:Int):Option Qm8:=
 bif decide (v7<8) then
  bif (Int.tmod v5 2)==1 then
   L2 v4 (IntKind.wrap .u32 ((BitVec.ofInt 32 (IntKind.wrap .u32 (Int.tdiv v5 2)) ^^^ BitVec.ofInt 32 3988292384).toNat)) v6 (IntKind.wrap .i64 (v7+1))
  else
   L2 v4 (IntKind.wrap .u32 (Int.tdiv v5 2)) v6 (IntKind.wrap .i64 (v7+1))
 else
  L1 v4 v5 (IntKind.wrap .i64 (v6+1))
noncomputable def Z4n (L1:Qte) (b_0:List Int):Option Qm8:=
 L1 b_0 4294967295 0
noncomputable def Qn8 (n:Nat) (m1:Nat) (r1:Qte):Nat→Qwn:=iter (fun _ _ _ _=>none) fun L=>Qoz L r1
noncomputable def Qon (n:Nat):Nat→Qte:=Qjg (fun _ _ _=>none) fun m L=>Qos (Qn8 n m L n)
noncomputable def Qqn (n m:Nat) (v1:List Int) (v2 v3:Int):Option Qm8:=
 Qjv Z5g tab (fiB [.val t25] Qxm) n [.val t25] [⟨t91,[false],none⟩] Tryz.f53 [1,1,0,1,0] [] [0,3,4] m
 ⟨[(0,Vp t25 v1),(3,Vp t91 v2),(4,Vp t2 v3)],[]⟩
noncomputable def Qtb (n m1 m:Nat) (v4:List Int) (v5 v6 v7:Int):Option Qm8:=
 Qjv Z5g tab (fiB [.val t25] Qxm) n [.val t25] [⟨t91,[false],none⟩] Tryz.f53 [1,1,0,1,0,0,1,0,0,1,1,0] [(m1,[0,3,4])] [0,3,4,5] m
 ⟨[(0,Vp t25 v4),(3,Vp t91 v5),(4,Vp t2 v6),(5,Vp t2 v7)],[]⟩
theorem Z28 (n m1:Nat):∀ m,Qtb n m1 m=Qn8 n m1 (Qqn n m1) m
 | 0=>rfl
 | m+1=>by rw [show Qtb n m1 (m+1)=Qoz (Qtb n m1 m) (Qqn n m1) from by kernel_rfl,Z28 n m1 m];rfl
theorem Z1p (n:Nat):∀ m,Qqn n m=Qon n m
 | 0=>rfl
 | m+1=>by rw [show Qqn n (m+1)=Qos (Qtb n m n) from by kernel_rfl,Z28 n m n,Z1p n m];rfl
noncomputable def Z5r (n:Nat) (b_0:List Int):Option Qm8:=Z4n (Qon n n) b_0
noncomputable def Z2c (b_0:List Int):Option Qm8:=Z5r 1099511627776 b_0
noncomputable def Z4v:Ent:=⟨[.val t25],[⟨t91,[false],none⟩],fun x=>Z2c x.1⟩
theorem Z9t:GD 53 Z4v:=fnl Qxm (fun n x=>Z5r n x.1) Qk3 Tryz.func53 fun n x=>Eq.trans (b:=Z4n (Qqn n n) x.1) (by kernel_rfl) (by rw [Z1p n n];rfl)
abbrev Qna:Type:=((List Int) × Unit) × Unit
noncomputable def Za8:Ctx:=[(50,Z0d),(51,Z00),(52,Qz5),(53,Z4v)]
def Qyw:Fi:={ keep:=[],vty:=[(4,25)],vals:=[],live:=[(0,[1]),(1,[1,9]),(2,[2]),(3,[1,3]),(4,[1,3]),(5,[1,3,4]),(6,[1,3,4,5]),(7,[1,3,4,5,39]),(8,[1,3,4,5]),(9,[1,3,4,5]),(10,[4]),(11,[4,6]),(12,[2])] }
abbrev Qtx:Type:=Int→Int→Int→Int→Int→Int→Int→List Int→Int→Int→ByteArray→List Int→List Int→Option Qna
noncomputable def Qn2 (L1:Qtx) (v2 v3 v4 v5 v6 v7 v8:Int) (v9:List Int) (v10 v11:Int) (v12:ByteArray) (v13 v14:List Int):Option Qna:=
 bif decide (v2<(v13.length:Int)) then
  bif decide (0≤v2)&&decide (v2<(v13.length:Int)) then
   bif decide (0≤v2)&&decide (v2<(v13.length:Int)) then
    Option.bind (Qtd v14 (List.getD v13 v2.toNat 0)) fun r15=>
    L1 (IntKind.wrap .i64 (v2+1)) v3 v4 v5 v6 v7 v8 v9 v10 v11 v12 v13 r15.1.1
   else none
  else none
 else
  Option.bind (Qsh v14 v12) fun r16=>
  Option.bind (Z2c r16.1.1) fun r17=>
  bif Nat.ble (r16.1.1.length+4) 1073741824 then
   some ((r16.1.1++[IntKind.wrap .u8 (Int.fdiv r17.1.1 (2 ^ 24)),IntKind.wrap .u8 (Int.fdiv r17.1.1 (2 ^ 16)),IntKind.wrap .u8 (Int.fdiv r17.1.1 (2 ^ 8)),IntKind.wrap .u8 r17.1.1],()),())
  else none
noncomputable def Qri (L1:Qtx) (m_0:Qwl):Option Qna:=
 Option.bind (Qti m_0) fun r1=>
 bif !r1.1.1 then
  some (([],()),())
 else
 bif Nat.ble (7+m_0.2.2.2.2.2.2.1.length) 1073741824 then
  bif Nat.ble (([m_0.1,m_0.2.1,m_0.2.2.1,m_0.2.2.2.1,m_0.2.2.2.2.1,m_0.2.2.2.2.2.1,(m_0.2.2.2.2.2.2.1.length:Int)]++m_0.2.2.2.2.2.2.1).length+2) 1073741824 then
   L1 0 m_0.1 m_0.2.1 m_0.2.2.1 m_0.2.2.2.1 m_0.2.2.2.2.1 m_0.2.2.2.2.2.1 m_0.2.2.2.2.2.2.1 m_0.2.2.2.2.2.2.2.1 m_0.2.2.2.2.2.2.2.2.1 m_0.2.2.2.2.2.2.2.2.2 (([m_0.1,m_0.2.1,m_0.2.2.1,m_0.2.2.2.1,m_0.2.2.2.2.1,m_0.2.2.2.2.2.1,(m_0.2.2.2.2.2.2.1.length:Int)]++m_0.2.2.2.2.2.2.1)++[m_0.2.2.2.2.2.2.2.1,m_0.2.2.2.2.2.2.2.2.1]) []
  else none
 else none
noncomputable def Qmz (n:Nat):Nat→Qtx:=iter (fun _ _ _ _ _ _ _ _ _ _ _ _ _=>none) fun L=>Qn2 L
noncomputable def Qr3 (n m:Nat) (v2 v3 v4 v5 v6 v7 v8:Int) (v9:List Int) (v10 v11:Int) (v12:ByteArray) (v13 v14:List Int):Option Qna:=
 Qjv Za8 tab (fiB [.val t45] Qyw) n [.val t45] [⟨t25,[true],none⟩] Tryz.f19 [1,1,1,1,1,0,1,0] [] [1,3,4,5] m
 ⟨[(1,V1 (.ptr (1,0) 0)),(3,V1 (.ref (888888,3))),(4,V1 (.ref (888888,4))),(5,Vp t2 v2)],[((1,0),Ob.box 46 [LV.pure t2 v3,LV.pure t2 v4,LV.pure t2 v5,LV.pure t2 v6,LV.pure t2 v7,LV.pure t2 v8,LV.pure t28 v9,LV.pure t2 v10,LV.pure t2 v11,LV.pure t9 v12]),((888888,3),Ob.row 3 t2 v13),((888888,4),Ob.row 5 t5 v14)]⟩
theorem Qy3 (n:Nat):∀ m,Qr3 n m=Qmz n m
 | 0=>rfl
 | m+1=>by rw [show Qr3 n (m+1)=Qn2 (Qr3 n m) from by kernel_rfl,Qy3 n m];rfl
noncomputable def Qzx (n:Nat) (m_0:Qwl):Option Qna:=Qri (Qmz n n) m_0
noncomputable def Qol (m_0:Qwl):Option Qna:=Qzx 1099511627776 m_0
noncomputable def Qzt:Ent:=⟨[.val t45],[⟨t25,[true],none⟩],fun x=>Qol x.1⟩
theorem Z6h:GD 19 Qzt:=fnl Qyw (fun n x=>Qzx n x.1) (Qjy Z66 (Qjy Qwx (Qjy Z4s (Qjy Z9t Qk3)))) Tryz.func19 fun n x=>Eq.trans (b:=Qri (Qr3 n n) x.1) (by kernel_rfl) (by rw [Qy3 n n];rfl)
abbrev Qmy:Type:=(Bool × Unit) × Unit
noncomputable def Z91:Ctx:=[]
def Qy9:Fi:=fo [[0,1],[0,1,10],[4],[0,1,5],[0,1,5,14],[0,1,5],[0,1,5,25],[4],[4]]
abbrev Qt7:Type:=Qlv→Qlv→Int→Option Qmy
noncomputable def Qmp (L1:Qt7) (v1 v2:Qlv) (v3:Int):Option Qmy:=
 bif decide (v3<(v1.length:Int)) then
  bif decide (0≤v3)&&decide (v3<(v1.length:Int)) then
   bif decide (0≤v3)&&decide (v3<(v2.length:Int)) then
    bif !((((List.getD v1 v3.toNat (0,0,0)).1)==((List.getD v2 v3.toNat (0,0,0)).1))&&(((((List.getD v1 v3.toNat (0,0,0)).2).1)==(((List.getD v2 v3.toNat (0,0,0)).2).1))&&(((((List.getD v1 v3.toNat (0,0,0)).2).2)==(((List.getD v2 v3.toNat (0,0,0)).2).2))&&true))) then
     some ((false,()),())
    else
     L1 v1 v2 (IntKind.wrap .i64 (v3+1))
   else none
  else none
 else
  some ((true,()),())
noncomputable def Qqk (L1:Qt7) (a_0 b_1:Qlv):Option Qmy:=
 bif (a_0.length:Int) != (b_1.length:Int) then
  some ((false,()),())
 else
  L1 a_0 b_1 0
noncomputable def Qmn (n:Nat):Nat→Qt7:=iter (fun _ _ _=>none) fun L=>Qmp L
noncomputable def Qqd (n m:Nat) (v1 v2:Qlv) (v3:Int):Option Qmy:=
 Qjv Z91 tab (fiB [.val t29,.val t29] Qy9) n [.val t29,.val t29] [⟨t4,[false],none⟩] Tryz.f82 [1,1,0,1,0] [] [0,1,5] m
 ⟨[(0,Vp t29 v1),(1,Vp t29 v2),(5,Vp t2 v3)],[]⟩
theorem Qww (n:Nat):∀ m,Qqd n m=Qmn n m
 | 0=>rfl
 | m+1=>by rw [show Qqd n (m+1)=Qmp (Qqd n m) from by kernel_rfl,Qww n m];rfl
noncomputable def Qz4 (n:Nat) (a_0 b_1:Qlv):Option Qmy:=Qqk (Qmn n n) a_0 b_1
noncomputable def Qvo (a_0 b_1:Qlv):Option Qmy:=Qz4 1099511627776 a_0 b_1
noncomputable def Z82:Ent:=⟨[.val t29,.val t29],[⟨t4,[false],none⟩],fun x=>Qvo x.1 x.2.1⟩
theorem Z53:GD 82 Z82:=fnl Qy9 (fun n x=>Qz4 n x.1 x.2.1) Qk3 Tryz.func82 fun n x=>Eq.trans (b:=Qqk (Qqd n n) x.1 x.2.1) (by kernel_rfl) (by rw [Qww n n];rfl)
noncomputable def Qsc (a_0 b_1:Qvr):Option ((Bool × Unit) × Unit):=
 bif a_0.1==b_1.1 then
  bif a_0.2.1==b_1.2.1 then
   bif a_0.2.2.1==b_1.2.2.1 then
    bif (g3 a_0)==(g3 b_1) then
     bif (g4 a_0)==(g4 b_1) then
      bif (g5 a_0)==(g5 b_1) then
       Option.bind (Qs8 (g6 a_0) (g6 b_1)) fun r1=>
       bif r1.1.1 then
        bif (g7 a_0)==(g7 b_1) then
         bif (g8 a_0)==(g8 b_1) then
          bif (g9 a_0)==(g9 b_1) then
           bif (g10 a_0)==(g10 b_1) then
            bif (g11 a_0)==(g11 b_1) then
            Option.bind (Qvo (h12 a_0) (h12 b_1)) fun r2=>
            some ((r2.1.1,()),())
            else
            some ((false,()),())
           else
            some ((false,()),())
          else
           some ((false,()),())
         else
          some ((false,()),())
        else
         some ((false,()),())
       else
        some ((false,()),())
      else
       some ((false,()),())
     else
      some ((false,()),())
    else
     some ((false,()),())
   else
    some ((false,()),())
  else
   some ((false,()),())
 else
  some ((false,()),())
noncomputable def Z8z:Ent:=⟨[.val t30,.val t30],[⟨t4,[false],none⟩],fun x=>Qsc x.1 x.2.1⟩
theorem Z5b:GD 39 Z8z:=fnk 1 (fr [[2,3,11,0,15,18,0,22,25,0,29,32,0,36,39,0,43,46,0,50,53,0,57,60,0,64,67,0,71,74,0,78,81,0,85,88,0,92],[4]]) (Qjy Qw7 (Qjy Z53 Qk3)) Tryz.func39
abbrev Qm7:Type:=(Bool × Unit) × Unit
noncomputable def Z6c:Ctx:=[]
def Qw5:Fi:=fo [[0,1],[0,1,10],[4],[0,1,5],[0,1,5,14],[0,1,5],[0,1,5,25],[4],[4]]
abbrev Qru:Type:=Qkj→Qkj→Int→Option Qm7
noncomputable def Qlz (L1:Qru) (v1 v2:Qkj) (v3:Int):Option Qm7:=
 bif decide (v3<(v1.length:Int)) then
  bif decide (0≤v3)&&decide (v3<(v1.length:Int)) then
   bif decide (0≤v3)&&decide (v3<(v2.length:Int)) then
    bif !((((List.getD v1 v3.toNat (0,(⟨#[]⟩:ByteArray))).1)==((List.getD v2 v3.toNat (0,(⟨#[]⟩:ByteArray))).1))&&((Qeq ((List.getD v1 v3.toNat (0,(⟨#[]⟩:ByteArray))).2) ((List.getD v2 v3.toNat (0,(⟨#[]⟩:ByteArray))).2))&&true)) then
     some ((false,()),())
    else
     L1 v1 v2 (IntKind.wrap .i64 (v3+1))
   else none
  else none
 else
  some ((true,()),())
noncomputable def Qpg (L1:Qru) (a_0 b_1:Qkj):Option Qm7:=
 bif (a_0.length:Int) != (b_1.length:Int) then
  some ((false,()),())
 else
  L1 a_0 b_1 0
noncomputable def Qlr (n:Nat):Nat→Qru:=iter (fun _ _ _=>none) fun L=>Qlz L
noncomputable def Qop (n m:Nat) (v1 v2:Qkj) (v3:Int):Option Qm7:=
 Qjv Z6c tab (fiB [.val t32,.val t32] Qw5) n [.val t32,.val t32] [⟨t4,[false],none⟩] Tryz.f83 [1,1,0,1,0] [] [0,1,5] m
 ⟨[(0,Vp t32 v1),(1,Vp t32 v2),(5,Vp t2 v3)],[]⟩
theorem Qv9 (n:Nat):∀ m,Qop n m=Qlr n m
 | 0=>rfl
 | m+1=>by rw [show Qop n (m+1)=Qlz (Qop n m) from by kernel_rfl,Qv9 n m];rfl
noncomputable def Qx6 (n:Nat) (a_0 b_1:Qkj):Option Qm7:=Qpg (Qlr n n) a_0 b_1
noncomputable def Qqp (a_0 b_1:Qkj):Option Qm7:=Qx6 1099511627776 a_0 b_1
noncomputable def Z5y:Ent:=⟨[.val t32,.val t32],[⟨t4,[false],none⟩],fun x=>Qqp x.1 x.2.1⟩
theorem Z2p:GD 83 Z5y:=fnl Qw5 (fun n x=>Qx6 n x.1 x.2.1) Qk3 Tryz.func83 fun n x=>Eq.trans (b:=Qpg (Qop n n) x.1 x.2.1) (by kernel_rfl) (by rw [Qv9 n n];rfl)
abbrev Qlt:Type:=(Bool × Unit) × Unit
noncomputable def Z5q:Ctx:=[]
def Qve:Fi:=fo [[0,1],[0,1,10],[4],[0,1,5],[0,1,5,14],[0,1,5],[0,1,5,25],[4],[4]]
abbrev Qr8:Type:=Qnj→Qnj→Int→Option Qlt
noncomputable def Qlj (L1:Qr8) (v1 v2:Qnj) (v3:Int):Option Qlt:=
 bif decide (v3<(v1.length:Int)) then
  bif decide (0≤v3)&&decide (v3<(v1.length:Int)) then
   bif decide (0≤v3)&&decide (v3<(v2.length:Int)) then
    bif !((((List.getD v1 v3.toNat Zm2).1)==((List.getD v2 v3.toNat Zm2).1))&&(((((List.getD v1 v3.toNat Zm2).2).1)==(((List.getD v2 v3.toNat Zm2).2).1))&&((((((List.getD v1 v3.toNat Zm2).2).2).1)==((((List.getD v2 v3.toNat Zm2).2).2).1))&&((Qeq (((((List.getD v1 v3.toNat Zm2).2).2).2).1) (((((List.getD v2 v3.toNat Zm2).2).2).2).1))&&(((((((List.getD v1 v3.toNat Zm2).2).2).2).2)==(((((List.getD v2 v3.toNat Zm2).2).2).2).2))&&true))))) then
     some ((false,()),())
    else
     L1 v1 v2 (IntKind.wrap .i64 (v3+1))
   else none
  else none
 else
  some ((true,()),())
noncomputable def Qoq (L1:Qr8) (a_0 b_1:Qnj):Option Qlt:=
 bif (a_0.length:Int) != (b_1.length:Int) then
  some ((false,()),())
 else
  L1 a_0 b_1 0
noncomputable def Qll (n:Nat):Nat→Qr8:=iter (fun _ _ _=>none) fun L=>Qlj L
noncomputable def Qo4 (n m:Nat) (v1 v2:Qnj) (v3:Int):Option Qlt:=
 Qjv Z5q tab (fiB [.val t33,.val t33] Qve) n [.val t33,.val t33] [⟨t4,[false],none⟩] Tryz.f84 [1,1,0,1,0] [] [0,1,5] m
 ⟨[(0,Vp t33 v1),(1,Vp t33 v2),(5,Vp t2 v3)],[]⟩
theorem Qur (n:Nat):∀ m,Qo4 n m=Qll n m
 | 0=>rfl
 | m+1=>by rw [show Qo4 n (m+1)=Qlj (Qo4 n m) from by kernel_rfl,Qur n m];rfl
noncomputable def Qwh (n:Nat) (a_0 b_1:Qnj):Option Qlt:=Qoq (Qll n n) a_0 b_1
noncomputable def Qt6 (a_0 b_1:Qnj):Option Qlt:=Qwh 1099511627776 a_0 b_1
noncomputable def Z59:Ent:=⟨[.val t33,.val t33],[⟨t4,[false],none⟩],fun x=>Qt6 x.1 x.2.1⟩
theorem Z25:GD 84 Z59:=fnl Qve (fun n x=>Qwh n x.1 x.2.1) Qk3 Tryz.func84 fun n x=>Eq.trans (b:=Qoq (Qo4 n n) x.1 x.2.1) (by kernel_rfl) (by rw [Qur n n];rfl)
noncomputable def Qrr (a_0 b_1:Qxo):Option ((Bool × Unit) × Unit):=
 bif a_0.1==b_1.1 then
  bif a_0.2.1==b_1.2.1 then
   Option.bind (Qqp a_0.2.2.1 b_1.2.2.1) fun r1=>
   bif r1.1.1 then
    Option.bind (Qqp (g3 a_0) (g3 b_1)) fun r2=>
    bif r2.1.1 then
     Option.bind (Qt6 (g4 a_0) (g4 b_1)) fun r3=>
     bif r3.1.1 then
      some ((((g5 a_0)==(g5 b_1))&&(((h6 a_0)==(h6 b_1))&&true),()),())
     else
      some ((false,()),())
    else
     some ((false,()),())
   else
    some ((false,()),())
  else
   some ((false,()),())
 else
  some ((false,()),())
noncomputable def Z7d:Ent:=⟨[.val t36,.val t36],[⟨t4,[false],none⟩],fun x=>Qrr x.1 x.2.1⟩
theorem Z4j:GD 40 Z7d:=fnk 1 (fr [[2,3,11,0,15,18,0,22,25,0,29,32,0,36,39,0,43],[4]]) (Qjy Z2p (Qjy Z25 Qk3)) Tryz.func40
noncomputable def Qmk (a_0 b_1:Zen):Option ((Bool × Unit) × Unit):=
 bif a_0.1==b_1.1 then
  bif a_0.2.1==b_1.2.1 then
   bif Qeq a_0.2.2.1 b_1.2.2.1 then
    Option.bind (Qsc (g3 a_0) (g3 b_1)) fun r1=>
    bif r1.1.1 then
     Option.bind (Qrr (g4 a_0) (g4 b_1)) fun r2=>
     bif r2.1.1 then
      some (((h5 a_0)==(h5 b_1),()),())
     else
      some ((false,()),())
    else
     some ((false,()),())
   else
    some ((false,()),())
  else
   some ((false,()),())
 else
  some ((false,()),())
noncomputable def Qy4:Ent:=⟨[.val t38,.val t38],[⟨t4,[false],none⟩],fun x=>Qmk x.1 x.2.1⟩
theorem Z4c:GD 15 Qy4:=fnk 1 (fr [[2,3,11,0,15,18,0,22,25,0,29,32,0,36,39,0,43],[4]]) (Qjy Z5b (Qjy Z4j Qk3)) Tryz.func15
abbrev Qk8:Type:=(Bool × Unit) × Unit
noncomputable def Qow:Ctx:=[(10,Z23),(15,Qy4),(16,Z3s),(18,Zem),(19,Qzt)]
def Qms:Fi:=fr [[0,1,2,3,4,58,0,62,109,0,130,152,0,165,168,0,175,178,0,185,188,0,195,198,0,206,209,0,218,230,0,257,271,0,276],[0,1,2,3,4,23,58,0,62,109,0,130,152,0,165,168,0,175,178,0,185,188,0,195,198,0,206,209,0,218,230,0,257,271,0,276],[10],[0,1,2,3,4,26,58,0,62,109,0,130,152,0,165,168,0,175,178,0,185,188,0,195,198,0,206,209,0,218,230,0,257,271,0,276],[10],[0,1,2,3,11,58,0,62,109,0,130,152,0,165,168,0,175,178,0,185,188,0,195,198,0,206,209,0,218,230,0,257,271,0,276],[1,2,3,11,12,58,0,62,109,0,130,152,0,165,168,0,175,178,0,185,188,0,195,198,0,206,209,0,218,230,0,257,271,0,276],[1,3,11,0,13,58,0,62,109,0,130,152,0,165,168,0,175,178,0,185,188,0,195,198,0,206,209,0,218,230,0,257,271,0,276],[1,11,0,13,58,0,62,109,0,130,152,0,165,168,0,175,178,0,185,188,0,195,198,0,206,209,0,218,230,0,257,271,0,276],[1,12,13,54,58,0,62,109,0,130,152,0,165,168,0,175,178,0,185,188,0,195,198,0,206,209,0,218,230,0,257,271,0,276],[10],[1,12,13,63,109,0,130,152,0,165,168,0,175,178,0,185,188,0,195,198,0,206,209,0,218,230,0,257,271,0,276],[12,0,14,109,0,130,152,0,165,168,0,175,178,0,185,188,0,195,198,0,206,209,0,218,230,0,257,271,0,276],[12,13,109,0,130,152,0,165,168,0,175,178,0,185,188,0,195,198,0,206,209,0,218,230,0,257,271,0,276],[12,13,87,109,0,130,152,0,165,168,0,175,178,0,185,188,0,195,198,0,206,209,0,218,230,0,257,271,0,276],[10],[12,13,15,16,109,0,130,152,0,165,168,0,175,178,0,185,188,0,195,198,0,206,209,0,218,230,0,257,271,0,276],[12,13,16,98,109,0,130,152,0,165,168,0,175,178,0,185,188,0,195,198,0,206,209,0,218,230,0,257,271,0,276],[10],[12,13,16,17,109,0,130,152,0,165,168,0,175,178,0,185,188,0,195,198,0,206,209,0,218,230,0,257,271,0,276],[12,13,16,0,18,109,0,130,152,0,165,168,0,175,178,0,185,188,0,195,198,0,206,209,0,218,230,0,257,271,0,276],[12,13,16,0,18,104,109,0,130,152,0,165,168,0,175,178,0,185,188,0,195,198,0,206,209,0,218,230,0,257,271,0,276],[12,13,16,0,18,109,0,130,152,0,165,168,0,175,178,0,185,188,0,195,198,0,206,209,0,218,230,0,257,271,0,276],[12,13,16,0,18,109,0,130,152,0,165,168,0,175,178,0,185,188,0,195,198,0,206,209,0,218,230,0,257,271,0,276],[12,13,16,133,152,0,165,168,0,175,178,0,185,188,0,195,198,0,206,209,0,218,230,0,257,271,0,276],[10],[12,13,16,19,152,0,165,168,0,175,178,0,185,188,0,195,198,0,206,209,0,218,230,0,257,271,0,276],[12,13,16,19,140,152,0,165,168,0,175,178,0,185,188,0,195,198,0,206,209,0,218,230,0,257,271,0,276],[12,13,16,19,152,0,165,168,0,175,178,0,185,188,0,195,198,0,206,209,0,218,230,0,257,271,0,276],[12,13,16,19,152,0,165,168,0,175,178,0,185,188,0,195,198,0,206,209,0,219,230,0,257,271,0,276],[10],[12,13,16,19,20,152,0,165,168,0,175,178,0,185,188,0,195,198,0,206,209,0,218,230,0,257,271,0,276],[12,13,16,19,0,21,152,0,165,168,0,175,178,0,185,188,0,195,198,0,206,209,0,218,230,0,257,271,0,276],[12,13,16,19,0,21,152,0,165,168,0,175,178,0,185,188,0,195,198,0,206,209,0,218,225,230,0,257,271,0,276],[12,13,16,19,0,21,152,0,165,168,0,175,178,0,185,188,0,195,198,0,206,209,0,218,230,0,257,271,0,276],[12,13,16,19,0,21,152,0,165,168,0,175,178,0,185,188,0,195,198,0,206,209,0,218,230,0,257,271,0,276],[12,13,16,19,152,0,165,168,0,175,178,0,185,188,0,195,198,0,206,209,0,218,230,0,257,266,271,0,276],[10],[10]]
abbrev Qo8:Type:=Bool→Int→Bool→Int→ByteArray→Int→Int→Int→Int→Int→Int→List Int→Int→Int→Int→Int→Int→Qlv→Int→Int→Qkj→Qkj→Qnj→Int→Int→Int→Int→Int→Int→Int→Int→Int→Int→Int→ByteArray→List Int→Qzk→Option Qk8
abbrev Qko:Type:=Int→Bool→Int→ByteArray→Int→Int→Int→Int→Int→Int→List Int→Int→Int→Int→Int→Int→Qlv→Int→Int→Qkj→Qkj→Qnj→Int→Int→Int→Int→Int→Int→Int→Int→Int→Int→Int→ByteArray→List Int→Qzk→Option Qk8
abbrev Qra:Type:=Int→Bool→Int→Int→Int→Int→Int→Bool→Bool→Int→Int→Int→Int→Bool→Bool→Int→Int→Int→Int→Int→Bool→Int→Int→Int→Int→Int→Bool→Int→Int→Int→Int→Int→Bool→Int→Int→Int→Int→Int→Bool→Int→Int→Int→Int→Int→Int→Bool→Int→Int→Int→Int→Int→Int→Int→Int→ByteArray→List Int→Qzk→Bool→Int→ByteArray→Int→Int→Int→Int→Int→Int→List Int→Int→Int→Int→Int→Int→Qlv→Int→Int→Qkj→Qkj→Qnj→Int→Int→Int→Option Qk8
abbrev Qr9:Type:=Int→Bool→Int→Int→Int→Int→Int→Bool→Bool→Bool→Int→Int→Int→Int→Int→Bool→Int→Int→Int→Int→Int→Bool→Int→Int→Int→Int→Int→Bool→Int→Int→Int→Int→Int→Bool→Int→Int→Int→Int→Int→Int→Bool→Int→Int→Int→Int→Int→Int→Int→Int→ByteArray→List Int→Qzk→Bool→Int→ByteArray→Int→Int→Int→Int→Int→Int→List Int→Int→Int→Int→Int→Int→Qlv→Int→Int→Qkj→Qkj→Qnj→Int→Int→Int→Option Qk8
noncomputable def Qr6 (x_1:Int) (r2:(Zen × Unit) × Unit) (x_4 x_2 x_3:Int) (L1:Qo8):Option Qk8:=
 bif (IntKind.wrap .i64 (1+(IntKind.wrap .i64 (Int.tmod x_1 8))))==(g3 (g3 r2.1.1)) then
  some ((true,()),())
 else
  Option.bind (Qol (8,IntKind.wrap .i64 (1+(IntKind.wrap .i64 (Int.tmod x_1 8))),IntKind.wrap .i64 (1+(IntKind.wrap .i64 (Int.tmod x_4 8))),1,0,0,[],IntKind.wrap .i64 (1+(IntKind.wrap .i64 (Int.tmod x_2 12))),IntKind.wrap .i64 ((IntKind.wrap .i64 (1+(IntKind.wrap .i64 (Int.tmod x_2 12))))+(IntKind.wrap .i64 (Int.tmod x_3 12))),(⟨#[]⟩:ByteArray))) fun r236=>
  Option.bind (Qwd r2.1.1 r236.1.1) fun r237=>
  Option.bind (Qmk r237.1.1 r2.1.1) fun r238=>
  bif !r238.1.1 then
   some ((false,()),())
  else
   L1 false 0 r2.1.1.1 r2.1.1.2.1 r2.1.1.2.2.1 (g3 r2.1.1).1 (g3 r2.1.1).2.1 (g3 r2.1.1).2.2.1 (g3 (g3 r2.1.1)) (g4 (g3 r2.1.1)) (g5 (g3 r2.1.1)) (g6 (g3 r2.1.1)) (g7 (g3 r2.1.1)) (g8 (g3 r2.1.1)) (g9 (g3 r2.1.1)) (g10 (g3 r2.1.1)) (g11 (g3 r2.1.1)) (h12 (g3 r2.1.1)) (g4 r2.1.1).1 (g4 r2.1.1).2.1 (g4 r2.1.1).2.2.1 (g3 (g4 r2.1.1)) (g4 (g4 r2.1.1)) (g5 (g4 r2.1.1)) (h6 (g4 r2.1.1)) (h5 r2.1.1) 8 (IntKind.wrap .i64 (1+(IntKind.wrap .i64 (Int.tmod x_1 8)))) (IntKind.wrap .i64 (1+(IntKind.wrap .i64 (Int.tmod x_4 8)))) 1 0 0 (IntKind.wrap .i64 (1+(IntKind.wrap .i64 (Int.tmod x_2 12)))) (IntKind.wrap .i64 ((IntKind.wrap .i64 (1+(IntKind.wrap .i64 (Int.tmod x_2 12))))+(IntKind.wrap .i64 (Int.tmod x_3 12)))) (⟨#[]⟩:ByteArray) [] r237.1.2.1
noncomputable def Qlo (L1:Qo8) (L2:Qko) (v6:Bool) (v7:Int) (v8:Bool) (v9:Int) (v10:ByteArray) (v11 v12 v13 v14 v15 v16:Int) (v17:List Int) (v18 v19 v20 v21 v22:Int) (v23:Qlv) (v24 v25:Int) (v26 v27:Qkj) (v28:Qnj) (v29 v30 v31 v32 v33 v34 v35 v36 v37 v38 v39:Int) (v40:ByteArray) (v41:List Int) (v42:Qzk):Option Qk8:=
 bif decide (v7<(v23.length:Int)) then
  bif v6 then
   L1 true (IntKind.wrap .i64 (v7+1)) v8 v9 v10 v11 v12 v13 v14 v15 v16 v17 v18 v19 v20 v21 v22 v23 v24 v25 v26 v27 v28 v29 v30 v31 v32 v33 v34 v35 v36 v37 v38 v39 v40 v41 v42
  else
  bif decide (0≤v7)&&decide (v7<(v23.length:Int)) then
   bif ((List.getD v23 v7.toNat (0,0,0)).1)==v33 then
    bif decide (0≤v7)&&decide (v7<(v23.length:Int)) then
     L1 ((((List.getD v23 v7.toNat (0,0,0)).2).1)==v35) (IntKind.wrap .i64 (v7+1)) v8 v9 v10 v11 v12 v13 v14 v15 v16 v17 v18 v19 v20 v21 v22 v23 v24 v25 v26 v27 v28 v29 v30 v31 v32 v33 v34 v35 v36 v37 v38 v39 v40 v41 v42
    else none
   else
    L1 false (IntKind.wrap .i64 (v7+1)) v8 v9 v10 v11 v12 v13 v14 v15 v16 v17 v18 v19 v20 v21 v22 v23 v24 v25 v26 v27 v28 v29 v30 v31 v32 v33 v34 v35 v36 v37 v38 v39 v40 v41 v42
  else none
 else
 bif !v6 then
  some (((v42.length:Int)==0,()),())
 else
  L2 0 v8 v9 v10 v11 v12 v13 v14 v15 v16 v17 v18 v19 v20 v21 v22 v23 v24 v25 v26 v27 v28 v29 v30 v31 v32 v33 v34 v35 v36 v37 v38 v39 v40 v41 v42
noncomputable def Qln (L3:Qra) (L4:Qr9) (v43:Int) (v44:Bool) (v45:Int) (v46:ByteArray) (v47 v48 v49 v50 v51 v52:Int) (v53:List Int) (v54 v55 v56 v57 v58:Int) (v59:Qlv) (v60 v61:Int) (v62 v63:Qkj) (v64:Qnj) (v65 v66 v67 v68 v69 v70 v71 v72 v73 v74 v75:Int) (v76:ByteArray) (v77:List Int) (v78:Qzk):Option Qk8:=
 bif decide (v43<(v78.length:Int)) then
  bif decide (0≤v43)&&decide (v43<(v78.length:Int)) then
   bif decide (0≤v43)&&decide (v43<(v78.length:Int)) then
    bif ((((List.getD v78 v43.toNat Qzj).2).2).1) != v69 then
     some ((false,()),())
    else
    bif decide (0≤v43)&&decide (v43<(v78.length:Int)) then
     bif decide (0≤v43)&&decide (v43<(v78.length:Int)) then
      bif ((List.getD v78 v43.toNat Qzj).1) != 7 then
       bif decide (0≤v43)&&decide (v43<(v78.length:Int)) then
        bif decide (0≤v43)&&decide (v43<(v78.length:Int)) then
         bif ((List.getD v78 v43.toNat Qzj).1) != 9 then
          some ((false,()),())
         else
         bif decide (0≤v43)&&decide (v43<(v78.length:Int)) then
          bif decide (0≤v43)&&decide (v43<(v78.length:Int)) then
           bif decide (((((((((List.getD v78 v43.toNat Qzj).2).2).2).2).2).2).2).1<v74) then
            some ((false,()),())
           else
           bif decide (0≤v43)&&decide (v43<(v78.length:Int)) then
            bif decide (0≤v43)&&decide (v43<(v78.length:Int)) then
            bif decide (((((((((List.getD v78 v43.toNat Qzj).2).2).2).2).2).2).2).1>v75) then
            some ((false,()),())
            else
            bif decide (0≤v43)&&decide (v43<(v78.length:Int)) then
            bif decide (0≤v43)&&decide (v43<(v78.length:Int)) then
            bif decide ((((((((((List.getD v78 v43.toNat Qzj).2).2).2).2).2).2).2).2).1>v75) then
            some ((false,()),())
            else
            bif decide (0≤v43)&&decide (v43<(v78.length:Int)) then
            bif decide (0≤v43)&&decide (v43<(v78.length:Int)) then
            bif decide (((((((((List.getD v78 v43.toNat Qzj).2).2).2).2).2).2).2).1 ≥ v60) then
            some ((false,()),())
            else
            bif decide (0≤v43)&&decide (v43<(v78.length:Int)) then
            bif decide (0≤v43)&&decide (v43<(v78.length:Int)) then
            bif decide ((((((((((List.getD v78 v43.toNat Qzj).2).2).2).2).2).2).2).2).1 ≥ (if 1>v60 then 1 else v60)) then
            some ((false,()),())
            else
            L3 v43 false 0 v43 v43 v43 ((List.getD v78 v43.toNat Qzj).1) (((List.getD v78 v43.toNat Qzj).1) != 7) true v43 v43 v43 ((List.getD v78 v43.toNat Qzj).1) (((List.getD v78 v43.toNat Qzj).1) != 9) (((List.getD v78 v43.toNat Qzj).1) != 9) v43 v43 v43 (((((((((List.getD v78 v43.toNat Qzj).2).2).2).2).2).2).2).1) v74 (decide (((((((((List.getD v78 v43.toNat Qzj).2).2).2).2).2).2).2).1<v74)) v43 v43 v43 (((((((((List.getD v78 v43.toNat Qzj).2).2).2).2).2).2).2).1) v75 (decide (((((((((List.getD v78 v43.toNat Qzj).2).2).2).2).2).2).2).1>v75)) v43 v43 v43 ((((((((((List.getD v78 v43.toNat Qzj).2).2).2).2).2).2).2).2).1) v75 (decide ((((((((((List.getD v78 v43.toNat Qzj).2).2).2).2).2).2).2).2).1>v75)) v43 v43 v43 (((((((((List.getD v78 v43.toNat Qzj).2).2).2).2).2).2).2).1) v60 (decide (((((((((List.getD v78 v43.toNat Qzj).2).2).2).2).2).2).2).1 ≥ v60)) v43 v43 v43 ((((((((((List.getD v78 v43.toNat Qzj).2).2).2).2).2).2).2).2).1) v60 (if 1>v60 then 1 else v60) (decide ((((((((((List.getD v78 v43.toNat Qzj).2).2).2).2).2).2).2).2).1 ≥ (if 1>v60 then 1 else v60))) v68 v69 v70 v71 v72 v73 v74 v75 v76 v77 v78 v44 v45 v46 v47 v48 v49 v50 v51 v52 v53 v54 v55 v56 v57 v58 v59 v60 v61 v62 v63 v64 v65 v66 v67
            else none
            else none
            else none
            else none
            else none
            else none
            else none
           else none
          else none
         else none
        else none
       else none
      else
      bif decide (0≤v43)&&decide (v43<(v78.length:Int)) then
       bif decide (0≤v43)&&decide (v43<(v78.length:Int)) then
        bif decide (((((((((List.getD v78 v43.toNat Qzj).2).2).2).2).2).2).2).1<v74) then
         some ((false,()),())
        else
        bif decide (0≤v43)&&decide (v43<(v78.length:Int)) then
         bif decide (0≤v43)&&decide (v43<(v78.length:Int)) then
          bif decide (((((((((List.getD v78 v43.toNat Qzj).2).2).2).2).2).2).2).1>v75) then
           some ((false,()),())
          else
          bif decide (0≤v43)&&decide (v43<(v78.length:Int)) then
           bif decide (0≤v43)&&decide (v43<(v78.length:Int)) then
            bif decide ((((((((((List.getD v78 v43.toNat Qzj).2).2).2).2).2).2).2).2).1>v75) then
            some ((false,()),())
            else
            bif decide (0≤v43)&&decide (v43<(v78.length:Int)) then
            bif decide (0≤v43)&&decide (v43<(v78.length:Int)) then
            bif decide (((((((((List.getD v78 v43.toNat Qzj).2).2).2).2).2).2).2).1 ≥ v60) then
            some ((false,()),())
            else
            bif decide (0≤v43)&&decide (v43<(v78.length:Int)) then
            bif decide (0≤v43)&&decide (v43<(v78.length:Int)) then
            bif decide ((((((((((List.getD v78 v43.toNat Qzj).2).2).2).2).2).2).2).2).1 ≥ (if 1>v60 then 1 else v60)) then
            some ((false,()),())
            else
            L4 v43 false 0 v43 v43 v43 ((List.getD v78 v43.toNat Qzj).1) (((List.getD v78 v43.toNat Qzj).1) != 7) false false v43 v43 v43 (((((((((List.getD v78 v43.toNat Qzj).2).2).2).2).2).2).2).1) v74 (decide (((((((((List.getD v78 v43.toNat Qzj).2).2).2).2).2).2).2).1<v74)) v43 v43 v43 (((((((((List.getD v78 v43.toNat Qzj).2).2).2).2).2).2).2).1) v75 (decide (((((((((List.getD v78 v43.toNat Qzj).2).2).2).2).2).2).2).1>v75)) v43 v43 v43 ((((((((((List.getD v78 v43.toNat Qzj).2).2).2).2).2).2).2).2).1) v75 (decide ((((((((((List.getD v78 v43.toNat Qzj).2).2).2).2).2).2).2).2).1>v75)) v43 v43 v43 (((((((((List.getD v78 v43.toNat Qzj).2).2).2).2).2).2).2).1) v60 (decide (((((((((List.getD v78 v43.toNat Qzj).2).2).2).2).2).2).2).1 ≥ v60)) v43 v43 v43 ((((((((((List.getD v78 v43.toNat Qzj).2).2).2).2).2).2).2).2).1) v60 (if 1>v60 then 1 else v60) (decide ((((((((((List.getD v78 v43.toNat Qzj).2).2).2).2).2).2).2).2).1 ≥ (if 1>v60 then 1 else v60))) v68 v69 v70 v71 v72 v73 v74 v75 v76 v77 v78 v44 v45 v46 v47 v48 v49 v50 v51 v52 v53 v54 v55 v56 v57 v58 v59 v60 v61 v62 v63 v64 v65 v66 v67
            else none
            else none
            else none
            else none
           else none
          else none
         else none
        else none
       else none
      else none
     else none
    else none
   else none
  else none
 else
 bif decide ((v78.length:Int)>0) then
  some ((true,()),())
 else
  some ((decide (v74 ≥ v60),()),())
noncomputable def Qlm (L3:Qra) (L2:Qko) (v79:Int) (v80:Bool) (v81 v82 v83 v84 v85:Int) (v86 v87:Bool) (v88 v89 v90 v91:Int) (v92 v93:Bool) (v94 v95 v96 v97 v98:Int) (v99:Bool) (v100 v101 v102 v103 v104:Int) (v105:Bool) (v106 v107 v108 v109 v110:Int) (v111:Bool) (v112 v113 v114 v115 v116:Int) (v117:Bool) (v118 v119 v120 v121 v122 v123:Int) (v124:Bool) (v125 v126 v127 v128 v129 v130 v131 v132:Int) (v133:ByteArray) (v134:List Int) (v135:Qzk) (v136:Bool) (v137:Int) (v138:ByteArray) (v139 v140 v141 v142 v143 v144:Int) (v145:List Int) (v146 v147 v148 v149 v150:Int) (v151:Qlv) (v152 v153:Int) (v154 v155:Qkj) (v156:Qnj) (v157 v158 v159:Int):Option Qk8:=
 bif decide (v81<(v154.length:Int)) then
  bif v80 then
   L3 v79 true (IntKind.wrap .i64 (v81+1)) v82 v83 v84 v85 v86 v87 v88 v89 v90 v91 v92 v93 v94 v95 v96 v97 v98 v99 v100 v101 v102 v103 v104 v105 v106 v107 v108 v109 v110 v111 v112 v113 v114 v115 v116 v117 v118 v119 v120 v121 v122 v123 v124 v125 v126 v127 v128 v129 v130 v131 v132 v133 v134 v135 v136 v137 v138 v139 v140 v141 v142 v143 v144 v145 v146 v147 v148 v149 v150 v151 v152 v153 v154 v155 v156 v157 v158 v159
  else
  bif decide (0≤v81)&&decide (v81<(v154.length:Int)) then
   bif decide (0≤v79)&&decide (v79<(v135.length:Int)) then
    bif decide (0≤v79)&&decide (v79<(v135.length:Int)) then
     bif ((List.getD v154 v81.toNat (0,(⟨#[]⟩:ByteArray))).1)==(((((((((List.getD v135 v79.toNat Qzj).2).2).2).2).2).2).2).1) then
      bif decide (0≤v81)&&decide (v81<(v154.length:Int)) then
       bif decide (0≤v79)&&decide (v79<(v135.length:Int)) then
        bif decide (0≤v79)&&decide (v79<(v135.length:Int)) then
         L3 v79 (Qeq ((List.getD v154 v81.toNat (0,(⟨#[]⟩:ByteArray))).2) ((((((((((List.getD v135 v79.toNat Qzj).2).2).2).2).2).2).2).2).2)) (IntKind.wrap .i64 (v81+1)) v82 v83 v84 v85 v86 v87 v88 v89 v90 v91 v92 v93 v94 v95 v96 v97 v98 v99 v100 v101 v102 v103 v104 v105 v106 v107 v108 v109 v110 v111 v112 v113 v114 v115 v116 v117 v118 v119 v120 v121 v122 v123 v124 v125 v126 v127 v128 v129 v130 v131 v132 v133 v134 v135 v136 v137 v138 v139 v140 v141 v142 v143 v144 v145 v146 v147 v148 v149 v150 v151 v152 v153 v154 v155 v156 v157 v158 v159
        else none
       else none
      else none
     else
      L3 v79 false (IntKind.wrap .i64 (v81+1)) v82 v83 v84 v85 v86 v87 v88 v89 v90 v91 v92 v93 v94 v95 v96 v97 v98 v99 v100 v101 v102 v103 v104 v105 v106 v107 v108 v109 v110 v111 v112 v113 v114 v115 v116 v117 v118 v119 v120 v121 v122 v123 v124 v125 v126 v127 v128 v129 v130 v131 v132 v133 v134 v135 v136 v137 v138 v139 v140 v141 v142 v143 v144 v145 v146 v147 v148 v149 v150 v151 v152 v153 v154 v155 v156 v157 v158 v159
    else none
   else none
  else none
 else
 bif decide (0≤v79)&&decide (v79<(v135.length:Int)) then
  bif decide (0≤v79)&&decide (v79<(v135.length:Int)) then
   bif !(v80==(((List.getD v135 v79.toNat Qzj).1)==7)) then
    some ((false,()),())
   else
    L2 (IntKind.wrap .i64 (v79+1)) v136 v137 v138 v139 v140 v141 v142 v143 v144 v145 v146 v147 v148 v149 v150 v151 v152 v153 v154 v155 v156 v157 v158 v159 v125 v126 v127 v128 v129 v130 v131 v132 v133 v134 v135
  else none
 else none
noncomputable def Qli (L4:Qr9) (L2:Qko) (v160:Int) (v161:Bool) (v162 v163 v164 v165 v166:Int) (v167 v168 v169:Bool) (v170 v171 v172 v173 v174:Int) (v175:Bool) (v176 v177 v178 v179 v180:Int) (v181:Bool) (v182 v183 v184 v185 v186:Int) (v187:Bool) (v188 v189 v190 v191 v192:Int) (v193:Bool) (v194 v195 v196 v197 v198 v199:Int) (v200:Bool) (v201 v202 v203 v204 v205 v206 v207 v208:Int) (v209:ByteArray) (v210:List Int) (v211:Qzk) (v212:Bool) (v213:Int) (v214:ByteArray) (v215 v216 v217 v218 v219 v220:Int) (v221:List Int) (v222 v223 v224 v225 v226:Int) (v227:Qlv) (v228 v229:Int) (v230 v231:Qkj) (v232:Qnj) (v233 v234 v235:Int):Option Qk8:=
 bif decide (v162<(v230.length:Int)) then
  bif v161 then
   L4 v160 true (IntKind.wrap .i64 (v162+1)) v163 v164 v165 v166 v167 v168 v169 v170 v171 v172 v173 v174 v175 v176 v177 v178 v179 v180 v181 v182 v183 v184 v185 v186 v187 v188 v189 v190 v191 v192 v193 v194 v195 v196 v197 v198 v199 v200 v201 v202 v203 v204 v205 v206 v207 v208 v209 v210 v211 v212 v213 v214 v215 v216 v217 v218 v219 v220 v221 v222 v223 v224 v225 v226 v227 v228 v229 v230 v231 v232 v233 v234 v235
  else
  bif decide (0≤v162)&&decide (v162<(v230.length:Int)) then
   bif decide (0≤v160)&&decide (v160<(v211.length:Int)) then
    bif decide (0≤v160)&&decide (v160<(v211.length:Int)) then
     bif ((List.getD v230 v162.toNat (0,(⟨#[]⟩:ByteArray))).1)==(((((((((List.getD v211 v160.toNat Qzj).2).2).2).2).2).2).2).1) then
      bif decide (0≤v162)&&decide (v162<(v230.length:Int)) then
       bif decide (0≤v160)&&decide (v160<(v211.length:Int)) then
        bif decide (0≤v160)&&decide (v160<(v211.length:Int)) then
         L4 v160 (Qeq ((List.getD v230 v162.toNat (0,(⟨#[]⟩:ByteArray))).2) ((((((((((List.getD v211 v160.toNat Qzj).2).2).2).2).2).2).2).2).2)) (IntKind.wrap .i64 (v162+1)) v163 v164 v165 v166 v167 v168 v169 v170 v171 v172 v173 v174 v175 v176 v177 v178 v179 v180 v181 v182 v183 v184 v185 v186 v187 v188 v189 v190 v191 v192 v193 v194 v195 v196 v197 v198 v199 v200 v201 v202 v203 v204 v205 v206 v207 v208 v209 v210 v211 v212 v213 v214 v215 v216 v217 v218 v219 v220 v221 v222 v223 v224 v225 v226 v227 v228 v229 v230 v231 v232 v233 v234 v235
        else none
       else none
      else none
     else
      L4 v160 false (IntKind.wrap .i64 (v162+1)) v163 v164 v165 v166 v167 v168 v169 v170 v171 v172 v173 v174 v175 v176 v177 v178 v179 v180 v181 v182 v183 v184 v185 v186 v187 v188 v189 v190 v191 v192 v193 v194 v195 v196 v197 v198 v199 v200 v201 v202 v203 v204 v205 v206 v207 v208 v209 v210 v211 v212 v213 v214 v215 v216 v217 v218 v219 v220 v221 v222 v223 v224 v225 v226 v227 v228 v229 v230 v231 v232 v233 v234 v235
    else none
   else none
  else none
 else
 bif decide (0≤v160)&&decide (v160<(v211.length:Int)) then
  bif decide (0≤v160)&&decide (v160<(v211.length:Int)) then
   bif !(v161==(((List.getD v211 v160.toNat Qzj).1)==7)) then
    some ((false,()),())
   else
    L2 (IntKind.wrap .i64 (v160+1)) v212 v213 v214 v215 v216 v217 v218 v219 v220 v221 v222 v223 v224 v225 v226 v227 v228 v229 v230 v231 v232 v233 v234 v235 v201 v202 v203 v204 v205 v206 v207 v208 v209 v210 v211
  else none
 else none
noncomputable def Qom (L1:Qo8) (arr_0:List Int) (x_1 x_2 x_3 x_4:Int):Option Qk8:=
 Option.bind (Qyf) fun r1=>
 bif !r1.1.1 then
  some ((false,()),())
 else
 bif decide ((arr_0.length:Int)>150) then
  some ((true,()),())
 else
  Option.bind (Qvj arr_0 (IntKind.wrap .i64 (1+(IntKind.wrap .i64 (Int.tmod x_4 8))))) fun r2=>
  bif (IntKind.wrap .i64 (1+(IntKind.wrap .i64 (Int.tmod x_1 8))))==(IntKind.wrap .i64 (1+(IntKind.wrap .i64 (Int.tmod x_4 8)))) then
   some ((true,()),())
  else
  bif decide (x_1 ≥ 64) then
   bif decide (((h12 (g3 r2.1.1)).length:Int)>0) then
    bif !(((h12 (g3 r2.1.1)).length:Int)==0) then
     bif decide (0≤Int.tmod (IntKind.wrap .i64 x_1) ((h12 (g3 r2.1.1)).length:Int))&&decide (Int.tmod (IntKind.wrap .i64 x_1) ((h12 (g3 r2.1.1)).length:Int)<((h12 (g3 r2.1.1)).length:Int)) then
      bif ((List.getD (h12 (g3 r2.1.1)) ((Int.tmod (IntKind.wrap .i64 x_1) ((h12 (g3 r2.1.1)).length:Int)).toNat) (0,0,0)).1)==(g3 (g3 r2.1.1)) then
       some ((true,()),())
      else
       Option.bind (Qol (8,(List.getD (h12 (g3 r2.1.1)) ((Int.tmod (IntKind.wrap .i64 x_1) ((h12 (g3 r2.1.1)).length:Int)).toNat) (0,0,0)).1,IntKind.wrap .i64 (1+(IntKind.wrap .i64 (Int.tmod x_4 8))),((List.getD (h12 (g3 r2.1.1)) ((Int.tmod (IntKind.wrap .i64 x_1) ((h12 (g3 r2.1.1)).length:Int)).toNat) (0,0,0)).2).1,0,0,[],IntKind.wrap .i64 (1+(IntKind.wrap .i64 (Int.tmod x_2 12))),IntKind.wrap .i64 ((IntKind.wrap .i64 (1+(IntKind.wrap .i64 (Int.tmod x_2 12))))+(IntKind.wrap .i64 (Int.tmod x_3 12))),(⟨#[]⟩:ByteArray))) fun r3=>
       Option.bind (Qwd r2.1.1 r3.1.1) fun r4=>
       Option.bind (Qmk r4.1.1 r2.1.1) fun r5=>
       bif !r5.1.1 then
        some ((false,()),())
       else
        L1 false 0 r2.1.1.1 r2.1.1.2.1 r2.1.1.2.2.1 (g3 r2.1.1).1 (g3 r2.1.1).2.1 (g3 r2.1.1).2.2.1 (g3 (g3 r2.1.1)) (g4 (g3 r2.1.1)) (g5 (g3 r2.1.1)) (g6 (g3 r2.1.1)) (g7 (g3 r2.1.1)) (g8 (g3 r2.1.1)) (g9 (g3 r2.1.1)) (g10 (g3 r2.1.1)) (g11 (g3 r2.1.1)) (h12 (g3 r2.1.1)) (g4 r2.1.1).1 (g4 r2.1.1).2.1 (g4 r2.1.1).2.2.1 (g3 (g4 r2.1.1)) (g4 (g4 r2.1.1)) (g5 (g4 r2.1.1)) (h6 (g4 r2.1.1)) (h5 r2.1.1) 8 ((List.getD (h12 (g3 r2.1.1)) ((Int.tmod (IntKind.wrap .i64 x_1) ((h12 (g3 r2.1.1)).length:Int)).toNat) (0,0,0)).1) (IntKind.wrap .i64 (1+(IntKind.wrap .i64 (Int.tmod x_4 8)))) (((List.getD (h12 (g3 r2.1.1)) ((Int.tmod (IntKind.wrap .i64 x_1) ((h12 (g3 r2.1.1)).length:Int)).toNat) (0,0,0)).2).1) 0 0 (IntKind.wrap .i64 (1+(IntKind.wrap .i64 (Int.tmod x_2 12)))) (IntKind.wrap .i64 ((IntKind.wrap .i64 (1+(IntKind.wrap .i64 (Int.tmod x_2 12))))+(IntKind.wrap .i64 (Int.tmod x_3 12)))) (⟨#[]⟩:ByteArray) [] r4.1.2.1
     else none
    else none
   else
    Qr6 x_1 r2 x_4 x_2 x_3 L1
  else
   Qr6 x_1 r2 x_4 x_2 x_3 L1
noncomputable def Qkx (n:Nat) (m2:Nat) (r2:Qko):Nat→Qra:=iter (fun _ _ _ _ _ _ _ _ _ _ _ _ _ _ _ _ _ _ _ _ _ _ _ _ _ _ _ _ _ _ _ _ _ _ _ _ _ _ _ _ _ _ _ _ _ _ _ _ _ _ _ _ _ _ _ _ _ _ _ _ _ _ _ _ _ _ _ _ _ _ _ _ _ _ _ _ _ _ _ _ _=>none) fun L=>Qlm L r2
noncomputable def Qkz (n:Nat) (m2:Nat) (r2:Qko):Nat→Qr9:=iter (fun _ _ _ _ _ _ _ _ _ _ _ _ _ _ _ _ _ _ _ _ _ _ _ _ _ _ _ _ _ _ _ _ _ _ _ _ _ _ _ _ _ _ _ _ _ _ _ _ _ _ _ _ _ _ _ _ _ _ _ _ _ _ _ _ _ _ _ _ _ _ _ _ _ _ _ _=>none) fun L=>Qli L r2
noncomputable def Qkc (n:Nat):Nat→Qko:=Qjg (fun _ _ _ _ _ _ _ _ _ _ _ _ _ _ _ _ _ _ _ _ _ _ _ _ _ _ _ _ _ _ _ _ _ _ _ _=>none) fun m L=>Qln (Qkx n m L n) (Qkz n m L n)
noncomputable def Qkp (n:Nat):Nat→Qo8:=iter (fun _ _ _ _ _ _ _ _ _ _ _ _ _ _ _ _ _ _ _ _ _ _ _ _ _ _ _ _ _ _ _ _ _ _ _ _ _=>none) fun L=>Qlo L (Qkc n n)
noncomputable def Qo6 (n m:Nat) (v6:Bool) (v7:Int) (v8:Bool) (v9:Int) (v10:ByteArray) (v11 v12 v13 v14 v15 v16:Int) (v17:List Int) (v18 v19 v20 v21 v22:Int) (v23:Qlv) (v24 v25:Int) (v26 v27:Qkj) (v28:Qnj) (v29 v30 v31 v32 v33 v34 v35 v36 v37 v38 v39:Int) (v40:ByteArray) (v41:List Int) (v42:Qzk):Option Qk8:=
 Qjv Qow tab (fiB [.val t25,.val t5,.val t5,.val t5,.val t5] Qms) n [.val t25,.val t5,.val t5,.val t5,.val t5] [⟨t4,[false],none⟩] Tryz.f6 [1,1,1,1,1,1,1,1,1,1,1,1,1,0,1,0] [] [12,13,16,17,18] m
 ⟨[(12,V1 (.ptr (12,0) 0)),(13,V1 (.ptr (13,0) 0)),(16,V1 (.ref (888888,16))),(17,Vp t4 v6),(18,Vp t2 v7)],[((12,0),Ob.box 39 [LV.pure t4 v8,LV.pure t2 v9,LV.pure t9 v10,LV.pure t2 v11,LV.pure t2 v12,LV.pure t2 v13,LV.pure t2 v14,LV.pure t2 v15,LV.pure t2 v16,LV.pure t28 v17,LV.pure t2 v18,LV.pure t2 v19,LV.pure t2 v20,LV.pure t2 v21,LV.pure t2 v22,LV.pure t29 v23,LV.pure t2 v24,LV.pure t2 v25,LV.pure t32 v26,LV.pure t32 v27,LV.pure t33 v28,LV.pure t2 v29,LV.pure t2 v30,LV.pure t2 v31]),((13,0),Ob.box 46 [LV.pure t2 v32,LV.pure t2 v33,LV.pure t2 v34,LV.pure t2 v35,LV.pure t2 v36,LV.pure t2 v37,LV.ref (13,7),LV.pure t2 v38,LV.pure t2 v39,LV.pure t9 v40]),((13,7),Ob.row 3 t2 v41),((888888,16),Ob.row 46 t45 v42)]⟩
noncomputable def Qky (n m:Nat) (v43:Int) (v44:Bool) (v45:Int) (v46:ByteArray) (v47 v48 v49 v50 v51 v52:Int) (v53:List Int) (v54 v55 v56 v57 v58:Int) (v59:Qlv) (v60 v61:Int) (v62 v63:Qkj) (v64:Qnj) (v65 v66 v67 v68 v69 v70 v71 v72 v73 v74 v75:Int) (v76:ByteArray) (v77:List Int) (v78:Qzk):Option Qk8:=
 Qjv Qow tab (fiB [.val t25,.val t5,.val t5,.val t5,.val t5] Qms) n [.val t25,.val t5,.val t5,.val t5,.val t5] [⟨t4,[false],none⟩] Tryz.f6 [1,1,1,1,1,1,1,1,1,1,1,1,1,1,1,0,1,0] [] [12,13,16,19] m
 ⟨[(12,V1 (.ptr (12,0) 0)),(13,V1 (.ptr (13,0) 0)),(16,V1 (.ref (888888,16))),(19,Vp t2 v43)],[((12,0),Ob.box 39 [LV.pure t4 v44,LV.pure t2 v45,LV.pure t9 v46,LV.pure t2 v47,LV.pure t2 v48,LV.pure t2 v49,LV.pure t2 v50,LV.pure t2 v51,LV.pure t2 v52,LV.pure t28 v53,LV.pure t2 v54,LV.pure t2 v55,LV.pure t2 v56,LV.pure t2 v57,LV.pure t2 v58,LV.pure t29 v59,LV.pure t2 v60,LV.pure t2 v61,LV.pure t32 v62,LV.pure t32 v63,LV.pure t33 v64,LV.pure t2 v65,LV.pure t2 v66,LV.pure t2 v67]),((13,0),Ob.box 46 [LV.pure t2 v68,LV.pure t2 v69,LV.pure t2 v70,LV.pure t2 v71,LV.pure t2 v72,LV.pure t2 v73,LV.ref (13,7),LV.pure t2 v74,LV.pure t2 v75,LV.pure t9 v76]),((13,7),Ob.row 3 t2 v77),((888888,16),Ob.row 46 t45 v78)]⟩
noncomputable def Qo5 (n m2 m:Nat) (v79:Int) (v80:Bool) (v81 v82 v83 v84 v85:Int) (v86 v87:Bool) (v88 v89 v90 v91:Int) (v92 v93:Bool) (v94 v95 v96 v97 v98:Int) (v99:Bool) (v100 v101 v102 v103 v104:Int) (v105:Bool) (v106 v107 v108 v109 v110:Int) (v111:Bool) (v112 v113 v114 v115 v116:Int) (v117:Bool) (v118 v119 v120 v121 v122 v123:Int) (v124:Bool) (v125 v126 v127 v128 v129 v130 v131 v132:Int) (v133:ByteArray) (v134:List Int) (v135:Qzk) (v136:Bool) (v137:Int) (v138:ByteArray) (v139 v140 v141 v142 v143 v144:Int) (v145:List Int) (v146 v147 v148 v149 v150:Int) (v151:Qlv) (v152 v153:Int) (v154 v155:Qkj) (v156:Qnj) (v157 v158 v159:Int):Option Qk8:=
 Qjv Qow tab (fiB [.val t25,.val t5,.val t5,.val t5,.val t5] Qms) n [.val t25,.val t5,.val t5,.val t5,.val t5] [⟨t4,[false],none⟩] Tryz.f6 [1,1,1,1,1,1,1,1,1,1,1,1,1,1,1,0,1,0,0,1,0,0,1,1,0,1,0] [(m2,[12,13,16,19])] [12,13,16,19,20,21,152,153,154,155,156,157,158,159,160,161,162,163,164,165,168,169,170,171,172,173,174,175,178,179,180,181,182,183,184,185,188,189,190,191,192,193,194,195,198,199,200,201,202,203,204,205,206,209,210,211,212,213,214,215,216,217,218] m
 ⟨[(12,V1 (.ptr (12,0) 0)),(13,V1 (.ptr (13,0) 0)),(16,V1 (.ref (888888,209))),(19,Vp t2 v79),(20,Vp t4 v80),(21,Vp t2 v81),(152,V1 (.ref (888888,209))),(153,Vp t2 v82),(154,SV.ap (888888,209) v83 0 10),(155,SV.ap (888888,209) v84 0 10),(156,Vp t2 v85),(157,Vp t4 v86),(158,Vp t4 v87),(159,V1 (.ref (888888,209))),(160,Vp t2 v88),(161,SV.ap (888888,209) v89 0 10),(162,SV.ap (888888,209) v90 0 10),(163,Vp t2 v91),(164,Vp t4 v92),(165,Vp t4 v93),(168,V1 (.ref (888888,209))),(169,Vp t2 v94),(170,SV.ap (888888,209) v95 0 10),(171,SV.ap (888888,209) v96 7 10),(172,Vp t2 v97),(173,V1 (.ptr (13,0) 7)),(174,Vp t2 v98),(175,Vp t4 v99),(178,V1 (.ref (888888,209))),(179,Vp t2 v100),(180,SV.ap (888888,209) v101 0 10),(181,SV.ap (888888,209) v102 7 10),(182,Vp t2 v103),(183,V1 (.ptr (13,0) 8)),(184,Vp t2 v104),(185,Vp t4 v105),(188,V1 (.ref (888888,209))),(189,Vp t2 v106),(190,SV.ap (888888,209) v107 0 10),(191,SV.ap (888888,209) v108 8 10),(192,Vp t2 v109),(193,V1 (.ptr (13,0) 8)),(194,Vp t2 v110),(195,Vp t4 v111),(198,V1 (.ref (888888,209))),(199,Vp t2 v112),(200,SV.ap (888888,209) v113 0 10),(201,SV.ap (888888,209) v114 7 10),(202,Vp t2 v115),(203,V1 (.ptr (12,0) 16)),(204,V1 (.ptr (12,0) 16)),(205,Vp t2 v116),(206,Vp t4 v117),(209,V1 (.ref (888888,209))),(210,Vp t2 v118),(211,SV.ap (888888,209) v119 0 10),(212,SV.ap (888888,209) v120 8 10),(213,Vp t2 v121),(214,V1 (.ptr (12,0) 16)),(215,V1 (.ptr (12,0) 16)),(216,Vp t2 v122),(217,Vp t2 v123),(218,Vp t4 v124)],[((13,0),Ob.box 46 [LV.pure t2 v125,LV.pure t2 v126,LV.pure t2 v127,LV.pure t2 v128,LV.pure t2 v129,LV.pure t2 v130,LV.ref (13,7),LV.pure t2 v131,LV.pure t2 v132,LV.pure t9 v133]),((13,7),Ob.row 3 t2 v134),((888888,209),Ob.row 46 t45 v135),((12,0),Ob.box 39 [LV.pure t4 v136,LV.pure t2 v137,LV.pure t9 v138,LV.pure t2 v139,LV.pure t2 v140,LV.pure t2 v141,LV.pure t2 v142,LV.pure t2 v143,LV.pure t2 v144,LV.pure t28 v145,LV.pure t2 v146,LV.pure t2 v147,LV.pure t2 v148,LV.pure t2 v149,LV.pure t2 v150,LV.pure t29 v151,LV.pure t2 v152,LV.pure t2 v153,LV.pure t32 v154,LV.pure t32 v155,LV.pure t33 v156,LV.pure t2 v157,LV.pure t2 v158,LV.pure t2 v159])]⟩
noncomputable def Qo7 (n m2 m:Nat) (v160:Int) (v161:Bool) (v162 v163 v164 v165 v166:Int) (v167 v168 v169:Bool) (v170 v171 v172 v173 v174:Int) (v175:Bool) (v176 v177 v178 v179 v180:Int) (v181:Bool) (v182 v183 v184 v185 v186:Int) (v187:Bool) (v188 v189 v190 v191 v192:Int) (v193:Bool) (v194 v195 v196 v197 v198 v199:Int) (v200:Bool) (v201 v202 v203 v204 v205 v206 v207 v208:Int) (v209:ByteArray) (v210:List Int) (v211:Qzk) (v212:Bool) (v213:Int) (v214:ByteArray) (v215 v216 v217 v218 v219 v220:Int) (v221:List Int) (v222 v223 v224 v225 v226:Int) (v227:Qlv) (v228 v229:Int) (v230 v231:Qkj) (v232:Qnj) (v233 v234 v235:Int):Option Qk8:=
 Qjv Qow tab (fiB [.val t25,.val t5,.val t5,.val t5,.val t5] Qms) n [.val t25,.val t5,.val t5,.val t5,.val t5] [⟨t4,[false],none⟩] Tryz.f6 [1,1,1,1,1,1,1,1,1,1,1,1,1,1,1,0,1,0,0,1,0,0,1,1,0,1,0] [(m2,[12,13,16,19])] [12,13,16,19,20,21,152,153,154,155,156,157,158,165,168,169,170,171,172,173,174,175,178,179,180,181,182,183,184,185,188,189,190,191,192,193,194,195,198,199,200,201,202,203,204,205,206,209,210,211,212,213,214,215,216,217,218] m
 ⟨[(12,V1 (.ptr (12,0) 0)),(13,V1 (.ptr (13,0) 0)),(16,V1 (.ref (888888,209))),(19,Vp t2 v160),(20,Vp t4 v161),(21,Vp t2 v162),(152,V1 (.ref (888888,209))),(153,Vp t2 v163),(154,SV.ap (888888,209) v164 0 10),(155,SV.ap (888888,209) v165 0 10),(156,Vp t2 v166),(157,Vp t4 v167),(158,Vp t4 v168),(165,Vp t4 v169),(168,V1 (.ref (888888,209))),(169,Vp t2 v170),(170,SV.ap (888888,209) v171 0 10),(171,SV.ap (888888,209) v172 7 10),(172,Vp t2 v173),(173,V1 (.ptr (13,0) 7)),(174,Vp t2 v174),(175,Vp t4 v175),(178,V1 (.ref (888888,209))),(179,Vp t2 v176),(180,SV.ap (888888,209) v177 0 10),(181,SV.ap (888888,209) v178 7 10),(182,Vp t2 v179),(183,V1 (.ptr (13,0) 8)),(184,Vp t2 v180),(185,Vp t4 v181),(188,V1 (.ref (888888,209))),(189,Vp t2 v182),(190,SV.ap (888888,209) v183 0 10),(191,SV.ap (888888,209) v184 8 10),(192,Vp t2 v185),(193,V1 (.ptr (13,0) 8)),(194,Vp t2 v186),(195,Vp t4 v187),(198,V1 (.ref (888888,209))),(199,Vp t2 v188),(200,SV.ap (888888,209) v189 0 10),(201,SV.ap (888888,209) v190 7 10),(202,Vp t2 v191),(203,V1 (.ptr (12,0) 16)),(204,V1 (.ptr (12,0) 16)),(205,Vp t2 v192),(206,Vp t4 v193),(209,V1 (.ref (888888,209))),(210,Vp t2 v194),(211,SV.ap (888888,209) v195 0 10),(212,SV.ap (888888,209) v196 8 10),(213,Vp t2 v197),(214,V1 (.ptr (12,0) 16)),(215,V1 (.ptr (12,0) 16)),(216,Vp t2 v198),(217,Vp t2 v199),(218,Vp t4 v200)],[((13,0),Ob.box 46 [LV.pure t2 v201,LV.pure t2 v202,LV.pure t2 v203,LV.pure t2 v204,LV.pure t2 v205,LV.pure t2 v206,LV.ref (13,7),LV.pure t2 v207,LV.pure t2 v208,LV.pure t9 v209]),((13,7),Ob.row 3 t2 v210),((888888,209),Ob.row 46 t45 v211),((12,0),Ob.box 39 [LV.pure t4 v212,LV.pure t2 v213,LV.pure t9 v214,LV.pure t2 v215,LV.pure t2 v216,LV.pure t2 v217,LV.pure t2 v218,LV.pure t2 v219,LV.pure t2 v220,LV.pure t28 v221,LV.pure t2 v222,LV.pure t2 v223,LV.pure t2 v224,LV.pure t2 v225,LV.pure t2 v226,LV.pure t29 v227,LV.pure t2 v228,LV.pure t2 v229,LV.pure t32 v230,LV.pure t32 v231,LV.pure t33 v232,LV.pure t2 v233,LV.pure t2 v234,LV.pure t2 v235])]⟩
theorem Quq (n m2:Nat):∀ m,Qo5 n m2 m=Qkx n m2 (Qky n m2) m
 | 0=>rfl
 | m+1=>by rw [show Qo5 n m2 (m+1)=Qlm (Qo5 n m2 m) (Qky n m2) from by kernel_rfl,Quq n m2 m];rfl
theorem Qul (n m2:Nat):∀ m,Qo7 n m2 m=Qkz n m2 (Qky n m2) m
 | 0=>rfl
 | m+1=>by rw [show Qo7 n m2 (m+1)=Qli (Qo7 n m2 m) (Qky n m2) from by kernel_rfl,Qul n m2 m];rfl
theorem Qus (n:Nat):∀ m,Qky n m=Qkc n m
 | 0=>rfl
 | m+1=>by rw [show Qky n (m+1)=Qln (Qo5 n m n) (Qo7 n m n) from by kernel_rfl,Quq n m n,Qul n m n,Qus n m];rfl
theorem Qup (n:Nat):∀ m,Qo6 n m=Qkp n m
 | 0=>rfl
 | m+1=>by rw [show Qo6 n (m+1)=Qlo (Qo6 n m) (Qky n n) from by kernel_rfl,Qus n n,Qup n m];rfl
noncomputable def Qw9 (n:Nat) (arr_0:List Int) (x_1 x_2 x_3 x_4:Int):Option Qk8:=Qom (Qkp n n) arr_0 x_1 x_2 x_3 x_4
noncomputable def Qqf (arr_0:List Int) (x_1 x_2 x_3 x_4:Int):Option Qk8:=Qw9 1099511627776 arr_0 x_1 x_2 x_3 x_4
noncomputable def Z55:Ent:=⟨[.val t25,.val t5,.val t5,.val t5,.val t5],[⟨t4,[false],none⟩],fun x=>Qqf x.1 x.2.1 x.2.2.1 x.2.2.2.1 x.2.2.2.2.1⟩
theorem Z2d:GD 6 Z55:=fnl Qms (fun n x=>Qw9 n x.1 x.2.1 x.2.2.1 x.2.2.2.1 x.2.2.2.2.1) (Qjy Z7a (Qjy Z4c (Qjy Z94 (Qjy Z8d (Qjy Z6h Qk3))))) Tryz.func6 fun n x=>Eq.trans (b:=Qom (Qo6 n n) x.1 x.2.1 x.2.2.1 x.2.2.2.1 x.2.2.2.2.1) (by kernel_rfl) (by rw [Qup n n];rfl)
end Go.PE
