/-
  Functions of the program, each as the evaluator answers it, and its contract.
  Conditions: none.
-/
import Derived.Test.YtaoeefmiogchdaaGreatDoorQuietFormsF1
set_option linter.unusedVariables false
set_option maxRecDepth 100000
namespace Go.PE
open Go.Proofs
noncomputable def Qqa (r2:(Qli × Unit) × Unit) (x_1:Int × Int × Int × Int × Int × Int × (List Int) × Int × Int × ByteArray) (x_2:Int):Option ((Qli × Qtq × Unit) × Unit):=
 Option.bind (Qul (h12 r2.1.1) (x_1.2.1,(g3 x_1),r2.1.1.2.2.1)) fun r9=>
 Option.bind (Z5y (e12 r2.1.1 r9.1.1) 2 x_1.2.1) fun r10=>
 some (((e12 r2.1.1 r9.1.1),[(u7 r10.1.1 x_2)],()),())
noncomputable def Z7x (r2:(Qli × Unit) × Unit) (x_1:Int × Int × Int × Int × Int × Int × (List Int) × Int × Int × ByteArray) (x_2:Int):Option ((Qli × Qtq × Unit) × Unit):=
 Option.bind (Qoj (h12 r2.1.1) x_1.2.1) fun r3=>
 bif r2.1.1.1==1 then
  Option.bind (Qqw r2.1.1) fun r4=>
  bif !r4.1.1 then
   Option.bind (Qk0 r2.1.1 3 x_1.2.1) fun r5=>
   some ((r2.1.1,[r5.1.1],()),())
  else
   Option.bind (Qm3 (g6 r2.1.1) x_1.2.1) fun r6=>
   bif r6.1.1 then
    Option.bind (Qk0 r2.1.1 3 x_1.2.1) fun r7=>
    some ((r2.1.1,[r7.1.1],()),())
   else
   bif !r3.1.2.1 then
    bif decide (((h12 r2.1.1).length:Int) ≥ 8) then
     Option.bind (Qk0 r2.1.1 3 x_1.2.1) fun r8=>
     some ((r2.1.1,[r8.1.1],()),())
    else
     Qqa r2 x_1 x_2
   else
    Qqa r2 x_1 x_2
 else
  Option.bind (Qqw r2.1.1) fun r13=>
  bif !r13.1.1 then
   Option.bind (Qk0 r2.1.1 3 x_1.2.1) fun r14=>
   some ((r2.1.1,[r14.1.1],()),())
  else
   Option.bind (Qm3 (g6 r2.1.1) x_1.2.1) fun r15=>
   bif r15.1.1 then
    Option.bind (Qk0 r2.1.1 3 x_1.2.1) fun r16=>
    some ((r2.1.1,[r16.1.1],()),())
   else
   bif !r3.1.2.1 then
    bif decide (((h12 r2.1.1).length:Int) ≥ 3) then
     Option.bind (Qk0 r2.1.1 3 x_1.2.1) fun r17=>
     some ((r2.1.1,[r17.1.1],()),())
    else
     Qqa r2 x_1 x_2
   else
    Qqa r2 x_1 x_2
noncomputable def Z87 (r2:(Qli × Unit) × Unit) (x_1:Int × Int × Int × Int × Int × Int × (List Int) × Int × Int × ByteArray):Option ((Qli × Qtq × Unit) × Unit):=
 Option.bind (Qoj (h12 r2.1.1) x_1.2.1) fun r26=>
 bif !r26.1.2.1 then
  Option.bind (Qk0 r2.1.1 3 x_1.2.1) fun r27=>
  some ((r2.1.1,[r27.1.1],()),())
 else
  Option.bind (Qul (h12 r2.1.1) (x_1.2.1,(g3 x_1),r2.1.1.2.2.1)) fun r28=>
  some (((e12 r2.1.1 r28.1.1),[],()),())
noncomputable def Z6h (x_1:Int × Int × Int × Int × Int × Int × (List Int) × Int × Int × ByteArray) (r2:(Qli × Unit) × Unit):Option ((Qli × Qtq × Unit) × Unit):=
 bif x_1.1==6 then
  Option.bind (Z0r (h12 r2.1.1) x_1.2.1) fun r34=>
  some (((e12 r2.1.1 r34.1.1),[],()),())
 else
  some ((r2.1.1,[],()),())
noncomputable def Qqk (arr_0:Int × Int × Int × Int × Int × Int × (List Int) × Int × Int × Int × Int × Int × List Qkm) (x_1:Int × Int × Int × Int × Int × Int × (List Int) × Int × Int × ByteArray) (x_2:Int):Option ((Qli × Qtq × Unit) × Unit):=
 Option.bind (Qul (h12 arr_0) (x_1.2.1,(g3 x_1),arr_0.2.2.1)) fun r66=>
 Option.bind (Z5y (e12 arr_0 r66.1.1) 2 x_1.2.1) fun r67=>
 some (((e12 arr_0 r66.1.1),[(u7 r67.1.1 x_2)],()),())
noncomputable def Z83 (arr_0:Int × Int × Int × Int × Int × Int × (List Int) × Int × Int × Int × Int × Int × List Qkm) (x_1:Int × Int × Int × Int × Int × Int × (List Int) × Int × Int × ByteArray) (x_2:Int):Option ((Qli × Qtq × Unit) × Unit):=
 Option.bind (Qoj (h12 arr_0) x_1.2.1) fun r60=>
 bif arr_0.1==1 then
  Option.bind (Qqw arr_0) fun r61=>
  bif !r61.1.1 then
   Option.bind (Qk0 arr_0 3 x_1.2.1) fun r62=>
   some ((arr_0,[r62.1.1],()),())
  else
   Option.bind (Qm3 (g6 arr_0) x_1.2.1) fun r63=>
   bif r63.1.1 then
    Option.bind (Qk0 arr_0 3 x_1.2.1) fun r64=>
    some ((arr_0,[r64.1.1],()),())
   else
   bif !r60.1.2.1 then
    bif decide (((h12 arr_0).length:Int) ≥ 8) then
     Option.bind (Qk0 arr_0 3 x_1.2.1) fun r65=>
     some ((arr_0,[r65.1.1],()),())
    else
     Qqk arr_0 x_1 x_2
   else
    Qqk arr_0 x_1 x_2
 else
  Option.bind (Qqw arr_0) fun r70=>
  bif !r70.1.1 then
   Option.bind (Qk0 arr_0 3 x_1.2.1) fun r71=>
   some ((arr_0,[r71.1.1],()),())
  else
   Option.bind (Qm3 (g6 arr_0) x_1.2.1) fun r72=>
   bif r72.1.1 then
    Option.bind (Qk0 arr_0 3 x_1.2.1) fun r73=>
    some ((arr_0,[r73.1.1],()),())
   else
   bif !r60.1.2.1 then
    bif decide (((h12 arr_0).length:Int) ≥ 3) then
     Option.bind (Qk0 arr_0 3 x_1.2.1) fun r74=>
     some ((arr_0,[r74.1.1],()),())
    else
     Qqk arr_0 x_1 x_2
   else
    Qqk arr_0 x_1 x_2
noncomputable def Z8p (arr_0:Int × Int × Int × Int × Int × Int × (List Int) × Int × Int × Int × Int × Int × List Qkm) (x_1:Int × Int × Int × Int × Int × Int × (List Int) × Int × Int × ByteArray):Option ((Qli × Qtq × Unit) × Unit):=
 Option.bind (Qoj (h12 arr_0) x_1.2.1) fun r83=>
 bif !r83.1.2.1 then
  Option.bind (Qk0 arr_0 3 x_1.2.1) fun r84=>
  some ((arr_0,[r84.1.1],()),())
 else
  Option.bind (Qul (h12 arr_0) (x_1.2.1,(g3 x_1),arr_0.2.2.1)) fun r85=>
  some (((e12 arr_0 r85.1.1),[],()),())
noncomputable def Z89 (x_1:Int × Int × Int × Int × Int × Int × (List Int) × Int × Int × ByteArray) (arr_0:Int × Int × Int × Int × Int × Int × (List Int) × Int × Int × Int × Int × Int × List Qkm):Option ((Qli × Qtq × Unit) × Unit):=
 bif x_1.1==6 then
  Option.bind (Z0r (h12 arr_0) x_1.2.1) fun r91=>
  some (((e12 arr_0 r91.1.1),[],()),())
 else
  some ((arr_0,[],()),())
noncomputable def Z6s (arr_0:Int × Int × Int × Int × Int × Int × (List Int) × Int × Int × Int × Int × Int × List Qkm) (x_1:Int × Int × Int × Int × Int × Int × (List Int) × Int × Int × ByteArray) (x_2:Int):Option ((Qli × Qtq × Unit) × Unit):=
 bif (g3 arr_0) != 0 then
  bif x_1.1==1 then
   Z83 arr_0 x_1 x_2
  else
  bif x_1.1==2 then
   Option.bind (Qnq arr_0 x_1) fun r79=>
   some ((r79.1.1,r79.1.2.1,()),())
  else
  bif x_1.1==3 then
   bif (g9 arr_0) != 0 then
    bif (g9 arr_0)==x_1.2.1 then
     bif x_1.2.1==(g3 arr_0) then
      Option.bind (Qlr (u11 (u9 arr_0 0) (IntKind.wrap .i64 ((g11 arr_0)+1))) 0) fun r80=>
      some ((r80.1.1,[],()),())
     else
      some (((u11 (u9 arr_0 0) (IntKind.wrap .i64 ((g11 arr_0)+1))),[],()),())
    else
    bif x_1.2.1==(g3 arr_0) then
     Option.bind (Qlr arr_0 0) fun r81=>
     some ((r81.1.1,[],()),())
    else
     some ((arr_0,[],()),())
   else
   bif x_1.2.1==(g3 arr_0) then
    Option.bind (Qlr arr_0 0) fun r82=>
    some ((r82.1.1,[],()),())
   else
    some ((arr_0,[],()),())
  else
  bif x_1.1==4 then
   Z8p arr_0 x_1
  else
  bif x_1.1==5 then
   bif !(x_1.2.1==(g3 arr_0)) then
    Option.bind (Qk0 arr_0 6 x_1.2.1) fun r86=>
    some ((arr_0,[r86.1.1],()),())
   else
    Option.bind (Qt6 (g6 x_1) arr_0.1) fun r87=>
    bif !r87.1.2.1 then
     Option.bind (Qlr arr_0 1) fun r88=>
     Option.bind (Qk0 arr_0 6 x_1.2.1) fun r89=>
     some ((r88.1.1,[r89.1.1],()),())
    else
     Option.bind (Qv3 (g6 x_1)) fun r90=>
     bif decide (IntKind.wrap .i64 (arr_0.2.2.1 - (g5 x_1))>(g8 arr_0)) then
      some (((u8 (u7 (u6 (u5 arr_0 r90.1.1) r87.1.1) (g4 x_1)) (IntKind.wrap .i64 (arr_0.2.2.1 - (g5 x_1)))),[],()),())
     else
      some (((u6 (u5 arr_0 r90.1.1) r87.1.1),[],()),())
  else
   Z89 x_1 arr_0
 else
 bif x_1.1==1 then
  Z83 arr_0 x_1 x_2
 else
 bif x_1.1==2 then
  Option.bind (Qnq arr_0 x_1) fun r111=>
  some ((r111.1.1,r111.1.2.1,()),())
 else
 bif x_1.1==3 then
  bif (g9 arr_0) != 0 then
   bif (g9 arr_0)==x_1.2.1 then
    some (((u11 (u9 arr_0 0) (IntKind.wrap .i64 ((g11 arr_0)+1))),[],()),())
   else
    some ((arr_0,[],()),())
  else
   some ((arr_0,[],()),())
 else
 bif x_1.1==4 then
  Z8p arr_0 x_1
 else
 bif x_1.1==5 then
  Option.bind (Qk0 arr_0 6 x_1.2.1) fun r115=>
  some ((arr_0,[r115.1.1],()),())
 else
  Z89 x_1 arr_0
noncomputable def Z4g (x_1:Int × Int × Int × Int × Int × Int × (List Int) × Int × Int × ByteArray) (arr_0:Int × Int × Int × Int × Int × Int × (List Int) × Int × Int × Int × Int × Int × List Qkm) (x_2:Int):Option ((Qli × Qtq × Unit) × Unit):=
 bif x_1.2.1==(g3 arr_0) then
  bif decide ((g3 x_1)>(g4 arr_0)) then
   Option.bind (Qlr arr_0 0) fun r2=>
   bif (g3 r2.1.1) != 0 then
    bif x_1.1==1 then
     Z7x r2 x_1 x_2
    else
    bif x_1.1==2 then
     Option.bind (Qnq r2.1.1 x_1) fun r22=>
     some ((r22.1.1,r22.1.2.1,()),())
    else
    bif x_1.1==3 then
     bif (g9 r2.1.1) != 0 then
      bif (g9 r2.1.1)==x_1.2.1 then
       bif x_1.2.1==(g3 r2.1.1) then
        Option.bind (Qlr (u11 (u9 r2.1.1 0) (IntKind.wrap .i64 ((g11 r2.1.1)+1))) 0) fun r23=>
        some ((r23.1.1,[],()),())
       else
        some (((u11 (u9 r2.1.1 0) (IntKind.wrap .i64 ((g11 r2.1.1)+1))),[],()),())
      else
      bif x_1.2.1==(g3 r2.1.1) then
       Option.bind (Qlr r2.1.1 0) fun r24=>
       some ((r24.1.1,[],()),())
      else
       some ((r2.1.1,[],()),())
     else
     bif x_1.2.1==(g3 r2.1.1) then
      Option.bind (Qlr r2.1.1 0) fun r25=>
      some ((r25.1.1,[],()),())
     else
      some ((r2.1.1,[],()),())
    else
    bif x_1.1==4 then
     Z87 r2 x_1
    else
    bif x_1.1==5 then
     bif !(x_1.2.1==(g3 r2.1.1)) then
      Option.bind (Qk0 r2.1.1 6 x_1.2.1) fun r29=>
      some ((r2.1.1,[r29.1.1],()),())
     else
      Option.bind (Qt6 (g6 x_1) r2.1.1.1) fun r30=>
      bif !r30.1.2.1 then
       Option.bind (Qlr r2.1.1 1) fun r31=>
       Option.bind (Qk0 r2.1.1 6 x_1.2.1) fun r32=>
       some ((r31.1.1,[r32.1.1],()),())
      else
       Option.bind (Qv3 (g6 x_1)) fun r33=>
       bif decide (IntKind.wrap .i64 (r2.1.1.2.2.1 - (g5 x_1))>(g8 r2.1.1)) then
        some (((u8 (u7 (u6 (u5 r2.1.1 r33.1.1) r30.1.1) (g4 x_1)) (IntKind.wrap .i64 (r2.1.1.2.2.1 - (g5 x_1)))),[],()),())
       else
        some (((u6 (u5 r2.1.1 r33.1.1) r30.1.1),[],()),())
    else
     Z6h x_1 r2
   else
   bif x_1.1==1 then
    Z7x r2 x_1 x_2
   else
   bif x_1.1==2 then
    Option.bind (Qnq r2.1.1 x_1) fun r54=>
    some ((r54.1.1,r54.1.2.1,()),())
   else
   bif x_1.1==3 then
    bif (g9 r2.1.1) != 0 then
     bif (g9 r2.1.1)==x_1.2.1 then
      some (((u11 (u9 r2.1.1 0) (IntKind.wrap .i64 ((g11 r2.1.1)+1))),[],()),())
     else
      some ((r2.1.1,[],()),())
    else
     some ((r2.1.1,[],()),())
   else
   bif x_1.1==4 then
    Z87 r2 x_1
   else
   bif x_1.1==5 then
    Option.bind (Qk0 r2.1.1 6 x_1.2.1) fun r58=>
    some ((r2.1.1,[r58.1.1],()),())
   else
    Z6h x_1 r2
  else
   Z6s arr_0 x_1 x_2
 else
  Z6s arr_0 x_1 x_2
noncomputable def Zhi (arr_0:Int × Int × Int × Int × Int × Int × (List Int) × Int × Int × Int × Int × Int × List Qkm) (x_1:Int × Int × Int × Int × Int × Int × (List Int) × Int × Int × ByteArray) (x_2:Int):Option ((Qli × Qtq × Unit) × Unit):=
 Option.bind (Zfz (h12 arr_0) x_1.2.1 (g3 x_1)) fun r1=>
 bif r1.1.1 then
  some ((arr_0,[],()),())
 else
 bif x_1.2.1==(g3 arr_0) then
  bif decide ((g3 x_1)<(g4 arr_0)) then
   some ((arr_0,[],()),())
  else
   Z4g x_1 arr_0 x_2
 else
  Z4g x_1 arr_0 x_2
noncomputable def Z9i:Ent:=⟨[.val t50,.val Qsi,.val t2],[⟨t50,(nF 13),none⟩,⟨t70,[true],none⟩],fun x=>Zhi x.1 x.2.1 x.2.2.1⟩
theorem Zmk:Q4j tab.ty Tryz.prog 74 Z9i:=
 Qjd (Γ:=[(55,Qnm),(64,Ql3),(79,Qux),(103,Qxo),(104,Z37),(105,Qz2),(118,Z60),(119,Zh5),(120,Z13),(121,Qw2),(122,Qx3),(123,Z2f)]) (fi:={ keep:=[],vty:=[],vals:=[],live:=[(0,[2,3,4,6,25,26,27,28,29,30,31,32,33,34,35,36,45,46,47,48,49,57,58,59,60,61,82,83,84,85,86,89,90,91,92,93,94,95,96,97,141,142,143,144,145]),(1,[2,3,4,6,37,45,46,47,48,49,57,58,59,60,61,82,83,84,85,86,89,90,91,92,93,94,95,96,97,141,142,143,144,145]),(2,[6,7]),(3,[2,3,4,6,50,57,58,59,60,61,82,83,84,85,86,89,90,91,92,93,94,95,96,97,141,142,143,144,145]),(4,[2,3,4,6,57,58,59,60,61,82,83,84,85,86,89,90,91,92,93,94,95,96,97,141,142,143,144,145]),(5,[2,3,4,6,8,82,83,84,85,86,89,90,91,92,93,94,95,96,97,141,142,143,144,145]),(6,[2,3,4,6,8,64,82,83,84,85,86,89,90,91,92,93,94,95,96,97,141,142,143,144,145]),(7,[2,3,4,6,8,64,65,82,83,84,85,86,89,90,91,92,93,94,95,96,97,141,142,143,144,145]),(8,[2,3,4,6,10,82,83,84,85,86,89,90,91,92,93,94,95,96,97]),(9,[2,3,4,6,10,11,82,83,84,85,86,89,90,91,92,93,94,95,96,97]),(10,[2,3,4,6,10,11,77,82,83,84,85,86,89,90,91,92,93,94,95,96,97]),(11,[2,3,4,6,10,11,82,83,84,85,86,89,90,91,92,93,94,95,96,97]),(12,[2,3,4,6,98]),(13,[6,7]),(14,[2,3,4,6]),(15,[2,3,6,12]),(16,[3,6,12]),(17,[6,7]),(18,[3,4,6,8,64,128,141,142,143,144,145]),(19,[6,7]),(20,[3,4,6,8,64,135,141,142,143,144,145]),(21,[3,6,8,146]),(22,[3,6,8]),(23,[3,6,152]),(24,[3,6]),(25,[3,4,6,8,64,155]),(26,[3,4,6,14]),(27,[3,4,6,166]),(28,[6,7]),(29,[3,6]),(30,[3,4,6,8,64,187]),(31,[3,4,6,190]),(32,[6,7]),(33,[3,4,6,15,16]),(34,[3,4,6,15,206]),(35,[6,7]),(36,[3,4,6]),(37,[3,4,6,227]),(38,[3,6]),(39,[3,4,6,237]),(40,[3,6]),(41,[6,7])] }) (n:=1) follows (Qjq Qmp (Qjq Qks (Qjq Qvr (Qjq Z16 (Qjq Z7h (Qjq Z4w (Qjq Zbd (Qjq Zrd (Qjq Zfq (Qjq Qyp (Qjq Z1l (Qjq Z7v Qju)))))))))))) Qjz Tryz.func74 (by kernel_rfl) (by kernel_rfl) fun x r h=>Eq.trans (by kernel_rfl) h
noncomputable def Qof (f_0:Int × Int × Qkg × Qkg × Qpf × Int × Int) (top_1:Int):Option ((Qnc × Unit) × Unit):=
 bif decide (f_0.1>0) then
  bif decide (top_1≤1000000) then
   some (((u1 f_0 (if top_1>f_0.2.1 then top_1 else f_0.2.1)),()),())
  else
   some ((f_0,()),())
 else
  some ((f_0,()),())
noncomputable def Qoh:Ent:=⟨[.val t56,.val t2],[⟨t56,(nF 7),none⟩],fun x=>Qof x.1 x.2.1⟩
theorem Qoz:Q4j tab.ty Tryz.prog 75 Qoh:=
 Qjd (Γ:=[]) (fi:={ keep:=[],vty:=[],vals:=[],live:=[(0,[1,2,4,9,10]),(1,[1,2,4,11]),(2,[2,4]),(3,[4])] }) (n:=1) follows Qju Qjz Tryz.func75 (by kernel_rfl) (by kernel_rfl) fun x r h=>Eq.trans (by kernel_rfl) h
noncomputable def Zgm (f_0:Int × Int × Qkg × Qkg × Qpf × Int × Int) (next_1:Int):Option ((Qnc × Unit) × Unit):=
 bif decide (f_0.1>0) then
  Option.bind (Qof f_0 (IntKind.wrap .i64 (next_1 - 1))) fun r1=>
  some ((r1.1.1,()),())
 else
 bif decide (next_1 ≥ 1) then
  bif decide (next_1≤1000000) then
   some (((next_1,f_0.2),()),())
  else
   some ((f_0,()),())
 else
  some ((f_0,()),())
noncomputable def Zas:Ent:=⟨[.val t56,.val t2],[⟨t56,(nF 7),none⟩],fun x=>Zgm x.1 x.2.1⟩
theorem Zmy:Q4j tab.ty Tryz.prog 76 Zas:=
 Qjd (Γ:=[(75,Qoh)]) (fi:={ keep:=[],vty:=[],vals:=[],live:=[(0,[1,2,4,15,16]),(1,[1,2,4,7,15,16]),(2,[4]),(3,[1,2,4,17]),(4,[2,4]),(5,[4])] }) (n:=1) follows (Qjq Qoz Qju) Qjz Tryz.func76 (by kernel_rfl) (by kernel_rfl) fun x r h=>Eq.trans (by kernel_rfl) h
abbrev Qoa:Type:=(ByteArray × Bool × Unit) × Unit
noncomputable def Z2j:Ctx:=[]
def Qzg:Fi:={ keep:=[],vty:=[],vals:=[],live:=[(0,[0,1]),(1,[0,1,6]),(2,[0,1,6,10]),(3,[0,1,6]),(4,[0,1,6,19]),(5,[4,5]),(6,[4,5])] }
abbrev Z00:Type:=Qkg→Int→Int→Option Qoa
noncomputable def Zel (L1:Z00) (v1:List Qk2) (v2 v3:Int):Option Qoa:=
 bif decide (v3<(v1.length:Int)) then
  bif decide (0≤v3)&&decide (v3<(v1.length:Int)) then
   bif ((List.getD v1 v3.toNat (0,(⟨#[]⟩:ByteArray))).1)==v2 then
    bif decide (0≤v3)&&decide (v3<(v1.length:Int)) then
     some (((List.getD v1 v3.toNat (0,(⟨#[]⟩:ByteArray))).2,true,()),())
    else none
   else
    L1 v1 v2 (IntKind.wrap .i64 (v3+1))
  else none
 else
  some (((⟨#[]⟩:ByteArray),false,()),())
noncomputable def Zh7 (L1:Z00) (l_0:List Qk2) (seq_1:Int):Option Qoa:=
 L1 l_0 seq_1 0
noncomputable def Zf1 (n:Nat):Nat→Z00:=iter (fun _ _ _=>none) fun L=>Zel L
noncomputable def Qti (n m:Nat) (v1:List Qk2) (v2 v3:Int):Option Qoa:=
 Qjl Z2j tab (fiB [.val t52,.val t2] Qzg) n [.val t52,.val t2] [⟨t9,[false],none⟩,⟨t4,[false],none⟩] Tryz.f158 [1,0,1,0] [] [0,1,6] m
 ⟨[(0,Vp t52 v1),(1,Vp t2 v2),(6,Vp t2 v3)],[]⟩
theorem Zp8 (n m:Nat):Qti n (m+1)=Zel (Qti n m):=by kernel_rfl
theorem Zb9 (n:Nat):∀ m,Qti n m=Zf1 n m
 | 0=>rfl
 | m+1=>by rw [Zp8 n m,Zb9 n m];rfl
noncomputable def Zid (n:Nat) (l_0:List Qk2) (seq_1:Int):Option Qoa:=Zh7 (Zf1 n n) l_0 seq_1
noncomputable def Zck (l_0:List Qk2) (seq_1:Int):Option Qoa:=Zid 1099511627776 l_0 seq_1
noncomputable def Z31:Ent:=⟨[.val t52,.val t2],[⟨t9,[false],none⟩,⟨t4,[false],none⟩],fun x=>Zck x.1 x.2.1⟩
theorem Zvh (n:Nat) (l_0:List Qk2) (seq_1:Int):Qdf Z2j tab Qzg n [.val t52,.val t2] [⟨t9,[false],none⟩,⟨t4,[false],none⟩] Tryz.f158 (l_0,seq_1,())=Zid n l_0 seq_1:=Eq.trans (b:=Zh7 (Qti n n) l_0 seq_1) (by kernel_rfl) (by rw [Zb9 n n];rfl)
theorem Z8e:Q4j tab.ty Tryz.prog 158 Z31:=
 Qjd (Γ:=Z2j) (fi:=Qzg) (n:=1099511627776) follows Qju Qjz Tryz.func158 (by kernel_rfl) (by kernel_rfl) fun x r h=>(Zvh 1099511627776 x.1 x.2.1).trans h
abbrev Qlj:Type:=(Qkg × Bool × Unit) × Unit
noncomputable def Qve:Ctx:=[(158,Z31)]
def Qu9:Fi:={ keep:=[],vty:=[(10,52)],vals:=[],live:=[(0,[0,1,5,25,26,27,28,29,32,44,45,46,47,48,49,50,51]),(1,[0,1,5,9,25,26,27,28,29,32,44,45,46,47,48,49,50,51]),(2,[0,5,33,44,45,46,47,48,49,50,51]),(3,[6,7]),(4,[0,5,10,44,45,46,47,48,49,50,51]),(5,[0,5,10,11,44,45,46,47,48,49,50,51]),(6,[0,5,10,11,12,44,45,46,47,48,49,50,51]),(7,[0,5,10,11,12,38,44,45,46,47,48,49,50,51]),(8,[0,5,10,11,12,44,45,46,47,48,49,50,51]),(9,[0,5,10,11,12,44,45,46,47,48,49,50,51,52]),(10,[0,5,10,11,12,44,45,46,47,48,49,50,51]),(11,[0,5,10,11,12,44,45,46,47,48,49,50,51]),(12,[5,10,65]),(13,[10]),(14,[6,7])] }
abbrev Qpg:Type:=Qkg→Bool→Int→Int→ByteArray→Qkg→Option Qlj
noncomputable def Z4r (v4:Int) (v2 v7:List Qk2) (L1:Qpg) (v3:Bool) (v5:Int) (v6:ByteArray):Option Qlj:=
 bif decide (0≤v4)&&decide (v4<(v2.length:Int)) then
  bif Nat.ble (v7.length+1) 1073741824 then
   L1 v2 v3 (IntKind.wrap .i64 (v4+1)) v5 v6 (v7++[(List.getD v2 v4.toNat (0,(⟨#[]⟩:ByteArray)))])
  else none
 else none
noncomputable def Z5n (L1:Qpg) (v2:List Qk2) (v3:Bool) (v4 v5:Int) (v6:ByteArray) (v7:List Qk2):Option Qlj:=
 bif decide (v4<(v2.length:Int)) then
  bif !v3 then
   bif decide (0≤v4)&&decide (v4<(v2.length:Int)) then
    bif decide ((List.getD v2 v4.toNat (0,(⟨#[]⟩:ByteArray))).1>v5) then
     bif Nat.ble (v7.length+1) 1073741824 then
      bif decide (0≤v4)&&decide (v4<(v2.length:Int)) then
       bif Nat.ble ((v7++[(v5,v6)]).length+1) 1073741824 then
        L1 v2 true (IntKind.wrap .i64 (v4+1)) v5 v6 ((v7++[(v5,v6)])++[(List.getD v2 v4.toNat (0,(⟨#[]⟩:ByteArray)))])
       else none
      else none
     else none
    else
     Z4r v4 v2 v7 L1 v3 v5 v6
   else none
  else
   Z4r v4 v2 v7 L1 v3 v5 v6
 else
 bif !v3 then
  bif Nat.ble (v7.length+1) 1073741824 then
   some ((v7++[(v5,v6)],true,()),())
  else none
 else
  some ((v7,true,()),())
noncomputable def Z7i (L1:Qpg) (l_0:List Qk2) (next_1:Int) (x_2:Int × ByteArray):Option Qlj:=
 Option.bind (Zck l_0 x_2.1) fun r1=>
 bif decide (x_2.1<next_1) then
  some ((l_0,false,()),())
 else
 bif decide (IntKind.wrap .i64 (x_2.1 - next_1) ≥ 8) then
  some ((l_0,false,()),())
 else
 bif r1.1.2.1 then
  some ((l_0,false,()),())
 else
  L1 l_0 false 0 x_2.1 x_2.2 []
noncomputable def Z49 (n:Nat):Nat→Qpg:=iter (fun _ _ _ _ _ _=>none) fun L=>Z5n L
noncomputable def Qpt (n m:Nat) (v2:List Qk2) (v3:Bool) (v4 v5:Int) (v6:ByteArray) (v7:List Qk2):Option Qlj:=
 Qjl Qve tab (fiB [.val t52,.val t2,.val Qyo] Qu9) n [.val t52,.val t2,.val Qyo] [⟨t52,[false],none⟩,⟨t4,[false],none⟩] Tryz.f124 [1,1,1,1,1,0,1,0] [] [0,5,10,11,12] m
 ⟨[(0,Vp t52 v2),(5,V1 (.ptr (5,0) 0)),(10,V1 (.ref (888888,10))),(11,Vp t4 v3),(12,Vp t2 v4)],[((5,0),Ob.box 142 [LV.pure t2 v5,LV.pure t9 v6]),((888888,10),Ob.row 142 Qyo v7)]⟩
theorem Zj9 (n m:Nat):Qpt n (m+1)=Z5n (Qpt n m):=by kernel_rfl
theorem Z24 (n:Nat):∀ m,Qpt n m=Z49 n m
 | 0=>rfl
 | m+1=>by rw [Zj9 n m,Z24 n m];rfl
noncomputable def Z8n (n:Nat) (l_0:List Qk2) (next_1:Int) (x_2:Int × ByteArray):Option Qlj:=Z7i (Z49 n n) l_0 next_1 x_2
noncomputable def Zem (l_0:List Qk2) (next_1:Int) (x_2:Int × ByteArray):Option Qlj:=Z8n 1099511627776 l_0 next_1 x_2
noncomputable def Z7s:Ent:=⟨[.val t52,.val t2,.val Qyo],[⟨t52,[false],none⟩,⟨t4,[false],none⟩],fun x=>Zem x.1 x.2.1 x.2.2.1⟩
theorem Zor (n:Nat) (l_0:List Qk2) (next_1:Int) (x_2:Int × ByteArray):Qdf Qve tab Qu9 n [.val t52,.val t2,.val Qyo] [⟨t52,[false],none⟩,⟨t4,[false],none⟩] Tryz.f124 (l_0,next_1,x_2,())=Z8n n l_0 next_1 x_2:=Eq.trans (b:=Z7i (Qpt n n) l_0 next_1 x_2) (by kernel_rfl) (by rw [Z24 n n];rfl)
theorem Zjt:Q4j tab.ty Tryz.prog 124 Z7s:=
 Qjd (Γ:=Qve) (fi:=Qu9) (n:=1099511627776) follows (Qjq Z8e Qju) Qjz Tryz.func124 (by kernel_rfl) (by kernel_rfl) fun x r h=>(Zor 1099511627776 x.1 x.2.1 x.2.2.1).trans h
noncomputable def Zhy (f_0:Int × Int × Qkg × Qkg × Qpf × Int × Int) (i_1:Int × ByteArray):Option ((Qnc × Unit) × Unit):=
 bif f_0.1==0 then
  some ((f_0,()),())
 else
 bif decide (i_1.1<1) then
  some ((f_0,()),())
 else
 bif decide (i_1.1>1000000) then
  some ((f_0,()),())
 else
 bif decide ((i_1.2.size:Int)>12) then
  some ((f_0,()),())
 else
  Option.bind (Qof f_0 i_1.1) fun r1=>
  Option.bind (Zem (g3 r1.1.1) r1.1.1.1 i_1) fun r2=>
  Option.bind (Qmh (u3 r1.1.1 r2.1.1)) fun r3=>
  some ((r3.1.1,()),())
noncomputable def Z9k:Ent:=⟨[.val t56,.val Qyo],[⟨t56,(nF 7),none⟩],fun x=>Zhy x.1 x.2.1⟩
theorem Zmo:Q4j tab.ty Tryz.prog 77 Z9k:=
 Qjd (Γ:=[(75,Qoh),(109,Qpm),(124,Z7s)]) (fi:={ keep:=[],vty:=[],vals:=[],live:=[(0,[2,3,4,9,10,11,14,15,16,19,20,21,22]),(1,[2,3,4,23]),(2,[4]),(3,[2,3,4]),(4,[2,4]),(5,[2,4]),(6,[4])] }) (n:=1) follows (Qjq Qoz (Qjq Qpz (Qjq Zjt Qju))) Qjz Tryz.func77 (by kernel_rfl) (by kernel_rfl) fun x r h=>Eq.trans (by kernel_rfl) h
noncomputable def Zia (f_0:Int × Int × Qkg × Qkg × Qpf × Int × Int) (lo_1 hi_2:Int):Option ((Qnc × Unit) × Unit):=
 bif f_0.1==0 then
  some ((f_0,()),())
 else
  Option.bind (Qzp (lo_1,hi_2)) fun r1=>
  bif !r1.1.1 then
   some ((f_0,()),())
  else
   Option.bind (Qof f_0 hi_2) fun r2=>
   bif decide (r2.1.1.1<lo_1) then
    some ((r2.1.1,()),())
   else
   bif decide (r2.1.1.1>hi_2) then
    some ((r2.1.1,()),())
   else
    Option.bind (Z2v r2.1.1 hi_2 1) fun r3=>
    Option.bind (Qmh r3.1.1) fun r4=>
    some ((r4.1.1,()),())
noncomputable def Zc2:Ent:=⟨[.val t56,.val t2,.val t2],[⟨t56,(nF 7),none⟩],fun x=>Zia x.1 x.2.1 x.2.2.1⟩
theorem Znd:Q4j tab.ty Tryz.prog 78 Zc2:=
 Qjd (Γ:=[(75,Qoh),(108,Qwt),(109,Qpm),(114,Qql)]) (fi:={ keep:=[],vty:=[],vals:=[],live:=[(0,[1,2,3,6,11,12,13,14,15,26,27,28,29]),(1,[1,2,3,6,16,26,27,28,29]),(2,[6]),(3,[1,2,3,6,26,27,28,29]),(4,[2,3,6,30]),(5,[6]),(6,[3,6]),(7,[3,6]),(8,[6])] }) (n:=1) follows (Qjq Qoz (Qjq Z19 (Qjq Qpz (Qjq Qr9 Qju)))) Qjz Tryz.func78 (by kernel_rfl) (by kernel_rfl) fun x r h=>Eq.trans (by kernel_rfl) h
abbrev Qmc:Type:=(Zng × Unit) × Unit
noncomputable def Qvs:Ctx:=[(114,Qql)]
def Qud:Fi:={ keep:=[],vty:=[(5,183),(6,183)],vals:=[],live:=[(0,[0,3]),(1,[0,3,10]),(2,[4]),(3,[0,3,5,6]),(4,[0,3,5,6,7]),(5,[0,3,5,6,7,17]),(6,[0,3,5,6,7]),(7,[0,3,5,6,7]),(8,[0,3,5,6,7,37]),(9,[0,3,5,6,7]),(10,[0,3,5,6,7,54]),(11,[0,3,5,6,7]),(12,[4])] }
abbrev Qtr:Type:=Zng→Int→Int→Int→Zng→Zng→Option Qmc
noncomputable def Z4y (L1:Qtr) (v2:List (Int × Int)) (v3 v4 v5:Int) (v6 v7:List (Int × Int)):Option Qmc:=
 bif decide (v3<(v2.length:Int)) then
  bif decide (0≤v3)&&decide (v3<(v2.length:Int)) then
   bif decide (IntKind.wrap .i64 (((List.getD v2 v3.toNat (0,0)).2)+1)<v4) then
    bif decide (0≤v3)&&decide (v3<(v2.length:Int)) then
     bif Nat.ble (v6.length+1) 1073741824 then
      L1 v2 (IntKind.wrap .i64 (v3+1)) v4 v5 (v6++[(List.getD v2 v3.toNat (0,0))]) v7
     else none
    else none
   else
   bif decide (0≤v3)&&decide (v3<(v2.length:Int)) then
    bif decide ((List.getD v2 v3.toNat (0,0)).1>IntKind.wrap .i64 (v5+1)) then
     bif decide (0≤v3)&&decide (v3<(v2.length:Int)) then
      bif Nat.ble (v7.length+1) 1073741824 then
       L1 v2 (IntKind.wrap .i64 (v3+1)) v4 v5 v6 (v7++[(List.getD v2 v3.toNat (0,0))])
      else none
     else none
    else
    bif decide (0≤v3)&&decide (v3<(v2.length:Int)) then
     bif decide (0≤v3)&&decide (v3<(v2.length:Int)) then
      L1 v2 (IntKind.wrap .i64 (v3+1)) (if (List.getD v2 v3.toNat (0,0)).1<v4 then (List.getD v2 v3.toNat (0,0)).1 else v4) (if (List.getD v2 v3.toNat (0,0)).2>v5 then (List.getD v2 v3.toNat (0,0)).2 else v5) v6 v7
     else none
    else none
   else none
  else none
 else
 bif Nat.ble (v6.length+1) 1073741824 then
  bif Nat.ble ((v6++[(v4,v5)]).length+v7.length) 1073741824 then
   some (((v6++[(v4,v5)])++v7,()),())
  else none
 else none
noncomputable def Z7y (L1:Qtr) (l_0:List (Int × Int)) (s_1:Int × Int):Option Qmc:=
 Option.bind (Qzp s_1) fun r1=>
 bif !r1.1.1 then
  bif Nat.ble (0+l_0.length) 1073741824 then
   some (([]++l_0,()),())
  else none
 else
  L1 l_0 0 s_1.1 s_1.2 [] []
noncomputable def Z5e (n:Nat):Nat→Qtr:=iter (fun _ _ _ _ _ _=>none) fun L=>Z4y L
noncomputable def Qpn (n m:Nat) (v2:List (Int × Int)) (v3 v4 v5:Int) (v6 v7:List (Int × Int)):Option Qmc:=
 Qjl Qvs tab (fiB [.val X20,.val t54] Qud) n [.val X20,.val t54] [⟨X20,[true],none⟩] Tryz.f159 [1,1,1,0,1,0] [] [0,3,5,6,7] m
 ⟨[(0,Vp X20 v2),(3,V1 (.ptr (3,0) 0)),(5,V1 (.ref (888888,5))),(6,V1 (.ref (888888,6))),(7,Vp t2 v3)],[((3,0),Ob.box 134 [LV.pure t2 v4,LV.pure t2 v5]),((888888,5),Ob.row 134 t54 v6),((888888,6),Ob.row 134 t54 v7)]⟩
theorem Zhd (n m:Nat):Qpn n (m+1)=Z4y (Qpn n m):=by kernel_rfl
theorem Z1v (n:Nat):∀ m,Qpn n m=Z5e n m
 | 0=>rfl
 | m+1=>by rw [Zhd n m,Z1v n m];rfl
noncomputable def Z7r (n:Nat) (l_0:List (Int × Int)) (s_1:Int × Int):Option Qmc:=Z7y (Z5e n n) l_0 s_1
noncomputable def Zef (l_0:List (Int × Int)) (s_1:Int × Int):Option Qmc:=Z7r 1099511627776 l_0 s_1
noncomputable def Z7n:Ent:=⟨[.val X20,.val t54],[⟨X20,[true],none⟩],fun x=>Zef x.1 x.2.1⟩
theorem Zoi (n:Nat) (l_0:List (Int × Int)) (s_1:Int × Int):Qdf Qvs tab Qud n [.val X20,.val t54] [⟨X20,[true],none⟩] Tryz.f159 (l_0,s_1,())=Z7r n l_0 s_1:=Eq.trans (b:=Z7y (Qpn n n) l_0 s_1) (by kernel_rfl) (by rw [Z1v n n];rfl)
theorem Zkc:Q4j tab.ty Tryz.prog 159 Z7n:=
 Qjd (Γ:=Qvs) (fi:=Qud) (n:=1099511627776) follows (Qjq Qr9 Qju) Qjz Tryz.func159 (by kernel_rfl) (by kernel_rfl) fun x r h=>(Zoi 1099511627776 x.1 x.2.1).trans h
abbrev Qma:Type:=(Qkg × Zng × Unit) × Unit
noncomputable def Qvi:Ctx:=[(158,Z31),(159,Z7n)]
def Quk:Fi:={ keep:=[],vty:=[(8,52),(9,183)],vals:=[],live:=[(0,[1,2,3,25,26,27,30,31,32,33]),(1,[1,2,3,8,25,26,27,30,31,32,33]),(2,[1,2,3,8,9,25,26,27,30,31,32,33]),(3,[1,2,3,8,9,10,25,26,27,30,31,32,33]),(4,[1,2,3,8,9,10,15,25,26,27,30,31,32,33]),(5,[1,2,3,8,9,10,25,26,27,30,31,32,33]),(6,[1,2,3,8,9,10,11,25,26,27,30,31,32,33]),(7,[1,2,3,8,9,10,11,25,26,27,30,31,32,33,34]),(8,[1,2,3,8,9,10,11,12,13,25,26,27,30,31,32,33]),(9,[1,2,3,8,9,10,11,12,25,26,27,30,31,32,33,42]),(10,[1,2,3,8,9,10,25,26,27,30,31,32,33]),(11,[1,2,3,8,9,10,25,26,27,30,31,32,33]),(12,[6,7])] }
abbrev Quc:Type:=Int→Int→Int→Int→Int→Qkg→Qkg→Qpf→Int→Int→Qkg→Zng→Option Qma
noncomputable def Z4t (L1:Quc) (v1 v2 v3 v4 v5:Int) (v6 v7:List Qk2) (v8:List Qkq) (v9 v10:Int) (v11:List Qk2) (v12:List (Int × Int)):Option Qma:=
 bif decide (v3<8) then
  bif v4==0 then
   some ((v11,v12,()),())
  else
  bif decide (IntKind.wrap .i64 (v1+v3)>v2) then
   some ((v11,v12,()),())
  else
  bif decide (IntKind.wrap .i64 (v1+v3) ≥ v4) then
   some ((v11,v12,()),())
  else
   Option.bind (Zck v6 (IntKind.wrap .i64 (v1+v3))) fun r13=>
   bif r13.1.2.1 then
    bif Nat.ble (v11.length+1) 1073741824 then
     L1 v1 v2 (IntKind.wrap .i64 (v3+1)) v4 v5 v6 v7 v8 v9 v10 (v11++[(IntKind.wrap .i64 (v1+v3),r13.1.1)]) v12
    else none
   else
    Option.bind (Zef v12 (IntKind.wrap .i64 (v1+v3),IntKind.wrap .i64 (v1+v3))) fun r14=>
    L1 v1 v2 (IntKind.wrap .i64 (v3+1)) v4 v5 v6 v7 v8 v9 v10 v11 r14.1.1
 else
  some ((v11,v12,()),())
noncomputable def Z6n (L1:Quc) (f_0:Int × Int × Qkg × Qkg × Qpf × Int × Int) (lo_1 hi_2:Int):Option Qma:=
 L1 lo_1 hi_2 0 f_0.1 f_0.2.1 f_0.2.2.1 (g3 f_0) (g4 f_0) (g5 f_0) (h6 f_0) [] []
noncomputable def Z41 (n:Nat):Nat→Quc:=iter (fun _ _ _ _ _ _ _ _ _ _ _ _=>none) fun L=>Z4t L
noncomputable def Qpv (n m:Nat) (v1 v2 v3 v4 v5:Int) (v6 v7:List Qk2) (v8:List Qkq) (v9 v10:Int) (v11:List Qk2) (v12:List (Int × Int)):Option Qma:=
 Qjl Qvi tab (fiB [.val t56,.val t2,.val t2] Quk) n [.val t56,.val t2,.val t2] [⟨t52,[true],none⟩,⟨X20,[true],none⟩] Tryz.f125 [1,1,1,0,1,0] [] [1,2,3,8,9,10] m
 ⟨[(1,Vp t2 v1),(2,Vp t2 v2),(3,V1 (.ptr (3,0) 0)),(8,V1 (.ref (888888,8))),(9,V1 (.ref (888888,9))),(10,Vp t2 v3)],[((3,0),Ob.box 57 [LV.pure t2 v4,LV.pure t2 v5,LV.pure t52 v6,LV.pure t52 v7,LV.pure t53 v8,LV.pure t2 v9,LV.pure t2 v10]),((888888,8),Ob.row 142 Qyo v11),((888888,9),Ob.row 134 t54 v12)]⟩
theorem Zh9 (n m:Nat):Qpv n (m+1)=Z4t (Qpv n m):=by kernel_rfl
theorem Z0z (n:Nat):∀ m,Qpv n m=Z41 n m
 | 0=>rfl
 | m+1=>by rw [Zh9 n m,Z0z n m];rfl
noncomputable def Z6r (n:Nat) (f_0:Int × Int × Qkg × Qkg × Qpf × Int × Int) (lo_1 hi_2:Int):Option Qma:=Z6n (Z41 n n) f_0 lo_1 hi_2
noncomputable def Zes (f_0:Int × Int × Qkg × Qkg × Qpf × Int × Int) (lo_1 hi_2:Int):Option Qma:=Z6r 1099511627776 f_0 lo_1 hi_2
noncomputable def Z7f:Ent:=⟨[.val t56,.val t2,.val t2],[⟨t52,[true],none⟩,⟨X20,[true],none⟩],fun x=>Zes x.1 x.2.1 x.2.2.1⟩
theorem Znp (n:Nat) (f_0:Int × Int × Qkg × Qkg × Qpf × Int × Int) (lo_1 hi_2:Int):Qdf Qvi tab Quk n [.val t56,.val t2,.val t2] [⟨t52,[true],none⟩,⟨X20,[true],none⟩] Tryz.f125 (f_0,lo_1,hi_2,())=Z6r n f_0 lo_1 hi_2:=Eq.trans (b:=Z6n (Qpv n n) f_0 lo_1 hi_2) (by kernel_rfl) (by rw [Z0z n n];rfl)
theorem Zko:Q4j tab.ty Tryz.prog 125 Z7f:=
 Qjd (Γ:=Qvi) (fi:=Quk) (n:=1099511627776) follows (Qjq Z8e (Qjq Zkc Qju)) Qjz Tryz.func125 (by kernel_rfl) (by kernel_rfl) fun x r h=>(Znp 1099511627776 x.1 x.2.1 x.2.2.1).trans h
abbrev Qkn:Type:=(Qtq × Unit) × Unit
noncomputable def Qqj:Ctx:=[(64,Ql3),(125,Z7f)]
def Qpk:Fi:={ keep:=[],vty:=[(7,70)],vals:=[],live:=[(0,[3,4,5]),(1,[3,4,5,7]),(2,[3,5,7,8,9]),(3,[3,5,7,8,9,10]),(4,[3,5,7,8,9,10,26]),(5,[3,5,7,8,9,10]),(6,[3,5,7,8,9,10,11]),(7,[3,5,7,8,9,10,11]),(8,[3,5,7,8,9,10]),(9,[3,5,7,9,12]),(10,[3,5,7,9,12,52]),(11,[3,5,7,9,12]),(12,[3,5,7,9,12,13]),(13,[3,5,7,9,12,13]),(14,[3,5,7,9,12]),(15,[6])] }
abbrev Qtw:Type:=Int→Int→Int→Int→Int→Int→Int→List Int→Int→Int→Int→Int→Int→Zjb→Int→Int→Int→Int→Int→Int→List Int→Int→Int→ByteArray→Qtq→Qkg→Zng→Option Qkn
abbrev Qts:Type:=Int→Int→Int→Int→Int→Int→Int→List Int→Int→Int→Int→Int→Int→Zjb→Int→Int→Int→Int→Int→Int→List Int→Int→Int→ByteArray→Qtq→Zng→Option Qkn
noncomputable def Z4z (L1:Qtw) (L2:Qts) (v2 v3 v4 v5 v6 v7 v8:Int) (v9:List Int) (v10 v11 v12 v13 v14:Int) (v15:List Qkm) (v16 v17 v18 v19 v20 v21:Int) (v22:List Int) (v23 v24:Int) (v25:ByteArray) (v26:List Qko) (v27:List Qk2) (v28:List (Int × Int)):Option Qkn:=
 bif decide (v2<(v27.length:Int)) then
  Option.bind (Qk0 (v3,v4,v5,v6,v7,v8,v9,v10,v11,v12,v13,v14,v15) 7 v17) fun r29=>
  bif decide (0≤v2)&&decide (v2<(v27.length:Int)) then
   bif decide (0≤v2)&&decide (v2<(v27.length:Int)) then
    bif decide (0≤v2)&&decide (v2<(v27.length:Int)) then
     bif decide (0≤v2)&&decide (v2<(v27.length:Int)) then
      bif Nat.ble (v26.length+1) 1073741824 then
       L1 (IntKind.wrap .i64 (v2+1)) v3 v4 v5 v6 v7 v8 v9 v10 v11 v12 v13 v14 v15 v16 v17 v18 v19 v20 v21 v22 v23 v24 v25 (v26++[(e9 (u7 r29.1.1 ((List.getD v27 v2.toNat (0,(⟨#[]⟩:ByteArray))).1)) ((List.getD v27 v2.toNat (0,(⟨#[]⟩:ByteArray))).2))]) v27 v28
      else none
     else none
    else none
   else none
  else none
 else
  L2 0 v3 v4 v5 v6 v7 v8 v9 v10 v11 v12 v13 v14 v15 v16 v17 v18 v19 v20 v21 v22 v23 v24 v25 v26 v28
noncomputable def Z5o (L2:Qts) (v30 v31 v32 v33 v34 v35 v36:Int) (v37:List Int) (v38 v39 v40 v41 v42:Int) (v43:List Qkm) (v44 v45 v46 v47 v48 v49:Int) (v50:List Int) (v51 v52:Int) (v53:ByteArray) (v54:List Qko) (v55:List (Int × Int)):Option Qkn:=
 bif decide (v30<(v55.length:Int)) then
  Option.bind (Qk0 (v31,v32,v33,v34,v35,v36,v37,v38,v39,v40,v41,v42,v43) 9 v45) fun r56=>
  bif decide (0≤v30)&&decide (v30<(v55.length:Int)) then
   bif decide (0≤v30)&&decide (v30<(v55.length:Int)) then
    bif decide (0≤v30)&&decide (v30<(v55.length:Int)) then
     bif decide (0≤v30)&&decide (v30<(v55.length:Int)) then
      bif Nat.ble (v54.length+1) 1073741824 then
       L2 (IntKind.wrap .i64 (v30+1)) v31 v32 v33 v34 v35 v36 v37 v38 v39 v40 v41 v42 v43 v44 v45 v46 v47 v48 v49 v50 v51 v52 v53 (v54++[(u8 (u7 r56.1.1 ((List.getD v55 v30.toNat (0,0)).1)) ((List.getD v55 v30.toNat (0,0)).2))]) v55
      else none
     else none
    else none
   else none
  else none
 else
  some ((v54,()),())
noncomputable def Z82 (L1:Qtw) (t_0:Int × Int × Int × Int × Int × Int × (List Int) × Int × Int × Int × Int × Int × List Qkm) (f_1:Int × Int × Qkg × Qkg × Qpf × Int × Int) (m_2:Int × Int × Int × Int × Int × Int × (List Int) × Int × Int × ByteArray):Option Qkn:=
 Option.bind (Zes f_1 (g7 m_2) (g8 m_2)) fun r1=>
 L1 0 t_0.1 t_0.2.1 t_0.2.2.1 (g3 t_0) (g4 t_0) (g5 t_0) (g6 t_0) (g7 t_0) (g8 t_0) (g9 t_0) (g10 t_0) (g11 t_0) (h12 t_0) m_2.1 m_2.2.1 m_2.2.2.1 (g3 m_2) (g4 m_2) (g5 m_2) (g6 m_2) (g7 m_2) (g8 m_2) (h9 m_2) [] r1.1.1 r1.1.2.1
noncomputable def Z47 (n:Nat):Nat→Qts:=iter (fun _ _ _ _ _ _ _ _ _ _ _ _ _ _ _ _ _ _ _ _ _ _ _ _ _ _=>none) fun L=>Z5o L
noncomputable def Z5p (n:Nat):Nat→Qtw:=iter (fun _ _ _ _ _ _ _ _ _ _ _ _ _ _ _ _ _ _ _ _ _ _ _ _ _ _ _=>none) fun L=>Z4z L (Z47 n n)
noncomputable def Qpu (n m:Nat) (v2 v3 v4 v5 v6 v7 v8:Int) (v9:List Int) (v10 v11 v12 v13 v14:Int) (v15:List Qkm) (v16 v17 v18 v19 v20 v21:Int) (v22:List Int) (v23 v24:Int) (v25:ByteArray) (v26:List Qko) (v27:List Qk2) (v28:List (Int × Int)):Option Qkn:=
 Qjl Qqj tab (fiB [.val t50,.val t56,.val Qsi] Qpk) n [.val t50,.val t56,.val Qsi] [⟨t70,[true],none⟩] Tryz.f80 [1,1,1,0,1,0] [] [3,5,7,8,9,10] m
 ⟨[(3,V1 (.ptr (3,0) 0)),(5,V1 (.ptr (5,0) 0)),(7,V1 (.ref (888888,7))),(8,V1 (.ref (888888,8))),(9,V1 (.ref (888888,9))),(10,Vp t2 v2)],[((3,0),Ob.box 51 [LV.pure t2 v3,LV.pure t2 v4,LV.pure t2 v5,LV.pure t2 v6,LV.pure t2 v7,LV.pure t2 v8,LV.pure t44 v9,LV.pure t2 v10,LV.pure t2 v11,LV.pure t2 v12,LV.pure t2 v13,LV.pure t2 v14,LV.pure t49 v15]),((5,0),Ob.box 105 [LV.pure t2 v16,LV.pure t2 v17,LV.pure t2 v18,LV.pure t2 v19,LV.pure t2 v20,LV.pure t2 v21,LV.pure t44 v22,LV.pure t2 v23,LV.pure t2 v24,LV.pure t9 v25]),((888888,7),Ob.row 105 Qsi v26),((888888,8),Ob.row 142 Qyo v27),((888888,9),Ob.row 134 t54 v28)]⟩
noncomputable def Qpx (n m:Nat) (v30 v31 v32 v33 v34 v35 v36:Int) (v37:List Int) (v38 v39 v40 v41 v42:Int) (v43:List Qkm) (v44 v45 v46 v47 v48 v49:Int) (v50:List Int) (v51 v52:Int) (v53:ByteArray) (v54:List Qko) (v55:List (Int × Int)):Option Qkn:=
 Qjl Qqj tab (fiB [.val t50,.val t56,.val Qsi] Qpk) n [.val t50,.val t56,.val Qsi] [⟨t70,[true],none⟩] Tryz.f80 [1,1,1,1,0,1,0] [] [3,5,7,9,12] m
 ⟨[(3,V1 (.ptr (3,0) 0)),(5,V1 (.ptr (5,0) 0)),(7,V1 (.ref (888888,7))),(9,V1 (.ref (888888,9))),(12,Vp t2 v30)],[((3,0),Ob.box 51 [LV.pure t2 v31,LV.pure t2 v32,LV.pure t2 v33,LV.pure t2 v34,LV.pure t2 v35,LV.pure t2 v36,LV.pure t44 v37,LV.pure t2 v38,LV.pure t2 v39,LV.pure t2 v40,LV.pure t2 v41,LV.pure t2 v42,LV.pure t49 v43]),((5,0),Ob.box 105 [LV.pure t2 v44,LV.pure t2 v45,LV.pure t2 v46,LV.pure t2 v47,LV.pure t2 v48,LV.pure t2 v49,LV.pure t44 v50,LV.pure t2 v51,LV.pure t2 v52,LV.pure t9 v53]),((888888,7),Ob.row 105 Qsi v54),((888888,9),Ob.row 134 t54 v55)]⟩
theorem Zj0 (n m:Nat):Qpu n (m+1)=Z4z (Qpu n m) (Qpx n n):=by kernel_rfl
theorem Zhr (n m:Nat):Qpx n (m+1)=Z5o (Qpx n m):=by kernel_rfl
theorem Z1g (n:Nat):∀ m,Qpx n m=Z47 n m
 | 0=>rfl
 | m+1=>by rw [Zhr n m,Z1g n m];rfl
theorem Z1e (n:Nat):∀ m,Qpu n m=Z5p n m
 | 0=>rfl
 | m+1=>by rw [Zj0 n m,Z1g n n,Z1e n m];rfl
noncomputable def Z6x (n:Nat) (t_0:Int × Int × Int × Int × Int × Int × (List Int) × Int × Int × Int × Int × Int × List Qkm) (f_1:Int × Int × Qkg × Qkg × Qpf × Int × Int) (m_2:Int × Int × Int × Int × Int × Int × (List Int) × Int × Int × ByteArray):Option Qkn:=Z82 (Z5p n n) t_0 f_1 m_2
noncomputable def Zf8 (t_0:Int × Int × Int × Int × Int × Int × (List Int) × Int × Int × Int × Int × Int × List Qkm) (f_1:Int × Int × Qkg × Qkg × Qpf × Int × Int) (m_2:Int × Int × Int × Int × Int × Int × (List Int) × Int × Int × ByteArray):Option Qkn:=Z6x 1099511627776 t_0 f_1 m_2
noncomputable def Z8d:Ent:=⟨[.val t50,.val t56,.val Qsi],[⟨t70,[true],none⟩],fun x=>Zf8 x.1 x.2.1 x.2.2.1⟩
theorem Zp7 (n:Nat) (t_0:Int × Int × Int × Int × Int × Int × (List Int) × Int × Int × Int × Int × Int × List Qkm) (f_1:Int × Int × Qkg × Qkg × Qpf × Int × Int) (m_2:Int × Int × Int × Int × Int × Int × (List Int) × Int × Int × ByteArray):Qdf Qqj tab Qpk n [.val t50,.val t56,.val Qsi] [⟨t70,[true],none⟩] Tryz.f80 (t_0,f_1,m_2,())=Z6x n t_0 f_1 m_2:=Eq.trans (b:=Z82 (Qpu n n) t_0 f_1 m_2) (by kernel_rfl) (by rw [Z1e n n];rfl)
theorem Zjj:Q4j tab.ty Tryz.prog 80 Z8d:=
 Qjd (Γ:=Qqj) (fi:=Qpk) (n:=1099511627776) follows (Qjq Qks (Qjq Zko Qju)) Qjz Tryz.func80 (by kernel_rfl) (by kernel_rfl) fun x r h=>(Zp7 1099511627776 x.1 x.2.1 x.2.2.1).trans h
noncomputable def Qnf (arr_0:Bool × Int × ByteArray × Qli × Qnc × Int) (r4:(Qnc × Unit) × Unit) (r2:(Qli × Qtq × Unit) × Unit):Option ((Z3k × Qtq × Unit) × Unit):=
 bif (decide (0≤((g4 (g4 arr_0)).length:Int))&&decide (((g4 (g4 arr_0)).length:Int)≤((g4 r4.1.1).length:Int)))&&decide (((g4 r4.1.1).length:Int)≤((g4 r4.1.1).length:Int)) then
  Option.bind (Qnn r2.1.1 (List.drop (((g4 (g4 arr_0)).length:Int).toNat) (List.take (((g4 r4.1.1).length:Int).toNat) (g4 r4.1.1)))) fun r5=>
  bif Nat.ble (r2.1.2.1.length+r5.1.1.length) 1073741824 then
   some (((u4 (u3 arr_0 r2.1.1) r4.1.1),r2.1.2.1++r5.1.1,()),())
  else none
 else none
noncomputable def Qqx (arr_0:Bool × Int × ByteArray × Qli × Qnc × Int) (r2:(Qli × Qtq × Unit) × Unit):Option ((Z3k × Qtq × Unit) × Unit):=
 bif (decide (0≤((g4 (g4 arr_0)).length:Int))&&decide (((g4 (g4 arr_0)).length:Int)≤((g4 (g4 arr_0)).length:Int)))&&decide (((g4 (g4 arr_0)).length:Int)≤((g4 (g4 arr_0)).length:Int)) then
  Option.bind (Qnn r2.1.1 (List.drop (((g4 (g4 arr_0)).length:Int).toNat) (List.take (((g4 (g4 arr_0)).length:Int).toNat) (g4 (g4 arr_0))))) fun r15=>
  bif Nat.ble (r2.1.2.1.length+r15.1.1.length) 1073741824 then
   some (((u3 arr_0 r2.1.1),r2.1.2.1++r15.1.1,()),())
  else none
 else none
noncomputable def Qne (r1:(Qko × Bool × Unit) × Unit) (r2:(Qli × Qtq × Unit) × Unit) (arr_0:Bool × Int × ByteArray × Qli × Qnc × Int):Option ((Z3k × Qtq × Unit) × Unit):=
 bif r1.1.1.1==8 then
  Option.bind (Qoj (h12 r2.1.1) r1.1.1.2.1) fun r12=>
  bif r12.1.2.1 then
   bif r12.1.1.2.1==(g3 r1.1.1) then
    Option.bind (Zf8 r2.1.1 (g4 arr_0) r1.1.1) fun r13=>
    bif Nat.ble (r2.1.2.1.length+r13.1.1.length) 1073741824 then
     bif (decide (0≤((g4 (g4 arr_0)).length:Int))&&decide (((g4 (g4 arr_0)).length:Int)≤((g4 (g4 arr_0)).length:Int)))&&decide (((g4 (g4 arr_0)).length:Int)≤((g4 (g4 arr_0)).length:Int)) then
      Option.bind (Qnn r2.1.1 (List.drop (((g4 (g4 arr_0)).length:Int).toNat) (List.take (((g4 (g4 arr_0)).length:Int).toNat) (g4 (g4 arr_0))))) fun r14=>
      bif Nat.ble ((r2.1.2.1++r13.1.1).length+r14.1.1.length) 1073741824 then
       some (((u3 arr_0 r2.1.1),(r2.1.2.1++r13.1.1)++r14.1.1,()),())
      else none
     else none
    else none
   else
    Qqx arr_0 r2
  else
   Qqx arr_0 r2
 else
  Qqx arr_0 r2
noncomputable def Qy3 (r1:(Qko × Bool × Unit) × Unit) (r2:(Qli × Qtq × Unit) × Unit) (arr_0:Bool × Int × ByteArray × Qli × Qnc × Int):Option ((Z3k × Qtq × Unit) × Unit):=
 bif r1.1.1.1==9 then
  bif (g4 r2.1.1)==(g3 r1.1.1) then
   Option.bind (Zia (g4 arr_0) (g7 r1.1.1) (g8 r1.1.1)) fun r10=>
   Qnf arr_0 r10 r2
  else
   Qne r1 r2 arr_0
 else
  Qne r1 r2 arr_0
noncomputable def Qy8 (r1:(Qko × Bool × Unit) × Unit) (r2:(Qli × Qtq × Unit) × Unit) (arr_0:Bool × Int × ByteArray × Qli × Qnc × Int):Option ((Z3k × Qtq × Unit) × Unit):=
 bif r1.1.1.1==7 then
  bif (g4 r2.1.1)==(g3 r1.1.1) then
   Option.bind (Zhy (g4 arr_0) ((g7 r1.1.1),(h9 r1.1.1))) fun r8=>
   Qnf arr_0 r8 r2
  else
   Qy3 r1 r2 arr_0
 else
  Qy3 r1 r2 arr_0
noncomputable def Qr0 (r1:(Qko × Bool × Unit) × Unit) (r2:(Qli × Qtq × Unit) × Unit) (arr_0:Bool × Int × ByteArray × Qli × Qnc × Int):Option ((Z3k × Qtq × Unit) × Unit):=
 bif r1.1.1.1==5 then
  bif (g4 r2.1.1)==(g3 r1.1.1) then
   Option.bind (Qof (g4 arr_0) (g8 r1.1.1)) fun r6=>
   Qnf arr_0 r6 r2
  else
   Qy8 r1 r2 arr_0
 else
  Qy8 r1 r2 arr_0
noncomputable def Qyh (r1:(Qko × Bool × Unit) × Unit) (r2:(Qli × Qtq × Unit) × Unit) (arr_0:Bool × Int × ByteArray × Qli × Qnc × Int):Option ((Z3k × Qtq × Unit) × Unit):=
 bif r1.1.1.1==9 then
  Qne r1 r2 arr_0
 else
  Qne r1 r2 arr_0
noncomputable def Qyj (r1:(Qko × Bool × Unit) × Unit) (r2:(Qli × Qtq × Unit) × Unit) (arr_0:Bool × Int × ByteArray × Qli × Qnc × Int):Option ((Z3k × Qtq × Unit) × Unit):=
 bif r1.1.1.1==7 then
  Qyh r1 r2 arr_0
 else
  Qyh r1 r2 arr_0
noncomputable def Qxx (r1:(Qko × Bool × Unit) × Unit) (r2:(Qli × Qtq × Unit) × Unit) (arr_0:Bool × Int × ByteArray × Qli × Qnc × Int):Option ((Z3k × Qtq × Unit) × Unit):=
 bif r1.1.1.1==5 then
  Qyj r1 r2 arr_0
 else
  Qyj r1 r2 arr_0
noncomputable def Qwk (r1:(Qko × Bool × Unit) × Unit) (r2:(Qli × Qtq × Unit) × Unit) (arr_0:Bool × Int × ByteArray × Qli × Qnc × Int):Option ((Z3k × Qtq × Unit) × Unit):=
 bif r1.1.1.1==2 then
  Qxx r1 r2 arr_0
 else
  Qxx r1 r2 arr_0
noncomputable def Z3y (arr_0:Bool × Int × ByteArray × Qli × Qnc × Int) (x_1:List Int):Option ((Z3k × Qtq × Unit) × Unit):=
 bif !arr_0.1 then
  some ((arr_0,[],()),())
 else
  Option.bind (Z9u x_1) fun r1=>
  bif !r1.1.2.1 then
   some (((e5 arr_0 (if 1073741824<IntKind.wrap .i64 ((h5 arr_0)+1) then 1073741824 else IntKind.wrap .i64 ((h5 arr_0)+1))),[],()),())
  else
  bif r1.1.1.2.2.1 != (g3 arr_0).1 then
   some (((e5 arr_0 (if 1073741824<IntKind.wrap .i64 ((h5 arr_0)+1) then 1073741824 else IntKind.wrap .i64 ((h5 arr_0)+1))),[],()),())
  else
   Option.bind (Zhi (g3 arr_0) r1.1.1 (if 1>(g4 arr_0).1 then 1 else (g4 arr_0).1)) fun r2=>
   bif (g3 r2.1.1) != 0 then
    bif (g3 r2.1.1)==r1.1.1.2.1 then
     bif r1.1.1.1==2 then
      bif (g4 r2.1.1)==(g3 r1.1.1) then
       bif (g3 (g3 arr_0)) != r1.1.1.2.1 then
        Option.bind (Zgm (g4 arr_0) (g7 r1.1.1)) fun r3=>
        Option.bind (Qof r3.1.1 (IntKind.wrap .i64 ((g7 r1.1.1) - 1))) fun r4=>
        Qnf arr_0 r4 r2
       else
        Qr0 r1 r2 arr_0
      else
       Qr0 r1 r2 arr_0
     else
      Qr0 r1 r2 arr_0
    else
     Qwk r1 r2 arr_0
   else
    Qwk r1 r2 arr_0
noncomputable def Qzr:Ent:=⟨[.val t58,.val t66],[⟨t58,(nF 24),none⟩,⟨t70,[true],none⟩],fun x=>Z3y x.1 x.2.1⟩
theorem Zcp:Q4j tab.ty Tryz.prog 47 Qzr:=
 Qjd (Γ:=[(44,Qtc),(73,Z5g),(74,Z9i),(75,Qoh),(76,Zas),(77,Z9k),(78,Zc2),(79,Qux),(80,Z8d)]) (fi:={ keep:=[],vty:=[],vals:=[],live:=[(0,[1,2,4,28,29,30,31,32,33,66,67,68,69,70,73,74,75,76,77,84,87,88,89,90,105,116,130,152,153,154,155,156]),(1,[1,2,4,18,28,29,30,31,32,33,66,67,68,69,70,73,74,75,76,77,84,87,88,89,90,105,116,130,152,153,154,155,156]),(2,[4,5]),(3,[2,4,6,7,28,29,30,31,32,33,66,67,68,69,70,73,74,75,76,77,84,87,88,89,90,105,116,130,152,153,154,155,156]),(4,[2,4,6,34,66,67,68,69,70,73,74,75,76,77,84,87,88,89,90,105,116,130,152,153,154,155,156]),(5,[2,4]),(6,[4,5]),(7,[2,4,6,8,66,67,68,69,70,73,74,75,76,77,84,87,88,89,90,105,116,130,152,153,154,155,156]),(8,[2,4,6,8,9,10,66,67,68,69,70,73,74,75,76,77,84,87,88,89,90,105,116,130,152,153,154,155,156]),(9,[2,4,6,8,9,10,66,67,68,69,70,73,74,75,76,77,84,87,88,89,90,105,116,130,152,153,154,155,156]),(10,[2,4,6,8,9,10,11,66,67,68,69,70,73,74,75,76,77,84,87,88,89,90,105,116,130,152,153,154,155,156]),(11,[2,4,6,8,9,10,11,12,66,67,68,69,70,73,74,75,76,77,84,87,88,89,90,105,116,130,152,153,154,155,156]),(12,[2,4,6,8,9,10,11,12,13,84,87,88,89,90,105,116,130,152,153,154,155,156]),(13,[2,4,6,9,10,11,12,13,79,105,116,130,152,153,154,155,156]),(14,[2,4,9,10,11,12]),(15,[2,4,6,9,10,11,12,13,100,116,130,152,153,154,155,156]),(16,[2,4,9,10,11,12]),(17,[2,4,6,9,10,11,12,13,111,130,152,153,154,155,156]),(18,[2,4,9,10,11,12]),(19,[2,4,6,9,10,11,12,125,152,153,154,155,156]),(20,[2,4,9,10,11,12]),(21,[2,4,6,9,10,11,12,138,152,153,154,155,156]),(22,[2,4,6,9,10,11,12,14,15,152,153,154,155,156]),(23,[2,4,6,9,10,11,12,157]),(24,[2,4,9,10,11,12]),(25,[2,4,9,10,11,12]),(26,[4,5])] }) (n:=1) follows (Qjq Qup (Qjq Zgt (Qjq Zmk (Qjq Qoz (Qjq Zmy (Qjq Zmo (Qjq Znd (Qjq Qvr (Qjq Zjj Qju))))))))) Qjz Tryz.func47 (by kernel_rfl) (by kernel_rfl) fun x r h=>Eq.trans (by kernel_rfl) h
noncomputable def Zl6 (w_0:Qsj × Qq2 × (List ByteArray) × Int × Qp3 × List Qkr) (g_1:Int × ByteArray × Bool):Option (Zka × Unit):=
 bif decide (g_1.1<1) then
  some ((w_0,()),())
 else
 bif decide (g_1.1>(w_0.1.length:Int)) then
  some ((w_0,()),())
 else
 bif decide (0≤IntKind.wrap .i64 (g_1.1 - 1))&&decide (IntKind.wrap .i64 (g_1.1 - 1)<(w_0.1.length:Int)) then
  bif Nat.ble g_1.2.1.size 1073741824 then
   Option.bind (Z3y ((List.getD w_0.1 ((IntKind.wrap .i64 (g_1.1 - 1)).toNat) Qk4).1,((List.getD w_0.1 ((IntKind.wrap .i64 (g_1.1 - 1)).toNat) Qk4).2).1,(((List.getD w_0.1 ((IntKind.wrap .i64 (g_1.1 - 1)).toNat) Qk4).2).2).1,((((((List.getD w_0.1 ((IntKind.wrap .i64 (g_1.1 - 1)).toNat) Qk4).2).2).2).1).1,((((((List.getD w_0.1 ((IntKind.wrap .i64 (g_1.1 - 1)).toNat) Qk4).2).2).2).1).2).1,(((((((List.getD w_0.1 ((IntKind.wrap .i64 (g_1.1 - 1)).toNat) Qk4).2).2).2).1).2).2).1,((((((((List.getD w_0.1 ((IntKind.wrap .i64 (g_1.1 - 1)).toNat) Qk4).2).2).2).1).2).2).2).1,(((((((((List.getD w_0.1 ((IntKind.wrap .i64 (g_1.1 - 1)).toNat) Qk4).2).2).2).1).2).2).2).2).1,((((((((((List.getD w_0.1 ((IntKind.wrap .i64 (g_1.1 - 1)).toNat) Qk4).2).2).2).1).2).2).2).2).2).1,(((((((((((List.getD w_0.1 ((IntKind.wrap .i64 (g_1.1 - 1)).toNat) Qk4).2).2).2).1).2).2).2).2).2).2).1,((((((((((((List.getD w_0.1 ((IntKind.wrap .i64 (g_1.1 - 1)).toNat) Qk4).2).2).2).1).2).2).2).2).2).2).2).1,(((((((((((((List.getD w_0.1 ((IntKind.wrap .i64 (g_1.1 - 1)).toNat) Qk4).2).2).2).1).2).2).2).2).2).2).2).2).1,((((((((((((((List.getD w_0.1 ((IntKind.wrap .i64 (g_1.1 - 1)).toNat) Qk4).2).2).2).1).2).2).2).2).2).2).2).2).2).1,(((((((((((((((List.getD w_0.1 ((IntKind.wrap .i64 (g_1.1 - 1)).toNat) Qk4).2).2).2).1).2).2).2).2).2).2).2).2).2).2).1,((((((((((((((((List.getD w_0.1 ((IntKind.wrap .i64 (g_1.1 - 1)).toNat) Qk4).2).2).2).1).2).2).2).2).2).2).2).2).2).2).2)),(((((((List.getD w_0.1 ((IntKind.wrap .i64 (g_1.1 - 1)).toNat) Qk4).2).2).2).2).1).1,(((((((List.getD w_0.1 ((IntKind.wrap .i64 (g_1.1 - 1)).toNat) Qk4).2).2).2).2).1).2).1,((((((((List.getD w_0.1 ((IntKind.wrap .i64 (g_1.1 - 1)).toNat) Qk4).2).2).2).2).1).2).2).1,(((((((((List.getD w_0.1 ((IntKind.wrap .i64 (g_1.1 - 1)).toNat) Qk4).2).2).2).2).1).2).2).2).1,((((((((((List.getD w_0.1 ((IntKind.wrap .i64 (g_1.1 - 1)).toNat) Qk4).2).2).2).2).1).2).2).2).2).1,(((((((((((List.getD w_0.1 ((IntKind.wrap .i64 (g_1.1 - 1)).toNat) Qk4).2).2).2).2).1).2).2).2).2).2)),(((((List.getD w_0.1 ((IntKind.wrap .i64 (g_1.1 - 1)).toNat) Qk4).2).2).2).2).2) (g_1.2.1.data.toList.map fun b=>(b.toNat:Int))) fun r1=>
   Option.bind (Z6a w_0 (IntKind.wrap .i64 (g_1.1 - 1)) r1.1.1 r1.1.2.1) fun r2=>
   some ((r2.1.1,()),())
  else none
 else none
noncomputable def Zeo:Ent:=⟨[.val t30,.val t74],[⟨t30,(nF 6),none⟩],fun x=>Zl6 x.1 x.2.1⟩
theorem Zp1:Q4j tab.ty Tryz.prog 23 Zeo:=
 Qjd (Γ:=[(21,Qte),(47,Qzr)]) (fi:={ keep:=[],vty:=[],vals:=[],live:=[(0,[2,3,4,11,12,13,14,15,16]),(1,[2,3,4,17]),(2,[4]),(3,[2,3,4,5,6]),(4,[4])] }) (n:=1) follows (Qjq Quo (Qjq Zcp Qju)) Qjz Tryz.func23 (by kernel_rfl) (by kernel_rfl) fun x r h=>Eq.trans (by kernel_rfl) h
noncomputable def Zi4 (l_0:List Z8z) (i_1:Int):Option ((Qq2 × Bool × Unit) × Unit):=
 bif decide (i_1<0) then
  some ((l_0,false,()),())
 else
 bif decide (i_1 ≥ (l_0.length:Int)) then
  some ((l_0,false,()),())
 else
 bif decide ((l_0.length:Int) ≥ 60) then
  some ((l_0,false,()),())
 else
 bif decide (0≤i_1)&&decide (i_1<(l_0.length:Int)) then
  Option.bind (Qwm l_0 (List.getD l_0 i_1.toNat Qn2)) fun r1=>
  some ((r1.1.1,true,()),())
 else none
noncomputable def Zbc:Ent:=⟨[.val t24,.val t2],[⟨t24,[false],none⟩,⟨t4,[false],none⟩],fun x=>Zi4 x.1 x.2.1⟩
theorem Zme:Q4j tab.ty Tryz.prog 24 Zbc:=
 Qjd (Γ:=[(46,Qzx)]) (fi:={ keep:=[],vty:=[],vals:=[],live:=[(0,[0,1,9,10,11,12,15,16,17]),(1,[0,1,18]),(2,[4,5]),(3,[4,5])] }) (n:=1) follows (Qjq Z4x Qju) Qjz Tryz.func24 (by kernel_rfl) (by kernel_rfl) fun x r h=>Eq.trans (by kernel_rfl) h
noncomputable def Zdz (l_0:List Z8z) (i_1 to_2:Int):Option ((Qq2 × Bool × Unit) × Unit):=
 bif decide (i_1<0) then
  some ((l_0,false,()),())
 else
 bif decide (i_1 ≥ (l_0.length:Int)) then
  some ((l_0,false,()),())
 else
 bif decide (0≤i_1)&&decide (i_1<(l_0.length:Int)) then
  bif ((List.getD l_0 i_1.toNat Qn2).2).2 then
   some ((l_0,false,()),())
  else
  bif decide (0≤i_1)&&decide (i_1<(l_0.length:Int)) then
   bif ((((List.getD l_0 i_1.toNat Qn2).2).1).size:Int)==0 then
    some ((l_0,false,()),())
   else
   bif decide (to_2<0) then
    some ((l_0,false,()),())
   else
   bif (Int.tmod to_2 256)==0 then
    some ((l_0,false,()),())
   else
   bif Nat.ble (0+l_0.length) 1073741824 then
    bif decide (0≤i_1)&&decide (i_1<(l_0.length:Int)) then
     bif Nat.ble (((List.getD l_0 i_1.toNat Qn2).2).1).size 1073741824 then
      bif !((((((List.getD l_0 i_1.toNat Qn2).2).1).data.toList.map fun b=>(b.toNat:Int)).length:Int)==0) then
       bif decide (0≤Int.tmod (IntKind.wrap .i64 (Int.tdiv to_2 256)) (((((List.getD l_0 i_1.toNat Qn2).2).1).data.toList.map fun b=>(b.toNat:Int)).length:Int))&&decide (Int.tmod (IntKind.wrap .i64 (Int.tdiv to_2 256)) (((((List.getD l_0 i_1.toNat Qn2).2).1).data.toList.map fun b=>(b.toNat:Int)).length:Int)<(((((List.getD l_0 i_1.toNat Qn2).2).1).data.toList.map fun b=>(b.toNat:Int)).length:Int)) then
        bif decide (0≤Int.tmod (IntKind.wrap .i64 (Int.tdiv to_2 256)) (((((List.getD l_0 i_1.toNat Qn2).2).1).data.toList.map fun b=>(b.toNat:Int)).length:Int))&&decide (Int.tmod (IntKind.wrap .i64 (Int.tdiv to_2 256)) (((((List.getD l_0 i_1.toNat Qn2).2).1).data.toList.map fun b=>(b.toNat:Int)).length:Int)<(((((List.getD l_0 i_1.toNat Qn2).2).1).data.toList.map fun b=>(b.toNat:Int)).length:Int)) then
         bif decide (0≤Int.tmod (IntKind.wrap .i64 (Int.tdiv to_2 256)) (((((List.getD l_0 i_1.toNat Qn2).2).1).data.toList.map fun b=>(b.toNat:Int)).length:Int))&&decide (Int.tmod (IntKind.wrap .i64 (Int.tdiv to_2 256)) (((((List.getD l_0 i_1.toNat Qn2).2).1).data.toList.map fun b=>(b.toNat:Int)).length:Int)<(((((List.getD l_0 i_1.toNat Qn2).2).1).data.toList.map fun b=>(b.toNat:Int)).length:Int)) then
          bif decide (0≤Int.tmod (IntKind.wrap .i64 (Int.tdiv to_2 256)) (((((List.getD l_0 i_1.toNat Qn2).2).1).data.toList.map fun b=>(b.toNat:Int)).length:Int))&&decide (Int.tmod (IntKind.wrap .i64 (Int.tdiv to_2 256)) (((((List.getD l_0 i_1.toNat Qn2).2).1).data.toList.map fun b=>(b.toNat:Int)).length:Int)<(((((List.getD l_0 i_1.toNat Qn2).2).1).data.toList.map fun b=>(b.toNat:Int)).length:Int)) then
           bif decide (0≤i_1)&&decide (i_1<(([]++l_0).length:Int)) then
            bif decide (0≤i_1)&&decide (i_1<(([]++l_0).length:Int)) then
            bif decide (0≤i_1)&&decide (i_1<((List.set ([]++l_0) i_1.toNat ((List.getD ([]++l_0) i_1.toNat Qn2).1,Q4w (List.set ((((List.getD l_0 i_1.toNat Qn2).2).1).data.toList.map fun b=>(b.toNat:Int)) ((Int.tmod (IntKind.wrap .i64 (Int.tdiv to_2 256)) (((((List.getD l_0 i_1.toNat Qn2).2).1).data.toList.map fun b=>(b.toNat:Int)).length:Int)).toNat) (IntKind.wrap .u8 ((BitVec.ofInt 8 (List.getD ((((List.getD l_0 i_1.toNat Qn2).2).1).data.toList.map fun b=>(b.toNat:Int)) ((Int.tmod (IntKind.wrap .i64 (Int.tdiv to_2 256)) (((((List.getD l_0 i_1.toNat Qn2).2).1).data.toList.map fun b=>(b.toNat:Int)).length:Int)).toNat) 0) ^^^ BitVec.ofInt 8 (IntKind.wrap .u8 (Int.tmod to_2 256))).toNat))),((List.getD ([]++l_0) i_1.toNat Qn2).2).2)).length:Int)) then
            bif decide (0≤i_1)&&decide (i_1<((List.set ([]++l_0) i_1.toNat ((List.getD ([]++l_0) i_1.toNat Qn2).1,Q4w (List.set ((((List.getD l_0 i_1.toNat Qn2).2).1).data.toList.map fun b=>(b.toNat:Int)) ((Int.tmod (IntKind.wrap .i64 (Int.tdiv to_2 256)) (((((List.getD l_0 i_1.toNat Qn2).2).1).data.toList.map fun b=>(b.toNat:Int)).length:Int)).toNat) (IntKind.wrap .u8 ((BitVec.ofInt 8 (List.getD ((((List.getD l_0 i_1.toNat Qn2).2).1).data.toList.map fun b=>(b.toNat:Int)) ((Int.tmod (IntKind.wrap .i64 (Int.tdiv to_2 256)) (((((List.getD l_0 i_1.toNat Qn2).2).1).data.toList.map fun b=>(b.toNat:Int)).length:Int)).toNat) 0) ^^^ BitVec.ofInt 8 (IntKind.wrap .u8 (Int.tmod to_2 256))).toNat))),((List.getD ([]++l_0) i_1.toNat Qn2).2).2)).length:Int)) then
            some ((List.set (List.set ([]++l_0) i_1.toNat ((List.getD ([]++l_0) i_1.toNat Qn2).1,Q4w (List.set ((((List.getD l_0 i_1.toNat Qn2).2).1).data.toList.map fun b=>(b.toNat:Int)) ((Int.tmod (IntKind.wrap .i64 (Int.tdiv to_2 256)) (((((List.getD l_0 i_1.toNat Qn2).2).1).data.toList.map fun b=>(b.toNat:Int)).length:Int)).toNat) (IntKind.wrap .u8 ((BitVec.ofInt 8 (List.getD ((((List.getD l_0 i_1.toNat Qn2).2).1).data.toList.map fun b=>(b.toNat:Int)) ((Int.tmod (IntKind.wrap .i64 (Int.tdiv to_2 256)) (((((List.getD l_0 i_1.toNat Qn2).2).1).data.toList.map fun b=>(b.toNat:Int)).length:Int)).toNat) 0) ^^^ BitVec.ofInt 8 (IntKind.wrap .u8 (Int.tmod to_2 256))).toNat))),((List.getD ([]++l_0) i_1.toNat Qn2).2).2)) i_1.toNat ((List.getD (List.set ([]++l_0) i_1.toNat ((List.getD ([]++l_0) i_1.toNat Qn2).1,Q4w (List.set ((((List.getD l_0 i_1.toNat Qn2).2).1).data.toList.map fun b=>(b.toNat:Int)) ((Int.tmod (IntKind.wrap .i64 (Int.tdiv to_2 256)) (((((List.getD l_0 i_1.toNat Qn2).2).1).data.toList.map fun b=>(b.toNat:Int)).length:Int)).toNat) (IntKind.wrap .u8 ((BitVec.ofInt 8 (List.getD ((((List.getD l_0 i_1.toNat Qn2).2).1).data.toList.map fun b=>(b.toNat:Int)) ((Int.tmod (IntKind.wrap .i64 (Int.tdiv to_2 256)) (((((List.getD l_0 i_1.toNat Qn2).2).1).data.toList.map fun b=>(b.toNat:Int)).length:Int)).toNat) 0) ^^^ BitVec.ofInt 8 (IntKind.wrap .u8 (Int.tmod to_2 256))).toNat))),((List.getD ([]++l_0) i_1.toNat Qn2).2).2)) i_1.toNat Qn2).1,((List.getD (List.set ([]++l_0) i_1.toNat ((List.getD ([]++l_0) i_1.toNat Qn2).1,Q4w (List.set ((((List.getD l_0 i_1.toNat Qn2).2).1).data.toList.map fun b=>(b.toNat:Int)) ((Int.tmod (IntKind.wrap .i64 (Int.tdiv to_2 256)) (((((List.getD l_0 i_1.toNat Qn2).2).1).data.toList.map fun b=>(b.toNat:Int)).length:Int)).toNat) (IntKind.wrap .u8 ((BitVec.ofInt 8 (List.getD ((((List.getD l_0 i_1.toNat Qn2).2).1).data.toList.map fun b=>(b.toNat:Int)) ((Int.tmod (IntKind.wrap .i64 (Int.tdiv to_2 256)) (((((List.getD l_0 i_1.toNat Qn2).2).1).data.toList.map fun b=>(b.toNat:Int)).length:Int)).toNat) 0) ^^^ BitVec.ofInt 8 (IntKind.wrap .u8 (Int.tmod to_2 256))).toNat))),((List.getD ([]++l_0) i_1.toNat Qn2).2).2)) i_1.toNat Qn2).2).1,true),true,()),())
            else none
            else none
            else none
           else none
          else none
         else none
        else none
       else none
      else none
     else none
    else none
   else none
  else none
 else none
noncomputable def Z7c:Ent:=⟨[.val t24,.val t2,.val t2],[⟨t24,[false],none⟩,⟨t4,[false],none⟩],fun x=>Zdz x.1 x.2.1 x.2.2.1⟩
theorem Zk8:Q4j tab.ty Tryz.prog 25 Z7c:=
 Qjd (Γ:=[(25,Qjc)]) (fi:={ keep:=[],vty:=[],vals:=[],live:=[(0,[0,1,2,14,15,16,17,20,21,22,23,24,27,28,29,30,31,32,33,36,37,40,41,42]),(1,[0,1,2,43]),(2,[6,7]),(3,[0,1,2,8]),(4,[1,2,8,9]),(5,[1,2,8,9,10]),(6,[1,8,9]),(7,[8]),(8,[6,7])] }) (n:=1) follows (Qjq (Qjr Tryz.func25 (by kernel_rfl) (by kernel_rfl)) Qju) Qjz Tryz.func25 (by kernel_rfl) (by kernel_rfl) fun x r h=>Eq.trans (by kernel_rfl) h
noncomputable def Qv2 (x_1:Int × Int × Int × Int × ByteArray) (arr_0:Qsj × Qq2 × (List ByteArray) × Int × Qp3 × List Qkr):Option ((Zmw × Int × Unit) × Unit):=
 bif decide (x_1.2.1<1) then
  some ((arr_0,1,()),())
 else
 bif decide (x_1.2.1>(arr_0.1.length:Int)) then
  some ((arr_0,1,()),())
 else
  Option.bind (Zsa arr_0 x_1) fun r1=>
  some ((r1.1.1,r1.1.2.1,()),())
noncomputable def Quz (x_1:Int × Int × Int × Int × ByteArray) (arr_0:Qsj × Qq2 × (List ByteArray) × Int × Qp3 × List Qkr):Option ((Zmw × Int × Unit) × Unit):=
 bif x_1.1==4 then
  bif decide (0<(arr_0.1.length:Int)) then
   Option.bind (Zq7 ((List.getD arr_0.1 0 Qk4).1,((List.getD arr_0.1 0 Qk4).2).1,(((List.getD arr_0.1 0 Qk4).2).2).1,((((((List.getD arr_0.1 0 Qk4).2).2).2).1).1,((((((List.getD arr_0.1 0 Qk4).2).2).2).1).2).1,(((((((List.getD arr_0.1 0 Qk4).2).2).2).1).2).2).1,((((((((List.getD arr_0.1 0 Qk4).2).2).2).1).2).2).2).1,(((((((((List.getD arr_0.1 0 Qk4).2).2).2).1).2).2).2).2).1,((((((((((List.getD arr_0.1 0 Qk4).2).2).2).1).2).2).2).2).2).1,(((((((((((List.getD arr_0.1 0 Qk4).2).2).2).1).2).2).2).2).2).2).1,((((((((((((List.getD arr_0.1 0 Qk4).2).2).2).1).2).2).2).2).2).2).2).1,(((((((((((((List.getD arr_0.1 0 Qk4).2).2).2).1).2).2).2).2).2).2).2).2).1,((((((((((((((List.getD arr_0.1 0 Qk4).2).2).2).1).2).2).2).2).2).2).2).2).2).1,(((((((((((((((List.getD arr_0.1 0 Qk4).2).2).2).1).2).2).2).2).2).2).2).2).2).2).1,((((((((((((((((List.getD arr_0.1 0 Qk4).2).2).2).1).2).2).2).2).2).2).2).2).2).2).2)),(((((((List.getD arr_0.1 0 Qk4).2).2).2).2).1).1,(((((((List.getD arr_0.1 0 Qk4).2).2).2).2).1).2).1,((((((((List.getD arr_0.1 0 Qk4).2).2).2).2).1).2).2).1,(((((((((List.getD arr_0.1 0 Qk4).2).2).2).2).1).2).2).2).1,((((((((((List.getD arr_0.1 0 Qk4).2).2).2).2).1).2).2).2).2).1,(((((((((((List.getD arr_0.1 0 Qk4).2).2).2).2).1).2).2).2).2).2)),(((((List.getD arr_0.1 0 Qk4).2).2).2).2).2) (h4 x_1)) fun r2=>
   bif !r2.1.2.2.1 then
    some ((arr_0,1,()),())
   else
    Option.bind (Z6a arr_0 0 r2.1.1 r2.1.2.1) fun r3=>
    bif Nat.ble (0+r3.1.1.2.2.1.length) 1073741824 then
     bif Nat.ble (([]++r3.1.1.2.2.1).length+1) 1073741824 then
      some (((u2 r3.1.1 (([]++r3.1.1.2.2.1)++[(h4 x_1)])),0,()),())
     else none
    else none
  else none
 else
 bif x_1.1==6 then
  Option.bind (Z6b arr_0.2.1 x_1.2.2.1) fun r4=>
  bif !r4.1.2.2.1 then
   some ((arr_0,3,()),())
  else
   Option.bind (Zl6 (u1 arr_0 r4.1.1) r4.1.2.1) fun r5=>
   some ((r5.1.1,0,()),())
 else
 bif x_1.1==7 then
  Option.bind (Z6b arr_0.2.1 x_1.2.2.1) fun r6=>
  bif !r6.1.2.2.1 then
   some ((arr_0,3,()),())
  else
   some (((u1 arr_0 r6.1.1),0,()),())
 else
 bif x_1.1==8 then
  Option.bind (Zi4 arr_0.2.1 x_1.2.2.1) fun r7=>
  bif !r7.1.2.1 then
   some ((arr_0,3,()),())
  else
   some (((u1 arr_0 r7.1.1),0,()),())
 else
 bif x_1.1==9 then
  Option.bind (Zdz arr_0.2.1 x_1.2.2.1 (g3 x_1)) fun r8=>
  bif !r8.1.2.1 then
   some ((arr_0,3,()),())
  else
   some (((u1 arr_0 r8.1.1),0,()),())
 else
  some ((arr_0,1,()),())
noncomputable def Qm2 (arr_0:Qsj × Qq2 × (List ByteArray) × Int × Qp3 × List Qkr) (x_1:Int × Int × Int × Int × ByteArray):Option ((Zmw × Int × Unit) × Unit):=
 bif (arr_0.1.length:Int) != 8 then
  some ((arr_0,1,()),())
 else
 bif x_1.1==1 then
  bif x_1.1==1 then
   Qv2 x_1 arr_0
  else
   Quz x_1 arr_0
 else
 bif x_1.1==2 then
  bif x_1.1==2 then
   Qv2 x_1 arr_0
  else
   Quz x_1 arr_0
 else
 bif x_1.1==3 then
  bif x_1.1==3 then
   Qv2 x_1 arr_0
  else
   Quz x_1 arr_0
 else
 bif x_1.1==5 then
  Qv2 x_1 arr_0
 else
  Quz x_1 arr_0
noncomputable def Z5v:Ent:=⟨[.val t30,.val t40],[⟨t30,(nF 6),none⟩,⟨t2,[false],none⟩],fun x=>Qm2 x.1 x.2.1⟩
theorem Qxf:Q4j tab.ty Tryz.prog 8 Z5v:=
 Qjd (Γ:=[(19,Zla),(20,Ziu),(21,Qte),(22,Zdm),(23,Zeo),(24,Zbc),(25,Z7c)]) (fi:={ keep:=[],vty:=[],vals:=[],live:=[(0,[2,3,4,30,31,32,33,34,35]),(1,[2,3,4,17,30,31,32,33,34,35]),(2,[4,5]),(3,[2,3,4,20,30,31,32,33,34,35]),(4,[2,3,4,20,21,30,31,32,33,34,35]),(5,[2,3,4,20,21,30,31,32,33,34,35]),(6,[2,3,4,20,21,30,31,32,33,34,35]),(7,[2,3,4,20,21,30,31,32,33,34,35]),(8,[2,3,4,36]),(9,[4,5]),(10,[4,5]),(11,[2,3,4,20,43]),(12,[2,3,4,6,7,8]),(13,[2,3,4,6,7,57]),(14,[4,5]),(15,[2,3,4]),(16,[2,4]),(17,[4,5]),(18,[2,3,4,73]),(19,[2,4,9,10,11]),(20,[2,4,9,10,85]),(21,[4,5]),(22,[2,4,10]),(23,[4,5]),(24,[2,3,4]),(25,[2,3,4,95]),(26,[4,5]),(27,[2,3,4,95,97]),(28,[2,4,12,13]),(29,[2,3,4,95,108]),(30,[2,4,12,13]),(31,[2,3,4,118]),(32,[2,4,12,13]),(33,[2,4,12,131]),(34,[4,5]),(35,[2,4]),(36,[4,5])] }) (n:=1) follows (Qjq Zu9 (Qjq Zrm (Qjq Quo (Qjq Znw (Qjq Zp1 (Qjq Zme (Qjq Zk8 Qju))))))) Qjz Tryz.func8 (by kernel_rfl) (by kernel_rfl) fun x r h=>Eq.trans (by kernel_rfl) h
noncomputable def Z2x (s:List Z3k):Option ((Qsj × Unit) × Unit):=bif Nat.ble s.length 1073741824 then some ((s,()),()) else none
theorem Zod (s:List Z3k):Qdf [] tab (Qjy Tryz.f85 []) 1 [.val t23] [⟨t23,[true],none⟩] Tryz.f85 (s,())=bif !(List.isEmpty s) then bif Nat.ble (0+s.length) 1073741824 then some (([]++s,()),()) else none
 else Q38 (some (([],()),())) (bif Nat.ble (0+s.length) 1073741824 then some (([]++s,()),()) else none):=by kernel_rfl
theorem Zrt (s:List Z3k):Qdf [] tab (Qjy Tryz.f85 []) 1 [.val t23] [⟨t23,[true],none⟩] Tryz.f85 (s,())=Z2x s:=by
  rw [Zod]
  cases s with
  | nil=>exact Qbo _
  | cons x q=>rw [Nat.zero_add];rfl
noncomputable def Zbi:Ent:=⟨[.val t23],[⟨t23,[true],none⟩],fun x=>Z2x x.1⟩
theorem Zmg:Q4j tab.ty Tryz.prog 85 Zbi:=by
  refine Qjd (Γ:=[]) (fi:=Qjy Tryz.f85 []) (n:=1) follows Qju Qjz Tryz.func85 (by kernel_rfl) (by kernel_rfl) (fun x r h=>?_)
  obtain ⟨s,_u⟩:=x
  exact (Zrt s).trans h
noncomputable def Qly (s:List Z8z):Option ((Qq2 × Unit) × Unit):=bif Nat.ble s.length 1073741824 then some ((s,()),()) else none
theorem Znt (s:List Z8z):Qdf [] tab (Qjy Tryz.f86 []) 1 [.val t24] [⟨t24,[true],none⟩] Tryz.f86 (s,())=bif !(List.isEmpty s) then bif Nat.ble (0+s.length) 1073741824 then some (([]++s,()),()) else none
 else Q38 (some (([],()),())) (bif Nat.ble (0+s.length) 1073741824 then some (([]++s,()),()) else none):=by kernel_rfl
theorem Zrn (s:List Z8z):Qdf [] tab (Qjy Tryz.f86 []) 1 [.val t24] [⟨t24,[true],none⟩] Tryz.f86 (s,())=Qly s:=by
  rw [Znt]
  cases s with
  | nil=>exact Qbo _
  | cons x q=>rw [Nat.zero_add];rfl
noncomputable def Qmo:Ent:=⟨[.val t24],[⟨t24,[true],none⟩],fun x=>Qly x.1⟩
theorem Qmk:Q4j tab.ty Tryz.prog 86 Qmo:=by
  refine Qjd (Γ:=[]) (fi:=Qjy Tryz.f86 []) (n:=1) follows Qju Qjz Tryz.func86 (by kernel_rfl) (by kernel_rfl) (fun x r h=>?_)
  obtain ⟨s,_u⟩:=x
  exact (Zrn s).trans h
noncomputable def Qxn (s:List ByteArray):Option (((List ByteArray) × Unit) × Unit):=bif Nat.ble s.length 1073741824 then some ((s,()),()) else none
theorem Zjh (s:List ByteArray):Qdf [] tab (Qjy Tryz.f87 []) 1 [.val t25] [⟨t25,[true],none⟩] Tryz.f87 (s,())=bif !(List.isEmpty s) then bif Nat.ble (0+s.length) 1073741824 then some (([]++s,()),()) else none
 else Q38 (some (([],()),())) (bif Nat.ble (0+s.length) 1073741824 then some (([]++s,()),()) else none):=by kernel_rfl
theorem Zml (s:List ByteArray):Qdf [] tab (Qjy Tryz.f87 []) 1 [.val t25] [⟨t25,[true],none⟩] Tryz.f87 (s,())=Qxn s:=by
  rw [Zjh]
  cases s with
  | nil=>exact Qbo _
  | cons x q=>rw [Nat.zero_add];rfl
noncomputable def Z4l:Ent:=⟨[.val t25],[⟨t25,[true],none⟩],fun x=>Qxn x.1⟩
theorem Zio:Q4j tab.ty Tryz.prog 87 Z4l:=by
  refine Qjd (Γ:=[]) (fi:=Qjy Tryz.f87 []) (n:=1) follows Qju Qjz Tryz.func87 (by kernel_rfl) (by kernel_rfl) (fun x r h=>?_)
  obtain ⟨s,_u⟩:=x
  exact (Zml s).trans h
noncomputable def Qkp (s:List Int):Option (((List Int) × Unit) × Unit):=bif Nat.ble s.length 1073741824 then some ((s,()),()) else none
theorem Zr0 (s:List Int):Qdf [] tab (Qjy Tryz.f83 []) 1 [.val t44] [⟨t44,[true],none⟩] Tryz.f83 (s,())=bif !(List.isEmpty s) then bif Nat.ble (0+s.length) 1073741824 then some (([]++s,()),()) else none
 else Q38 (some (([],()),())) (bif Nat.ble (0+s.length) 1073741824 then some (([]++s,()),()) else none):=by kernel_rfl
theorem Ztv (s:List Int):Qdf [] tab (Qjy Tryz.f83 []) 1 [.val t44] [⟨t44,[true],none⟩] Tryz.f83 (s,())=Qkp s:=by
  rw [Zr0]
  cases s with
  | nil=>exact Qbo _
  | cons x q=>rw [Nat.zero_add];rfl
noncomputable def Qk9:Ent:=⟨[.val t44],[⟨t44,[true],none⟩],fun x=>Qkp x.1⟩
theorem Qk5:Q4j tab.ty Tryz.prog 83 Qk9:=by
  refine Qjd (Γ:=[]) (fi:=Qjy Tryz.f83 []) (n:=1) follows Qju Qjz Tryz.func83 (by kernel_rfl) (by kernel_rfl) (fun x r h=>?_)
  obtain ⟨s,_u⟩:=x
  exact (Ztv s).trans h
noncomputable def Qme (s:List Qkm):Option ((Zjb × Unit) × Unit):=bif Nat.ble s.length 1073741824 then some ((s,()),()) else none
theorem Zrs (s:List Qkm):Qdf [] tab (Qjy Tryz.f130 []) 1 [.val t49] [⟨t49,[true],none⟩] Tryz.f130 (s,())=bif !(List.isEmpty s) then bif Nat.ble (0+s.length) 1073741824 then some (([]++s,()),()) else none
 else Q38 (some (([],()),())) (bif Nat.ble (0+s.length) 1073741824 then some (([]++s,()),()) else none):=by kernel_rfl
theorem Zty (s:List Qkm):Qdf [] tab (Qjy Tryz.f130 []) 1 [.val t49] [⟨t49,[true],none⟩] Tryz.f130 (s,())=Qme s:=by
  rw [Zrs]
  cases s with
  | nil=>exact Qbo _
  | cons x q=>rw [Nat.zero_add];rfl
noncomputable def Qm5:Ent:=⟨[.val t49],[⟨t49,[true],none⟩],fun x=>Qme x.1⟩
theorem Qm0:Q4j tab.ty Tryz.prog 130 Qm5:=by
  refine Qjd (Γ:=[]) (fi:=Qjy Tryz.f130 []) (n:=1) follows Qju Qjz Tryz.func130 (by kernel_rfl) (by kernel_rfl) (fun x r h=>?_)
  obtain ⟨s,_u⟩:=x
  exact (Zty s).trans h
noncomputable def X9v (t_0:Int × Int × Int × Int × Int × Int × (List Int) × Int × Int × Int × Int × Int × List Qkm):Option ((Qli × Unit) × Unit):=
 Option.bind (Qkp (g6 t_0)) fun r1=>
 Option.bind (Qme (h12 t_0)) fun r2=>
 some (((e12 (u6 t_0 r1.1.1) r2.1.1),()),())
noncomputable def X22:Ent:=⟨[.val t50],[⟨t50,(nF 6++[true,false,false,false,false,false,true]),none⟩],fun x=>X9v x.1⟩
theorem X4u:Q4j tab.ty Tryz.prog 88 X22:=
 Qjd (Γ:=[(83,Qk9),(130,Qm5)]) (fi:={ keep:=[],vty:=[],vals:=[],live:=[(0,[1,2]),(1,[1,2]),(2,[2])] }) (n:=1) follows (Qjq Qk5 (Qjq Qm0 Qju)) Qjz Tryz.func88 (by kernel_rfl) (by kernel_rfl) fun x r h=>Eq.trans (by kernel_rfl) h
noncomputable def Qka (s:List Qk2):Option ((Qkg × Unit) × Unit):=bif Nat.ble s.length 1073741824 then some ((s,()),()) else none
theorem Zoe (s:List Qk2):Qdf [] tab (Qjy Tryz.f131 []) 1 [.val t52] [⟨t52,[true],none⟩] Tryz.f131 (s,())=bif !(List.isEmpty s) then bif Nat.ble (0+s.length) 1073741824 then some (([]++s,()),()) else none
 else Q38 (some (([],()),())) (bif Nat.ble (0+s.length) 1073741824 then some (([]++s,()),()) else none):=by kernel_rfl
theorem Zr2 (s:List Qk2):Qdf [] tab (Qjy Tryz.f131 []) 1 [.val t52] [⟨t52,[true],none⟩] Tryz.f131 (s,())=Qka s:=by
  rw [Zoe]
  cases s with
  | nil=>exact Qbo _
  | cons x q=>rw [Nat.zero_add];rfl
noncomputable def Qlc:Ent:=⟨[.val t52],[⟨t52,[true],none⟩],fun x=>Qka x.1⟩
theorem Qkz:Q4j tab.ty Tryz.prog 131 Qlc:=by
  refine Qjd (Γ:=[]) (fi:=Qjy Tryz.f131 []) (n:=1) follows Qju Qjz Tryz.func131 (by kernel_rfl) (by kernel_rfl) (fun x r h=>?_)
  obtain ⟨s,_u⟩:=x
  exact (Zr2 s).trans h
noncomputable def Ql5 (s:List Qkq):Option ((Qpf × Unit) × Unit):=bif Nat.ble s.length 1073741824 then some ((s,()),()) else none
theorem Znh (s:List Qkq):Qdf [] tab (Qjy Tryz.f132 []) 1 [.val t53] [⟨t53,[true],none⟩] Tryz.f132 (s,())=bif !(List.isEmpty s) then bif Nat.ble (0+s.length) 1073741824 then some (([]++s,()),()) else none
 else Q38 (some (([],()),())) (bif Nat.ble (0+s.length) 1073741824 then some (([]++s,()),()) else none):=by kernel_rfl
theorem Znn (s:List Qkq):Qdf [] tab (Qjy Tryz.f132 []) 1 [.val t53] [⟨t53,[true],none⟩] Tryz.f132 (s,())=Ql5 s:=by
  rw [Znh]
  cases s with
  | nil=>exact Qbo _
  | cons x q=>rw [Nat.zero_add];rfl
noncomputable def Qky:Ent:=⟨[.val t53],[⟨t53,[true],none⟩],fun x=>Ql5 x.1⟩
theorem Qkv:Q4j tab.ty Tryz.prog 132 Qky:=by
  refine Qjd (Γ:=[]) (fi:=Qjy Tryz.f132 []) (n:=1) follows Qju Qjz Tryz.func132 (by kernel_rfl) (by kernel_rfl) (fun x r h=>?_)
  obtain ⟨s,_u⟩:=x
  exact (Znn s).trans h
noncomputable def X5q (f_0:Int × Int × Qkg × Qkg × Qpf × Int × Int):Option ((Qnc × Unit) × Unit):=
 Option.bind (Qka f_0.2.2.1) fun r1=>
 Option.bind (Qka (g3 f_0)) fun r2=>
 Option.bind (Ql5 (g4 f_0)) fun r3=>
 some (((u4 (u3 (u2 f_0 r1.1.1) r2.1.1) r3.1.1),()),())
noncomputable def Zzj:Ent:=⟨[.val t56],[⟨t56,[false,false,true,true,true,false,false],none⟩],fun x=>X5q x.1⟩
theorem X2e:Q4j tab.ty Tryz.prog 89 Zzj:=
 Qjd (Γ:=[(131,Qlc),(132,Qky)]) (fi:={ keep:=[],vty:=[],vals:=[],live:=[(0,[1,2]),(1,[1,2]),(2,[2])] }) (n:=1) follows (Qjq Qkz (Qjq Qkv Qju)) Qjz Tryz.func89 (by kernel_rfl) (by kernel_rfl) fun x r h=>Eq.trans (by kernel_rfl) h
noncomputable def Z30 (s:List (List Int)):Option ((Qp3 × Unit) × Unit):=bif Nat.ble s.length 1073741824 then some ((s,()),()) else none
theorem Zpc (s:List (List Int)):Qdf [] tab (Qjy Tryz.f133 []) 1 [.val t26] [⟨t26,[true],none⟩] Tryz.f133 (s,())=bif !(List.isEmpty s) then bif Nat.ble (0+s.length) 1073741824 then some (([]++s,()),()) else none
 else Q38 (some (([],()),())) (bif Nat.ble (0+s.length) 1073741824 then some (([]++s,()),()) else none):=by kernel_rfl
theorem Zrp (s:List (List Int)):Qdf [] tab (Qjy Tryz.f133 []) 1 [.val t26] [⟨t26,[true],none⟩] Tryz.f133 (s,())=Z30 s:=by
  rw [Zpc]
  cases s with
  | nil=>exact Qbo _
  | cons x q=>rw [Nat.zero_add];rfl
noncomputable def Qwu:Ent:=⟨[.val t26],[⟨t26,[true],none⟩],fun x=>Z30 x.1⟩
theorem Z1c:Q4j tab.ty Tryz.prog 133 Qwu:=by
  refine Qjd (Γ:=[]) (fi:=Qjy Tryz.f133 []) (n:=1) follows Qju Qjz Tryz.func133 (by kernel_rfl) (by kernel_rfl) (fun x r h=>?_)
  obtain ⟨s,_u⟩:=x
  exact (Zrp s).trans h
abbrev Qxy:Type:=(Qp3 × Unit) × Unit
noncomputable def Zpq:Ctx:=[(83,Qk9),(133,Qwu)]
def Zjg:Fi:={ keep:=[],vty:=[],vals:=[],live:=[(0,[0]),(1,[0,3]),(2,[3,8,9,10]),(3,[3,8,9,10,11]),(4,[3,4,5,8,9,10]),(5,[3,8,9,10]),(6,[3,8,9,10]),(7,[2])] }
abbrev Zk1:Type:=List (List Int)→Int→Int→List (List Int)→Option Qxy
noncomputable def Zvm (L1:Zk1) (v2:List (List Int)) (v3 v4:Int) (v5:List (List Int)):Option Qxy:=
 bif decide (v4<v3) then
  bif decide (0≤v4)&&decide (v4<(v2.length:Int)) then
   Option.bind (Qkp (List.getD v2 v4.toNat [])) fun r6=>
   bif decide (0≤v4)&&decide (v4<(v5.length:Int)) then
    bif decide (0≤v4)&&decide (v4<(v5.length:Int)) then
     L1 v2 v3 (IntKind.wrap .i64 (v4+1)) (List.set v5 v4.toNat r6.1.1)
    else none
   else none
  else none
 else
  some ((v5,()),())
noncomputable def Zzh (L1:Zk1) (d_0:List (List Int)):Option Qxy:=
 Option.bind (Z30 d_0) fun r1=>
 L1 d_0 (d_0.length:Int) 0 r1.1.1
noncomputable def Zv9 (n:Nat):Nat→Zk1:=iter (fun _ _ _ _=>none) fun L=>Zvm L
noncomputable def Z97 (n m:Nat) (v2:List (List Int)) (v3 v4:Int) (v5:List (List Int)):Option Qxy:=
 Qjl Zpq tab (fiB [.val t26] Zjg) n [.val t26] [⟨t26,[true],none⟩] Tryz.f90 [1,1,0,1,0] [] [3,8,9,10] m
 ⟨[(3,V1 (.ref (888888,3))),(8,Vp t26 v2),(9,Vp t2 v3),(10,Vp t2 v4)],[((888888,3),Ob.row 44 t44 v5)]⟩
theorem X0r (n m:Nat):Z97 n (m+1)=Zvm (Z97 n m):=by kernel_rfl
theorem Zs7 (n:Nat):∀ m,Z97 n m=Zv9 n m
 | 0=>rfl
 | m+1=>by rw [X0r n m,Zs7 n m];rfl
noncomputable def X02 (n:Nat) (d_0:List (List Int)):Option Qxy:=Zzh (Zv9 n n) d_0
noncomputable def X5u (d_0:List (List Int)):Option Qxy:=X02 1099511627776 d_0
noncomputable def Zz5:Ent:=⟨[.val t26],[⟨t26,[true],none⟩],fun x=>X5u x.1⟩
theorem X7l (n:Nat) (d_0:List (List Int)):Qdf Zpq tab Zjg n [.val t26] [⟨t26,[true],none⟩] Tryz.f90 (d_0,())=X02 n d_0:=Eq.trans (b:=Zzh (Z97 n n) d_0) (by kernel_rfl) (by rw [Zs7 n n];rfl)
theorem X3w:Q4j tab.ty Tryz.prog 90 Zz5:=
 Qjd (Γ:=Zpq) (fi:=Zjg) (n:=1099511627776) follows (Qjq Qk5 (Qjq Z1c Qju)) Qjz Tryz.func90 (by kernel_rfl) (by kernel_rfl) fun x r h=>(X7l 1099511627776 x.1).trans h
noncomputable def Qu2 (s:List Qkr):Option ((X4e × Unit) × Unit):=bif Nat.ble s.length 1073741824 then some ((s,()),()) else none
theorem Zfs (s:List Qkr):Qdf [] tab (Qjy Tryz.f91 []) 1 [.val t27] [⟨t27,[true],none⟩] Tryz.f91 (s,())=bif !(List.isEmpty s) then bif Nat.ble (0+s.length) 1073741824 then some (([]++s,()),()) else none
 else Q38 (some (([],()),())) (bif Nat.ble (0+s.length) 1073741824 then some (([]++s,()),()) else none):=by kernel_rfl
theorem Zgy (s:List Qkr):Qdf [] tab (Qjy Tryz.f91 []) 1 [.val t27] [⟨t27,[true],none⟩] Tryz.f91 (s,())=Qu2 s:=by
  rw [Zfs]
  cases s with
  | nil=>exact Qbo _
  | cons x q=>rw [Nat.zero_add];rfl
noncomputable def Qrv:Ent:=⟨[.val t27],[⟨t27,[true],none⟩],fun x=>Qu2 x.1⟩
theorem Qvb:Q4j tab.ty Tryz.prog 91 Qrv:=by
  refine Qjd (Γ:=[]) (fi:=Qjy Tryz.f91 []) (n:=1) follows Qju Qjz Tryz.func91 (by kernel_rfl) (by kernel_rfl) (fun x r h=>?_)
  obtain ⟨s,_u⟩:=x
  exact (Zgy s).trans h
noncomputable def Qnw (s:List Qq3):Option ((Qkr × Unit) × Unit):=bif Nat.ble s.length 1073741824 then some ((s,()),()) else none
theorem Zh2 (s:List Qq3):Qdf [] tab (Qjy Tryz.f92 []) 1 [.val t88] [⟨t88,[true],none⟩] Tryz.f92 (s,())=bif !(List.isEmpty s) then bif Nat.ble (0+s.length) 1073741824 then some (([]++s,()),()) else none
 else Q38 (some (([],()),())) (bif Nat.ble (0+s.length) 1073741824 then some (([]++s,()),()) else none):=by kernel_rfl
theorem Zjk (s:List Qq3):Qdf [] tab (Qjy Tryz.f92 []) 1 [.val t88] [⟨t88,[true],none⟩] Tryz.f92 (s,())=Qnw s:=by
  rw [Zh2]
  cases s with
  | nil=>exact Qbo _
  | cons x q=>rw [Nat.zero_add];rfl
noncomputable def Qsu:Ent:=⟨[.val t88],[⟨t88,[true],none⟩],fun x=>Qnw x.1⟩
theorem Qq7:Q4j tab.ty Tryz.prog 92 Qsu:=by
  refine Qjd (Γ:=[]) (fi:=Qjy Tryz.f92 []) (n:=1) follows Qju Qjz Tryz.func92 (by kernel_rfl) (by kernel_rfl) (fun x r h=>?_)
  obtain ⟨s,_u⟩:=x
  exact (Zjk s).trans h
abbrev Qmi:Type:=Zka × Unit
noncomputable def Z3n:Ctx:=[(83,Qk9),(85,Zbi),(86,Qmo),(87,Z4l),(88,X22),(89,Zzj),(90,Zz5),(91,Qrv),(92,Qsu)]
def Z0f:Fi:={ keep:=[],vty:=[],vals:=[],live:=[(0,[1,2]),(1,[1,2]),(2,[1,2,23,24,25]),(3,[1,2,23,24,25,26]),(4,[1,2,3,4,23,24,25]),(5,[1,2,23,24,25]),(6,[1,2,23,24,25]),(7,[1,2]),(8,[1,2,61,62,63]),(9,[1,2,61,62,63,64]),(10,[1,2,5,6,61,62,63]),(11,[1,2,5,7,61,62,63]),(12,[1,2,5,7,61,62,63,70,71,72]),(13,[1,2,5,7,61,62,63,70,71,72,73]),(14,[1,2,5,7,8,9,61,62,63,70,71,72]),(15,[1,2,5,7,61,62,63,70,71,72]),(16,[1,2,5,7,61,62,63,70,71,72]),(17,[1,2,61,62,63]),(18,[1,2,61,62,63]),(19,[2])] }
abbrev Zkr:Type:=Int→Int→Int→List (List Int)→X4e→Qq2→List ByteArray→Int→Qsj→Qq2→List ByteArray→List (List Int)→X4e→Qsj→Option Qmi
abbrev Z90:Type:=Int→Int→Int→Qsj→Qq2→List ByteArray→List (List Int)→Int→Qsj→Qq2→List ByteArray→List (List Int)→X4e→X4e→Option Qmi
abbrev Zk0:Type:=Int→Int→Int→Int→Int→Int→Qsj→Qq2→List ByteArray→List (List Int)→Int→Qsj→Qq2→List ByteArray→List (List Int)→X4e→X4e→Qkr→Option Qmi
noncomputable def Zwe (L1:Zkr) (L2:Z90) (v4 v5 v6:Int) (v7:List (List Int)) (v8:List Qkr) (v9:List Z8z) (v10:List ByteArray) (v11:Int) (v12:List Z3k) (v13:List Z8z) (v14:List ByteArray) (v15:List (List Int)) (v16:List Qkr) (v17:List Z3k):Option Qmi:=
 bif decide (v5<v4) then
  bif decide (0≤v5)&&decide (v5<(v17.length:Int)) then
   bif decide (0≤v5)&&decide (v5<(v17.length:Int)) then
    Option.bind (X9v ((((((List.getD v17 v5.toNat Qk4).2).2).2).1).1,((((((List.getD v17 v5.toNat Qk4).2).2).2).1).2).1,(((((((List.getD v17 v5.toNat Qk4).2).2).2).1).2).2).1,((((((((List.getD v17 v5.toNat Qk4).2).2).2).1).2).2).2).1,(((((((((List.getD v17 v5.toNat Qk4).2).2).2).1).2).2).2).2).1,((((((((((List.getD v17 v5.toNat Qk4).2).2).2).1).2).2).2).2).2).1,(((((((((((List.getD v17 v5.toNat Qk4).2).2).2).1).2).2).2).2).2).2).1,((((((((((((List.getD v17 v5.toNat Qk4).2).2).2).1).2).2).2).2).2).2).2).1,(((((((((((((List.getD v17 v5.toNat Qk4).2).2).2).1).2).2).2).2).2).2).2).2).1,((((((((((((((List.getD v17 v5.toNat Qk4).2).2).2).1).2).2).2).2).2).2).2).2).2).1,(((((((((((((((List.getD v17 v5.toNat Qk4).2).2).2).1).2).2).2).2).2).2).2).2).2).2).1,((((((((((((((((List.getD v17 v5.toNat Qk4).2).2).2).1).2).2).2).2).2).2).2).2).2).2).2))) fun r18=>
    Option.bind (X5q (((((((List.getD v17 v5.toNat Qk4).2).2).2).2).1).1,(((((((List.getD v17 v5.toNat Qk4).2).2).2).2).1).2).1,((((((((List.getD v17 v5.toNat Qk4).2).2).2).2).1).2).2).1,(((((((((List.getD v17 v5.toNat Qk4).2).2).2).2).1).2).2).2).1,((((((((((List.getD v17 v5.toNat Qk4).2).2).2).2).1).2).2).2).2).1,(((((((((((List.getD v17 v5.toNat Qk4).2).2).2).2).1).2).2).2).2).2))) fun r19=>
    bif decide (0≤v5)&&decide (v5<(v17.length:Int)) then
     bif decide (0≤v5)&&decide (v5<(v17.length:Int)) then
      bif decide (0≤v5)&&decide (v5<((List.set v17 v5.toNat ((List.getD v17 v5.toNat Qk4).1,((List.getD v17 v5.toNat Qk4).2).1,(((List.getD v17 v5.toNat Qk4).2).2).1,r18.1.1,((((List.getD v17 v5.toNat Qk4).2).2).2).2)).length:Int)) then
       bif decide (0≤v5)&&decide (v5<((List.set v17 v5.toNat ((List.getD v17 v5.toNat Qk4).1,((List.getD v17 v5.toNat Qk4).2).1,(((List.getD v17 v5.toNat Qk4).2).2).1,r18.1.1,((((List.getD v17 v5.toNat Qk4).2).2).2).2)).length:Int)) then
        L1 v4 (IntKind.wrap .i64 (v5+1)) v6 v7 v8 v9 v10 v11 v12 v13 v14 v15 v16 (List.set (List.set v17 v5.toNat ((List.getD v17 v5.toNat Qk4).1,((List.getD v17 v5.toNat Qk4).2).1,(((List.getD v17 v5.toNat Qk4).2).2).1,r18.1.1,((((List.getD v17 v5.toNat Qk4).2).2).2).2)) v5.toNat ((List.getD (List.set v17 v5.toNat ((List.getD v17 v5.toNat Qk4).1,((List.getD v17 v5.toNat Qk4).2).1,(((List.getD v17 v5.toNat Qk4).2).2).1,r18.1.1,((((List.getD v17 v5.toNat Qk4).2).2).2).2)) v5.toNat Qk4).1,((List.getD (List.set v17 v5.toNat ((List.getD v17 v5.toNat Qk4).1,((List.getD v17 v5.toNat Qk4).2).1,(((List.getD v17 v5.toNat Qk4).2).2).1,r18.1.1,((((List.getD v17 v5.toNat Qk4).2).2).2).2)) v5.toNat Qk4).2).1,(((List.getD (List.set v17 v5.toNat ((List.getD v17 v5.toNat Qk4).1,((List.getD v17 v5.toNat Qk4).2).1,(((List.getD v17 v5.toNat Qk4).2).2).1,r18.1.1,((((List.getD v17 v5.toNat Qk4).2).2).2).2)) v5.toNat Qk4).2).2).1,((((List.getD (List.set v17 v5.toNat ((List.getD v17 v5.toNat Qk4).1,((List.getD v17 v5.toNat Qk4).2).1,(((List.getD v17 v5.toNat Qk4).2).2).1,r18.1.1,((((List.getD v17 v5.toNat Qk4).2).2).2).2)) v5.toNat Qk4).2).2).2).1,r19.1.1,(((((List.getD (List.set v17 v5.toNat ((List.getD v17 v5.toNat Qk4).1,((List.getD v17 v5.toNat Qk4).2).1,(((List.getD v17 v5.toNat Qk4).2).2).1,r18.1.1,((((List.getD v17 v5.toNat Qk4).2).2).2).2)) v5.toNat Qk4).2).2).2).2).2))
       else none
      else none
     else none
    else none
   else none
  else none
 else
  Option.bind (X5u v7) fun r20=>
  Option.bind (Qu2 v8) fun r21=>
  L2 (r21.1.1.length:Int) 0 v6 v17 v9 v10 r20.1.1 v11 v12 v13 v14 v15 v16 r21.1.1
noncomputable def Zwz (L3:Zk0) (v22 v23 v24:Int) (v25:List Z3k) (v26:List Z8z) (v27:List ByteArray) (v28:List (List Int)) (v29:Int) (v30:List Z3k) (v31:List Z8z) (v32:List ByteArray) (v33:List (List Int)) (v34 v35:List Qkr):Option Qmi:=
 bif decide (v23<v22) then
  bif decide (0≤v23)&&decide (v23<(v35.length:Int)) then
   bif decide (0≤v23)&&decide (v23<(v35.length:Int)) then
    Option.bind (Qnw (List.getD v35 v23.toNat [])) fun r36=>
    L3 v23 v22 v23 (r36.1.1.length:Int) 0 v24 v25 v26 v27 v28 v29 v30 v31 v32 v33 v34 v35 r36.1.1
   else none
  else none
 else
  some (((v25,v26,v27,v24,v28,v35),()),())
noncomputable def Zwp (L3:Zk0) (L2:Z90) (v37 v38 v39 v40 v41 v42:Int) (v43:List Z3k) (v44:List Z8z) (v45:List ByteArray) (v46:List (List Int)) (v47:Int) (v48:List Z3k) (v49:List Z8z) (v50:List ByteArray) (v51:List (List Int)) (v52 v53:List Qkr) (v54:List Qq3):Option Qmi:=
 bif decide (v41<v40) then
  bif decide (0≤v41)&&decide (v41<(v54.length:Int)) then
   bif decide (0≤v41)&&decide (v41<(v54.length:Int)) then
    Option.bind (Qkp ((List.getD v54 v41.toNat ([],0)).1)) fun r55=>
    bif decide (0≤v41)&&decide (v41<(v54.length:Int)) then
     bif decide (0≤v41)&&decide (v41<(v54.length:Int)) then
      L3 v37 v38 v39 v40 (IntKind.wrap .i64 (v41+1)) v42 v43 v44 v45 v46 v47 v48 v49 v50 v51 v52 v53 (List.set v54 v41.toNat (r55.1.1,(List.getD v54 v41.toNat ([],0)).2))
     else none
    else none
   else none
  else none
 else
 bif decide (0≤v37)&&decide (v37<(v53.length:Int)) then
  bif decide (0≤v37)&&decide (v37<(v53.length:Int)) then
   L2 v38 (IntKind.wrap .i64 (v39+1)) v42 v43 v44 v45 v46 v47 v48 v49 v50 v51 v52 (List.set v53 v37.toNat v54)
  else none
 else none
noncomputable def X00 (L1:Zkr) (w_0:Qsj × Qq2 × (List ByteArray) × Int × Qp3 × List Qkr):Option Qmi:=
 Option.bind (Z2x w_0.1) fun r1=>
 Option.bind (Qly w_0.2.1) fun r2=>
 Option.bind (Qxn w_0.2.2.1) fun r3=>
 L1 (r1.1.1.length:Int) 0 (g3 w_0) (g4 w_0) (h5 w_0) r2.1.1 r3.1.1 0 [] [] [] [] [] r1.1.1
noncomputable def Zv3 (n:Nat) (m2:Nat) (r2:Z90):Nat→Zk0:=iter (fun _ _ _ _ _ _ _ _ _ _ _ _ _ _ _ _ _ _=>none) fun L=>Zwp L r2
noncomputable def Zvo (n:Nat):Nat→Z90:=Qj7 (fun _ _ _ _ _ _ _ _ _ _ _ _ _ _=>none) fun m L=>Zwz (Zv3 n m L n)
noncomputable def Zvq (n:Nat):Nat→Zkr:=iter (fun _ _ _ _ _ _ _ _ _ _ _ _ _ _=>none) fun L=>Zwe L (Zvo n n)
noncomputable def Z91 (n m:Nat) (v4 v5 v6:Int) (v7:List (List Int)) (v8:List Qkr) (v9:List Z8z) (v10:List ByteArray) (v11:Int) (v12:List Z3k) (v13:List Z8z) (v14:List ByteArray) (v15:List (List Int)) (v16:List Qkr) (v17:List Z3k):Option Qmi:=
 Qjl Z3n tab (fiB [.val t30] Z0f) n [.val t30] [⟨t30,[true,true,true,false,true,true],none⟩] Tryz.f53 [1,1,0,1,0] [] [1,2,23,24,25] m
 ⟨[(1,V1 (.ptr (1,0) 0)),(2,V1 (.ptr (2,0) 0)),(23,V1 (.ref (888888,23))),(24,Vp t2 v4),(25,Vp t2 v5)],[((1,0),Ob.box 31 [LV.ref (888888,23),LV.ref (1,2),LV.ref (1,3),LV.pure t2 v6,LV.pure t26 v7,LV.pure t27 v8]),((1,2),Ob.row 75 t74 v9),((1,3),Ob.row 9 t9 v10),((2,0),Ob.box 31 [LV.ref (2,1),LV.ref (2,2),LV.ref (2,3),LV.pure t2 v11,LV.ref (2,5),LV.ref (2,6)]),((2,1),Ob.row 59 t58 v12),((2,2),Ob.row 75 t74 v13),((2,3),Ob.row 9 t9 v14),((2,5),Ob.row 44 t44 v15),((2,6),Ob.row 88 t88 v16),((888888,23),Ob.row 59 t58 v17)]⟩
noncomputable def Qyv (n m:Nat) (v22 v23 v24:Int) (v25:List Z3k) (v26:List Z8z) (v27:List ByteArray) (v28:List (List Int)) (v29:Int) (v30:List Z3k) (v31:List Z8z) (v32:List ByteArray) (v33:List (List Int)) (v34 v35:List Qkr):Option Qmi:=
 Qjl Z3n tab (fiB [.val t30] Z0f) n [.val t30] [⟨t30,[true,true,true,false,true,true],none⟩] Tryz.f53 [1,1,1,1,0,1,0] [] [1,2,61,62,63] m
 ⟨[(1,V1 (.ptr (1,0) 0)),(2,V1 (.ptr (2,0) 0)),(61,V1 (.ref (888888,61))),(62,Vp t2 v22),(63,Vp t2 v23)],[((1,0),Ob.box 31 [LV.ref (1,1),LV.ref (1,2),LV.ref (1,3),LV.pure t2 v24,LV.ref (1,5),LV.ref (888888,61)]),((1,1),Ob.row 59 t58 v25),((1,2),Ob.row 75 t74 v26),((1,3),Ob.row 9 t9 v27),((1,5),Ob.row 44 t44 v28),((2,0),Ob.box 31 [LV.ref (2,1),LV.ref (2,2),LV.ref (2,3),LV.pure t2 v29,LV.ref (2,5),LV.ref (2,6)]),((2,1),Ob.row 59 t58 v30),((2,2),Ob.row 75 t74 v31),((2,3),Ob.row 9 t9 v32),((2,5),Ob.row 44 t44 v33),((2,6),Ob.row 88 t88 v34),((888888,61),Ob.row 88 t88 v35)]⟩
noncomputable def Z8y (n m2 m:Nat) (v37 v38 v39 v40 v41 v42:Int) (v43:List Z3k) (v44:List Z8z) (v45:List ByteArray) (v46:List (List Int)) (v47:Int) (v48:List Z3k) (v49:List Z8z) (v50:List ByteArray) (v51:List (List Int)) (v52 v53:List Qkr) (v54:List Qq3):Option Qmi:=
 Qjl Z3n tab (fiB [.val t30] Z0f) n [.val t30] [⟨t30,[true,true,true,false,true,true],none⟩] Tryz.f53 [1,1,1,1,0,1,0,0,1,1,0,0,1,1,0,1,0] [(m2,[1,2,61,62,63])] [1,2,5,7,61,62,63,70,71,72] m
 ⟨[(1,V1 (.ptr (1,0) 0)),(2,V1 (.ptr (2,0) 0)),(5,Vp t2 v37),(7,V1 (.ref (888888,70))),(61,V1 (.ref (888888,61))),(62,Vp t2 v38),(63,Vp t2 v39),(70,V1 (.ref (888888,70))),(71,Vp t2 v40),(72,Vp t2 v41)],[((1,0),Ob.box 31 [LV.ref (1,1),LV.ref (1,2),LV.ref (1,3),LV.pure t2 v42,LV.ref (1,5),LV.ref (888888,61)]),((1,1),Ob.row 59 t58 v43),((1,2),Ob.row 75 t74 v44),((1,3),Ob.row 9 t9 v45),((1,5),Ob.row 44 t44 v46),((2,0),Ob.box 31 [LV.ref (2,1),LV.ref (2,2),LV.ref (2,3),LV.pure t2 v47,LV.ref (2,5),LV.ref (2,6)]),((2,1),Ob.row 59 t58 v48),((2,2),Ob.row 75 t74 v49),((2,3),Ob.row 9 t9 v50),((2,5),Ob.row 44 t44 v51),((2,6),Ob.row 88 t88 v52),((888888,61),Ob.row 88 t88 v53),((888888,70),Ob.row 91 t90 v54)]⟩
theorem X0m (n m:Nat):Z91 n (m+1)=Zwe (Z91 n m) (Qyv n n):=by kernel_rfl
theorem X0s (n m:Nat):Qyv n (m+1)=Zwz (Z8y n m n):=by kernel_rfl
theorem X0u (n m2 m:Nat):Z8y n m2 (m+1)=Zwp (Z8y n m2 m) (Qyv n m2):=by kernel_rfl
theorem Zsb (n m2:Nat):∀ m,Z8y n m2 m=Zv3 n m2 (Qyv n m2) m
 | 0=>rfl
 | m+1=>by rw [X0u n m2 m,Zsb n m2 m];rfl
theorem Zss (n:Nat):∀ m,Qyv n m=Zvo n m
 | 0=>rfl
 | m+1=>by rw [X0s n m,Zsb n m n,Zss n m];rfl
theorem Zsh (n:Nat):∀ m,Z91 n m=Zvq n m
 | 0=>rfl
 | m+1=>by rw [X0m n m,Zss n n,Zsh n m];rfl
noncomputable def Zzs (n:Nat) (w_0:Qsj × Qq2 × (List ByteArray) × Int × Qp3 × List Qkr):Option Qmi:=X00 (Zvq n n) w_0
noncomputable def X5o (w_0:Qsj × Qq2 × (List ByteArray) × Int × Qp3 × List Qkr):Option Qmi:=Zzs 1099511627776 w_0
noncomputable def Zy9:Ent:=⟨[.val t30],[⟨t30,[true,true,true,false,true,true],none⟩],fun x=>X5o x.1⟩
theorem X7c (n:Nat) (w_0:Qsj × Qq2 × (List ByteArray) × Int × Qp3 × List Qkr):Qdf Z3n tab Z0f n [.val t30] [⟨t30,[true,true,true,false,true,true],none⟩] Tryz.f53 (w_0,())=Zzs n w_0:=Eq.trans (b:=X00 (Z91 n n) w_0) (by kernel_rfl) (by rw [Zsh n n];rfl)
theorem X3p:Q4j tab.ty Tryz.prog 53 Zy9:=
 Qjd (Γ:=Z3n) (fi:=Z0f) (n:=1099511627776) follows (Qjq Qk5 (Qjq Zmg (Qjq Qmk (Qjq Zio (Qjq X4u (Qjq X2e (Qjq X3w (Qjq Qvb (Qjq Qq7 Qju))))))))) Qjz Tryz.func53 (by kernel_rfl) (by kernel_rfl) fun x r h=>(X7c 1099511627776 x.1).trans h
noncomputable def Qvd (r_0:Int):Option ((Int × Unit) × Unit):=
 bif decide (r_0<0) then
  some (((-1),()),())
 else
 bif decide (r_0≤127) then
  some ((1,()),())
 else
 bif decide (r_0≤2047) then
  some ((2,()),())
 else
 bif decide (55296≤r_0) then
  bif decide (r_0≤57343) then
   some (((-1),()),())
  else
  bif decide (r_0≤65535) then
   some ((3,()),())
  else
  bif decide (r_0≤1114111) then
   some ((4,()),())
  else
   some (((-1),()),())
 else
 bif decide (r_0≤65535) then
  some ((3,()),())
 else
 bif decide (r_0≤1114111) then
  some ((4,()),())
 else
  some (((-1),()),())
noncomputable def Z1n:Ent:=⟨[.val t21],[⟨t2,[false],none⟩],fun x=>Qvd x.1⟩
theorem Zg9:Q4j tab.ty Tryz.prog 240 Z1n:=
 Qjd (Γ:=[]) (fi:={ keep:=[],vty:=[],vals:=[],live:=[(0,[0,16,17]),(1,[0,3,16,17]),(2,[2]),(3,[0,6,16,17]),(4,[2]),(5,[0,9,16,17]),(6,[2]),(7,[0,12]),(8,[2]),(9,[0,19]),(10,[2]),(11,[22]),(12,[2]),(13,[2])] }) (n:=1) follows Qju Qjz Tryz.func240 (by kernel_rfl) (by kernel_rfl) fun x r h=>Eq.trans (by kernel_rfl) h
noncomputable def Qmq (s_0:ByteArray):Option ((Int × Int × Unit) × Unit):=
 bif !(Qev s_0 (⟨#[]⟩:ByteArray)) then
  bif decide (0<(s_0.size:Int)) then
   bif decide (((s_0.data.getD 0 0).toNat:Int)<128) then
    bif decide (0<(s_0.size:Int)) then
     some ((IntKind.wrap .i32 ((s_0.data.getD 0 0).toNat:Int),1,()),())
    else none
   else none
  else none
 else none
noncomputable def Qq0:Ent:=⟨[.val t9],[⟨t21,[false],none⟩,⟨t2,[false],none⟩],fun x=>Qmq x.1⟩
theorem Qwa:Q4j tab.ty Tryz.prog 241 Qq0:=
 Qjd (Γ:=[]) (fi:={ keep:=[],vty:=[],vals:=[],live:=[(0,[0,7,8,9]),(1,[0,10]),(2,[2,3]),(3,[2,3])] }) (n:=1) follows Qju Qjz Tryz.func241 (by kernel_rfl) (by kernel_rfl) fun x r h=>Eq.trans (by kernel_rfl) h
noncomputable def Z61 (letter_0 x_1 x_2:Int) (x_3:List Int):Option ((Bool × Unit) × ((List Int) × Unit)):=
 bif Nat.ble (x_3.length+1) 1073741824 then
  some ((true,()),(x_3++[letter_0],()))
 else none
noncomputable def Zf2:Ent:=⟨[.val t2,.val t2,.val t2,.box 44 t44 [true]],[⟨t4,[false],none⟩],fun x=>Z61 x.1 x.2.1 x.2.2.1 x.2.2.2.1⟩
theorem Zpl:Q4j tab.ty Tryz.prog 188 Zf2:=
 Qjd (Γ:=[]) (fi:={ keep:=[],vty:=[],vals:=[],live:=[(0,[3,0]),(1,[3]),(2,[3,7])] }) (n:=1) follows Qju Qjz Tryz.func188 (by kernel_rfl) (by kernel_rfl) fun x r h=>Eq.trans (by kernel_rfl) h
section
open Go.RowKit
def X5n (s:ByteArray):Bool:=s.data.toList.all fun b=>Nat.blt b.toNat 128
def Qrg (s:ByteArray):List Int:=s.data.toList.map fun b=>(b.toNat:Int)
theorem X8w {s:ByteArray} (h:X5n s=true) {i:Nat} (hi:i<s.size):(s[i]'hi).toNat<128:=by
  have:=List.all_eq_true.1 h (s.data.toList[i]'(by simpa using hi)) (List.getElem_mem _)
  exact Nat.le_of_ble_eq_true this
theorem X85 {s:ByteArray} {i:Nat} (hi:i<s.size):(Qrg s).take (i+1)=(Qrg s).take i++[((s[i]'hi).toNat:Int)]:=by
  have hl:i<(Qrg s).length:=by simpa [Qrg] using hi
  rw [List.take_succ_eq_append_getElem hl]
  simp [Qrg]
  rfl
theorem X01 (s:ByteArray):(Qrg s).length=s.size:=by simp [Qrg]
abbrev Xd1:Ty:=.sl 3 (.int .i64)
def X0o (w:World) (B:Nat) (xs:List Int) (Bl:List Nat):Prop:=
  Q1e tab.ty (fun _=>False) w Xd1 [true] xs (.pointer (some ⟨B,0,none⟩)) Bl
theorem Zy6 {S:Nat→Prop} {w w':World}:∀ {xs:List Int} {cs:List Value},Q1 tab.ty S w (.int .i64) xs cs→Q1 tab.ty (fun _=>False) w' (.int .i64) xs cs
  | [],cs,h=>h
  | x::r,cs,h=>by
    obtain ⟨c,cr,hc,h1,h2⟩:=h
    exact ⟨c,cr,hc,h1,Zy6 h2⟩
theorem X0o.mv {S:Nat→Prop} {w w':World} {B:Nat} {xs:List Int} {Bl:List Nat} (h:Q1e tab.ty S w Xd1 [true] xs (.pointer (some ⟨B,0,none⟩)) Bl) (hk:∀ j∈Bl,w'.heap[j]?=w.heap[j]?):X0o w' B xs Bl:=by
  obtain ⟨b,T,cs,B',hv,hh,hB,hown⟩:=h
  obtain ⟨c,cr,B1,B2,e1,e2,h1,h2⟩:=hown
  obtain ⟨h0,⟨cells,hr,hc⟩,hb⟩:=h1
  subst hB;subst e2;subst hb
  refine ⟨b,T,cs,_,hv,(hk b (by simp)).trans hh,rfl,c,cr,_,B2,e1,rfl,⟨h0,⟨cells,⟨hr.1,?_⟩,Zy6 hc⟩,rfl⟩,h2⟩
  rcases hr.2 with hn | ⟨g,cap,cur,rfl,hg,hh',rest⟩
  · exact .inl hn
  · exact .inr ⟨g,cap,cur,rfl,hg,(hk g (by simp [blk])).trans hh',rest⟩
theorem Xb5 (c:Nat) (hc:c<128) (W:World):Calls Tryz.prog 240 #[.int .i32 (c:Int)] W fun e W'=>e=.returned (.int .i64 1)∧Fr (fun _=>False) W W':=by
  have hG:Z1n.G ((c:Int),())=some (((1:Int),()),()):=by
    show Qvd (c:Int)=_
    unfold Qvd
    rw [show decide ((c:Int)<0)=false from decide_eq_false (by omega),show decide ((c:Int)≤127)=true from decide_eq_true (by omega)]
    rfl
  refine (Zg9.2 W (fun _=>False) ((c:Int),()) [.int .i32 (c:Int)] [] (((1:Int),()),()) (fun _ h=>h.elim) ⟨_,_,[],[],rfl,rfl,⟨.inr ⟨rfl,rfl⟩,rfl⟩,rfl,rfl⟩ List.nodup_nil (by simp) hG).mono ?_
  rintro e W' ⟨vs,S',B1,B2,rfl,hr,_,_,_,_,_,hf⟩
  obtain ⟨v,vr,b1,b2,rfl,_,h1,rfl,_⟩:=hr
  obtain ⟨cs,_,hcs,hcs2⟩:=h1
  have:=hcs rfl;subst this
  obtain ⟨c1,cr,_,_,e1,_,h3,_⟩:=hcs2
  have h3:Rep tab.ty S' W' (.int .i64) (1:Int) [c1]∧_=[]:=h3
  obtain ⟨rfl,_⟩:=List.cons.inj e1
  have h4:[v]=[Value.int .i64 1]:=h3.1
  obtain ⟨rfl,_⟩:=List.cons.inj h4
  exact ⟨rfl,hf.mono (fun k hk=>by cases hk)⟩
theorem Xbm (s:ByteArray) (c:Nat) (h0:s.size≠0) (hs:(s.data.getD 0 0).toNat=c) (hc:c<128) (W:World):Calls Tryz.prog 241 #[.string s] W fun e W'=>e=.returned (.tuple #[.int .i32 (c:Int),.int .i64 1])∧Fr (fun _=>False) W W':=by
  have hG:Qq0.G (s,())=some (((c:Int),(1:Int),()),()):=by
    show Qmq s=_
    unfold Qmq
    have e1:Qev s (⟨#[]⟩:ByteArray)=false:=by
      rw [← Bool.not_eq_true]
      intro h
      have:s.data.toList=[]:=by simpa [Qev] using h
      exact h0 (by have:=congrArg List.length this;rw [Array.length_toList] at this;exact this)
    rw [e1,show decide (0<(s.size:Int))=true from decide_eq_true (by omega),hs,show decide ((c:Int)<128)=true from decide_eq_true (by omega)]
    have:IntKind.wrap .i32 (c:Int)=(c:Int):=by
      have h1:(c:Int) % 4294967296=c:=by omega
      rw [IntKind.wrap_i32];omega
    rw [this]
    rfl
  refine (Qwa.2 W (fun _=>False) (s,()) [.string s] [] (((c:Int),(1:Int),()),()) (fun _ h=>h.elim) ⟨_,_,[],[],rfl,rfl,⟨.inr ⟨rfl,rfl⟩,rfl⟩,rfl,rfl⟩ List.nodup_nil (by simp) hG).mono ?_
  rintro e W' ⟨vs,S',B1,B2,rfl,hr,_,_,_,_,_,hf⟩
  obtain ⟨v,vr,b1,b2,rfl,_,h1,v2,vr2,_,_,rfl,_,h2,rfl,_⟩:=hr
  obtain ⟨cs,_,hcs,hcs2⟩:=h1
  have:=hcs rfl;subst this
  obtain ⟨c1,cr,_,_,e1,_,h3,_⟩:=hcs2
  have h3:Rep tab.ty S' W' (.int .i32) (c:Int) [c1]∧_=[]:=h3
  obtain ⟨rfl,_⟩:=List.cons.inj e1
  have h4:[v]=[Value.int .i32 (c:Int)]:=h3.1
  obtain ⟨rfl,_⟩:=List.cons.inj h4
  obtain ⟨cs,_,hcs,hcs2⟩:=h2
  have:=hcs rfl;subst this
  obtain ⟨c1,cr,_,_,e1,_,h3,_⟩:=hcs2
  have h3:Rep tab.ty S' W' (.int .i64) (1:Int) [c1]∧_=[]:=h3
  obtain ⟨rfl,_⟩:=List.cons.inj e1
  have h4:[v2]=[Value.int .i64 1]:=h3.1
  obtain ⟨rfl,_⟩:=List.cons.inj h4
  exact ⟨rfl,hf.mono (fun k hk=>by cases hk)⟩
theorem Xd2 (x a b:Int) (B:Nat) (xs:List Int) (Bl:List Nat) (W:World) (hB:X0o W B xs Bl) (hn:Bl.Nodup) (hlt:∀ j∈Bl,j<W.heap.size) (hx:xs.length+1≤1073741824) :
    Calls Tryz.prog 188 #[.int .i64 x,.int .i64 a,.int .i64 b,.pointer (some ⟨B,0,none⟩)] W fun e W'=>e=.returned (.bool true)∧∃ Bl',X0o W' B (xs++[x]) Bl'∧Bl'.Nodup∧(∀ j∈Bl',j<W'.heap.size∧(W.heap.size≤j∨j∈Bl))∧Fr (fun j=>j∈Bl) W W':=by
  have hG:Zf2.G (x,a,b,xs,())=some ((true,()),(xs++[x],())):=by
    show Z61 x a b xs=_
    unfold Z61
    rw [show Nat.ble (xs.length+1) 1073741824=true from Q2.2 hx]
    rfl
  refine (Zpl.2 W (fun _=>False) (x,a,b,xs,()) [.int .i64 x,.int .i64 a,.int .i64 b,.pointer (some ⟨B,0,none⟩)] Bl ((true,()),(xs++[x],())) (fun _ h=>h.elim)
    ⟨_,_,[],Bl,rfl,rfl,⟨.inr ⟨rfl,rfl⟩,rfl⟩,_,_,[],Bl,rfl,rfl,⟨.inr ⟨rfl,rfl⟩,rfl⟩,_,_,[],Bl,rfl,rfl,⟨.inr ⟨rfl,rfl⟩,rfl⟩,_,_,Bl,[],rfl,(List.append_nil _).symm,hB,rfl,rfl⟩ hn (fun k hk=>⟨fun h=>h,hlt k hk⟩) hG).mono ?_
  rintro e W' ⟨vs,S',B1,B2,rfl,hr,ho,hnd,hbl,_,_,hf⟩
  obtain ⟨v,vr,b1,b2,rfl,_,h1,rfl,_⟩:=hr
  obtain ⟨cs,_,hcs,hcs2⟩:=h1
  have:=hcs rfl;subst this
  obtain ⟨c1,cr,_,_,e1,_,h3,_⟩:=hcs2
  have h3:Rep tab.ty S' W' .bool true [c1]∧_=[]:=h3
  obtain ⟨rfl,_⟩:=List.cons.inj e1
  have h4:[v]=[Value.bool true]:=h3.1
  obtain ⟨rfl,_⟩:=List.cons.inj h4
  obtain ⟨v3,vr3,c1,c2,e3,rfl,hv3,hc2⟩:=ho
  have hc2:c2=[]:=hc2
  subst hc2
  obtain ⟨rfl,_⟩:=List.cons.inj (show [Value.pointer (some ⟨B,0,none⟩)]=v3::vr3 from e3)
  refine ⟨rfl,c1,X0o.mv hv3 (fun _ _=>rfl),?_,fun j hj=>?_,hf⟩
  · have:=(List.nodup_append.1 hnd).2.1
    simpa using this
  · have:=hbl j (List.mem_append.2 (.inr (List.mem_append.2 (.inl hj))))
    exact this.2
set_option maxHeartbeats 4000000 in
set_option maxRecDepth 1000000 in
theorem Xcr (s:ByteArray) (ha:X5n s=true) (hs:s.size≤1073741824) (w:World) (B:Nat) (Bl:List Nat) (hB:X0o w B [] Bl) (hn:Bl.Nodup) (hlt:∀ j∈Bl,j<w.heap.size) :
    Calls Tryz.prog 187 #[.string s,.func (.func 188) #[] #[.pointer (some ⟨B,0,none⟩)]] w fun e w'=>e=.returned (.tuple #[])∧∃ Bl',X0o w' B (Qrg s) Bl'∧Bl'.Nodup∧(∀ j∈Bl',j<w'.heap.size∧(w.heap.size≤j∨j∈Bl))∧Fr (fun j=>j∈Bl) w w':=by
  go_enter Tryz.func187,Tryz.ntmps187
  go_wp2
  go_loopw [] (fun wr=>∃ (pos:Nat) (Bl':List Nat),wr.heap[w.heap.size]?=some (.stringIter s pos)∧pos≤s.size∧X0o wr B ((Qrg s).take pos) Bl'∧Bl'.Nodup∧(∀ j∈Bl',j<wr.heap.size∧(w.heap.size<j∨j∈Bl))∧Fr (fun j=>j∈Bl) w wr) (fun wr=>s.size - wr.iterPos (w.heap.size))
  case atStart=>
    refine ⟨0,Bl,World.iter_heap w s 0,Nat.zero_le _,?_,hn,fun j hj=>⟨?_,.inr hj⟩,?_⟩
    · rw [List.take_zero];exact X0o.mv hB (fun j hj=>RowKit.Below.heap_alloc w _ j (hlt j hj))
    · have:=hlt j hj;simp [World.iter];omega
    · exact (Fr.alloc _ w _)
  case round=>
    obtain ⟨pos,Bl',hit,hpl,hb,hn',hbl,hf⟩:=hrel
    have hk:w.heap.size<wr.heap.size:=(Array.getElem?_eq_some_iff.1 hit).1
    have hkB:w.heap.size ∉ Bl':=fun h=>by
      rcases (hbl _ h).2 with h | h
      · omega
      · exact absurd (hlt _ h) (by omega)
    by_cases hp:pos<s.size
    · have hnx:∀ ty,(Instr.next (.pointer (some ⟨w.heap.size,0,none⟩)) true ty).run Tryz.prog wr=_:=fun ty=>Lib.run_next_ascii_at wr w.heap.size s pos ty hit hp (X8w ha hp)
      generalize hc:(s[pos]'hp).toNat=c at hnx
      have hc128:c<128:=by rw [← hc];exact X8w ha hp
      have hit2:=Lib.iterAt_heap wr w.heap.size s pos (pos+1) hit
      go_wp2_with (go_at_call 240;refine (Xb5 c hc128 _).mono ?_)
      rintro e W1 ⟨rfl,f1⟩
      have hsz:(s.extract pos s.size).size=s.size - pos:=by simp
      have hd0:((s.extract pos s.size).data.getD 0 0).toNat=c:=by
        rw [← hc]
        have e1:(s.extract pos s.size).data[0]?=some (s[pos]'hp):=by
          rw [ByteArray.data_extract,Array.getElem?_extract]
          rw [if_pos (by simp;omega)]
          simp only [Nat.add_zero]
          exact Array.getElem?_eq_getElem hp
        rw [Array.getD_eq_getD_getElem?,e1]
        rfl
      have f0:Fr (fun j=>j∈Bl) w (wr.iterAt w.heap.size s (pos+1)):=hf.trans' (Y:=fun j=>j=w.heap.size) ⟨rfl,rfl,rfl,by rw [Lib.iterAt_size];exact Nat.le_refl _,fun j _ hj=>Lib.iterAt_other _ _ _ _ _ hj⟩ (fun j h1 h2=>absurd h2 (by omega))
      go_wp2_with (go_at_call 241;refine (Xbm _ c (by rw [hsz];omega) hd0 hc128 _).mono ?_)
      rintro e W2 ⟨rfl,f2⟩
      have hb2:X0o W2 B ((Qrg s).take pos) Bl':=X0o.mv hb (fun j hj=>by
        have h1:j<wr.heap.size:=(hbl j hj).1
        have h2:j<(wr.iterAt w.heap.size s (pos+1)).heap.size:=by rw [Lib.iterAt_size];exact h1
        rw [f2.block (Nat.lt_of_lt_of_le h2 f1.size) (fun x=>x),f1.block h2 (fun x=>x)]
        exact Lib.iterAt_other _ _ _ _ _ (fun e=>hkB (by rw [← e];exact hj)))
      have hw2:wr.heap.size≤W2.heap.size:=by
        have:=f1.size;have:=f2.size;rw [Lib.iterAt_size] at *;omega
      have hit3:W2.heap[w.heap.size]?=some (.stringIter s (pos+1)):=by
        have h2:w.heap.size<(wr.iterAt w.heap.size s (pos+1)).heap.size:=by rw [Lib.iterAt_size];exact hk
        rw [f2.block (Nat.lt_of_lt_of_le h2 f1.size) (fun x=>x),f1.block h2 (fun x=>x)]
        exact hit2
      have c65:¬ ((c:Int)=65533):=by omega
      have fn1h:=fun (a b:Int)=>Xd2 (c:Int) a b B ((Qrg s).take pos) Bl' W2 hb2 hn' (fun j hj=>Nat.lt_of_lt_of_le (hbl j hj).1 hw2) (by rw [List.length_take,X01];omega)
      go_wp2_with (go_at_call 188;refine (fn1h _ _).mono ?_)
      rintro e W3 ⟨rfl,Bl3,hb3,hn3,hbl3,f3⟩
      go_wp2
      go_roundw
      case rel=>
        have hk3:W3.heap[w.heap.size]?=some (.stringIter s (pos+1)):=by
          rw [f3.block (by omega) hkB];exact hit3
        refine ⟨pos+1,Bl3,hk3,hp,by rw [X85 hp,hc];exact hb3,hn3,fun j hj=>⟨(hbl3 j hj).1,?_⟩,?_⟩
        · rcases (hbl3 j hj).2 with h | h
          · exact .inl (by omega)
          · exact (hbl j h).2
        · refine ((f0.trans' f1 (fun _ _ x=>x.elim)).trans' f2 (fun _ _ x=>x.elim)).trans' f3 (fun j h1 h2=>?_)
          rcases (hbl j h2).2 with h | h
          · omega
          · exact h
      case measure=>
        have hk3:W3.heap[w.heap.size]?=some (.stringIter s (pos+1)):=by
          rw [f3.block (by omega) hkB];exact hit3
        simp only [World.iterPos,hk3,hit]
        omega
    · have hnx:∀ ty,(Instr.next (.pointer (some ⟨w.heap.size,0,none⟩)) true ty).run Tryz.prog wr=_:=fun ty=>Lib.run_next_end_at wr w.heap.size s pos ty hit hp
      go_wp2
      go_end0
      have:pos=s.size:=by omega
      subst this
      rw [List.take_of_length_le (by rw [X01];exact Nat.le_refl _)] at hb
      exact ⟨rfl,Bl',hb,hn',fun j hj=>⟨(hbl j hj).1,(hbl j hj).2.imp Nat.le_of_lt id⟩,hf⟩
set_option maxHeartbeats 4000000 in
set_option maxRecDepth 1000000 in
theorem Xbb (s:ByteArray) (ha:X5n s=true) (hs:s.size≤1073741824) (w:World) :
    Calls Tryz.prog 162 #[.string s] w fun e w'=>∃ v Bl,e=.returned v∧Q0w tab.ty (fun _=>False) w' 3 (.int .i64) (Qrg s) v Bl∧(∀ j∈Bl,j<w'.heap.size∧w.heap.size≤j)∧Fr (fun _=>False) w w':=by
  have hE:=fun W B Bl h1 h2 h3=>Xcr s ha hs W B Bl h1 h2 h3
  go_enter Tryz.func162,Tryz.ntmps162
  have hB0:X0o (w.alloc (.cells #[.slice none 0 0] 44)) w.heap.size [] [w.heap.size]:=
    ⟨w.heap.size,44,#[.slice none 0 0],[],rfl,(by show (w.heap.push _)[w.heap.size]?=_;simp),rfl,.slice none 0 0,[],[],[],rfl,rfl,⟨Nat.zero_lt_one,⟨[],World.ownsRow_nil _ 0 3 1,rfl⟩,rfl⟩,rfl,rfl⟩
  go_wp2_with (go_at_call 187;refine (hE _ _ _ hB0 (by simp) (by simp)).mono ?_)
  rintro e W1 ⟨rfl,Bl1,hb1,hn1,hbl1,f1⟩
  obtain ⟨b,T,cs,B',hv,hh,hB,hown⟩:=hb1
  obtain ⟨c,cr,B1,B2,e1,e2,h1,h2⟩:=hown
  obtain ⟨rfl,rfl⟩:cr=[]∧B2=[]:=h2
  obtain ⟨h0,⟨cells,hr,hc⟩,hb⟩:Q0w tab.ty (fun _=>False) W1 3 (.int .i64) (Qrg s) c B1:=h1
  have hcs:cs=#[c]:=by apply Array.ext';exact e1
  subst hcs
  obtain ⟨rfl⟩:w.heap.size=b:=by injection hv with e;injection e with e;injection e
  have hcell:W1.cell? ⟨w.heap.size,0,none⟩=some c:=by simp [World.cell?,hh]
  have hfro:W1.frozen? ⟨w.heap.size,0,none⟩=false:=by simp [World.frozen?,hh]
  obtain ⟨A,n,cp,rfl⟩:=Zz hr
  subst hB;subst e2;subst hb
  have hne:∀ j∈(blk (Value.slice A n cp)).toList,j≠w.heap.size:=fun j hj e=>by
    have:=(List.nodup_cons.1 hn1).1
    exact this (by rw [← e];simpa using hj)
  have hh2:(W1.setCell ⟨w.heap.size,0,none⟩ (.slice A n cp)).heap[w.heap.size]?=some (.cells #[.slice A n cp] T (0,0)):=by
    obtain ⟨hlt2,hk2⟩:=Array.getElem?_eq_some_iff.1 hh
    show (W1.heap.modify w.heap.size _)[w.heap.size]?=_
    rw [Array.getElem?_eq_getElem (by rw [Array.size_modify];exact hlt2),Array.getElem_modify_self,hk2]
    rfl
  have hcell2:(W1.setCell ⟨w.heap.size,0,none⟩ (.slice A n cp)).cell? ⟨w.heap.size,0,none⟩=some (.slice A n cp):=by simp [World.cell?,hh2]
  go_wp2
  (try simp only [Exit.inBlock,Exit.then])
  refine bodyPost_ret (v:=.slice A n cp) (by simp only [results,show Tryz.f162.results=#[.cell 2 44] from rfl];go_simp) rfl ?_
  refine ⟨_,_,rfl,⟨h0,⟨cells,⟨hr.1,?_⟩,Zy6 hc⟩,rfl⟩,fun j hj=>⟨?_,?_⟩,?_⟩
  · rcases hr.2 with hn | ⟨g,cap,cur,e,hg,hh',rest⟩
    · exact .inl hn
    · refine .inr ⟨g,cap,cur,e,hg,?_,rest⟩
      injection e with e _ _
      subst e
      exact (RowKit.Below.heap_setCell W1 _ _ g (hne g (by simp [blk]))).trans hh'
  · have:=(hbl1 j (by simp only [List.mem_cons];exact .inr (by simpa using hj))).1
    simpa using this
  · rcases (hbl1 j (by simp only [List.mem_cons];exact .inr (by simpa using hj))).2 with h | h
    · simp at h;omega
    · simp at h;omega
  · exact ((Fr.alloc (fun _=>False) w _).trans' f1 (fun j h1 h2=>by simp at h2;omega)).trans' (Fr.setCell W1 _ _) (fun j h1 h2=>by simp at h2;omega)
noncomputable def X8t (s_0:ByteArray):Option (((List Int) × Unit) × Unit):=bif X5n s_0&&Nat.ble s_0.size 1073741824 then some ((Qrg s_0,()),()) else none
noncomputable def Zrx:Ent:=⟨[.val t9],[⟨t44,[true],none⟩],fun x=>X8t x.1⟩
theorem Zxq:Q4j tab.ty Tryz.prog 162 Zrx:=by
  refine ⟨⟨_,Tryz.func162,by kernel_rfl,by kernel_rfl⟩,fun w S x vals B r hS ha hn hB hG=>?_⟩
  obtain ⟨s,u⟩:=x
  obtain ⟨v,vr,b1,b2,rfl,rfl,⟨hv,rfl⟩,rfl,rfl⟩:=ha
  have hG:(bif X5n s&&Nat.ble s.size 1073741824 then some ((Qrg s,()),()) else none)=some r:=hG
  cases hq:(X5n s&&Nat.ble s.size 1073741824) with
  | false=>rw [hq] at hG;cases hG
  | true=>
  rw [hq] at hG
  have hG:=Option.some.inj hG
  subst hG
  simp only [Bool.and_eq_true] at hq
  obtain ⟨hq1,hq2⟩:=hq
  have hv2:v=.string s:=by
    rcases hv with ⟨h,_⟩ | ⟨_,h⟩
    · cases h
    · have h:[v]=[Value.string s]:=h
      injection h
  subst hv2
  refine (Xbb s hq1 (Q2.1 hq2) w).mono ?_
  rintro e w' ⟨v,Bl,rfl,hr,hbl,hf⟩
  obtain ⟨h0,⟨cells,hr,hc⟩,rfl⟩:=hr
  refine ⟨[v],S,(blk v).toList,[],rfl,⟨v,[],(blk v).toList,[],rfl,by simp,⟨[v],(fun h=>by cases h),(fun _=>rfl),v,[],(blk v).toList,[],rfl,by simp,⟨h0,⟨cells,hr,?_⟩,rfl⟩,rfl,rfl⟩,rfl,rfl⟩,rfl,?_,fun k hk=>?_,fun _ h=>h,fun k hk=>⟨Nat.lt_of_lt_of_le (hS k hk) hf.size,.inl hk⟩,hf.mono (fun _ h=>h.elim)⟩
  · exact hc.frame (fun _ h=>h.elim) (Nat.le_refl _) (fun _ _ _=>rfl)
  · cases blk v<;>simp
  · have h1:=hbl k (by simpa using hk)
    exact ⟨fun h=>by have:=hS k h;omega,h1.1,.inl h1.2⟩
end
noncomputable def X1y:Ctx:=[(162,Zrx)]
def Zz6:Fi:={ keep:=[],vty:=[(3,44),(8,44),(25,44),(29,44)],vals:=[],live:=[(0,[0,17,18,19,20,21,22,29,30,31]),(1,[3,17,18,19,20,21,22,29,30,31]),(2,[3,8,9,10,17,18,19,20,21,22,29,30,31]),(3,[3,8,9,10,11,17,18,19,20,21,22,29,30,31]),(4,[3,5,8,9,10,17,18,19,20,21,22,29,30,31]),(5,[3,8,9,10,17,18,19,20,21,22,23,29,30,31]),(6,[2]),(7,[3,8,9,10,17,18,19,20,21,22,29,30,31]),(8,[2])] }
noncomputable def Xah (x:PDs [.val t9]):Option (RDs [⟨t4,[false],none⟩] × ODs [.val t9]):=Qdf X1y tab Zz6 1099511627776 [.val t9] [⟨t4,[false],none⟩] Tryz.f135 x
noncomputable def X1k (x0:ByteArray):Option ((Bool × Unit) × Unit):=Xah (x0,())
noncomputable def Zta:Ent:=⟨[.val t9],[⟨t4,[false],none⟩],fun x=>X1k x.1⟩
theorem Zsp:Q4j tab.ty Tryz.prog 135 Zta:=by
  refine Qjd (Γ:=X1y) (fi:=Zz6) (n:=1099511627776) follows (Qjq Zxq Qju) Qjz Tryz.func135 (by kernel_rfl) (by kernel_rfl) (fun x r h=>?_)
  obtain ⟨x0,_u⟩:=x
  exact h
noncomputable def X18:Ctx:=[(83,Qk9),(133,Qwu)]
def Zyv:Fi:={ keep:=[],vty:=[(2,26),(3,26),(5,44),(6,26),(8,26),(15,26),(17,44),(21,26)],vals:=[],live:=[(0,[0]),(1,[0,3]),(2,[3,8,9,10]),(3,[3,8,9,10,11]),(4,[3,4,5,8,9,10]),(5,[3,8,9,10]),(6,[3,8,9,10]),(7,[2])] }
noncomputable def Xad (x:PDs [.val t26]):Option (RDs [⟨t26,[true],none⟩] × ODs [.val t26]):=Qdf X18 tab Zyv 1099511627776 [.val t26] [⟨t26,[true],none⟩] Tryz.f189 x
noncomputable def Xbt (x0:List (List Int)):Option ((Qp3 × Unit) × Unit):=Xad (x0,())
noncomputable def X4g:Ent:=⟨[.val t26],[⟨t26,[true],none⟩],fun x=>Xbt x.1⟩
theorem X5d:Q4j tab.ty Tryz.prog 189 X4g:=by
  refine Qjd (Γ:=X18) (fi:=Zyv) (n:=1099511627776) follows (Qjq Qk5 (Qjq Z1c Qju)) Qjz Tryz.func189 (by kernel_rfl) (by kernel_rfl) (fun x r h=>?_)
  obtain ⟨x0,_u⟩:=x
  exact h
noncomputable def Zow:Ctx:=[(83,Qk9),(92,Qsu)]
def Zky:Fi:={ keep:=[],vty:=[(0,88),(2,88),(5,88),(7,88),(14,88),(22,88)],vals:=[],live:=[(0,[0]),(1,[0]),(2,[0,7,8,9]),(3,[0,7,8,9,10]),(4,[0,3,4,7,8,9]),(5,[0,7,8,9]),(6,[0,7,8,9]),(7,[2])] }
noncomputable def X19 (x:PDs [.val t88]):Option (RDs [⟨t88,[true],none⟩] × ODs [.val t88]):=Qdf Zow tab Zky 1099511627776 [.val t88] [⟨t88,[true],none⟩] Tryz.f190 x
noncomputable def X72 (x0:List Qq3):Option ((Qkr × Unit) × Unit):=X19 (x0,())
noncomputable def Znx:Ent:=⟨[.val t88],[⟨t88,[true],none⟩],fun x=>X72 x.1⟩
theorem Zuy:Q4j tab.ty Tryz.prog 190 Znx:=by
  refine Qjd (Γ:=Zow) (fi:=Zky) (n:=1099511627776) follows (Qjq Qk5 (Qjq Qq7 Qju)) Qjz Tryz.func190 (by kernel_rfl) (by kernel_rfl) (fun x r h=>?_)
  obtain ⟨x0,_u⟩:=x
  exact h
noncomputable def Zwq:Ctx:=[(91,Qrv),(189,X4g),(190,Znx)]
def Zs2:Fi:={ keep:=[],vty:=[(4,88),(24,88)],vals:=[],live:=[(0,[1,2]),(1,[1,2]),(2,[1,2,14,15,16]),(3,[1,2,14,15,16,17]),(4,[1,2,3,4,14,15,16]),(5,[1,2,14,15,16]),(6,[1,2,14,15,16]),(7,[2])] }
noncomputable def X80 (x:PDs [.val t28]):Option (RDs [⟨t28,[false,true,true],none⟩] × ODs [.val t28]):=Qdf Zwq tab Zs2 1099511627776 [.val t28] [⟨t28,[false,true,true],none⟩] Tryz.f163 x
noncomputable def Ztn (x0:Int × Qp3 × List Qkr):Option ((Xcm × Unit) × Unit):=X80 (x0,())
noncomputable def Zjr:Ent:=⟨[.val t28],[⟨t28,[false,true,true],none⟩],fun x=>Ztn x.1⟩
theorem Zkz:Q4j tab.ty Tryz.prog 163 Zjr:=by
  refine Qjd (Γ:=Zwq) (fi:=Zs2) (n:=1099511627776) follows (Qjq Qvb (Qjq X5d (Qjq Zuy Qju))) Qjz Tryz.func163 (by kernel_rfl) (by kernel_rfl) (fun x r h=>?_)
  obtain ⟨x0,_u⟩:=x
  exact h
noncomputable def Zvx (h_0:Int × Qp3 × List Qkr):Option ((Qkr × Unit) × Unit):=
 bif (h_0.2.2.length:Int)==0 then
  some (([],()),())
 else
 bif decide (0<(h_0.2.2.length:Int)) then
  some ((List.getD h_0.2.2 0 [],()),())
 else none
noncomputable def Zxz:Ent:=⟨[.val t28],[⟨t88,[false],none⟩],fun x=>Zvx x.1⟩
theorem Zvt:Q4j tab.ty Tryz.prog 165 Zxz:=
 Qjd (Γ:=[]) (fi:={ keep:=[],vty:=[],vals:=[],live:=[(0,[1]),(1,[1,6]),(2,[2]),(3,[2])] }) (n:=1) follows Qju Qjz Tryz.func165 (by kernel_rfl) (by kernel_rfl) fun x r h=>Eq.trans (by kernel_rfl) h
abbrev Qkt:Type:=(Int × Unit) × Unit
noncomputable def Qp7:Ctx:=[]
def Qol:Fi:={ keep:=[],vty:=[],vals:=[],live:=[(0,[0,1]),(1,[0,1,7,8]),(2,[0,1,7,8,9]),(3,[0,1,5,7,8]),(4,[0,1,5,7,8,16]),(5,[4]),(6,[0,1,7,8]),(7,[4])] }
abbrev Qot:Type:=Qkr→(Qq3 × Unit→Option (Bool × Unit))→Int→Int→Option Qkt
noncomputable def Qun (L1:Qot) (v1:List Qq3) (v2:(Qq3 × Unit→Option (Bool × Unit))) (v3 v4:Int):Option Qkt:=
 bif decide (v4<v3) then
  bif decide (0≤v4)&&decide (v4<(v1.length:Int)) then
   Option.bind (v2 ((List.getD v1 v4.toNat ([],0)),())) fun r5=>
   bif r5.1 then
    some ((v4,()),())
   else
    L1 v1 v2 v3 (IntKind.wrap .i64 (v4+1))
  else none
 else
  some (((-1),()),())
noncomputable def Qv5 (L1:Qot) (s_0:List Qq3) (f_1:(Qq3 × Unit→Option (Bool × Unit))):Option Qkt:=
 L1 s_0 f_1 (s_0.length:Int) 0
noncomputable def Qug (n:Nat):Nat→Qot:=iter (fun _ _ _ _=>none) fun L=>Qun L
noncomputable def Qm4 (n m:Nat) (v1:List Qq3) (v2:(Qq3 × Unit→Option (Bool × Unit))) (v3 v4:Int):Option Qkt:=
 Qjl Qp7 tab (fiB [.val t88,.fn [t90] [t4]] Qol) n [.val t88,.fn [t90] [t4]] [⟨t2,[false],none⟩] Tryz.f191 [1,0,1,0] [] [0,1,7,8] m
 ⟨[(0,Vp t88 v1),(1,V1 (.clo [t90] [t4] v2)),(7,Vp t2 v3),(8,Vp t2 v4)],[]⟩
theorem Z52 (n m:Nat):Qm4 n (m+1)=Qun (Qm4 n m):=by kernel_rfl
theorem Qtl (n:Nat):∀ m,Qm4 n m=Qug n m
 | 0=>rfl
 | m+1=>by rw [Z52 n m,Qtl n m];rfl
noncomputable def Qv7 (n:Nat) (s_0:List Qq3) (f_1:(Qq3 × Unit→Option (Bool × Unit))):Option Qkt:=Qv5 (Qug n n) s_0 f_1
noncomputable def Qr4 (s_0:List Qq3) (f_1:(Qq3 × Unit→Option (Bool × Unit))):Option Qkt:=Qv7 1099511627776 s_0 f_1
noncomputable def Qmj:Ent:=⟨[.val t88,.fn [t90] [t4]],[⟨t2,[false],none⟩],fun x=>Qr4 x.1 x.2.1⟩
theorem Zc5 (n:Nat) (s_0:List Qq3) (f_1:(Qq3 × Unit→Option (Bool × Unit))):Qdf Qp7 tab Qol n [.val t88,.fn [t90] [t4]] [⟨t2,[false],none⟩] Tryz.f191 (s_0,f_1,())=Qv7 n s_0 f_1:=Eq.trans (b:=Qv5 (Qm4 n n) s_0 f_1) (by kernel_rfl) (by rw [Qtl n n];rfl)
theorem Qnl:Q4j tab.ty Tryz.prog 191 Qmj:=
 Qjd (Γ:=Qp7) (fi:=Qol) (n:=1099511627776) follows Qju Qjz Tryz.func191 (by kernel_rfl) (by kernel_rfl) fun x r h=>(Zc5 1099511627776 x.1 x.2.1).trans h
abbrev Qnd:Type:=(Int × Unit) × Unit
noncomputable def Qyy:Ctx:=[]
def Qwp:Fi:={ keep:=[],vty:=[],vals:=[],live:=[(0,[0,1]),(1,[0,1,7,8]),(2,[0,1,7,8,9]),(3,[0,1,5,7,8]),(4,[0,1,5,7,8,16]),(5,[4]),(6,[0,1,7,8]),(7,[4])] }
abbrev Qxt:Type:=List Int→Int→Int→Int→Option Qnd
noncomputable def Zcf (L1:Qxt) (v1:List Int) (v2 v3 v4:Int):Option Qnd:=
 bif decide (v4<v3) then
  bif decide (0≤v4)&&decide (v4<(v1.length:Int)) then
   bif v2==(List.getD v1 v4.toNat 0) then
    some ((v4,()),())
   else
    L1 v1 v2 v3 (IntKind.wrap .i64 (v4+1))
  else none
 else
  some (((-1),()),())
noncomputable def Zd3 (L1:Qxt) (s_0:List Int) (v_1:Int):Option Qnd:=
 L1 s_0 v_1 (s_0.length:Int) 0
noncomputable def Zau (n:Nat):Nat→Qxt:=iter (fun _ _ _ _=>none) fun L=>Zcf L
noncomputable def Qr8 (n m:Nat) (v1:List Int) (v2 v3 v4:Int):Option Qnd:=
 Qjl Qyy tab (fiB [.val t44,.val t2] Qwp) n [.val t44,.val t2] [⟨t2,[false],none⟩] Tryz.f186 [1,0,1,0] [] [0,1,7,8] m
 ⟨[(0,Vp t44 v1),(1,Vp t2 v2),(7,Vp t2 v3),(8,Vp t2 v4)],[]⟩
theorem Zn4 (n m:Nat):Qr8 n (m+1)=Zcf (Qr8 n m):=by kernel_rfl
theorem Z7k (n:Nat):∀ m,Qr8 n m=Zau n m
 | 0=>rfl
 | m+1=>by rw [Zn4 n m,Z7k n m];rfl
noncomputable def Zff (n:Nat) (s_0:List Int) (v_1:Int):Option Qnd:=Zd3 (Zau n n) s_0 v_1
noncomputable def Zm1 (s_0:List Int) (v_1:Int):Option Qnd:=Zff 1099511627776 s_0 v_1
noncomputable def Zf7:Ent:=⟨[.val t44,.val t2],[⟨t2,[false],none⟩],fun x=>Zm1 x.1 x.2.1⟩
theorem Zu5 (n:Nat) (s_0:List Int) (v_1:Int):Qdf Qyy tab Qwp n [.val t44,.val t2] [⟨t2,[false],none⟩] Tryz.f186 (s_0,v_1,())=Zff n s_0 v_1:=Eq.trans (b:=Zd3 (Qr8 n n) s_0 v_1) (by kernel_rfl) (by rw [Z7k n n];rfl)
theorem Zpt:Q4j tab.ty Tryz.prog 186 Zf7:=
 Qjd (Γ:=Qyy) (fi:=Qwp) (n:=1099511627776) follows Qju Qjz Tryz.func186 (by kernel_rfl) (by kernel_rfl) fun x r h=>(Zu5 1099511627776 x.1 x.2.1).trans h
noncomputable def Qos (s_0:List Int) (v_1:Int):Option ((Bool × Unit) × Unit):=
 Option.bind (Zm1 s_0 v_1) fun r1=>
 some ((decide (r1.1.1 ≥ 0),()),())
noncomputable def Qlv:Ent:=⟨[.val t44,.val t2],[⟨t4,[false],none⟩],fun x=>Qos x.1 x.2.1⟩
theorem Qlx:Q4j tab.ty Tryz.prog 161 Qlv:=
 Qjd (Γ:=[(186,Zf7)]) (fi:={ keep:=[],vty:=[],vals:=[],live:=[(0,[0,1]),(1,[4])] }) (n:=1) follows (Qjq Zpt Qju) Qjz Tryz.func161 (by kernel_rfl) (by kernel_rfl) fun x r h=>Eq.trans (by kernel_rfl) h
noncomputable def Zwt (c_0:(List Int) × Int) (x_1:Int):Option ((Bool × Unit) × Unit):=
 Option.bind (Qos c_0.1 x_1) fun r1=>
 some ((r1.1.1,()),())
noncomputable def Zog:Ent:=⟨[.val t90,.rbox t2],[⟨t4,[false],none⟩],fun x=>Zwt x.1 x.2.1⟩
theorem Zuq:Q4j tab.ty Tryz.prog 192 Zog:=
 Qjd (Γ:=[(161,Qlv)]) (fi:={ keep:=[],vty:=[],vals:=[],live:=[(0,[1,2]),(1,[3])] }) (n:=1) follows (Qjq Qlx Qju) Qjz Tryz.func192 (by kernel_rfl) (by kernel_rfl) fun x r h=>Eq.trans (by kernel_rfl) h
noncomputable def X1a (cs_0:List Qq3) (id_1:Int):Option ((Int × Unit) × Unit):=
 Option.bind (Qr4 cs_0 (fun x=>(Zwt x.1 id_1).bind fun r=>some (r.1.1,()))) fun r1=>
 some ((r1.1.1,()),())
noncomputable def Zby:Ent:=⟨[.val t88,.val t2],[⟨t2,[false],none⟩],fun x=>X1a x.1 x.2.1⟩
theorem Z3h:Q4j tab.ty Tryz.prog 164 Zby:=
 Qjd (Γ:=[(191,Qmj),(192,Zog)]) (fi:={ keep:=[],vty:=[],vals:=[],live:=[(0,[0,3]),(1,[4])] }) (n:=1) follows (Qjq Qnl (Qjq Zuq Qju)) Qjz Tryz.func164 (by kernel_rfl) (by kernel_rfl) fun x r h=>Eq.trans (by kernel_rfl) h
noncomputable def X14:Ctx:=[]
def X07:Fi:={ keep:=[],vty:=[(10,44)],vals:=[],live:=[(0,[0,1,4,24,25,26,27,28,29,30,31,32,33,34,35,36,37,38,39,40]),(1,[0,1,4,5,24,25,26,27,28,29,30,31,32,33,34,35,36,37,38,39,40]),(2,[1,4,5,10,11,12,24,25,26,27,28,29,30,31,32,33,34,35,36,37,38,39,40]),(3,[1,4,5,10,11,12,13,24,25,26,27,28,29,30,31,32,33,34,35,36,37,38,39,40]),(4,[1,4,5,7,10,11,12,24,25,26,27,28,29,30,31,32,33,34,35,36,37,38,39,40]),(5,[1,4,5,7,8,9,10,11,12,24,25,26,27,28,29,30,31,32,33,34,35,36,37,38,39,40]),(6,[1,4,5,7,8,10,11,12,24,25,26,27,28,29,30,31,32,33,34,35,36,37,38,39,40,41]),(7,[1,4,5,10,11,12,24,25,26,27,28,29,30,31,32,33,34,35,36,37,38,39,40]),(8,[1,4,5,10,11,12,24,25,26,27,28,29,30,31,32,33,34,35,36,37,38,39,40]),(9,[4])] }
noncomputable def Xa3 (x:PDs [.val t44,.fn [t2] [t2,t4]]):Option (RDs [⟨t2,[false],none⟩] × ODs [.val t44,.fn [t2] [t2,t4]]):=Qdf X14 tab X07 1099511627776 [.val t44,.fn [t2] [t2,t4]] [⟨t2,[false],none⟩] Tryz.f248 x
noncomputable def X3y (x0:List Int) (x1:(Int × Unit→Option (Int × Bool × Unit))):Option ((Int × Unit) × Unit):=Xa3 (x0,x1,())
noncomputable def Ztx:Ent:=⟨[.val t44,.fn [t2] [t2,t4]],[⟨t2,[false],none⟩],fun x=>X3y x.1 x.2.1⟩
theorem Zst:Q4j tab.ty Tryz.prog 248 Ztx:=by
  refine Qjd (Γ:=X14) (fi:=X07) (n:=1099511627776) follows Qju Qjz Tryz.func248 (by kernel_rfl) (by kernel_rfl) (fun x r h=>?_)
  obtain ⟨x0,x1,_u⟩:=x
  exact h
noncomputable def Xal (d_0:List (List Int)) (a_1 b_2:Int):Option ((Int × Unit) × Unit):=
 bif decide (a_1<1) then
  some ((0,()),())
 else
 bif decide (a_1>(d_0.length:Int)) then
  some ((0,()),())
 else
 bif decide (b_2<1) then
  some ((0,()),())
 else
 bif decide (0≤IntKind.wrap .i64 (a_1 - 1))&&decide (IntKind.wrap .i64 (a_1 - 1)<(d_0.length:Int)) then
  bif decide (b_2>((List.getD d_0 ((IntKind.wrap .i64 (a_1 - 1)).toNat) []).length:Int)) then
   some ((0,()),())
  else
  bif decide (0≤IntKind.wrap .i64 (a_1 - 1))&&decide (IntKind.wrap .i64 (a_1 - 1)<(d_0.length:Int)) then
   bif decide (0≤IntKind.wrap .i64 (b_2 - 1))&&decide (IntKind.wrap .i64 (b_2 - 1)<((List.getD d_0 ((IntKind.wrap .i64 (a_1 - 1)).toNat) []).length:Int)) then
    some ((List.getD (List.getD d_0 ((IntKind.wrap .i64 (a_1 - 1)).toNat) []) ((IntKind.wrap .i64 (b_2 - 1)).toNat) 0,()),())
   else none
  else none
 else none
noncomputable def Zy7:Ent:=⟨[.val t26,.val t2,.val t2],[⟨t2,[false],none⟩],fun x=>Xal x.1 x.2.1 x.2.2.1⟩
theorem Zv1:Q4j tab.ty Tryz.prog 250 Zy7:=
 Qjd (Γ:=[]) (fi:={ keep:=[],vty:=[],vals:=[],live:=[(0,[0,1,2,10,11,12,13,16,17,20,21,22,23,24,25,26,27]),(1,[0,1,2,28]),(2,[6]),(3,[6])] }) (n:=1) follows Qju Qjz Tryz.func250 (by kernel_rfl) (by kernel_rfl) fun x r h=>Eq.trans (by kernel_rfl) h
noncomputable def Zyu (x_0:Int) (x_1:List (List Int)) (x_2:Int):Option ((Int × Bool × Unit) × Unit):=
 Option.bind (Xal x_1 x_2 x_0) fun r1=>
 some ((r1.1.1,x_0 != x_2,()),())
noncomputable def Zru:Ent:=⟨[.val t2,.rbox t26,.rbox t2],[⟨t2,[false],none⟩,⟨t4,[false],none⟩],fun x=>Zyu x.1 x.2.1 x.2.2.1⟩
theorem Zxp:Q4j tab.ty Tryz.prog 249 Zru:=
 Qjd (Γ:=[(250,Zy7)]) (fi:={ keep:=[],vty:=[],vals:=[],live:=[(0,[0,1,2]),(1,[4,5])] }) (n:=1) follows (Qjq Zv1 Qju) Qjz Tryz.func249 (by kernel_rfl) (by kernel_rfl) fun x r h=>Eq.trans (by kernel_rfl) h
noncomputable def Xc3 (d_0:List (List Int)) (m_1:Int) (l_2:List Int):Option ((Int × Unit) × Unit):=
 Option.bind (X3y l_2 (fun x=>(Zyu x.1 d_0 m_1).bind fun r=>some (r.1.1,r.1.2.1,()))) fun r1=>
 some ((r1.1.1,()),())
noncomputable def Zqj:Ent:=⟨[.val t26,.val t2,.val t44],[⟨t2,[false],none⟩],fun x=>Xc3 x.1 x.2.1 x.2.2.1⟩
theorem Zje:Q4j tab.ty Tryz.prog 200 Zqj:=
 Qjd (Γ:=[(248,Ztx),(249,Zru)]) (fi:={ keep:=[],vty:=[],vals:=[],live:=[(0,[2,3,4]),(1,[6])] }) (n:=1) follows (Qjq Zst (Qjq Zxp Qju)) Qjz Tryz.func200 (by kernel_rfl) (by kernel_rfl) fun x r h=>Eq.trans (by kernel_rfl) h
noncomputable def X3e:Ctx:=[(164,Zby),(200,Zqj)]
def Zz4:Fi:={ keep:=[],vty:=[],vals:=[],live:=[(0,[1,2,4,18,19,20,21,22,23,24,25]),(1,[1,2,4,5,18,19,20,21,22,23,24,25]),(2,[1,2,4,5,12,18,19,20,21,22,23,24,25]),(3,[1,2,4,5,18,19,20,21,22,23,24,25]),(4,[1,2,4,5,18,19,20,21,22,23,24,25,26]),(5,[4]),(6,[1,2,5,6,18,19,20,21,22,23,24,25]),(7,[1,2,4,5,18,19,20,21,22,23,24,25]),(8,[4])] }
noncomputable def Xa6 (x:PDs [.val t28,.val t2]):Option (RDs [⟨t2,[false],none⟩] × ODs [.val t28,.val t2]):=Qdf X3e tab Zz4 1099511627776 [.val t28,.val t2] [⟨t2,[false],none⟩] Tryz.f168 x
noncomputable def X8e (x0:Int × Qp3 × List Qkr) (x1:Int):Option ((Int × Unit) × Unit):=Xa6 (x0,x1,())
noncomputable def X3n:Ent:=⟨[.val t28,.val t2],[⟨t2,[false],none⟩],fun x=>X8e x.1 x.2.1⟩
theorem X4l:Q4j tab.ty Tryz.prog 168 X3n:=by
  refine Qjd (Γ:=X3e) (fi:=Zz4) (n:=1099511627776) follows (Qjq Z3h (Qjq Zje Qju)) Qjz Tryz.func168 (by kernel_rfl) (by kernel_rfl) (fun x r h=>?_)
  obtain ⟨x0,x1,_u⟩:=x
  exact h
section
open Go.RowKit
theorem X8k {P:Program} {τ:TypeId→Option Ty} {f:FuncId} {eT:TypeId} {e:Ty} {G:PDs [.val (.sl eT e)]→Option (RDs [⟨.sl eT e,[true],none⟩] × ODs [.val (.sl eT e)])}
    (hg:Q4j τ P f ⟨[.val (.sl eT e)],[⟨.sl eT e,[true],none⟩],G⟩) {S:Nat→Prop} {w:World} {xs:List e.den} {v:Value} (hS:∀ k,S k→k<w.heap.size) (hr:Rep τ S w (.sl eT e) xs [v])
    (hG:G (xs,())=some ((xs,()),())) :
    Calls P f #[v] w fun ex w'=>∃ v' S',ex=.returned v'∧Q0w τ S' w' eT e xs v' (blk v').toList∧(∀ j,blk v'=some j→¬ S' j∧j<w'.heap.size∧w.heap.size≤j)∧(∀ k,S k→S' k) ∧
      (∀ k,S' k→k<w'.heap.size∧(S k∨w.heap.size≤k))∧Fr (fun _=>False) w w':=by
  refine (hg.2 w S (xs,()) [v] [] ((xs,()),()) hS ⟨v,[],[],[],rfl,rfl,⟨.inr ⟨rfl,hr⟩,rfl⟩,rfl,rfl⟩ List.nodup_nil (by simp) hG).mono ?_
  rintro ex w' ⟨vs,S',B1,B2,rfl,h1,_,_,h3,h4,h5,h6⟩
  obtain ⟨v',vr,b1,b2,rfl,rfl,hres,rfl,rfl⟩:=h1
  obtain ⟨cs,_,hcs,hown⟩:=hres
  have:=hcs rfl;subst this
  obtain ⟨c,cr,b3,b4,e1,rfl,hl,h7⟩:=hown
  obtain ⟨rfl,rfl⟩:=List.cons.inj e1
  obtain ⟨_,rfl⟩:([]:List Value)=[]∧b4=[]:=h7
  have hl:Q0w τ S' w' eT e xs v' b3:=hl
  obtain ⟨g1,g2,g3⟩:=hl
  subst g3
  refine ⟨v',S',rfl,⟨g1,g2,rfl⟩,fun j hj=>?_,h4,fun k hk=>⟨(h5 k hk).1,(h5 k hk).2.imp id (fun h=>h.elim id (fun h=>by cases h))⟩,h6.mono (fun _ h=>by cases h)⟩
  have:=h3 j (by simp [hj])
  exact ⟨this.1,this.2.1,this.2.2.elim id (fun h=>by cases h)⟩
theorem Xbl {S:Nat→Prop} {w w':World} {xs:List Int} {c:Value} {B:List Nat} (h:Q0w tab.ty S w 3 (.int .i64) xs c B) (hk:∀ j∈B,w'.heap[j]?=w.heap[j]?):Q0w tab.ty (fun _=>False) w' 3 (.int .i64) xs c B:=by
  have key:∀ {xs:List Int} {cs:List Value},Q1 tab.ty S w (.int .i64) xs cs→Q1 tab.ty (fun _=>False) w' (.int .i64) xs cs:=by
    intro xs
    induction xs with
    | nil=>intro cs h;exact h
    | cons x r ih=>intro cs h;obtain ⟨c,cr,hc,h1,h2⟩:=h;exact ⟨c,cr,hc,h1,ih h2⟩
  obtain ⟨h0,⟨cells,hr,hc⟩,hb⟩:=h
  subst hb
  refine ⟨h0,⟨cells,⟨hr.1,?_⟩,key hc⟩,rfl⟩
  rcases hr.2 with hn | ⟨g,cap,cur,rfl,hg,hh',rest⟩
  · exact .inl hn
  · exact .inr ⟨g,cap,cur,rfl,hg,(hk g (by simp [blk])).trans hh',rest⟩
theorem X8h {w:World} {x:List Int × Int} {c:Value} {Bc:List Nat} (hx:Q0w tab.ty (fun _=>False) w 3 (.int .i64) x.1 c Bc):∀ {xs:List (List Int × Int)} {cs:List Value} {B:List Nat},Xs tab.ty 3 w xs cs B→Xs tab.ty 3 w (xs++[x]) (cs++[c,Value.int .i64 x.2]) (B++Bc)
  | [],cs,B,h=>by
    obtain ⟨rfl,rfl⟩:=h
    exact ⟨c,[],Bc,[],rfl,(List.append_nil _).symm,hx,rfl,rfl⟩
  | y::r,cs,B,h=>by
    obtain ⟨d,cr,B1,B2,rfl,rfl,h1,h2⟩:=h
    exact ⟨d,_,B1,_,rfl,(List.append_assoc ..),h1,X8h hx h2⟩
def Zx6 (S:Nat→Prop) (w:World):List (List Int × Int)→List Value→Prop
  | [],cs=>cs=[]
  | x::r,cs=>∃ c cr,cs=c::Value.int .i64 x.2::cr∧Rep tab.ty S w (.sl 3 (.int .i64)) x.1 [c]∧Zx6 S w r cr
theorem Zx6.of {S:Nat→Prop} {w:World}:∀ {xs:List (List Int × Int)} {cs:List Value},Q1 tab.ty S w t91 xs cs→Zx6 S w xs cs
  | [],cs,h=>h
  | x::r,cs,h=>by
    obtain ⟨ce,cr,rfl,hrep,h2⟩:=h
    obtain ⟨c1,c2,rfl,hr1,hr2⟩:=hrep
    have hc2:c2=[Value.int .i64 x.2]:=hr2
    subst hc2
    obtain ⟨A',c',e,hh⟩:=hr1
    subst e
    exact ⟨_,cr,rfl,⟨A',c',rfl,hh⟩,Zx6.of h2⟩
theorem Zx6.to {S:Nat→Prop} {w:World}:∀ {xs:List (List Int × Int)} {cs:List Value},Zx6 S w xs cs→Q1 tab.ty S w t91 xs cs
  | [],cs,h=>h
  | x::r,cs,h=>by
    obtain ⟨c,cr,rfl,h1,h2⟩:=h
    exact ⟨[c,Value.int .i64 x.2],cr,rfl,⟨[c],[Value.int .i64 x.2],rfl,h1,rfl⟩,Zx6.to h2⟩
theorem Zx6.frame {S S':Nat→Prop} {w w':World} (hS:∀ q,S q→S' q) (hsz:w.heap.size≤w'.heap.size) (hk:∀ q,S q→q<w.heap.size→w'.heap[q]?=w.heap[q]?):∀ {xs:List (List Int × Int)} {cs:List Value},Zx6 S w xs cs→Zx6 S' w' xs cs
  | [],cs,h=>h
  | x::r,cs,h=>by
    obtain ⟨c,cr,rfl,h1,h2⟩:=h
    exact ⟨c,cr,rfl,Rep.frame (t:=.sl 3 (.int .i64)) hS hsz hk h1,Zx6.frame hS hsz hk h2⟩
theorem Xag {w:World} {eT:TypeId} {sz n:Nat} {g n' cp i:Nat} {cells:List Value} {u:Value} (h:w.ownsRow 0 eT sz (.slice (some ⟨g,0,none⟩) n' cp) n cells) (hi:i<cells.length) :
    (w.setCell ⟨g,i,none⟩ u).ownsRow 0 eT sz (.slice (some ⟨g,0,none⟩) n' cp) n (cells.set i u):=by
  refine ⟨by rw [List.length_set];exact h.1,?_⟩
  rcases h.2 with ⟨e,_⟩ | ⟨g2,cap,cur,e,hg,hh,h1,h2,h3,h4⟩
  · cases e
  · injection e with e e2 e3
    have hgg:g=g2:=by injection e with e;injection e
    subst hgg
    have hcl:cells.length≤cur.size:=by rw [← h4,List.length_take,Array.length_toList];omega
    refine .inr ⟨g,cap,cur.setIfInBounds i u,by rw [e2,e3],hg,?_,h1,h2,by simpa using h3,?_⟩
    · obtain ⟨hlt2,hk2⟩:=Array.getElem?_eq_some_iff.1 hh
      show (w.heap.modify g _)[g]?=_
      rw [Array.getElem?_eq_getElem (by rw [Array.size_modify];exact hlt2),Array.getElem_modify_self,hk2]
      rfl
    · rw [← h4,Array.toList_setIfInBounds,List.take_set]
def Xck:Value→Nat
  | .int _ m=>m.toNat
  | _=>0
set_option maxHeartbeats 4000000 in
set_option maxRecDepth 1000000 in
theorem Xcu (w:World) (S:Nat→Prop) (xs:List (List Int × Int)) (v:Value) (hS:∀ k,S k→k<w.heap.size) (hr:Rep tab.ty S w t88 xs [v]) (hl:xs.length≤1073741824) (hx:∀ x∈xs,x.1.length≤1073741824) :
    Calls Tryz.prog 195 #[v] w fun e w'=>∃ v' cells B,e=.returned v'∧w'.ownsRow 0 91 2 v' xs.length cells∧Xs tab.ty 3 w' xs cells B∧((blk v').toList++B).Nodup∧(∀ j∈(blk v').toList++B,w.heap.size≤j∧j<w'.heap.size)∧Fr (fun _=>False) w w':=by
  have hcl:Qnw xs=some ((xs,()),()):=by unfold Qnw;rw [show Nat.ble xs.length 1073741824=true from Q2.2 hl];rfl
  have hcc:=X8k Qq7 hS hr hcl
  go_enter Tryz.func195,Tryz.ntmps195
  go_wp2_with (go_at_call 92;refine hcc.mono ?_)
  rintro e W1 ⟨v1,S1,rfl,hrow,hblk,hS1,hS1b,f1⟩
  obtain ⟨h0,⟨cells,hown,hrc⟩,_⟩:=hrow
  obtain ⟨A,n,cp,rfl⟩:=Zz hown
  have hown:W1.ownsRow 0 91 2 (.slice A n cp) xs.length cells:=hown
  have hrc:=Zx6.of hrc
  go_wp2
  have hn:n=xs.length∧n≤maxLen:=by
    rcases hown.2 with ⟨e5,e6⟩ | ⟨g,cap,cur,e5,_,_,e6,e7,_⟩
    · injection e5 with _ e5 _;exact ⟨by omega,by rw [e5];simp [maxLen]⟩
    · injection e5 with _ e5 _;exact ⟨e5,by omega⟩
  obtain ⟨hnx,hnm⟩:=hn
  subst hnx
  have hblkS:∀ j,blk (Value.slice A xs.length cp)=some j→¬ S1 j:=fun j hj=>(hblk j hj).1
  go_loopw [9] (fun i wr=>∃ (k:Nat) (pre post:List Value) (B:List Nat),k≤xs.length∧i=.int .i64 (k:Int)∧wr.ownsRow 0 91 2 (.slice A xs.length cp) xs.length (pre++post)∧Xs tab.ty 3 wr (xs.take k) pre B ∧
      Zx6 S1 wr (xs.drop k) post∧((blk (.slice A xs.length cp)).toList++B).Nodup∧(∀ j∈B,W1.heap.size≤j∧j<wr.heap.size)∧Fr (fun j=>blk (.slice A xs.length cp)=some j) W1 wr) (fun i wr=>xs.length - Xck i)
  case atStart=>
    refine ⟨0,[],cells,[],Nat.zero_le _,rfl,hown,⟨rfl,rfl⟩,hrc,?_,by simp,Fr.refl _ _⟩
    cases blk (Value.slice A xs.length cp)<;>simp
  case round=>
    obtain ⟨k,pre,post,B,hk,rfl,hown2,htw,hrc2,hnd,hB,hfr⟩:=hrel
    by_cases hlt:k<xs.length
    · have hkl:k<xs.length:=by omega
      obtain ⟨g,rfl⟩:∃ g,A=some ⟨g,0,none⟩:=by
        rcases hown2.2 with ⟨_,h0⟩ | ⟨g,cap,cur,e5,_⟩
        · omega
        · injection e5 with e5 _ _;exact ⟨g,e5⟩
      obtain ⟨cap,cur,e5,hh,hcap,hcm,hcs,htk⟩:=Q5n hown2 (b:=g) rfl
      have hdrop:xs.drop k=xs[k]::xs.drop (k+1):=by rw [List.drop_eq_getElem_cons hkl]
      rw [hdrop] at hrc2
      obtain ⟨hd,cr,hce,hrep,hrc3⟩:=hrc2
      subst hce
      obtain ⟨Ah,ch,ehd,_⟩:=id hrep
      obtain ⟨rfl,_⟩:=List.cons.inj ehd
      have hpl:pre.length=k*2:=by
        rw [htw.length,List.length_take,Nat.min_eq_left (by omega)]
      have hg0:g<W1.heap.size:=(hblk g rfl).2.1
      have hcur:∀ (j:Nat) (u:Value),j<2→([Value.slice Ah xs[k].1.length ch,Value.int .i64 xs[k].2]:List Value)[j]?=some u→cur[k*2+j]?=some u:=fun j u hj hu=>by
        have e1:(pre++Value.slice Ah xs[k].1.length ch::Value.int .i64 xs[k].2::cr)[k*2+j]?=([Value.slice Ah xs[k].1.length ch,Value.int .i64 xs[k].2]:List Value)[j]?:=by
          rw [List.getElem?_append_right (by omega),hpl,show k*2+j - k*2=j by omega]
          match j,hj with
          | 0,_=>rfl
          | 1,_=>rfl
        have htk':cur.toList.take (xs.length*2)=pre++Value.slice Ah xs[k].1.length ch::Value.int .i64 xs[k].2::cr:=htk
        rw [← hu,← e1,← htk',List.getElem?_take,if_pos (by omega),Array.getElem?_toList]
      have hc0:wr.cell? ⟨g,k*2,none⟩=some (.slice Ah xs[k].1.length ch):=by
        have:=hcur 0 _ (by omega) rfl
        rw [Nat.add_zero] at this
        simp [World.cell?,hh,this]
      have hc1:wr.cell? ⟨g,k*2+1,none⟩=some (.int .i64 xs[k].2):=by
        have:=hcur 1 _ (by omega) rfl
        simp [World.cell?,hh,this]
      have hlt':(k:Int)<(xs.length:Int):=by omega
      have hgS:¬ S1 g:=(hblk g rfl).1
      have hgw:g<wr.heap.size:=(Array.getElem?_eq_some_iff.1 hh).1
      have hsz0:W1.heap.size≤wr.heap.size:=hfr.size
      have hci:Qkp xs[k].1=some ((xs[k].1,()),()):=by unfold Qkp;rw [show Nat.ble xs[k].1.length 1073741824=true from Q2.2 (hx _ (List.getElem_mem _))];rfl
      have hci2:=X8k (S:=S1) (w:=wr.alloc (.cells #[.slice Ah xs[k].1.length ch,.int .i64 xs[k].2] 91)) (xs:=xs[k].1) (v:=.slice Ah xs[k].1.length ch) Qk5
        (fun q hq=>by have:=(hS1b q hq).1;simp;omega)
        (Rep.frame (t:=.sl 3 (.int .i64)) (fun _ h=>h) (by simp) (fun q hq hql=>RowKit.Below.heap_alloc wr _ q hql) hrep) hci
      go_wp2_with (go_at_call 83;refine hci2.mono ?_)
      rintro e W2 v2 rfl S2 hrow2 hb2 hS2 hS2b f2
      obtain ⟨A2,n2,c2,rfl⟩:∃ A n c,v2=.slice A n c:=by
        obtain ⟨_,⟨_,ho,_⟩,_⟩:=hrow2;exact Zz ho
      have fa:Fr (fun _=>False) wr W2:=(Fr.alloc _ wr _).trans f2
      have hh2:W2.heap[g]?=some (.cells cur 91 (0,0)):=(fa.block hgw (fun x=>x)).trans hh
      have hc0':W2.cell? ⟨g,k*2,none⟩=some (.slice Ah xs[k].1.length ch):=by
        have:=hcur 0 _ (by omega) rfl
        rw [Nat.add_zero] at this
        simp [World.cell?,hh2,this]
      have hfz:W2.frozen? ⟨g,k*2,none⟩=false:=by simp [World.frozen?,hh2]
      go_wp2
      go_roundw
      case rel=>
        have hb2':∀ q,blk (Value.slice A2 n2 c2)=some q→wr.heap.size<q∧q<W2.heap.size:=fun q hq=>by
          have:=hb2 q hq
          exact ⟨by omega,this.2.1⟩
        have hW2:wr.heap.size≤W2.heap.size:=fa.size
        have hset:∀ q,q≠g→(W2.setCell ⟨g,k*2,none⟩ (.slice A2 n2 c2)).heap[q]?=W2.heap[q]?:=fun q hq=>RowKit.Below.heap_setCell W2 _ _ q hq
        have hBg:∀ q∈B,q≠g:=fun q hq e=>by
          subst e
          have:([q]++B).Nodup:=hnd
          simp at this
          exact this.1 hq
        refine ⟨k+1,pre++[.slice A2 n2 c2,.int .i64 xs[k].2],cr,B++(blk (Value.slice A2 n2 c2)).toList,hkl,by simp,?_,?_,?_,?_,?_,?_⟩
        · have hownW2:W2.ownsRow 0 91 2 (.slice (some ⟨g,0,none⟩) xs.length cp) xs.length (pre++Value.slice Ah xs[k].1.length ch::Value.int .i64 xs[k].2::cr):=by
            refine ⟨hown2.1,?_⟩
            rcases hown2.2 with ⟨e,_⟩ | ⟨g2,cap2,cur2,e,hg2,hh3,r1,r2,r3,r4⟩
            · cases e
            · have hgg:g=g2:=by injection e with e;injection e with e;injection e
              subst hgg
              exact .inr ⟨g,cap2,cur2,e,hg2,(fa.block hgw (fun x=>x)).trans hh3,r1,r2,r3,r4⟩
          have:=Xag (i:=k*2) (u:=.slice A2 n2 c2) hownW2 (by simp [hpl])
          rw [List.set_append_right _ _ (by omega),hpl,Nat.sub_self] at this
          simpa using this
        · have h1:=htw.move (w':=W2.setCell ⟨g,k*2,none⟩ (.slice A2 n2 c2)) (fun q hq=>by
            rw [hset q (hBg q hq),fa.block (hB q hq).2 (fun x=>x)])
          have h2:Q0w tab.ty (fun _=>False) (W2.setCell ⟨g,k*2,none⟩ (.slice A2 n2 c2)) 3 (.int .i64) xs[k].1 (.slice A2 n2 c2) (blk (Value.slice A2 n2 c2)).toList:=Xbl hrow2 (fun q hq=>by
            have:=hb2' q (by simpa using hq)
            exact hset q (by omega))
          have h3:=X8h (x:=xs[k]) h2 h1
          rw [List.take_succ_eq_append_getElem hkl]
          exact h3
        · refine hrc3.frame (fun _ h=>h) (by simp;omega) (fun q hq hql=>?_)
          rw [hset q (fun e=>hgS (by rw [← e];exact hq)),fa.block hql (fun x=>x)]
        · have h1:([g]++B).Nodup:=hnd
          show ([g]++(B++(blk (Value.slice A2 n2 c2)).toList)).Nodup
          rw [← List.append_assoc]
          refine List.nodup_append.2 ⟨h1,by cases blk (Value.slice A2 n2 c2)<;>simp,fun q hq q' hq' e=>?_⟩
          subst e
          have:=hb2' q (by simpa using hq')
          rcases List.mem_append.1 hq with h | h
          · have:q=g:=by simpa using h
            omega
          · have:=(hB q h).2
            omega
        · intro q hq
          rcases List.mem_append.1 hq with hq | hq
          · have:=hB q hq
            exact ⟨this.1,by simp;omega⟩
          · have:=hb2' q (by simpa using hq)
            exact ⟨by omega,by simp;omega⟩
        · refine (hfr.trans' fa (fun _ _ x=>x.elim)).trans' (Fr.setCell W2 _ _) (fun q _ hq=>?_)
          have hq:q=g:=hq
          rw [hq];rfl
      case measure=>simp [Xck];omega
    · have hlt':¬ (k:Int)<(xs.length:Int):=by omega
      go_wp2
      go_ret
      rw [List.drop_eq_nil_of_le (by omega)] at hrc2
      have hrc2:post=[]:=hrc2
      subst hrc2
      rw [List.append_nil] at hown2
      rw [List.take_of_length_le (by omega)] at htw
      refine ⟨_,rfl,pre,hown2,B,htw,hnd,fun j hj=>?_,?_⟩
      · rcases hj with hj | hj
        · have:=hblk j hj
          exact ⟨this.2.2,Nat.lt_of_lt_of_le this.2.1 hfr.size⟩
        · exact ⟨Nat.le_trans f1.size (hB j hj).1,(hB j hj).2⟩
      · exact f1.trans' hfr (fun j h1 h2=>absurd (hblk j h2).2.2 (by omega))
theorem Zyk:Qiq Tryz.prog tab.ty 195 91 3:=⟨⟨_,Tryz.func195,by kernel_rfl,by kernel_rfl⟩,fun w S xs v hS hr hl hx=>Xcu w S xs v hS hr hl hx⟩
end
noncomputable def X8u:Ctx:=[(250,Zy7)]
def X5e:Fi:={ keep:=[],vty:=[(9,44),(16,26)],vals:=[],live:=[(0,[0,1,2,6]),(1,[0,1,6,9,10,11]),(2,[0,1,6,9,10,11,12]),(3,[0,1,6,8,9,10,11]),(4,[0,1,6,9,10,11]),(5,[0,1,6,9,10,11]),(6,[6])] }
noncomputable def Xbs (x:PDs [.val t26,.val t2,.val t44]):Option (RDs [⟨t2,[false],none⟩] × ODs [.val t26,.val t2,.val t44]):=Qdf X8u tab X5e 1099511627776 [.val t26,.val t2,.val t44] [⟨t2,[false],none⟩] Tryz.f273 x
noncomputable def Xaf (x0:List (List Int)) (x1:Int) (x2:List Int):Option ((Int × Unit) × Unit):=Xbs (x0,x1,x2,())
noncomputable def X1o:Ent:=⟨[.val t26,.val t2,.val t44],[⟨t2,[false],none⟩],fun x=>Xaf x.1 x.2.1 x.2.2.1⟩
theorem Zyn:Q4j tab.ty Tryz.prog 273 X1o:=by
  refine Qjd (Γ:=X8u) (fi:=X5e) (n:=1099511627776) follows (Qjq Zv1 Qju) Qjz Tryz.func273 (by kernel_rfl) (by kernel_rfl) (fun x r h=>?_)
  obtain ⟨x0,x1,x2,_u⟩:=x
  exact h
noncomputable def X1n (x_0:Int) (x_1:List (List Int)) (x_2:List Int):Option ((Int × Bool × Unit) × Unit):=
 Option.bind (Xaf x_1 x_0 x_2) fun r1=>
 some ((r1.1.1,true,()),())
noncomputable def Zue:Ent:=⟨[.val t2,.rbox t26,.rbox t44],[⟨t2,[false],none⟩,⟨t4,[false],none⟩],fun x=>X1n x.1 x.2.1 x.2.2.1⟩
theorem X0k:Q4j tab.ty Tryz.prog 272 Zue:=
 Qjd (Γ:=[(273,X1o)]) (fi:={ keep:=[],vty:=[],vals:=[],live:=[(0,[0,1,2]),(1,[4,5])] }) (n:=1) follows (Qjq Zyn Qju) Qjz Tryz.func272 (by kernel_rfl) (by kernel_rfl) fun x r h=>Eq.trans (by kernel_rfl) h
noncomputable def Xbo (d_0:List (List Int)) (l_1:List Int):Option ((Int × Unit) × Unit):=
 Option.bind (X3y l_1 (fun x=>(X1n x.1 d_0 l_1).bind fun r=>some (r.1.1,r.1.2.1,()))) fun r1=>
 some ((r1.1.1,()),())
noncomputable def X9l:Ent:=⟨[.val t26,.val t44],[⟨t2,[false],none⟩],fun x=>Xbo x.1 x.2.1⟩
theorem X9f:Q4j tab.ty Tryz.prog 242 X9l:=
 Qjd (Γ:=[(248,Ztx),(272,Zue)]) (fi:={ keep:=[],vty:=[],vals:=[],live:=[(0,[2,3]),(1,[4])] }) (n:=1) follows (Qjq Zst (Qjq X0k Qju)) Qjz Tryz.func242 (by kernel_rfl) (by kernel_rfl) fun x r h=>Eq.trans (by kernel_rfl) h
noncomputable def Xct (d_0:List (List Int)) (l_1:List Int):Option ((Qq3 × Unit) × Unit):=
 Option.bind (Qkp l_1) fun r1=>
 Option.bind (Xbo d_0 l_1) fun r2=>
 some (((r1.1.1,r2.1.1),()),())
noncomputable def Zo2:Ent:=⟨[.val t26,.val t44],[⟨t90,[true,false],none⟩],fun x=>Xct x.1 x.2.1⟩
theorem Zfn:Q4j tab.ty Tryz.prog 196 Zo2:=
 Qjd (Γ:=[(83,Qk9),(242,X9l)]) (fi:={ keep:=[],vty:=[],vals:=[],live:=[(0,[0,1,4]),(1,[4])] }) (n:=1) follows (Qjq Qk5 (Qjq X9f Qju)) Qjz Tryz.func196 (by kernel_rfl) (by kernel_rfl) fun x r h=>Eq.trans (by kernel_rfl) h
noncomputable def Zuk (c_0:(List Int) × Int) (x_1:Int):Option ((Bool × Unit) × Unit):=
 Option.bind (Qos c_0.1 x_1) fun r1=>
 some ((r1.1.1,()),())
noncomputable def Znm:Ent:=⟨[.val t90,.rbox t2],[⟨t4,[false],none⟩],fun x=>Zuk x.1 x.2.1⟩
theorem Zvc:Q4j tab.ty Tryz.prog 243 Znm:=
 Qjd (Γ:=[(161,Qlv)]) (fi:={ keep:=[],vty:=[],vals:=[],live:=[(0,[1,2]),(1,[3])] }) (n:=1) follows (Qjq Qlx Qju) Qjz Tryz.func243 (by kernel_rfl) (by kernel_rfl) fun x r h=>Eq.trans (by kernel_rfl) h
noncomputable def Xbh (cs_0:List Qq3) (id_1:Int):Option ((Int × Unit) × Unit):=
 Option.bind (Qr4 cs_0 (fun x=>(Zuk x.1 id_1).bind fun r=>some (r.1.1,()))) fun r1=>
 some ((r1.1.1,()),())
noncomputable def Ztu:Ent:=⟨[.val t88,.val t2],[⟨t2,[false],none⟩],fun x=>Xbh x.1 x.2.1⟩
theorem Zsi:Q4j tab.ty Tryz.prog 197 Ztu:=
 Qjd (Γ:=[(191,Qmj),(243,Znm)]) (fi:={ keep:=[],vty:=[],vals:=[],live:=[(0,[0,3]),(1,[4])] }) (n:=1) follows (Qjq Qnl (Qjq Zvc Qju)) Qjz Tryz.func197 (by kernel_rfl) (by kernel_rfl) fun x r h=>Eq.trans (by kernel_rfl) h
noncomputable def Zgq:Ctx:=[]
def Zfh:Fi:={ keep:=[],vty:=[],vals:=[],live:=[(0,[0,2]),(1,[0,2,4]),(2,[0]),(3,[0,2]),(4,[0,2,8]),(5,[0,2]),(6,[0,2]),(7,[2])] }
noncomputable def Zy4 (x:PDs [.val Xar]):Option (RDs [⟨t2,[false],none⟩] × ODs [.val Xar]):=Qdf Zgq tab Zfh 1099511627776 [.val Xar] [⟨t2,[false],none⟩] Tryz.f283 x
noncomputable def X3u (x0:Int):Option ((Int × Unit) × Unit):=Zy4 (x0,())
noncomputable def Zxb:Ent:=⟨[.val Xar],[⟨t2,[false],none⟩],fun x=>X3u x.1⟩
theorem Xa1:Q4j tab.ty Tryz.prog 283 Zxb:=by
  refine Qjd (Γ:=Zgq) (fi:=Zfh) (n:=1099511627776) follows Qju Qjz Tryz.func283 (by kernel_rfl) (by kernel_rfl) (fun x r h=>?_)
  obtain ⟨x0,_u⟩:=x
  exact h
noncomputable def Ziq:Ctx:=[]
def Zer:Fi:={ keep:=[],vty:=[],vals:=[],live:=[(0,[0,2]),(1,[0,2,4]),(2,[0]),(3,[0,2]),(4,[0,2,8]),(5,[0,2]),(6,[0,2]),(7,[0,2,14]),(8,[0,2]),(9,[0,2]),(10,[2])] }
noncomputable def Zy2 (x:PDs [.val t12]):Option (RDs [⟨t2,[false],none⟩] × ODs [.val t12]):=Qdf Ziq tab Zer 1099511627776 [.val t12] [⟨t2,[false],none⟩] Tryz.f284 x
noncomputable def Zob (x0:Int):Option ((Int × Unit) × Unit):=Zy2 (x0,())
noncomputable def Zgn:Ent:=⟨[.val t12],[⟨t2,[false],none⟩],fun x=>Zob x.1⟩
theorem Zr3:Q4j tab.ty Tryz.prog 284 Zgn:=by
  refine Qjd (Γ:=Ziq) (fi:=Zer) (n:=1099511627776) follows Qju Qjz Tryz.func284 (by kernel_rfl) (by kernel_rfl) (fun x r h=>?_)
  obtain ⟨x0,_u⟩:=x
  exact h
noncomputable def Zjp (x_0:Int):Option ((Int × Unit) × Unit):=
 Option.bind (Zob x_0) fun r1=>
 some ((r1.1.1,()),())
noncomputable def Za8:Ent:=⟨[.val t12],[⟨t2,[false],none⟩],fun x=>Zjp x.1⟩
theorem Zdu:Q4j tab.ty Tryz.prog 245 Za8:=
 Qjd (Γ:=[(284,Zgn)]) (fi:={ keep:=[],vty:=[],vals:=[],live:=[(0,[0]),(1,[2]),(2,[2])] }) (n:=1) follows (Qjq Zr3 Qju) Qjz Tryz.func245 (by kernel_rfl) (by kernel_rfl) fun x r h=>Eq.trans (by kernel_rfl) h
noncomputable def Qz6 (x_0:Int):Option ((Bool × Unit) × Unit):=
 some ((x_0 != x_0,()),())
noncomputable def Zb2:Ent:=⟨[.val t2],[⟨t4,[false],none⟩],fun x=>Qz6 x.1⟩
theorem Ze2:Q4j tab.ty Tryz.prog 160 Zb2:=
 Qjd (Γ:=[]) (fi:={ keep:=[],vty:=[],vals:=[],live:=[(0,[0]),(1,[2])] }) (n:=1) follows Qju Qjz Tryz.func160 (by kernel_rfl) (by kernel_rfl) fun x r h=>Eq.trans (by kernel_rfl) h
noncomputable def X06 (x_0 y_1:Int):Option ((Bool × Unit) × Unit):=
 Option.bind (Qz6 x_0) fun r1=>
 bif r1.1.1 then
  Option.bind (Qz6 y_1) fun r2=>
  bif !r2.1.1 then
   some ((true,()),())
  else
   some ((decide (x_0<y_1),()),())
 else
  some ((decide (x_0<y_1),()),())
noncomputable def Z3j:Ent:=⟨[.val t2,.val t2],[⟨t4,[false],none⟩],fun x=>X06 x.1 x.2.1⟩
theorem Z2c:Q4j tab.ty Tryz.prog 280 Z3j:=
 Qjd (Γ:=[(160,Zb2)]) (fi:={ keep:=[],vty:=[],vals:=[],live:=[(0,[0,1,8,9,10,13,14,15]),(1,[4])] }) (n:=1) follows (Qjq Ze2 Qju) Qjz Tryz.func280 (by kernel_rfl) (by kernel_rfl) fun x r h=>Eq.trans (by kernel_rfl) h
noncomputable def Qpo:Ctx:=[(280,Z3j)]
def Qp5:Fi:={ keep:=[],vty:=[(20,44),(24,44),(33,44),(35,44),(38,44),(43,44)],vals:=[],live:=[(0,[0,1,2,6,20,21,22,23,24,25,26,27,28,29]),(1,[0,1,2,6,12,20,21,22,23,24,25,26,27,28,29]),(2,[0,1,2,6,20,21,22,23,24,25,26,27,28,29]),(3,[0,1,2,6,7,20,21,22,23,24,25,26,27,28,29]),(4,[0,1,2,6,7,20,21,22,23,24,25,26,27,28,29,30]),(5,[0,1,2,6,7,20,21,22,23,24,25,26,27,28,29]),(6,[0,1,2,6,7,20,21,22,23,24,25,26,27,28,29])] }
noncomputable def Qyw (x:PDs [.io 3 t2,.val t2,.val t2]):Option (RDs [] × ODs [.io 3 t2,.val t2,.val t2]):=Qdf Qpo tab Qp5 1099511627776 [.io 3 t2,.val t2,.val t2] [] Tryz.f274 x
noncomputable def Z2d (x0:List Int) (x1:Int) (x2:Int):Option (Unit × (List Int × Unit)):=Qyw (x0,x1,x2,())
noncomputable def Qpr:Ent:=⟨[.io 3 t2,.val t2,.val t2],[],fun x=>Z2d x.1 x.2.1 x.2.2.1⟩
theorem Qw8:Q4j tab.ty Tryz.prog 274 Qpr:=by
  refine Qjd (Γ:=Qpo) (fi:=Qp5) (n:=1099511627776) follows (Qjq Z2c Qju) Qjz Tryz.func274 (by kernel_rfl) (by kernel_rfl) (fun x r h=>?_)
  obtain ⟨x0,x1,x2,_u⟩:=x
  exact h
noncomputable def Zqa (length_0:Int):Option ((Int × Unit) × Unit):=
 Option.bind (Zjp (IntKind.wrap .u64 length_0)) fun r1=>
 bif decide (0≤r1.1.1) then
  some ((IntKind.wrap .u64 (1*2 ^ (min r1.1.1.toNat 64)),()),())
 else none
noncomputable def Zkg:Ent:=⟨[.val t2],[⟨t12,[false],none⟩],fun x=>Zqa x.1⟩
theorem X4h:Q4j tab.ty Tryz.prog 307 Zkg:=
 Qjd (Γ:=[(245,Za8)]) (fi:={ keep:=[],vty:=[],vals:=[],live:=[(0,[0]),(1,[2])] }) (n:=1) follows (Qjq Zdu Qju) Qjz Tryz.func307 (by kernel_rfl) (by kernel_rfl) fun x r h=>Eq.trans (by kernel_rfl) h
noncomputable def Z17:Ctx:=[]
def Z0m:Fi:={ keep:=[],vty:=[],vals:=[],live:=[(0,[0]),(1,[0]),(2,[0]),(3,[0]),(4,[0,2])] }
noncomputable def Zn9 (x:PDs [.box 312 t12 [false]]):Option (RDs [⟨t12,[false],none⟩] × ODs [.box 312 t12 [false]]):=Qdf Z17 tab Z0m 1099511627776 [.box 312 t12 [false]] [⟨t12,[false],none⟩] Tryz.f308 x
noncomputable def Zrq (x0:Int):Option ((Int × Unit) × (Int × Unit)):=Zn9 (x0,())
noncomputable def Zmj:Ent:=⟨[.box 312 t12 [false]],[⟨t12,[false],none⟩],fun x=>Zrq x.1⟩
theorem X54:Q4j tab.ty Tryz.prog 308 Zmj:=by
  refine Qjd (Γ:=Z17) (fi:=Z0m) (n:=1099511627776) follows Qju Qjz Tryz.func308 (by kernel_rfl) (by kernel_rfl) (fun x r h=>?_)
  obtain ⟨x0,_u⟩:=x
  exact h
noncomputable def Qna (data_0:List Int) (a_1 b_2 swaps_3:Int):Option ((Int × Int × Unit) × (Int × Unit)):=
 bif decide (0≤b_2)&&decide (b_2<(data_0.length:Int)) then
  bif decide (0≤a_1)&&decide (a_1<(data_0.length:Int)) then
   Option.bind (X06 (List.getD data_0 b_2.toNat 0) (List.getD data_0 a_1.toNat 0)) fun r1=>
   bif r1.1.1 then
    some ((b_2,a_1,()),(IntKind.wrap .i64 (swaps_3+1),()))
   else
    some ((a_1,b_2,()),(swaps_3,()))
  else none
 else none
noncomputable def Qva:Ent:=⟨[.val t44,.val t2,.val t2,.box 3 t2 [false]],[⟨t2,[false],none⟩,⟨t2,[false],none⟩],fun x=>Qna x.1 x.2.1 x.2.2.1 x.2.2.2.1⟩
theorem Z67:Q4j tab.ty Tryz.prog 317 Qva:=
 Qjd (Γ:=[(280,Z3j)]) (fi:={ keep:=[],vty:=[],vals:=[],live:=[(0,[3,0,1,2]),(1,[3,1,2,18]),(2,[3,1,2]),(3,[3,8,9]),(4,[3,8,9])] }) (n:=1) follows (Qjq Z2c Qju) Qjz Tryz.func317 (by kernel_rfl) (by kernel_rfl) fun x r h=>Eq.trans (by kernel_rfl) h
noncomputable def Qxw (data_0:List Int) (a_1 b_2 c_3 swaps_4:Int):Option ((Int × Unit) × (Int × Unit)):=
 Option.bind (Qna data_0 a_1 b_2 swaps_4) fun r1=>
 Option.bind (Qna data_0 r1.1.2.1 c_3 r1.2.1) fun r2=>
 Option.bind (Qna data_0 r1.1.1 r2.1.1 r2.2.1) fun r3=>
 some ((r3.1.2.1,()),(r3.2.1,()))
noncomputable def Qp8:Ent:=⟨[.val t44,.val t2,.val t2,.val t2,.box 3 t2 [false]],[⟨t2,[false],none⟩],fun x=>Qxw x.1 x.2.1 x.2.2.1 x.2.2.2.1 x.2.2.2.2.1⟩
theorem Qsl:Q4j tab.ty Tryz.prog 310 Qp8:=
 Qjd (Γ:=[(317,Qva)]) (fi:={ keep:=[],vty:=[],vals:=[],live:=[(0,[4,0,1,2,3]),(1,[4,0,1,2,3]),(2,[4,0,1,2]),(3,[4,2]),(4,[4,10])] }) (n:=1) follows (Qjq Z67 Qju) Qjz Tryz.func310 (by kernel_rfl) (by kernel_rfl) fun x r h=>Eq.trans (by kernel_rfl) h
noncomputable def Z0y (data_0:List Int) (a_1 swaps_2:Int):Option ((Int × Unit) × (Int × Unit)):=
 Option.bind (Qxw data_0 (IntKind.wrap .i64 (a_1 - 1)) a_1 (IntKind.wrap .i64 (a_1+1)) swaps_2) fun r1=>
 some ((r1.1.1,()),(r1.2.1,()))
noncomputable def Qp4:Ent:=⟨[.val t44,.val t2,.box 3 t2 [false]],[⟨t2,[false],none⟩],fun x=>Z0y x.1 x.2.1 x.2.2.1⟩
theorem Qvf:Q4j tab.ty Tryz.prog 309 Qp4:=
 Qjd (Γ:=[(310,Qp8)]) (fi:={ keep:=[],vty:=[],vals:=[],live:=[(0,[2,0,1]),(1,[2,6])] }) (n:=1) follows (Qjq Qsl Qju) Qjz Tryz.func309 (by kernel_rfl) (by kernel_rfl) fun x r h=>Eq.trans (by kernel_rfl) h
noncomputable def Qqq:Ctx:=[(309,Qp4),(310,Qp8)]
def Qq8:Fi:={ keep:=[],vty:=[(35,44),(38,44),(41,44),(44,44)],vals:=[],live:=[(0,[0,1,2]),(1,[0,1,8]),(2,[0,1,8,9]),(3,[0,1,8,9,10]),(4,[0,1,8,9,10,11]),(5,[0,8,9,10,11,12]),(6,[0,8,9,10,11,12,32]),(7,[0,9,10,11,12,34]),(8,[0,9,10,11,12]),(9,[0,9,10,11,12]),(10,[0,9,10,11,12]),(11,[9,11]),(12,[11,49]),(13,[6,7]),(14,[11,49,51]),(15,[6,7]),(16,[11,54]),(17,[6,7])] }
noncomputable def Z2i (x:PDs [.val t44,.val t2,.val t2]):Option (RDs [⟨t2,[false],none⟩,⟨t2,[false],none⟩] × ODs [.val t44,.val t2,.val t2]):=Qdf Qqq tab Qq8 1099511627776 [.val t44,.val t2,.val t2] [⟨t2,[false],none⟩,⟨t2,[false],none⟩] Tryz.f277 x
noncomputable def Z68 (x0:List Int) (x1:Int) (x2:Int):Option ((Int × Int × Unit) × Unit):=Z2i (x0,x1,x2,())
noncomputable def Qqz:Ent:=⟨[.val t44,.val t2,.val t2],[⟨t2,[false],none⟩,⟨t2,[false],none⟩],fun x=>Z68 x.1 x.2.1 x.2.2.1⟩
theorem Qyn:Q4j tab.ty Tryz.prog 277 Qqz:=by
  refine Qjd (Γ:=Qqq) (fi:=Qq8) (n:=1099511627776) follows (Qjq Qvf (Qjq Qsl Qju)) Qjz Tryz.func277 (by kernel_rfl) (by kernel_rfl) (fun x r h=>?_)
  obtain ⟨x0,x1,x2,_u⟩:=x
  exact h
noncomputable def Quf:Ctx:=[(274,Qpr),(277,Qqz),(280,Z3j)]
def Qtf:Fi:={ keep:=[],vty:=[(24,44),(30,44),(36,44),(43,44),(51,44),(69,44),(76,44),(81,44),(88,44),(95,44),(117,44),(127,44)],vals:=[],live:=[(0,[0,1,2,3,8,63,66,67,76,77,78,79,80,81,82,83,84,85,86]),(1,[0,1,2,3,8,9,63,66,67,76,77,78,79,80,81,82,83,84,85,86]),(2,[0,1,2,3,8,9,10,63,66,67,76,77,78,79,80,81,82,83,84,85,86]),(3,[0,1,2,3,8,9,10,23,63,66,67,76,77,78,79,80,81,82,83,84,85,86]),(4,[0]),(5,[0,1,2,3,8,9,10,29,63,66,67,76,77,78,79,80,81,82,83,84,85,86]),(6,[0]),(7,[0,1,2,3,8,9,10,35,63,66,67,76,77,78,79,80,81,82,83,84,85,86]),(8,[0,1,2,3,8,9,10,63,66,67,76,77,78,79,80,81,82,83,84,85,86]),(9,[0,1,2,3,8,9,10,63,66,67,76,77,78,79,80,81,82,83,84,85,86]),(10,[0,1,2,3,8,9,10,11,12,63,66,67,76,77,78,79,80,81,82,83,84,85,86]),(11,[0,1,2,3,8,9,10,11,12,50,63,66,67,76,77,78,79,80,81,82,83,84,85,86]),(12,[0,1,2,3,8,9,10,11,63,66,67,76,77,78,79,80,81,82,83,84,85,86]),(13,[0,1,2,3,8,9,10,11,63,66,67,76,77,78,79,80,81,82,83,84,85,86]),(14,[0,1,2,3,8,9,10,11,12,63,66,67,76,77,78,79,80,81,82,83,84,85,86]),(15,[0,1,2,3,8,9,10,11,63,66,67,68,76,77,78,79,80,81,82,83,84,85,86]),(16,[0,1,2,3,8,9,10,11,63,66,67,72,76,77,78,79,80,81,82,83,84,85,86]),(17,[0,1,2,3,8,9,10,11,63,66,67,76,77,78,79,80,81,82,83,84,85,86,87]),(18,[0,2,3,8,9,13,63,66,67,76,77,78,79,80,81,82,83,84,85,86]),(19,[0,1,2,3,8,9,63,66,67,76,77,78,79,80,81,82,83,84,85,86]),(20,[0,1,2,3,10,14,15,63,66,67,76,77,78,79,80,81,82,83,84,85,86]),(21,[0,1,2,3,9,10,14,63,66,67,76,77,78,79,80,81,82,83,84,85,86]),(22,[0,1,2,3,9,10,14,16,17,63,66,67,76,77,78,79,80,81,82,83,84,85,86]),(23,[0,1,2,3,9,14,16,17,18,63,66,67,76,77,78,79,80,81,82,83,84,85,86]),(24,[0,1,2,3,9,14,16,17,18,63,66,67,76,77,78,79,80,81,82,83,84,85,86,113]),(25,[0,1,2,3,8,9,14,63,66,67,76,77,78,79,80,81,82,83,84,85,86]),(26,[0,2,3,8,9,14,63,66,67,76,77,78,79,80,81,82,83,84,85,86]),(27,[0,1,2,3,8,9,63,66,67,76,77,78,79,80,81,82,83,84,85,86]),(28,[0,1,2,3,8,9,14,63,66,67,76,77,78,79,80,81,82,83,84,85,86]),(29,[0,1,3,8,9,14,63,66,67,76,77,78,79,80,81,82,83,84,85,86]),(30,[0,1,2,3,8,9,63,66,67,76,77,78,79,80,81,82,83,84,85,86])] }
noncomputable def Zac (x:PDs [.io 3 t2,.val t2,.val t2,.val t2]):Option (RDs [] × ODs [.io 3 t2,.val t2,.val t2,.val t2]):=Qdf Quf tab Qtf 1099511627776 [.io 3 t2,.val t2,.val t2,.val t2] [] Tryz.f244 x
noncomputable def Qwh (x0:List Int) (x1:Int) (x2:Int) (x3:Int):Option (Unit × (List Int × Unit)):=Zac (x0,x1,x2,x3,())
noncomputable def Qtx:Ent:=⟨[.io 3 t2,.val t2,.val t2,.val t2],[],fun x=>Qwh x.1 x.2.1 x.2.2.1 x.2.2.2.1⟩
theorem Z42:Q4j tab.ty Tryz.prog 244 Qtx:=by
  refine Qjd (Γ:=Quf) (fi:=Qtf) (n:=1099511627776) follows (Qjq Qw8 (Qjq Qyn (Qjq Z2c Qju))) Qjz Tryz.func244 (by kernel_rfl) (by kernel_rfl) (fun x r h=>?_)
  obtain ⟨x0,x1,x2,x3,_u⟩:=x
  exact h
noncomputable def X2i (x_0:List Int):Option (Unit × (List Int × Unit)):=
 Option.bind (Zjp (IntKind.wrap .u64 (x_0.length:Int))) fun r1=>
 Option.bind (Qwh x_0 0 (x_0.length:Int) r1.1.1) fun r2=>
 some ((),(r2.2.1,()))
noncomputable def Qqv:Ent:=⟨[.io 3 t2],[],fun x=>X2i x.1⟩
theorem Qqd:Q4j tab.ty Tryz.prog 198 Qqv:=
 Qjd (Γ:=[(244,Qtx),(245,Za8)]) (fi:={ keep:=[],vty:=[],vals:=[],live:=[(0,[0,2]),(1,[0])] }) (n:=1) follows (Qjq Z42 (Qjq Zdu Qju)) Qjz Tryz.func198 (by kernel_rfl) (by kernel_rfl) fun x r h=>Eq.trans (by kernel_rfl) h
noncomputable def Xc2 (d_0:List (List Int)) (a_1 b_2:Int):Option ((Int × Unit) × Unit):=
 Option.bind (Xaf d_0 a_1 [b_2]) fun r1=>
 some ((r1.1.1,()),())
noncomputable def Zxs:Ent:=⟨[.val t26,.val t2,.val t2],[⟨t2,[false],none⟩],fun x=>Xc2 x.1 x.2.1 x.2.2.1⟩
theorem Zvb:Q4j tab.ty Tryz.prog 286 Zxs:=
 Qjd (Γ:=[(273,X1o)]) (fi:={ keep:=[],vty:=[],vals:=[],live:=[(0,[0,1,2]),(1,[6])] }) (n:=1) follows (Qjq Zyn Qju) Qjz Tryz.func286 (by kernel_rfl) (by kernel_rfl) fun x r h=>Eq.trans (by kernel_rfl) h
noncomputable def X2x:Ctx:=[(286,Zxs)]
def X08:Fi:={ keep:=[],vty:=[(12,44),(19,44),(28,26)],vals:=[],live:=[(0,[0,1,4,5]),(1,[0,1,4,5,6]),(2,[0,1,4,5,6,12,13,14]),(3,[0,1,4,5,6,12,13,14,15]),(4,[0,1,4,5,6,7,8,12,13,14]),(5,[0,1,4,5,6,8,12,13,14,22,23,24]),(6,[0,1,4,5,6,8,12,13,14,22,23,24,25]),(7,[0,1,4,5,6,8,10,12,13,14,22,23,24]),(8,[0,1,4,5,6,8,10,11,12,13,14,22,23,24]),(9,[0,1,4,5,6,8,10,11,12,13,14,22,23,24,34]),(10,[0,1,4,5,6,8,12,13,14,22,23,24]),(11,[0,1,4,5,6,8,12,13,14,22,23,24]),(12,[0,1,4,5,6,12,13,14]),(13,[4,5])] }
noncomputable def Xab (x:PDs [.val t26,.val t44]):Option (RDs [⟨t2,[false],none⟩,⟨t2,[false],none⟩] × ODs [.val t26,.val t44]):=Qdf X2x tab X08 1099511627776 [.val t26,.val t44] [⟨t2,[false],none⟩,⟨t2,[false],none⟩] Tryz.f285 x
noncomputable def Xbk (x0:List (List Int)) (x1:List Int):Option ((Int × Int × Unit) × Unit):=Xab (x0,x1,())
noncomputable def X24:Ent:=⟨[.val t26,.val t44],[⟨t2,[false],none⟩,⟨t2,[false],none⟩],fun x=>Xbk x.1 x.2.1⟩
theorem X4w:Q4j tab.ty Tryz.prog 285 X24:=by
  refine Qjd (Γ:=X2x) (fi:=X08) (n:=1099511627776) follows (Qjq Zvb Qju) Qjz Tryz.func285 (by kernel_rfl) (by kernel_rfl) (fun x r h=>?_)
  obtain ⟨x0,x1,_u⟩:=x
  exact h
abbrev Qlo:Type:=(Int × Unit) × Unit
noncomputable def Qt0:Ctx:=[]
def Qrz:Fi:={ keep:=[],vty:=[],vals:=[],live:=[(0,[0,1]),(1,[0,1,7,8]),(2,[0,1,7,8,9]),(3,[0,1,5,7,8]),(4,[0,1,5,7,8,16]),(5,[4]),(6,[0,1,7,8]),(7,[4])] }
abbrev Qse:Type:=List Int→(Int × Unit→Option (Bool × Unit))→Int→Int→Option Qlo
noncomputable def Qzt (L1:Qse) (v1:List Int) (v2:(Int × Unit→Option (Bool × Unit))) (v3 v4:Int):Option Qlo:=
 bif decide (v4<v3) then
  bif decide (0≤v4)&&decide (v4<(v1.length:Int)) then
   Option.bind (v2 (List.getD v1 v4.toNat 0,())) fun r5=>
   bif r5.1 then
    some ((v4,()),())
   else
    L1 v1 v2 v3 (IntKind.wrap .i64 (v4+1))
  else none
 else
  some (((-1),()),())
noncomputable def Z26 (L1:Qse) (s_0:List Int) (f_1:(Int × Unit→Option (Bool × Unit))):Option Qlo:=
 L1 s_0 f_1 (s_0.length:Int) 0
noncomputable def Z0h (n:Nat):Nat→Qse:=iter (fun _ _ _ _=>none) fun L=>Qzt L
noncomputable def Qnz (n m:Nat) (v1:List Int) (v2:(Int × Unit→Option (Bool × Unit))) (v3 v4:Int):Option Qlo:=
 Qjl Qt0 tab (fiB [.val t44,.fn [t2] [t4]] Qrz) n [.val t44,.fn [t2] [t4]] [⟨t2,[false],none⟩] Tryz.f251 [1,0,1,0] [] [0,1,7,8] m
 ⟨[(0,Vp t44 v1),(1,V1 (.clo [t2] [t4] v2)),(7,Vp t2 v3),(8,Vp t2 v4)],[]⟩
theorem Zct (n m:Nat):Qnz n (m+1)=Qzt (Qnz n m):=by kernel_rfl
theorem Qy0 (n:Nat):∀ m,Qnz n m=Z0h n m
 | 0=>rfl
 | m+1=>by rw [Zct n m,Qy0 n m];rfl
noncomputable def Z1k (n:Nat) (s_0:List Int) (f_1:(Int × Unit→Option (Bool × Unit))):Option Qlo:=Z26 (Z0h n n) s_0 f_1
noncomputable def Qvz (s_0:List Int) (f_1:(Int × Unit→Option (Bool × Unit))):Option Qlo:=Z1k 1099511627776 s_0 f_1
noncomputable def Qst:Ent:=⟨[.val t44,.fn [t2] [t4]],[⟨t2,[false],none⟩],fun x=>Qvz x.1 x.2.1⟩
theorem Zjv (n:Nat) (s_0:List Int) (f_1:(Int × Unit→Option (Bool × Unit))):Qdf Qt0 tab Qrz n [.val t44,.fn [t2] [t4]] [⟨t2,[false],none⟩] Tryz.f251 (s_0,f_1,())=Z1k n s_0 f_1:=Eq.trans (b:=Z26 (Qnz n n) s_0 f_1) (by kernel_rfl) (by rw [Qy0 n n];rfl)
theorem Qw9:Q4j tab.ty Tryz.prog 251 Qst:=
 Qjd (Γ:=Qt0) (fi:=Qrz) (n:=1099511627776) follows Qju Qjz Tryz.func251 (by kernel_rfl) (by kernel_rfl) fun x r h=>(Zjv 1099511627776 x.1 x.2.1).trans h
abbrev Qle:Type:=((List Int) × Unit) × Unit
noncomputable def Qrx:Ctx:=[(203,Qjc),(251,Qst)]
def Qqt:Fi:={ keep:=[],vty:=[],vals:=[],live:=[(0,[0,1]),(1,[0,1,5]),(2,[0,1,5,12]),(3,[4]),(4,[0,1,5,6]),(5,[0,1,5,6,19]),(6,[0,1,5,6]),(7,[0,1,5,6,7]),(8,[0,1,5,6,7,29]),(9,[0,1,5,6]),(10,[0,1,5,6]),(11,[0,5]),(12,[4])],melt:=[(11,1000000),(12,1000000)] }
abbrev Qqu:Type:=(Int × Unit→Option (Bool × Unit))→Int→Int→List Int→Option Qle
noncomputable def Qy5 (L1:Qqu) (v2:(Int × Unit→Option (Bool × Unit))) (v3 v4:Int) (v5:List Int):Option Qle:=
 bif decide (v4<(v5.length:Int)) then
  bif decide (0≤v4)&&decide (v4<(v5.length:Int)) then
   bif decide (0≤v4)&&decide (v4<(v5.length:Int)) then
    Option.bind (v2 (List.getD v5 v4.toNat 0,())) fun r6=>
    bif !r6.1 then
     bif decide (0≤v3)&&decide (v3<(v5.length:Int)) then
      bif decide (0≤v3)&&decide (v3<(v5.length:Int)) then
       L1 v2 (IntKind.wrap .i64 (v3+1)) (IntKind.wrap .i64 (v4+1)) (List.set v5 v3.toNat (List.getD v5 v4.toNat 0))
      else none
     else none
    else
     L1 v2 v3 (IntKind.wrap .i64 (v4+1)) v5
   else none
  else none
 else
 bif (decide (0≤v3)&&decide (v3≤((v5.length:Nat):Int)))&&decide (((v5.length:Nat):Int)≤(((List.map some v5).length:Nat):Int)) then
  bif Nat.ble ((0+v3.toNat)+((((v5.length:Nat):Int) - v3).toNat)) ((List.map some v5).length) then
   bif decide (0≤v3)&&decide (v3≤(((Q6 (List.map some v5) (0+v3.toNat) (List.replicate ((((v5.length:Nat):Int) - v3).toNat) (0:Int))).length:Nat):Int)) then
    bif Nat.ble ((v3 - 0).toNat) ((Q6 (List.map some v5) (0+v3.toNat) (List.replicate ((((v5.length:Nat):Int) - v3).toNat) (0:Int))).length) then
     Option.bind (Qd (List.take ((v3 - 0).toNat) (Q6 (List.map some v5) (0+v3.toNat) (List.replicate ((((v5.length:Nat):Int) - v3).toNat) (0:Int))))) fun z7=>
     some ((z7,()),())
    else none
   else none
  else none
 else none
noncomputable def Qzi (L1:Qqu) (s_0:List Int) (del_1:(Int × Unit→Option (Bool × Unit))):Option Qle:=
 Option.bind (Qvz s_0 del_1) fun r1=>
 bif r1.1.1==(-1) then
  some ((s_0,()),())
 else
  L1 del_1 r1.1.1 (IntKind.wrap .i64 (r1.1.1+1)) s_0
noncomputable def Qyl (n:Nat):Nat→Qqu:=iter (fun _ _ _ _=>none) fun L=>Qy5 L
noncomputable def Qni (n m:Nat) (v2:(Int × Unit→Option (Bool × Unit))) (v3 v4:Int) (v5:List Int):Option Qle:=
 Qjl Qrx tab (fiB [.own 3 t2,.fn [t2] [t4]] Qqt) n [.own 3 t2,.fn [t2] [t4]] [⟨t44,[true],none⟩] Tryz.f203 [1,1,1,0,1,0] [] [0,1,5,6] m
 ⟨[(0,V1 (.ref (888888,0))),(1,V1 (.clo [t2] [t4] v2)),(5,Vp t2 v3),(6,Vp t2 v4)],[((888888,0),Ob.row 3 t2 v5)]⟩
theorem Zb1 (n m:Nat):Qni n (m+1)=Qy5 (Qni n m):=by kernel_rfl
theorem Qwi (n:Nat):∀ m,Qni n m=Qyl n m
 | 0=>rfl
 | m+1=>by rw [Zb1 n m,Qwi n m];rfl
noncomputable def Qz0 (n:Nat) (s_0:List Int) (del_1:(Int × Unit→Option (Bool × Unit))):Option Qle:=Qzi (Qyl n n) s_0 del_1
noncomputable def Zp4 (s_0:List Int) (del_1:(Int × Unit→Option (Bool × Unit))):Option Qle:=Qz0 1099511627776 s_0 del_1
noncomputable def Qs3:Ent:=⟨[.own 3 t2,.fn [t2] [t4]],[⟨t44,[true],none⟩],fun x=>Zp4 x.1 x.2.1⟩
theorem Zin (n:Nat) (s_0:List Int) (del_1:(Int × Unit→Option (Bool × Unit))):Qdf Qrx tab Qqt n [.own 3 t2,.fn [t2] [t4]] [⟨t44,[true],none⟩] Tryz.f203 (s_0,del_1,())=Qz0 n s_0 del_1:=Eq.trans (b:=Qzi (Qni n n) s_0 del_1) (by kernel_rfl) (by rw [Qwi n n];rfl)
theorem Qv6:Q4j tab.ty Tryz.prog 203 Qs3:=
 Qjd (Γ:=Qrx) (fi:=Qqt) (n:=1099511627776) follows (Qjq (Qjr Tryz.func203 (by kernel_rfl) (by kernel_rfl)) (Qjq Qw9 Qju)) Qjz Tryz.func203 (by kernel_rfl) (by kernel_rfl) fun x r h=>(Zin 1099511627776 x.1 x.2.1).trans h
noncomputable def X71 (x_0 x_1:Int):Option ((Bool × Unit) × Unit):=
 some ((x_0==x_1,()),())
noncomputable def Zps:Ent:=⟨[.val t2,.rbox t2],[⟨t4,[false],none⟩],fun x=>X71 x.1 x.2.1⟩
theorem Zv6:Q4j tab.ty Tryz.prog 311 Zps:=
 Qjd (Γ:=[]) (fi:={ keep:=[],vty:=[],vals:=[],live:=[(0,[0,1]),(1,[3])] }) (n:=1) follows Qju Qjz Tryz.func311 (by kernel_rfl) (by kernel_rfl) fun x r h=>Eq.trans (by kernel_rfl) h
noncomputable def X6r (y_0 x_1:Int):Option ((Bool × Unit) × Unit):=
 some ((y_0==x_1,()),())
noncomputable def Zny:Ent:=⟨[.val t2,.rbox t2],[⟨t4,[false],none⟩],fun x=>X6r x.1 x.2.1⟩
theorem Zvi:Q4j tab.ty Tryz.prog 312 Zny:=
 Qjd (Γ:=[]) (fi:={ keep:=[],vty:=[],vals:=[],live:=[(0,[0,1]),(1,[3])] }) (n:=1) follows Qju Qjz Tryz.func312 (by kernel_rfl) (by kernel_rfl) fun x r h=>Eq.trans (by kernel_rfl) h
noncomputable def X25:Ctx:=[(83,Qk9),(161,Qlv),(198,Qqv),(200,Zqj),(203,Qs3),(311,Zps),(312,Zny)]
def Zzf:Fi:={ keep:=[],vty:=[(1,44),(2,44),(10,44),(11,44),(12,44),(14,44),(18,26),(20,44),(22,44),(26,44),(30,44),(35,44),(37,44),(38,44)],vals:=[],live:=[(0,[0,1,2,4,8]),(1,[0,1,2,4,12]),(2,[1,2,4,12,13]),(3,[1,2,4,13,24]),(4,[1,2,13]),(5,[1,2,13]),(6,[1,2]),(7,[1,2]),(8,[10,11])] }
noncomputable def Xaa (x:PDs [.val t26,.val t44,.val t44,.val t2,.val t2]):Option (RDs [⟨t44,[true],none⟩,⟨t44,[true],none⟩] × ODs [.val t26,.val t44,.val t44,.val t2,.val t2]):=Qdf X25 tab Zzf 1099511627776 [.val t26,.val t44,.val t44,.val t2,.val t2] [⟨t44,[true],none⟩,⟨t44,[true],none⟩] Tryz.f287 x
noncomputable def Xbu (x0:List (List Int)) (x1:List Int) (x2:List Int) (x3:Int) (x4:Int):Option (((List Int) × (List Int) × Unit) × Unit):=Xaa (x0,x1,x2,x3,x4,())
noncomputable def X40:Ent:=⟨[.val t26,.val t44,.val t44,.val t2,.val t2],[⟨t44,[true],none⟩,⟨t44,[true],none⟩],fun x=>Xbu x.1 x.2.1 x.2.2.1 x.2.2.2.1 x.2.2.2.2.1⟩
theorem X56:Q4j tab.ty Tryz.prog 287 X40:=by
  refine Qjd (Γ:=X25) (fi:=Zzf) (n:=1099511627776) follows (Qjq Qk5 (Qjq Qlx (Qjq Qqd (Qjq Zje (Qjq Qv6 (Qjq Zv6 (Qjq Zvi Qju))))))) Qjz Tryz.func287 (by kernel_rfl) (by kernel_rfl) (fun x r h=>?_)
  obtain ⟨x0,x1,x2,x3,x4,_u⟩:=x
  exact h
noncomputable def Zzw:Ctx:=[(83,Qk9),(285,X24),(286,Zxs),(287,X40)]
def Zuz:Fi:={ keep:=[],vty:=[(6,44),(7,44),(12,44),(15,44),(18,26),(19,44),(23,44),(37,26),(41,26),(48,44),(52,44),(57,44),(62,44),(68,26),(69,44),(70,44),(76,44),(81,44),(87,26),(88,44),(89,44),(95,44),(96,44)],vals:=[],live:=[(0,[0,1,2,6,7,33,34,35,36,37,38,39,40,41,42,43,44,45,46,62,63,64,65,81,82,83,84]),(1,[0,1,2,6,7,14,33,34,35,36,37,38,39,40,41,42,43,44,45,46,62,63,64,65,81,82,83,84]),(2,[6,7]),(3,[0,1,2,6,7,8,9,33,34,35,36,37,38,39,40,41,42,43,44,45,46,62,63,64,65,81,82,83,84]),(4,[0,2,6,7,8,9,23,24,25,33,34,35,36,37,38,39,40,41,42,43,44,45,46,62,63,64,65,81,82,83,84]),(5,[0,2,6,7,8,9,23,24,25,26,33,34,35,36,37,38,39,40,41,42,43,44,45,46,62,63,64,65,81,82,83,84]),(6,[0,2,6,7,8,9,11,23,24,25,33,34,35,36,37,38,39,40,41,42,43,44,45,46,62,63,64,65,81,82,83,84]),(7,[0,2,6,7,8,9,11,23,24,25,33,34,35,36,37,38,39,40,41,42,43,44,45,46,47,62,63,64,65,81,82,83,84]),(8,[0,2,6,7,8,9,23,24,25,33,34,35,36,37,38,39,40,41,42,43,44,45,46,62,63,64,65,81,82,83,84]),(9,[0,2,6,7,8,9,23,24,25,33,34,35,36,37,38,39,40,41,42,43,44,45,46,62,63,64,65,81,82,83,84]),(10,[0,2,6,7,8,9,23,24,25,33,34,35,36,37,38,39,40,41,42,43,44,45,46,62,63,64,65,81,82,83,84]),(11,[0,2,6,7,8,9,62,63,64,65,66,81,82,83,84]),(12,[0,2,6,7,8,9,62,63,64,65,81,82,83,84]),(13,[0,2,6,7,8,9,81,82,83,84,85]),(14,[0,2,6,7,8,9,81,82,83,84]),(15,[6,7])] }
noncomputable def X8j (x:PDs [.val t26,.val t44,.val t2]):Option (RDs [⟨t44,[true],none⟩,⟨t44,[true],none⟩] × ODs [.val t26,.val t44,.val t2]):=Qdf Zzw tab Zuz 1099511627776 [.val t26,.val t44,.val t2] [⟨t44,[true],none⟩,⟨t44,[true],none⟩] Tryz.f246 x
noncomputable def Xb8 (x0:List (List Int)) (x1:List Int) (x2:Int):Option (((List Int) × (List Int) × Unit) × Unit):=X8j (x0,x1,x2,())
noncomputable def Zyj:Ent:=⟨[.val t26,.val t44,.val t2],[⟨t44,[true],none⟩,⟨t44,[true],none⟩],fun x=>Xb8 x.1 x.2.1 x.2.2.1⟩
theorem X21:Q4j tab.ty Tryz.prog 246 Zyj:=by
  refine Qjd (Γ:=Zzw) (fi:=Zuz) (n:=1099511627776) follows (Qjq Qk5 (Qjq X4w (Qjq Zvb (Qjq X56 Qju)))) Qjz Tryz.func246 (by kernel_rfl) (by kernel_rfl) (fun x r h=>?_)
  obtain ⟨x0,x1,x2,_u⟩:=x
  exact h
noncomputable def Z3t:Ctx:=[(288,Qjc)]
def Z1d:Fi:={ keep:=[],vty:=[],vals:=[],live:=[(0,[0,1]),(1,[0,1,6]),(2,[0,1]),(3,[0,1]),(4,[0,1,16]),(5,[0]),(6,[4])] }
noncomputable def Z5i (c:Nat) (s_0:List Qq3) (n_1:Int):Option ((Qkr × Unit) × Unit):=
 bif decide (n_1<0) then
  none
 else
 bif Nat.ble (0+s_0.length) ((List.map some s_0++List.replicate c none).length) then
  bif decide (IntKind.wrap .i64 (n_1 - (IntKind.wrap .i64 (((((List.map some s_0++List.replicate c none).length) - 0:Nat):Int) - ((s_0.length:Nat):Int))))>0) then
   bif Nat.ble (0+s_0.length) ((List.map some s_0++List.replicate c none).length) then
    bif decide (0≤((((List.map some s_0++List.replicate c none).length) - 0:Nat):Int))&&decide (((((List.map some s_0++List.replicate c none).length) - 0:Nat):Int)≤((((List.map some s_0++List.replicate c none).length) - 0:Nat):Int)) then
     bif Nat.ble (0+((((((List.map some s_0++List.replicate c none).length) - 0:Nat):Int) - 0).toNat)) ((List.map some s_0++List.replicate c none).length) then
      bif decide (0<IntKind.wrap .i64 (n_1 - (IntKind.wrap .i64 (((((List.map some s_0++List.replicate c none).length) - 0:Nat):Int) - ((s_0.length:Nat):Int)))))&&true&&Nat.blt ((List.map some s_0++List.replicate c none).length) (((((((List.map some s_0++List.replicate c none).length) - 0:Nat):Int) - 0).toNat)+((List.replicate ((IntKind.wrap .i64 (n_1 - (IntKind.wrap .i64 (((((List.map some s_0++List.replicate c none).length) - 0:Nat):Int) - ((s_0.length:Nat):Int))))).toNat) (([],0):(List Int) × Int)).length))&&Nat.ble (((List.map some s_0++List.replicate c none).length)+((List.replicate ((IntKind.wrap .i64 (n_1 - (IntKind.wrap .i64 (((((List.map some s_0++List.replicate c none).length) - 0:Nat):Int) - ((s_0.length:Nat):Int))))).toNat) (([],0):(List Int) × Int)).length)) 536870912 then
       bif decide (0≤((s_0.length:Nat):Int))&&decide (((s_0.length:Nat):Int)≤((((List.take ((((((List.map some s_0++List.replicate c none).length) - 0:Nat):Int) - 0).toNat) (List.map some s_0++List.replicate c none)++List.map some (List.replicate ((IntKind.wrap .i64 (n_1 - (IntKind.wrap .i64 (((((List.map some s_0++List.replicate c none).length) - 0:Nat):Int) - ((s_0.length:Nat):Int))))).toNat) (([],0):(List Int) × Int))).length) - 0:Nat):Int)) then
        bif Nat.ble ((((s_0.length:Nat):Int) - 0).toNat) ((List.take ((((((List.map some s_0++List.replicate c none).length) - 0:Nat):Int) - 0).toNat) (List.map some s_0++List.replicate c none)++List.map some (List.replicate ((IntKind.wrap .i64 (n_1 - (IntKind.wrap .i64 (((((List.map some s_0++List.replicate c none).length) - 0:Nat):Int) - ((s_0.length:Nat):Int))))).toNat) (([],0):(List Int) × Int))).length) then
         Option.bind (Qd (List.take ((((s_0.length:Nat):Int) - 0).toNat) (List.take ((((((List.map some s_0++List.replicate c none).length) - 0:Nat):Int) - 0).toNat) (List.map some s_0++List.replicate c none)++List.map some (List.replicate ((IntKind.wrap .i64 (n_1 - (IntKind.wrap .i64 (((((List.map some s_0++List.replicate c none).length) - 0:Nat):Int) - ((s_0.length:Nat):Int))))).toNat) (([],0):(List Int) × Int))))) fun (z1:List Qq3)=>
         some ((z1,()),())
        else none
       else none
      else none
     else none
    else none
   else none
  else
  bif Nat.ble s_0.length ((List.map some s_0++List.replicate c none).length) then
   Option.bind (Qd (List.take s_0.length (List.map some s_0++List.replicate c none))) fun (z2:List Qq3)=>
   some ((z2,()),())
  else none
 else none
theorem Zgu (c:Nat) (s_0:List Qq3) (n_1:Int):Qdf Z3t tab { Z1d with cap:=c } 1 [.ownc 91 t90,.val t2] [⟨t88,[true],none⟩] Tryz.f288 (s_0,n_1,())=Z5i c s_0 n_1:=by kernel_rfl
theorem Zi1 (c:Nat) (s_0:List Qq3) (n_1:Int):Z5i c s_0 n_1=Qi4 (([],0):(List Int) × Int) c s_0 n_1:=by kernel_rfl
noncomputable def Z9q (s_0:List Qq3) (n_1:Int):Option ((Qkr × Unit) × Unit):=Qi2 s_0 n_1
noncomputable def Z56:Ent:=⟨[.ownc 91 t90,.val t2],[⟨t88,[true],none⟩],fun x=>Z9q x.1 x.2.1⟩
theorem Zgw:Q4j tab.ty Tryz.prog 288 Z56:=by
  refine Qgb (Γ:=Z3t) (fi:=Z1d) (n:=1) follows (Qjq (Qjr Tryz.func288 (by kernel_rfl) (by kernel_rfl)) Qju) Qjz Tryz.func288 (by kernel_rfl) (by kernel_rfl) (fun c x r hc h=>?_)
  obtain ⟨s_0,n_1,_u⟩:=x
  exact (Zgu c s_0 n_1).trans ((Zi1 c s_0 n_1).trans (Qj8 (([],0):(List Int) × Int) c s_0 n_1 r hc h))
abbrev Qkc:Type:=(Qkr × Unit) × Unit
noncomputable def Qny:Ctx:=[(288,Z56)]
def Qn7:Fi:={ keep:=[],vty:=[],vals:=[],live:=[(0,[0]),(1,[0,3]),(2,[0,3,9,10,11]),(3,[0,3,9,10,11,12]),(4,[0,3,5,9,10,11]),(5,[0,3,9,10,11]),(6,[0,3,9,10,11,20]),(7,[0,3,9,10,11]),(8,[0,3,9,10,11]),(9,[0,6]),(10,[6,25,26,27]),(11,[6,25,26,27,28]),(12,[6,8,25,26,27]),(13,[6,25,26,27]),(14,[6,25,26,27]),(15,[2])] }
abbrev Qqp:Type:=X4e→Int→X4e→Int→Int→Option Qkc
abbrev Qr2:Type:=X4e→Int→Int→Qkr→Option Qkc
noncomputable def Qy6 (L1:Qqp) (L2:Qr2) (v1:List Qkr) (v2:Int) (v3:List Qkr) (v4 v5:Int):Option Qkc:=
 bif decide (v5<v4) then
  bif decide (0≤v5)&&decide (v5<(v3.length:Int)) then
   bif decide (IntKind.wrap .i64 (v2+((List.getD v3 v5.toNat []).length:Int))<0) then
    none
   else
    L1 v1 (IntKind.wrap .i64 (v2+((List.getD v3 v5.toNat []).length:Int))) v3 v4 (IntKind.wrap .i64 (v5+1))
  else none
 else
  Option.bind (Z9q [] v2) fun r6=>
  L2 v1 (v1.length:Int) 0 r6.1.1
noncomputable def Qyi (L2:Qr2) (v7:List Qkr) (v8 v9:Int) (v10:List Qq3):Option Qkc:=
 bif decide (v9<v8) then
  bif decide (0≤v9)&&decide (v9<(v7.length:Int)) then
   bif Nat.ble (v10.length+(List.getD v7 v9.toNat []).length) 1073741824 then
    L2 v7 v8 (IntKind.wrap .i64 (v9+1)) (v10++(List.getD v7 v9.toNat []))
   else none
  else none
 else
  some ((v10,()),())
noncomputable def Z0t (L1:Qqp) (slices_0:List Qkr):Option Qkc:=
 L1 slices_0 0 slices_0 (slices_0.length:Int) 0
noncomputable def Qyg (n:Nat):Nat→Qr2:=iter (fun _ _ _ _=>none) fun L=>Qyi L
noncomputable def Qy9 (n:Nat):Nat→Qqp:=iter (fun _ _ _ _ _=>none) fun L=>Qy6 L (Qyg n n)
noncomputable def Qn9 (n m:Nat) (v1:List Qkr) (v2:Int) (v3:List Qkr) (v4 v5:Int):Option Qkc:=
 Qjl Qny tab (fiB [.val t27] Qn7) n [.val t27] [⟨t88,[true],none⟩] Tryz.f247 [1,1,0,1,0] [] [0,3,9,10,11] m
 ⟨[(0,Vp t27 v1),(3,Vp t2 v2),(9,Vp t27 v3),(10,Vp t2 v4),(11,Vp t2 v5)],[]⟩
noncomputable def Qn5 (n m:Nat) (v7:List Qkr) (v8 v9:Int) (v10:List Qq3):Option Qkc:=
 Qjl Qny tab (fiB [.val t27] Qn7) n [.val t27] [⟨t88,[true],none⟩] Tryz.f247 [1,1,1,1,0,1,0] [] [6,25,26,27] m
 ⟨[(6,V1 (.ref (888888,6))),(25,Vp t27 v7),(26,Vp t2 v8),(27,Vp t2 v9)],[((888888,6),Ob.row 91 t90 v10)]⟩
theorem Zam (n m:Nat):Qn9 n (m+1)=Qy6 (Qn9 n m) (Qn5 n n):=by kernel_rfl
theorem Z9v (n m:Nat):Qn5 n (m+1)=Qyi (Qn5 n m):=by kernel_rfl
theorem Qw6 (n:Nat):∀ m,Qn5 n m=Qyg n m
 | 0=>rfl
 | m+1=>by rw [Z9v n m,Qw6 n m];rfl
theorem Qwb (n:Nat):∀ m,Qn9 n m=Qy9 n m
 | 0=>rfl
 | m+1=>by rw [Zam n m,Qw6 n n,Qwb n m];rfl
noncomputable def Z0q (n:Nat) (slices_0:List Qkr):Option Qkc:=Z0t (Qy9 n n) slices_0
noncomputable def Zno (slices_0:List Qkr):Option Qkc:=Z0q 1099511627776 slices_0
noncomputable def Qz5:Ent:=⟨[.val t27],[⟨t88,[true],none⟩],fun x=>Zno x.1⟩
theorem Zhc (n:Nat) (slices_0:List Qkr):Qdf Qny tab Qn7 n [.val t27] [⟨t88,[true],none⟩] Tryz.f247 (slices_0,())=Z0q n slices_0:=Eq.trans (b:=Z0t (Qn9 n n) slices_0) (by kernel_rfl) (by rw [Qwb n n];rfl)
theorem Zcn:Q4j tab.ty Tryz.prog 247 Qz5:=
 Qjd (Γ:=Qny) (fi:=Qn7) (n:=1099511627776) follows (Qjq Zgw Qju) Qjz Tryz.func247 (by kernel_rfl) (by kernel_rfl) fun x r h=>(Zhc 1099511627776 x.1).trans h
noncomputable def X62:Ctx:=[(196,Zo2),(246,Zyj),(247,Qz5)]
def X1v:Fi:={ keep:=[],vty:=[(8,88),(10,44),(11,44),(12,44),(13,88),(18,44),(22,44),(29,88),(31,26),(32,44),(37,44),(41,44),(45,88),(46,88),(49,26),(50,44),(52,26),(53,44),(56,88)],vals:=[],live:=[(0,[0,1,2,3,22,23,24,25,26,27,41,42,43]),(1,[0,1,2,3,10,22,23,24,25,26,27,41,42,43]),(2,[0,1,2,3,10,28,41,42,43]),(3,[8,9]),(4,[0,1,2,11,12,41,42,43]),(5,[0,1,2,11,12,44]),(6,[8,9]),(7,[8,9])] }
noncomputable def Xbf (x:PDs [.val t26,.val t88,.val t2,.val t2]):Option (RDs [⟨t88,[false],none⟩,⟨t4,[false],none⟩] × ODs [.val t26,.val t88,.val t2,.val t2]):=Qdf X62 tab X1v 1099511627776 [.val t26,.val t88,.val t2,.val t2] [⟨t88,[false],none⟩,⟨t4,[false],none⟩] Tryz.f199 x
noncomputable def Xbw (x0:List (List Int)) (x1:List Qq3) (x2:Int) (x3:Int):Option ((Qkr × Bool × Unit) × Unit):=Xbf (x0,x1,x2,x3,())
noncomputable def Zqb:Ent:=⟨[.val t26,.val t88,.val t2,.val t2],[⟨t88,[false],none⟩,⟨t4,[false],none⟩],fun x=>Xbw x.1 x.2.1 x.2.2.1 x.2.2.2.1⟩
theorem Zjm:Q4j tab.ty Tryz.prog 199 Zqb:=by
  refine Qjd (Γ:=X62) (fi:=X1v) (n:=1099511627776) follows (Qjq Zfn (Qjq X21 (Qjq Zcn Qju))) Qjz Tryz.func199 (by kernel_rfl) (by kernel_rfl) (fun x r h=>?_)
  obtain ⟨x0,x1,x2,x3,_u⟩:=x
  exact h
noncomputable def X26:Ctx:=[(196,Zo2),(197,Ztu),(198,Qqv),(199,Zqb)]
def Zzi:Fi:={ keep:=[],vty:=[(1,88),(10,88),(11,44),(12,88),(15,88),(18,26),(28,88),(33,88),(38,88),(39,88),(47,44),(49,88),(51,26),(52,44),(56,26),(57,88),(63,88)],vals:=[],live:=[(0,[0,1,2,3,4,27,28,29,30,33,34,35,36]),(1,[0,1,2,3,4,27,28,29,30,33,34,35,36]),(2,[0,1,2,3,4,14,27,28,29,30,33,34,35,36]),(3,[10]),(4,[0,1,2,3,4,23]),(5,[10]),(6,[0,1,2,4,11]),(7,[0,1,2,4,11]),(8,[0,1,2,4]),(9,[1]),(10,[10])] }
def Zjf:Q1b:={ eT:=91,iT:=3,Tcs:=88,Tsl:=44,tD:=t26,cs:=1,ix:=2,tA:=12,tB:=13,q1:=39,q2:=40,q3:=41,q4:=42,q5:=43,ks:=[2,3,4],bx:=none,ft:=195,id6:=6 }
noncomputable def Zpz:Code:=match Tryz.f167.body with
  | some c=>c
  | none=>.skip
noncomputable def Z4s:Code:=Qjx Zpz
noncomputable def Zz7:Code:=Qjx Z4s
noncomputable def Zzk:List Code:=[Qjw Zz7]
noncomputable def Qo3:Code:=Qjx (Zz7)
noncomputable def Xa9 (x:PDs [.val t26,.val t88,.val t2,.val t2,.val t2]):Option (RDs [⟨t88,[false],none⟩] × ODs [.val t26,.val t88,.val t2,.val t2,.val t2]):=Qfo X26 tab Zzi 1099511627776 Zjf (Qjw Zpz) Zzk (Qji (Qjw Qo3)) (Qjx Qo3) [.val t26,.val t88,.val t2,.val t2,.val t2] [⟨t88,[false],none⟩] Tryz.f167 x.1 x
noncomputable def X8v (x0:List (List Int)) (x1:List Qq3) (x2:Int) (x3:Int) (x4:Int):Option ((Qkr × Unit) × Unit):=Xa9 (x0,x1,x2,x3,x4,())
noncomputable def X35:Ent:=⟨[.val t26,.val t88,.val t2,.val t2,.val t2],[⟨t88,[false],none⟩],fun x=>X8v x.1 x.2.1 x.2.2.1 x.2.2.2.1 x.2.2.2.2.1⟩
theorem X81:Qhp Zjf (Qjv (Qjm (Qjw Z4s)) 0) (Qjv (Qjm (Qjw Z4s)) 1) (Qjv (Qjm (Qjw Z4s)) 2) (Qjv (Qjm (Qjw Qo3)) 0) (Qjv (Qjm (Qjw Qo3)) 1) (Qjv (Qjm (Qjw Qo3)) 2) (Qjv (Qjm (Qjw Qo3)) 3) (Qjv (Qjm (Qjw Qo3)) 4):=⟨⟨rfl,rfl,rfl⟩,⟨rfl,rfl,rfl⟩,⟨rfl,rfl,rfl⟩,⟨rfl,rfl,rfl⟩,⟨rfl,rfl,rfl⟩,⟨rfl,rfl,rfl⟩,⟨rfl,rfl,rfl⟩,⟨rfl,rfl,rfl⟩⟩
theorem X5c:Q4j tab.ty Tryz.prog 167 X35:=by
  refine Qiy (c:=Zjf) (pr:=[.val t88,.val t2,.val t2,.val t2]) (rs:=[⟨t88,[false],none⟩]) (Γ:=X26) (fi:=Zzi) (n:=1099511627776) (id1:=1) (r0:=Qjw Zpz) (Bs:=Zzk) (ops1:=Qji (Qjw Z4s)) (ops6:=Qji (Qjw Qo3)) (rest:=(Qjm (Qjw Qo3)).drop 5) (tail:=Qjx Qo3) follows (Qjq Zfn (Qjq Zsi (Qjq Qqd (Qjq Zjm Qju)))) Qjz Zyk Tryz.func167 (by kernel_rfl) (by kernel_rfl) (by kernel_rfl) (by kernel_rfl) X81 (by kernel_rfl) (by kernel_rfl) (fun x r h=>?_)
  obtain ⟨x0,x1,x2,x3,x4,_u⟩:=x
  exact h
noncomputable def Zsl:Ctx:=[(198,Qqv)]
def Znv:Fi:={ keep:=[],vty:=[(2,44),(5,88),(11,44),(17,44),(19,44)],vals:=[],live:=[(0,[0,2]),(1,[2,5,6,7]),(2,[2,5,6,7,8]),(3,[2,4,5,6,7]),(4,[2,5,6,7]),(5,[2,5,6,7]),(6,[2]),(7,[2])] }
noncomputable def X51 (x:PDs [.val t88]):Option (RDs [⟨t44,[true],none⟩] × ODs [.val t88]):=Qdf Zsl tab Znv 1099511627776 [.val t88] [⟨t44,[true],none⟩] Tryz.f194 x
noncomputable def X8d (x0:List Qq3):Option (((List Int) × Unit) × Unit):=X51 (x0,())
noncomputable def Zs5:Ent:=⟨[.val t88],[⟨t44,[true],none⟩],fun x=>X8d x.1⟩
theorem Zxn:Q4j tab.ty Tryz.prog 194 Zs5:=by
  refine Qjd (Γ:=Zsl) (fi:=Znv) (n:=1099511627776) follows (Qjq Qqd Qju) Qjz Tryz.func194 (by kernel_rfl) (by kernel_rfl) (fun x r h=>?_)
  obtain ⟨x0,_u⟩:=x
  exact h
noncomputable def Zyr:Ctx:=[(196,Zo2),(199,Zqb)]
def Zvg:Fi:={ keep:=[],vty:=[(6,88),(8,88),(10,44),(13,26),(14,44),(18,88),(22,26),(23,88),(29,88),(34,88)],vals:=[],live:=[(0,[0,1,2]),(1,[0,1,2,12]),(2,[6]),(3,[0,2,6]),(4,[0,2,6,7]),(5,[0,2,6,7,20]),(6,[0,2,7,8,9]),(7,[0,2,6,7,9]),(8,[0,2,6,7,31]),(9,[0,2,6,7]),(10,[6])] }
noncomputable def X8i (x:PDs [.val t26,.val t44,.val t2]):Option (RDs [⟨t88,[false],none⟩] × ODs [.val t26,.val t44,.val t2]):=Qdf Zyr tab Zvg 1099511627776 [.val t26,.val t44,.val t2] [⟨t88,[false],none⟩] Tryz.f193 x
noncomputable def Xbe (x0:List (List Int)) (x1:List Int) (x2:Int):Option ((Qkr × Unit) × Unit):=X8i (x0,x1,x2,())
noncomputable def Zzo:Ent:=⟨[.val t26,.val t44,.val t2],[⟨t88,[false],none⟩],fun x=>Xbe x.1 x.2.1 x.2.2.1⟩
theorem X2u:Q4j tab.ty Tryz.prog 193 Zzo:=by
  refine Qjd (Γ:=Zyr) (fi:=Zvg) (n:=1099511627776) follows (Qjq Zfn (Qjq Zjm Qju)) Qjz Tryz.func193 (by kernel_rfl) (by kernel_rfl) (fun x r h=>?_)
  obtain ⟨x0,x1,x2,_u⟩:=x
  exact h
noncomputable def Zyp:Ctx:=[(193,Zzo),(194,Zs5)]
def Zwx:Fi:={ keep:=[],vty:=[(1,88),(6,88),(11,88),(15,88),(26,88)],vals:=[],live:=[(0,[1,2,4,19,20,21,22]),(1,[1,2,4,19,20,21,22]),(2,[1,2,4,8,19,20,21,22]),(3,[1,2,4,19,20,21,22]),(4,[1,2,4,19,20,21,22,23]),(5,[1,2,4,19,20,21,22]),(6,[4])] }
noncomputable def X8g (x:PDs [.val t28,.val t88]):Option (RDs [⟨t28,[false,false,true],none⟩] × ODs [.val t28,.val t88]):=Qdf Zyp tab Zwx 1099511627776 [.val t28,.val t88] [⟨t28,[false,false,true],none⟩] Tryz.f166 x
noncomputable def Zxw (x0:Int × Qp3 × List Qkr) (x1:List Qq3):Option ((Xcm × Unit) × Unit):=X8g (x0,x1,())
noncomputable def Zpp:Ent:=⟨[.val t28,.val t88],[⟨t28,[false,false,true],none⟩],fun x=>Zxw x.1 x.2.1⟩
theorem Zo1:Q4j tab.ty Tryz.prog 166 Zpp:=by
  refine Qjd (Γ:=Zyp) (fi:=Zwx) (n:=1099511627776) follows (Qjq X2u (Qjq Zxn Qju)) Qjz Tryz.func166 (by kernel_rfl) (by kernel_rfl) (fun x r h=>?_)
  obtain ⟨x0,x1,_u⟩:=x
  exact h
noncomputable def X8z (h_0:Int × Qp3 × List Qkr) (id_1:Int):Option ((Xcm × Unit) × Unit):=
 Option.bind (Ztn h_0) fun r1=>
 bif decide (id_1<1) then
  some ((r1.1.1,()),())
 else
 bif decide (id_1>8) then
  some ((r1.1.1,()),())
 else
  Option.bind (Zvx r1.1.1) fun r2=>
  Option.bind (X1a r2.1.1 id_1) fun r3=>
  bif decide (r3.1.1 ≥ 0) then
   some ((r1.1.1,()),())
  else
   Option.bind (Zvx r1.1.1) fun r4=>
   Option.bind (X8e r1.1.1 id_1) fun r5=>
   Option.bind (X8v r1.1.1.2.1 r4.1.1 r5.1.1 id_1 r1.1.1.1) fun r6=>
   Option.bind (Zxw r1.1.1 r6.1.1) fun r7=>
   some ((r7.1.1,()),())
noncomputable def X36:Ent:=⟨[.val t28,.val t2],[⟨t28,[false,false,false],none⟩],fun x=>X8z x.1 x.2.1⟩
theorem X58:Q4j tab.ty Tryz.prog 136 X36:=
 Qjd (Γ:=[(163,Zjr),(164,Zby),(165,Zxz),(166,Zpp),(167,X35),(168,X3n)]) (fi:={ keep:=[],vty:=[],vals:=[],live:=[(0,[1,2,4,10,11,14,15,16,17,18]),(1,[1,2,4,10,11,14,15,16,17,18]),(2,[1,2,4,19]),(3,[4]),(4,[4])] }) (n:=1) follows (Qjq Zkz (Qjq Z3h (Qjq Zvt (Qjq Zo1 (Qjq X5c (Qjq X4l Qju)))))) Qjz Tryz.func136 (by kernel_rfl) (by kernel_rfl) fun x r h=>Eq.trans (by kernel_rfl) h
noncomputable def X5t:Ctx:=[(164,Zby)]
def X4d:Fi:={ keep:=[],vty:=[(6,88),(15,88),(20,88),(27,88)],vals:=[],live:=[(0,[1,2]),(1,[1,9,10,11]),(2,[1,9,10,11,12]),(3,[1,6,9,10,11]),(4,[1,6,7,9,10,11]),(5,[1,6,7,9,10,11,19]),(6,[4]),(7,[1,6,7,9,10,11,26]),(8,[4]),(9,[1,9,10,11]),(10,[4])] }
noncomputable def Xbc (x:PDs [.val t28,.val t2]):Option (RDs [⟨t2,[false],none⟩] × ODs [.val t28,.val t2]):=Qdf X5t tab X4d 1099511627776 [.val t28,.val t2] [⟨t2,[false],none⟩] Tryz.f138 x
noncomputable def Xan (x0:Int × Qp3 × List Qkr) (x1:Int):Option ((Int × Unit) × Unit):=Xbc (x0,x1,())
noncomputable def X65:Ent:=⟨[.val t28,.val t2],[⟨t2,[false],none⟩],fun x=>Xan x.1 x.2.1⟩
theorem X7u:Q4j tab.ty Tryz.prog 138 X65:=by
  refine Qjd (Γ:=X5t) (fi:=X4d) (n:=1099511627776) follows (Qjq Z3h Qju) Qjz Tryz.func138 (by kernel_rfl) (by kernel_rfl) (fun x r h=>?_)
  obtain ⟨x0,x1,_u⟩:=x
  exact h
noncomputable def Qqn (n_0:Bool × Int × ByteArray × Qli × Qnc × Int):Option ((Z3k × Unit) × Unit):=
 Option.bind (Qkp (g6 (g3 n_0))) fun r1=>
 Option.bind (Qme (h12 (g3 n_0))) fun r2=>
 Option.bind (Qka (g4 n_0).2.2.1) fun r3=>
 Option.bind (Qka (g3 (g4 n_0))) fun r4=>
 Option.bind (Ql5 (g4 (g4 n_0))) fun r5=>
 some (((u4 (u3 n_0 (e12 (u6 (g3 n_0) r1.1.1) r2.1.1)) (u4 (u3 (u2 (g4 n_0) r3.1.1) r4.1.1) r5.1.1)),()),())
noncomputable def Qxa:Ent:=⟨[.val t58],[⟨t58,(nF 24),none⟩],fun x=>Qqn x.1⟩
theorem Qsq:Q4j tab.ty Tryz.prog 169 Qxa:=
 Qjd (Γ:=[(83,Qk9),(130,Qm5),(131,Qlc),(132,Qky)]) (fi:={ keep:=[],vty:=[],vals:=[],live:=[(0,[1,2]),(1,[1,2]),(2,[1,2]),(3,[2])] }) (n:=1) follows (Qjq Qk5 (Qjq Qm0 (Qjq Qkz (Qjq Qkv Qju)))) Qjz Tryz.func169 (by kernel_rfl) (by kernel_rfl) fun x r h=>Eq.trans (by kernel_rfl) h
noncomputable def Xbn (id_0 inc_1 now_2 grand_3:Int):Option ((Qli × Unit) × Unit):=
 bif id_0==1 then
  some (((id_0,inc_1,now_2,0,0,grand_3,[1],0,now_2,0,0,0,[]),()),())
 else
  some (((id_0,inc_1,now_2,0,0,grand_3,[],0,0,0,0,0,[]),()),())
noncomputable def X9t:Ent:=⟨[.val t2,.val t2,.val t2,.val t2],[⟨t50,(nF 6++[true,false,false,false,false,false,true]),none⟩],fun x=>Xbn x.1 x.2.1 x.2.2.1 x.2.2.2.1⟩
theorem X93:Q4j tab.ty Tryz.prog 170 X9t:=
 Qjd (Γ:=[]) (fi:={ keep:=[],vty:=[],vals:=[],live:=[(0,[0,1,2,3,8]),(1,[0,2,8,9]),(2,[2,8,9,16]),(3,[8,9]),(4,[8])] }) (n:=1) follows Qju Qjz Tryz.func170 (by kernel_rfl) (by kernel_rfl) fun x r h=>Eq.trans (by kernel_rfl) h
noncomputable def X8f (n_0:Bool × Int × ByteArray × Qli × Qnc × Int) (id_1:Int) (name_2:ByteArray) (grand_3:Int):Option ((Z3k × Bool × Unit) × Unit):=
 bif n_0.1 then
  Option.bind (Qqn n_0) fun r1=>
  some ((r1.1.1,false,()),())
 else
  Option.bind (X1k name_2) fun r2=>
  bif !r2.1.1 then
   Option.bind (Qqn n_0) fun r3=>
   some ((r3.1.1,false,()),())
  else
  bif decide (id_1<1) then
   Option.bind (Qqn n_0) fun r4=>
   some ((r4.1.1,false,()),())
  else
  bif decide (id_1>8) then
   Option.bind (Qqn n_0) fun r5=>
   some ((r5.1.1,false,()),())
  else
  bif decide (n_0.2.1 ≥ 1073741824) then
   Option.bind (Qqn n_0) fun r6=>
   some ((r6.1.1,false,()),())
  else
   Option.bind (Xbn id_1 (IntKind.wrap .i64 (n_0.2.1+1)) 0 grand_3) fun r7=>
   some (((true,IntKind.wrap .i64 (n_0.2.1+1),name_2,r7.1.1,(0,0,[],[],[],0,0),0),true,()),())
noncomputable def X1c:Ent:=⟨[.val t58,.val t2,.val t9,.val t2],[⟨t58,(nF 24),none⟩,⟨t4,[false],none⟩],fun x=>X8f x.1 x.2.1 x.2.2.1 x.2.2.2.1⟩
theorem X4r:Q4j tab.ty Tryz.prog 137 X1c:=
 Qjd (Γ:=[(135,Zta),(169,Qxa),(170,X9t)]) (fi:={ keep:=[],vty:=[],vals:=[],live:=[(0,[1,2,3,4,8,14,15,16,19,20,23,24,27,28,29]),(1,[1,2,3,4,8,30]),(2,[8,9]),(3,[1,2,3,8,10]),(4,[8,9])] }) (n:=1) follows (Qjq Zsp (Qjq Qsq (Qjq X93 Qju))) Qjz Tryz.func137 (by kernel_rfl) (by kernel_rfl) fun x r h=>Eq.trans (by kernel_rfl) h
noncomputable def Z9m (w_0:Zmw × Unit) (r_1:Int) (name_2:ByteArray):Option ((IV × Unit) × (Zka × Unit)):=
 bif decide (r_1<1)||decide (r_1>(w_0.1.1.length:Int)) then
  some ((IV.mk 122 [.int .i64 1],()),((w_0.1,()),()))
 else
 bif decide (0≤r_1 - 1)&&decide (r_1 - 1<(w_0.1.1.length:Int)) then
  bif (List.getD w_0.1.1 ((r_1 - 1).toNat) Qk4).1 then
   some ((IV.mk 122 [.int .i64 4],()),((w_0.1,()),()))
  else
   Option.bind (X1k name_2) fun r1=>
   bif !r1.1.1 then
    some ((IV.mk 122 [.int .i64 1],()),((w_0.1,()),()))
   else
    Option.bind (X8z (h3 w_0.1) r_1) fun r2=>
    bif decide (0≤r_1 - 1)&&decide (r_1 - 1<(w_0.1.1.length:Int)) then
     Option.bind (Xan r2.1.1 r_1) fun r3=>
     Option.bind (X8f ((List.getD w_0.1.1 ((r_1 - 1).toNat) Qk4).1,((List.getD w_0.1.1 ((r_1 - 1).toNat) Qk4).2).1,(((List.getD w_0.1.1 ((r_1 - 1).toNat) Qk4).2).2).1,((((((List.getD w_0.1.1 ((r_1 - 1).toNat) Qk4).2).2).2).1).1,((((((List.getD w_0.1.1 ((r_1 - 1).toNat) Qk4).2).2).2).1).2).1,(((((((List.getD w_0.1.1 ((r_1 - 1).toNat) Qk4).2).2).2).1).2).2).1,((((((((List.getD w_0.1.1 ((r_1 - 1).toNat) Qk4).2).2).2).1).2).2).2).1,(((((((((List.getD w_0.1.1 ((r_1 - 1).toNat) Qk4).2).2).2).1).2).2).2).2).1,((((((((((List.getD w_0.1.1 ((r_1 - 1).toNat) Qk4).2).2).2).1).2).2).2).2).2).1,(((((((((((List.getD w_0.1.1 ((r_1 - 1).toNat) Qk4).2).2).2).1).2).2).2).2).2).2).1,((((((((((((List.getD w_0.1.1 ((r_1 - 1).toNat) Qk4).2).2).2).1).2).2).2).2).2).2).2).1,(((((((((((((List.getD w_0.1.1 ((r_1 - 1).toNat) Qk4).2).2).2).1).2).2).2).2).2).2).2).2).1,((((((((((((((List.getD w_0.1.1 ((r_1 - 1).toNat) Qk4).2).2).2).1).2).2).2).2).2).2).2).2).2).1,(((((((((((((((List.getD w_0.1.1 ((r_1 - 1).toNat) Qk4).2).2).2).1).2).2).2).2).2).2).2).2).2).2).1,((((((((((((((((List.getD w_0.1.1 ((r_1 - 1).toNat) Qk4).2).2).2).1).2).2).2).2).2).2).2).2).2).2).2)),(((((((List.getD w_0.1.1 ((r_1 - 1).toNat) Qk4).2).2).2).2).1).1,(((((((List.getD w_0.1.1 ((r_1 - 1).toNat) Qk4).2).2).2).2).1).2).1,((((((((List.getD w_0.1.1 ((r_1 - 1).toNat) Qk4).2).2).2).2).1).2).2).1,(((((((((List.getD w_0.1.1 ((r_1 - 1).toNat) Qk4).2).2).2).2).1).2).2).2).1,((((((((((List.getD w_0.1.1 ((r_1 - 1).toNat) Qk4).2).2).2).2).1).2).2).2).2).1,(((((((((((List.getD w_0.1.1 ((r_1 - 1).toNat) Qk4).2).2).2).2).1).2).2).2).2).2)),(((((List.getD w_0.1.1 ((r_1 - 1).toNat) Qk4).2).2).2).2).2) r_1 name_2 r3.1.1) fun r4=>
     bif !r4.1.2.1 then
      some ((IV.mk 122 [.int .i64 1],()),((w_0.1,()),()))
     else
     bif decide (0≤r_1 - 1)&&decide (r_1 - 1<(w_0.1.1.length:Int)) then
      some ((IV.nil,()),(((e3 (u0 w_0.1 (List.set w_0.1.1 ((r_1 - 1).toNat) r4.1.1)) r2.1.1),()),()))
     else none
    else none
 else none
noncomputable def Z3o:Ent:=⟨[.box 117 Xao [true,false,true,false,false,false],.val t2,.val t9],[⟨t20,[false],none⟩],fun x=>Z9m x.1 x.2.1 x.2.2.1⟩
theorem Zh8:Q4j tab.ty Tryz.prog 93 Z3o:=
 Qjd (Γ:=[(135,Zta),(136,X36),(137,X1c),(138,X65)]) (fi:={ keep:=[],vty:=[],vals:=[],live:=[(0,[0,1,2]),(1,[0,1,2,7,8]),(2,[0,1,2,7,8,18]),(3,[0,6]),(4,[0,1,2,7,22]),(5,[0,6]),(6,[0,1,2,7,29]),(7,[0,6]),(8,[0,1,2,7,9]),(9,[0,7,9,10,11]),(10,[0,7,9,10,55]),(11,[0,6]),(12,[0]),(13,[0,6])] }) (n:=1) follows (Qjq Zsp (Qjq X58 (Qjq X4r (Qjq X7u Qju)))) Qjz Tryz.func93 (by kernel_rfl) (by kernel_rfl) fun x r h=>Eq.trans (by kernel_rfl) h
noncomputable def Zx7 (n_0:Bool × Int × ByteArray × Qli × Qnc × Int):Option ((Z3k × Unit) × Unit):=
 bif !n_0.1 then
  Option.bind (Qqn n_0) fun r1=>
  some ((r1.1.1,()),())
 else
  some (((u4 (u3 (u2 (u0 n_0 false) (⟨#[]⟩:ByteArray)) Xdk) (0,0,[],[],[],0,0)),()),())
noncomputable def Zom:Ent:=⟨[.val t58],[⟨t58,(nF 24),none⟩],fun x=>Zx7 x.1⟩
theorem Zo4:Q4j tab.ty Tryz.prog 142 Zom:=
 Qjd (Γ:=[(169,Qxa)]) (fi:={ keep:=[],vty:=[],vals:=[],live:=[(0,[1,2]),(1,[1,2,5]),(2,[2]),(3,[2])] }) (n:=1) follows (Qjq Qsq Qju) Qjz Tryz.func142 (by kernel_rfl) (by kernel_rfl) fun x r h=>Eq.trans (by kernel_rfl) h
noncomputable def Xap (t_0:Int × Int × Int × Int × Int × Int × (List Int) × Int × Int × Int × Int × Int × List Qkm):Option ((Zcr × Unit) × Unit):=
 Option.bind (Qkp (g6 t_0)) fun r1=>
 Option.bind (Qme (h12 t_0)) fun r2=>
 some ((((e12 (u6 t_0 r1.1.1) r2.1.1),[]),()),())
noncomputable def X10:Ent:=⟨[.val t50],[⟨X8n,(nF 13++[true]),some 249⟩],fun x=>Xap x.1⟩
theorem Zu2:Q4j tab.ty Tryz.prog 201 X10:=
 Qjd (Γ:=[(83,Qk9),(130,Qm5)]) (fi:={ keep:=[],vty:=[],vals:=[],live:=[(0,[1]),(1,[1]),(2,[2])] }) (n:=1) follows (Qjq Qk5 (Qjq Qm0 Qju)) Qjz Tryz.func201 (by kernel_rfl) (by kernel_rfl) fun x r h=>Eq.trans (by kernel_rfl) h
noncomputable def Ziy (n_0:Qli × List Qko) (kind_1 to_2 lo_3:Int):Option (Unit × (Zcr × Unit)):=
 Option.bind (Qkp (g6 n_0.1)) fun r1=>
 bif Nat.ble (n_0.2.length+1) 1073741824 then
  some ((),((n_0.1,n_0.2++[(kind_1,n_0.1.1,to_2,n_0.1.2.1,(g7 n_0.1),IntKind.wrap .i64 (n_0.1.2.2.1 - (g8 n_0.1)),r1.1.1,lo_3,0,(⟨#[]⟩:ByteArray))]),()))
 else none
noncomputable def Qkd (n_0:Qli × List Qko) (kind_1 to_2 lo_3:Int):Option (Unit × (Zcr × Unit)):=
 bif kind_1==2 then
  Ziy n_0 kind_1 to_2 lo_3
 else
 bif kind_1==5 then
  Ziy n_0 kind_1 to_2 lo_3
 else
 bif Nat.ble (n_0.2.length+1) 1073741824 then
  some ((),((n_0.1,n_0.2++[(kind_1,n_0.1.1,to_2,n_0.1.2.1,0,0,[],lo_3,0,(⟨#[]⟩:ByteArray))]),()))
 else none
noncomputable def Qmg:Ent:=⟨[.box 249 X8n (nF 13++[true]),.val t2,.val t2,.val t2],[],fun x=>Qkd x.1 x.2.1 x.2.2.1 x.2.2.2.1⟩
theorem Qls:Q4j tab.ty Tryz.prog 202 Qmg:=
 Qjd (Γ:=[(83,Qk9)]) (fi:={ keep:=[],vty:=[],vals:=[],live:=[(0,[0,1,8,26,27]),(1,[0,8,28]),(2,[0,8]),(3,[0])] }) (n:=1) follows (Qjq Qk5 Qju) Qjz Tryz.func202 (by kernel_rfl) (by kernel_rfl) fun x r h=>Eq.trans (by kernel_rfl) h
abbrev Z2k:Type:=(Qtq × Unit) × Unit
noncomputable def Zt9:Ctx:=[(201,X10),(202,Qmg)]
def Zot:Fi:={ keep:=[],vty:=[],vals:=[],live:=[(0,[1]),(1,[3]),(2,[3,13]),(3,[3]),(4,[3,25,26,27]),(5,[3,25,26,27,28]),(6,[3,5,25,26,27]),(7,[3,25,26,27]),(8,[3,25,26,27]),(9,[2])] }
abbrev Zp3:Type:=Zjb→Int→Int→Int→Int→Int→Int→Int→Int→List Int→Int→Int→Int→Int→Int→Zjb→Qtq→Option Z2k
noncomputable def Zyc (L1:Zp3) (v3:List Qkm) (v4 v5 v6 v7 v8 v9 v10 v11:Int) (v12:List Int) (v13 v14 v15 v16 v17:Int) (v18:List Qkm) (v19:List Qko):Option Z2k:=
 bif decide (v5<v4) then
  bif decide (0≤v5)&&decide (v5<(v3.length:Int)) then
   Option.bind (Qkd ((v6,v7,v8,v9,v10,v11,v12,v13,v14,v15,v16,v17,v18),v19) 3 ((List.getD v3 v5.toNat (0,0,0)).1) 0) fun r20=>
   L1 v3 v4 (IntKind.wrap .i64 (v5+1)) r20.2.1.1.1 r20.2.1.1.2.1 r20.2.1.1.2.2.1 (g3 r20.2.1.1) (g4 r20.2.1.1) (g5 r20.2.1.1) (g6 r20.2.1.1) (g7 r20.2.1.1) (g8 r20.2.1.1) (g9 r20.2.1.1) (g10 r20.2.1.1) (g11 r20.2.1.1) (h12 r20.2.1.1) r20.2.1.2
  else none
 else
  some ((v19,()),())
noncomputable def X2v (L1:Zp3) (t_0:Int × Int × Int × Int × Int × Int × (List Int) × Int × Int × Int × Int × Int × List Qkm):Option Z2k:=
 Option.bind (Xap t_0) fun r1=>
 bif (g3 r1.1.1.1) != 0 then
  Option.bind (Qkd r1.1.1 6 (g3 r1.1.1.1) 0) fun r2=>
  L1 (h12 r2.2.1.1) ((h12 r2.2.1.1).length:Int) 0 r2.2.1.1.1 r2.2.1.1.2.1 r2.2.1.1.2.2.1 (g3 r2.2.1.1) (g4 r2.2.1.1) (g5 r2.2.1.1) (g6 r2.2.1.1) (g7 r2.2.1.1) (g8 r2.2.1.1) (g9 r2.2.1.1) (g10 r2.2.1.1) (g11 r2.2.1.1) (h12 r2.2.1.1) r2.2.1.2
 else
  L1 (h12 r1.1.1.1) ((h12 r1.1.1.1).length:Int) 0 r1.1.1.1.1 r1.1.1.1.2.1 r1.1.1.1.2.2.1 (g3 r1.1.1.1) (g4 r1.1.1.1) (g5 r1.1.1.1) (g6 r1.1.1.1) (g7 r1.1.1.1) (g8 r1.1.1.1) (g9 r1.1.1.1) (g10 r1.1.1.1) (g11 r1.1.1.1) (h12 r1.1.1.1) r1.1.1.2
noncomputable def Zyx (n:Nat):Nat→Zp3:=iter (fun _ _ _ _ _ _ _ _ _ _ _ _ _ _ _ _ _=>none) fun L=>Zyc L
noncomputable def Zeb (n m:Nat) (v3:List Qkm) (v4 v5 v6 v7 v8 v9 v10 v11:Int) (v12:List Int) (v13 v14 v15 v16 v17:Int) (v18:List Qkm) (v19:List Qko):Option Z2k:=
 Qjl Zt9 tab (fiB [.val t50] Zot) n [.val t50] [⟨t70,[true],none⟩] Tryz.f171 [1,1,1,0,1,0] [] [3,25,26,27] m
 ⟨[(3,V1 (.ptr (7,0) 0)),(25,Vp t49 v3),(26,Vp t2 v4),(27,Vp t2 v5)],[((7,0),Ob.box 249 [LV.pure t2 v6,LV.pure t2 v7,LV.pure t2 v8,LV.pure t2 v9,LV.pure t2 v10,LV.pure t2 v11,LV.pure t44 v12,LV.pure t2 v13,LV.pure t2 v14,LV.pure t2 v15,LV.pure t2 v16,LV.pure t2 v17,LV.pure t49 v18,LV.ref (7,14)]),((7,14),Ob.row 105 Qsi v19)]⟩
theorem X2r (n m:Nat):Zeb n (m+1)=Zyc (Zeb n m):=by kernel_rfl
theorem Zvr (n:Nat):∀ m,Zeb n m=Zyx n m
 | 0=>rfl
 | m+1=>by rw [X2r n m,Zvr n m];rfl
noncomputable def X2h (n:Nat) (t_0:Int × Int × Int × Int × Int × Int × (List Int) × Int × Int × Int × Int × Int × List Qkm):Option Z2k:=X2v (Zyx n n) t_0
noncomputable def X9h (t_0:Int × Int × Int × Int × Int × Int × (List Int) × Int × Int × Int × Int × Int × List Qkm):Option Z2k:=X2h 1099511627776 t_0
noncomputable def X1e:Ent:=⟨[.val t50],[⟨t70,[true],none⟩],fun x=>X9h x.1⟩
theorem X8x (n:Nat) (t_0:Int × Int × Int × Int × Int × Int × (List Int) × Int × Int × Int × Int × Int × List Qkm):Qdf Zt9 tab Zot n [.val t50] [⟨t70,[true],none⟩] Tryz.f171 (t_0,())=X2h n t_0:=Eq.trans (b:=X2v (Zeb n n) t_0) (by kernel_rfl) (by rw [Zvr n n];rfl)
theorem X4k:Q4j tab.ty Tryz.prog 171 X1e:=
 Qjd (Γ:=Zt9) (fi:=Zot) (n:=1099511627776) follows (Qjq Zu2 (Qjq Qls Qju)) Qjz Tryz.func171 (by kernel_rfl) (by kernel_rfl) fun x r h=>(X8x 1099511627776 x.1).trans h
noncomputable def Xay (n_0:Bool × Int × ByteArray × Qli × Qnc × Int):Option ((Z3k × Qtq × Unit) × Unit):=
 bif !n_0.1 then
  Option.bind (Qqn n_0) fun r1=>
  some ((r1.1.1,[],()),())
 else
  Option.bind (Zx7 n_0) fun r2=>
  Option.bind (X9h (g3 n_0)) fun r3=>
  some ((r2.1.1,r3.1.1,()),())
noncomputable def X6g:Ent:=⟨[.val t58],[⟨t58,(nF 24),none⟩,⟨t70,[true],none⟩],fun x=>Xay x.1⟩
theorem X7o:Q4j tab.ty Tryz.prog 139 X6g:=
 Qjd (Γ:=[(142,Zom),(169,Qxa),(171,X1e)]) (fi:={ keep:=[],vty:=[],vals:=[],live:=[(0,[1,2]),(1,[1,2,6]),(2,[2,3]),(3,[2,3])] }) (n:=1) follows (Qjq Zo4 (Qjq Qsq (Qjq X4k Qju))) Qjz Tryz.func139 (by kernel_rfl) (by kernel_rfl) fun x r h=>Eq.trans (by kernel_rfl) h
noncomputable def Qyr:Ctx:=[(205,Qjc)]
def Qyf:Fi:={ keep:=[],vty:=[],vals:=[],live:=[(0,[0,1,2]),(1,[0,1,2]),(2,[0,1,2,16]),(3,[6]),(4,[0,1,2,7]),(5,[0,7]),(6,[0]),(7,[6])],melt:=[(6,1000000)] }
noncomputable def Z0n (c:Nat) (s_0:List (Option Qq3)) (i_1:Int) (j_2:Int):Option ((Qkr × Unit) × Unit):=
 bif ((decide (0≤i_1)&&decide (i_1≤j_2))&&decide (j_2≤((s_0.length:Nat):Int)))&&decide (((s_0.length:Nat):Int)≤((((List.append s_0 (List.replicate c none)).length) - 0:Nat):Int)) then
  bif i_1==j_2 then
   bif Nat.ble s_0.length ((List.append s_0 (List.replicate c none)).length) then
    Option.bind (Qd (List.take s_0.length (List.append s_0 (List.replicate c none)))) fun (z1:List Qq3)=>
    some ((z1,()),())
   else none
  else
  bif decide (0≤i_1)&&decide (i_1≤((((List.append s_0 (List.replicate c none)).length) - 0:Nat):Int)) then
   bif (decide (0≤j_2)&&decide (j_2≤((s_0.length:Nat):Int)))&&decide (((s_0.length:Nat):Int)≤((((List.append s_0 (List.replicate c none)).length) - 0:Nat):Int)) then
    bif Nat.ble (0+((i_1 - 0).toNat)) ((List.append s_0 (List.replicate c none)).length) then
     bif Nat.ble ((0+j_2.toNat)+((((s_0.length:Nat):Int) - j_2).toNat)) ((List.append s_0 (List.replicate c none)).length) then
      Option.bind (Qd (List.take ((((s_0.length:Nat):Int) - j_2).toNat) (List.drop (0+j_2.toNat) (List.append s_0 (List.replicate c none))))) fun (z2:List Qq3)=>
      bif Nat.ble (((i_1 - 0).toNat)+z2.length) ((List.append s_0 (List.replicate c none)).length) then
       bif (decide (0≤((((i_1 - 0).toNat)+z2.length:Nat):Int))&&decide (((((i_1 - 0).toNat)+z2.length:Nat):Int)≤((s_0.length:Nat):Int)))&&decide (((s_0.length:Nat):Int)≤((((Q6 (List.append s_0 (List.replicate c none)) ((i_1 - 0).toNat) z2).length) - 0:Nat):Int)) then
        bif Nat.ble ((0+(((((i_1 - 0).toNat)+z2.length:Nat):Int).toNat))+((((s_0.length:Nat):Int) - ((((i_1 - 0).toNat)+z2.length:Nat):Int)).toNat)) ((Q6 (List.append s_0 (List.replicate c none)) ((i_1 - 0).toNat) z2).length) then
         bif Nat.ble (((i_1 - 0).toNat)+z2.length) ((Q6 (Q6 (List.append s_0 (List.replicate c none)) ((i_1 - 0).toNat) z2) (0+(((((i_1 - 0).toNat)+z2.length:Nat):Int).toNat)) (List.replicate ((((s_0.length:Nat):Int) - ((((i_1 - 0).toNat)+z2.length:Nat):Int)).toNat) (([],0):(List Int) × Int))).length) then
          Option.bind (Qd (List.take (((i_1 - 0).toNat)+z2.length) (Q6 (Q6 (List.append s_0 (List.replicate c none)) ((i_1 - 0).toNat) z2) (0+(((((i_1 - 0).toNat)+z2.length:Nat):Int).toNat)) (List.replicate ((((s_0.length:Nat):Int) - ((((i_1 - 0).toNat)+z2.length:Nat):Int)).toNat) (([],0):(List Int) × Int))))) fun (z3:List Qq3)=>
          some ((z3,()),())
         else none
        else none
       else none
      else
      bif Nat.ble (((i_1 - 0).toNat)+z2.length) 1073741824 then
       Option.bind (Qd (List.take ((i_1 - 0).toNat) (List.append s_0 (List.replicate c none)))) fun (z4:List Qq3)=>
       bif (decide (0≤(((z4++z2).length:Nat):Int))&&decide ((((z4++z2).length:Nat):Int)≤((s_0.length:Nat):Int)))&&decide (((s_0.length:Nat):Int)≤(((List.map some (z4++z2)).length:Nat):Int)) then
        bif Nat.ble ((0+((((z4++z2).length:Nat):Int).toNat))+((((s_0.length:Nat):Int) - (((z4++z2).length:Nat):Int)).toNat)) ((List.map some (z4++z2)).length) then
         none
        else none
       else none
      else none
     else none
    else none
   else none
  else none
 else none
theorem Zcy (c:Nat) (s_0:List (Option Qq3)) (i_1:Int) (j_2:Int):Qdf Qyr tab { Qyf with cap:=c } 1 [.ownh 91 t90,.val t2,.val t2] [⟨t88,[true],none⟩] Tryz.f205 (s_0,i_1,j_2,())=Z0n c s_0 i_1 j_2:=by kernel_rfl
theorem Zcv (c:Nat) (s_0:List (Option Qq3)) (i_1:Int) (j_2:Int):Z0n c s_0 i_1 j_2=Qbf (([],0):(List Int) × Int) c s_0 i_1 j_2:=by kernel_rfl
noncomputable def Zpw (s_0:List (Option Qq3)) (i_1:Int) (j_2:Int):Option ((Qkr × Unit) × Unit):=Qb3 s_0 i_1 j_2
noncomputable def Qzv:Ent:=⟨[.ownh 91 t90,.val t2,.val t2],[⟨t88,[true],none⟩],fun x=>Zpw x.1 x.2.1 x.2.2.1⟩
theorem Zcw:Q4j tab.ty Tryz.prog 205 Qzv:=by
  refine Qgb (Γ:=Qyr) (fi:=Qyf) (n:=1) follows (Qjq (Qjr Tryz.func205 (by kernel_rfl) (by kernel_rfl)) Qju) Qjz Tryz.func205 (by kernel_rfl) (by kernel_rfl) (fun c x r hc h=>?_)
  obtain ⟨s_0,i_1,j_2,_u⟩:=x
  exact (Zcy c s_0 i_1 j_2).trans ((Zcv c s_0 i_1 j_2).trans (Qia (([],0):(List Int) × Int) c s_0 i_1 j_2 r hc h))
noncomputable def Zsv:Ctx:=[]
def Zp0:Fi:={ keep:=[],vty:=[(4,44),(7,88),(17,44),(23,44)],vals:=[],live:=[(0,[0,1,4]),(1,[1,4,7,8,9]),(2,[1,4,7,8,9,10]),(3,[1,4,5,6,7,8,9]),(4,[1,4,6,7,8,9,16]),(5,[1,4,7,8,9]),(6,[1,4,7,8,9]),(7,[4])] }
noncomputable def X57 (x:PDs [.val t88,.val t2]):Option (RDs [⟨t44,[true],none⟩] × ODs [.val t88,.val t2]):=Qdf Zsv tab Zp0 1099511627776 [.val t88,.val t2] [⟨t44,[true],none⟩] Tryz.f206 x
noncomputable def X9w (x0:List Qq3) (x1:Int):Option (((List Int) × Unit) × Unit):=X57 (x0,x1,())
noncomputable def Zs3:Ent:=⟨[.val t88,.val t2],[⟨t44,[true],none⟩],fun x=>X9w x.1 x.2.1⟩
theorem Zx8:Q4j tab.ty Tryz.prog 206 Zs3:=by
  refine Qjd (Γ:=Zsv) (fi:=Zp0) (n:=1099511627776) follows Qju Qjz Tryz.func206 (by kernel_rfl) (by kernel_rfl) (fun x r h=>?_)
  obtain ⟨x0,x1,_u⟩:=x
  exact h
noncomputable def X4v (x_0 x_1:Int):Option ((Bool × Unit) × Unit):=
 some ((x_0==x_1,()),())
noncomputable def Zl3:Ent:=⟨[.val t2,.rbox t2],[⟨t4,[false],none⟩],fun x=>X4v x.1 x.2.1⟩
theorem Ztd:Q4j tab.ty Tryz.prog 204 Zl3:=
 Qjd (Γ:=[]) (fi:={ keep:=[],vty:=[],vals:=[],live:=[(0,[0,1]),(1,[3])] }) (n:=1) follows Qju Qjz Tryz.func204 (by kernel_rfl) (by kernel_rfl) fun x r h=>Eq.trans (by kernel_rfl) h
noncomputable def X4n (c_0:(List Int) × Int) (x_1:Int):Option ((Bool × Unit) × Unit):=
 some ((c_0.2==x_1,()),())
noncomputable def Zlx:Ent:=⟨[.val t90,.rbox t2],[⟨t4,[false],none⟩],fun x=>X4n x.1 x.2.1⟩
theorem Zt7:Q4j tab.ty Tryz.prog 207 Zlx:=
 Qjd (Γ:=[]) (fi:={ keep:=[],vty:=[],vals:=[],live:=[(0,[1,2]),(1,[3])] }) (n:=1) follows Qju Qjz Tryz.func207 (by kernel_rfl) (by kernel_rfl) fun x r h=>Eq.trans (by kernel_rfl) h
end Go.PE
