/-
  Functions of the program, each as the evaluator answers it, and its contract.
  Conditions: none.
-/
import Derived.Test.YtmfiijdlhjajcaaGreatDoorNodeAllF1
set_option linter.unusedVariables false
set_option maxRecDepth 100000
namespace Go.PE
open Go.Proofs
noncomputable section
def Qta (a:(Qse × Unit) × Unit) (b:Qvh) (e:Int):Option ((Qse × Qpc × Unit) × Unit):=
 Option.bind (Qtz (h12 a.1.1) (b.2.1,(g3 b),a.1.1.2.2.1)) fun c=>
 Option.bind (Qon (e12 a.1.1 c.1.1) 2 b.2.1) fun d=>
 some (((e12 a.1.1 c.1.1),[(u7 d.1.1 e)],()),())
def Z4h (a:(Qse × Unit) × Unit) (b:Qvh) (c:Int):Option ((Qse × Qpc × Unit) × Unit):=
 Option.bind (Qpk (h12 a.1.1) b.2.1) fun d=>
 bif a.1.1.1==1 then
  Option.bind (Qlu a.1.1) fun j=>
  bif !j.1.1 then
   Option.bind (Qk9 a.1.1 3 b.2.1) fun k=>
   some ((a.1.1,[k.1.1],()),())
  else
   Option.bind (Qt2 (g6 a.1.1) b.2.1) fun l=>
   bif l.1.1 then
    Option.bind (Qk9 a.1.1 3 b.2.1) fun m=>
    some ((a.1.1,[m.1.1],()),())
   else
   bif !d.1.2.1 then
    bif decide (((h12 a.1.1).length:Int) ≥ 8) then
     Option.bind (Qk9 a.1.1 3 b.2.1) fun n=>
     some ((a.1.1,[n.1.1],()),())
    else
     Qta a b c
   else
    Qta a b c
 else
  Option.bind (Qlu a.1.1) fun e=>
  bif !e.1.1 then
   Option.bind (Qk9 a.1.1 3 b.2.1) fun f=>
   some ((a.1.1,[f.1.1],()),())
  else
   Option.bind (Qt2 (g6 a.1.1) b.2.1) fun g=>
   bif g.1.1 then
    Option.bind (Qk9 a.1.1 3 b.2.1) fun h=>
    some ((a.1.1,[h.1.1],()),())
   else
   bif !d.1.2.1 then
    bif decide (((h12 a.1.1).length:Int) ≥ 3) then
     Option.bind (Qk9 a.1.1 3 b.2.1) fun i=>
     some ((a.1.1,[i.1.1],()),())
    else
     Qta a b c
   else
    Qta a b c
def Z4g (a:(Qse × Unit) × Unit) (b:Qvh):Option ((Qse × Qpc × Unit) × Unit):=
 Option.bind (Qpk (h12 a.1.1) b.2.1) fun c=>
 bif !c.1.2.1 then
  Option.bind (Qk9 a.1.1 3 b.2.1) fun d=>
  some ((a.1.1,[d.1.1],()),())
 else
  Option.bind (Qtz (h12 a.1.1) (b.2.1,(g3 b),a.1.1.2.2.1)) fun e=>
  some (((e12 a.1.1 e.1.1),[],()),())
def Z4l (b:Qvh) (a:(Qse × Unit) × Unit):Option ((Qse × Qpc × Unit) × Unit):=
 bif b.1==6 then
  Option.bind (Qw7 (h12 a.1.1) b.2.1) fun c=>
  some (((e12 a.1.1 c.1.1),[],()),())
 else
  some ((a.1.1,[],()),())
def Qof (a:Qse) (b:Qvh) (e:Int):Option ((Qse × Qpc × Unit) × Unit):=
 Option.bind (Qtz (h12 a) (b.2.1,(g3 b),a.2.2.1)) fun c=>
 Option.bind (Qon (e12 a c.1.1) 2 b.2.1) fun d=>
 some (((e12 a c.1.1),[(u7 d.1.1 e)],()),())
def Qtk (a:Qse) (b:Qvh) (c:Int):Option ((Qse × Qpc × Unit) × Unit):=
 Option.bind (Qpk (h12 a) b.2.1) fun d=>
 bif a.1==1 then
  Option.bind (Qlu a) fun e=>
  bif !e.1.1 then
   Option.bind (Qk9 a 3 b.2.1) fun f=>
   some ((a,[f.1.1],()),())
  else
   Option.bind (Qt2 (g6 a) b.2.1) fun g=>
   bif g.1.1 then
    Option.bind (Qk9 a 3 b.2.1) fun h=>
    some ((a,[h.1.1],()),())
   else
   bif !d.1.2.1 then
    bif decide (((h12 a).length:Int) ≥ 8) then
     Option.bind (Qk9 a 3 b.2.1) fun i=>
     some ((a,[i.1.1],()),())
    else
     Qof a b c
   else
    Qof a b c
 else
  Option.bind (Qlu a) fun j=>
  bif !j.1.1 then
   Option.bind (Qk9 a 3 b.2.1) fun k=>
   some ((a,[k.1.1],()),())
  else
   Option.bind (Qt2 (g6 a) b.2.1) fun l=>
   bif l.1.1 then
    Option.bind (Qk9 a 3 b.2.1) fun m=>
    some ((a,[m.1.1],()),())
   else
   bif !d.1.2.1 then
    bif decide (((h12 a).length:Int) ≥ 3) then
     Option.bind (Qk9 a 3 b.2.1) fun n=>
     some ((a,[n.1.1],()),())
    else
     Qof a b c
   else
    Qof a b c
def Qt5 (a:Qse) (b:Qvh):Option ((Qse × Qpc × Unit) × Unit):=
 Option.bind (Qpk (h12 a) b.2.1) fun c=>
 bif !c.1.2.1 then
  Option.bind (Qk9 a 3 b.2.1) fun d=>
  some ((a,[d.1.1],()),())
 else
  Option.bind (Qtz (h12 a) (b.2.1,(g3 b),a.2.2.1)) fun e=>
  some (((e12 a e.1.1),[],()),())
def Qtf (b:Qvh) (a:Qse):Option ((Qse × Qpc × Unit) × Unit):=
 bif b.1==6 then
  Option.bind (Qw7 (h12 a) b.2.1) fun c=>
  some (((e12 a c.1.1),[],()),())
 else
  some ((a,[],()),())
def Qmw (a:Qse) (b:Qvh) (g:Int):Option ((Qse × Qpc × Unit) × Unit):=
 bif (g3 a) != 0 then
  bif b.1==1 then
   Qtk a b g
  else
  bif b.1==2 then
   Option.bind (Qmx a b) fun e=>
   some ((e.1.1,e.1.2.1,()),())
  else
  bif b.1==3 then
   bif (g9 a) != 0 then
    bif (g9 a)==b.2.1 then
     bif b.2.1==(g3 a) then
      Option.bind (Qlo (u11 (u9 a 0) (wJ ((g11 a)+1))) 0) fun i=>
      some ((i.1.1,[],()),())
     else
      some (((u11 (u9 a 0) (wJ ((g11 a)+1))),[],()),())
    else
    bif b.2.1==(g3 a) then
     Option.bind (Qlo a 0) fun j=>
     some ((j.1.1,[],()),())
    else
     some ((a,[],()),())
   else
   bif b.2.1==(g3 a) then
    Option.bind (Qlo a 0) fun k=>
    some ((k.1.1,[],()),())
   else
    some ((a,[],()),())
  else
  bif b.1==4 then
   Qt5 a b
  else
  bif b.1==5 then
   bif !(b.2.1==(g3 a)) then
    Option.bind (Qk9 a 6 b.2.1) fun l=>
    some ((a,[l.1.1],()),())
   else
    Option.bind (Qo7 (g6 b) a.1) fun c=>
    bif !c.1.2.1 then
     Option.bind (Qlo a 1) fun m=>
     Option.bind (Qk9 a 6 b.2.1) fun n=>
     some ((m.1.1,[n.1.1],()),())
    else
     Option.bind (Qrb (g6 b)) fun f=>
     bif decide (wJ (a.2.2.1 - (g5 b))>(g8 a)) then
      some (((u8 (u7 (u6 (u5 a f.1.1) c.1.1) (g4 b)) (wJ (a.2.2.1 - (g5 b)))),[],()),())
     else
      some (((u6 (u5 a f.1.1) c.1.1),[],()),())
  else
   Qtf b a
 else
 bif b.1==1 then
  Qtk a b g
 else
 bif b.1==2 then
  Option.bind (Qmx a b) fun d=>
  some ((d.1.1,d.1.2.1,()),())
 else
 bif b.1==3 then
  bif (g9 a) != 0 then
   bif (g9 a)==b.2.1 then
    some (((u11 (u9 a 0) (wJ ((g11 a)+1))),[],()),())
   else
    some ((a,[],()),())
  else
   some ((a,[],()),())
 else
 bif b.1==4 then
  Qt5 a b
 else
 bif b.1==5 then
  Option.bind (Qk9 a 6 b.2.1) fun h=>
  some ((a,[h.1.1],()),())
 else
  Qtf b a
def Qwg (b:Qvh) (c:Qse) (d:Int):Option ((Qse × Qpc × Unit) × Unit):=
 bif b.2.1==(g3 c) then
  bif decide ((g3 b)>(g4 c)) then
   Option.bind (Qlo c 0) fun a=>
   bif (g3 a.1.1) != 0 then
    bif b.1==1 then
     Z4h a b d
    else
    bif b.1==2 then
     Option.bind (Qmx a.1.1 b) fun f=>
     some ((f.1.1,f.1.2.1,()),())
    else
    bif b.1==3 then
     bif (g9 a.1.1) != 0 then
      bif (g9 a.1.1)==b.2.1 then
       bif b.2.1==(g3 a.1.1) then
        Option.bind (Qlo (u11 (u9 a.1.1 0) (wJ ((g11 a.1.1)+1))) 0) fun i=>
        some ((i.1.1,[],()),())
       else
        some (((u11 (u9 a.1.1 0) (wJ ((g11 a.1.1)+1))),[],()),())
      else
      bif b.2.1==(g3 a.1.1) then
       Option.bind (Qlo a.1.1 0) fun j=>
       some ((j.1.1,[],()),())
      else
       some ((a.1.1,[],()),())
     else
     bif b.2.1==(g3 a.1.1) then
      Option.bind (Qlo a.1.1 0) fun k=>
      some ((k.1.1,[],()),())
     else
      some ((a.1.1,[],()),())
    else
    bif b.1==4 then
     Z4g a b
    else
    bif b.1==5 then
     bif !(b.2.1==(g3 a.1.1)) then
      Option.bind (Qk9 a.1.1 6 b.2.1) fun l=>
      some ((a.1.1,[l.1.1],()),())
     else
      Option.bind (Qo7 (g6 b) a.1.1.1) fun e=>
      bif !e.1.2.1 then
       Option.bind (Qlo a.1.1 1) fun m=>
       Option.bind (Qk9 a.1.1 6 b.2.1) fun n=>
       some ((m.1.1,[n.1.1],()),())
      else
       Option.bind (Qrb (g6 b)) fun g=>
       bif decide (wJ (a.1.1.2.2.1 - (g5 b))>(g8 a.1.1)) then
        some (((u8 (u7 (u6 (u5 a.1.1 g.1.1) e.1.1) (g4 b)) (wJ (a.1.1.2.2.1 - (g5 b)))),[],()),())
       else
        some (((u6 (u5 a.1.1 g.1.1) e.1.1),[],()),())
    else
     Z4l b a
   else
   bif b.1==1 then
    Z4h a b d
   else
   bif b.1==2 then
    Option.bind (Qmx a.1.1 b) fun h=>
    some ((h.1.1,h.1.2.1,()),())
   else
   bif b.1==3 then
    bif (g9 a.1.1) != 0 then
     bif (g9 a.1.1)==b.2.1 then
      some (((u11 (u9 a.1.1 0) (wJ ((g11 a.1.1)+1))),[],()),())
     else
      some ((a.1.1,[],()),())
    else
     some ((a.1.1,[],()),())
   else
   bif b.1==4 then
    Z4g a b
   else
   bif b.1==5 then
    Option.bind (Qk9 a.1.1 6 b.2.1) fun o=>
    some ((a.1.1,[o.1.1],()),())
   else
    Z4l b a
  else
   Qmw c b d
 else
  Qmw c b d
def Qlr (a:Qse) (b:Qvh) (c:Int):Option ((Qse × Qpc × Unit) × Unit):=
 Option.bind (Qy5 (h12 a) b.2.1 (g3 b)) fun d=>
 bif d.1.1 then
  some ((a,[],()),())
 else
 bif b.2.1==(g3 a) then
  bif decide ((g3 b)<(g4 a)) then
   some ((a,[],()),())
  else
   Qwg b a c
 else
  Qwg b a c
def Z64:Ent:=⟨[.val t30,.val t45,.val t2],[⟨t30,(nF 13),none⟩,⟨t48,[true],none⟩],fun x=>Qlr x.1 x.2.1 x.2.2.1⟩
theorem Z1k:GD 65 Z64:=fnk 1 (fr [[2,3,4,6,25,0,36,45,0,49,57,0,61,82,0,86,89,0,97,141,0,145],[2,3,4,6,37,45,0,49,57,0,61,82,0,86,89,0,97,141,0,145],[6,7],[2,3,4,6,50,57,0,61,82,0,86,89,0,97,141,0,145],[2,3,4,6,57,0,61,82,0,86,89,0,97,141,0,145],[2,3,4,6,8,82,0,86,89,0,97,141,0,145],[2,3,4,6,8,64,82,0,86,89,0,97,141,0,145],[2,3,4,6,8,64,65,82,0,86,89,0,97,141,0,145],[2,3,4,6,10,82,0,86,89,0,97],[2,3,4,6,10,11,82,0,86,89,0,97],[2,3,4,6,10,11,77,82,0,86,89,0,97],[2,3,4,6,10,11,82,0,86,89,0,97],[2,3,4,6,98],[6,7],[2,3,4,6],[2,3,6,12],[3,6,12],[6,7],[3,4,6,8,64,128,141,0,145],[6,7],[3,4,6,8,64,135,141,0,145],[3,6,8,146],[3,6,8],[3,6,152],[3,6],[3,4,6,8,64,155],[3,4,6,14],[3,4,6,166],[6,7],[3,6],[3,4,6,8,64,187],[3,4,6,190],[6,7],[3,4,6,15,16],[3,4,6,15,206],[6,7],[3,4,6],[3,4,6,227],[3,6],[3,4,6,237],[3,6],[6,7]]) (Qk1 Qlh (Qk1 Qxs (Qk1 Quw (Qk1 Z1n (Qk1 Z53 (Qk1 Z2r (Qk1 Z66 (Qk1 Z6w (Qk1 Zfl (Qk1 Z8z (Qk1 Z1b (Qk1 Z4a Qk2)))))))))))) Tryz.func65
abbrev Qks:Type:=(Qse × Unit) × (Z4n × Unit)
def Z1e:Ctx:=[(17,Qvk),(25,Qqu),(26,Qop),(38,Za5),(43,Z0r),(60,Qzz),(65,Z64)]
def Qur:Fi:=fr [[0,1,2,6,21,0,23,53,0,56],[0,1,2,6,7,21,0,23,53,0,56],[0,1,2,6,7,8,21,0,23,53,0,56],[0,1,2,6,7,8,21,0,24,53,0,56],[0,1,2,6,7,8,21,0,23,53,0,56],[0,1,2,6,7,8,21,0,23,28,53,0,56],[0,1,2,6,7,8,21,0,23,53,0,56],[0,1,2,6,7,8,21,0,23,28,37,53,0,56],[0,1,2,6,7,8,21,0,23,53,0,56],[0,1,2,6,7,8,21,0,23,28,44,53,0,56],[0,1,2,6,0,9,21,0,23,53,0,56],[0,1,2,6,0,9,21,0,23,53,0,57],[0,1,2,6,0,9,21,0,23,53,0,56],[0,1,2,6,7,8,21,0,23,53,0,56],[0,1,2,6,7,8,21,0,23,53,0,56,83],[0,1,2,6,7,8,10,21,0,23,53,0,56],[0,1,2,6,7,8,10,21,0,23,53,0,56,90],[0,1,2,6,7,8,10,21,0,23,53,0,56],[0,1,2,6,7,8,21,0,23,53,0,56],[0,6]]
abbrev Z12:Type:=Int→Int→Int→List Int→Int→Int→Int→Int→Int→Int→Int→Int→Int→Int→Int→Int→List Int→Qkv→Int→Int→Int→Int→Int→Int→Int→Int→Int→Int→Int→List Int→Qkv→Option Qks
abbrev Qqw:Type:=Int→Int→Int→List Int→Int→Int→Int→Int→Int→Int→Int→Int→Int→Int→Int→Int→List Int→Qkv→Int→Int→Int→Int→Int→Int→List Int→Int→Int→Int→Int→Int→Qkv→Option Qks
def Ql3 (o p q r s t:Int) (z:List Int) (u v w x y:Int) (A:Qkv) (b:(Qvh × Unit) × (Z4n × Unit)) (L2:Qqw) (B C D E c d e f g h i j k l:Int) (m:List Int) (n:Qkv):Option Qks:=
 Option.bind (Qlr (o,p,q,r,s,t,z,u,v,w,x,y,A) b.1.1 1) fun a=>
 L2 B C (wJ (D+1)) b.2.1.1 b.2.1.2 E c d e f g h i j k l m n a.1.1.1 a.1.1.2.1 a.1.1.2.2.1 (g3 a.1.1) (g4 a.1.1) (g5 a.1.1) (g6 a.1.1) (g7 a.1.1) (g8 a.1.1) (g9 a.1.1) (g10 a.1.1) (g11 a.1.1) (h12 a.1.1)
def Qzv (L2:Qqw) (d t u:Int) (T:List Int) (U H v w x y z A B C D E:Int) (F:List Int) (G:Qkv) (h i j f g k l m e n o:Int) (p:List Int) (q:Qkv):Option Qks:=
 bif decide (u<t) then
  Option.bind (Qnw (T,U)) fun J=>
  bif !J.1.1 then
   Option.bind (Qk8 J.2.1 4) fun r=>
   bif r.1.1==0 then
    Option.bind (Qv8 (h,i,j,f,g,k,p,l,m,e,n,o,q)) fun b=>
    L2 d t (wJ (u+1)) r.2.1.1 r.2.1.2 H v w x y z A B C D E F G b.1.1.1 b.1.1.2.1 b.1.1.2.2.1 (g3 b.1.1) (g4 b.1.1) (g5 b.1.1) (g6 b.1.1) (g7 b.1.1) (g8 b.1.1) (g9 b.1.1) (g10 b.1.1) (g11 b.1.1) (h12 b.1.1)
   else
   bif r.1.1==1 then
    Option.bind (Qkx r.2.1 d) fun K=>
    bif e != 0 then
     bif e != d then
      Option.bind (Qk8 K.2.1 2) fun P=>
      Option.bind (Qk8 P.2.1 9) fun Q=>
      Option.bind (Qk8 Q.2.1 22) fun R=>
      Option.bind (Qkn R.2.1) fun s=>
      bif decide (1≤(s.1.1.length:Int))&&decide ((s.1.1.length:Int)≤(s.1.1.length:Int)) then
       bif Nat.ble (1+(List.drop 1 (List.take ((s.1.1.length:Int).toNat) s.1.1)).length) 1073741824 then
        Option.bind (Qk8 s.2.1 4) fun L=>
        Option.bind (Qlr (h,i,j,f,g,k,p,l,m,e,n,o,q) (2,e,d,wJ (1+P.1.1),Q.1.1,R.1.1,[1]++(List.drop 1 (List.take ((s.1.1.length:Int).toNat) s.1.1)),wJ (1+L.1.1),0,zB) 1) fun c=>
        L2 d t (wJ (u+1)) L.2.1.1 L.2.1.2 H v w x y z A B C D E F G c.1.1.1 c.1.1.2.1 c.1.1.2.2.1 (g3 c.1.1) (g4 c.1.1) (g5 c.1.1) (g6 c.1.1) (g7 c.1.1) (g8 c.1.1) (g9 c.1.1) (g10 c.1.1) (g11 c.1.1) (h12 c.1.1)
       else none
      else none
     else
      Ql3 h i j f g k p l m e n o q K L2 d t u H v w x y z A B C D E F G
    else
     Ql3 h i j f g k p l m e n o q K L2 d t u H v w x y z A B C D E F G
   else
   bif r.1.1==2 then
    Option.bind (Qkx r.2.1 d) fun S=>
    bif f != 0 then
     Option.bind (Qk8 S.2.1 30) fun M=>
     Option.bind (Qk8 M.2.1 20) fun N=>
     Option.bind (Qkn N.2.1) fun O=>
     Option.bind (Qk8 O.2.1 9) fun I=>
     Option.bind (Qlr (h,i,j,f,g,k,p,l,m,e,n,o,q) (5,f,d,g,M.1.1,N.1.1,O.1.1,0,I.1.1,zB) 1) fun a=>
     L2 d t (wJ (u+1)) I.2.1.1 I.2.1.2 H v w x y z A B C D E F G a.1.1.1 a.1.1.2.1 a.1.1.2.2.1 (g3 a.1.1) (g4 a.1.1) (g5 a.1.1) (g6 a.1.1) (g7 a.1.1) (g8 a.1.1) (g9 a.1.1) (g10 a.1.1) (g11 a.1.1) (h12 a.1.1)
    else
     Ql3 h i j f g k p l m e n o q S L2 d t u H v w x y z A B C D E F G
   else
    Option.bind (Qkx r.2.1 d) fun V=>
    Ql3 h i j f g k p l m e n o q V L2 d t u H v w x y z A B C D E F G
  else
   some (((h,i,j,f,g,k,p,l,m,e,n,o,q),()),(J.2.1,()))
 else
  some (((h,i,j,f,g,k,p,l,m,e,n,o,q),()),((T,U),()))
def Qlk (L2:Qqw) (d t u:Int) (T:List Int) (U v w x y z A B C D E F:Int) (G:List Int) (H:Qkv) (h i j f g k:Int) (l:List Int) (m n e o p:Int) (q:Qkv):Option Qks:=
 bif decide (u<t) then
  Option.bind (Qnw (T,U)) fun I=>
  bif !I.1.1 then
   Option.bind (Qk8 I.2.1 4) fun r=>
   bif r.1.1==0 then
    Option.bind (Qv8 (h,i,j,f,g,k,l,m,n,e,o,p,q)) fun a=>
    L2 d t (wJ (u+1)) r.2.1.1 r.2.1.2 v w x y z A B C D E F G H a.1.1.1 a.1.1.2.1 a.1.1.2.2.1 (g3 a.1.1) (g4 a.1.1) (g5 a.1.1) (g6 a.1.1) (g7 a.1.1) (g8 a.1.1) (g9 a.1.1) (g10 a.1.1) (g11 a.1.1) (h12 a.1.1)
   else
   bif r.1.1==1 then
    Option.bind (Qkx r.2.1 d) fun J=>
    bif e != 0 then
     bif e != d then
      Option.bind (Qk8 J.2.1 2) fun M=>
      Option.bind (Qk8 M.2.1 9) fun N=>
      Option.bind (Qk8 N.2.1 22) fun O=>
      Option.bind (Qkn O.2.1) fun s=>
      bif decide (1≤(s.1.1.length:Int))&&decide ((s.1.1.length:Int)≤(s.1.1.length:Int)) then
       bif Nat.ble (1+(List.drop 1 (List.take ((s.1.1.length:Int).toNat) s.1.1)).length) 1073741824 then
        Option.bind (Qk8 s.2.1 4) fun K=>
        Option.bind (Qlr (h,i,j,f,g,k,l,m,n,e,o,p,q) (2,e,d,wJ (1+M.1.1),N.1.1,O.1.1,[1]++(List.drop 1 (List.take ((s.1.1.length:Int).toNat) s.1.1)),wJ (1+K.1.1),0,zB) 1) fun b=>
        L2 d t (wJ (u+1)) K.2.1.1 K.2.1.2 v w x y z A B C D E F G H b.1.1.1 b.1.1.2.1 b.1.1.2.2.1 (g3 b.1.1) (g4 b.1.1) (g5 b.1.1) (g6 b.1.1) (g7 b.1.1) (g8 b.1.1) (g9 b.1.1) (g10 b.1.1) (g11 b.1.1) (h12 b.1.1)
       else none
      else none
     else
      Ql3 h i j f g k l m n e o p q J L2 d t u v w x y z A B C D E F G H
    else
     Ql3 h i j f g k l m n e o p q J L2 d t u v w x y z A B C D E F G H
   else
   bif r.1.1==2 then
    Option.bind (Qkx r.2.1 d) fun P=>
    bif f != 0 then
     Option.bind (Qk8 P.2.1 30) fun Q=>
     Option.bind (Qk8 Q.2.1 20) fun R=>
     Option.bind (Qkn R.2.1) fun S=>
     Option.bind (Qk8 S.2.1 9) fun L=>
     Option.bind (Qlr (h,i,j,f,g,k,l,m,n,e,o,p,q) (5,f,d,g,Q.1.1,R.1.1,S.1.1,0,L.1.1,zB) 1) fun c=>
     L2 d t (wJ (u+1)) L.2.1.1 L.2.1.2 v w x y z A B C D E F G H c.1.1.1 c.1.1.2.1 c.1.1.2.2.1 (g3 c.1.1) (g4 c.1.1) (g5 c.1.1) (g6 c.1.1) (g7 c.1.1) (g8 c.1.1) (g9 c.1.1) (g10 c.1.1) (g11 c.1.1) (h12 c.1.1)
    else
     Ql3 h i j f g k l m n e o p q P L2 d t u v w x y z A B C D E F G H
   else
    Option.bind (Qkx r.2.1 d) fun V=>
    Ql3 h i j f g k l m n e o p q V L2 d t u v w x y z A B C D E F G H
  else
   some (((h,i,j,f,g,k,l,m,n,e,o,p,q),()),(I.2.1,()))
 else
  some (((h,i,j,f,g,k,l,m,n,e,o,p,q),()),((T,U),()))
def Qrx (L1:Z12) (f:Z4n) (c e:Int):Option Qks:=
 Option.bind (Qk8 f 5) fun d=>
 Option.bind (Qk8 d.2.1 4) fun b=>
 Option.bind (Qwq c 2 d.1.1 b.1.1) fun a=>
 L1 c e 0 b.2.1.1 b.2.1.2 0 0 0 0 0 0 0 0 0 0 0 [] [] a.1.1.1 a.1.1.2.1 a.1.1.2.2.1 (g3 a.1.1) (g4 a.1.1) (g5 a.1.1) (g7 a.1.1) (g8 a.1.1) (g9 a.1.1) (g10 a.1.1) (g11 a.1.1) (g6 a.1.1) (h12 a.1.1)
def Qo6 (n:Nat):Nat→Qqw:=iter (fun _ _ _ _ _ _ _ _ _ _ _ _ _ _ _ _ _ _ _ _ _ _ _ _ _ _ _ _ _ _ _=>none) fun L=>Qlk L
def Qut (n:Nat):Nat→Z12:=Qjd (fun _ _ _ _ _ _ _ _ _ _ _ _ _ _ _ _ _ _ _ _ _ _ _ _ _ _ _ _ _ _ _=>none) fun m L=>Qzv (Qo6 n m)
def Quh (n m:Nat) (B C D:Int) (E:List Int) (F G a b c d e f g h i j:Int) (k:List Int) (l:Qkv) (o p q r s t u v w x y:Int) (z:List Int) (A:Qkv):Option Qks:=
 Qjr Z1e tab (fiB [.box 75 t74 [false,false],.val t2,.val t2] Qur) n [.box 75 t74 [false,false],.val t2,.val t2] [⟨t30,(nF 13),none⟩] Tryz.f41 [1,1,0,1,0] [] [0,1,2,6,7,8] m
 ⟨[(0,V1 (.ptr (0,0) 0)),(1,Vp t2 B),(2,Vp t2 C),(6,V1 (.ptr (6,0) 0)),(7,V1 (.ptr (7,0) 0)),(8,Vp t2 D)],[((0,0),Ob.box 75 [LV.pure t25 E,LV.pure t2 F]),((6,0),Ob.box 31 [LV.pure t2 G,LV.pure t2 a,LV.pure t2 b,LV.pure t2 c,LV.pure t2 d,LV.pure t2 e,LV.ref (6,7),LV.pure t2 f,LV.pure t2 g,LV.pure t2 h,LV.pure t2 i,LV.pure t2 j,LV.ref (6,13)]),((6,7),Ob.row 3 t2 k),((6,13),Ob.row 53 t52 l),((7,0),Ob.box 31 [LV.pure t2 o,LV.pure t2 p,LV.pure t2 q,LV.pure t2 r,LV.pure t2 s,LV.pure t2 t,LV.ref (7,7),LV.pure t2 u,LV.pure t2 v,LV.pure t2 w,LV.pure t2 x,LV.pure t2 y,LV.ref (7,13)]),((7,7),Ob.row 3 t2 z),((7,13),Ob.row 53 t52 A)]⟩
def Qqt (n m:Nat) (a b c:Int) (d:List Int) (e f g h i j k l o p q r:Int) (s:List Int) (t:Qkv) (u v w x y z:Int) (A:List Int) (B C D E F:Int) (G:Qkv):Option Qks:=
 Qjr Z1e tab (fiB [.box 75 t74 [false,false],.val t2,.val t2] Qur) n [.box 75 t74 [false,false],.val t2,.val t2] [⟨t30,(nF 13),none⟩] Tryz.f41 [1,1,0,1,0] [] [0,1,2,6,7,8] m
 ⟨[(0,V1 (.ptr (0,0) 0)),(1,Vp t2 a),(2,Vp t2 b),(6,V1 (.ptr (6,0) 0)),(7,V1 (.ptr (7,0) 0)),(8,Vp t2 c)],[((0,0),Ob.box 75 [LV.pure t25 d,LV.pure t2 e]),((6,0),Ob.box 31 [LV.pure t2 f,LV.pure t2 g,LV.pure t2 h,LV.pure t2 i,LV.pure t2 j,LV.pure t2 k,LV.ref (6,7),LV.pure t2 l,LV.pure t2 o,LV.pure t2 p,LV.pure t2 q,LV.pure t2 r,LV.ref (6,13)]),((6,7),Ob.row 3 t2 s),((6,13),Ob.row 53 t52 t),((7,0),Ob.box 31 [LV.pure t2 u,LV.pure t2 v,LV.pure t2 w,LV.pure t2 x,LV.pure t2 y,LV.pure t2 z,LV.pure t28 A,LV.pure t2 B,LV.pure t2 C,LV.pure t2 D,LV.pure t2 E,LV.pure t2 F,LV.pure t29 G])]⟩
theorem Qzl (n:Nat):∀ m,Qqt n m=Qo6 n m
 | 0=>rfl
 | m+1=>by rw [show Qqt n (m+1)=Qlk (Qqt n m) from by kernel_rfl,Qzl n m];rfl
theorem Z9y (n:Nat):∀ m,Quh n m=Qut n m
 | 0=>rfl
 | m+1=>by rw [show Quh n (m+1)=Qzv (Qqt n m) from by kernel_rfl,Qzl n m];rfl
def Z25 (n:Nat) (c:Z4n) (a b:Int):Option Qks:=Qrx (Qut n n) c a b
def Qxl (c:Z4n) (a b:Int):Option Qks:=Z25 1099511627776 c a b
def Zck:Ent:=⟨[.box 75 t74 [false,false],.val t2,.val t2],[⟨t30,(nF 13),none⟩],fun x=>Qxl x.1 x.2.1 x.2.2.1⟩
theorem Z96:GD 41 Zck:=fnl Qur (fun n x=>Z25 n x.1 x.2.1 x.2.2.1) (Qk1 Qy0 (Qk1 Qs2 (Qk1 Ql6 (Qk1 Z44 (Qk1 Qxb (Qk1 Z2u (Qk1 Z1k Qk2))))))) Tryz.func41 fun n x=>Eq.trans (b:=Qrx (Quh n n) x.1 x.2.1 x.2.2.1) (by kernel_rfl) (by rw [Z9y n n];rfl)
def Qmp (a:Qwt) (b:Int):Option ((Qwt × Unit) × Unit):=
 bif decide (a.1>0) then
  bif decide (b≤1000000) then
   some (((u1 a (if b>a.2.1 then b else a.2.1)),()),())
  else
   some ((a,()),())
 else
  some ((a,()),())
def Z68:Ent:=⟨[.val t36,.val t2],[⟨t36,(nF 7),none⟩],fun x=>Qmp x.1 x.2.1⟩
theorem Qot:GD 66 Z68:=fnk 1 (fo [[1,2,4,9,10],[1,2,4,11],[2,4],[4]]) Qk2 Tryz.func66
def Qtq (a:Qwt) (b:Int):Option ((Qwt × Unit) × Unit):=
 bif decide (a.1>0) then
  Option.bind (Qmp a (wJ (b - 1))) fun c=>
  some ((c.1.1,()),())
 else
 bif decide (b ≥ 1) then
  bif decide (b≤1000000) then
   some (((b,a.2),()),())
  else
   some ((a,()),())
 else
  some ((a,()),())
def Z5v:Ent:=⟨[.val t36,.val t2],[⟨t36,(nF 7),none⟩],fun x=>Qtq x.1 x.2.1⟩
theorem Z1q:GD 67 Z5v:=fnk 1 (fo [[1,2,4,15,16],[1,2,4,7,15,16],[4],[1,2,4,17],[2,4],[4]]) (Qk1 Qot Qk2) Tryz.func67
def Ql1 (a:Int × Int):Option ((Bool × Unit) × Unit):=
 bif decide (a.1 ≥ 1) then
  bif decide (a.1≤a.2) then
   some ((decide (a.2≤1000000),()),())
  else
   some ((false,()),())
 else
  some ((false,()),())
def Z4o:Ent:=⟨[.val t34],[⟨t4,[false],none⟩],fun x=>Ql1 x.1⟩
theorem Quz:GD 107 Z4o:=fnk 1 (fr [[1,7,0,11,14,0,16],[2]]) Qk2 Tryz.func107
def Qns (a:Qkl):Option ((Int × Unit) × Unit):=
 bif (a.length:Int)==0 then
  some ((0,()),())
 else
 bif decide (0<(a.length:Int)) then
  some (((List.getD a 0 (0,zB)).1,()),())
 else none
def Z6k:Ent:=⟨[.val t32],[⟨t2,[false],none⟩],fun x=>Qns x.1⟩
theorem Z1c:GD 168 Z6k:=fnk 1 (fo [[0],[0,5],[2],[2]]) Qk2 Tryz.func168
def Qqc (a:Qlw) (c b d:Int):Option ((Qlw × Unit) × Unit):=
 bif Nat.ble (0+a.length) 1073741824 then
  bif Nat.ble (([]++a).length+1) 1073741824 then
   some ((([]++a)++[(2,c,b,zB,d)],()),())
  else none
 else none
def Z7z:Ent:=⟨[.val t33,.val t2,.val t2,.val t2],[⟨t33,[true],none⟩],fun x=>Qqc x.1 x.2.1 x.2.2.1 x.2.2.2.1⟩
theorem Zdm:GD 169 Z7z:=fnk 1 (fo [[0,1,2,3],[8]]) Qk2 Tryz.func169
def Qp7 (a:Qkl) (b:Int):Option ((Qkl × Zgs × Bool × Unit) × Unit):=
 bif (a.length:Int)==0 then
  some ((a,(0,zB),false,()),())
 else
 bif decide (0<(a.length:Int)) then
  bif ((List.getD a 0 (0,zB)).1) != b then
   some ((a,(0,zB),false,()),())
  else
  bif decide (1≤(a.length:Int))&&decide ((a.length:Int)≤(a.length:Int)) then
   bif Nat.ble (0+(List.drop 1 (List.take ((a.length:Int).toNat) a)).length) 1073741824 then
    bif decide (0<(a.length:Int)) then
     some (([]++(List.drop 1 (List.take ((a.length:Int).toNat) a)),(List.getD a 0 (0,zB)),true,()),())
    else none
   else none
  else none
 else none
def Z32:Ent:=⟨[.val t32,.val t2],[⟨t32,[false],none⟩,⟨t58,[false,false],none⟩,⟨t4,[false],none⟩],fun x=>Qp7 x.1 x.2.1⟩
theorem Za6:GD 170 Z32:=fnk 1 (fr [[0,1,5,11,0,16],[0,5,17],[4,5,6],[4,5,6]]) Qk2 Tryz.func170
def Qs4 (a:Qlw) (b:Int) (c:ByteArray):Option ((Qlw × Unit) × Unit):=
 bif Nat.ble (0+a.length) 1073741824 then
  bif Nat.ble (([]++a).length+1) 1073741824 then
   some ((([]++a)++[(1,b,b,c,0)],()),())
  else none
 else none
def Z7i:Ent:=⟨[.val t33,.val t2,.val t9],[⟨t33,[true],none⟩],fun x=>Qs4 x.1 x.2.1 x.2.2.1⟩
theorem Z39:GD 132 Z7i:=fnk 1 (fo [[0,1,2],[6]]) Qk2 Tryz.func132
def Qs0 (a:Qkl) (b:Zgs):Option ((Qkl × Unit) × Unit):=
 bif Nat.ble (([]++a).length+1) 1073741824 then
  bif decide (((([]++a)++[b]).length:Int)>6) then
   bif decide (1≤((([]++a)++[b]).length:Int))&&decide (((([]++a)++[b]).length:Int)≤((([]++a)++[b]).length:Int)) then
    some ((List.drop 1 (List.take (((([]++a)++[b]).length:Int).toNat) (([]++a)++[b])),()),())
   else none
  else
   some ((([]++a)++[b],()),())
 else none
def Qp8 (a:Qkl) (b:Zgs):Option ((Qkl × Unit) × Unit):=
 bif Nat.ble (0+a.length) 1073741824 then
  bif decide ((a.length:Int)>0) then
   bif ix (wJ ((a.length:Int) - 1)) (a.length:Int) then
    bif decide ((List.getD a ((wJ ((a.length:Int) - 1)).toNat) (0,zB)).1 ≥ b.1) then
     some (([]++a,()),())
    else
     Qs0 a b
   else none
  else
   Qs0 a b
 else none
def Z3m:Ent:=⟨[.val t32,.val t58],[⟨t32,[false],none⟩],fun x=>Qp8 x.1 x.2.1⟩
theorem Qz2:GD 133 Z3m:=fnk 1 (fr [[0,3,13,0,22],[0,3,5,13,0,22],[3,5,23],[4],[5],[5,31],[5],[4]]) Qk2 Tryz.func133
abbrev Qly:Type:=(Qwt × Qkl × Unit) × Unit
def Z8c:Ctx:=[(132,Z7i),(133,Z3m),(170,Z32)]
def Qyg:Fi:={ keep:=[],vty:=[(4,32)],vals:=[],live:=[(0,[1,2]),(1,[1,2,4]),(2,[1,2,4,5,6,7]),(3,[1,2,4,5,6,18]),(4,[2,3]),(5,[1,2,4,6]),(6,[1,2,4,6]),(7,[1,2,4])] }
abbrev Z6q:Type:=Int→Int→Qkl→Qkl→Qlw→Int→Int→Int→Int→Int→Int→Qkl→Qkl→Qlw→Qkl→Option Qly
abbrev Qyh:Type:=Int→Int→Qkl→Qkl→Int→Int→Qlw→Int→Int→Int→Int→Qkl→Qkl→Qlw→Qkl→Option Qly
def Z6y (L2:Qyh) (b d:Int) (e f:Qkl) (g:Qlw) (o p q r j k:Int) (l m:Qkl) (n:Qlw) (c:Qkl):Option Qly:=
 Option.bind (Qp7 f b) fun a=>
 bif !a.1.2.2.1 then
  some (((b,d,e,f,g,o,p),c,()),())
 else
  Option.bind (Qs4 g a.1.2.1.1 a.1.2.1.2) fun h=>
  Option.bind (Qp8 e a.1.2.1) fun i=>
  bif Nat.ble (c.length+1) 1073741824 then
   L2 (wJ (b+1)) d i.1.1 a.1.1 0 0 h.1.1 q r j k l m n (c++[a.1.2.1])
  else none
def Qrl (L2:Qyh) (b d:Int) (e f:Qkl) (j k:Int) (g:Qlw) (l m n o:Int) (p q:Qkl) (r:Qlw) (c:Qkl):Option Qly:=
 Option.bind (Qp7 f b) fun a=>
 bif !a.1.2.2.1 then
  some (((b,d,e,f,g,j,k),c,()),())
 else
  Option.bind (Qs4 g a.1.2.1.1 a.1.2.1.2) fun h=>
  Option.bind (Qp8 e a.1.2.1) fun i=>
  bif Nat.ble (c.length+1) 1073741824 then
   L2 (wJ (b+1)) d i.1.1 a.1.1 0 0 h.1.1 l m n o p q r (c++[a.1.2.1])
  else none
def Z7s (L1:Z6q) (a:Qwt):Option Qly:=
 L1 a.1 a.2.1 a.2.2.1 (g3 a) (g4 a) (g5 a) (h6 a) 0 0 0 0 [] [] [] []
def Qni (n:Nat):Nat→Qyh:=iter (fun _ _ _ _ _ _ _ _ _ _ _ _ _ _ _=>none) fun L=>Qrl L
def Quk (n:Nat):Nat→Z6q:=Qjd (fun _ _ _ _ _ _ _ _ _ _ _ _ _ _ _=>none) fun m L=>Z6y (Qni n m)
def Qyf (n m:Nat) (a h:Int) (i j:Qkl) (k:Qlw) (l o p q b c:Int) (d e:Qkl) (f:Qlw) (g:Qkl):Option Qly:=
 Qjr Z8c tab (fiB [.val t36] Qyg) n [.val t36] [⟨t36,(nF 7),none⟩,⟨t32,[true],none⟩] Tryz.f130 [1,1,0] [] [1,2,4] m
 ⟨[(1,V1 (.ptr (1,0) 0)),(2,V1 (.ptr (2,0) 0)),(4,V1 (.ref (888888,4)))],[((1,0),Ob.box 37 [LV.pure t2 a,LV.pure t2 h,LV.pure t32 i,LV.pure t32 j,LV.pure t33 k,LV.pure t2 l,LV.pure t2 o]),((2,0),Ob.box 37 [LV.pure t2 p,LV.pure t2 q,LV.ref (2,3),LV.ref (2,4),LV.ref (2,5),LV.pure t2 b,LV.pure t2 c]),((2,3),Ob.row 59 t58 d),((2,4),Ob.row 59 t58 e),((2,5),Ob.row 55 t54 f),((888888,4),Ob.row 59 t58 g)]⟩
def Quq (n m:Nat) (a b:Int) (c d:Qkl) (e f:Int) (g:Qlw) (h i j k:Int) (l o:Qkl) (p:Qlw) (q:Qkl):Option Qly:=
 Qjr Z8c tab (fiB [.val t36] Qyg) n [.val t36] [⟨t36,(nF 7),none⟩,⟨t32,[true],none⟩] Tryz.f130 [1,1,0] [] [1,2,4] m
 ⟨[(1,V1 (.ptr (1,0) 0)),(2,V1 (.ptr (2,0) 0)),(4,V1 (.ref (888888,4)))],[((1,0),Ob.box 37 [LV.pure t2 a,LV.pure t2 b,LV.pure t32 c,LV.pure t32 d,LV.ref (1,5),LV.pure t2 e,LV.pure t2 f]),((1,5),Ob.row 55 t54 g),((2,0),Ob.box 37 [LV.pure t2 h,LV.pure t2 i,LV.ref (2,3),LV.ref (2,4),LV.ref (2,5),LV.pure t2 j,LV.pure t2 k]),((2,3),Ob.row 59 t58 l),((2,4),Ob.row 59 t58 o),((2,5),Ob.row 55 t54 p),((888888,4),Ob.row 59 t58 q)]⟩
theorem Z4p (n:Nat):∀ m,Quq n m=Qni n m
 | 0=>rfl
 | m+1=>by rw [show Quq n (m+1)=Qrl (Quq n m) from by kernel_rfl,Z4p n m];rfl
theorem Zf5 (n:Nat):∀ m,Qyf n m=Quk n m
 | 0=>rfl
 | m+1=>by rw [show Qyf n (m+1)=Z6y (Quq n m) from by kernel_rfl,Z4p n m];rfl
def Z80 (n:Nat) (a:Qwt):Option Qly:=Z7s (Quk n n) a
def Qlq (a:Qwt):Option Qly:=Z80 1099511627776 a
def Z82:Ent:=⟨[.val t36],[⟨t36,(nF 7),none⟩,⟨t32,[true],none⟩],fun x=>Qlq x.1⟩
theorem Qsg:GD 130 Z82:=fnl Qyg (fun n x=>Z80 n x.1) (Qk1 Z39 (Qk1 Qz2 (Qk1 Za6 Qk2))) Tryz.func130 fun n x=>Eq.trans (b:=Z7s (Qyf n n) x.1) (by kernel_rfl) (by rw [Zf5 n n];rfl)
abbrev Qkw:Type:=(Qwt × Qmq × Unit) × Unit
def Z6a:Ctx:=[(130,Z82),(168,Z6k),(169,Z7z)]
def Qxi:Fi:={ keep:=[],vty:=[(8,146)],vals:=[(3,5)],live:=[(0,[1,2,3,6,14,15,30,31,32,33,34]),(1,[1,2,3,6,8,14,15,30,31,32,33,34]),(2,[1,2,3,6,8,16,30,31,32,33,34]),(3,[6,7]),(4,[1,2,3,6,8,21,30,31,32,33,34]),(5,[1,2,3,6,8,30,31,32,33,34]),(6,[1,2,3,6,8,9,30,31,32,33,34]),(7,[1,2,3,6,8,9,30,31,32,33,34,35]),(8,[1,2,3,6,8,9,30,31,32,33,34]),(9,[1,2,3,6,8,9,30,31,32,33,34,43]),(10,[1,2,3,6,8,9,30,31,32,33,34]),(11,[1,2,3,6,8,9,30,31,32,33,34]),(12,[1,2,3,6,8,30,31,32,33,34]),(13,[1,2,3,6,8,30,31,32,33,34,65]),(14,[1,2,3,6,8,30,31,32,33,34]),(15,[6,7])] }
abbrev Z48:Type:=Int→Int→Bool→Int→Int→Qkl→Qkl→Qlw→Int→Int→Int→Int→Int→Int→Qkl→Qkl→Qlw→Qmq→Option Qkw
abbrev Qqe:Type:=Int→Int→Int→Int→Qkl→Qkl→Qlw→Int→Int→Int→Int→Int→Int→Qkl→Qkl→Qlw→Qmq→Option Qkw
def Qte (c b m:Int) (n o:Qkl) (p:Qlw) (L2:Qqe) (l d e f g:Int) (h i:Qkl) (j:Qlw) (k:Qmq):Option Qkw:=
 bif decide (c≤b) then
  Option.bind (Qlq (c,m,n,o,p,0,0)) fun a=>
  L2 b l a.1.1.1 a.1.1.2.1 a.1.1.2.2.1 (g3 a.1.1) (g4 a.1.1) (g5 a.1.1) (h6 a.1.1) d e f g h i j k
 else
  L2 b l c m n o p 0 0 d e f g h i j k
def Qoj (a c:Int) (q:Qlw) (e:Int) (d:Qmq) (m:Int) (n o:Qkl) (L2:Qqe) (f g h i:Int) (j k:Qkl) (l:Qlw):Option Qkw:=
 bif decide (a ≥ c) then
  Option.bind (Qqc q c a e) fun p=>
  bif Nat.ble (d.length+1) 1073741824 then
   bif decide (wJ (a+1)≤a) then
    Option.bind (Qlq (wJ (a+1),m,n,o,p.1.1,0,0)) fun b=>
    L2 a e b.1.1.1 b.1.1.2.1 b.1.1.2.2.1 (g3 b.1.1) (g4 b.1.1) (g5 b.1.1) (h6 b.1.1) f g h i j k l (d++[(c,a)])
   else
    L2 a e (wJ (a+1)) m n o p.1.1 0 0 f g h i j k l (d++[(c,a)])
  else none
 else
  Qte c a m n o q L2 e f g h i j k l d
def Z4c (L2:Qqe) (c g:Int) (v:Bool) (a h:Int) (i b:Qkl) (q:Qlw) (u t j k l m:Int) (n o:Qkl) (p:Qlw) (f:Qmq):Option Qkw:=
 bif decide (a≤c) then
  bif decide ((b.length:Int)>0) then
   Option.bind (Qns b) fun s=>
   bif decide (s.1.1≤c) then
    Option.bind (Qns b) fun d=>
    bif decide (wJ (d.1.1 - 1) ≥ a) then
     Option.bind (Qqc q a (wJ (d.1.1 - 1)) g) fun r=>
     bif Nat.ble (f.length+1) 1073741824 then
      bif decide (wJ ((wJ (d.1.1 - 1))+1)≤c) then
       Option.bind (Qlq (wJ ((wJ (d.1.1 - 1))+1),h,i,b,r.1.1,0,0)) fun e=>
       L2 c g e.1.1.1 e.1.1.2.1 e.1.1.2.2.1 (g3 e.1.1) (g4 e.1.1) (g5 e.1.1) (h6 e.1.1) j k l m n o p (f++[(a,wJ (d.1.1 - 1))])
      else
       L2 c g (wJ ((wJ (d.1.1 - 1))+1)) h i b r.1.1 0 0 j k l m n o p (f++[(a,wJ (d.1.1 - 1))])
     else none
    else
     Qte a c h i b q L2 g j k l m n o p f
   else
    Qoj c a q g f h i b L2 j k l m n o p
  else
   Qoj c a q g f h i b L2 j k l m n o p
 else
  some (((a,h,i,b,q,u,t),f,()),())
def Qoe (L2:Qqe) (c g a h:Int) (i b:Qkl) (j:Qlw) (t u k l m n:Int) (o p:Qkl) (q:Qlw) (f:Qmq):Option Qkw:=
 bif decide (a≤c) then
  bif decide ((b.length:Int)>0) then
   Option.bind (Qns b) fun s=>
   bif decide (s.1.1≤c) then
    Option.bind (Qns b) fun d=>
    bif decide (wJ (d.1.1 - 1) ≥ a) then
     Option.bind (Qqc j a (wJ (d.1.1 - 1)) g) fun r=>
     bif Nat.ble (f.length+1) 1073741824 then
      bif decide (wJ ((wJ (d.1.1 - 1))+1)≤c) then
       Option.bind (Qlq (wJ ((wJ (d.1.1 - 1))+1),h,i,b,r.1.1,0,0)) fun e=>
       L2 c g e.1.1.1 e.1.1.2.1 e.1.1.2.2.1 (g3 e.1.1) (g4 e.1.1) (g5 e.1.1) (h6 e.1.1) k l m n o p q (f++[(a,wJ (d.1.1 - 1))])
      else
       L2 c g (wJ ((wJ (d.1.1 - 1))+1)) h i b r.1.1 0 0 k l m n o p q (f++[(a,wJ (d.1.1 - 1))])
     else none
    else
     Qte a c h i b j L2 g k l m n o p q f
   else
    Qoj c a j g f h i b L2 k l m n o p q
  else
   Qoj c a j g f h i b L2 k l m n o p q
 else
  some (((a,h,i,b,j,t,u),f,()),())
def Qv1 (L1:Z48) (a:Qwt) (b c:Int):Option Qkw:=
 bif decide (a.1<1) then
  some ((a,[],()),())
 else
 bif decide (b>1000000) then
  some ((a,[],()),())
 else
  L1 b c (decide (b>1000000)) a.1 a.2.1 a.2.2.1 (g3 a) (g4 a) (g5 a) (h6 a) 0 0 0 0 [] [] [] []
def Qol (n:Nat):Nat→Qqe:=iter (fun _ _ _ _ _ _ _ _ _ _ _ _ _ _ _ _ _=>none) fun L=>Qoe L
def Qqg (n:Nat):Nat→Z48:=Qjd (fun _ _ _ _ _ _ _ _ _ _ _ _ _ _ _ _ _ _=>none) fun m L=>Z4c (Qol n m)
def Qxu (n m:Nat) (a k:Int) (l:Bool) (o p:Int) (q r:Qkl) (s:Qlw) (t b c d e f:Int) (g h:Qkl) (i:Qlw) (j:Qmq):Option Qkw:=
 Qjr Z6a tab (fiB [.val t36,.val t2,.val t2] Qxi) n [.val t36,.val t2,.val t2] [⟨t36,(nF 7),none⟩,⟨Ztc,[true],none⟩] Tryz.f129 [1,1,1,0,0] [] [1,2,3,6,8,16] m
 ⟨[(1,Vp t2 a),(2,Vp t2 k),(3,V1 (.ptr (3,0) 0)),(6,V1 (.ptr (6,0) 0)),(8,V1 (.ref (888888,8))),(16,Vp t4 l)],[((3,0),Ob.box 37 [LV.pure t2 o,LV.pure t2 p,LV.pure t32 q,LV.pure t32 r,LV.pure t33 s,LV.pure t2 t,LV.pure t2 b]),((6,0),Ob.box 37 [LV.pure t2 c,LV.pure t2 d,LV.ref (6,3),LV.ref (6,4),LV.ref (6,5),LV.pure t2 e,LV.pure t2 f]),((6,3),Ob.row 59 t58 g),((6,4),Ob.row 59 t58 h),((6,5),Ob.row 55 t54 i),((888888,8),Ob.row 100 t34 j)]⟩
def Qtj (n m:Nat) (a b c d:Int) (e f:Qkl) (g:Qlw) (h i j k l o:Int) (p q:Qkl) (r:Qlw) (s:Qmq):Option Qkw:=
 Qjr Z6a tab (fiB [.val t36,.val t2,.val t2] Qxi) n [.val t36,.val t2,.val t2] [⟨t36,(nF 7),none⟩,⟨Ztc,[true],none⟩] Tryz.f129 [1,1,1,0,0] [] [1,2,3,6,8,16] m
 ⟨[(1,Vp t2 a),(2,Vp t2 b),(3,V1 (.ptr (3,0) 0)),(6,V1 (.ptr (6,0) 0)),(8,V1 (.ref (888888,8)))],[((3,0),Ob.box 37 [LV.pure t2 c,LV.pure t2 d,LV.pure t32 e,LV.pure t32 f,LV.pure t33 g,LV.pure t2 h,LV.pure t2 i]),((6,0),Ob.box 37 [LV.pure t2 j,LV.pure t2 k,LV.ref (6,3),LV.ref (6,4),LV.ref (6,5),LV.pure t2 l,LV.pure t2 o]),((6,3),Ob.row 59 t58 p),((6,4),Ob.row 59 t58 q),((6,5),Ob.row 55 t54 r),((888888,8),Ob.row 100 t34 s)]⟩
theorem Z3c (n:Nat):∀ m,Qtj n m=Qol n m
 | 0=>rfl
 | m+1=>by rw [show Qtj n (m+1)=Qoe (Qtj n m) from by kernel_rfl,Z3c n m];rfl
theorem Zdo (n:Nat):∀ m,Qxu n m=Qqg n m
 | 0=>rfl
 | m+1=>by rw [show Qxu n (m+1)=Z4c (Qtj n m) from by kernel_rfl,Z3c n m];rfl
def Z5r (n:Nat) (a:Qwt) (b c:Int):Option Qkw:=Qv1 (Qqg n n) a b c
def Qwz (a:Qwt) (b c:Int):Option Qkw:=Z5r 1099511627776 a b c
def Zgz:Ent:=⟨[.val t36,.val t2,.val t2],[⟨t36,(nF 7),none⟩,⟨Ztc,[true],none⟩],fun x=>Qwz x.1 x.2.1 x.2.2.1⟩
theorem Z23:GD 129 Zgz:=fnl Qxi (fun n x=>Z5r n x.1 x.2.1 x.2.2.1) (Qk1 Qsg (Qk1 Z1c (Qk1 Zdm Qk2))) Tryz.func129 fun n x=>Eq.trans (b:=Qv1 (Qxu n n) x.1 x.2.1 x.2.2.1) (by kernel_rfl) (by rw [Zdo n n];rfl)
def Qts (b:Qwt) (d c:Int):Option ((Qwt × Unit) × Unit):=
 bif b.1==0 then
  some ((b,()),())
 else
  Option.bind (Ql1 (d,c)) fun e=>
  bif !e.1.1 then
   some ((b,()),())
  else
   Option.bind (Qmp b c) fun a=>
   bif decide (a.1.1.1<d) then
    some ((a.1.1,()),())
   else
   bif decide (a.1.1.1>c) then
    some ((a.1.1,()),())
   else
    Option.bind (Qwz a.1.1 c 1) fun f=>
    Option.bind (Qlq f.1.1) fun g=>
    some ((g.1.1,()),())
def Z5n:Ent:=⟨[.val t36,.val t2,.val t2],[⟨t36,(nF 7),none⟩],fun x=>Qts x.1 x.2.1 x.2.2.1⟩
theorem Z1x:GD 69 Z5n:=fnk 1 (fr [[1,2,3,6,11,0,15,26,0,29],[1,2,3,6,16,26,0,29],[6],[1,2,3,6,26,0,29],[2,3,6,30],[6],[3,6],[3,6],[6]]) (Qk1 Qot (Qk1 Quz (Qk1 Z23 (Qk1 Qsg Qk2)))) Tryz.func69
def Qww (a:Qwt):Option (((Int × Int) × Bool × Unit) × Unit):=
 bif decide (((g3 a).length:Int)>0) then
  Option.bind (Qns (g3 a)) fun b=>
  bif a.1==0 then
   some (((0,0),false,()),())
  else
  bif decide (wJ (b.1.1 - 1)<a.1) then
   some (((0,0),false,()),())
  else
   some (((a.1,wJ (b.1.1 - 1)),true,()),())
 else
 bif a.1==0 then
  some (((0,0),false,()),())
 else
 bif decide (a.2.1<a.1) then
  some (((0,0),false,()),())
 else
  some (((a.1,a.2.1),true,()),())
def Zh7:Ent:=⟨[.val t36],[⟨t34,[false,false],none⟩,⟨t4,[false],none⟩],fun x=>Qww x.1⟩
theorem Zcf:GD 127 Zh7:=fnk 1 (fr [[1,2,19,0,22],[1,2,4,19,0,22],[1,2,4,10,19,0,22],[1,2,4,19,0,22],[1,2,4,23],[2,3],[2,3]]) (Qk1 Z1c Qk2) Tryz.func127
def Z2k (a:Int × Int) (b:Int):Option ((Bool × Unit) × Unit):=
 bif a.1==0 then
  some ((true,()),())
 else
  some ((decide (b ≥ a.2),()),())
def Zmc:Ent:=⟨[.val t34,.val t2],[⟨t4,[false],none⟩],fun x=>Z2k x.1 x.2.1⟩
theorem Zhc:GD 128 Zmc:=fnk 1 (fr [[1,2,9,0,12],[4]]) Qk2 Tryz.func128
abbrev Qq8:Type:=((Int × Int) × Unit) × Unit
def Zj4:Ctx:=[]
def Z6i:Fi:=fr [[1,2,4,12,13],[1,2,4,5,12,13],[1,2,4,5,6,12,13],[1,2,4,5,6,12,0,14],[1,2,4,5,6,12,13],[1,2,4,5,6,12,13],[4]]
abbrev Qyu:Type:=Int→Int→Int→Int→Int→Int→Int→Option Qq8
def Quo (L1:Qyu) (b c d a e f g:Int):Option Qq8:=
 bif decide (d<a) then
  bif decide (d<3) then
   L1 b (wJ (c*2)) (wJ (d+1)) a e f g
  else
   some (((wJ (a+1),wJ (b+c)),()),())
 else
  some (((wJ (a+1),wJ (b+c)),()),())
def Z7x (L1:Qyu) (a:Int × Int) (b:Int):Option Qq8:=
 L1 b 2 0 a.1 a.2 0 0
def Qoy (n:Nat):Nat→Qyu:=iter (fun _ _ _ _ _ _ _=>none) fun L=>Quo L
def Quc (n m:Nat) (a b c d e f g:Int):Option Qq8:=
 Qjr Zj4 tab (fiB [.val t34,.val t2] Z6i) n [.val t34,.val t2] [⟨t34,[false,false],none⟩] Tryz.f131 [1,1,0,1,0] [] [1,2,4,5,6] m
 ⟨[(1,Vp t2 a),(2,V1 (.ptr (2,0) 0)),(4,V1 (.ptr (4,0) 0)),(5,Vp t2 b),(6,Vp t2 c)],[((2,0),Ob.box 35 [LV.pure t2 d,LV.pure t2 e]),((4,0),Ob.box 35 [LV.pure t2 f,LV.pure t2 g])]⟩
theorem Z50 (n:Nat):∀ m,Quc n m=Qoy n m
 | 0=>rfl
 | m+1=>by rw [show Quc n (m+1)=Quo (Quc n m) from by kernel_rfl,Z50 n m];rfl
def Z8n (n:Nat) (a:Int × Int) (b:Int):Option Qq8:=Z7x (Qoy n n) a b
def Z3q (a:Int × Int) (b:Int):Option Qq8:=Z8n 1099511627776 a b
def Zjb:Ent:=⟨[.val t34,.val t2],[⟨t34,[false,false],none⟩],fun x=>Z3q x.1 x.2.1⟩
theorem Zek:GD 131 Zjb:=fnl Z6i (fun n x=>Z8n n x.1 x.2.1) Qk2 Tryz.func131 fun n x=>Eq.trans (b:=Z7x (Quc n n) x.1 x.2.1) (by kernel_rfl) (by rw [Z50 n n];rfl)
def Qs6 (a:Qwt) (c:Int):Option ((Qwt × (Int × Int) × Bool × Unit) × Unit):=
 Option.bind (Qww a) fun b=>
 bif !b.1.2.1 then
  some ((a,(0,0),false,()),())
 else
  Option.bind (Z2k (h5 a) c) fun d=>
  bif !d.1.1 then
   some ((a,(0,0),false,()),())
  else
  bif decide ((g5 a) ≥ 3) then
   Option.bind (Qwz a b.1.1.2 2) fun e=>
   Option.bind (Qlq e.1.1) fun f=>
   some ((f.1.1,(0,0),false,()),())
  else
   Option.bind (Z3q (h5 a) c) fun g=>
   some (((e5 a g.1.1),b.1.1,true,()),())
def Z0i:Ent:=⟨[.val t36,.val t2],[⟨t36,(nF 7),none⟩,⟨t34,[false,false],none⟩,⟨t4,[false],none⟩],fun x=>Qs6 x.1 x.2.1⟩
theorem Z33:GD 61 Z0i:=fnk 1 (fr [[1,2,4,5,17,0,21],[1,2,4,5,7,8,17,0,21],[1,2,4,5,7,22],[4,5,6],[1,2,4,5,7,28],[2,4,5],[2,4,5],[4,5,6],[2,4,5,7],[4,5,6]]) (Qk1 Zcf (Qk1 Zhc (Qk1 Z23 (Qk1 Qsg (Qk1 Zek Qk2))))) Tryz.func61
abbrev Qrc:Type:=(ByteArray × Bool × Unit) × Unit
def Zko:Ctx:=[]
def Z7d:Fi:=fo [[0,1],[0,1,6],[0,1,6,10],[0,1,6],[0,1,6,19],[4,5],[4,5]]
abbrev Z0u:Type:=Qkl→Int→Int→Option Qrc
def Qq5 (L1:Z0u) (a:Qkl) (c b:Int):Option Qrc:=
 bif decide (b<(a.length:Int)) then
  bif ix b (a.length:Int) then
   bif ((List.getD a b.toNat (0,zB)).1)==c then
    bif ix b (a.length:Int) then
     some (((List.getD a b.toNat (0,zB)).2,true,()),())
    else none
   else
    L1 a c (wJ (b+1))
  else none
 else
  some ((zB,false,()),())
def Za7 (L1:Z0u) (a:Qkl) (b:Int):Option Qrc:=
 L1 a b 0
def Qsm (n:Nat):Nat→Z0u:=iter (fun _ _ _=>none) fun L=>Qq5 L
def Qvq (n m:Nat) (a:Qkl) (b c:Int):Option Qrc:=
 Qjr Zko tab (fiB [.val t32,.val t2] Z7d) n [.val t32,.val t2] [⟨t9,[false],none⟩,⟨t4,[false],none⟩] Tryz.f172 [1,0,1,0] [] [0,1,6] m
 ⟨[(0,Vp t32 a),(1,Vp t2 b),(6,Vp t2 c)],[]⟩
theorem Z71 (n:Nat):∀ m,Qvq n m=Qsm n m
 | 0=>rfl
 | m+1=>by rw [show Qvq n (m+1)=Qq5 (Qvq n m) from by kernel_rfl,Z71 n m];rfl
def Zak (n:Nat) (a:Qkl) (b:Int):Option Qrc:=Za7 (Qsm n n) a b
def Z0c (a:Qkl) (b:Int):Option Qrc:=Zak 1099511627776 a b
def Z2i:Ent:=⟨[.val t32,.val t2],[⟨t9,[false],none⟩,⟨t4,[false],none⟩],fun x=>Z0c x.1 x.2.1⟩
theorem Z4x:GD 172 Z2i:=fnl Z7d (fun n x=>Zak n x.1 x.2.1) Qk2 Tryz.func172 fun n x=>Eq.trans (b:=Za7 (Qvq n n) x.1 x.2.1) (by kernel_rfl) (by rw [Z71 n n];rfl)
abbrev Qmz:Type:=(Qkl × Bool × Unit) × Unit
def Zfg:Ctx:=[(172,Z2i)]
def Z37:Fi:={ keep:=[],vty:=[(10,32)],vals:=[],live:=[(0,[0,1,5,25,26,27,28,29,32,44,45,46,47,48,49,50,51]),(1,[0,1,5,9,25,26,27,28,29,32,44,45,46,47,48,49,50,51]),(2,[0,5,33,44,45,46,47,48,49,50,51]),(3,[6,7]),(4,[0,5,10,44,45,46,47,48,49,50,51]),(5,[0,5,10,11,44,45,46,47,48,49,50,51]),(6,[0,5,10,11,12,44,45,46,47,48,49,50,51]),(7,[0,5,10,11,12,38,44,45,46,47,48,49,50,51]),(8,[0,5,10,11,12,44,45,46,47,48,49,50,51]),(9,[0,5,10,11,12,44,45,46,47,48,49,50,51,52]),(10,[0,5,10,11,12,44,45,46,47,48,49,50,51]),(11,[0,5,10,11,12,44,45,46,47,48,49,50,51]),(12,[5,10,65]),(13,[10]),(14,[6,7])] }
abbrev Qsc:Type:=Qkl→Bool→Int→Int→ByteArray→Qkl→Option Qmz
def Qsw (b:Int) (a c:Qkl) (L1:Qsc) (d:Bool) (e:Int) (f:ByteArray):Option Qmz:=
 bif ix b (a.length:Int) then
  bif Nat.ble (c.length+1) 1073741824 then
   L1 a d (wJ (b+1)) e f (c++[(List.getD a b.toNat (0,zB))])
  else none
 else none
def Qku (L1:Qsc) (a:Qkl) (f:Bool) (b d:Int) (e:ByteArray) (c:Qkl):Option Qmz:=
 bif decide (b<(a.length:Int)) then
  bif !f then
   bif ix b (a.length:Int) then
    bif decide ((List.getD a b.toNat (0,zB)).1>d) then
     bif Nat.ble (c.length+1) 1073741824 then
      bif ix b (a.length:Int) then
       bif Nat.ble ((c++[(d,e)]).length+1) 1073741824 then
        L1 a true (wJ (b+1)) d e ((c++[(d,e)])++[(List.getD a b.toNat (0,zB))])
       else none
      else none
     else none
    else
     Qsw b a c L1 f d e
   else none
  else
   Qsw b a c L1 f d e
 else
 bif !f then
  bif Nat.ble (c.length+1) 1073741824 then
   some ((c++[(d,e)],true,()),())
  else none
 else
  some ((c,true,()),())
def Qtg (L1:Qsc) (a:Qkl) (c:Int) (b:Zgs):Option Qmz:=
 Option.bind (Z0c a b.1) fun d=>
 bif decide (b.1<c) then
  some ((a,false,()),())
 else
 bif decide (wJ (b.1 - c) ≥ 8) then
  some ((a,false,()),())
 else
 bif d.1.2.1 then
  some ((a,false,()),())
 else
  L1 a false 0 b.1 b.2 []
def Ql2 (n:Nat):Nat→Qsc:=iter (fun _ _ _ _ _ _=>none) fun L=>Qku L
def Qsx (n m:Nat) (a:Qkl) (b:Bool) (c d:Int) (e:ByteArray) (f:Qkl):Option Qmz:=
 Qjr Zfg tab (fiB [.val t32,.val t2,.val t58] Z37) n [.val t32,.val t2,.val t58] [⟨t32,[false],none⟩,⟨t4,[false],none⟩] Tryz.f140 [1,1,1,1,1,0,1,0] [] [0,5,10,11,12] m
 ⟨[(0,Vp t32 a),(5,V1 (.ptr (5,0) 0)),(10,V1 (.ref (888888,10))),(11,Vp t4 b),(12,Vp t2 c)],[((5,0),Ob.box 59 [LV.pure t2 d,LV.pure t9 e]),((888888,10),Ob.row 59 t58 f)]⟩
theorem Z1m (n:Nat):∀ m,Qsx n m=Ql2 n m
 | 0=>rfl
 | m+1=>by rw [show Qsx n (m+1)=Qku (Qsx n m) from by kernel_rfl,Z1m n m];rfl
def Z3x (n:Nat) (a:Qkl) (b:Int) (c:Zgs):Option Qmz:=Qtg (Ql2 n n) a b c
def Z0p (a:Qkl) (b:Int) (c:Zgs):Option Qmz:=Z3x 1099511627776 a b c
def Zf6:Ent:=⟨[.val t32,.val t2,.val t58],[⟨t32,[false],none⟩,⟨t4,[false],none⟩],fun x=>Z0p x.1 x.2.1 x.2.2.1⟩
theorem Zaw:GD 140 Zf6:=fnl Z37 (fun n x=>Z3x n x.1 x.2.1 x.2.2.1) (Qk1 Z4x Qk2) Tryz.func140 fun n x=>Eq.trans (b:=Qtg (Qsx n n) x.1 x.2.1 x.2.2.1) (by kernel_rfl) (by rw [Z1m n n];rfl)
def Qu1 (a:Qwt) (b:Zgs):Option ((Qwt × Unit) × Unit):=
 bif a.1==0 then
  some ((a,()),())
 else
 bif decide (b.1<1) then
  some ((a,()),())
 else
 bif decide (b.1>1000000) then
  some ((a,()),())
 else
 bif decide ((b.2.size:Int)>12) then
  some ((a,()),())
 else
  Option.bind (Qmp a b.1) fun c=>
  Option.bind (Z0p (g3 c.1.1) c.1.1.1 b) fun d=>
  Option.bind (Qlq (u3 c.1.1 d.1.1)) fun e=>
  some ((e.1.1,()),())
def Z5w:Ent:=⟨[.val t36,.val t58],[⟨t36,(nF 7),none⟩],fun x=>Qu1 x.1 x.2.1⟩
theorem Z1f:GD 68 Z5w:=fnk 1 (fr [[2,3,4,9,0,11,14,0,16,19,0,22],[2,3,4,23],[4],[2,3,4],[2,4],[2,4],[4]]) (Qk1 Qot (Qk1 Qsg (Qk1 Zaw Qk2))) Tryz.func68
abbrev Qmt:Type:=(Qwt × Unit) × (Z4n × Unit)
def Zbg:Ctx:=[(25,Qqu),(26,Qop),(44,Z0e),(61,Z0i),(66,Z68),(67,Z5v),(68,Z5w),(69,Z5n)]
def Qyw:Fi:=fr [[0,1,4,18,0,20],[0,1,4,5,18,0,20],[0,1,4,5,6,18,0,20],[0,1,4,0,7,18,0,20],[0,1,4,0,7,18,0,21],[0,1,4,0,7,18,0,20],[0,1,4,0,7,18,0,20,25],[0,1,4,0,7,18,0,20],[0,1,4,0,7,18,0,20,25,38],[0,1,4,0,8,18,0,20],[0,1,4,0,7,18,0,20],[0,1,4,0,7,18,0,20,25,54],[0,1,4,0,7,18,0,20],[0,1,4,0,7,18,0,20,63],[0,1,4,0,7,18,0,20],[0,1,4,0,7,18,0,20],[0,4]]
abbrev Qtw:Type:=Int→Int→Int→List Int→Int→Int→Int→Int→Int→Qkl→Qkl→Qlw→Int→Int→Qkl→Qkl→Qlw→Int→Int→Option Qmt
def Qld (L1:Qtw) (n o p:Int) (D:List Int) (E w x r s:Int) (t u:Qkl) (v:Qlw) (a g:Int) (h i:Qkl) (j:Qlw) (k l:Int):Option Qmt:=
 bif decide (p<n) then
  Option.bind (Qnw (D,E)) fun y=>
  bif !y.1.1 then
   Option.bind (Qk8 y.2.1 6) fun b=>
   bif b.1.1==0 then
    Option.bind (Qk8 b.2.1 3) fun m=>
    Option.bind (Qk8 m.2.1 4) fun z=>
    Option.bind (Qts (a,g,h,i,j,k,l) (if wJ ((wJ (a - 1))+m.1.1)>1 then wJ ((wJ (a - 1))+m.1.1) else 1) (wJ ((if wJ ((wJ (a - 1))+m.1.1)>1 then wJ ((wJ (a - 1))+m.1.1) else 1)+z.1.1))) fun c=>
    L1 n o (wJ (p+1)) z.2.1.1 z.2.1.2 w x r s t u v c.1.1.1 c.1.1.2.1 c.1.1.2.2.1 (g3 c.1.1) (g4 c.1.1) (g5 c.1.1) (h6 c.1.1)
   else
   bif b.1.1==1 then
    Option.bind (Qk8 b.2.1 5) fun A=>
    Option.bind (Qmp (a,g,h,i,j,k,l) (wJ (a+A.1.1))) fun d=>
    L1 n o (wJ (p+1)) A.2.1.1 A.2.1.2 w x r s t u v d.1.1.1 d.1.1.2.1 d.1.1.2.2.1 (g3 d.1.1) (g4 d.1.1) (g5 d.1.1) (h6 d.1.1)
   else
   bif b.1.1==2 then
    Option.bind (Qk8 b.2.1 6) fun q=>
    Option.bind (Qs6 (a,g,h,i,j,k,l) (wJ ((wJ (o+1))+q.1.1))) fun e=>
    L1 n (wJ ((wJ (o+1))+q.1.1)) (wJ (p+1)) q.2.1.1 q.2.1.2 w x r s t u v e.1.1.1 e.1.1.2.1 e.1.1.2.2.1 (g3 e.1.1) (g4 e.1.1) (g5 e.1.1) (h6 e.1.1)
   else
    Option.bind (Qk8 b.2.1 5) fun B=>
    Option.bind (Qmc B.2.1) fun C=>
    Option.bind (Qu1 (a,g,h,i,j,k,l) (if wJ ((wJ (a - 1))+B.1.1)>1 then wJ ((wJ (a - 1))+B.1.1) else 1,C.1.1)) fun f=>
    L1 n o (wJ (p+1)) C.2.1.1 C.2.1.2 w x r s t u v f.1.1.1 f.1.1.2.1 f.1.1.2.2.1 (g3 f.1.1) (g4 f.1.1) (g5 f.1.1) (h6 f.1.1)
  else
   some (((a,g,h,i,j,k,l),()),(y.2.1,()))
 else
  some (((a,g,h,i,j,k,l),()),((D,E),()))
def Qqs (L1:Qtw) (d:Z4n) (c:Int):Option Qmt:=
 Option.bind (Qk8 d 5) fun b=>
 Option.bind (Qtq (0,0,[],[],[],0,0) (wJ (1+b.1.1))) fun a=>
 L1 c 0 0 b.2.1.1 b.2.1.2 0 0 0 0 [] [] [] a.1.1.1 a.1.1.2.1 a.1.1.2.2.1 (g3 a.1.1) (g4 a.1.1) (g5 a.1.1) (h6 a.1.1)
def Qm0 (n:Nat):Nat→Qtw:=iter (fun _ _ _ _ _ _ _ _ _ _ _ _ _ _ _ _ _ _ _=>none) fun L=>Qld L
def Qpx (n m:Nat) (o p q:Int) (r:List Int) (s t u a b:Int) (c d:Qkl) (e:Qlw) (f g:Int) (h i:Qkl) (j:Qlw) (k l:Int):Option Qmt:=
 Qjr Zbg tab (fiB [.box 75 t74 [false,false],.val t2] Qyw) n [.box 75 t74 [false,false],.val t2] [⟨t36,(nF 7),none⟩] Tryz.f42 [1,1,1,0,1,0] [] [0,1,4,5,6,7] m
 ⟨[(0,V1 (.ptr (0,0) 0)),(1,Vp t2 o),(4,V1 (.ptr (4,0) 0)),(5,V1 (.ptr (5,0) 0)),(6,Vp t2 p),(7,Vp t2 q)],[((0,0),Ob.box 75 [LV.pure t25 r,LV.pure t2 s]),((4,0),Ob.box 37 [LV.pure t2 t,LV.pure t2 u,LV.ref (4,3),LV.ref (4,4),LV.ref (4,5),LV.pure t2 a,LV.pure t2 b]),((4,3),Ob.row 59 t58 c),((4,4),Ob.row 59 t58 d),((4,5),Ob.row 55 t54 e),((5,0),Ob.box 37 [LV.pure t2 f,LV.pure t2 g,LV.pure t32 h,LV.pure t32 i,LV.pure t33 j,LV.pure t2 k,LV.pure t2 l])]⟩
theorem Qxw (n:Nat):∀ m,Qpx n m=Qm0 n m
 | 0=>rfl
 | m+1=>by rw [show Qpx n (m+1)=Qld (Qpx n m) from by kernel_rfl,Qxw n m];rfl
def Z0q (n:Nat) (b:Z4n) (a:Int):Option Qmt:=Qqs (Qm0 n n) b a
def Qwc (b:Z4n) (a:Int):Option Qmt:=Z0q 1099511627776 b a
def Zbo:Ent:=⟨[.box 75 t74 [false,false],.val t2],[⟨t36,(nF 7),none⟩],fun x=>Qwc x.1 x.2.1⟩
theorem Z73:GD 42 Zbo:=fnl Qyw (fun n x=>Z0q n x.1 x.2.1) (Qk1 Qs2 (Qk1 Ql6 (Qk1 Qxe (Qk1 Z33 (Qk1 Qot (Qk1 Z1q (Qk1 Z1f (Qk1 Z1x Qk2)))))))) Tryz.func42 fun n x=>Eq.trans (b:=Qqs (Qpx n n) x.1 x.2.1) (by kernel_rfl) (by rw [Qxw n n];rfl)
def Qv7 (h:List Int) (c:Int):Option ((Qy9 × Unit) × Unit):=
 Option.bind (Qwa h) fun i=>
 Option.bind (Qk8 i.1.1 3) fun d=>
 Option.bind (Qk8 d.2.1 3) fun e=>
 Option.bind (Qk8 e.2.1 9) fun f=>
 Option.bind (Qyb (false,d.1.1,zB,X0p,(0,0,[],[],[],0,0),e.1.1) c (⟨#[110]⟩:ByteArray) f.1.1) fun a=>
 Option.bind (Qxl f.2.1 c 20) fun b=>
 bif c != 1 then
  Option.bind (Qwc b.2.1 12) fun g=>
  Option.bind (Qk8 g.2.1 5) fun j=>
  bif j.1.1==0 then
   some (((u4 (u3 a.1.1 (u1 b.1.1 a.1.1.2.1)) (0,0,[],[],[],0,0)),()),())
  else
   some (((u4 (u3 a.1.1 (u1 b.1.1 a.1.1.2.1)) g.1.1),()),())
 else
  some (((u3 a.1.1 (u1 b.1.1 a.1.1.2.1)),()),())
def Z7g:Ent:=⟨[.val t25,.val t2],[⟨t38,(nF 24),none⟩],fun x=>Qv7 x.1 x.2.1⟩
theorem Zed:GD 16 Z7g:=fnk 1 (fo [[0,1,4],[1,4,5],[1,4,5,6],[1,4,5,6],[1,4,5,6],[4,5,6,31],[4,5,6],[4,6,37],[4,6],[4]]) (Qk1 Z4e (Qk1 Ze9 (Qk1 Ql6 (Qk1 Z96 (Qk1 Z73 Qk2))))) Tryz.func16
def Z8y (a:Zdv) (b:Int):Option ((Bool × Unit) × Unit):=
 some ((decide (wJ (b - a.2.2)>20),()),())
def Zm9:Ent:=⟨[.val t52,.rbox t2],[⟨t4,[false],none⟩],fun x=>Z8y x.1 x.2.1⟩
theorem Zh4:GD 161 Zm9:=fnk 1 (fo [[1,2],[3]]) Qk2 Tryz.func161
def Zeu (a:Qkv) (b:Int):Option ((Qkv × Unit) × Unit):=
 Option.bind (Qng a) fun c=>
 Option.bind (Qsq c.1.1 (fun x=>(Z8y x.1 b).bind fun r=>some (r.1.1,()))) fun d=>
 some ((d.1.1,()),())
def Zsc:Ent:=⟨[.val t29,.val t2],[⟨t29,[true],none⟩],fun x=>Zeu x.1 x.2.1⟩
theorem Znq:GD 110 Zsc:=fnk 1 (fo [[0,3],[4]]) (Qk1 Qpi (Qk1 Qxd (Qk1 Zh4 Qk2))) Tryz.func110
def Qya (a:Qt4):Option (Unit × (Qt4 × Unit)):=
 Option.bind (Qkg ((u11 (u10 (u9 a.1 1) (wJ (a.1.2.2.1+3))) (wJ ((g11 a.1)+1))),a.2) 1 1 0) fun b=>
 some ((),(b.2.1,()))
def Qyc (a:Qt4):Option (Unit × (Qt4 × Unit)):=
 Option.bind (Qkg ((u10 (u9 a.1 1) (wJ (a.1.2.2.1+3))),a.2) 1 1 0) fun b=>
 some ((),(b.2.1,()))
def Z3p (a:Qt4):Option (Unit × (Qt4 × Unit)):=
 bif (g9 a.1) != 0 then
  some ((),(a,()))
 else
 bif (g11 a.1)==0 then
  bif (g5 a.1) != 0 then
   bif (g5 a.1) != a.1.1 then
    Option.bind (Qkg ((u10 (u9 a.1 (g5 a.1)) (wJ (a.1.2.2.1+3))),a.2) 1 (g5 a.1) 0) fun b=>
    some ((),(b.2.1,()))
   else
    Qyc a
  else
   Qyc a
 else
  Qyc a
def Quf (a:Qt4):Option (Unit × (Qt4 × Unit)):=
 bif a.1.1==1 then
  some ((),(a,()))
 else
 bif (g3 a.1) != 0 then
  some ((),(a,()))
 else
 bif (g9 a.1) != 0 then
  bif decide (a.1.2.2.1 ≥ (g10 a.1)) then
   bif (wJ ((g11 a.1)+1))==0 then
    bif (g5 a.1) != 0 then
     bif (g5 a.1) != a.1.1 then
      Option.bind (Qkg ((u11 (u10 (u9 a.1 (g5 a.1)) (wJ (a.1.2.2.1+3))) (wJ ((g11 a.1)+1))),a.2) 1 (g5 a.1) 0) fun b=>
      some ((),(b.2.1,()))
     else
      Qya a
    else
     Qya a
   else
    Qya a
  else
   Z3p a
 else
  Z3p a
def Zn9:Ent:=⟨[.box 141 Ztv (nF 13++[true])],[],fun x=>Quf x.1⟩
theorem Zii:GD 112 Zn9:=fnk 1 (fr [[0,15,23,0,33,65,0,70,73,0,83],[0,34,65,0,70,73,0,83],[0,65,0,70,73,0,83],[0,65,0,70,73,0,83],[0,53,65,0,70,73,0,83],[0,65,0,70,73,0,83],[0,84],[0],[0],[0]]) (Qk1 Qnh Qk2) Tryz.func112
abbrev Qs3:Type:=Unit × (Qt4 × Unit)
def Zly:Ctx:=[(111,Zoh),(142,Z3r)]
def Z9k:Fi:=fr [[0,10],[0,16],[0],[0,28,0,30],[0,28,0,31],[0,3,28,0,30],[0,3,28,0,30,38],[0,28,0,30],[0,28,0,30]]
abbrev Z2f:Type:=Qkv→Int→Int→Int→Int→Int→Int→Int→Int→List Int→Int→Int→Int→Int→Int→Qkv→Qpc→Option Qs3
def Qr2 (L1:Z2f) (k:Qkv) (r b l m n o p c:Int) (d:List Int) (e f g h i:Int) (j:Qkv) (q:Qpc):Option Qs3:=
 bif decide (b<r) then
  bif ix b (k.length:Int) then
   Option.bind (Za0 (l,m,n,o,p,c,d,e,f,g,h,i,j)) fun s=>
   bif s.1.1 then
    Option.bind (Qkg ((l,m,n,o,p,c,d,e,f,g,h,i,j),q) 5 ((List.getD k b.toNat (0,0,0)).1) 0) fun a=>
    L1 k r (wJ (b+1)) a.2.1.1.1 a.2.1.1.2.1 a.2.1.1.2.2.1 (g3 a.2.1.1) (g4 a.2.1.1) (g5 a.2.1.1) (g6 a.2.1.1) (g7 a.2.1.1) (g8 a.2.1.1) (g9 a.2.1.1) (g10 a.2.1.1) (g11 a.2.1.1) (h12 a.2.1.1) a.2.1.2
   else
    L1 k r (wJ (b+1)) l m n o p c d e f g h i j q
  else none
 else
  some ((),(((l,m,n,o,p,c,d,e,f,g,h,i,j),q),()))
def Qyd (L1:Z2f) (a:Qt4):Option Qs3:=
 bif (Int.tmod a.1.2.2.1 2) != 0 then
  some ((),(a,()))
 else
 bif (g3 a.1) != 0 then
  Option.bind (Qkg a 4 (g3 a.1) 0) fun b=>
  L1 (h12 b.2.1.1) ((h12 b.2.1.1).length:Int) 0 b.2.1.1.1 b.2.1.1.2.1 b.2.1.1.2.2.1 (g3 b.2.1.1) (g4 b.2.1.1) (g5 b.2.1.1) (g6 b.2.1.1) (g7 b.2.1.1) (g8 b.2.1.1) (g9 b.2.1.1) (g10 b.2.1.1) (g11 b.2.1.1) (h12 b.2.1.1) b.2.1.2
 else
  L1 (h12 a.1) ((h12 a.1).length:Int) 0 a.1.1 a.1.2.1 a.1.2.2.1 (g3 a.1) (g4 a.1) (g5 a.1) (g6 a.1) (g7 a.1) (g8 a.1) (g9 a.1) (g10 a.1) (g11 a.1) (h12 a.1) a.2
def Qr4 (n:Nat):Nat→Z2f:=iter (fun _ _ _ _ _ _ _ _ _ _ _ _ _ _ _ _ _=>none) fun L=>Qr2 L
def Qwy (n m:Nat) (j:Qkv) (k l o p q r s a:Int) (b:List Int) (c d e f g:Int) (h:Qkv) (i:Qpc):Option Qs3:=
 Qjr Zly tab (fiB [.box 141 Ztv (nF 13++[true])] Z9k) n [.box 141 Ztv (nF 13++[true])] [] Tryz.f113 [1,1,1,0] [] [0,28,29,30] m
 ⟨[(0,V1 (.ptr (0,0) 0)),(28,Vp t29 j),(29,Vp t2 k),(30,Vp t2 l)],[((0,0),Ob.box 141 [LV.pure t2 o,LV.pure t2 p,LV.pure t2 q,LV.pure t2 r,LV.pure t2 s,LV.pure t2 a,LV.pure t28 b,LV.pure t2 c,LV.pure t2 d,LV.pure t2 e,LV.pure t2 f,LV.pure t2 g,LV.pure t29 h,LV.ref (0,14)]),((0,14),Ob.row 46 t45 i)]⟩
theorem Z7y (n:Nat):∀ m,Qwy n m=Qr4 n m
 | 0=>rfl
 | m+1=>by rw [show Qwy n (m+1)=Qr2 (Qwy n m) from by kernel_rfl,Z7y n m];rfl
def Zc2 (n:Nat) (a:Qt4):Option Qs3:=Qyd (Qr4 n n) a
def Qvd (a:Qt4):Option Qs3:=Zc2 1099511627776 a
def Zm4:Ent:=⟨[.box 141 Ztv (nF 13++[true])],[],fun x=>Qvd x.1⟩
theorem Zh1:GD 113 Zm4:=fnl Z9k (fun n x=>Zc2 n x.1) (Qk1 Z8w (Qk1 Qnh Qk2)) Tryz.func113 fun n x=>Eq.trans (b:=Qyd (Qwy n n) x.1) (by kernel_rfl) (by rw [Z7y n n];rfl)
def Zbh (a:(Qt4 × Unit) × Unit) (c:(Qkv × Unit) × Unit):Option ((Qse × Qpc × Unit) × Unit):=
 Option.bind (Quf ((e12 (u2 a.1.1.1 (wJ (a.1.1.1.2.2.1+1))) c.1.1),a.1.1.2)) fun d=>
 Option.bind (Qvd d.2.1) fun b=>
 some ((b.2.1.1,b.2.1.2,()),())
def Zgy (a:(Qt4 × Unit) × Unit) (b:(Qkv × Unit) × Unit):Option ((Qse × Qpc × Unit) × Unit):=
 bif a.1.1.1.1 != 1 then
  bif (g3 a.1.1.1) != 0 then
   Option.bind (Za0 (e12 (u2 a.1.1.1 (wJ (a.1.1.1.2.2.1+1))) b.1.1)) fun d=>
   bif !d.1.1 then
    Option.bind (Qx1 ((e12 (u2 a.1.1.1 (wJ (a.1.1.1.2.2.1+1))) b.1.1),a.1.1.2) 0) fun e=>
    Option.bind (Quf e.2.1) fun f=>
    Option.bind (Qvd f.2.1) fun c=>
    some ((c.2.1.1,c.2.1.2,()),())
   else
    Zbh a b
  else
   Zbh a b
 else
  Zbh a b
def Zmh (e:Qse):Option ((Qse × Qpc × Unit) × Unit):=
 Option.bind (Zpw e) fun a=>
 Option.bind (Zeu (h12 a.1.1.1) (wJ (a.1.1.1.2.2.1+1))) fun b=>
 bif a.1.1.1.1==1 then
  bif (Int.tmod (wJ (a.1.1.1.2.2.1+1)) 2)==0 then
   Option.bind (Quf ((e12 (u8 (u7 (u2 a.1.1.1 (wJ (a.1.1.1.2.2.1+1))) (wJ ((g7 a.1.1.1)+1))) (wJ (a.1.1.1.2.2.1+1))) b.1.1),a.1.1.2)) fun d=>
   Option.bind (Qvd d.2.1) fun c=>
   some ((c.2.1.1,c.2.1.2,()),())
  else
   Zgy a b
 else
  Zgy a b
def Zqr:Ent:=⟨[.val t30],[⟨t30,(nF 13),none⟩,⟨t48,[true],none⟩],fun x=>Zmh x.1⟩
theorem Zrg:GD 56 Zqr:=fnk 1 (fr [[1,2,39,0,45,74,0,79,82,0,87],[2,4,39,0,45,74,0,79,82,0,87],[2,4,39,0,45,74,0,79,82,0,87],[2,4,39,0,45,74,0,79,82,0,87],[2,4,31,74,0,79,82,0,87],[2,4],[2,4,66],[2,4],[2,4],[2,4],[2,3]]) (Qk1 Zgt (Qk1 Qvz (Qk1 Znq (Qk1 Z8w (Qk1 Zii (Qk1 Zh1 Qk2)))))) Tryz.func56
def Zhx (a:Qwt):Option (((Int × Int) × Bool × Unit) × Unit):=
 bif decide (((g3 a).length:Int)>0) then
  Option.bind (Zej (g3 a)) fun b=>
  bif a.1==0 then
   some (((0,0),false,()),())
  else
  bif decide (wJ (b.1.1 - 1)<a.1) then
   some (((0,0),false,()),())
  else
   some (((a.1,wJ (b.1.1 - 1)),true,()),())
 else
 bif a.1==0 then
  some (((0,0),false,()),())
 else
 bif decide (a.2.1<a.1) then
  some (((0,0),false,()),())
 else
  some (((a.1,a.2.1),true,()),())
def Zud:Ent:=⟨[.val t36],[⟨t34,[false,false],none⟩,⟨t4,[false],none⟩],fun x=>Zhx x.1⟩
theorem Zp0:GD 114 Zud:=fnk 1 (fr [[1,2,23,0,27],[1,2,4,23,0,27],[1,2,4,13,23,0,27],[1,2,4,23,0,27],[2,4,28],[2,3],[2,3]]) (Qk1 Zgd Qk2) Tryz.func114
def Zmm (a:Int × Int) (b:Int):Option ((Bool × Unit) × Unit):=
 bif a.1==0 then
  some ((true,()),())
 else
  some ((decide (b ≥ a.2),()),())
def Zw2:Ent:=⟨[.val t34,.val t2],[⟨t4,[false],none⟩],fun x=>Zmm x.1 x.2.1⟩
theorem Zrt:GD 115 Zw2:=fnk 1 (fr [[1,2,9,0,12],[4]]) Qk2 Tryz.func115
def Zkw (a:Int × Int):Option ((Bool × Unit) × Unit):=
 some ((decide (a.1 ≥ 3),()),())
def Zt6:Ent:=⟨[.val t34],[⟨t4,[false],none⟩],fun x=>Zkw x.1⟩
theorem Zn6:GD 117 Zt6:=fnk 1 (fo [[1],[2]]) Qk2 Tryz.func117
def Zem (a:Int × Int) (b:Int):Option (((Int × Int) × Unit) × Unit):=
 bif decide (0≤(if 0>(if 3<a.1 then 3 else a.1) then 0 else if 3<a.1 then 3 else a.1)) then
  some (((wJ (a.1+1),wJ (b+(wJ (2*2 ^ (min ((if 0>(if 3<a.1 then 3 else a.1) then 0 else if 3<a.1 then 3 else a.1).toNat) 64))))),()),())
 else none
def Zt5:Ent:=⟨[.val t34,.val t2],[⟨t34,[false,false],none⟩],fun x=>Zem x.1 x.2.1⟩
theorem Znn:GD 120 Zt5:=fnk 1 (fo [[1,2,4],[4]]) Qk2 Tryz.func120
def Zdu (a:Qwt) (c:Int):Option ((Qwt × (Int × Int) × Bool × Unit) × Unit):=
 Option.bind (Zhx a) fun b=>
 bif !b.1.2.1 then
  Option.bind (Qpf a) fun e=>
  some ((e.1.1,(0,0),false,()),())
 else
  Option.bind (Zmm (h5 a) c) fun f=>
  bif !f.1.1 then
   Option.bind (Qpf a) fun g=>
   some ((g.1.1,(0,0),false,()),())
  else
   Option.bind (Zkw (h5 a)) fun h=>
   bif h.1.1 then
    Option.bind (Zib a b.1.1.2 2) fun i=>
    Option.bind (Zel i.1.1) fun j=>
    some ((j.1.1,(0,0),false,()),())
   else
    Option.bind (Qpf a) fun d=>
    Option.bind (Zem (h5 d.1.1) c) fun k=>
    some (((e5 d.1.1 k.1.1),b.1.1,true,()),())
def Zo7:Ent:=⟨[.val t36,.val t2],[⟨t36,(nF 7),none⟩,⟨t34,[false,false],none⟩,⟨t4,[false],none⟩],fun x=>Zdu x.1 x.2.1⟩
theorem Zp6:GD 57 Zo7:=fnk 1 (fr [[1,2,4,5,18,0,22],[1,2,4,5,7,8,18,0,22],[1,2,4,5,7,14],[4,5,6],[1,2,4,5,7,27],[2,4,5],[2,4,5],[4,5,6],[1,2,4,5,7],[2,4,5,7],[4,5,6]]) (Qk1 Zp0 (Qk1 Zrt (Qk1 Qvf (Qk1 Zn6 (Qk1 Zgf (Qk1 Zbb (Qk1 Znn Qk2))))))) Tryz.func57
abbrev Z2g:Type:=(Qy9 × Qpc × Unit) × Unit
def Zut:Ctx:=[(35,Znp),(49,Znf),(56,Zqr),(57,Zo7),(58,Z7m)]
def Zlr:Fi:=fr [[1,2],[1,2,4],[1,2,4,16],[2,3],[1,2,4,5,6],[1,2,4,6],[1,2,4,6,26,0,28],[1,2,4,6,26,0,29],[1,2,4,6,7,8,26,0,28],[1,2,4,6,7,26,0,28,35],[1,2,4,6,26,0,28],[1,2,4,6,26,0,28],[1,2,4,6,49],[2,3],[1,2,4,6,9,0,11],[1,2,4,6,10,11],[1,2,4,6,10,64],[1,2,4,6],[2,3]]
abbrev Zdg:Type:=Int→Int→Bool→Int→ByteArray→Int→Int→Int→Int→Int→Int→List Int→Int→Int→Int→Int→Int→Qkv→Int→Int→Qkl→Qkl→Qlw→Int→Int→Int→Int→ByteArray→Int→Int→Int→Int→Int→Int→Int→Int→Int→Int→Int→Int→Int→Int→Int→Int→List Int→Qkv→Qkl→Qkl→Qlw→Bool→Int→ByteArray→Int→Int→Int→Int→Int→Int→List Int→Int→Int→Int→Int→Int→Qkv→Int→Int→Qkl→Qkl→Qlw→Int→Int→Int→Qpc→Option Z2g
def Qu4 (L1:Zdg) (B b:Int) (v5:Bool) (v6:Int) (v7:ByteArray) (v8 v9 M N O P:Int) (Q:List Int) (R S T U V:Int) (W:Qkv) (u v:Int) (w x:Qkl) (y:Qlw) (z A X Y:Int) (Z:ByteArray) (aa ab ac ad ae af ag ah ai aj ak al am an ao ap:Int) (aq:List Int) (ar:Qkv) (au aw:Qkl) (ax:Qlw) (f:Bool) (g:Int) (h:ByteArray) (i j d c k l:Int) (m:List Int) (n o p q r:Int) (s:Qkv) (C D:Int) (E F:Qkl) (G:Qlw) (H I t:Int) (a:Qpc):Option Z2g:=
 bif decide (b<B) then
  bif ix b (a.length:Int) then
   bif ix b (a.length:Int) then
    bif ((List.getD a b.toNat Z15).1)==5 then
     bif ix b (a.length:Int) then
      bif ix b (a.length:Int) then
       L1 B (wJ (b+1)) v5 v6 v7 v8 v9 M N O P Q R S T U V W u v w x y z A X Y Z aa ab ac ad ae af ag ah ai aj ak al am an ao ap aq ar au aw ax f g h i j d c k l m n o p q r s C D E F G H I t (List.set a b.toNat ((List.getD a b.toNat Z15).1,((List.getD a b.toNat Z15).2).1,(((List.getD a b.toNat Z15).2).2).1,((((List.getD a b.toNat Z15).2).2).2).1,(((((List.getD a b.toNat Z15).2).2).2).2).1,((((((List.getD a b.toNat Z15).2).2).2).2).2).1,(((((((List.getD a b.toNat Z15).2).2).2).2).2).2).1,((((((((List.getD a b.toNat Z15).2).2).2).2).2).2).2).1,if 0>wJ (u - 1) then 0 else wJ (u - 1),(((((((((List.getD a b.toNat Z15).2).2).2).2).2).2).2).2).2))
      else none
     else none
    else
     L1 B (wJ (b+1)) v5 v6 v7 v8 v9 M N O P Q R S T U V W u v w x y z A X Y Z aa ab ac ad ae af ag ah ai aj ak al am an ao ap aq ar au aw ax f g h i j d c k l m n o p q r s C D E F G H I t a
   else none
  else none
 else
 bif c==0 then
  some (((f,g,h,(i,j,d,c,k,l,m,n,o,p,q,r,s),(C,D,E,F,G,H,I),t),a,()),())
 else
  Option.bind (Zdu (u,v,w,x,y,z,A) d) fun e=>
  bif e.1.2.2.1 then
   Option.bind (Qtr (f,g,h,(i,j,d,c,k,l,m,n,o,p,q,r,s),e.1.1,t) 8 c e.1.2.1.1 e.1.2.1.2 zB) fun J=>
   bif Nat.ble (a.length+1) 1073741824 then
    Option.bind (Qy4 (f,g,h,(i,j,d,c,k,l,m,n,o,p,q,r,s),e.1.1,t) (u,v,w,x,y,z,A)) fun K=>
    bif Nat.ble ((a++[J.1.1]).length+K.1.1.length) 1073741824 then
     some (((f,g,h,(i,j,d,c,k,l,m,n,o,p,q,r,s),e.1.1,t),(a++[J.1.1])++K.1.1,()),())
    else none
   else none
  else
   Option.bind (Qy4 (f,g,h,(i,j,d,c,k,l,m,n,o,p,q,r,s),e.1.1,t) (u,v,w,x,y,z,A)) fun L=>
   bif Nat.ble (a.length+L.1.1.length) 1073741824 then
    some (((f,g,h,(i,j,d,c,k,l,m,n,o,p,q,r,s),e.1.1,t),a++L.1.1,()),())
   else none
def Zaz (L1:Zdg) (a:Qy9):Option Z2g:=
 Option.bind (Qrj a) fun c=>
 bif !a.1 then
  some ((c.1.1,[],()),())
 else
  Option.bind (Zmh (g3 a)) fun b=>
  L1 (b.1.2.1.length:Int) 0 a.1 a.2.1 a.2.2.1 (g3 a).1 (g3 a).2.1 (g3 a).2.2.1 (g3 (g3 a)) (g4 (g3 a)) (g5 (g3 a)) (g6 (g3 a)) (g7 (g3 a)) (g8 (g3 a)) (g9 (g3 a)) (g10 (g3 a)) (g11 (g3 a)) (h12 (g3 a)) (g4 a).1 (g4 a).2.1 (g4 a).2.2.1 (g3 (g4 a)) (g4 (g4 a)) (g5 (g4 a)) (h6 (g4 a)) (h5 a) 0 zB 0 0 0 0 0 0 0 0 0 0 0 0 0 0 0 0 [] [] [] [] [] c.1.1.1 c.1.1.2.1 c.1.1.2.2.1 b.1.1.1 b.1.1.2.1 b.1.1.2.2.1 (g3 b.1.1) (g4 b.1.1) (g5 b.1.1) (g6 b.1.1) (g7 b.1.1) (g8 b.1.1) (g9 b.1.1) (g10 b.1.1) (g11 b.1.1) (h12 b.1.1) (g4 c.1.1).1 (g4 c.1.1).2.1 (g4 c.1.1).2.2.1 (g3 (g4 c.1.1)) (g4 (g4 c.1.1)) (g5 (g4 c.1.1)) (h6 (g4 c.1.1)) (h5 c.1.1) b.1.2.1
def Qw8 (n:Nat):Nat→Zdg:=iter (fun _ _ _ _ _ _ _ _ _ _ _ _ _ _ _ _ _ _ _ _ _ _ _ _ _ _ _ _ _ _ _ _ _ _ _ _ _ _ _ _ _ _ _ _ _ _ _ _ _ _ _ _ _ _ _ _ _ _ _ _ _ _ _ _ _ _ _ _ _ _ _ _ _ _=>none) fun L=>Qu4 L
def Z7j (n m:Nat) (w H:Int) (S:Bool) (v6:Int) (v7:ByteArray) (v8 v9 a b c d:Int) (e:List Int) (f g h i j:Int) (k:Qkv) (l o:Int) (p q:Qkl) (r:Qlw) (s t u v:Int) (x:ByteArray) (y z A B C D E F G I J K L M N O:Int) (P:List Int) (Q:Qkv) (R T:Qkl) (U:Qlw) (V:Bool) (W:Int) (X:ByteArray) (Y Z aa ab ac ae:Int) (af:List Int) (ag ah ai aj ak:Int) (al:Qkv) (am an:Int) (ap aq:Qkl) (ar:Qlw) (au av aw:Int) (ax:Qpc):Option Z2g:=
 Qjr Zut tab (fiB [.val t38] Zlr) n [.val t38] [⟨t38,(nF 24),none⟩,⟨t48,[true],none⟩] Tryz.f22 [1,1,1,1,1,0,1,0] [] [1,2,4,6,26,27,28] m
 ⟨[(1,V1 (.ptr (1,0) 0)),(2,V1 (.ptr (2,0) 0)),(4,V1 (.ptr (4,0) 0)),(6,V1 (.ref (888888,26))),(26,V1 (.ref (888888,26))),(27,Vp t2 w),(28,Vp t2 H)],[((1,0),Ob.box 39 [LV.pure t4 S,LV.pure t2 v6,LV.pure t9 v7,LV.pure t2 v8,LV.pure t2 v9,LV.pure t2 a,LV.pure t2 b,LV.pure t2 c,LV.pure t2 d,LV.pure t28 e,LV.pure t2 f,LV.pure t2 g,LV.pure t2 h,LV.pure t2 i,LV.pure t2 j,LV.pure t29 k,LV.pure t2 l,LV.pure t2 o,LV.pure t32 p,LV.pure t32 q,LV.pure t33 r,LV.pure t2 s,LV.pure t2 t,LV.pure t2 u]),((2,0),Ob.box 39 [LV.lit false,LV.pure t2 v,LV.pure t9 x,LV.pure t2 y,LV.pure t2 z,LV.pure t2 A,LV.pure t2 B,LV.pure t2 C,LV.pure t2 D,LV.ref (2,10),LV.pure t2 E,LV.pure t2 F,LV.pure t2 G,LV.pure t2 I,LV.pure t2 J,LV.ref (2,16),LV.pure t2 K,LV.pure t2 L,LV.ref (2,19),LV.ref (2,20),LV.ref (2,21),LV.pure t2 M,LV.pure t2 N,LV.pure t2 O]),((2,10),Ob.row 3 t2 P),((2,16),Ob.row 53 t52 Q),((2,19),Ob.row 59 t58 R),((2,20),Ob.row 59 t58 T),((2,21),Ob.row 55 t54 U),((4,0),Ob.box 39 [LV.pure t4 V,LV.pure t2 W,LV.pure t9 X,LV.pure t2 Y,LV.pure t2 Z,LV.pure t2 aa,LV.pure t2 ab,LV.pure t2 ac,LV.pure t2 ae,LV.pure t28 af,LV.pure t2 ag,LV.pure t2 ah,LV.pure t2 ai,LV.pure t2 aj,LV.pure t2 ak,LV.pure t29 al,LV.pure t2 am,LV.pure t2 an,LV.pure t32 ap,LV.pure t32 aq,LV.pure t33 ar,LV.pure t2 au,LV.pure t2 av,LV.pure t2 aw]),((888888,26),Ob.row 46 t45 ax)]⟩
theorem Zid (n:Nat):∀ m,Z7j n m=Qw8 n m
 | 0=>rfl
 | m+1=>by rw [show Z7j n (m+1)=Qu4 (Z7j n m) from by kernel_rfl,Zid n m];rfl
def Zoe (n:Nat) (a:Qy9):Option Z2g:=Zaz (Qw8 n n) a
def Znr (a:Qy9):Option Z2g:=Zoe 1099511627776 a
def Zmw:Ent:=⟨[.val t38],[⟨t38,(nF 24),none⟩,⟨t48,[true],none⟩],fun x=>Znr x.1⟩
theorem Zp4:GD 22 Zmw:=fnl Zlr (fun n x=>Zoe n x.1) (Qk1 Qve (Qk1 Z93 (Qk1 Zrg (Qk1 Zp6 (Qk1 Z72 Qk2))))) Tryz.func22 fun n x=>Eq.trans (b:=Zaz (Z7j n n) x.1) (by kernel_rfl) (by rw [Zid n n];rfl)
abbrev Qlx:Type:=(Qpc × Unit) × Unit
def Z7f:Ctx:=[(62,Qq4)]
def Qys:Fi:={ keep:=[],vty:=[(5,48)],vals:=[],live:=[(0,[1,2]),(1,[1,2,5]),(2,[1,2,5,6]),(3,[1,2,5,6,12]),(4,[1,2,5,6]),(5,[1,2,5,6,7]),(6,[1,2,5,6,7,19]),(7,[1,2,5,6,7]),(8,[1,2,5,6,7,8]),(9,[1,2,5,6,7,8]),(10,[1,2,5,6,7,8,47]),(11,[1,2,5,6,7,8]),(12,[1,2,5,6,7,8]),(13,[1,2,5,6,7]),(14,[4])] }
abbrev Qrk:Type:=Qlw→Int→Int→Int→Int→Int→Int→Int→List Int→Int→Int→Int→Int→Int→Qkv→Qpc→Option Qlx
abbrev Qym:Type:=Qlw→Int→Int→Int→Int→Int→Int→Int→Int→List Int→Int→Int→Int→Int→Int→Qkv→Qpc→Option Qlx
def Qp2 (L2:Qym) (a:Qlw) (c j k l m n o:Int) (p:List Int) (d e f g h:Int) (i:Qkv) (b:Qpc):Option Qlx:=
 bif decide (c<(a.length:Int)) then
  L2 a c 0 j k l m n o p d e f g h i b
 else
  some ((b,()),())
def Qp3 (L2:Qym) (L1:Qrk) (a:Qlw) (b d e f g h i j:Int) (k:List Int) (l m n o p:Int) (c:Qkv) (q:Qpc):Option Qlx:=
 bif decide (d<(c.length:Int)) then
  bif ix d (c.length:Int) then
   Option.bind (Qk9 (e,f,g,h,i,j,k,l,m,n,o,p,c) 7 ((List.getD c d.toNat (0,0,0)).1)) fun r=>
   bif ix b (a.length:Int) then
    bif ix b (a.length:Int) then
     bif ix b (a.length:Int) then
      bif ((List.getD a b.toNat Zqc).1)==2 then
       bif ix d (c.length:Int) then
        Option.bind (Qk9 (e,f,g,h,i,j,k,l,m,n,o,p,c) 9 ((List.getD c d.toNat (0,0,0)).1)) fun s=>
        bif ix b (a.length:Int) then
         bif ix b (a.length:Int) then
          bif Nat.ble (q.length+1) 1073741824 then
           L2 a b (wJ (d+1)) e f g h i j k l m n o p c (q++[(u8 (u7 s.1.1 (((List.getD a b.toNat Zqc).2).1)) ((((List.getD a b.toNat Zqc).2).2).1))])
          else none
         else none
        else none
       else none
      else
      bif Nat.ble (q.length+1) 1073741824 then
       L2 a b (wJ (d+1)) e f g h i j k l m n o p c (q++[(e9 (u7 r.1.1 (((List.getD a b.toNat Zqc).2).1)) (((((List.getD a b.toNat Zqc).2).2).2).1))])
      else none
     else none
    else none
   else none
  else none
 else
  L1 a (wJ (b+1)) e f g h i j k l m n o p c q
def Z7l (L1:Qrk) (a:Qse) (b:Qlw):Option Qlx:=
 L1 b 0 a.1 a.2.1 a.2.2.1 (g3 a) (g4 a) (g5 a) (g6 a) (g7 a) (g8 a) (g9 a) (g10 a) (g11 a) (h12 a) []
def Qnl (n:Nat) (m1:Nat) (a:Qrk):Nat→Qym:=iter (fun _ _ _ _ _ _ _ _ _ _ _ _ _ _ _ _ _=>none) fun L=>Qp3 L a
def Qpa (n:Nat):Nat→Qrk:=Qjd (fun _ _ _ _ _ _ _ _ _ _ _ _ _ _ _ _=>none) fun m L=>Qp2 (Qnl n m L n)
def Qrf (n m:Nat) (a:Qlw) (i j k l o p q:Int) (r:List Int) (b c d e f:Int) (g:Qkv) (h:Qpc):Option Qlx:=
 Qjr Z7f tab (fiB [.val t30,.val t33] Qys) n [.val t30,.val t33] [⟨t48,[true],none⟩] Tryz.f63 [1,1,0,1,0] [] [1,2,5,6] m
 ⟨[(1,Vp t33 a),(2,V1 (.ptr (2,0) 0)),(5,V1 (.ref (888888,5))),(6,Vp t2 i)],[((2,0),Ob.box 31 [LV.pure t2 j,LV.pure t2 k,LV.pure t2 l,LV.pure t2 o,LV.pure t2 p,LV.pure t2 q,LV.pure t28 r,LV.pure t2 b,LV.pure t2 c,LV.pure t2 d,LV.pure t2 e,LV.pure t2 f,LV.pure t29 g]),((888888,5),Ob.row 46 t45 h)]⟩
def Que (n m1 m:Nat) (a:Qlw) (b c d e f g h i:Int) (j:List Int) (k l o p q:Int) (r:Qkv) (s:Qpc):Option Qlx:=
 Qjr Z7f tab (fiB [.val t30,.val t33] Qys) n [.val t30,.val t33] [⟨t48,[true],none⟩] Tryz.f63 [1,1,0,1,0,0,1,0,0,1,0] [(m1,[1,2,5,6])] [1,2,5,6,7] m
 ⟨[(1,Vp t33 a),(2,V1 (.ptr (2,0) 0)),(5,V1 (.ref (888888,5))),(6,Vp t2 b),(7,Vp t2 c)],[((2,0),Ob.box 31 [LV.pure t2 d,LV.pure t2 e,LV.pure t2 f,LV.pure t2 g,LV.pure t2 h,LV.pure t2 i,LV.pure t28 j,LV.pure t2 k,LV.pure t2 l,LV.pure t2 o,LV.pure t2 p,LV.pure t2 q,LV.pure t29 r]),((888888,5),Ob.row 46 t45 s)]⟩
theorem Z4d (n m1:Nat):∀ m,Que n m1 m=Qnl n m1 (Qrf n m1) m
 | 0=>rfl
 | m+1=>by rw [show Que n m1 (m+1)=Qp3 (Que n m1 m) (Qrf n m1) from by kernel_rfl,Z4d n m1 m];rfl
theorem Z4i (n:Nat):∀ m,Qrf n m=Qpa n m
 | 0=>rfl
 | m+1=>by rw [show Qrf n (m+1)=Qp2 (Que n m n) from by kernel_rfl,Z4d n m n,Z4i n m];rfl
def Z8h (n:Nat) (b:Qse) (a:Qlw):Option Qlx:=Z7l (Qpa n n) b a
def Qlp (b:Qse) (a:Qlw):Option Qlx:=Z8h 1099511627776 b a
def Z88:Ent:=⟨[.val t30,.val t33],[⟨t48,[true],none⟩],fun x=>Qlp x.1 x.2.1⟩
theorem Qwl:GD 63 Z88:=fnl Qys (fun n x=>Z8h n x.1 x.2.1) (Qk1 Qlh Qk2) Tryz.func63 fun n x=>Eq.trans (b:=Z7l (Qrf n n) x.1 x.2.1) (by kernel_rfl) (by rw [Z4i n n];rfl)
abbrev Qna:Type:=(Qy9 × Qpc × Unit) × Unit
def Zc5:Ctx:=[(60,Qzz),(61,Z0i),(62,Qq4),(63,Z88)]
def Z10:Fi:={ keep:=[],vty:=[(6,48)],vals:=[],live:=[(0,[1,2]),(1,[1,2,16]),(2,[2,3]),(3,[1,2,4,5]),(4,[1,2,4,5,6]),(5,[1,2,4,5,6,7]),(6,[1,2,4,5,6,7,27]),(7,[1,2,4,5,6,7]),(8,[1,2,4,5,6,7,8]),(9,[1,2,4,5,6,7,8,36]),(10,[1,2,4,5,6,7,8]),(11,[1,2,4,5,6,7]),(12,[1,2,4,6]),(13,[1,2,4,6,51]),(14,[2,3]),(15,[1,2,4,6,9,10,11]),(16,[1,2,4,6,9,10,63]),(17,[1,2,4,6,9,10,12]),(18,[1,2,4,6,9,12]),(19,[1,2,4,6,9]),(20,[1,2,4,6,9,13]),(21,[1,2,4,6,9,13]),(22,[2,3])] }
abbrev Quu:Type:=Int→Bool→Int→ByteArray→Int→Int→Int→Int→Int→Int→List Int→Int→Int→Int→Int→Int→Qkv→Int→Int→Qkl→Qkl→Qlw→Int→Int→Int→Int→ByteArray→Int→Int→Int→Int→Int→Int→Int→Int→Int→Int→Int→Int→Int→Int→Int→Int→List Int→Qkv→Qkl→Qkl→Qlw→Int→Int→Int→Int→Int→Int→List Int→Int→Int→Int→Int→Int→Qkv→Qpc→Qpc→Option Qna
def Ql4 (L1:Quu) (a:Int) (u:Bool) (v:Int) (w:ByteArray) (v6 v7 v8 v9 F G:Int) (H:List Int) (I J K L M:Int) (N:Qkv) (s x:Int) (y z:Qkl) (d:Qlw) (A B t O:Int) (P:ByteArray) (Q R S T U V W X Y Z aa ab ac ad ae af:Int) (ag:List Int) (ah:Qkv) (ai aj:Qkl) (ak:Qlw) (h i g e j k:Int) (l:List Int) (m n o p q:Int) (r:Qkv) (b f:Qpc):Option Qna:=
 bif decide (a<(b.length:Int)) then
  bif ix a (b.length:Int) then
   bif ix a (b.length:Int) then
    bif ((List.getD b a.toNat Z15).1)==5 then
     bif Nat.ble (f.length+1) 1073741824 then
      L1 (wJ (a+1)) u v w v6 v7 v8 v9 F G H I J K L M N s x y z d A B t O P Q R S T U V W X Y Z aa ab ac ad ae af ag ah ai aj ak h i g e j k l m n o p q r b (f++[((List.getD b a.toNat Z15).1,((List.getD b a.toNat Z15).2).1,(((List.getD b a.toNat Z15).2).2).1,((((List.getD b a.toNat Z15).2).2).2).1,(((((List.getD b a.toNat Z15).2).2).2).2).1,((((((List.getD b a.toNat Z15).2).2).2).2).2).1,(((((((List.getD b a.toNat Z15).2).2).2).2).2).2).1,((((((((List.getD b a.toNat Z15).2).2).2).2).2).2).2).1,if 0>wJ (s - 1) then 0 else wJ (s - 1),(((((((((List.getD b a.toNat Z15).2).2).2).2).2).2).2).2).2)])
     else none
    else
    bif Nat.ble (f.length+1) 1073741824 then
     L1 (wJ (a+1)) u v w v6 v7 v8 v9 F G H I J K L M N s x y z d A B t O P Q R S T U V W X Y Z aa ab ac ad ae af ag ah ai aj ak h i g e j k l m n o p q r b (f++[((List.getD b a.toNat Z15).1,((List.getD b a.toNat Z15).2).1,(((List.getD b a.toNat Z15).2).2).1,((((List.getD b a.toNat Z15).2).2).2).1,(((((List.getD b a.toNat Z15).2).2).2).2).1,((((((List.getD b a.toNat Z15).2).2).2).2).2).1,(((((((List.getD b a.toNat Z15).2).2).2).2).2).2).1,((((((((List.getD b a.toNat Z15).2).2).2).2).2).2).2).1,(((((((((List.getD b a.toNat Z15).2).2).2).2).2).2).2).2))])
    else none
   else none
  else none
 else
 bif e==0 then
  some (((u,v,w,(h,i,g,e,j,k,l,m,n,o,p,q,r),(s,x,y,z,d,A,B),t),f,()),())
 else
  Option.bind (Qs6 (s,x,y,z,d,A,B) g) fun c=>
  bif c.1.2.2.1 then
   Option.bind (Qk9 (h,i,g,e,j,k,l,m,n,o,p,q,r) 8 e) fun C=>
   bif Nat.ble (f.length+1) 1073741824 then
    bif (decide (0≤(d.length:Int))&&decide ((d.length:Int)≤((g4 c.1.1).length:Int)))&&decide (((g4 c.1.1).length:Int)≤((g4 c.1.1).length:Int)) then
     Option.bind (Qlp (h,i,g,e,j,k,l,m,n,o,p,q,r) (List.drop ((d.length:Int).toNat) (List.take (((g4 c.1.1).length:Int).toNat) (g4 c.1.1)))) fun D=>
     bif Nat.ble ((f++[(u8 (u7 C.1.1 c.1.2.1.1) c.1.2.1.2)]).length+D.1.1.length) 1073741824 then
      some (((u,v,w,(h,i,g,e,j,k,l,m,n,o,p,q,r),c.1.1,t),(f++[(u8 (u7 C.1.1 c.1.2.1.1) c.1.2.1.2)])++D.1.1,()),())
     else none
    else none
   else none
  else
  bif (decide (0≤(d.length:Int))&&decide ((d.length:Int)≤((g4 c.1.1).length:Int)))&&decide (((g4 c.1.1).length:Int)≤((g4 c.1.1).length:Int)) then
   Option.bind (Qlp (h,i,g,e,j,k,l,m,n,o,p,q,r) (List.drop ((d.length:Int).toNat) (List.take (((g4 c.1.1).length:Int).toNat) (g4 c.1.1)))) fun E=>
   bif Nat.ble (f.length+E.1.1.length) 1073741824 then
    some (((u,v,w,(h,i,g,e,j,k,l,m,n,o,p,q,r),c.1.1,t),f++E.1.1,()),())
   else none
  else none
def Qro (L1:Quu) (a:Qy9):Option Qna:=
 bif !a.1 then
  some ((a,[],()),())
 else
  Option.bind (Qv8 (g3 a)) fun b=>
  L1 0 a.1 a.2.1 a.2.2.1 (g3 a).1 (g3 a).2.1 (g3 a).2.2.1 (g3 (g3 a)) (g4 (g3 a)) (g5 (g3 a)) (g6 (g3 a)) (g7 (g3 a)) (g8 (g3 a)) (g9 (g3 a)) (g10 (g3 a)) (g11 (g3 a)) (h12 (g3 a)) (g4 a).1 (g4 a).2.1 (g4 a).2.2.1 (g3 (g4 a)) (g4 (g4 a)) (g5 (g4 a)) (h6 (g4 a)) (h5 a) 0 zB 0 0 0 0 0 0 0 0 0 0 0 0 0 0 0 0 [] [] [] [] [] b.1.1.1 b.1.1.2.1 b.1.1.2.2.1 (g3 b.1.1) (g4 b.1.1) (g5 b.1.1) (g6 b.1.1) (g7 b.1.1) (g8 b.1.1) (g9 b.1.1) (g10 b.1.1) (g11 b.1.1) (h12 b.1.1) b.1.2.1 []
def Qll (n:Nat):Nat→Quu:=iter (fun _ _ _ _ _ _ _ _ _ _ _ _ _ _ _ _ _ _ _ _ _ _ _ _ _ _ _ _ _ _ _ _ _ _ _ _ _ _ _ _ _ _ _ _ _ _ _ _ _ _ _ _ _ _ _ _ _ _ _ _ _ _ _=>none) fun L=>Ql4 L
def Qqj (n m:Nat) (k:Int) (x:Bool) (I:Int) (T:ByteArray) (v6 v7 v8 v9 a b:Int) (c:List Int) (d e f g h:Int) (i:Qkv) (j l:Int) (o p:Qkl) (q:Qlw) (r s t u:Int) (v:ByteArray) (w y z A B C D E F G H J K L M N:Int) (O:List Int) (P:Qkv) (Q R:Qkl) (S:Qlw) (U V W X Y Z:Int) (aa:List Int) (ab ac ad af ag:Int) (ah:Qkv) (ai aj:Qpc):Option Qna:=
 Qjr Zc5 tab (fiB [.val t38] Z10) n [.val t38] [⟨t38,(nF 24),none⟩,⟨t48,[true],none⟩] Tryz.f27 [1,1,1,1,0,1,0] [] [1,2,4,5,6,7] m
 ⟨[(1,V1 (.ptr (1,0) 0)),(2,V1 (.ptr (2,0) 0)),(4,V1 (.ptr (4,0) 0)),(5,V1 (.ref (888888,5))),(6,V1 (.ref (888888,6))),(7,Vp t2 k)],[((1,0),Ob.box 39 [LV.pure t4 x,LV.pure t2 I,LV.pure t9 T,LV.pure t2 v6,LV.pure t2 v7,LV.pure t2 v8,LV.pure t2 v9,LV.pure t2 a,LV.pure t2 b,LV.pure t28 c,LV.pure t2 d,LV.pure t2 e,LV.pure t2 f,LV.pure t2 g,LV.pure t2 h,LV.pure t29 i,LV.pure t2 j,LV.pure t2 l,LV.pure t32 o,LV.pure t32 p,LV.pure t33 q,LV.pure t2 r,LV.pure t2 s,LV.pure t2 t]),((2,0),Ob.box 39 [LV.lit false,LV.pure t2 u,LV.pure t9 v,LV.pure t2 w,LV.pure t2 y,LV.pure t2 z,LV.pure t2 A,LV.pure t2 B,LV.pure t2 C,LV.ref (2,10),LV.pure t2 D,LV.pure t2 E,LV.pure t2 F,LV.pure t2 G,LV.pure t2 H,LV.ref (2,16),LV.pure t2 J,LV.pure t2 K,LV.ref (2,19),LV.ref (2,20),LV.ref (2,21),LV.pure t2 L,LV.pure t2 M,LV.pure t2 N]),((2,10),Ob.row 3 t2 O),((2,16),Ob.row 53 t52 P),((2,19),Ob.row 59 t58 Q),((2,20),Ob.row 59 t58 R),((2,21),Ob.row 55 t54 S),((4,0),Ob.box 31 [LV.pure t2 U,LV.pure t2 V,LV.pure t2 W,LV.pure t2 X,LV.pure t2 Y,LV.pure t2 Z,LV.pure t28 aa,LV.pure t2 ab,LV.pure t2 ac,LV.pure t2 ad,LV.pure t2 af,LV.pure t2 ag,LV.pure t29 ah]),((888888,5),Ob.row 46 t45 ai),((888888,6),Ob.row 46 t45 aj)]⟩
theorem Qz9 (n:Nat):∀ m,Qqj n m=Qll n m
 | 0=>rfl
 | m+1=>by rw [show Qqj n (m+1)=Ql4 (Qqj n m) from by kernel_rfl,Qz9 n m];rfl
def Z17 (n:Nat) (a:Qy9):Option Qna:=Qro (Qll n n) a
def Qxh (a:Qy9):Option Qna:=Z17 1099511627776 a
def Z1u:Ent:=⟨[.val t38],[⟨t38,(nF 24),none⟩,⟨t48,[true],none⟩],fun x=>Qxh x.1⟩
theorem Z91:GD 27 Z1u:=fnl Z10 (fun n x=>Z17 n x.1) (Qk1 Z2u (Qk1 Z33 (Qk1 Qlh (Qk1 Qwl Qk2)))) Tryz.func27 fun n x=>Eq.trans (b:=Qro (Qqj n n) x.1) (by kernel_rfl) (by rw [Qz9 n n];rfl)
def Z0k (a:Qwt) (b:ByteArray):Option ((Qwt × Bool × Unit) × Unit):=
 bif decide ((b.size:Int)>12) then
  some ((a,false,()),())
 else
 bif decide ((if 1>a.1 then 1 else a.1)>1000000) then
  some ((a,false,()),())
 else
  Option.bind (Qs4 (g4 a) (if 1>a.1 then 1 else a.1) b) fun c=>
  Option.bind (Qp8 a.2.2.1 (if 1>a.1 then 1 else a.1,b)) fun d=>
  some (((u4 (u2 (u1 (u0 a (wJ ((if 1>a.1 then 1 else a.1)+1))) (if 1>a.1 then 1 else a.1)) d.1.1) c.1.1),true,()),())
def Zkg:Ent:=⟨[.val t36,.val t9],[⟨t36,(nF 7),none⟩,⟨t4,[false],none⟩],fun x=>Z0k x.1 x.2.1⟩
theorem Zfe:GD 64 Zkg:=fnk 1 (fo [[1,2,4,14,15],[1,2,4,6,14,15],[1,2,4,6,16],[4,5],[2,4,6],[2,4],[4,5]]) (Qk1 Z39 (Qk1 Qz2 Qk2)) Tryz.func64
def Z0o (a:Qy9) (d:ByteArray):Option ((Qy9 × Qpc × Bool × Unit) × Unit):=
 Option.bind (Z0k (g4 a) d) fun b=>
 bif !a.1 then
  some ((a,[],false,()),())
 else
 bif (g3 a).1 != 1 then
  some ((a,[],false,()),())
 else
 bif !b.1.2.1 then
  some ((a,[],false,()),())
 else
 bif (decide (0≤((g4 (g4 a)).length:Int))&&decide (((g4 (g4 a)).length:Int)≤((g4 b.1.1).length:Int)))&&decide (((g4 b.1.1).length:Int)≤((g4 b.1.1).length:Int)) then
  Option.bind (Qlp (g3 a) (List.drop (((g4 (g4 a)).length:Int).toNat) (List.take (((g4 b.1.1).length:Int).toNat) (g4 b.1.1)))) fun c=>
  some (((u4 a b.1.1),c.1.1,true,()),())
 else none
def Z9r:Ent:=⟨[.val t38,.val t9],[⟨t38,(nF 24),none⟩,⟨t48,[true],none⟩,⟨t4,[false],none⟩],fun x=>Z0o x.1 x.2.1⟩
theorem Zfa:GD 28 Z9r:=fnk 1 (fr [[1,2,4,21,0,24,27,28],[2,4,7,8,21,0,24,27,28],[2,4,7,29],[4,5,6],[2,4,7,9],[2,4,7,9],[4,5,6]]) (Qk1 Qwl (Qk1 Zfe Qk2)) Tryz.func28
def Qo5 (a:Int):Option ((Bool × Unit) × Unit):=
 bif decide (a ≥ 0) then
  some ((decide (a≤1000000),()),())
 else
  some ((false,()),())
def Zk2:Ent:=⟨[.val t2],[⟨t4,[false],none⟩],fun x=>Qo5 x.1⟩
theorem Zfc:GD 106 Zk2:=fnk 1 (fo [[0,6,7],[2]]) Qk2 Tryz.func106
abbrev Qnp:Type:=(Bool × Unit) × Unit
def Zei:Ctx:=[]
def Z1i:Fi:=fo [[0,1],[0,1,10],[4],[0,1,5],[0,1,5,14],[0,1,5],[0,1,5,25],[4],[4]]
abbrev Qvi:Type:=List Int→List Int→Int→Option Qnp
def Qn1 (L1:Qvi) (b c:List Int) (a:Int):Option Qnp:=
 bif decide (a<(b.length:Int)) then
  bif decide (0≤a)&&decide (a<(b.length:Int)) then
   bif decide (0≤a)&&decide (a<(c.length:Int)) then
    bif (List.getD b a.toNat 0) != (List.getD c a.toNat 0) then
     some ((false,()),())
    else
     L1 b c (wJ (a+1))
   else none
  else none
 else
  some ((true,()),())
def Qsn (L1:Qvi) (a b:List Int):Option Qnp:=
 bif (a.length:Int) != (b.length:Int) then
  some ((false,()),())
 else
  L1 a b 0
def Qn7 (n:Nat):Nat→Qvi:=iter (fun _ _ _=>none) fun L=>Qn1 L
def Qrv (n m:Nat) (a b:List Int) (c:Int):Option Qnp:=
 Qjr Zei tab (fiB [.val t28,.val t28] Z1i) n [.val t28,.val t28] [⟨t4,[false],none⟩] Tryz.f81 [1,1,0,1,0] [] [0,1,5] m
 ⟨[(0,Vp t28 a),(1,Vp t28 b),(5,Vp t2 c)],[]⟩
theorem Qzr (n:Nat):∀ m,Qrv n m=Qn7 n m
 | 0=>rfl
 | m+1=>by rw [show Qrv n (m+1)=Qn1 (Qrv n m) from by kernel_rfl,Qzr n m];rfl
def Z2w (n:Nat) (a b:List Int):Option Qnp:=Qsn (Qn7 n n) a b
def Qv4 (a b:List Int):Option Qnp:=Z2w 1099511627776 a b
def Zds:Ent:=⟨[.val t28,.val t28],[⟨t4,[false],none⟩],fun x=>Qv4 x.1 x.2.1⟩
theorem Qz8:GD 81 Zds:=fnl Z1i (fun n x=>Z2w n x.1 x.2.1) Qk2 Tryz.func81 fun n x=>Eq.trans (b:=Qsn (Qrv n n) x.1 x.2.1) (by kernel_rfl) (by rw [Qzr n n];rfl)
def Qkd (a b:Qvh):Option ((Bool × Unit) × Unit):=
 bif a.1==b.1 then
  bif a.2.1==b.2.1 then
   bif a.2.2.1==b.2.2.1 then
    bif a.2.2.2.1==b.2.2.2.1 then
     bif a.2.2.2.2.1==b.2.2.2.2.1 then
      bif a.2.2.2.2.2.1==b.2.2.2.2.2.1 then
       bif a.2.2.2.2.2.2.2.1==b.2.2.2.2.2.2.2.1 then
        bif a.2.2.2.2.2.2.2.2.1==b.2.2.2.2.2.2.2.2.1 then
         bif Qek a.2.2.2.2.2.2.2.2.2 b.2.2.2.2.2.2.2.2.2 then
          Option.bind (Qv4 a.2.2.2.2.2.2.1 b.2.2.2.2.2.2.1) fun c=>
          some ((c.1.1,()),())
         else
          some ((false,()),())
        else
         some ((false,()),())
       else
        some ((false,()),())
      else
       some ((false,()),())
     else
      some ((false,()),())
    else
     some ((false,()),())
   else
    some ((false,()),())
  else
   some ((false,()),())
 else
  some ((false,()),())
def Z38:Ent:=⟨[.val t45,.val t45],[⟨t4,[false],none⟩],fun x=>Qkd x.1 x.2.1⟩
theorem Qza:GD 72 Z38:=fnk 1 (fr [[2,3,11,0,15,18,0,22,25,0,29,32,0,36,39,0,43,46,0,50,53,0,57,60,0,64,67,0,71],[4]]) (Qk1 Qz8 Qk2) Tryz.func72
def Qvr (a:Qvh):Option ((Bool × Unit) × Unit):=
 bif decide (a.1<1) then
  some ((false,()),())
 else
 bif decide (a.1>9) then
  some ((false,()),())
 else
 bif decide (a.2.1<1) then
  some ((false,()),())
 else
 bif decide (a.2.1>8) then
  some ((false,()),())
 else
 bif decide (a.2.2.1<1) then
  some ((false,()),())
 else
 bif decide (a.2.2.1>8) then
  some ((false,()),())
 else
 bif a.2.1==a.2.2.1 then
  some ((false,()),())
 else
 bif decide (a.2.2.2.1<1) then
  some ((false,()),())
 else
 bif decide (a.2.2.2.1>1073741824) then
  some ((false,()),())
 else
 bif a.1==2 then
  bif a.1==2 then
   bif decide (a.2.2.2.2.1 ≥ 0) then
    bif decide (a.2.2.2.2.1≤1073741824) then
     bif decide (a.2.2.2.2.2.1 ≥ 0) then
      bif decide (a.2.2.2.2.2.1≤1073741824) then
       Option.bind (Qpw a.2.2.2.2.2.2.1) fun b=>
       bif a.1==2 then
        bif b.1.1 then
         Option.bind (Qo5 a.2.2.2.2.2.2.2.1) fun m=>
         bif m.1.1 then
          Option.bind (Qkd (a.1,a.2.1,a.2.2.1,a.2.2.2.1,a.2.2.2.2.1,a.2.2.2.2.2.1,a.2.2.2.2.2.2.1,a.2.2.2.2.2.2.2.1,0,zB) a) fun u=>
          some ((u.1.1,()),())
         else
          some ((false,()),())
        else
         some ((false,()),())
       else
       bif b.1.1 then
        Option.bind (Qo5 a.2.2.2.2.2.2.2.2.1) fun v=>
        bif v.1.1 then
         Option.bind (Qkd (a.1,a.2.1,a.2.2.1,a.2.2.2.1,a.2.2.2.2.1,a.2.2.2.2.2.1,a.2.2.2.2.2.2.1,0,a.2.2.2.2.2.2.2.2.1,zB) a) fun w=>
         some ((w.1.1,()),())
        else
         some ((false,()),())
       else
        some ((false,()),())
      else
      bif a.1==2 then
       some ((false,()),())
      else
       some ((false,()),())
     else
     bif a.1==2 then
      some ((false,()),())
     else
      some ((false,()),())
    else
    bif a.1==2 then
     some ((false,()),())
    else
     some ((false,()),())
   else
   bif a.1==2 then
    some ((false,()),())
   else
    some ((false,()),())
  else
  bif a.1==7 then
   bif decide (a.2.2.2.2.2.2.2.1 ≥ 1) then
    Option.bind (Qo5 a.2.2.2.2.2.2.2.1) fun x=>
    bif x.1.1 then
     bif decide ((a.2.2.2.2.2.2.2.2.2.size:Int)≤12) then
      Option.bind (Qkd (a.1,a.2.1,a.2.2.1,a.2.2.2.1,0,0,[],a.2.2.2.2.2.2.2.1,0,a.2.2.2.2.2.2.2.2.2) a) fun y=>
      some ((y.1.1,()),())
     else
      some ((false,()),())
    else
     some ((false,()),())
   else
    some ((false,()),())
  else
  bif a.1==8 then
   bif a.1==8 then
    Option.bind (Ql1 (a.2.2.2.2.2.2.2.1,a.2.2.2.2.2.2.2.2.1)) fun z=>
    bif z.1.1 then
     Option.bind (Qkd (a.1,a.2.1,a.2.2.1,a.2.2.2.1,0,0,[],a.2.2.2.2.2.2.2.1,a.2.2.2.2.2.2.2.2.1,zB) a) fun A=>
     some ((A.1.1,()),())
    else
     some ((false,()),())
   else
    Option.bind (Qkd (a.1,a.2.1,a.2.2.1,a.2.2.2.1,0,0,[],0,0,zB) a) fun d=>
    some ((d.1.1,()),())
  else
  bif a.1==9 then
   Option.bind (Ql1 (a.2.2.2.2.2.2.2.1,a.2.2.2.2.2.2.2.2.1)) fun e=>
   bif e.1.1 then
    Option.bind (Qkd (a.1,a.2.1,a.2.2.1,a.2.2.2.1,0,0,[],a.2.2.2.2.2.2.2.1,a.2.2.2.2.2.2.2.2.1,zB) a) fun f=>
    some ((f.1.1,()),())
   else
    some ((false,()),())
  else
   Option.bind (Qkd (a.1,a.2.1,a.2.2.1,a.2.2.2.1,0,0,[],0,0,zB) a) fun g=>
   some ((g.1.1,()),())
 else
 bif a.1==5 then
  bif decide (a.2.2.2.2.1 ≥ 0) then
   bif decide (a.2.2.2.2.1≤1073741824) then
    bif decide (a.2.2.2.2.2.1 ≥ 0) then
     bif decide (a.2.2.2.2.2.1≤1073741824) then
      Option.bind (Qpw a.2.2.2.2.2.2.1) fun c=>
      bif a.1==2 then
       bif c.1.1 then
        Option.bind (Qo5 a.2.2.2.2.2.2.2.1) fun h=>
        bif h.1.1 then
         Option.bind (Qkd (a.1,a.2.1,a.2.2.1,a.2.2.2.1,a.2.2.2.2.1,a.2.2.2.2.2.1,a.2.2.2.2.2.2.1,a.2.2.2.2.2.2.2.1,0,zB) a) fun i=>
         some ((i.1.1,()),())
        else
         some ((false,()),())
       else
        some ((false,()),())
      else
      bif c.1.1 then
       Option.bind (Qo5 a.2.2.2.2.2.2.2.2.1) fun j=>
       bif j.1.1 then
        Option.bind (Qkd (a.1,a.2.1,a.2.2.1,a.2.2.2.1,a.2.2.2.2.1,a.2.2.2.2.2.1,a.2.2.2.2.2.2.1,0,a.2.2.2.2.2.2.2.2.1,zB) a) fun k=>
        some ((k.1.1,()),())
       else
        some ((false,()),())
      else
       some ((false,()),())
     else
     bif a.1==2 then
      some ((false,()),())
     else
      some ((false,()),())
    else
    bif a.1==2 then
     some ((false,()),())
    else
     some ((false,()),())
   else
   bif a.1==2 then
    some ((false,()),())
   else
    some ((false,()),())
  else
  bif a.1==2 then
   some ((false,()),())
  else
   some ((false,()),())
 else
 bif a.1==7 then
  bif decide (a.2.2.2.2.2.2.2.1 ≥ 1) then
   Option.bind (Qo5 a.2.2.2.2.2.2.2.1) fun l=>
   bif l.1.1 then
    bif decide ((a.2.2.2.2.2.2.2.2.2.size:Int)≤12) then
     Option.bind (Qkd (a.1,a.2.1,a.2.2.1,a.2.2.2.1,0,0,[],a.2.2.2.2.2.2.2.1,0,a.2.2.2.2.2.2.2.2.2) a) fun n=>
     some ((n.1.1,()),())
    else
     some ((false,()),())
   else
    some ((false,()),())
  else
   some ((false,()),())
 else
 bif a.1==8 then
  bif a.1==8 then
   Option.bind (Ql1 (a.2.2.2.2.2.2.2.1,a.2.2.2.2.2.2.2.2.1)) fun o=>
   bif o.1.1 then
    Option.bind (Qkd (a.1,a.2.1,a.2.2.1,a.2.2.2.1,0,0,[],a.2.2.2.2.2.2.2.1,a.2.2.2.2.2.2.2.2.1,zB) a) fun p=>
    some ((p.1.1,()),())
   else
    some ((false,()),())
  else
   Option.bind (Qkd (a.1,a.2.1,a.2.2.1,a.2.2.2.1,0,0,[],0,0,zB) a) fun q=>
   some ((q.1.1,()),())
 else
 bif a.1==9 then
  Option.bind (Ql1 (a.2.2.2.2.2.2.2.1,a.2.2.2.2.2.2.2.2.1)) fun r=>
  bif r.1.1 then
   Option.bind (Qkd (a.1,a.2.1,a.2.2.1,a.2.2.2.1,0,0,[],a.2.2.2.2.2.2.2.1,a.2.2.2.2.2.2.2.2.1,zB) a) fun s=>
   some ((s.1.1,()),())
  else
   some ((false,()),())
 else
  Option.bind (Qkd (a.1,a.2.1,a.2.2.1,a.2.2.2.1,0,0,[],0,0,zB) a) fun t=>
  some ((t.1.1,()),())
def Z4k:Ent:=⟨[.val t45],[⟨t4,[false],none⟩],fun x=>Qvr x.1⟩
theorem Zbe:GD 50 Z4k:=fnk 1 (fr [[1,9,0,11,14,0,16,19,0,21,24,0,26,29,0,31,34,0,38,41,0,43,46,0,48,77,0,79,82,0,84,87,0,89,92,0,94,104,0,106,113,0,115,129,0,131,134,0,137,156,0,158],[1,49,77,0,79,82,0,84,87,0,89,92,0,94,104,0,106,113,0,115,129,0,131,134,0,137,156,0,158],[2],[1,3,77,0,79,82,0,84,87,0,89,92,0,94,104,0,106,113,0,115,129,0,131,134,0,137,156,0,158],[1,3,4,77,0,79,82,0,84,87,0,89,92,0,94,104,0,106,113,0,115,129,0,131,134,0,137,156,0,158],[1,3,4,60,77,0,79,82,0,84,87,0,89,92,0,94,104,0,106,113,0,115,129,0,131,134,0,137,156,0,158],[1,3,4,60,61,77,0,79,82,0,84,87,0,89,92,0,94,104,0,106,113,0,115,129,0,131,134,0,137,156,0,158],[1,3,4,60,61,77,0,79,82,0,84,87,0,89,92,0,94,104,0,106,113,0,115,129,0,131,134,0,137,156,0,158],[1,3,77,0,79,82,0,84,87,0,89,92,0,94,104,0,106,113,0,115,156,0,158],[1,3,4,104,0,106,113,0,115,156,0,158],[1,3,4,98,104,0,106,113,0,115,156,0,158],[1,3,4,104,0,106,156,0,158],[1,3,4,156,0,158],[1,3,4,113,0,115,156,0,158],[1,3,4,156,0,158],[1,3,4,60,117,129,0,131,134,0,137,156,0,158],[1,3,129,0,131,134,0,137,156,0,158],[1,3,4,156,0,158],[1,3,4,60,139,156,0,158],[1,3,4,139,156,0,158],[1,3,156,0,158],[1,3,4,156,0,158],[2]]) (Qk1 Qza (Qk1 Z0a (Qk1 Zfc (Qk1 Quz Qk2)))) Tryz.func50
abbrev Qok:Type:=((List Int) × Unit) × Unit
def Zfp:Ctx:=[]
def Z30:Fi:=fo [[0,1],[1,5],[1,5,10],[1,5],[4]]
abbrev Qwm:Type:=Int→List Int→Option Qok
def Qsr (L1:Qwm) (a:Int) (b:List Int):Option Qok:=
 bif decide (a ≥ 128) then
  bif Nat.ble (b.length+1) 1073741824 then
   L1 (wJ (Int.tdiv a 128)) (b++[IntKind.wrap .u8 (wJ ((Int.tmod a 128)+128))])
  else none
 else
 bif Nat.ble (b.length+1) 1073741824 then
  some ((b++[IntKind.wrap .u8 a],()),())
 else none
def Qt9 (L1:Qwm) (a:List Int) (b:Int):Option Qok:=
 bif Nat.ble (0+a.length) 1073741824 then
  L1 b ([]++a)
 else none
def Qph (n:Nat):Nat→Qwm:=iter (fun _ _=>none) fun L=>Qsr L
def Qsa (n m:Nat) (a:Int) (b:List Int):Option Qok:=
 Qjr Zfp tab (fiB [.val t25,.val t2] Z30) n [.val t25,.val t2] [⟨t25,[true],none⟩] Tryz.f51 [1,1,0,0] [] [1,5] m
 ⟨[(1,Vp t2 a),(5,V1 (.ref (888888,5)))],[((888888,5),Ob.row 5 t5 b)]⟩
theorem Z1d (n:Nat):∀ m,Qsa n m=Qph n m
 | 0=>rfl
 | m+1=>by rw [show Qsa n (m+1)=Qsr (Qsa n m) from by kernel_rfl,Z1d n m];rfl
def Z51 (n:Nat) (a:List Int) (b:Int):Option Qok:=Qt9 (Qph n n) a b
def Qw0 (a:List Int) (b:Int):Option Qok:=Z51 1099511627776 a b
def Z42:Ent:=⟨[.val t25,.val t2],[⟨t25,[true],none⟩],fun x=>Qw0 x.1 x.2.1⟩
theorem Z0w:GD 51 Z42:=fnl Z30 (fun n x=>Z51 n x.1 x.2.1) Qk2 Tryz.func51 fun n x=>Eq.trans (b:=Qt9 (Qsa n n) x.1 x.2.1) (by kernel_rfl) (by rw [Z1d n n];rfl)
def Qun (d:List Int) (a:ByteArray):Option (((List Int) × Unit) × Unit):=
 Option.bind (Qw0 d (a.size:Int)) fun c=>
 bif Nat.ble (c.1.1.length+(a.data.toList.map fun b=>(b.toNat:Int)).length) 1073741824 then
  some ((c.1.1++(a.data.toList.map fun b=>(b.toNat:Int)),()),())
 else none
def Z3b:Ent:=⟨[.val t25,.val t9],[⟨t25,[true],none⟩],fun x=>Qun x.1 x.2.1⟩
theorem Zab:GD 52 Z3b:=fnk 1 (fo [[0,1],[4]]) (Qk1 Z0w Qk2) Tryz.func52
abbrev Qmv:Type:=(Int × Unit) × Unit
def Z9z:Ctx:=[]
def Qzy:Fi:=fo [[0],[0,3],[0,3,4],[0,3,4,9],[0,3,4],[0,3,4],[0,3,4,5],[0,3,4,5,20],[0,3,4,5],[0,3,4,5,25],[0,3,4,5],[0,3,4,5],[2]]
abbrev Qvw:Type:=List Int→Int→Int→Option Qmv
abbrev Z0m:Type:=List Int→Int→Int→Int→Option Qmv
def Qq7 (L2:Z0m) (b:List Int) (c a:Int):Option Qmv:=
 bif decide (a<(b.length:Int)) then
  bif decide (0≤a)&&decide (a<(b.length:Int)) then
   L2 b (IntKind.wrap .u32 ((BitVec.ofInt 32 c ^^^ BitVec.ofInt 32 (IntKind.wrap .u32 (List.getD b a.toNat 0))).toNat)) a 0
  else none
 else
  some ((IntKind.wrap .u32 ((BitVec.ofInt 32 4294967295 ^^^ BitVec.ofInt 32 c).toNat),()),())
def Qq1 (L2:Z0m) (L1:Qvw) (b:List Int) (a c d:Int):Option Qmv:=
 bif decide (d<8) then
  bif (Int.tmod a 2)==1 then
   L2 b (IntKind.wrap .u32 ((BitVec.ofInt 32 (IntKind.wrap .u32 (Int.tdiv a 2)) ^^^ BitVec.ofInt 32 3988292384).toNat)) c (wJ (d+1))
  else
   L2 b (IntKind.wrap .u32 (Int.tdiv a 2)) c (wJ (d+1))
 else
  L1 b a (wJ (c+1))
def Z9g (L1:Qvw) (a:List Int):Option Qmv:=
 L1 a 4294967295 0
def Qo8 (n:Nat) (m1:Nat) (a:Qvw):Nat→Z0m:=iter (fun _ _ _ _=>none) fun L=>Qq1 L a
def Qq3 (n:Nat):Nat→Qvw:=Qjd (fun _ _ _=>none) fun m L=>Qq7 (Qo8 n m L n)
def Qsi (n m:Nat) (a:List Int) (b c:Int):Option Qmv:=
 Qjr Z9z tab (fiB [.val t25] Qzy) n [.val t25] [⟨t91,[false],none⟩] Tryz.f53 [1,1,0,1,0] [] [0,3,4] m
 ⟨[(0,Vp t25 a),(3,Vp t91 b),(4,Vp t2 c)],[]⟩
def Qvx (n m1 m:Nat) (a:List Int) (b c d:Int):Option Qmv:=
 Qjr Z9z tab (fiB [.val t25] Qzy) n [.val t25] [⟨t91,[false],none⟩] Tryz.f53 [1,1,0,1,0,0,1,0,0,1,1,0] [(m1,[0,3,4])] [0,3,4,5] m
 ⟨[(0,Vp t25 a),(3,Vp t91 b),(4,Vp t2 c),(5,Vp t2 d)],[]⟩
theorem Z6j (n m1:Nat):∀ m,Qvx n m1 m=Qo8 n m1 (Qsi n m1) m
 | 0=>rfl
 | m+1=>by rw [show Qvx n m1 (m+1)=Qq1 (Qvx n m1 m) (Qsi n m1) from by kernel_rfl,Z6j n m1 m];rfl
theorem Z6n (n:Nat):∀ m,Qsi n m=Qq3 n m
 | 0=>rfl
 | m+1=>by rw [show Qsi n (m+1)=Qq7 (Qvx n m n) from by kernel_rfl,Z6j n m n,Z6n n m];rfl
def Z9c (n:Nat) (a:List Int):Option Qmv:=Z9g (Qq3 n n) a
def Z6h (a:List Int):Option Qmv:=Z9c 1099511627776 a
def Za9:Ent:=⟨[.val t25],[⟨t91,[false],none⟩],fun x=>Z6h x.1⟩
theorem Zf8:GD 53 Za9:=fnl Qzy (fun n x=>Z9c n x.1) Qk2 Tryz.func53 fun n x=>Eq.trans (b:=Z9g (Qsi n n) x.1) (by kernel_rfl) (by rw [Z6n n n];rfl)
abbrev Qoh:Type:=((List Int) × Unit) × Unit
def Zfb:Ctx:=[(50,Z4k),(51,Z42),(52,Z3b),(53,Za9)]
def Z2v:Fi:={ keep:=[],vty:=[(4,25)],vals:=[],live:=[(0,[1]),(1,[1,9]),(2,[2]),(3,[1,3]),(4,[1,3]),(5,[1,3,4]),(6,[1,3,4,5]),(7,[1,3,4,5,39]),(8,[1,3,4,5]),(9,[1,3,4,5]),(10,[4]),(11,[4,6]),(12,[2])] }
abbrev Qwo:Type:=Int→Int→Int→Int→Int→Int→Int→List Int→Int→Int→ByteArray→List Int→List Int→Option Qoh
def Qnx (L1:Qwo) (a j k l m n o:Int) (p:List Int) (h i:Int) (e:ByteArray) (b f:List Int):Option Qoh:=
 bif decide (a<(b.length:Int)) then
  bif decide (0≤a)&&decide (a<(b.length:Int)) then
   bif decide (0≤a)&&decide (a<(b.length:Int)) then
    Option.bind (Qw0 f (List.getD b a.toNat 0)) fun g=>
    L1 (wJ (a+1)) j k l m n o p h i e b g.1.1
   else none
  else none
 else
  Option.bind (Qun f e) fun d=>
  Option.bind (Z6h d.1.1) fun c=>
  bif Nat.ble (d.1.1.length+4) 1073741824 then
   some ((d.1.1++[IntKind.wrap .u8 (Int.fdiv c.1.1 (2 ^ 24)),IntKind.wrap .u8 (Int.fdiv c.1.1 (2 ^ 16)),IntKind.wrap .u8 (Int.fdiv c.1.1 (2 ^ 8)),IntKind.wrap .u8 c.1.1],()),())
  else none
def Qt8 (L1:Qwo) (a:Qvh):Option Qoh:=
 Option.bind (Qvr a) fun b=>
 bif !b.1.1 then
  some (([],()),())
 else
 bif Nat.ble (7+a.2.2.2.2.2.2.1.length) 1073741824 then
  bif Nat.ble (([a.1,a.2.1,a.2.2.1,a.2.2.2.1,a.2.2.2.2.1,a.2.2.2.2.2.1,(a.2.2.2.2.2.2.1.length:Int)]++a.2.2.2.2.2.2.1).length+2) 1073741824 then
   L1 0 a.1 a.2.1 a.2.2.1 a.2.2.2.1 a.2.2.2.2.1 a.2.2.2.2.2.1 a.2.2.2.2.2.2.1 a.2.2.2.2.2.2.2.1 a.2.2.2.2.2.2.2.2.1 a.2.2.2.2.2.2.2.2.2 (([a.1,a.2.1,a.2.2.1,a.2.2.2.1,a.2.2.2.2.1,a.2.2.2.2.2.1,(a.2.2.2.2.2.2.1.length:Int)]++a.2.2.2.2.2.2.1)++[a.2.2.2.2.2.2.2.1,a.2.2.2.2.2.2.2.2.1]) []
  else none
 else none
def Qny (n:Nat):Nat→Qwo:=iter (fun _ _ _ _ _ _ _ _ _ _ _ _ _=>none) fun L=>Qnx L
def Qsp (n m:Nat) (f g h i j k l:Int) (o:List Int) (a b:Int) (c:ByteArray) (d e:List Int):Option Qoh:=
 Qjr Zfb tab (fiB [.val t45] Z2v) n [.val t45] [⟨t25,[true],none⟩] Tryz.f19 [1,1,1,1,1,0,1,0] [] [1,3,4,5] m
 ⟨[(1,V1 (.ptr (1,0) 0)),(3,V1 (.ref (888888,3))),(4,V1 (.ref (888888,4))),(5,Vp t2 f)],[((1,0),Ob.box 46 [LV.pure t2 g,LV.pure t2 h,LV.pure t2 i,LV.pure t2 j,LV.pure t2 k,LV.pure t2 l,LV.pure t28 o,LV.pure t2 a,LV.pure t2 b,LV.pure t9 c]),((888888,3),Ob.row 3 t2 d),((888888,4),Ob.row 5 t5 e)]⟩
theorem Z1g (n:Nat):∀ m,Qsp n m=Qny n m
 | 0=>rfl
 | m+1=>by rw [show Qsp n (m+1)=Qnx (Qsp n m) from by kernel_rfl,Z1g n m];rfl
def Z4r (n:Nat) (a:Qvh):Option Qoh:=Qt8 (Qny n n) a
def Qlg (a:Qvh):Option Qoh:=Z4r 1099511627776 a
def Qxg:Ent:=⟨[.val t45],[⟨t25,[true],none⟩],fun x=>Qlg x.1⟩
theorem Z0z:GD 19 Qxg:=fnl Z2v (fun n x=>Z4r n x.1) (Qk1 Zbe (Qk1 Z0w (Qk1 Zab (Qk1 Zf8 Qk2)))) Tryz.func19 fun n x=>Eq.trans (b:=Qt8 (Qsp n n) x.1) (by kernel_rfl) (by rw [Z1g n n];rfl)
abbrev Qnz:Type:=(Int × Int × Bool × Unit) × Unit
def Zd8:Ctx:=[]
def Z1h:Fi:=fr [[0,13,14,38,0,42,45,46],[0,5,6,13,14,38,0,42,45,46],[0,5,6,7,13,14,38,0,42,45,46],[0,5,6,7,13,0,15,38,0,42,45,46],[0,5,6,7,13,14,38,0,42,45,46],[0,5,6,7,13,14,38,0,42,45,46],[0,5,6,7,13,14,38,0,42,45,46],[0,5,6,7,13,14,34,38,0,42,45,46],[5,7,47],[2,3,4],[2,3,4],[2,3,4]]
abbrev Qvj:Type:=List Int→Int→Int→Int→Option Qnz
def Qry (L1:Qvj) (b:List Int) (d c a:Int):Option Qnz:=
 bif decide (a<(b.length:Int)) then
  bif decide (a<5) then
   bif decide (0≤a)&&decide (a<(b.length:Int)) then
    bif decide (0≤a)&&decide (a<(b.length:Int)) then
     bif decide (List.getD b a.toNat 0<128) then
      bif decide (a>0) then
       bif decide (0≤a)&&decide (a<(b.length:Int)) then
        bif (List.getD b a.toNat 0)==0 then
         some ((0,0,false,()),())
        else
        bif decide (wJ (d+(wJ ((wJ (Int.tmod (List.getD b a.toNat 0) 128))*c)))>1073741824) then
         some ((0,0,false,()),())
        else
         some ((wJ (d+(wJ ((wJ (Int.tmod (List.getD b a.toNat 0) 128))*c))),wJ (a+1),true,()),())
       else none
      else
      bif decide (wJ (d+(wJ ((wJ (Int.tmod (List.getD b a.toNat 0) 128))*c)))>1073741824) then
       some ((0,0,false,()),())
      else
       some ((wJ (d+(wJ ((wJ (Int.tmod (List.getD b a.toNat 0) 128))*c))),wJ (a+1),true,()),())
     else
      L1 b (wJ (d+(wJ ((wJ (Int.tmod (List.getD b a.toNat 0) 128))*c)))) (wJ (c*128)) (wJ (a+1))
    else none
   else none
  else
   some ((0,0,false,()),())
 else
  some ((0,0,false,()),())
def Z2y (L1:Qvj) (a:List Int):Option Qnz:=
 L1 a 0 1 0
def Qrw (n:Nat):Nat→Qvj:=iter (fun _ _ _ _=>none) fun L=>Qry L
def Qrn (n m:Nat) (a:List Int) (b c d:Int):Option Qnz:=
 Qjr Zd8 tab (fiB [.val t25] Z1h) n [.val t25] [⟨t2,[false],none⟩,⟨t2,[false],none⟩,⟨t4,[false],none⟩] Tryz.f108 [1,1,0,1,0] [] [0,5,6,7] m
 ⟨[(0,Vp t25 a),(5,Vp t2 b),(6,Vp t2 c),(7,Vp t2 d)],[]⟩
theorem Qzx (n:Nat):∀ m,Qrn n m=Qrw n m
 | 0=>rfl
 | m+1=>by rw [show Qrn n (m+1)=Qry (Qrn n m) from by kernel_rfl,Qzx n m];rfl
def Z35 (n:Nat) (a:List Int):Option Qnz:=Z2y (Qrw n n) a
def Qub (a:List Int):Option Qnz:=Z35 1099511627776 a
def Zd6:Ent:=⟨[.val t25],[⟨t2,[false],none⟩,⟨t2,[false],none⟩,⟨t4,[false],none⟩],fun x=>Qub x.1⟩
theorem Qze:GD 108 Zd6:=fnl Z1h (fun n x=>Z35 n x.1) Qk2 Tryz.func108 fun n x=>Eq.trans (b:=Z2y (Qrn n n) x.1) (by kernel_rfl) (by rw [Qzx n n];rfl)
def Qkc (a:X0a):Option ((Int × Unit) × (X0a × Unit)):=
 Option.bind (Qub a.1) fun b=>
 bif !b.1.2.2.1 then
  some ((0,()),((a.1,true),()))
 else
 bif a.2 then
  some ((0,()),(a,()))
 else
 bif (decide (0≤b.1.2.1)&&decide (b.1.2.1≤(a.1.length:Int)))&&decide ((a.1.length:Int)≤(a.1.length:Int)) then
  some ((b.1.1,()),((List.drop b.1.2.1.toNat (List.take ((a.1.length:Int).toNat) a.1),a.2),()))
 else none
def Qzb:Ent:=⟨[.box 96 t95 [false,false]],[⟨t2,[false],none⟩],fun x=>Qkc x.1⟩
theorem Z6o:GD 54 Qzb:=fnk 1 (fo [[0],[0,3,4,5],[0,3,4,16],[0,3,4],[0,3,4,23],[0,2],[0,3],[0,2]]) (Qk1 Qze Qk2) Tryz.func54
def Qxo (b:List Int):Option ((ByteArray × Int × Bool × Unit) × Unit):=
 Option.bind (Qub b) fun a=>
 bif !a.1.2.2.1 then
  some ((zB,0,false,()),())
 else
 bif decide (a.1.1>wJ ((b.length:Int) - a.1.2.1)) then
  some ((zB,0,false,()),())
 else
 bif (decide (0≤a.1.2.1)&&decide (a.1.2.1≤wJ (a.1.2.1+a.1.1)))&&decide (wJ (a.1.2.1+a.1.1)≤(b.length:Int)) then
  some ((Q58 (List.drop a.1.2.1.toNat (List.take ((wJ (a.1.2.1+a.1.1)).toNat) b)),wJ (a.1.2.1+a.1.1),true,()),())
 else none
def Zca:Ent:=⟨[.val t25],[⟨t9,[false],none⟩,⟨t2,[false],none⟩,⟨t4,[false],none⟩],fun x=>Qxo x.1⟩
theorem Z98:GD 109 Zca:=fnk 1 (fr [[0,17,0,22],[0,5,6,7,17,0,22],[0,5,6,23],[2,3,4],[2,3,4]]) (Qk1 Qze Qk2) Tryz.func109
def Qmo (a:X0a):Option (Zwm × (X0a × Unit)):=
 Option.bind (Qxo a.1) fun b=>
 bif !b.1.2.2.1 then
  some ((zB,()),((a.1,true),()))
 else
 bif a.2 then
  some ((zB,()),(a,()))
 else
 bif (decide (0≤b.1.2.1)&&decide (b.1.2.1≤(a.1.length:Int)))&&decide ((a.1.length:Int)≤(a.1.length:Int)) then
  some ((b.1.1,()),((List.drop b.1.2.1.toNat (List.take ((a.1.length:Int).toNat) a.1),a.2),()))
 else none
def Qxy:Ent:=⟨[.box 96 t95 [false,false]],[⟨t9,[false],none⟩],fun x=>Qmo x.1⟩
theorem Z5c:GD 55 Qxy:=fnk 1 (fo [[0],[0,3,4,5],[0,3,4,16],[0,3,4],[0,3,4,23],[0,2],[0,3],[0,2]]) (Qk1 Z98 Qk2) Tryz.func55
abbrev Qno:Type:=(Qvh × Bool × Unit) × Unit
def Ze0:Ctx:=[(19,Qxg),(54,Qzb),(55,Qxy)]
def Z1t:Fi:=fr [[0,2,41,0,45,70,0,75],[0,2,9,41,0,45,70,0,75],[2,3],[0,2,4,41,0,45,70,0,75],[0,2,4,5,41,0,45,70,0,75],[0,2,4,5,41,0,45,70,0,75],[0,2,4,5,41,0,45,70,0,75],[0,2,4,5,41,0,45,70,0,75],[0,2,4,5,41,0,45,70,0,75],[0,2,4,5,41,0,45,70,0,75],[0,2,4,5,6,41,0,45,70,0,75],[0,2,4,5,6,41,0,46,70,0,75],[0,2,4,5,6,41,0,45,70,0,75],[0,2,4,5,6,41,0,45,70,0,75],[0,2,4,5,70,0,75],[0,2,4,5,70,0,75],[0,2,4,5,70,0,75],[2,5,76],[2,3],[2,3]]
abbrev Qvl:Type:=List Int→Int→Int→Int→Int→Int→Int→Int→Int→Int→ByteArray→List Int→List Int→Bool→Int→Int→Int→Int→Int→Int→Int→Int→ByteArray→List Int→Option Qno
def Qnd (L1:Qvl) (q:List Int) (r u v w x y z A B:Int) (C:ByteArray) (D p:List Int) (h:Bool) (b c d e f g E F:Int) (G:ByteArray) (a:List Int):Option Qno:=
 bif decide (r>0) then
  bif !h then
   Option.bind (Qkc (p,h)) fun i=>
   bif Nat.ble (a.length+1) 1073741824 then
    L1 q (wJ (r - 1)) u v w x y z A B C D i.2.1.1 i.2.1.2 b c d e f g E F G (a++[i.1.1])
   else none
  else
   Option.bind (Qkc (p,h)) fun j=>
   Option.bind (Qkc j.2.1) fun k=>
   Option.bind (Qmo k.2.1) fun l=>
   bif l.2.1.2 then
    some ((Z15,false,()),())
   else
    Option.bind (Qlg (b,c,d,e,f,g,a,j.1.1,k.1.1,l.1.1)) fun s=>
    bif !(Qek (Q58 s.1.1) (Q58 q)) then
     some ((Z15,false,()),())
    else
     some (((b,c,d,e,f,g,a,j.1.1,k.1.1,l.1.1),true,()),())
 else
  Option.bind (Qkc (p,h)) fun m=>
  Option.bind (Qkc m.2.1) fun n=>
  Option.bind (Qmo n.2.1) fun o=>
  bif o.2.1.2 then
   some ((Z15,false,()),())
  else
   Option.bind (Qlg (b,c,d,e,f,g,a,m.1.1,n.1.1,o.1.1)) fun t=>
   bif !(Qek (Q58 t.1.1) (Q58 q)) then
    some ((Z15,false,()),())
   else
    some (((b,c,d,e,f,g,a,m.1.1,n.1.1,o.1.1),true,()),())
def Qsh (L1:Qvl) (a:List Int):Option Qno:=
 bif decide ((a.length:Int)<4) then
  some ((Z15,false,()),())
 else
 bif decide (0≤wJ ((a.length:Int) - 4))&&decide (wJ ((a.length:Int) - 4)≤(a.length:Int)) then
  Option.bind (Qkc (List.drop 0 (List.take ((wJ ((a.length:Int) - 4)).toNat) a),false)) fun c=>
  Option.bind (Qkc c.2.1) fun d=>
  Option.bind (Qkc d.2.1) fun e=>
  Option.bind (Qkc e.2.1) fun f=>
  Option.bind (Qkc f.2.1) fun g=>
  Option.bind (Qkc g.2.1) fun h=>
  Option.bind (Qkc h.2.1) fun b=>
  L1 a b.1.1 0 0 0 0 0 0 0 0 zB [] b.2.1.1 b.2.1.2 c.1.1 d.1.1 e.1.1 f.1.1 g.1.1 h.1.1 0 0 zB []
 else none
def Qn2 (n:Nat):Nat→Qvl:=iter (fun _ _ _ _ _ _ _ _ _ _ _ _ _ _ _ _ _ _ _ _ _ _ _ _=>none) fun L=>Qnd L
def Qrz (n m:Nat) (y:List Int) (z a b c d e f g h:Int) (i:ByteArray) (j k:List Int) (l:Bool) (o p q r s t u v:Int) (w:ByteArray) (x:List Int):Option Qno:=
 Qjr Ze0 tab (fiB [.val t25] Z1t) n [.val t25] [⟨t45,(nF 6++[true,false,false,false]),none⟩,⟨t4,[false],none⟩] Tryz.f20 [1,1,1,1,1,1,1,1,1,0,1,0] [] [0,2,4,5,6] m
 ⟨[(0,Vp t25 y),(2,V1 (.ptr (2,0) 0)),(4,V1 (.ptr (17,0) 0)),(5,V1 (.ptr (5,0) 0)),(6,Vp t2 z)],[((2,0),Ob.box 46 [LV.pure t2 a,LV.pure t2 b,LV.pure t2 c,LV.pure t2 d,LV.pure t2 e,LV.pure t2 f,LV.ref (2,7),LV.pure t2 g,LV.pure t2 h,LV.pure t9 i]),((2,7),Ob.row 3 t2 j),((17,0),Ob.box 96 [LV.pure t25 k,LV.pure t4 l]),((5,0),Ob.box 46 [LV.pure t2 o,LV.pure t2 p,LV.pure t2 q,LV.pure t2 r,LV.pure t2 s,LV.pure t2 t,LV.ref (5,7),LV.pure t2 u,LV.pure t2 v,LV.pure t9 w]),((5,7),Ob.row 3 t2 x)]⟩
theorem Z0x (n:Nat):∀ m,Qrz n m=Qn2 n m
 | 0=>rfl
 | m+1=>by rw [show Qrz n (m+1)=Qnd (Qrz n m) from by kernel_rfl,Z0x n m];rfl
def Z3i (n:Nat) (a:List Int):Option Qno:=Qsh (Qn2 n n) a
def Qyi (a:List Int):Option Qno:=Z3i 1099511627776 a
def Zcr:Ent:=⟨[.val t25],[⟨t45,(nF 6++[true,false,false,false]),none⟩,⟨t4,[false],none⟩],fun x=>Qyi x.1⟩
theorem Z9i:GD 20 Zcr:=fnl Z1t (fun n x=>Z3i n x.1) (Qk1 Z0z (Qk1 Z6o (Qk1 Z5c Qk2))) Tryz.func20 fun n x=>Eq.trans (b:=Qsh (Qrz n n) x.1) (by kernel_rfl) (by rw [Z0x n n];rfl)
abbrev Qo9:Type:=(Qmq × Unit) × Unit
def Zfv:Ctx:=[(107,Z4o)]
def Z3g:Fi:={ keep:=[],vty:=[(5,146),(6,146)],vals:=[],live:=[(0,[0,3]),(1,[0,3,10]),(2,[4]),(3,[0,3,5,6]),(4,[0,3,5,6,7]),(5,[0,3,5,6,7,17]),(6,[0,3,5,6,7]),(7,[0,3,5,6,7]),(8,[0,3,5,6,7,37]),(9,[0,3,5,6,7]),(10,[0,3,5,6,7,54]),(11,[0,3,5,6,7]),(12,[4])] }
abbrev Qwp:Type:=Qmq→Int→Int→Int→Qmq→Qmq→Option Qo9
def Qnq (L1:Qwp) (a:Qmq) (b c d:Int) (e f:Qmq):Option Qo9:=
 bif decide (b<(a.length:Int)) then
  bif ix b (a.length:Int) then
   bif decide (wJ (((List.getD a b.toNat (0,0)).2)+1)<c) then
    bif ix b (a.length:Int) then
     bif Nat.ble (e.length+1) 1073741824 then
      L1 a (wJ (b+1)) c d (e++[(List.getD a b.toNat (0,0))]) f
     else none
    else none
   else
   bif ix b (a.length:Int) then
    bif decide ((List.getD a b.toNat (0,0)).1>wJ (d+1)) then
     bif ix b (a.length:Int) then
      bif Nat.ble (f.length+1) 1073741824 then
       L1 a (wJ (b+1)) c d e (f++[(List.getD a b.toNat (0,0))])
      else none
     else none
    else
    bif ix b (a.length:Int) then
     bif ix b (a.length:Int) then
      L1 a (wJ (b+1)) (if (List.getD a b.toNat (0,0)).1<c then (List.getD a b.toNat (0,0)).1 else c) (if (List.getD a b.toNat (0,0)).2>d then (List.getD a b.toNat (0,0)).2 else d) e f
     else none
    else none
   else none
  else none
 else
 bif Nat.ble (e.length+1) 1073741824 then
  bif Nat.ble ((e++[(c,d)]).length+f.length) 1073741824 then
   some (((e++[(c,d)])++f,()),())
  else none
 else none
def Qti (L1:Qwp) (a:Qmq) (b:Int × Int):Option Qo9:=
 Option.bind (Ql1 b) fun c=>
 bif !c.1.1 then
  bif Nat.ble (0+a.length) 1073741824 then
   some (([]++a,()),())
  else none
 else
  L1 a 0 b.1 b.2 [] []
def Qmb (n:Nat):Nat→Qwp:=iter (fun _ _ _ _ _ _=>none) fun L=>Qnq L
def Qsk (n m:Nat) (a:Qmq) (b c d:Int) (e f:Qmq):Option Qo9:=
 Qjr Zfv tab (fiB [.val Ztc,.val t34] Z3g) n [.val Ztc,.val t34] [⟨Ztc,[true],none⟩] Tryz.f173 [1,1,1,0,1,0] [] [0,3,5,6,7] m
 ⟨[(0,Vp Ztc a),(3,V1 (.ptr (3,0) 0)),(5,V1 (.ref (888888,5))),(6,V1 (.ref (888888,6))),(7,Vp t2 b)],[((3,0),Ob.box 100 [LV.pure t2 c,LV.pure t2 d]),((888888,5),Ob.row 100 t34 e),((888888,6),Ob.row 100 t34 f)]⟩
theorem Z1l (n:Nat):∀ m,Qsk n m=Qmb n m
 | 0=>rfl
 | m+1=>by rw [show Qsk n (m+1)=Qnq (Qsk n m) from by kernel_rfl,Z1l n m];rfl
def Z45 (n:Nat) (a:Qmq) (b:Int × Int):Option Qo9:=Qti (Qmb n n) a b
def Z0f (a:Qmq) (b:Int × Int):Option Qo9:=Z45 1099511627776 a b
def Z4t:Ent:=⟨[.val Ztc,.val t34],[⟨Ztc,[true],none⟩],fun x=>Z0f x.1 x.2.1⟩
theorem Zb3:GD 173 Z4t:=fnl Z3g (fun n x=>Z45 n x.1 x.2.1) (Qk1 Quz Qk2) Tryz.func173 fun n x=>Eq.trans (b:=Qti (Qsk n n) x.1 x.2.1) (by kernel_rfl) (by rw [Z1l n n];rfl)
abbrev Qoc:Type:=(Qkl × Qmq × Unit) × Unit
def Zfw:Ctx:=[(172,Z2i),(173,Z4t)]
def Z2p:Fi:={ keep:=[],vty:=[(8,32),(9,146)],vals:=[],live:=[(0,[1,2,3,25,26,27,30,31,32,33]),(1,[1,2,3,8,25,26,27,30,31,32,33]),(2,[1,2,3,8,9,25,26,27,30,31,32,33]),(3,[1,2,3,8,9,10,25,26,27,30,31,32,33]),(4,[1,2,3,8,9,10,15,25,26,27,30,31,32,33]),(5,[1,2,3,8,9,10,25,26,27,30,31,32,33]),(6,[1,2,3,8,9,10,11,25,26,27,30,31,32,33]),(7,[1,2,3,8,9,10,11,25,26,27,30,31,32,33,34]),(8,[1,2,3,8,9,10,11,12,13,25,26,27,30,31,32,33]),(9,[1,2,3,8,9,10,11,12,25,26,27,30,31,32,33,42]),(10,[1,2,3,8,9,10,25,26,27,30,31,32,33]),(11,[1,2,3,8,9,10,25,26,27,30,31,32,33]),(12,[6,7])] }
abbrev Qw6:Type:=Int→Int→Int→Int→Int→Qkl→Qkl→Qlw→Int→Int→Qkl→Qmq→Option Qoc
def Qli (L1:Qw6) (b f a e j:Int) (g k:Qkl) (l:Qlw) (m i:Int) (c:Qkl) (d:Qmq):Option Qoc:=
 bif decide (a<8) then
  bif e==0 then
   some ((c,d,()),())
  else
  bif decide (wJ (b+a)>f) then
   some ((c,d,()),())
  else
  bif decide (wJ (b+a) ≥ e) then
   some ((c,d,()),())
  else
   Option.bind (Z0c g (wJ (b+a))) fun h=>
   bif h.1.2.1 then
    bif Nat.ble (c.length+1) 1073741824 then
     L1 b f (wJ (a+1)) e j g k l m i (c++[(wJ (b+a),h.1.1)]) d
    else none
   else
    Option.bind (Z0f d (wJ (b+a),wJ (b+a))) fun n=>
    L1 b f (wJ (a+1)) e j g k l m i c n.1.1
 else
  some ((c,d,()),())
def Qtd (L1:Qw6) (a:Qwt) (c b:Int):Option Qoc:=
 L1 c b 0 a.1 a.2.1 a.2.2.1 (g3 a) (g4 a) (g5 a) (h6 a) [] []
def Qmg (n:Nat):Nat→Qw6:=iter (fun _ _ _ _ _ _ _ _ _ _ _ _=>none) fun L=>Qli L
def Qsj (n m:Nat) (a e f g h:Int) (i j:Qkl) (k:Qlw) (l b:Int) (c:Qkl) (d:Qmq):Option Qoc:=
 Qjr Zfw tab (fiB [.val t36,.val t2,.val t2] Z2p) n [.val t36,.val t2,.val t2] [⟨t32,[true],none⟩,⟨Ztc,[true],none⟩] Tryz.f141 [1,1,1,0,1,0] [] [1,2,3,8,9,10] m
 ⟨[(1,Vp t2 a),(2,Vp t2 e),(3,V1 (.ptr (3,0) 0)),(8,V1 (.ref (888888,8))),(9,V1 (.ref (888888,9))),(10,Vp t2 f)],[((3,0),Ob.box 37 [LV.pure t2 g,LV.pure t2 h,LV.pure t32 i,LV.pure t32 j,LV.pure t33 k,LV.pure t2 l,LV.pure t2 b]),((888888,8),Ob.row 59 t58 c),((888888,9),Ob.row 100 t34 d)]⟩
theorem Z19 (n:Nat):∀ m,Qsj n m=Qmg n m
 | 0=>rfl
 | m+1=>by rw [show Qsj n (m+1)=Qli (Qsj n m) from by kernel_rfl,Z19 n m];rfl
def Z46 (n:Nat) (a:Qwt) (c b:Int):Option Qoc:=Qtd (Qmg n n) a c b
def Z0v (a:Qwt) (c b:Int):Option Qoc:=Z46 1099511627776 a c b
def Z4q:Ent:=⟨[.val t36,.val t2,.val t2],[⟨t32,[true],none⟩,⟨Ztc,[true],none⟩],fun x=>Z0v x.1 x.2.1 x.2.2.1⟩
theorem Zbn:GD 141 Z4q:=fnl Z2p (fun n x=>Z46 n x.1 x.2.1 x.2.2.1) (Qk1 Z4x (Qk1 Zb3 Qk2)) Tryz.func141 fun n x=>Eq.trans (b:=Qtd (Qsj n n) x.1 x.2.1 x.2.2.1) (by kernel_rfl) (by rw [Z19 n n];rfl)
abbrev Qla:Type:=(Qpc × Unit) × Unit
def Z47:Ctx:=[(62,Qq4),(141,Z4q)]
def Qw5:Fi:={ keep:=[],vty:=[(7,48)],vals:=[],live:=[(0,[3,4,5]),(1,[3,4,5,7]),(2,[3,5,7,8,9]),(3,[3,5,7,8,9,10]),(4,[3,5,7,8,9,10,26]),(5,[3,5,7,8,9,10]),(6,[3,5,7,8,9,10,11]),(7,[3,5,7,8,9,10,11]),(8,[3,5,7,8,9,10]),(9,[3,5,7,9,12]),(10,[3,5,7,9,12,52]),(11,[3,5,7,9,12]),(12,[3,5,7,9,12,13]),(13,[3,5,7,9,12,13]),(14,[3,5,7,9,12]),(15,[6])] }
abbrev Qwi:Type:=Int→Int→Int→Int→Int→Int→Int→List Int→Int→Int→Int→Int→Int→Qkv→Int→Int→Int→Int→Int→Int→List Int→Int→Int→ByteArray→Qpc→Qkl→Qmq→Option Qla
abbrev Qw4:Type:=Int→Int→Int→Int→Int→Int→Int→List Int→Int→Int→Int→Int→Int→Qkv→Int→Int→Int→Int→Int→Int→List Int→Int→Int→ByteArray→Qpc→Qmq→Option Qla
def Qo1 (L1:Qwi) (L2:Qw4) (a k l m n o p:Int) (q:List Int) (c d e f g:Int) (h:Qkv) (r i s t u v:Int) (w:List Int) (x y:Int) (z:ByteArray) (j:Qpc) (b:Qkl) (A:Qmq):Option Qla:=
 bif decide (a<(b.length:Int)) then
  Option.bind (Qk9 (k,l,m,n,o,p,q,c,d,e,f,g,h) 7 i) fun B=>
  bif ix a (b.length:Int) then
   bif ix a (b.length:Int) then
    bif ix a (b.length:Int) then
     bif ix a (b.length:Int) then
      bif Nat.ble (j.length+1) 1073741824 then
       L1 (wJ (a+1)) k l m n o p q c d e f g h r i s t u v w x y z (j++[(e9 (u7 B.1.1 ((List.getD b a.toNat (0,zB)).1)) ((List.getD b a.toNat (0,zB)).2))]) b A
      else none
     else none
    else none
   else none
  else none
 else
  L2 0 k l m n o p q c d e f g h r i s t u v w x y z j A
def Qnn (L2:Qw4) (a d e f g h i:Int) (j:List Int) (k l m n o:Int) (p:Qkv) (s q t u v w:Int) (x:List Int) (y z:Int) (A:ByteArray) (c:Qpc) (b:Qmq):Option Qla:=
 bif decide (a<(b.length:Int)) then
  Option.bind (Qk9 (d,e,f,g,h,i,j,k,l,m,n,o,p) 9 q) fun r=>
  bif ix a (b.length:Int) then
   bif ix a (b.length:Int) then
    bif ix a (b.length:Int) then
     bif ix a (b.length:Int) then
      bif Nat.ble (c.length+1) 1073741824 then
       L2 (wJ (a+1)) d e f g h i j k l m n o p s q t u v w x y z A (c++[(u8 (u7 r.1.1 ((List.getD b a.toNat (0,0)).1)) ((List.getD b a.toNat (0,0)).2))]) b
      else none
     else none
    else none
   else none
  else none
 else
  some ((c,()),())
def Qtc (L1:Qwi) (a:Qse) (d:Qwt) (b:Qvh):Option Qla:=
 Option.bind (Z0v d (g7 b) (g8 b)) fun c=>
 L1 0 a.1 a.2.1 a.2.2.1 (g3 a) (g4 a) (g5 a) (g6 a) (g7 a) (g8 a) (g9 a) (g10 a) (g11 a) (h12 a) b.1 b.2.1 b.2.2.1 (g3 b) (g4 b) (g5 b) (g6 b) (g7 b) (g8 b) (h9 b) [] c.1.1 c.1.2.1
def Qmf (n:Nat):Nat→Qw4:=iter (fun _ _ _ _ _ _ _ _ _ _ _ _ _ _ _ _ _ _ _ _ _ _ _ _ _ _=>none) fun L=>Qnn L
def Qnu (n:Nat):Nat→Qwi:=iter (fun _ _ _ _ _ _ _ _ _ _ _ _ _ _ _ _ _ _ _ _ _ _ _ _ _ _ _=>none) fun L=>Qo1 L (Qmf n n)
def Qs7 (n m:Nat) (k w x y z A B:Int) (C:List Int) (a b c d e:Int) (f:Qkv) (g h i j l o:Int) (p:List Int) (q r:Int) (s:ByteArray) (t:Qpc) (u:Qkl) (v:Qmq):Option Qla:=
 Qjr Z47 tab (fiB [.val t30,.val t36,.val t45] Qw5) n [.val t30,.val t36,.val t45] [⟨t48,[true],none⟩] Tryz.f71 [1,1,1,0,1,0] [] [3,5,7,8,9,10] m
 ⟨[(3,V1 (.ptr (3,0) 0)),(5,V1 (.ptr (5,0) 0)),(7,V1 (.ref (888888,7))),(8,V1 (.ref (888888,8))),(9,V1 (.ref (888888,9))),(10,Vp t2 k)],[((3,0),Ob.box 31 [LV.pure t2 w,LV.pure t2 x,LV.pure t2 y,LV.pure t2 z,LV.pure t2 A,LV.pure t2 B,LV.pure t28 C,LV.pure t2 a,LV.pure t2 b,LV.pure t2 c,LV.pure t2 d,LV.pure t2 e,LV.pure t29 f]),((5,0),Ob.box 46 [LV.pure t2 g,LV.pure t2 h,LV.pure t2 i,LV.pure t2 j,LV.pure t2 l,LV.pure t2 o,LV.pure t28 p,LV.pure t2 q,LV.pure t2 r,LV.pure t9 s]),((888888,7),Ob.row 46 t45 t),((888888,8),Ob.row 59 t58 u),((888888,9),Ob.row 100 t34 v)]⟩
def Qsd (n m:Nat) (a b c d e f g:Int) (h:List Int) (i j k l o:Int) (p:Qkv) (q r s t u v:Int) (w:List Int) (x y:Int) (z:ByteArray) (A:Qpc) (B:Qmq):Option Qla:=
 Qjr Z47 tab (fiB [.val t30,.val t36,.val t45] Qw5) n [.val t30,.val t36,.val t45] [⟨t48,[true],none⟩] Tryz.f71 [1,1,1,1,0,1,0] [] [3,5,7,9,12] m
 ⟨[(3,V1 (.ptr (3,0) 0)),(5,V1 (.ptr (5,0) 0)),(7,V1 (.ref (888888,7))),(9,V1 (.ref (888888,9))),(12,Vp t2 a)],[((3,0),Ob.box 31 [LV.pure t2 b,LV.pure t2 c,LV.pure t2 d,LV.pure t2 e,LV.pure t2 f,LV.pure t2 g,LV.pure t28 h,LV.pure t2 i,LV.pure t2 j,LV.pure t2 k,LV.pure t2 l,LV.pure t2 o,LV.pure t29 p]),((5,0),Ob.box 46 [LV.pure t2 q,LV.pure t2 r,LV.pure t2 s,LV.pure t2 t,LV.pure t2 u,LV.pure t2 v,LV.pure t28 w,LV.pure t2 x,LV.pure t2 y,LV.pure t9 z]),((888888,7),Ob.row 46 t45 A),((888888,9),Ob.row 100 t34 B)]⟩
theorem Z21 (n:Nat):∀ m,Qsd n m=Qmf n m
 | 0=>rfl
 | m+1=>by rw [show Qsd n (m+1)=Qnn (Qsd n m) from by kernel_rfl,Z21 n m];rfl
theorem Z22 (n:Nat):∀ m,Qs7 n m=Qnu n m
 | 0=>rfl
 | m+1=>by rw [show Qs7 n (m+1)=Qo1 (Qs7 n m) (Qsd n n) from by kernel_rfl,Z21 n n,Z22 n m];rfl
def Z3z (n:Nat) (c:Qse) (a:Qwt) (b:Qvh):Option Qla:=Qtc (Qnu n n) c a b
def Z11 (c:Qse) (a:Qwt) (b:Qvh):Option Qla:=Z3z 1099511627776 c a b
def Zfr:Ent:=⟨[.val t30,.val t36,.val t45],[⟨t48,[true],none⟩],fun x=>Z11 x.1 x.2.1 x.2.2.1⟩
theorem Zau:GD 71 Zfr:=fnl Qw5 (fun n x=>Z3z n x.1 x.2.1 x.2.2.1) (Qk1 Qlh (Qk1 Zbn Qk2)) Tryz.func71 fun n x=>Eq.trans (b:=Qtc (Qs7 n n) x.1 x.2.1 x.2.2.1) (by kernel_rfl) (by rw [Z22 n n];rfl)
def Qm6 (b:Qy9) (a:(Qwt × Unit) × Unit) (c:(Qse × Qpc × Unit) × Unit):Option ((Qy9 × Qpc × Unit) × Unit):=
 bif (decide (0≤((g4 (g4 b)).length:Int))&&decide (((g4 (g4 b)).length:Int)≤((g4 a.1.1).length:Int)))&&decide (((g4 a.1.1).length:Int)≤((g4 a.1.1).length:Int)) then
  Option.bind (Qlp c.1.1 (List.drop (((g4 (g4 b)).length:Int).toNat) (List.take (((g4 a.1.1).length:Int).toNat) (g4 a.1.1)))) fun d=>
  bif Nat.ble (c.1.2.1.length+d.1.1.length) 1073741824 then
   some (((u4 (u3 b c.1.1) a.1.1),c.1.2.1++d.1.1,()),())
  else none
 else none
def Qlc (a:Qy9) (b:(Qse × Qpc × Unit) × Unit):Option ((Qy9 × Qpc × Unit) × Unit):=
 bif (decide (0≤((g4 (g4 a)).length:Int))&&decide (((g4 (g4 a)).length:Int)≤((g4 (g4 a)).length:Int)))&&decide (((g4 (g4 a)).length:Int)≤((g4 (g4 a)).length:Int)) then
  Option.bind (Qlp b.1.1 (List.drop (((g4 (g4 a)).length:Int).toNat) (List.take (((g4 (g4 a)).length:Int).toNat) (g4 (g4 a))))) fun c=>
  bif Nat.ble (b.1.2.1.length+c.1.1.length) 1073741824 then
   some (((u3 a b.1.1),b.1.2.1++c.1.1,()),())
  else none
 else none
def Qm8 (c:(Qvh × Bool × Unit) × Unit) (b:(Qse × Qpc × Unit) × Unit) (a:Qy9):Option ((Qy9 × Qpc × Unit) × Unit):=
 bif c.1.1.1==8 then
  Option.bind (Qpk (h12 b.1.1) c.1.1.2.1) fun e=>
  bif e.1.2.1 then
   bif e.1.1.2.1==(g3 c.1.1) then
    Option.bind (Z11 b.1.1 (g4 a) c.1.1) fun d=>
    bif Nat.ble (b.1.2.1.length+d.1.1.length) 1073741824 then
     bif (decide (0≤((g4 (g4 a)).length:Int))&&decide (((g4 (g4 a)).length:Int)≤((g4 (g4 a)).length:Int)))&&decide (((g4 (g4 a)).length:Int)≤((g4 (g4 a)).length:Int)) then
      Option.bind (Qlp b.1.1 (List.drop (((g4 (g4 a)).length:Int).toNat) (List.take (((g4 (g4 a)).length:Int).toNat) (g4 (g4 a))))) fun f=>
      bif Nat.ble ((b.1.2.1++d.1.1).length+f.1.1.length) 1073741824 then
       some (((u3 a b.1.1),(b.1.2.1++d.1.1)++f.1.1,()),())
      else none
     else none
    else none
   else
    Qlc a b
  else
   Qlc a b
 else
  Qlc a b
def Qq6 (a:(Qvh × Bool × Unit) × Unit) (c:(Qse × Qpc × Unit) × Unit) (b:Qy9):Option ((Qy9 × Qpc × Unit) × Unit):=
 bif a.1.1.1==9 then
  bif (g4 c.1.1)==(g3 a.1.1) then
   Option.bind (Qts (g4 b) (g7 a.1.1) (g8 a.1.1)) fun d=>
   Qm6 b d c
  else
   Qm8 a c b
 else
  Qm8 a c b
def Qpv (a:(Qvh × Bool × Unit) × Unit) (c:(Qse × Qpc × Unit) × Unit) (b:Qy9):Option ((Qy9 × Qpc × Unit) × Unit):=
 bif a.1.1.1==7 then
  bif (g4 c.1.1)==(g3 a.1.1) then
   Option.bind (Qu1 (g4 b) ((g7 a.1.1),(h9 a.1.1))) fun d=>
   Qm6 b d c
  else
   Qq6 a c b
 else
  Qq6 a c b
def Qo2 (a:(Qvh × Bool × Unit) × Unit) (c:(Qse × Qpc × Unit) × Unit) (b:Qy9):Option ((Qy9 × Qpc × Unit) × Unit):=
 bif a.1.1.1==5 then
  bif (g4 c.1.1)==(g3 a.1.1) then
   Option.bind (Qmp (g4 b) (g8 a.1.1)) fun d=>
   Qm6 b d c
  else
   Qpv a c b
 else
  Qpv a c b
def Qu2 (a:(Qvh × Bool × Unit) × Unit) (c:(Qse × Qpc × Unit) × Unit) (b:Qy9):Option ((Qy9 × Qpc × Unit) × Unit):=
 bif a.1.1.1==9 then
  Qm8 a c b
 else
  Qm8 a c b
def Qtv (a:(Qvh × Bool × Unit) × Unit) (c:(Qse × Qpc × Unit) × Unit) (b:Qy9):Option ((Qy9 × Qpc × Unit) × Unit):=
 bif a.1.1.1==7 then
  Qu2 a c b
 else
  Qu2 a c b
def Qtl (a:(Qvh × Bool × Unit) × Unit) (c:(Qse × Qpc × Unit) × Unit) (b:Qy9):Option ((Qy9 × Qpc × Unit) × Unit):=
 bif a.1.1.1==5 then
  Qtv a c b
 else
  Qtv a c b
def Qpd (a:(Qvh × Bool × Unit) × Unit) (c:(Qse × Qpc × Unit) × Unit) (b:Qy9):Option ((Qy9 × Qpc × Unit) × Unit):=
 bif a.1.1.1==2 then
  Qtl a c b
 else
  Qtl a c b
def Qnv (a:Qy9) (f:List Int):Option ((Qy9 × Qpc × Unit) × Unit):=
 bif !a.1 then
  some ((a,[],()),())
 else
  Option.bind (Qyi f) fun b=>
  bif !b.1.2.1 then
   some (((e5 a (if 1073741824<wJ ((h5 a)+1) then 1073741824 else wJ ((h5 a)+1))),[],()),())
  else
  bif b.1.1.2.2.1 != (g3 a).1 then
   some (((e5 a (if 1073741824<wJ ((h5 a)+1) then 1073741824 else wJ ((h5 a)+1))),[],()),())
  else
   Option.bind (Qlr (g3 a) b.1.1 (if 1>(g4 a).1 then 1 else (g4 a).1)) fun c=>
   bif (g3 c.1.1) != 0 then
    bif (g3 c.1.1)==b.1.1.2.1 then
     bif b.1.1.1==2 then
      bif (g4 c.1.1)==(g3 b.1.1) then
       bif (g3 (g3 a)) != b.1.1.2.1 then
        Option.bind (Qtq (g4 a) (g7 b.1.1)) fun d=>
        Option.bind (Qmp d.1.1 (wJ ((g7 b.1.1) - 1))) fun e=>
        Qm6 a e c
       else
        Qo2 b c a
      else
       Qo2 b c a
     else
      Qo2 b c a
    else
     Qpd b c a
   else
    Qpd b c a
def Z0n:Ent:=⟨[.val t38,.val t25],[⟨t38,(nF 24),none⟩,⟨t48,[true],none⟩],fun x=>Qnv x.1 x.2.1⟩
theorem Z76:GD 29 Z0n:=fnk 1 (fr [[1,2,4,28,0,33,66,0,70,73,0,77,84,87,0,90,105,116,130,152,0,156],[1,2,4,18,28,0,33,66,0,70,73,0,77,84,87,0,90,105,116,130,152,0,156],[4,5],[2,4,6,7,28,0,33,66,0,70,73,0,77,84,87,0,90,105,116,130,152,0,156],[2,4,6,34,66,0,70,73,0,77,84,87,0,90,105,116,130,152,0,156],[2,4],[4,5],[2,4,6,8,66,0,70,73,0,77,84,87,0,90,105,116,130,152,0,156],[2,4,6,8,9,10,66,0,70,73,0,77,84,87,0,90,105,116,130,152,0,156],[2,4,6,8,9,10,66,0,70,73,0,77,84,87,0,90,105,116,130,152,0,156],[2,4,6,8,0,11,66,0,70,73,0,77,84,87,0,90,105,116,130,152,0,156],[2,4,6,8,0,12,66,0,70,73,0,77,84,87,0,90,105,116,130,152,0,156],[2,4,6,8,0,13,84,87,0,90,105,116,130,152,0,156],[2,4,6,9,0,13,79,105,116,130,152,0,156],[2,4,9,0,12],[2,4,6,9,0,13,100,116,130,152,0,156],[2,4,9,0,12],[2,4,6,9,0,13,111,130,152,0,156],[2,4,9,0,12],[2,4,6,9,0,12,125,152,0,156],[2,4,9,0,12],[2,4,6,9,0,12,138,152,0,156],[2,4,6,9,0,12,14,15,152,0,156],[2,4,6,9,0,12,157],[2,4,9,0,12],[2,4,9,0,12],[4,5]]) (Qk1 Z9i (Qk1 Qwl (Qk1 Z1k (Qk1 Qot (Qk1 Z1q (Qk1 Z1f (Qk1 Z1x (Qk1 Qxs (Qk1 Zau Qk2))))))))) Tryz.func29
abbrev Qn3:Type:=(Bool × Unit) × Unit
def Zcb:Ctx:=[(72,Z38)]
def Z13:Fi:=fo [[0,1],[0,1,10],[4],[0,1,5],[0,1,5,14],[0,1,5],[0,1,5,26],[4],[4]]
abbrev Qus:Type:=Qpc→Qpc→Int→Option Qn3
def Qmm (L1:Qus) (b c:Qpc) (a:Int):Option Qn3:=
 bif decide (a<(b.length:Int)) then
  bif decide (0≤a)&&decide (a<(b.length:Int)) then
   bif decide (0≤a)&&decide (a<(c.length:Int)) then
    Option.bind (Qkd ((List.getD b a.toNat Z15).1,((List.getD b a.toNat Z15).2).1,(((List.getD b a.toNat Z15).2).2).1,((((List.getD b a.toNat Z15).2).2).2).1,(((((List.getD b a.toNat Z15).2).2).2).2).1,((((((List.getD b a.toNat Z15).2).2).2).2).2).1,(((((((List.getD b a.toNat Z15).2).2).2).2).2).2).1,((((((((List.getD b a.toNat Z15).2).2).2).2).2).2).2).1,(((((((((List.getD b a.toNat Z15).2).2).2).2).2).2).2).2)) ((List.getD c a.toNat Z15).1,((List.getD c a.toNat Z15).2).1,(((List.getD c a.toNat Z15).2).2).1,((((List.getD c a.toNat Z15).2).2).2).1,(((((List.getD c a.toNat Z15).2).2).2).2).1,((((((List.getD c a.toNat Z15).2).2).2).2).2).1,(((((((List.getD c a.toNat Z15).2).2).2).2).2).2).1,((((((((List.getD c a.toNat Z15).2).2).2).2).2).2).2).1,(((((((((List.getD c a.toNat Z15).2).2).2).2).2).2).2).2))) fun d=>
    bif !d.1.1 then
     some ((false,()),())
    else
     L1 b c (wJ (a+1))
   else none
  else none
 else
  some ((true,()),())
def Qrr (L1:Qus) (a b:Qpc):Option Qn3:=
 bif (a.length:Int) != (b.length:Int) then
  some ((false,()),())
 else
  L1 a b 0
def Qmk (n:Nat):Nat→Qus:=iter (fun _ _ _=>none) fun L=>Qmm L
def Qqv (n m:Nat) (a b:Qpc) (c:Int):Option Qn3:=
 Qjr Zcb tab (fiB [.val t48,.val t48] Z13) n [.val t48,.val t48] [⟨t4,[false],none⟩] Tryz.f30 [1,1,0,1,0] [] [0,1,5] m
 ⟨[(0,Vp t48 a),(1,Vp t48 b),(5,Vp t2 c)],[]⟩
theorem Qz4 (n:Nat):∀ m,Qqv n m=Qmk n m
 | 0=>rfl
 | m+1=>by rw [show Qqv n (m+1)=Qmm (Qqv n m) from by kernel_rfl,Qz4 n m];rfl
def Z1a (n:Nat) (a b:Qpc):Option Qn3:=Qrr (Qmk n n) a b
def Qqf (a b:Qpc):Option Qn3:=Z1a 1099511627776 a b
def Z1r:Ent:=⟨[.val t48,.val t48],[⟨t4,[false],none⟩],fun x=>Qqf x.1 x.2.1⟩
theorem Z97:GD 30 Z1r:=fnl Z13 (fun n x=>Z1a n x.1 x.2.1) (Qk1 Qza Qk2) Tryz.func30 fun n x=>Eq.trans (b:=Qrr (Qqv n n) x.1 x.2.1) (by kernel_rfl) (by rw [Qz4 n n];rfl)
abbrev Qnt:Type:=(Bool × Unit) × Unit
def Zd1:Ctx:=[]
def Z1v:Fi:=fo [[0,1],[0,1,10],[4],[0,1,5],[0,1,5,14],[0,1,5],[0,1,5,25],[4],[4]]
abbrev Qvp:Type:=Qkv→Qkv→Int→Option Qnt
def Qn9 (L1:Qvp) (b c:Qkv) (a:Int):Option Qnt:=
 bif decide (a<(b.length:Int)) then
  bif ix a (b.length:Int) then
   bif ix a (c.length:Int) then
    bif !((((List.getD b a.toNat (0,0,0)).1)==((List.getD c a.toNat (0,0,0)).1))&&(((((List.getD b a.toNat (0,0,0)).2).1)==(((List.getD c a.toNat (0,0,0)).2).1))&&(((((List.getD b a.toNat (0,0,0)).2).2)==(((List.getD c a.toNat (0,0,0)).2).2))&&true))) then
     some ((false,()),())
    else
     L1 b c (wJ (a+1))
   else none
  else none
 else
  some ((true,()),())
def Qss (L1:Qvp) (a b:Qkv):Option Qnt:=
 bif (a.length:Int) != (b.length:Int) then
  some ((false,()),())
 else
  L1 a b 0
def Qn4 (n:Nat):Nat→Qvp:=iter (fun _ _ _=>none) fun L=>Qn9 L
def Qrp (n m:Nat) (a b:Qkv) (c:Int):Option Qnt:=
 Qjr Zd1 tab (fiB [.val t29,.val t29] Z1v) n [.val t29,.val t29] [⟨t4,[false],none⟩] Tryz.f82 [1,1,0,1,0] [] [0,1,5] m
 ⟨[(0,Vp t29 a),(1,Vp t29 b),(5,Vp t2 c)],[]⟩
theorem Qzs (n:Nat):∀ m,Qrp n m=Qn4 n m
 | 0=>rfl
 | m+1=>by rw [show Qrp n (m+1)=Qn9 (Qrp n m) from by kernel_rfl,Qzs n m];rfl
def Z2s (n:Nat) (a b:Qkv):Option Qnt:=Qss (Qn4 n n) a b
def Qyp (a b:Qkv):Option Qnt:=Z2s 1099511627776 a b
def Zd0:Ent:=⟨[.val t29,.val t29],[⟨t4,[false],none⟩],fun x=>Qyp x.1 x.2.1⟩
theorem Z9w:GD 82 Zd0:=fnl Z1v (fun n x=>Z2s n x.1 x.2.1) Qk2 Tryz.func82 fun n x=>Eq.trans (b:=Qss (Qrp n n) x.1 x.2.1) (by kernel_rfl) (by rw [Qzs n n];rfl)
def Qv2 (a b:Qse):Option ((Bool × Unit) × Unit):=
 bif a.1==b.1 then
  bif a.2.1==b.2.1 then
   bif a.2.2.1==b.2.2.1 then
    bif (g3 a)==(g3 b) then
     bif (g4 a)==(g4 b) then
      bif (g5 a)==(g5 b) then
       Option.bind (Qv4 (g6 a) (g6 b)) fun c=>
       bif c.1.1 then
        bif (g7 a)==(g7 b) then
         bif (g8 a)==(g8 b) then
          bif (g9 a)==(g9 b) then
           bif (g10 a)==(g10 b) then
            bif (g11 a)==(g11 b) then
            Option.bind (Qyp (h12 a) (h12 b)) fun d=>
            some ((d.1.1,()),())
            else
            some ((false,()),())
           else
            some ((false,()),())
          else
           some ((false,()),())
         else
          some ((false,()),())
        else
         some ((false,()),())
       else
        some ((false,()),())
      else
       some ((false,()),())
     else
      some ((false,()),())
    else
     some ((false,()),())
   else
    some ((false,()),())
  else
   some ((false,()),())
 else
  some ((false,()),())
def Zdf:Ent:=⟨[.val t30,.val t30],[⟨t4,[false],none⟩],fun x=>Qv2 x.1 x.2.1⟩
theorem Zaj:GD 39 Zdf:=fnk 1 (fr [[2,3,11,0,15,18,0,22,25,0,29,32,0,36,39,0,43,46,0,50,53,0,57,60,0,64,67,0,71,74,0,78,81,0,85,88,0,92],[4]]) (Qk1 Qz8 (Qk1 Z9w Qk2)) Tryz.func39
abbrev Qmn:Type:=(Bool × Unit) × Unit
def Zbp:Ctx:=[]
def Qzm:Fi:=fo [[0,1],[0,1,10],[4],[0,1,5],[0,1,5,14],[0,1,5],[0,1,5,25],[4],[4]]
abbrev Qtt:Type:=Qkl→Qkl→Int→Option Qmn
def Qm7 (L1:Qtt) (b c:Qkl) (a:Int):Option Qmn:=
 bif decide (a<(b.length:Int)) then
  bif ix a (b.length:Int) then
   bif ix a (c.length:Int) then
    bif !((((List.getD b a.toNat (0,zB)).1)==((List.getD c a.toNat (0,zB)).1))&&((Qek ((List.getD b a.toNat (0,zB)).2) ((List.getD c a.toNat (0,zB)).2))&&true)) then
     some ((false,()),())
    else
     L1 b c (wJ (a+1))
   else none
  else none
 else
  some ((true,()),())
def Qqn (L1:Qtt) (a b:Qkl):Option Qmn:=
 bif (a.length:Int) != (b.length:Int) then
  some ((false,()),())
 else
  L1 a b 0
def Qm1 (n:Nat):Nat→Qtt:=iter (fun _ _ _=>none) fun L=>Qm7 L
def Qps (n m:Nat) (a b:Qkl) (c:Int):Option Qmn:=
 Qjr Zbp tab (fiB [.val t32,.val t32] Qzm) n [.val t32,.val t32] [⟨t4,[false],none⟩] Tryz.f83 [1,1,0,1,0] [] [0,1,5] m
 ⟨[(0,Vp t32 a),(1,Vp t32 b),(5,Vp t2 c)],[]⟩
theorem Qxx (n:Nat):∀ m,Qps n m=Qm1 n m
 | 0=>rfl
 | m+1=>by rw [show Qps n (m+1)=Qm7 (Qps n m) from by kernel_rfl,Qxx n m];rfl
def Z14 (n:Nat) (a b:Qkl):Option Qmn:=Qqn (Qm1 n n) a b
def Qst (a b:Qkl):Option Qmn:=Z14 1099511627776 a b
def Zb9:Ent:=⟨[.val t32,.val t32],[⟨t4,[false],none⟩],fun x=>Qst x.1 x.2.1⟩
theorem Z74:GD 83 Zb9:=fnl Qzm (fun n x=>Z14 n x.1 x.2.1) Qk2 Tryz.func83 fun n x=>Eq.trans (b:=Qqn (Qps n n) x.1 x.2.1) (by kernel_rfl) (by rw [Qxx n n];rfl)
abbrev Qma:Type:=(Bool × Unit) × Unit
def Zal:Ctx:=[]
def Qy7:Fi:=fo [[0,1],[0,1,10],[4],[0,1,5],[0,1,5,14],[0,1,5],[0,1,5,25],[4],[4]]
abbrev Qsy:Type:=Qlw→Qlw→Int→Option Qma
def Qlt (L1:Qsy) (b c:Qlw) (a:Int):Option Qma:=
 bif decide (a<(b.length:Int)) then
  bif ix a (b.length:Int) then
   bif ix a (c.length:Int) then
    bif !((((List.getD b a.toNat Zqc).1)==((List.getD c a.toNat Zqc).1))&&(((((List.getD b a.toNat Zqc).2).1)==(((List.getD c a.toNat Zqc).2).1))&&((((((List.getD b a.toNat Zqc).2).2).1)==((((List.getD c a.toNat Zqc).2).2).1))&&((Qek (((((List.getD b a.toNat Zqc).2).2).2).1) (((((List.getD c a.toNat Zqc).2).2).2).1))&&(((((((List.getD b a.toNat Zqc).2).2).2).2)==(((((List.getD c a.toNat Zqc).2).2).2).2))&&true))))) then
     some ((false,()),())
    else
     L1 b c (wJ (a+1))
   else none
  else none
 else
  some ((true,()),())
def Qpr (L1:Qsy) (a b:Qlw):Option Qma:=
 bif (a.length:Int) != (b.length:Int) then
  some ((false,()),())
 else
  L1 a b 0
def Qls (n:Nat):Nat→Qsy:=iter (fun _ _ _=>none) fun L=>Qlt L
def Qpe (n m:Nat) (a b:Qlw) (c:Int):Option Qma:=
 Qjr Zal tab (fiB [.val t33,.val t33] Qy7) n [.val t33,.val t33] [⟨t4,[false],none⟩] Tryz.f84 [1,1,0,1,0] [] [0,1,5] m
 ⟨[(0,Vp t33 a),(1,Vp t33 b),(5,Vp t2 c)],[]⟩
theorem Qxc (n:Nat):∀ m,Qpe n m=Qls n m
 | 0=>rfl
 | m+1=>by rw [show Qpe n (m+1)=Qlt (Qpe n m) from by kernel_rfl,Qxc n m];rfl
def Qzg (n:Nat) (a b:Qlw):Option Qma:=Qpr (Qls n n) a b
def Qvo (a b:Qlw):Option Qma:=Qzg 1099511627776 a b
def Z9j:Ent:=⟨[.val t33,.val t33],[⟨t4,[false],none⟩],fun x=>Qvo x.1 x.2.1⟩
theorem Z6b:GD 84 Z9j:=fnl Qy7 (fun n x=>Qzg n x.1 x.2.1) Qk2 Tryz.func84 fun n x=>Eq.trans (b:=Qpr (Qpe n n) x.1 x.2.1) (by kernel_rfl) (by rw [Qxc n n];rfl)
def Qtb (a b:Qwt):Option ((Bool × Unit) × Unit):=
 bif a.1==b.1 then
  bif a.2.1==b.2.1 then
   Option.bind (Qst a.2.2.1 b.2.2.1) fun c=>
   bif c.1.1 then
    Option.bind (Qst (g3 a) (g3 b)) fun d=>
    bif d.1.1 then
     Option.bind (Qvo (g4 a) (g4 b)) fun e=>
     bif e.1.1 then
      some ((((g5 a)==(g5 b))&&(((h6 a)==(h6 b))&&true),()),())
     else
      some ((false,()),())
    else
     some ((false,()),())
   else
    some ((false,()),())
  else
   some ((false,()),())
 else
  some ((false,()),())
def Zcc:Ent:=⟨[.val t36,.val t36],[⟨t4,[false],none⟩],fun x=>Qtb x.1 x.2.1⟩
theorem Z8u:GD 40 Zcc:=fnk 1 (fr [[2,3,11,0,15,18,0,22,25,0,29,32,0,36,39,0,43],[4]]) (Qk1 Z74 (Qk1 Z6b Qk2)) Tryz.func40
def Qmy (a b:Qy9):Option ((Bool × Unit) × Unit):=
 bif a.1==b.1 then
  bif a.2.1==b.2.1 then
   bif Qek a.2.2.1 b.2.2.1 then
    Option.bind (Qv2 (g3 a) (g3 b)) fun c=>
    bif c.1.1 then
     Option.bind (Qtb (g4 a) (g4 b)) fun d=>
     bif d.1.1 then
      some (((h5 a)==(h5 b),()),())
     else
      some ((false,()),())
    else
     some ((false,()),())
   else
    some ((false,()),())
  else
   some ((false,()),())
 else
  some ((false,()),())
def Z1y:Ent:=⟨[.val t38,.val t38],[⟨t4,[false],none⟩],fun x=>Qmy x.1 x.2.1⟩
theorem Z8s:GD 15 Z1y:=fnk 1 (fr [[2,3,11,0,15,18,0,22,25,0,29,32,0,36,39,0,43],[4]]) (Qk1 Zaj (Qk1 Z8u Qk2)) Tryz.func15
abbrev Z2c:Type:=(Qpc × Unit) × Unit
def Zuc:Ctx:=[(89,Zvo),(142,Z3r)]
def Zla:Fi:=fr [[1],[3],[3,13],[3],[3,25,0,27],[3,25,0,28],[3,5,25,0,27],[3,25,0,27],[3,25,0,27],[2]]
abbrev Zd5:Type:=Qkv→Int→Int→Int→Int→Int→Int→Int→Int→List Int→Int→Int→Int→Int→Int→Qkv→Qpc→Option Z2c
def Qyz (L1:Zd5) (c:Qkv) (e b o p q r f g:Int) (h:List Int) (i j k l m:Int) (n:Qkv) (d:Qpc):Option Z2c:=
 bif decide (b<e) then
  bif ix b (c.length:Int) then
   Option.bind (Qkg ((o,p,q,r,f,g,h,i,j,k,l,m,n),d) 3 ((List.getD c b.toNat (0,0,0)).1) 0) fun a=>
   L1 c e (wJ (b+1)) a.2.1.1.1 a.2.1.1.2.1 a.2.1.1.2.2.1 (g3 a.2.1.1) (g4 a.2.1.1) (g5 a.2.1.1) (g6 a.2.1.1) (g7 a.2.1.1) (g8 a.2.1.1) (g9 a.2.1.1) (g10 a.2.1.1) (g11 a.2.1.1) (h12 a.2.1.1) a.2.1.2
  else none
 else
  some ((d,()),())
def Zbs (L1:Zd5) (c:Qse):Option Z2c:=
 Option.bind (Zpw c) fun a=>
 bif (g3 a.1.1.1) != 0 then
  Option.bind (Qkg a.1.1 6 (g3 a.1.1.1) 0) fun b=>
  L1 (h12 b.2.1.1) ((h12 b.2.1.1).length:Int) 0 b.2.1.1.1 b.2.1.1.2.1 b.2.1.1.2.2.1 (g3 b.2.1.1) (g4 b.2.1.1) (g5 b.2.1.1) (g6 b.2.1.1) (g7 b.2.1.1) (g8 b.2.1.1) (g9 b.2.1.1) (g10 b.2.1.1) (g11 b.2.1.1) (h12 b.2.1.1) b.2.1.2
 else
  L1 (h12 a.1.1.1) ((h12 a.1.1.1).length:Int) 0 a.1.1.1.1 a.1.1.1.2.1 a.1.1.1.2.2.1 (g3 a.1.1.1) (g4 a.1.1.1) (g5 a.1.1.1) (g6 a.1.1.1) (g7 a.1.1.1) (g8 a.1.1.1) (g9 a.1.1.1) (g10 a.1.1.1) (g11 a.1.1.1) (h12 a.1.1.1) a.1.1.2
def Qz0 (n:Nat):Nat→Zd5:=iter (fun _ _ _ _ _ _ _ _ _ _ _ _ _ _ _ _ _=>none) fun L=>Qyz L
def Z8l (n m:Nat) (k:Qkv) (l o p q r s a b:Int) (c:List Int) (d e f g h:Int) (i:Qkv) (j:Qpc):Option Z2c:=
 Qjr Zuc tab (fiB [.val t30] Zla) n [.val t30] [⟨t48,[true],none⟩] Tryz.f73 [1,1,1,0,1,0] [] [3,25,26,27] m
 ⟨[(3,V1 (.ptr (7,0) 0)),(25,Vp t29 k),(26,Vp t2 l),(27,Vp t2 o)],[((7,0),Ob.box 141 [LV.pure t2 p,LV.pure t2 q,LV.pure t2 r,LV.pure t2 s,LV.pure t2 a,LV.pure t2 b,LV.pure t28 c,LV.pure t2 d,LV.pure t2 e,LV.pure t2 f,LV.pure t2 g,LV.pure t2 h,LV.pure t29 i,LV.ref (7,14)]),((7,14),Ob.row 46 t45 j)]⟩
theorem Zhj (n:Nat):∀ m,Z8l n m=Qz0 n m
 | 0=>rfl
 | m+1=>by rw [show Z8l n (m+1)=Qyz (Z8l n m) from by kernel_rfl,Zhj n m];rfl
def Znk (n:Nat) (a:Qse):Option Z2c:=Zbs (Qz0 n n) a
def Zne (a:Qse):Option Z2c:=Znk 1099511627776 a
def Zum:Ent:=⟨[.val t30],[⟨t48,[true],none⟩],fun x=>Zne x.1⟩
theorem Zpc:GD 73 Zum:=fnl Zla (fun n x=>Znk n x.1) (Qk1 Zgt (Qk1 Qnh Qk2)) Tryz.func73 fun n x=>Eq.trans (b:=Zbs (Z8l n n) x.1) (by kernel_rfl) (by rw [Zhj n n];rfl)
def Zmj (a:Qy9):Option ((Qy9 × Qpc × Unit) × Unit):=
 bif !a.1 then
  Option.bind (Qrj a) fun b=>
  some ((b.1.1,[],()),())
 else
  Option.bind (Za1 a) fun c=>
  Option.bind (Zne (g3 a)) fun d=>
  some ((c.1.1,d.1.1,()),())
def Zpy:Ent:=⟨[.val t38],[⟨t38,(nF 24),none⟩,⟨t48,[true],none⟩],fun x=>Zmj x.1⟩
theorem Zrp:GD 31 Zpy:=fnk 1 (fo [[1,2],[1,2,6],[2,3],[2,3]]) (Qk1 Z6p (Qk1 Qve (Qk1 Zpc Qk2))) Tryz.func31
def Qto (a:Qy9):Option ((Qy9 × Unit) × Unit):=
 bif !a.1 then
  some ((a,()),())
 else
  some (((u4 (u3 (u2 (u0 a false) zB) X0p) (0,0,[],[],[],0,0)),()),())
def Z6e:Ent:=⟨[.val t38],[⟨t38,(nF 24),none⟩],fun x=>Qto x.1⟩
theorem Z24:GD 21 Z6e:=fnk 1 (fo [[1,2],[1,2,5],[2],[2]]) Qk2 Tryz.func21
abbrev Qp1:Type:=(Qpc × Unit) × Unit
def Zhd:Ctx:=[(62,Qq4)]
def Z4y:Fi:={ keep:=[],vty:=[(3,48)],vals:=[],live:=[(0,[1]),(1,[1,3]),(2,[1,3,7]),(3,[1,3]),(4,[1,3,4]),(5,[1,3,4,19]),(6,[1,3,4]),(7,[1,3,4]),(8,[2])] }
abbrev Qxm:Type:=Int→Int→Int→Int→Int→Int→Int→List Int→Int→Int→Int→Int→Int→Qkv→Qpc→Option Qp1
def Qoi (L1:Qxm) (b i j k l m n:Int) (o:List Int) (d e f g h:Int) (a:Qkv) (c:Qpc):Option Qp1:=
 bif decide (b<(a.length:Int)) then
  bif ix b (a.length:Int) then
   Option.bind (Qk9 (i,j,k,l,m,n,o,d,e,f,g,h,a) 3 ((List.getD a b.toNat (0,0,0)).1)) fun p=>
   bif Nat.ble (c.length+1) 1073741824 then
    L1 (wJ (b+1)) i j k l m n o d e f g h a (c++[p.1.1])
   else none
  else none
 else
  some ((c,()),())
def Qud (L1:Qxm) (a:Qse):Option Qp1:=
 bif (g3 a) != 0 then
  Option.bind (Qk9 a 6 (g3 a)) fun b=>
  L1 0 a.1 a.2.1 a.2.2.1 (g3 a) (g4 a) (g5 a) (g6 a) (g7 a) (g8 a) (g9 a) (g10 a) (g11 a) (h12 a) [b.1.1]
 else
  L1 0 a.1 a.2.1 a.2.2.1 (g3 a) (g4 a) (g5 a) (g6 a) (g7 a) (g8 a) (g9 a) (g10 a) (g11 a) (h12 a) []
def Qoa (n:Nat):Nat→Qxm:=iter (fun _ _ _ _ _ _ _ _ _ _ _ _ _ _ _=>none) fun L=>Qoi L
def Qth (n m:Nat) (h i j k l o p:Int) (q:List Int) (a b c d e:Int) (f:Qkv) (g:Qpc):Option Qp1:=
 Qjr Zhd tab (fiB [.val t30] Z4y) n [.val t30] [⟨t48,[true],none⟩] Tryz.f74 [1,1,1,0,1,0] [] [1,3,4] m
 ⟨[(1,V1 (.ptr (1,0) 0)),(3,V1 (.ref (888888,3))),(4,Vp t2 h)],[((1,0),Ob.box 31 [LV.pure t2 i,LV.pure t2 j,LV.pure t2 k,LV.pure t2 l,LV.pure t2 o,LV.pure t2 p,LV.pure t28 q,LV.pure t2 a,LV.pure t2 b,LV.pure t2 c,LV.pure t2 d,LV.pure t2 e,LV.pure t29 f]),((888888,3),Ob.row 46 t45 g)]⟩
theorem Z3a (n:Nat):∀ m,Qth n m=Qoa n m
 | 0=>rfl
 | m+1=>by rw [show Qth n (m+1)=Qoi (Qth n m) from by kernel_rfl,Z3a n m];rfl
def Z61 (n:Nat) (a:Qse):Option Qp1:=Qud (Qoa n n) a
def Z2b (a:Qse):Option Qp1:=Z61 1099511627776 a
def Zgn:Ent:=⟨[.val t30],[⟨t48,[true],none⟩],fun x=>Z2b x.1⟩
theorem Zcg:GD 74 Zgn:=fnl Z4y (fun n x=>Z61 n x.1) (Qk1 Qlh Qk2) Tryz.func74 fun n x=>Eq.trans (b:=Qud (Qth n n) x.1) (by kernel_rfl) (by rw [Z3a n n];rfl)
def Z0b (a:Qy9):Option ((Qy9 × Qpc × Unit) × Unit):=
 bif !a.1 then
  some ((a,[],()),())
 else
  Option.bind (Qto a) fun b=>
  Option.bind (Z2b (g3 a)) fun c=>
  some ((b.1.1,c.1.1,()),())
def Z9o:Ent:=⟨[.val t38],[⟨t38,(nF 24),none⟩,⟨t48,[true],none⟩],fun x=>Z0b x.1⟩
theorem Zfo:GD 32 Z9o:=fnk 1 (fo [[1,2],[1,2,6],[2,3],[2,3]]) (Qk1 Z24 (Qk1 Zcg Qk2)) Tryz.func32
abbrev Qkk:Type:=(Bool × Unit) × Unit
def Zco:Ctx:=[(10,Z6z),(11,Z9e),(15,Z1y),(16,Z7g),(17,Qvk),(18,Zdw),(19,Qxg),(21,Z6e),(22,Zmw),(23,Zk5),(25,Qqu),(26,Qop),(27,Z1u),(28,Z9r),(29,Z0n),(30,Z1r),(31,Zpy),(32,Z9o),(33,Zdn)]
def Z1p:Fi:=fr [[0,1,2,3,33,0,35,38,0,40,55,0,57,70,0,73,87,0,91,166,0,169,187,0,189,192,0,196],[0,1,2,3,28,33,0,35,38,0,40,55,0,57,70,0,73,87,0,91,166,0,169,187,0,189,192,0,196],[8],[0,1,2,3,41,55,0,57,70,0,73,87,0,91,166,0,169,187,0,189,192,0,196],[8],[0,1,3,9,55,0,57,70,0,73,87,0,91,166,0,169,187,0,189,192,0,196],[1,3,9,10,55,0,57,70,0,73,87,0,91,166,0,169,187,0,189,192,0,196],[1,3,9,0,11,55,0,57,70,0,73,87,0,91,166,0,169,187,0,189,192,0,196],[3,9,0,12,55,0,57,70,0,73,87,0,91,166,0,169,187,0,189,192,0,196],[3,9,0,13,55,0,57,70,0,73,87,0,91,166,0,169,187,0,189,192,0,196],[3,9,0,13,55,0,58,70,0,73,87,0,91,166,0,169,187,0,189,192,0,196],[3,9,0,13,55,0,57,70,0,73,87,0,91,166,0,169,187,0,189,192,0,196],[3,9,0,15,55,0,57,70,0,73,87,0,91,166,0,169,187,0,189,192,0,196],[3,9,0,15,55,0,57,70,0,73,87,0,91,166,0,169,187,0,189,192,0,196],[3,9,0,15,55,0,57,62,70,0,73,87,0,91,166,0,169,187,0,189,192,0,196],[3,9,0,15,21,55,0,57,70,0,73,87,0,91,166,0,169,187,0,189,192,0,196],[3,9,0,15,21,55,0,57,70,0,74,87,0,91,166,0,169,187,0,189,192,0,196],[3,9,0,15,21,55,0,57,70,0,73,87,0,91,166,0,169,187,0,189,192,0,196],[3,9,0,15,21,55,0,57,70,0,73,87,0,92,166,0,169,187,0,189,192,0,196],[3,9,0,15,21,55,0,57,70,0,73,87,0,91,166,0,169,187,0,189,192,0,196],[3,9,0,15,22,55,0,57,70,0,73,87,0,91,166,0,169,187,0,189,192,0,196],[3,9,0,15,22,55,0,57,70,0,73,87,0,91,111,166,0,169,187,0,189,192,0,196],[3,9,0,15,22,55,0,57,70,0,73,87,0,91,166,0,169,187,0,189,192,0,196],[3,9,0,16,22,55,0,57,70,0,73,87,0,91,166,0,169,187,0,189,192,0,196],[3,9,0,17,55,0,57,70,0,73,87,0,91,166,0,169,187,0,189,192,0,196],[3,9,0,15,55,0,57,62,70,0,73,87,0,91,125,166,0,169,187,0,189,192,0,196],[3,9,0,16,55,0,57,70,0,73,87,0,91,166,0,169,187,0,189,192,0,196],[3,9,0,17,55,0,57,70,0,73,87,0,91,166,0,169,187,0,189,192,0,196],[3,9,0,15,55,0,57,70,0,73,87,0,91,137,166,0,169,187,0,189,192,0,196],[3,9,0,15,55,0,57,70,0,73,87,0,91,166,0,169,187,0,189,192,0,196],[3,9,0,15,20,55,0,57,70,0,73,87,0,91,166,0,169,187,0,189,192,0,196],[3,9,0,16,18,20,55,0,57,70,0,73,87,0,91,166,0,169,187,0,189,192,0,196],[3,9,0,19,55,0,57,70,0,73,87,0,91,166,0,169,187,0,189,192,0,196],[3,9,0,17,55,0,57,70,0,73,87,0,91,160,166,0,169,187,0,189,192,0,196],[8],[3,9,0,15,55,0,57,70,0,73,87,0,91,166,0,170,187,0,189,192,0,196],[8],[3,9,0,13,55,0,57,70,0,73,87,0,91,166,0,169,187,0,189,192,0,196],[10,11,23,24,187,0,189,192,0,196],[10,11,23,0,26,187,0,189,192,0,196],[8]]
abbrev Qko:Type:=List Int→Int→Int→Bool→Int→ByteArray→Int→Int→Int→Int→Int→Int→List Int→Int→Int→Int→Int→Int→Qkv→Int→Int→Qkl→Qkl→Qlw→Int→Int→Int→Bool→Int→ByteArray→Int→Int→Int→Int→Int→Int→List Int→Int→Int→Int→Int→Int→Qkv→Int→Int→Qkl→Qkl→Qlw→Int→Int→Int→List Int→Int→Option Qkk
def Qn8 (a b:(Qy9 × Qpc × Unit) × Unit) (L1:Qko) (f:List Int) (g h:Int) (c:(Int × Unit) × (Z4n × Unit)):Option Qkk:=
 Option.bind (Qqf a.1.2.1 b.1.2.1) fun d=>
 bif !d.1.1 then
  some ((false,()),())
 else
  Option.bind (Qmy a.1.1 b.1.1) fun e=>
  bif !e.1.1 then
   some ((false,()),())
  else
   L1 f g (wJ (h+1)) a.1.1.1 a.1.1.2.1 a.1.1.2.2.1 (g3 a.1.1).1 (g3 a.1.1).2.1 (g3 a.1.1).2.2.1 (g3 (g3 a.1.1)) (g4 (g3 a.1.1)) (g5 (g3 a.1.1)) (g6 (g3 a.1.1)) (g7 (g3 a.1.1)) (g8 (g3 a.1.1)) (g9 (g3 a.1.1)) (g10 (g3 a.1.1)) (g11 (g3 a.1.1)) (h12 (g3 a.1.1)) (g4 a.1.1).1 (g4 a.1.1).2.1 (g4 a.1.1).2.2.1 (g3 (g4 a.1.1)) (g4 (g4 a.1.1)) (g5 (g4 a.1.1)) (h6 (g4 a.1.1)) (h5 a.1.1) b.1.1.1 b.1.1.2.1 b.1.1.2.2.1 (g3 b.1.1).1 (g3 b.1.1).2.1 (g3 b.1.1).2.2.1 (g3 (g3 b.1.1)) (g4 (g3 b.1.1)) (g5 (g3 b.1.1)) (g6 (g3 b.1.1)) (g7 (g3 b.1.1)) (g8 (g3 b.1.1)) (g9 (g3 b.1.1)) (g10 (g3 b.1.1)) (g11 (g3 b.1.1)) (h12 (g3 b.1.1)) (g4 b.1.1).1 (g4 b.1.1).2.1 (g4 b.1.1).2.2.1 (g3 (g4 b.1.1)) (g4 (g4 b.1.1)) (g5 (g4 b.1.1)) (h6 (g4 b.1.1)) (h5 b.1.1) c.2.1.1 c.2.1.2
def Qlv (ab:(Int × Unit) × (Z4n × Unit)) (Y:Bool) (Z:Int) (v9:ByteArray) (d e f g h i:Int) (j:List Int) (k l m n o:Int) (p:Qkv) (q r:Int) (s t:Qkl) (u:Qlw) (v w x:Int) (a:List Int) (y:Bool) (z:Int) (A:ByteArray) (B C D E F G:Int) (H:List Int) (I J K L M:Int) (N:Qkv) (O P:Int) (Q S:Qkl) (T:Qlw) (U V W:Int) (L1:Qko) (R X:Int) (c:((List Int) × Unit) × Unit):Option Qkk:=
 Option.bind (Qk8 ab.2.1 9) fun b=>
 bif b.1.1==0 then
  Option.bind (Qx7 (Y,Z,v9,(d,e,f,g,h,i,j,k,l,m,n,o,p),(q,r,s,t,u,v,w),x) a) fun ac=>
  Option.bind (Qnv (y,z,A,(B,C,D,E,F,G,H,I,J,K,L,M,N),(O,P,Q,S,T,U,V),W) a) fun ad=>
  Qn8 ac ad L1 a R X b
 else
  Option.bind (Qx7 (Y,Z,v9,(d,e,f,g,h,i,j,k,l,m,n,o,p),(q,r,s,t,u,v,w),x) c.1.1) fun ae=>
  Option.bind (Qnv (y,z,A,(B,C,D,E,F,G,H,I,J,K,L,M,N),(O,P,Q,S,T,U,V),W) c.1.1) fun af=>
  Qn8 ae af L1 a R X b
def Qrq (a:Qkv) (b:(Qvh × Unit) × (Z4n × Unit)) (c:(Int × Unit) × (Z4n × Unit)) (Z:Bool) (v8:Int) (v9:ByteArray) (e f g h i j:Int) (k:List Int) (l m n o p:Int) (q:Qkv) (r s:Int) (t u:Qkl) (v:Qlw) (w x y:Int) (I:List Int) (z:Bool) (A:Int) (B:ByteArray) (C D E F G H:Int) (J:List Int) (K L M N O P Q:Int) (R T:Qkl) (U:Qlw) (V W X:Int) (L1:Qko) (S Y:Int):Option Qkk:=
 bif decide (0<(a.length:Int)) then
  bif decide (0<(a.length:Int)) then
   Option.bind (Qlg (u3 (u1 b.1.1 ((List.getD a 0 (0,0,0)).1)) (((List.getD a 0 (0,0,0)).2).1))) fun d=>
   Qlv c Z v8 v9 e f g h i j k l m n o p q r s t u v w x y I z A B C D E F G H J K L M N O a P Q R T U V W X L1 S Y d
  else none
 else none
def Qvm (c:(Qvh × Unit) × (Z4n × Unit)) (a b:Int) (d:(Int × Unit) × (Z4n × Unit)) (Z:Bool) (v8:Int) (v9:ByteArray) (f g h i j k:Int) (l:List Int) (m n o p q:Int) (r:Qkv) (s t:Int) (u v:Qkl) (w:Qlw) (x y z:Int) (H:List Int) (A:Bool) (B:Int) (C:ByteArray) (D E F G:Int) (I:List Int) (J K L M N:Int) (O:Qkv) (P Q:Int) (R T:Qkl) (U:Qlw) (V W X:Int) (L1:Qko) (S Y:Int):Option Qkk:=
 Option.bind (Qlg (u3 (u1 c.1.1 a) b)) fun e=>
 Qlv d Z v8 v9 f g h i j k l m n o p q r s t u v w x y z H A B C D E F a b G I J K L M N O P Q R T U V W X L1 S Y e
def Qvn (c:(Qvh × Unit) × (Z4n × Unit)) (a:(Int × Unit) × (Z4n × Unit)) (Z:Bool) (v8:Int) (v9:ByteArray) (d e f g h i:Int) (j:List Int) (k l m n o:Int) (p:Qkv) (q r:Int) (s t:Qkl) (u:Qlw) (v w x:Int) (H:List Int) (y:Bool) (z:Int) (A:ByteArray) (B C D E F G:Int) (I:List Int) (J K L M N:Int) (O:Qkv) (P Q:Int) (R T:Qkl) (U:Qlw) (V W X:Int) (L1:Qko) (S Y:Int):Option Qkk:=
 Option.bind (Qlg c.1.1) fun b=>
 Qlv a Z v8 v9 d e f g h i j k l m n o p q r s t u v w x H y z A B C D E F G I J K L M N O P Q R T U V W X L1 S Y b
def Qrs (ab:(Int × Unit) × (Z4n × Unit)) (b:Qkv) (c:(Qvh × Unit) × (Z4n × Unit)) (Y:Bool) (Z:Int) (v9:ByteArray) (d e f g h i:Int) (j:List Int) (k l m n o:Int) (p:Qkv) (q r:Int) (s t:Qkl) (u:Qlw) (v w x:Int) (H:List Int) (y:Bool) (z:Int) (A:ByteArray) (B C D E F G:Int) (I:List Int) (J K L M N O P:Int) (Q S:Qkl) (T:Qlw) (U V W:Int) (L1:Qko) (R X:Int):Option Qkk:=
 Option.bind (Qk8 ab.2.1 3) fun a=>
 bif a.1.1==0 then
  bif decide ((b.length:Int)>0) then
   Qrq b c a Y Z v9 d e f g h i j k l m n o p q r s t u v w x H y z A B C D E F G I J K L M N O P Q S T U V W L1 R X
  else
   Qvn c a Y Z v9 d e f g h i j k l m n o p q r s t u v w x H y z A B C D E F G I J K L M N b O P Q S T U V W L1 R X
 else
  Qvn c a Y Z v9 d e f g h i j k l m n o p q r s t u v w x H y z A B C D E F G I J K L M N b O P Q S T U V W L1 R X
def Qs1 (V:Bool) (W:Int) (X:ByteArray) (c d e f g h:Int) (i:List Int) (j k l m n:Int) (o:Qkv) (p q:Int) (r s:Qkl) (t:Qlw) (u v w:Int) (x:Bool) (y:Int) (z:ByteArray) (A B C D E F:Int) (G:List Int) (H I J K L:Int) (M:Qkv) (N O:Int) (P Q:Qkl) (R:Qlw) (S T U:Int):Option Qkk:=
 Option.bind (Zmj (V,W,X,(c,d,e,f,g,h,i,j,k,l,m,n,o),(p,q,r,s,t,u,v),w)) fun a=>
 Option.bind (Z0b (x,y,z,(A,B,C,D,E,F,G,H,I,J,K,L,M),(N,O,P,Q,R,S,T),U)) fun b=>
 Option.bind (Qqf a.1.2.1 b.1.2.1) fun Y=>
 bif Y.1.1 then
  Option.bind (Qmy a.1.1 b.1.1) fun Z=>
  bif Z.1.1 then
   Option.bind (Za1 (V,W,X,(c,d,e,f,g,h,i,j,k,l,m,n,o),(p,q,r,s,t,u,v),w)) fun aa=>
   Option.bind (Qto (x,y,z,(A,B,C,D,E,F,G,H,I,J,K,L,M),(N,O,P,Q,R,S,T),U)) fun ab=>
   Option.bind (Qmy aa.1.1 ab.1.1) fun ac=>
   some ((ac.1.1,()),())
  else
   some ((false,()),())
 else
  some ((false,()),())
def Qnb (L1:Qko) (v4:List Int) (Y Z:Int) (V:Bool) (W:Int) (X:ByteArray) (e f g h i j:Int) (k:List Int) (l m n o p:Int) (q:Qkv) (r s:Int) (t u:Qkl) (v:Qlw) (w x y:Int) (z:Bool) (A:Int) (B:ByteArray) (C D E c F G:Int) (H:List Int) (I J K L M:Int) (d:Qkv) (N O:Int) (P Q:Qkl) (R:Qlw) (S T U:Int) (al:List Int) (am:Int):Option Qkk:=
 bif decide (Z<12) then
  Option.bind (Qnw (al,am)) fun ag=>
  bif !ag.1.1 then
   Option.bind (Qk8 ag.2.1 5) fun ad=>
   bif ad.1.1==0 then
    Option.bind (Znr (V,W,X,(e,f,g,h,i,j,k,l,m,n,o,p,q),(r,s,t,u,v,w,x),y)) fun ah=>
    Option.bind (Qxh (z,A,B,(C,D,E,c,F,G,H,I,J,K,L,M,d),(N,O,P,Q,R,S,T),U)) fun ai=>
    Qn8 ah ai L1 v4 Y Z ad
   else
   bif ad.1.1==1 then
    Option.bind (Qk8 ad.2.1 3) fun ab=>
    bif ix ab.1.1 3 then
     bif ix ab.1.1 3 then
      Option.bind (Zmo (V,W,X,(e,f,g,h,i,j,k,l,m,n,o,p,q),(r,s,t,u,v,w,x),y) (List.getD [(⟨#[97]⟩:ByteArray),(⟨#[98,99]⟩:ByteArray),(⟨#[116,104,105,114,116,101,101,110,32,98,121,116,101]⟩:ByteArray)] ab.1.1.toNat zB)) fun a=>
      Option.bind (Z0o (z,A,B,(C,D,E,c,F,G,H,I,J,K,L,M,d),(N,O,P,Q,R,S,T),U) (List.getD [(⟨#[97]⟩:ByteArray),(⟨#[98,99]⟩:ByteArray),(⟨#[116,104,105,114,116,101,101,110,32,98,121,116,101]⟩:ByteArray)] ab.1.1.toNat zB)) fun b=>
      bif !(a.1.2.2.1==b.1.2.2.1) then
       some ((false,()),())
      else
       Option.bind (Qqf a.1.2.1 b.1.2.1) fun aj=>
       bif !aj.1.1 then
        some ((false,()),())
       else
        Option.bind (Qmy a.1.1 b.1.1) fun ak=>
        bif !ak.1.1 then
         some ((false,()),())
        else
         L1 v4 Y (wJ (Z+1)) a.1.1.1 a.1.1.2.1 a.1.1.2.2.1 (g3 a.1.1).1 (g3 a.1.1).2.1 (g3 a.1.1).2.2.1 (g3 (g3 a.1.1)) (g4 (g3 a.1.1)) (g5 (g3 a.1.1)) (g6 (g3 a.1.1)) (g7 (g3 a.1.1)) (g8 (g3 a.1.1)) (g9 (g3 a.1.1)) (g10 (g3 a.1.1)) (g11 (g3 a.1.1)) (h12 (g3 a.1.1)) (g4 a.1.1).1 (g4 a.1.1).2.1 (g4 a.1.1).2.2.1 (g3 (g4 a.1.1)) (g4 (g4 a.1.1)) (g5 (g4 a.1.1)) (h6 (g4 a.1.1)) (h5 a.1.1) b.1.1.1 b.1.1.2.1 b.1.1.2.2.1 (g3 b.1.1).1 (g3 b.1.1).2.1 (g3 b.1.1).2.2.1 (g3 (g3 b.1.1)) (g4 (g3 b.1.1)) (g5 (g3 b.1.1)) (g6 (g3 b.1.1)) (g7 (g3 b.1.1)) (g8 (g3 b.1.1)) (g9 (g3 b.1.1)) (g10 (g3 b.1.1)) (g11 (g3 b.1.1)) (h12 (g3 b.1.1)) (g4 b.1.1).1 (g4 b.1.1).2.1 (g4 b.1.1).2.2.1 (g3 (g4 b.1.1)) (g4 (g4 b.1.1)) (g5 (g4 b.1.1)) (h6 (g4 b.1.1)) (h5 b.1.1) ab.2.1.1 ab.2.1.2
     else none
    else none
   else
    Option.bind (Qkx ad.2.1 Y) fun ac=>
    Option.bind (Qk8 ac.2.1 2) fun ae=>
    bif ae.1.1==0 then
     bif c != 0 then
      Option.bind (Qk8 ae.2.1 3) fun af=>
      bif af.1.1==0 then
       bif decide ((d.length:Int)>0) then
        Qrq d ac af V W X e f g h i j k l m n o p q r s t u v w x y v4 z A B C D E c F G H I J K L M N O P Q R S T U L1 Y Z
       else
        Qvm ac c F af V W X e f g h i j k l m n o p q r s t u v w x y v4 z A B C D E G H I J K L M d N O P Q R S T U L1 Y Z
      else
       Qvm ac c F af V W X e f g h i j k l m n o p q r s t u v w x y v4 z A B C D E G H I J K L M d N O P Q R S T U L1 Y Z
     else
      Qrs ae d ac V W X e f g h i j k l m n o p q r s t u v w x y v4 z A B C D E c F G H I J K L M N O P Q R S T U L1 Y Z
    else
     Qrs ae d ac V W X e f g h i j k l m n o p q r s t u v w x y v4 z A B C D E c F G H I J K L M N O P Q R S T U L1 Y Z
  else
   Qs1 V W X e f g h i j k l m n o p q r s t u v w x y z A B C D E c F G H I J K L M d N O P Q R S T U
 else
  Qs1 V W X e f g h i j k l m n o p q r s t u v w x y z A B C D E c F G H I J K L M d N O P Q R S T U
def Qso (L1:Qko) (b d:List Int) (e:Int) (f:List Int):Option Qkk:=
 Option.bind (Z2e) fun g=>
 bif !g.1.1 then
  some ((false,()),())
 else
 bif decide ((b.length:Int)>150) then
  some ((true,()),())
 else
 bif decide ((d.length:Int)>100) then
  some ((true,()),())
 else
 bif decide ((f.length:Int)>60) then
  some ((true,()),())
 else
  Option.bind (Qv7 b (wJ (1+(wJ (Int.tmod e 8))))) fun a=>
  Option.bind (Qwa d) fun c=>
  L1 f (wJ (1+(wJ (Int.tmod e 8)))) 0 a.1.1.1 a.1.1.2.1 a.1.1.2.2.1 (g3 a.1.1).1 (g3 a.1.1).2.1 (g3 a.1.1).2.2.1 (g3 (g3 a.1.1)) (g4 (g3 a.1.1)) (g5 (g3 a.1.1)) (g6 (g3 a.1.1)) (g7 (g3 a.1.1)) (g8 (g3 a.1.1)) (g9 (g3 a.1.1)) (g10 (g3 a.1.1)) (g11 (g3 a.1.1)) (h12 (g3 a.1.1)) (g4 a.1.1).1 (g4 a.1.1).2.1 (g4 a.1.1).2.2.1 (g3 (g4 a.1.1)) (g4 (g4 a.1.1)) (g5 (g4 a.1.1)) (h6 (g4 a.1.1)) (h5 a.1.1) a.1.1.1 a.1.1.2.1 a.1.1.2.2.1 (g3 a.1.1).1 (g3 a.1.1).2.1 (g3 a.1.1).2.2.1 (g3 (g3 a.1.1)) (g4 (g3 a.1.1)) (g5 (g3 a.1.1)) (g6 (g3 a.1.1)) (g7 (g3 a.1.1)) (g8 (g3 a.1.1)) (g9 (g3 a.1.1)) (g10 (g3 a.1.1)) (g11 (g3 a.1.1)) (h12 (g3 a.1.1)) (g4 a.1.1).1 (g4 a.1.1).2.1 (g4 a.1.1).2.2.1 (g3 (g4 a.1.1)) (g4 (g4 a.1.1)) (g5 (g4 a.1.1)) (h6 (g4 a.1.1)) (h5 a.1.1) c.1.1.1 c.1.1.2
def Qkp (n:Nat):Nat→Qko:=iter (fun _ _ _ _ _ _ _ _ _ _ _ _ _ _ _ _ _ _ _ _ _ _ _ _ _ _ _ _ _ _ _ _ _ _ _ _ _ _ _ _ _ _ _ _ _ _ _ _ _ _ _ _ _=>none) fun L=>Qnb L
def Qrt (n m:Nat) (G:List Int) (R Z:Int) (v7:Bool) (v8:Int) (v9:ByteArray) (a b c d e f:Int) (g:List Int) (h i j k l:Int) (o:Qkv) (p q:Int) (r s:Qkl) (t:Qlw) (u v w:Int) (x:Bool) (y:Int) (z:ByteArray) (A B C D E F:Int) (H:List Int) (I J K L M:Int) (N:Qkv) (O P:Int) (Q S:Qkl) (T:Qlw) (U V W:Int) (X:List Int) (Y:Int):Option Qkk:=
 Qjr Zco tab (fiB [.val t25,.val t25,.val t5,.val t25] Z1p) n [.val t25,.val t25,.val t5,.val t25] [⟨t4,[false],none⟩] Tryz.f9 [1,1,1,1,1,1,1,0,1,0] [] [3,9,10,11,12,13] m
 ⟨[(3,Vp t25 G),(9,Vp t2 R),(10,V1 (.ptr (10,0) 0)),(11,V1 (.ptr (11,0) 0)),(12,V1 (.ptr (51,0) 0)),(13,Vp t2 Z)],[((10,0),Ob.box 39 [LV.pure t4 v7,LV.pure t2 v8,LV.pure t9 v9,LV.pure t2 a,LV.pure t2 b,LV.pure t2 c,LV.pure t2 d,LV.pure t2 e,LV.pure t2 f,LV.pure t28 g,LV.pure t2 h,LV.pure t2 i,LV.pure t2 j,LV.pure t2 k,LV.pure t2 l,LV.pure t29 o,LV.pure t2 p,LV.pure t2 q,LV.pure t32 r,LV.pure t32 s,LV.pure t33 t,LV.pure t2 u,LV.pure t2 v,LV.pure t2 w]),((11,0),Ob.box 39 [LV.pure t4 x,LV.pure t2 y,LV.pure t9 z,LV.pure t2 A,LV.pure t2 B,LV.pure t2 C,LV.pure t2 D,LV.pure t2 E,LV.pure t2 F,LV.pure t28 H,LV.pure t2 I,LV.pure t2 J,LV.pure t2 K,LV.pure t2 L,LV.pure t2 M,LV.pure t29 N,LV.pure t2 O,LV.pure t2 P,LV.pure t32 Q,LV.pure t32 S,LV.pure t33 T,LV.pure t2 U,LV.pure t2 V,LV.pure t2 W]),((51,0),Ob.box 75 [LV.pure t25 X,LV.pure t2 Y])]⟩
theorem Z0h (n:Nat):∀ m,Qrt n m=Qkp n m
 | 0=>rfl
 | m+1=>by rw [show Qrt n (m+1)=Qnb (Qrt n m) from by kernel_rfl,Z0h n m];rfl
def Z31 (n:Nat) (a b:List Int) (c:Int) (d:List Int):Option Qkk:=Qso (Qkp n n) a b c d
def Quy (a b:List Int) (c:Int) (d:List Int):Option Qkk:=Z31 1099511627776 a b c d
def Zdc:Ent:=⟨[.val t25,.val t25,.val t5,.val t25],[⟨t4,[false],none⟩],fun x=>Quy x.1 x.2.1 x.2.2.1 x.2.2.2.1⟩
theorem Za3:GD 9 Zdc:=fnl Z1p (fun n x=>Z31 n x.1 x.2.1 x.2.2.1 x.2.2.2.1) (Qk1 Zc6 (Qk1 Z4e (Qk1 Z8s (Qk1 Zed (Qk1 Qy0 (Qk1 Zcu (Qk1 Z0z (Qk1 Z24 (Qk1 Zp4 (Qk1 Zhz (Qk1 Qs2 (Qk1 Ql6 (Qk1 Z91 (Qk1 Zfa (Qk1 Z76 (Qk1 Z97 (Qk1 Zrp (Qk1 Zfo (Qk1 Z6p Qk2))))))))))))))))))) Tryz.func9 fun n x=>Eq.trans (b:=Qso (Qrt n n) x.1 x.2.1 x.2.2.1 x.2.2.2.1) (by kernel_rfl) (by rw [Z0h n n];rfl)
end
end Go.PE
