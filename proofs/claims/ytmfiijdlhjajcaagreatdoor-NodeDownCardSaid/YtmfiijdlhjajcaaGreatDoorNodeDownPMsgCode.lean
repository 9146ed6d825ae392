/-
  Plain lemmas on the functions.
  Conditions: none.
-/
import Derived.Test.YtmfiijdlhjajcaaGreatDoorNodeDownPMsg
set_option linter.unusedVariables false
set_option linter.unusedSimpArgs false
set_option maxRecDepth 20000
namespace Go.PE
theorem Zhh:∀ (p s:List Int),Zbp s p=true→∀ x∈p,1≤x∧x≤8
 | [],_,_,x,hx=>by cases hx
 | y::r,s,h,x,hx=>by
  unfold Zbp at h
  rw [Bool.and_eq_true,Bool.and_eq_true] at h
  rcases List.mem_cons.1 hx with rfl | hx
  ·exact Qkn.1 h.1.1
  ·exact Zhh r _ h.2 x hx
theorem Qof {p:List Int} (h:Qos p=true):p.length≤10∧∀ x∈p,1≤x∧x≤8:=by
 unfold Qos at h
 simp only [Bool.and_eq_true,decide_eq_true_eq] at h
 exact ⟨h.2.1,Zhh p [] h.2.2.2⟩
structure OkM (m:Qk7):Prop where
 kd:1≤m.kd∧m.kd≤9
 fr:1≤m.fr∧m.fr≤8
 to:1≤m.to∧m.to≤8
 inc:1≤m.inc∧m.inc≤1073741824
 ep:0≤m.ep∧m.ep≤1073741824
 ag:0≤m.ag∧m.ag≤1073741824
 pl:m.pa.length≤10
 pa:∀ x∈m.pa,1≤x∧x≤8
 lo:0≤m.lo∧m.lo≤1000000
 hi:0≤m.hi∧m.hi≤1000000
 tx:m.tx.size≤12
theorem Z4w {m:Qk7} (h:Zg4 m=true):OkM m:=by
 unfold Zg4 at h
 simp only [Bool.and_eq_true,bne_iff_ne] at h
 obtain ⟨h1,⟨h2,h3⟩,h4,h5,h6⟩:=h
 have eb0:eb.size=0:=rfl
 obtain ⟨kd,fr,to,inc,ep,ag,pa,lo,hi,tx⟩:=m
 unfold Qw5 at h6
 by_cases k2:kd=2
 ·rw [if_pos k2] at h6
  simp only [Bool.and_eq_true,Qx2,Prod.mk.injEq,Qk7.ep,Qk7.ag,Qk7.pa,Qk7.lo,Qk7.hi] at h6
  obtain ⟨⟨a1,a2⟩,a3,a4,a5⟩:=h6
  have ⟨p1,p2⟩:=Qof a3
  have e9:=a5.2.2.2.2.2.2.2.2.1;have e10:=a5.2.2.2.2.2.2.2.2.2
  exact ⟨Qkn.1 h1,Qkn.1 h2,Qkn.1 h3,Qkn.1 h5,Qkn.1 a1,Qkn.1 a2,p1,p2,Qkn.1 a4,by show 0≤hi∧hi≤1000000;omega,by show tx.size≤12;rw [e10,eb0];omega⟩
 rw [if_neg k2] at h6
 by_cases k5:kd=5
 ·rw [if_pos k5] at h6
  simp only [Bool.and_eq_true,Qx2,Prod.mk.injEq,Qk7.ep,Qk7.ag,Qk7.pa,Qk7.lo,Qk7.hi] at h6
  obtain ⟨⟨a1,a2⟩,a3,a4,a5⟩:=h6
  have ⟨p1,p2⟩:=Qof a3
  have e8:=a5.2.2.2.2.2.2.2.1;have e10:=a5.2.2.2.2.2.2.2.2.2
  exact ⟨Qkn.1 h1,Qkn.1 h2,Qkn.1 h3,Qkn.1 h5,Qkn.1 a1,Qkn.1 a2,p1,p2,by show 0≤lo∧lo≤1000000;omega,Qkn.1 a4,by show tx.size≤12;rw [e10,eb0];omega⟩
 rw [if_neg k5] at h6
 by_cases k7:kd=7
 ·rw [if_pos k7] at h6
  simp only [Bool.and_eq_true,Qx2,Prod.mk.injEq,Qk7.ep,Qk7.ag,Qk7.pa,Qk7.lo,Qk7.hi,Qk7.tx,decide_eq_true_eq] at h6
  obtain ⟨a1,a2,a5⟩:=h6
  have a1:=Qkn.1 a1
  have e5:=a5.2.2.2.2.1;have e6:=a5.2.2.2.2.2.1;have e7:=a5.2.2.2.2.2.2.1;have e9:=a5.2.2.2.2.2.2.2.2.1
  subst e7
  exact ⟨Qkn.1 h1,Qkn.1 h2,Qkn.1 h3,Qkn.1 h5,by show 0≤ep∧ep≤_;omega,by show 0≤ag∧ag≤_;omega,by simp [Qk7.pa],by intro x hx;simp [Qk7.pa] at hx,by show 0≤lo∧lo≤1000000;omega,by show 0≤hi∧hi≤_;omega,by show tx.size≤12;have a2:(tx.size:Int)≤12:=of_decide_eq_true a2;omega⟩
 rw [if_neg k7] at h6
 by_cases k8:kd=8∨kd=9
 ·rw [if_pos k8] at h6
  simp only [Bool.and_eq_true,Qx2,Prod.mk.injEq,Qk7.ep,Qk7.ag,Qk7.pa,Qk7.lo,Qk7.hi,Qk7.tx,decide_eq_true_eq] at h6
  obtain ⟨a0,⟨a1,a2⟩,a5⟩:=h6
  have a1:=Qkn.1 a1;have a2:=Qkn.1 a2
  have e5:=a5.2.2.2.2.1;have e6:=a5.2.2.2.2.2.1;have e7:=a5.2.2.2.2.2.2.1;have e10:=a5.2.2.2.2.2.2.2.2.2
  subst e7
  exact ⟨Qkn.1 h1,Qkn.1 h2,Qkn.1 h3,Qkn.1 h5,by show 0≤ep∧ep≤_;omega,by show 0≤ag∧ag≤_;omega,by simp [Qk7.pa],by intro x hx;simp [Qk7.pa] at hx,by show 0≤lo∧lo≤1000000;omega,by show 0≤hi∧hi≤_;omega,by show tx.size≤12;rw [e10,eb0];omega⟩
 rw [if_neg k8] at h6
 simp only [Qx2,Prod.mk.injEq] at h6
 have e5:=h6.2.2.2.2.1;have e6:=h6.2.2.2.2.2.1;have e7:=h6.2.2.2.2.2.2.1;have e8:=h6.2.2.2.2.2.2.2.1;have e9:=h6.2.2.2.2.2.2.2.2.1;have e10:=h6.2.2.2.2.2.2.2.2.2
 subst e7
 exact ⟨Qkn.1 h1,Qkn.1 h2,Qkn.1 h3,Qkn.1 h5,by show 0≤ep∧ep≤_;omega,by show 0≤ag∧ag≤_;omega,by simp [Qk7.pa],by intro x hx;simp [Qk7.pa] at hx,by show 0≤lo∧lo≤1000000;omega,by show 0≤hi∧hi≤_;omega,by show tx.size≤12;rw [e10,eb0];omega⟩
def Zji (x:Int):List Int:=enc x.toNat
def Zcx:List Int→List Int
 | []=>[]
 | x::r=>Zji x++Zcx r
theorem Zhq:∀ (a b:List Int),Zcx (a++b)=Zcx a++Zcx b
 | [],b=>rfl
 | x::r,b=>by show Zji x++Zcx (r++b)=_;rw [Zhq r b,← List.append_assoc];rfl
theorem Zg0:∀ (a:List Int),(Zcx a).length≤10*a.length
 | []=>by simp [Zcx]
 | x::r=>by
  show (Zji x++Zcx r).length≤_
  rw [List.length_append,List.length_cons]
  have:=Zg0 r;have:=Qv6 x.toNat
  unfold Zji
  omega
theorem Zgv:∀ (a:List Int),Qki (Zcx a)
 | []=>by intro x hx;cases hx
 | x::r=>Qp4.2 ⟨Za4 _,Zgv r⟩
def Zci (m:Qk7):List Int:=([m.kd,m.fr,m.to,m.inc,m.ep,m.ag,(m.pa.length:Int)]++m.pa)++[m.lo,m.hi]
def body (m:Qk7):List Int:=Zcx (Zci m)++Ze4 (Qx5 m.tx)
def Zbr (m:Qk7):List Int:=if Zg4 m=true then body m++Zjs (Zqr (body m)) else []
theorem Zc5 {t:List Int} (h:Qki t):Qki (Ze4 t):=Qp4.2 ⟨Za4 _,h⟩
theorem Zmk (m:Qk7):Qki (body m):=Qp4.2 ⟨Zgv _,Zc5 (Z4s _)⟩
theorem OkM.nums {m:Qk7} (h:OkM m):(Zci m).length=m.pa.length+9∧∀ x∈Zci m,0≤x∧x≤1073741824:=by
 refine ⟨by simp [Zci,Qk7.pa],?_⟩
 intro x hx
 unfold Zci at hx
 simp only [List.mem_append,List.mem_cons,List.not_mem_nil,or_false] at hx
 have:=h.kd;have:=h.fr;have:=h.to;have:=h.inc;have:=h.ep;have:=h.ag;have:=h.pl;have:=h.lo;have:=h.hi
 rcases hx with (hx | hx) | hx
 ·omega
 ·have:=h.pa x hx;omega
 ·omega
theorem OkM.body_len {m:Qk7} (h:OkM m):(body m).length≤1000:=by
 unfold body Ze4
 rw [List.length_append,List.length_append]
 have h1:=Zg0 (Zci m);have h2:=h.nums.1;have h3:=Qv6 (Qx5 m.tx).length;have h4:=Qre m.tx
 have:=h.pl;have:=h.tx
 omega
theorem Zh8 (m:Qk7):Qki (Zbr m):=by
 unfold Zbr;split
 ·exact Qp4.2 ⟨Zmk m,Zk9 _⟩
 ·intro x hx;cases hx
theorem Zjx (s:Nat):(Zjs s).length=4:=rfl
theorem Zle (m:Qk7):(Zbr m).length≤1004:=by
 unfold Zbr;split
 ·rename_i h;have:=(Z4w h).body_len;rw [List.length_append,Zjx];omega
 ·simp
theorem Zdl (n:Nat) (tx:ByteArray) (ht:tx.size≤100) (l:List Int) (hl:∀ x∈l,0≤x∧x≤1073741824) (h6:l.length≤1000) (a b c d e f:Int) (p:List Int) (g j:Int):∀ (k m i:Nat) (xs:List Int),Qki xs→i+k=l.length→k<m→xs.length+10*k≤100000 →
  Qzw n m (l.length:Int) (i:Int) a b c d e f p g j tx xs l=some ((xs++Zcx (l.drop i)++Ze4 (Qx5 tx)++Zjs (Zqr (xs++Zcx (l.drop i)++Ze4 (Qx5 tx))),()),())
 | k,0,i,xs,_,_,h,_=>by omega
 | 0,m+1,i,xs,hb,hk,h,hx=>by
  show Qzq (Qzw n m) (l.length:Int) (i:Int) a b c d e f p g j tx xs l=_
  unfold Qzq
  have hlen:(xs++Ze4 (Qx5 tx)).length≤200000:=by
   unfold Ze4
   rw [List.length_append,List.length_append];have:=Qv6 (Qx5 tx).length;have:=Qre tx;omega
  have hby:Qki (xs++Ze4 (Qx5 tx)):=Qp4.2 ⟨hb,Zc5 (Z4s _)⟩
  have e0:xs++(enc tx.size++Qx5 tx)=xs++Ze4 (Qx5 tx):=by unfold Ze4;rw [Qre]
  rw [cdn (by omega),Zdy xs tx (by omega) (by omega),List.drop_eq_nil_of_le (by omega),e0]
  dsimp only [Option.bind_some]
  rw [Zr1 _ hby (by omega)]
  dsimp only [Option.bind_some]
  rw [cbp (by omega),Zlo (Znq hby)]
  simp only [Zcx,List.append_nil]
 | k+1,m+1,i,xs,hb,hk,h,hx=>by
  show Qzq (Qzw n m) (l.length:Int) (i:Int) a b c d e f p g j tx xs l=_
  unfold Qzq
  have hi:i<l.length:=by omega
  have hv:=hl l[i] (List.getElem_mem hi)
  rw [cdp (by omega),Z86,cdp (by omega),cdp (by omega),Z86,cdp (by omega),cdp (by omega),Qk9,Qkl hi,List.drop_eq_getElem_cons hi]
  generalize l[i]=x at *
  obtain ⟨x,rfl⟩:∃ y:Nat,x=(y:Int):=⟨x.toNat,by omega⟩
  rw [Zd0 xs x (by omega) (by omega)]
  dsimp only [Option.bind_some]
  have:=Qv6 x
  rw [Qr9 (by omega),Zdl n tx ht l hl h6 a b c d e f p g j k m (i+1) (xs++enc x) (Qp4.2 ⟨hb,Za4 x⟩) (by omega) (by omega) (by rw [List.length_append];omega)]
  have e1:xs++enc x++Zcx (l.drop (i+1))=xs++Zcx ((x:Int)::l.drop (i+1)):=by rw [List.append_assoc];rfl
  rw [e1]
theorem Zl7 (m:Qk7) (h6:m.pa.length≤1000000000):Zkz m=some ((Zbr m,()),()):=by
 show Zbm (Qzw 1099511627776 1099511627776) m=_
 unfold Zbm
 rw [Zkp m h6]
 dsimp only [Option.bind_some]
 unfold Zbr
 cases hm:Zg4 m with
 | false=>rfl
 | true=>
  have ho:=Z4w hm
  have hp:m.2.2.2.2.2.2.1.length≤10:=ho.pl
  have h1:=Zdl 1099511627776 m.tx (by have:=ho.tx;omega) (Zci m) ho.nums.2 (by have:=ho.nums.1;have:=ho.pl;omega) m.1 m.2.1 m.2.2.1 m.2.2.2.1 m.2.2.2.2.1 m.2.2.2.2.2.1 m.2.2.2.2.2.2.1 m.2.2.2.2.2.2.2.1 m.2.2.2.2.2.2.2.2.1 (Zci m).length 1099511627776 0 [] (by intro x hx;cases hx) (by omega) (by have:=ho.nums.1;have:=ho.pl;omega) (by have:=ho.nums.1;have:=ho.pl;simp;omega)
  rw [nt,if_pos rfl]
  simp only [cond_false]
  rw [cbp (by omega),cbp (by rw [List.length_append];simp;omega)]
  rw [List.drop_zero] at h1
  exact h1
def Qqi (o:Option (List Int)):Nat × Option (List Int):=
 match o with
 | none=>(0,none)
 | some l=>match dec l with
  | none=>(0,none)
  | some (v,n)=>(v,some (l.drop n))
def Zma (o:Option (List Int)):ByteArray × Option (List Int):=
 match o with
 | none=>(⟨#[]⟩,none)
 | some l=>match Zpe l with
  | none=>(⟨#[]⟩,none)
  | some (t,n)=>(Q5g t,some (l.drop n))
def Z0u:Nat→Option (List Int)→List Int→List Int × Option (List Int)
 | 0,o,acc=>(acc,o)
 | k+1,none,acc=>(acc,none)
 | k+1,some l,acc=>Z0u k (Qqi (some l)).2 (acc++[((Qqi (some l)).1:Int)])
structure RS (s:List Int × IV) (o:Option (List Int)):Prop where
 by':Qki s.1
 len:s.1.length≤1000000000
 is':match o with | some l=>s.1=l∧s.2=IV.nil | none=>∃ a,s.2=IV.mk 134 a
theorem Qs7 {s:List Int × IV} {o:Option (List Int)} (h:RS s o) (what:ByteArray) :
  ∃ s',Qk8 s what=some ((((Qqi o).1:Int),()),(s',()))∧RS s' (Qqi o).2:=by
 obtain ⟨hb,hl,hs⟩:=h
 obtain ⟨l,e⟩:=s
 cases o with
 | none=>
  obtain ⟨a,rfl⟩:=hs
  exact ⟨_,rfl,hb,hl,a,rfl⟩
 | some l'=>
  obtain ⟨h1,h2⟩:=hs
  simp only at h1 h2 hb hl
  subst h1 h2
  have eT:=Zac l hb (by omega)
  have e1:((l.length:Int)).toNat=l.length:=rfl
  unfold Qk8 Qqi
  dsimp only [IV.isNil]
  cases hd:dec l with
  | none=>
   rw [hd,Znu] at eT
   rw [eT]
   dsimp only [Option.bind_some,nt,nf,cond_false,cond_true]
   rw [Z86,Z86]
   rw [cdp (by omega),cdp (by omega),cdp (by omega)]
   refine ⟨_,rfl,?_,?_,?_⟩
   ·rw [e1,List.take_length];exact hb
   ·rw [e1,List.take_length];exact hl
   ·exact ⟨_,rfl⟩
  | some p=>
   obtain ⟨v,n⟩:=p
   obtain ⟨h0,h1,h2,h3⟩:=Zlq hb hd
   rw [hd,Zon] at eT
   rw [eT]
   dsimp only [Option.bind_some,nt,nf,cond_false,cond_true]
   rw [Z86,Z86]
   rw [cdp (by omega),cdp (by omega),cdp (by omega),e1,List.take_length,Qk9]
   exact ⟨_,rfl,Z67 hb n,by simp only [List.length_drop];omega,rfl,rfl⟩
theorem Zk4 {s:List Int × IV} {o:Option (List Int)} (h:RS s o) (what:ByteArray) :
  ∃ s',Qmf s what=some (((Zma o).1,()),(s',()))∧RS s' (Zma o).2:=by
 obtain ⟨hb,hl,hs⟩:=h
 obtain ⟨l,e⟩:=s
 cases o with
 | none=>
  obtain ⟨a,rfl⟩:=hs
  exact ⟨_,rfl,hb,hl,a,rfl⟩
 | some l'=>
  obtain ⟨h1,h2⟩:=hs
  simp only at h1 h2 hb hl
  subst h1 h2
  have eT:=Zca l hb (by omega)
  have e1:((l.length:Int)).toNat=l.length:=rfl
  unfold Qmf Zma
  dsimp only [IV.isNil]
  cases hd:Zpe l with
  | none=>
   rw [hd,Zmf] at eT
   rw [eT]
   dsimp only [Option.bind_some,nt,nf,cond_false,cond_true]
   rw [Z86,Z86]
   rw [cdp (by omega),cdp (by omega),cdp (by omega)]
   refine ⟨_,rfl,?_,?_,?_⟩
   ·rw [e1,List.take_length];exact hb
   ·rw [e1,List.take_length];exact hl
   ·exact ⟨_,rfl⟩
  | some p=>
   obtain ⟨t,n⟩:=p
   obtain ⟨h0,h1,h2⟩:=Zq3 hb hd
   rw [hd,Zmg] at eT
   rw [eT]
   dsimp only [Option.bind_some,nt,nf,cond_false,cond_true]
   rw [Z86,Z86]
   rw [cdp (by omega),cdp (by omega),cdp (by omega),e1,List.take_length,Qk9]
   exact ⟨_,rfl,Z67 hb n,by simp only [List.length_drop];omega,rfl,rfl⟩
def Zot (o:Option (List Int)):(Int × Int × ByteArray) × Option (List Int):=
 let a:=Qqi o;let b:=Qqi a.2;let t:=Zma b.2
 (((a.1:Int),(b.1:Int),t.1),t.2)
theorem Zhb {s:List Int × IV} {o:Option (List Int)} (h:RS s o) (w1 w2 w3:ByteArray) {R:Type} (K:Int→Int→ByteArray→(List Int × IV)→Option R) :
  ∃ s',(Option.bind (Qk8 s w1) fun (r25:(Int × Unit) × (Zkv × Unit))=>
 Option.bind (Qk8 r25.2.1 w2) fun (r26:(Int × Unit) × (Zkv × Unit))=>
 Option.bind (Qmf r26.2.1 w3) fun (r27:Zpp × (Zkv × Unit))=>
 K r25.1.1 r26.1.1 r27.1.1 r27.2.1)=K (Zot o).1.1 (Zot o).1.2.1 (Zot o).1.2.2 s'∧RS s' (Zot o).2:=by
 obtain ⟨s1,e1,h1⟩:=Qs7 h w1
 obtain ⟨s2,e2,h2⟩:=Qs7 h1 w2
 obtain ⟨s3,e3,h3⟩:=Zk4 h2 w3
 refine ⟨s3,?_,h3⟩
 rw [e1];dsimp only [Option.bind_some]
 rw [e2];dsimp only [Option.bind_some]
 rw [e3];rfl
theorem Z76 (n:Nat) (a b c d e f g j:Int) (tx:ByteArray):∀ (k m:Nat) (s:List Int × IV) (o:Option (List Int)) (acc:List Int),RS s o→k<m→acc.length+k≤1073741824 →
  ∃ s',Qnj n m (k:Int) s.1 s.2 a b c d e f g j tx acc =
   some (((a,b,c,d,e,f,(Z0u k o acc).1,(Zot (Z0u k o acc).2).1.1,(Zot (Z0u k o acc).2).1.2.1,(Zot (Z0u k o acc).2).1.2.2),()),(s',()))∧RS s' (Zot (Z0u k o acc).2).2
 | k,0,s,o,acc,_,h,_=>by omega
 | 0,m+1,s,o,acc,hs,h,hl=>by
  show ∃ s',Qp9 (Qnj n m) ((0:Nat):Int) s.1 s.2 a b c d e f g j tx acc=_∧_
  unfold Qp9
  rw [cdn (by omega)]
  exact Zhb hs _ _ _ (fun x y z w=>some (((a,b,c,d,e,f,acc,x,y,z),()),(w,())))
 | k+1,m+1,s,o,acc,hs,h,hl=>by
  show ∃ s',Qp9 (Qnj n m) ((k+1:Nat):Int) s.1 s.2 a b c d e f g j tx acc=_∧_
  unfold Qp9
  rw [cdp (by omega)]
  cases o with
  | none=>
   obtain ⟨x,hx⟩:=hs.is'
   have e0:(s.1,s.2)=s:=rfl
   rw [hx]
   simp only [IV.isNil,cond_false]
   have:=Zhb hs (⟨#[108,111]⟩:ByteArray) (⟨#[104,105]⟩:ByteArray) (⟨#[116,101,120,116]⟩:ByteArray) (fun x y z w=>some (((a,b,c,d,e,f,acc,x,y,z),()),(w,())))
   have e1:s=(s.1,IV.mk 134 x):=by rw [← hx]
   rw [e1] at this
   exact this
  | some l=>
   obtain ⟨h1,h2⟩:=hs.is'
   obtain ⟨s1,e1,r1⟩:=Qs7 hs (⟨#[115,116,101,112]⟩:ByteArray)
   have e0:s=(s.1,s.2):=rfl
   rw [e0] at e1
   rw [e1]
   rw [h2]
   simp only [IV.isNil,cond_true,Option.bind_some]
   rw [cbp (by omega),Qqd (by omega) (by omega)]
   have ek:((k+1:Nat):Int) - 1=(k:Int):=by omega
   rw [ek]
   exact Z76 n a b c d e f g j tx k m s1 _ _ r1 (by omega) (by rw [List.length_append,List.length_singleton];omega)
theorem Zro (n m:Nat) (v:Int) (w:Bool) (l:List Int) (e:IV) (a b c d x f g j:Int) (tx:ByteArray) (acc:List Int) :
  Qtn n (m+1) v w l e a b c d x f g j tx acc=Qnj n (m+1) v l e a b c d x f g j tx acc:=rfl
def Zow (l:List Int):Qk7 × Option (List Int):=
 let a1:=Qqi (some l);let a2:=Qqi a1.2;let a3:=Qqi a2.2;let a4:=Qqi a3.2;let a5:=Qqi a4.2;let a6:=Qqi a5.2;let a7:=Qqi a6.2
 let p:=if a7.1>64 then ([],none) else Z0u a7.1 a7.2 []
 let e:=Zot p.2
 (((a1.1:Int),(a2.1:Int),(a3.1:Int),(a4.1:Int),(a5.1:Int),(a6.1:Int),p.1,e.1.1,e.1.2.1,e.1.2.2),e.2)
theorem Zk5:∀ (k:Nat) (acc:List Int),Z0u k none acc=(acc,none)
 | 0,_=>rfl
 | _+1,_=>rfl
theorem Zhg:∀ (k:Nat) (o:Option (List Int)) (acc:List Int),(Z0u k o acc).1.length≤acc.length+k
 | 0,o,acc=>by simp [Z0u]
 | k+1,none,acc=>by simp [Z0u]
 | k+1,some l,acc=>by
  have:=Zhg k (Qqi (some l)).2 (acc++[((Qqi (some l)).1:Int)])
  rw [List.length_append,List.length_singleton] at this
  show (Z0u k (Qqi (some l)).2 (acc++[((Qqi (some l)).1:Int)])).1.length≤_
  omega
theorem Zpk (l:List Int):(Zow l).1.pa.length≤64:=by
 unfold Zow Qk7.pa
 dsimp only
 split
 ·simp
 ·rename_i h
  have:=Zhg (Qqi (Qqi (Qqi (Qqi (Qqi (Qqi (Qqi (some l)).2).2).2).2).2).2).1 (Qqi (Qqi (Qqi (Qqi (Qqi (Qqi (Qqi (some l)).2).2).2).2).2).2).2 []
  simp only [List.length_nil] at this
  omega
theorem Zq8 (o:Option (List Int)) (h:∀ l,o=some l→Qki l):(Qqi o).1≤1073741824:=by
 unfold Qqi
 split
 ·simp
 ·rename_i l
  split
  ·simp
  ·rename_i v n hd
   exact (Zlq (h l rfl) hd).2.2.2
theorem RS.byo {s:List Int × IV} {o:Option (List Int)} (h:RS s o):∀ l,o=some l→Qki l:=by
 intro l e;subst e
 obtain ⟨h1,h2⟩:=h.is'
 rw [← h1];exact h.by'
theorem Zmy (l:List Int) (hb:Qki l) (hl:l.length≤1000000000) :
  ∃ s',Z30 (l,IV.nil)=some (((Zow l).1,()),(s',()))∧RS s' (Zow l).2:=by
 have h0:RS (l,IV.nil) (some l):=⟨hb,hl,rfl,rfl⟩
 show ∃ s',Qun (Qnj 1099511627776 1099511627776) (Qtn 1099511627776 1099511627776) (l,IV.nil)=_∧_
 unfold Qun Zow
 dsimp only
 obtain ⟨s1,e1,h1⟩:=Qs7 h0 (⟨#[107,105,110,100]⟩:ByteArray)
 rw [e1];dsimp only [Option.bind_some]
 obtain ⟨s2,e2,h2⟩:=Qs7 h1 (⟨#[102,114,111,109]⟩:ByteArray)
 rw [e2];dsimp only [Option.bind_some]
 obtain ⟨s3,e3,h3⟩:=Qs7 h2 (⟨#[116,111]⟩:ByteArray)
 rw [e3];dsimp only [Option.bind_some]
 obtain ⟨s4,e4,h4⟩:=Qs7 h3 (⟨#[105,110,99]⟩:ByteArray)
 rw [e4];dsimp only [Option.bind_some]
 obtain ⟨s5,e5,h5⟩:=Qs7 h4 (⟨#[101,112,111,99,104]⟩:ByteArray)
 rw [e5];dsimp only [Option.bind_some]
 obtain ⟨s6,e6,h6⟩:=Qs7 h5 (⟨#[97,103,101]⟩:ByteArray)
 rw [e6];dsimp only [Option.bind_some]
 obtain ⟨s7,e7,h7⟩:=Qs7 h6 (⟨#[119,97,121]⟩:ByteArray)
 rw [e7];dsimp only [Option.bind_some]
 generalize hq:Qqi (Qqi (Qqi (Qqi (Qqi (Qqi (Qqi (some l)).2).2).2).2).2).2=q at *
 have hv:q.1≤1073741824:=by rw [← hq];exact Zq8 _ h6.byo
 by_cases hc:q.1>64
 ·rw [cdp (by omega),if_pos hc]
  have hn:RS (s7.1,IV.mk 134 [.str (⟨#[119,97,121]⟩:ByteArray)]) none:=⟨h7.by',h7.len,_,rfl⟩
  have:=Z76 1099511627776 ((Qqi (some l)).1:Int) ((Qqi (Qqi (some l)).2).1:Int) ((Qqi (Qqi (Qqi (some l)).2).2).1:Int) ((Qqi (Qqi (Qqi (Qqi (some l)).2).2).2).1:Int) ((Qqi (Qqi (Qqi (Qqi (Qqi (some l)).2).2).2).2).1:Int) ((Qqi (Qqi (Qqi (Qqi (Qqi (Qqi (some l)).2).2).2).2).2).1:Int) 0 0 (⟨#[]⟩:ByteArray) q.1 1099511627776 _ none [] hn (by omega) (by simp;omega)
  rw [Zk5] at this
  exact this
 ·rw [cdn (by omega),if_neg hc,Zro 1099511627776 1099511627775]
  exact Z76 1099511627776 ((Qqi (some l)).1:Int) ((Qqi (Qqi (some l)).2).1:Int) ((Qqi (Qqi (Qqi (some l)).2).2).1:Int) ((Qqi (Qqi (Qqi (Qqi (some l)).2).2).2).1:Int) ((Qqi (Qqi (Qqi (Qqi (Qqi (some l)).2).2).2).2).1:Int) ((Qqi (Qqi (Qqi (Qqi (Qqi (Qqi (some l)).2).2).2).2).2).1:Int) 0 0 (⟨#[]⟩:ByteArray) q.1 1099511627776 s7 q.2 [] h7 (by omega) (by simp;omega)
end Go.PE
