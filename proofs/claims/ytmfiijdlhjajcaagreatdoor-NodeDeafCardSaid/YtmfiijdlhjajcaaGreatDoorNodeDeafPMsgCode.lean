/-
  Plain lemmas on the functions.
  Conditions: none.
-/
import Derived.Test.YtmfiijdlhjajcaaGreatDoorNodeDeafPMsg
set_option linter.unusedVariables false
set_option linter.unusedSimpArgs false
set_option maxRecDepth 20000
namespace Go.PE
theorem Zk5:∀ (p s:List Int),Zcf s p=true→∀ x∈p,1≤x∧x≤8
 | [],_,_,x,hx=>by cases hx
 | y::r,s,h,x,hx=>by
  unfold Zcf at h
  rw [Bool.and_eq_true,Bool.and_eq_true] at h
  rcases List.mem_cons.1 hx with rfl | hx
  ·exact Qkm.1 h.1.1
  ·exact Zk5 r _ h.2 x hx
theorem Qop {p:List Int} (h:Qpn p=true):p.length≤10∧∀ x∈p,1≤x∧x≤8:=by
 unfold Qpn at h
 simp only [Bool.and_eq_true,decide_eq_true_eq] at h
 exact ⟨h.2.1,Zk5 p [] h.2.2.2⟩
structure OkM (m:Qk7):Prop where
 kd:1≤m.kd∧m.kd≤9
 fr:1≤m.fr∧m.fr≤8
 to:1≤m.to∧m.to≤8
 inc:1≤m.inc∧m.inc≤1073741824
 ep:0≤m.ep∧m.ep≤1073741824
 ag:0≤m.ag∧m.ag≤1073741824
 pl:m.pa.length≤10
 pa:∀ x∈m.pa,1≤x∧x≤8
 lo:0≤m.lo∧m.lo≤1000000
 hi:0≤m.hi∧m.hi≤1000000
 tx:m.tx.size≤12
theorem Qz1 {m:Qk7} (h:Zg9 m=true):OkM m:=by
 unfold Zg9 at h
 simp only [Bool.and_eq_true,bne_iff_ne] at h
 obtain ⟨h1,⟨h2,h3⟩,h4,h5,h6⟩:=h
 have eb0:eb.size=0:=rfl
 obtain ⟨kd,fr,to,inc,ep,ag,pa,lo,hi,tx⟩:=m
 unfold Qxu at h6
 by_cases k2:kd=2
 ·rw [if_pos k2] at h6
  simp only [Bool.and_eq_true,Qwz,Prod.mk.injEq,Qk7.ep,Qk7.ag,Qk7.pa,Qk7.lo,Qk7.hi] at h6
  obtain ⟨⟨a1,a2⟩,a3,a4,a5⟩:=h6
  have ⟨p1,p2⟩:=Qop a3
  have e9:=a5.2.2.2.2.2.2.2.2.1;have e10:=a5.2.2.2.2.2.2.2.2.2
  exact ⟨Qkm.1 h1,Qkm.1 h2,Qkm.1 h3,Qkm.1 h5,Qkm.1 a1,Qkm.1 a2,p1,p2,Qkm.1 a4,by show 0≤hi∧hi≤1000000;omega,by show tx.size≤12;rw [e10,eb0];omega⟩
 rw [if_neg k2] at h6
 by_cases k5:kd=5
 ·rw [if_pos k5] at h6
  simp only [Bool.and_eq_true,Qwz,Prod.mk.injEq,Qk7.ep,Qk7.ag,Qk7.pa,Qk7.lo,Qk7.hi] at h6
  obtain ⟨⟨a1,a2⟩,a3,a4,a5⟩:=h6
  have ⟨p1,p2⟩:=Qop a3
  have e8:=a5.2.2.2.2.2.2.2.1;have e10:=a5.2.2.2.2.2.2.2.2.2
  exact ⟨Qkm.1 h1,Qkm.1 h2,Qkm.1 h3,Qkm.1 h5,Qkm.1 a1,Qkm.1 a2,p1,p2,by show 0≤lo∧lo≤1000000;omega,Qkm.1 a4,by show tx.size≤12;rw [e10,eb0];omega⟩
 rw [if_neg k5] at h6
 by_cases k7:kd=7
 ·rw [if_pos k7] at h6
  simp only [Bool.and_eq_true,Qwz,Prod.mk.injEq,Qk7.ep,Qk7.ag,Qk7.pa,Qk7.lo,Qk7.hi,Qk7.tx,decide_eq_true_eq] at h6
  obtain ⟨a1,a2,a5⟩:=h6
  have a1:=Qkm.1 a1
  have e5:=a5.2.2.2.2.1;have e6:=a5.2.2.2.2.2.1;have e7:=a5.2.2.2.2.2.2.1;have e9:=a5.2.2.2.2.2.2.2.2.1
  subst e7
  exact ⟨Qkm.1 h1,Qkm.1 h2,Qkm.1 h3,Qkm.1 h5,by show 0≤ep∧ep≤_;omega,by show 0≤ag∧ag≤_;omega,by simp [Qk7.pa],by intro x hx;simp [Qk7.pa] at hx,by show 0≤lo∧lo≤1000000;omega,by show 0≤hi∧hi≤_;omega,by show tx.size≤12;have a2:(tx.size:Int)≤12:=of_decide_eq_true a2;omega⟩
 rw [if_neg k7] at h6
 by_cases k8:kd=8∨kd=9
 ·rw [if_pos k8] at h6
  simp only [Bool.and_eq_true,Qwz,Prod.mk.injEq,Qk7.ep,Qk7.ag,Qk7.pa,Qk7.lo,Qk7.hi,Qk7.tx,decide_eq_true_eq] at h6
  obtain ⟨a0,⟨a1,a2⟩,a5⟩:=h6
  have a1:=Qkm.1 a1;have a2:=Qkm.1 a2
  have e5:=a5.2.2.2.2.1;have e6:=a5.2.2.2.2.2.1;have e7:=a5.2.2.2.2.2.2.1;have e10:=a5.2.2.2.2.2.2.2.2.2
  subst e7
  exact ⟨Qkm.1 h1,Qkm.1 h2,Qkm.1 h3,Qkm.1 h5,by show 0≤ep∧ep≤_;omega,by show 0≤ag∧ag≤_;omega,by simp [Qk7.pa],by intro x hx;simp [Qk7.pa] at hx,by show 0≤lo∧lo≤1000000;omega,by show 0≤hi∧hi≤_;omega,by show tx.size≤12;rw [e10,eb0];omega⟩
 rw [if_neg k8] at h6
 simp only [Qwz,Prod.mk.injEq] at h6
 have e5:=h6.2.2.2.2.1;have e6:=h6.2.2.2.2.2.1;have e7:=h6.2.2.2.2.2.2.1;have e8:=h6.2.2.2.2.2.2.2.1;have e9:=h6.2.2.2.2.2.2.2.2.1;have e10:=h6.2.2.2.2.2.2.2.2.2
 subst e7
 exact ⟨Qkm.1 h1,Qkm.1 h2,Qkm.1 h3,Qkm.1 h5,by show 0≤ep∧ep≤_;omega,by show 0≤ag∧ag≤_;omega,by simp [Qk7.pa],by intro x hx;simp [Qk7.pa] at hx,by show 0≤lo∧lo≤1000000;omega,by show 0≤hi∧hi≤_;omega,by show tx.size≤12;rw [e10,eb0];omega⟩
def Zek (x:Int):List Int:=enc x.toNat
def Zde:List Int→List Int
 | []=>[]
 | x::r=>Zek x++Zde r
theorem Zc3:∀ (a b:List Int),Zde (a++b)=Zde a++Zde b
 | [],b=>rfl
 | x::r,b=>by show Zek x++Zde (r++b)=_;rw [Zc3 r b,← List.append_assoc];rfl
theorem Zgf:∀ (a:List Int),(Zde a).length≤10*a.length
 | []=>by simp [Zde]
 | x::r=>by
  show (Zek x++Zde r).length≤_
  rw [List.length_append,List.length_cons]
  have:=Zgf r;have:=Qvj x.toNat
  unfold Zek
  omega
theorem Zjn:∀ (a:List Int),Qk9 (Zde a)
 | []=>by intro x hx;cases hx
 | x::r=>Qpa.2 ⟨Zcd _,Zjn r⟩
def Zbx (m:Qk7):List Int:=([m.kd,m.fr,m.to,m.inc,m.ep,m.ag,(m.pa.length:Int)]++m.pa)++[m.lo,m.hi]
def body (m:Qk7):List Int:=Zde (Zbx m)++Zc8 (Qvz m.tx)
def Qtk (m:Qk7):List Int:=if Zg9 m=true then body m++Z0n (Zj8 (body m)) else []
theorem Zds {t:List Int} (h:Qk9 t):Qk9 (Zc8 t):=Qpa.2 ⟨Zcd _,h⟩
theorem Z96 (m:Qk7):Qk9 (body m):=Qpa.2 ⟨Zjn _,Zds (Z60 _)⟩
theorem OkM.nums {m:Qk7} (h:OkM m):(Zbx m).length=m.pa.length+9∧∀ x∈Zbx m,0≤x∧x≤1073741824:=by
 refine ⟨by simp [Zbx,Qk7.pa],?_⟩
 intro x hx
 unfold Zbx at hx
 simp only [List.mem_append,List.mem_cons,List.not_mem_nil,or_false] at hx
 have:=h.kd;have:=h.fr;have:=h.to;have:=h.inc;have:=h.ep;have:=h.ag;have:=h.pl;have:=h.lo;have:=h.hi
 rcases hx with (hx | hx) | hx
 ·omega
 ·have:=h.pa x hx;omega
 ·omega
theorem OkM.body_len {m:Qk7} (h:OkM m):(body m).length≤1000:=by
 unfold body Zc8
 rw [List.length_append,List.length_append]
 have h1:=Zgf (Zbx m);have h2:=h.nums.1;have h3:=Qvj (Qvz m.tx).length;have h4:=Qrp m.tx
 have:=h.pl;have:=h.tx
 omega
theorem Zdf (m:Qk7):Qk9 (Qtk m):=by
 unfold Qtk;split
 ·exact Qpa.2 ⟨Z96 m,Zoe _⟩
 ·intro x hx;cases hx
theorem Z1w (s:Nat):(Z0n s).length=4:=rfl
theorem Zlg (m:Qk7):(Qtk m).length≤1004:=by
 unfold Qtk;split
 ·rename_i h;have:=(Qz1 h).body_len;rw [List.length_append,Z1w];omega
 ·simp
theorem Zem (n:Nat) (tx:ByteArray) (ht:tx.size≤100) (l:List Int) (hl:∀ x∈l,0≤x∧x≤1073741824) (h6:l.length≤1000) (a b c d e f:Int) (p:List Int) (g j:Int):∀ (k m i:Nat) (xs:List Int),Qk9 xs→i+k=l.length→k<m→xs.length+10*k≤100000 →
  Z0j n m (l.length:Int) (i:Int) a b c d e f p g j tx xs l=some ((xs++Zde (l.drop i)++Zc8 (Qvz tx)++Z0n (Zj8 (xs++Zde (l.drop i)++Zc8 (Qvz tx))),()),())
 | k,0,i,xs,_,_,h,_=>by omega
 | 0,m+1,i,xs,hb,hk,h,hx=>by
  show Z0g (Z0j n m) (l.length:Int) (i:Int) a b c d e f p g j tx xs l=_
  unfold Z0g
  have hlen:(xs++Zc8 (Qvz tx)).length≤200000:=by
   unfold Zc8
   rw [List.length_append,List.length_append];have:=Qvj (Qvz tx).length;have:=Qrp tx;omega
  have hby:Qk9 (xs++Zc8 (Qvz tx)):=Qpa.2 ⟨hb,Zds (Z60 _)⟩
  have e0:xs++(enc tx.size++Qvz tx)=xs++Zc8 (Qvz tx):=by unfold Zc8;rw [Qrp]
  rw [cdn (by omega),Zfx xs tx (by omega) (by omega),List.drop_eq_nil_of_le (by omega),e0]
  dsimp only [Option.bind_some]
  rw [Zt4 _ hby (by omega)]
  dsimp only [Option.bind_some]
  rw [cbp (by omega),Zp0 (Zkz hby)]
  simp only [Zde,List.append_nil]
 | k+1,m+1,i,xs,hb,hk,h,hx=>by
  show Z0g (Z0j n m) (l.length:Int) (i:Int) a b c d e f p g j tx xs l=_
  unfold Z0g
  have hi:i<l.length:=by omega
  have hv:=hl l[i] (List.getElem_mem hi)
  rw [cdp (by omega),Z9t,cdp (by omega),cdp (by omega),Z9t,cdp (by omega),cdp (by omega),Qkl,Qms hi,List.drop_eq_getElem_cons hi]
  generalize l[i]=x at *
  obtain ⟨x,rfl⟩:∃ y:Nat,x=(y:Int):=⟨x.toNat,by omega⟩
  rw [Zez xs x (by omega) (by omega)]
  dsimp only [Option.bind_some]
  have:=Qvj x
  rw [Qwl (by omega),Zem n tx ht l hl h6 a b c d e f p g j k m (i+1) (xs++enc x) (Qpa.2 ⟨hb,Zcd x⟩) (by omega) (by omega) (by rw [List.length_append];omega)]
  have e1:xs++enc x++Zde (l.drop (i+1))=xs++Zde ((x:Int)::l.drop (i+1)):=by rw [List.append_assoc];rfl
  rw [e1]
theorem Zo6 (m:Qk7) (h6:m.pa.length≤1000000000):Znt m=some ((Qtk m,()),()):=by
 show Zdc (Z0j 1099511627776 1099511627776) m=_
 unfold Zdc
 rw [Zof m h6]
 dsimp only [Option.bind_some]
 unfold Qtk
 cases hm:Zg9 m with
 | false=>rfl
 | true=>
  have ho:=Qz1 hm
  have hp:m.2.2.2.2.2.2.1.length≤10:=ho.pl
  have h1:=Zem 1099511627776 m.tx (by have:=ho.tx;omega) (Zbx m) ho.nums.2 (by have:=ho.nums.1;have:=ho.pl;omega) m.1 m.2.1 m.2.2.1 m.2.2.2.1 m.2.2.2.2.1 m.2.2.2.2.2.1 m.2.2.2.2.2.2.1 m.2.2.2.2.2.2.2.1 m.2.2.2.2.2.2.2.2.1 (Zbx m).length 1099511627776 0 [] (by intro x hx;cases hx) (by omega) (by have:=ho.nums.1;have:=ho.pl;omega) (by have:=ho.nums.1;have:=ho.pl;simp;omega)
  rw [nt,if_pos rfl]
  simp only [cond_false]
  rw [cbp (by omega),cbp (by rw [List.length_append];simp;omega)]
  rw [List.drop_zero] at h1
  exact h1
def Qmh (o:Option (List Int)):Nat × Option (List Int):=
 match o with
 | none=>(0,none)
 | some l=>match dec l with
  | none=>(0,none)
  | some (v,n)=>(v,some (l.drop n))
def Zj7 (o:Option (List Int)):ByteArray × Option (List Int):=
 match o with
 | none=>(⟨#[]⟩,none)
 | some l=>match Zpl l with
  | none=>(⟨#[]⟩,none)
  | some (t,n)=>(Q5g t,some (l.drop n))
def Qrr:Nat→Option (List Int)→List Int→List Int × Option (List Int)
 | 0,o,acc=>(acc,o)
 | k+1,none,acc=>(acc,none)
 | k+1,some l,acc=>Qrr k (Qmh (some l)).2 (acc++[((Qmh (some l)).1:Int)])
structure RS (s:List Int × IV) (o:Option (List Int)):Prop where
 by':Qk9 s.1
 len:s.1.length≤1000000000
 is':match o with | some l=>s.1=l∧s.2=IV.nil | none=>∃ a,s.2=IV.mk 134 a
theorem Qsm {s:List Int × IV} {o:Option (List Int)} (h:RS s o) (what:ByteArray) :
  ∃ s',Qka s what=some ((((Qmh o).1:Int),()),(s',()))∧RS s' (Qmh o).2:=by
 obtain ⟨hb,hl,hs⟩:=h
 obtain ⟨l,e⟩:=s
 cases o with
 | none=>
  obtain ⟨a,rfl⟩:=hs
  exact ⟨_,rfl,hb,hl,a,rfl⟩
 | some l'=>
  obtain ⟨h1,h2⟩:=hs
  simp only at h1 h2 hb hl
  subst h1 h2
  have eT:=Zc9 l hb (by omega)
  have e1:((l.length:Int)).toNat=l.length:=rfl
  unfold Qka Qmh
  dsimp only [IV.isNil]
  cases hd:dec l with
  | none=>
   rw [hd,Zmw] at eT
   rw [eT]
   dsimp only [Option.bind_some,nt,nf,cond_false,cond_true]
   rw [Z9t,Z9t]
   rw [cdp (by omega),cdp (by omega),cdp (by omega)]
   refine ⟨_,rfl,?_,?_,?_⟩
   ·rw [e1,List.take_length];exact hb
   ·rw [e1,List.take_length];exact hl
   ·exact ⟨_,rfl⟩
  | some p=>
   obtain ⟨v,n⟩:=p
   obtain ⟨h0,h1,h2,h3⟩:=Zjt hb hd
   rw [hd,Zlm] at eT
   rw [eT]
   dsimp only [Option.bind_some,nt,nf,cond_false,cond_true]
   rw [Z9t,Z9t]
   rw [cdp (by omega),cdp (by omega),cdp (by omega),e1,List.take_length,Qkl]
   exact ⟨_,rfl,Qvd hb n,by simp only [List.length_drop];omega,rfl,rfl⟩
theorem Znl {s:List Int × IV} {o:Option (List Int)} (h:RS s o) (what:ByteArray) :
  ∃ s',Qmd s what=some (((Zj7 o).1,()),(s',()))∧RS s' (Zj7 o).2:=by
 obtain ⟨hb,hl,hs⟩:=h
 obtain ⟨l,e⟩:=s
 cases o with
 | none=>
  obtain ⟨a,rfl⟩:=hs
  exact ⟨_,rfl,hb,hl,a,rfl⟩
 | some l'=>
  obtain ⟨h1,h2⟩:=hs
  simp only at h1 h2 hb hl
  subst h1 h2
  have eT:=Ze8 l hb (by omega)
  have e1:((l.length:Int)).toNat=l.length:=rfl
  unfold Qmd Zj7
  dsimp only [IV.isNil]
  cases hd:Zpl l with
  | none=>
   rw [hd,Zk7] at eT
   rw [eT]
   dsimp only [Option.bind_some,nt,nf,cond_false,cond_true]
   rw [Z9t,Z9t]
   rw [cdp (by omega),cdp (by omega),cdp (by omega)]
   refine ⟨_,rfl,?_,?_,?_⟩
   ·rw [e1,List.take_length];exact hb
   ·rw [e1,List.take_length];exact hl
   ·exact ⟨_,rfl⟩
  | some p=>
   obtain ⟨t,n⟩:=p
   obtain ⟨h0,h1,h2⟩:=Zr1 hb hd
   rw [hd,Zju] at eT
   rw [eT]
   dsimp only [Option.bind_some,nt,nf,cond_false,cond_true]
   rw [Z9t,Z9t]
   rw [cdp (by omega),cdp (by omega),cdp (by omega),e1,List.take_length,Qkl]
   exact ⟨_,rfl,Qvd hb n,by simp only [List.length_drop];omega,rfl,rfl⟩
def Zir (o:Option (List Int)):(Int × Int × ByteArray) × Option (List Int):=
 let a:=Qmh o;let b:=Qmh a.2;let t:=Zj7 b.2
 (((a.1:Int),(b.1:Int),t.1),t.2)
theorem Zk3 {s:List Int × IV} {o:Option (List Int)} (h:RS s o) (w1 w2 w3:ByteArray) {R:Type} (K:Int→Int→ByteArray→(List Int × IV)→Option R) :
  ∃ s',(Option.bind (Qka s w1) fun (r25:(Int × Unit) × (Zoa × Unit))=>
 Option.bind (Qka r25.2.1 w2) fun (r26:(Int × Unit) × (Zoa × Unit))=>
 Option.bind (Qmd r26.2.1 w3) fun (r27:Zpd × (Zoa × Unit))=>
 K r25.1.1 r26.1.1 r27.1.1 r27.2.1)=K (Zir o).1.1 (Zir o).1.2.1 (Zir o).1.2.2 s'∧RS s' (Zir o).2:=by
 obtain ⟨s1,e1,h1⟩:=Qsm h w1
 obtain ⟨s2,e2,h2⟩:=Qsm h1 w2
 obtain ⟨s3,e3,h3⟩:=Znl h2 w3
 refine ⟨s3,?_,h3⟩
 rw [e1];dsimp only [Option.bind_some]
 rw [e2];dsimp only [Option.bind_some]
 rw [e3];rfl
theorem Z8t (n:Nat) (a b c d e f g j:Int) (tx:ByteArray):∀ (k m:Nat) (s:List Int × IV) (o:Option (List Int)) (acc:List Int),RS s o→k<m→acc.length+k≤1073741824 →
  ∃ s',Qnh n m (k:Int) s.1 s.2 a b c d e f g j tx acc =
   some (((a,b,c,d,e,f,(Qrr k o acc).1,(Zir (Qrr k o acc).2).1.1,(Zir (Qrr k o acc).2).1.2.1,(Zir (Qrr k o acc).2).1.2.2),()),(s',()))∧RS s' (Zir (Qrr k o acc).2).2
 | k,0,s,o,acc,_,h,_=>by omega
 | 0,m+1,s,o,acc,hs,h,hl=>by
  show ∃ s',Qpj (Qnh n m) ((0:Nat):Int) s.1 s.2 a b c d e f g j tx acc=_∧_
  unfold Qpj
  rw [cdn (by omega)]
  exact Zk3 hs _ _ _ (fun x y z w=>some (((a,b,c,d,e,f,acc,x,y,z),()),(w,())))
 | k+1,m+1,s,o,acc,hs,h,hl=>by
  show ∃ s',Qpj (Qnh n m) ((k+1:Nat):Int) s.1 s.2 a b c d e f g j tx acc=_∧_
  unfold Qpj
  rw [cdp (by omega)]
  cases o with
  | none=>
   obtain ⟨x,hx⟩:=hs.is'
   have e0:(s.1,s.2)=s:=rfl
   rw [hx]
   simp only [IV.isNil,cond_false]
   have:=Zk3 hs (⟨#[108,111]⟩:ByteArray) (⟨#[104,105]⟩:ByteArray) (⟨#[116,101,120,116]⟩:ByteArray) (fun x y z w=>some (((a,b,c,d,e,f,acc,x,y,z),()),(w,())))
   have e1:s=(s.1,IV.mk 134 x):=by rw [← hx]
   rw [e1] at this
   exact this
  | some l=>
   obtain ⟨h1,h2⟩:=hs.is'
   obtain ⟨s1,e1,r1⟩:=Qsm hs (⟨#[115,116,101,112]⟩:ByteArray)
   have e0:s=(s.1,s.2):=rfl
   rw [e0] at e1
   rw [e1]
   rw [h2]
   simp only [IV.isNil,cond_true,Option.bind_some]
   rw [cbp (by omega),Qsk (by omega) (by omega)]
   have ek:((k+1:Nat):Int) - 1=(k:Int):=by omega
   rw [ek]
   exact Z8t n a b c d e f g j tx k m s1 _ _ r1 (by omega) (by rw [List.length_append,List.length_singleton];omega)
theorem Ztj (n m:Nat) (v:Int) (w:Bool) (l:List Int) (e:IV) (a b c d x f g j:Int) (tx:ByteArray) (acc:List Int) :
  Qtp n (m+1) v w l e a b c d x f g j tx acc=Qnh n (m+1) v l e a b c d x f g j tx acc:=rfl
def Zra (l:List Int):Qk7 × Option (List Int):=
 let a1:=Qmh (some l);let a2:=Qmh a1.2;let a3:=Qmh a2.2;let a4:=Qmh a3.2;let a5:=Qmh a4.2;let a6:=Qmh a5.2;let a7:=Qmh a6.2
 let p:=if a7.1>64 then ([],none) else Qrr a7.1 a7.2 []
 let e:=Zir p.2
 (((a1.1:Int),(a2.1:Int),(a3.1:Int),(a4.1:Int),(a5.1:Int),(a6.1:Int),p.1,e.1.1,e.1.2.1,e.1.2.2),e.2)
theorem Znp:∀ (k:Nat) (acc:List Int),Qrr k none acc=(acc,none)
 | 0,_=>rfl
 | _+1,_=>rfl
theorem Zke:∀ (k:Nat) (o:Option (List Int)) (acc:List Int),(Qrr k o acc).1.length≤acc.length+k
 | 0,o,acc=>by simp [Qrr]
 | k+1,none,acc=>by simp [Qrr]
 | k+1,some l,acc=>by
  have:=Zke k (Qmh (some l)).2 (acc++[((Qmh (some l)).1:Int)])
  rw [List.length_append,List.length_singleton] at this
  show (Qrr k (Qmh (some l)).2 (acc++[((Qmh (some l)).1:Int)])).1.length≤_
  omega
theorem Zrc (l:List Int):(Zra l).1.pa.length≤64:=by
 unfold Zra Qk7.pa
 dsimp only
 split
 ·simp
 ·rename_i h
  have:=Zke (Qmh (Qmh (Qmh (Qmh (Qmh (Qmh (Qmh (some l)).2).2).2).2).2).2).1 (Qmh (Qmh (Qmh (Qmh (Qmh (Qmh (Qmh (some l)).2).2).2).2).2).2).2 []
  simp only [List.length_nil] at this
  omega
theorem Zqn (o:Option (List Int)) (h:∀ l,o=some l→Qk9 l):(Qmh o).1≤1073741824:=by
 unfold Qmh
 split
 ·simp
 ·rename_i l
  split
  ·simp
  ·rename_i v n hd
   exact (Zjt (h l rfl) hd).2.2.2
theorem RS.byo {s:List Int × IV} {o:Option (List Int)} (h:RS s o):∀ l,o=some l→Qk9 l:=by
 intro l e;subst e
 obtain ⟨h1,h2⟩:=h.is'
 rw [← h1];exact h.by'
theorem Zpx (l:List Int) (hb:Qk9 l) (hl:l.length≤1000000000) :
  ∃ s',Z3q (l,IV.nil)=some (((Zra l).1,()),(s',()))∧RS s' (Zra l).2:=by
 have h0:RS (l,IV.nil) (some l):=⟨hb,hl,rfl,rfl⟩
 show ∃ s',Qux (Qnh 1099511627776 1099511627776) (Qtp 1099511627776 1099511627776) (l,IV.nil)=_∧_
 unfold Qux Zra
 dsimp only
 obtain ⟨s1,e1,h1⟩:=Qsm h0 (⟨#[107,105,110,100]⟩:ByteArray)
 rw [e1];dsimp only [Option.bind_some]
 obtain ⟨s2,e2,h2⟩:=Qsm h1 (⟨#[102,114,111,109]⟩:ByteArray)
 rw [e2];dsimp only [Option.bind_some]
 obtain ⟨s3,e3,h3⟩:=Qsm h2 (⟨#[116,111]⟩:ByteArray)
 rw [e3];dsimp only [Option.bind_some]
 obtain ⟨s4,e4,h4⟩:=Qsm h3 (⟨#[105,110,99]⟩:ByteArray)
 rw [e4];dsimp only [Option.bind_some]
 obtain ⟨s5,e5,h5⟩:=Qsm h4 (⟨#[101,112,111,99,104]⟩:ByteArray)
 rw [e5];dsimp only [Option.bind_some]
 obtain ⟨s6,e6,h6⟩:=Qsm h5 (⟨#[97,103,101]⟩:ByteArray)
 rw [e6];dsimp only [Option.bind_some]
 obtain ⟨s7,e7,h7⟩:=Qsm h6 (⟨#[119,97,121]⟩:ByteArray)
 rw [e7];dsimp only [Option.bind_some]
 generalize hq:Qmh (Qmh (Qmh (Qmh (Qmh (Qmh (Qmh (some l)).2).2).2).2).2).2=q at *
 have hv:q.1≤1073741824:=by rw [← hq];exact Zqn _ h6.byo
 by_cases hc:q.1>64
 ·rw [cdp (by omega),if_pos hc]
  have hn:RS (s7.1,IV.mk 134 [.str (⟨#[119,97,121]⟩:ByteArray)]) none:=⟨h7.by',h7.len,_,rfl⟩
  have:=Z8t 1099511627776 ((Qmh (some l)).1:Int) ((Qmh (Qmh (some l)).2).1:Int) ((Qmh (Qmh (Qmh (some l)).2).2).1:Int) ((Qmh (Qmh (Qmh (Qmh (some l)).2).2).2).1:Int) ((Qmh (Qmh (Qmh (Qmh (Qmh (some l)).2).2).2).2).1:Int) ((Qmh (Qmh (Qmh (Qmh (Qmh (Qmh (some l)).2).2).2).2).2).1:Int) 0 0 (⟨#[]⟩:ByteArray) q.1 1099511627776 _ none [] hn (by omega) (by simp;omega)
  rw [Znp] at this
  exact this
 ·rw [cdn (by omega),if_neg hc,Ztj 1099511627776 1099511627775]
  exact Z8t 1099511627776 ((Qmh (some l)).1:Int) ((Qmh (Qmh (some l)).2).1:Int) ((Qmh (Qmh (Qmh (some l)).2).2).1:Int) ((Qmh (Qmh (Qmh (Qmh (some l)).2).2).2).1:Int) ((Qmh (Qmh (Qmh (Qmh (Qmh (some l)).2).2).2).2).1:Int) ((Qmh (Qmh (Qmh (Qmh (Qmh (Qmh (some l)).2).2).2).2).2).1:Int) 0 0 (⟨#[]⟩:ByteArray) q.1 1099511627776 s7 q.2 [] h7 (by omega) (by simp;omega)
end Go.PE
