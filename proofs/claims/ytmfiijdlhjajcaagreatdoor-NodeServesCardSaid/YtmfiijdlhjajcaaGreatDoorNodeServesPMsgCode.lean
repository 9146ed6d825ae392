/-
  Plain lemmas on the functions.
  Conditions: none.
-/
import Derived.Test.YtmfiijdlhjajcaaGreatDoorNodeServesPMsg
set_option linter.unusedVariables false
set_option linter.unusedSimpArgs false
set_option maxRecDepth 20000
namespace Go.PE
theorem Zib:∀ (p s:List Int),Zdf s p=true→∀ x∈p,1≤x∧x≤8
 | [],_,_,x,hx=>by cases hx
 | y::r,s,h,x,hx=>by
  unfold Zdf at h
  rw [Bool.and_eq_true,Bool.and_eq_true] at h
  rcases List.mem_cons.1 hx with rfl | hx
  ·exact Qki.1 h.1.1
  ·exact Zib r _ h.2 x hx
theorem Qp3 {p:List Int} (h:Qpk p=true):p.length≤10∧∀ x∈p,1≤x∧x≤8:=by
 unfold Qpk at h
 simp only [Bool.and_eq_true,decide_eq_true_eq] at h
 exact ⟨h.2.1,Zib p [] h.2.2.2⟩
structure OkM (m:Qk7):Prop where
 kd:1≤m.kd∧m.kd≤9
 fr:1≤m.fr∧m.fr≤8
 to:1≤m.to∧m.to≤8
 inc:1≤m.inc∧m.inc≤1073741824
 ep:0≤m.ep∧m.ep≤1073741824
 ag:0≤m.ag∧m.ag≤1073741824
 pl:m.pa.length≤10
 pa:∀ x∈m.pa,1≤x∧x≤8
 lo:0≤m.lo∧m.lo≤1000000
 hi:0≤m.hi∧m.hi≤1000000
 tx:m.tx.size≤12
theorem Zbe {m:Qk7} (h:Zhn m=true):OkM m:=by
 unfold Zhn at h
 simp only [Bool.and_eq_true,bne_iff_ne] at h
 obtain ⟨h1,⟨h2,h3⟩,h4,h5,h6⟩:=h
 have eb0:eb.size=0:=rfl
 obtain ⟨kd,fr,to,inc,ep,ag,pa,lo,hi,tx⟩:=m
 unfold Qvq at h6
 by_cases k2:kd=2
 ·rw [if_pos k2] at h6
  simp only [Bool.and_eq_true,Qwo,Prod.mk.injEq,Qk7.ep,Qk7.ag,Qk7.pa,Qk7.lo,Qk7.hi] at h6
  obtain ⟨⟨a1,a2⟩,a3,a4,a5⟩:=h6
  have ⟨p1,p2⟩:=Qp3 a3
  have e9:=a5.2.2.2.2.2.2.2.2.1;have e10:=a5.2.2.2.2.2.2.2.2.2
  exact ⟨Qki.1 h1,Qki.1 h2,Qki.1 h3,Qki.1 h5,Qki.1 a1,Qki.1 a2,p1,p2,Qki.1 a4,by show 0≤hi∧hi≤1000000;omega,by show tx.size≤12;rw [e10,eb0];omega⟩
 rw [if_neg k2] at h6
 by_cases k5:kd=5
 ·rw [if_pos k5] at h6
  simp only [Bool.and_eq_true,Qwo,Prod.mk.injEq,Qk7.ep,Qk7.ag,Qk7.pa,Qk7.lo,Qk7.hi] at h6
  obtain ⟨⟨a1,a2⟩,a3,a4,a5⟩:=h6
  have ⟨p1,p2⟩:=Qp3 a3
  have e8:=a5.2.2.2.2.2.2.2.1;have e10:=a5.2.2.2.2.2.2.2.2.2
  exact ⟨Qki.1 h1,Qki.1 h2,Qki.1 h3,Qki.1 h5,Qki.1 a1,Qki.1 a2,p1,p2,by show 0≤lo∧lo≤1000000;omega,Qki.1 a4,by show tx.size≤12;rw [e10,eb0];omega⟩
 rw [if_neg k5] at h6
 by_cases k7:kd=7
 ·rw [if_pos k7] at h6
  simp only [Bool.and_eq_true,Qwo,Prod.mk.injEq,Qk7.ep,Qk7.ag,Qk7.pa,Qk7.lo,Qk7.hi,Qk7.tx,decide_eq_true_eq] at h6
  obtain ⟨a1,a2,a5⟩:=h6
  have a1:=Qki.1 a1
  have e5:=a5.2.2.2.2.1;have e6:=a5.2.2.2.2.2.1;have e7:=a5.2.2.2.2.2.2.1;have e9:=a5.2.2.2.2.2.2.2.2.1
  subst e7
  exact ⟨Qki.1 h1,Qki.1 h2,Qki.1 h3,Qki.1 h5,by show 0≤ep∧ep≤_;omega,by show 0≤ag∧ag≤_;omega,by simp [Qk7.pa],by intro x hx;simp [Qk7.pa] at hx,by show 0≤lo∧lo≤1000000;omega,by show 0≤hi∧hi≤_;omega,by show tx.size≤12;have a2:(tx.size:Int)≤12:=of_decide_eq_true a2;omega⟩
 rw [if_neg k7] at h6
 by_cases k8:kd=8∨kd=9
 ·rw [if_pos k8] at h6
  simp only [Bool.and_eq_true,Qwo,Prod.mk.injEq,Qk7.ep,Qk7.ag,Qk7.pa,Qk7.lo,Qk7.hi,Qk7.tx,decide_eq_true_eq] at h6
  obtain ⟨a0,⟨a1,a2⟩,a5⟩:=h6
  have a1:=Qki.1 a1;have a2:=Qki.1 a2
  have e5:=a5.2.2.2.2.1;have e6:=a5.2.2.2.2.2.1;have e7:=a5.2.2.2.2.2.2.1;have e10:=a5.2.2.2.2.2.2.2.2.2
  subst e7
  exact ⟨Qki.1 h1,Qki.1 h2,Qki.1 h3,Qki.1 h5,by show 0≤ep∧ep≤_;omega,by show 0≤ag∧ag≤_;omega,by simp [Qk7.pa],by intro x hx;simp [Qk7.pa] at hx,by show 0≤lo∧lo≤1000000;omega,by show 0≤hi∧hi≤_;omega,by show tx.size≤12;rw [e10,eb0];omega⟩
 rw [if_neg k8] at h6
 simp only [Qwo,Prod.mk.injEq] at h6
 have e5:=h6.2.2.2.2.1;have e6:=h6.2.2.2.2.2.1;have e7:=h6.2.2.2.2.2.2.1;have e8:=h6.2.2.2.2.2.2.2.1;have e9:=h6.2.2.2.2.2.2.2.2.1;have e10:=h6.2.2.2.2.2.2.2.2.2
 subst e7
 exact ⟨Qki.1 h1,Qki.1 h2,Qki.1 h3,Qki.1 h5,by show 0≤ep∧ep≤_;omega,by show 0≤ag∧ag≤_;omega,by simp [Qk7.pa],by intro x hx;simp [Qk7.pa] at hx,by show 0≤lo∧lo≤1000000;omega,by show 0≤hi∧hi≤_;omega,by show tx.size≤12;rw [e10,eb0];omega⟩
def Zla (x:Int):List Int:=enc x.toNat
def Zef:List Int→List Int
 | []=>[]
 | x::r=>Zla x++Zef r
theorem Zje:∀ (a b:List Int),Zef (a++b)=Zef a++Zef b
 | [],b=>rfl
 | x::r,b=>by show Zla x++Zef (r++b)=_;rw [Zje r b,← List.append_assoc];rfl
theorem Zh2:∀ (a:List Int),(Zef a).length≤10*a.length
 | []=>by simp [Zef]
 | x::r=>by
  show (Zla x++Zef r).length≤_
  rw [List.length_append,List.length_cons]
  have:=Zh2 r;have:=Qw4 x.toNat
  unfold Zla
  omega
theorem Zim:∀ (a:List Int),Qkn (Zef a)
 | []=>by intro x hx;cases hx
 | x::r=>Qpo.2 ⟨Zd5 _,Zim r⟩
def Ze6 (m:Qk7):List Int:=([m.kd,m.fr,m.to,m.inc,m.ep,m.ag,(m.pa.length:Int)]++m.pa)++[m.lo,m.hi]
def body (m:Qk7):List Int:=Zef (Ze6 m)++Zfq (Qyl m.tx)
def Zft (m:Qk7):List Int:=if Zhn m=true then body m++Zkj (Zrm (body m)) else []
theorem Zdi {t:List Int} (h:Qkn t):Qkn (Zfq t):=Qpo.2 ⟨Zd5 _,h⟩
theorem Zog (m:Qk7):Qkn (body m):=Qpo.2 ⟨Zim _,Zdi (Z64 _)⟩
theorem OkM.nums {m:Qk7} (h:OkM m):(Ze6 m).length=m.pa.length+9∧∀ x∈Ze6 m,0≤x∧x≤1073741824:=by
 refine ⟨by simp [Ze6,Qk7.pa],?_⟩
 intro x hx
 unfold Ze6 at hx
 simp only [List.mem_append,List.mem_cons,List.not_mem_nil,or_false] at hx
 have:=h.kd;have:=h.fr;have:=h.to;have:=h.inc;have:=h.ep;have:=h.ag;have:=h.pl;have:=h.lo;have:=h.hi
 rcases hx with (hx | hx) | hx
 ·omega
 ·have:=h.pa x hx;omega
 ·omega
theorem OkM.body_len {m:Qk7} (h:OkM m):(body m).length≤1000:=by
 unfold body Zfq
 rw [List.length_append,List.length_append]
 have h1:=Zh2 (Ze6 m);have h2:=h.nums.1;have h3:=Qw4 (Qyl m.tx).length;have h4:=Qs5 m.tx
 have:=h.pl;have:=h.tx
 omega
theorem Zoc (m:Qk7):Qkn (Zft m):=by
 unfold Zft;split
 ·exact Qpo.2 ⟨Zog m,Zlv _⟩
 ·intro x hx;cases hx
theorem Zle (s:Nat):(Zkj s).length=4:=rfl
theorem Zn9 (m:Qk7):(Zft m).length≤1004:=by
 unfold Zft;split
 ·rename_i h;have:=(Zbe h).body_len;rw [List.length_append,Zle];omega
 ·simp
theorem Zew (n:Nat) (tx:ByteArray) (ht:tx.size≤100) (l:List Int) (hl:∀ x∈l,0≤x∧x≤1073741824) (h6:l.length≤1000) (a b c d e f:Int) (p:List Int) (g j:Int):∀ (k m i:Nat) (xs:List Int),Qkn xs→i+k=l.length→k<m→xs.length+10*k≤100000 →
  Z12 n m (l.length:Int) (i:Int) a b c d e f p g j tx xs l=some ((xs++Zef (l.drop i)++Zfq (Qyl tx)++Zkj (Zrm (xs++Zef (l.drop i)++Zfq (Qyl tx))),()),())
 | k,0,i,xs,_,_,h,_=>by omega
 | 0,m+1,i,xs,hb,hk,h,hx=>by
  show Z19 (Z12 n m) (l.length:Int) (i:Int) a b c d e f p g j tx xs l=_
  unfold Z19
  have hlen:(xs++Zfq (Qyl tx)).length≤200000:=by
   unfold Zfq
   rw [List.length_append,List.length_append];have:=Qw4 (Qyl tx).length;have:=Qs5 tx;omega
  have hby:Qkn (xs++Zfq (Qyl tx)):=Qpo.2 ⟨hb,Zdi (Z64 _)⟩
  have e0:xs++(enc tx.size++Qyl tx)=xs++Zfq (Qyl tx):=by unfold Zfq;rw [Qs5]
  rw [cdn (by omega),Zfn xs tx (by omega) (by omega),List.drop_eq_nil_of_le (by omega),e0]
  dsimp only [Option.bind_some]
  rw [Zsd _ hby (by omega)]
  dsimp only [Option.bind_some]
  rw [cbp (by omega),Zng (Zp1 hby)]
  simp only [Zef,List.append_nil]
 | k+1,m+1,i,xs,hb,hk,h,hx=>by
  show Z19 (Z12 n m) (l.length:Int) (i:Int) a b c d e f p g j tx xs l=_
  unfold Z19
  have hi:i<l.length:=by omega
  have hv:=hl l[i] (List.getElem_mem hi)
  rw [cdp (by omega),Zab,cdp (by omega),cdp (by omega),Zab,cdp (by omega),cdp (by omega),Qk9,Qkm hi,List.drop_eq_getElem_cons hi]
  generalize l[i]=x at *
  obtain ⟨x,rfl⟩:∃ y:Nat,x=(y:Int):=⟨x.toNat,by omega⟩
  rw [Zf4 xs x (by omega) (by omega)]
  dsimp only [Option.bind_some]
  have:=Qw4 x
  rw [Qqh (by omega),Zew n tx ht l hl h6 a b c d e f p g j k m (i+1) (xs++enc x) (Qpo.2 ⟨hb,Zd5 x⟩) (by omega) (by omega) (by rw [List.length_append];omega)]
  have e1:xs++enc x++Zef (l.drop (i+1))=xs++Zef ((x:Int)::l.drop (i+1)):=by rw [List.append_assoc];rfl
  rw [e1]
theorem Zmm (m:Qk7) (h6:m.pa.length≤1000000000):Zma m=some ((Zft m,()),()):=by
 show Zd9 (Z12 1099511627776 1099511627776) m=_
 unfold Zd9
 rw [Zmk m h6]
 dsimp only [Option.bind_some]
 unfold Zft
 cases hm:Zhn m with
 | false=>rfl
 | true=>
  have ho:=Zbe hm
  have hp:m.2.2.2.2.2.2.1.length≤10:=ho.pl
  have h1:=Zew 1099511627776 m.tx (by have:=ho.tx;omega) (Ze6 m) ho.nums.2 (by have:=ho.nums.1;have:=ho.pl;omega) m.1 m.2.1 m.2.2.1 m.2.2.2.1 m.2.2.2.2.1 m.2.2.2.2.2.1 m.2.2.2.2.2.2.1 m.2.2.2.2.2.2.2.1 m.2.2.2.2.2.2.2.2.1 (Ze6 m).length 1099511627776 0 [] (by intro x hx;cases hx) (by omega) (by have:=ho.nums.1;have:=ho.pl;omega) (by have:=ho.nums.1;have:=ho.pl;simp;omega)
  rw [nt,if_pos rfl]
  simp only [cond_false]
  rw [cbp (by omega),cbp (by rw [List.length_append];simp;omega)]
  rw [List.drop_zero] at h1
  exact h1
def Qrd (o:Option (List Int)):Nat × Option (List Int):=
 match o with
 | none=>(0,none)
 | some l=>match dec l with
  | none=>(0,none)
  | some (v,n)=>(v,some (l.drop n))
def Znm (o:Option (List Int)):ByteArray × Option (List Int):=
 match o with
 | none=>(⟨#[]⟩,none)
 | some l=>match Zr9 l with
  | none=>(⟨#[]⟩,none)
  | some (t,n)=>(Q5g t,some (l.drop n))
def Z26:Nat→Option (List Int)→List Int→List Int × Option (List Int)
 | 0,o,acc=>(acc,o)
 | k+1,none,acc=>(acc,none)
 | k+1,some l,acc=>Z26 k (Qrd (some l)).2 (acc++[((Qrd (some l)).1:Int)])
structure RS (s:List Int × IV) (o:Option (List Int)):Prop where
 by':Qkn s.1
 len:s.1.length≤1000000000
 is':match o with | some l=>s.1=l∧s.2=IV.nil | none=>∃ a,s.2=IV.mk 134 a
theorem Qt3 {s:List Int × IV} {o:Option (List Int)} (h:RS s o) (what:ByteArray) :
  ∃ s',Qka s what=some ((((Qrd o).1:Int),()),(s',()))∧RS s' (Qrd o).2:=by
 obtain ⟨hb,hl,hs⟩:=h
 obtain ⟨l,e⟩:=s
 cases o with
 | none=>
  obtain ⟨a,rfl⟩:=hs
  exact ⟨_,rfl,hb,hl,a,rfl⟩
 | some l'=>
  obtain ⟨h1,h2⟩:=hs
  simp only at h1 h2 hb hl
  subst h1 h2
  have eT:=Zc4 l hb (by omega)
  have e1:((l.length:Int)).toNat=l.length:=rfl
  unfold Qka Qrd
  dsimp only [IV.isNil]
  cases hd:dec l with
  | none=>
   rw [hd,Zpa] at eT
   rw [eT]
   dsimp only [Option.bind_some,nt,nf,cond_false,cond_true]
   rw [Zab,Zab]
   rw [cdp (by omega),cdp (by omega),cdp (by omega)]
   refine ⟨_,rfl,?_,?_,?_⟩
   ·rw [e1,List.take_length];exact hb
   ·rw [e1,List.take_length];exact hl
   ·exact ⟨_,rfl⟩
  | some p=>
   obtain ⟨v,n⟩:=p
   obtain ⟨h0,h1,h2,h3⟩:=Zne hb hd
   rw [hd,Zpi] at eT
   rw [eT]
   dsimp only [Option.bind_some,nt,nf,cond_false,cond_true]
   rw [Zab,Zab]
   rw [cdp (by omega),cdp (by omega),cdp (by omega),e1,List.take_length,Qk9]
   exact ⟨_,rfl,Z7t hb n,by simp only [List.length_drop];omega,rfl,rfl⟩
theorem Zme {s:List Int × IV} {o:Option (List Int)} (h:RS s o) (what:ByteArray) :
  ∃ s',Qmt s what=some (((Znm o).1,()),(s',()))∧RS s' (Znm o).2:=by
 obtain ⟨hb,hl,hs⟩:=h
 obtain ⟨l,e⟩:=s
 cases o with
 | none=>
  obtain ⟨a,rfl⟩:=hs
  exact ⟨_,rfl,hb,hl,a,rfl⟩
 | some l'=>
  obtain ⟨h1,h2⟩:=hs
  simp only at h1 h2 hb hl
  subst h1 h2
  have eT:=Zdz l hb (by omega)
  have e1:((l.length:Int)).toNat=l.length:=rfl
  unfold Qmt Znm
  dsimp only [IV.isNil]
  cases hd:Zr9 l with
  | none=>
   rw [hd,Zol] at eT
   rw [eT]
   dsimp only [Option.bind_some,nt,nf,cond_false,cond_true]
   rw [Zab,Zab]
   rw [cdp (by omega),cdp (by omega),cdp (by omega)]
   refine ⟨_,rfl,?_,?_,?_⟩
   ·rw [e1,List.take_length];exact hb
   ·rw [e1,List.take_length];exact hl
   ·exact ⟨_,rfl⟩
  | some p=>
   obtain ⟨t,n⟩:=p
   obtain ⟨h0,h1,h2⟩:=Zs8 hb hd
   rw [hd,Zof] at eT
   rw [eT]
   dsimp only [Option.bind_some,nt,nf,cond_false,cond_true]
   rw [Zab,Zab]
   rw [cdp (by omega),cdp (by omega),cdp (by omega),e1,List.take_length,Qk9]
   exact ⟨_,rfl,Z7t hb n,by simp only [List.length_drop];omega,rfl,rfl⟩
def Zqc (o:Option (List Int)):(Int × Int × ByteArray) × Option (List Int):=
 let a:=Qrd o;let b:=Qrd a.2;let t:=Znm b.2
 (((a.1:Int),(b.1:Int),t.1),t.2)
theorem Ziz {s:List Int × IV} {o:Option (List Int)} (h:RS s o) (w1 w2 w3:ByteArray) {R:Type} (K:Int→Int→ByteArray→(List Int × IV)→Option R) :
  ∃ s',(Option.bind (Qka s w1) fun (r25:(Int × Unit) × (Zfi × Unit))=>
 Option.bind (Qka r25.2.1 w2) fun (r26:(Int × Unit) × (Zfi × Unit))=>
 Option.bind (Qmt r26.2.1 w3) fun (r27:Zqz × (Zfi × Unit))=>
 K r25.1.1 r26.1.1 r27.1.1 r27.2.1)=K (Zqc o).1.1 (Zqc o).1.2.1 (Zqc o).1.2.2 s'∧RS s' (Zqc o).2:=by
 obtain ⟨s1,e1,h1⟩:=Qt3 h w1
 obtain ⟨s2,e2,h2⟩:=Qt3 h1 w2
 obtain ⟨s3,e3,h3⟩:=Zme h2 w3
 refine ⟨s3,?_,h3⟩
 rw [e1];dsimp only [Option.bind_some]
 rw [e2];dsimp only [Option.bind_some]
 rw [e3];rfl
theorem Z7s (n:Nat) (a b c d e f g j:Int) (tx:ByteArray):∀ (k m:Nat) (s:List Int × IV) (o:Option (List Int)) (acc:List Int),RS s o→k<m→acc.length+k≤1073741824 →
  ∃ s',Qny n m (k:Int) s.1 s.2 a b c d e f g j tx acc =
   some (((a,b,c,d,e,f,(Z26 k o acc).1,(Zqc (Z26 k o acc).2).1.1,(Zqc (Z26 k o acc).2).1.2.1,(Zqc (Z26 k o acc).2).1.2.2),()),(s',()))∧RS s' (Zqc (Z26 k o acc).2).2
 | k,0,s,o,acc,_,h,_=>by omega
 | 0,m+1,s,o,acc,hs,h,hl=>by
  show ∃ s',Qpq (Qny n m) ((0:Nat):Int) s.1 s.2 a b c d e f g j tx acc=_∧_
  unfold Qpq
  rw [cdn (by omega)]
  exact Ziz hs _ _ _ (fun x y z w=>some (((a,b,c,d,e,f,acc,x,y,z),()),(w,())))
 | k+1,m+1,s,o,acc,hs,h,hl=>by
  show ∃ s',Qpq (Qny n m) ((k+1:Nat):Int) s.1 s.2 a b c d e f g j tx acc=_∧_
  unfold Qpq
  rw [cdp (by omega)]
  cases o with
  | none=>
   obtain ⟨x,hx⟩:=hs.is'
   have e0:(s.1,s.2)=s:=rfl
   rw [hx]
   simp only [IV.isNil,cond_false]
   have:=Ziz hs (⟨#[108,111]⟩:ByteArray) (⟨#[104,105]⟩:ByteArray) (⟨#[116,101,120,116]⟩:ByteArray) (fun x y z w=>some (((a,b,c,d,e,f,acc,x,y,z),()),(w,())))
   have e1:s=(s.1,IV.mk 134 x):=by rw [← hx]
   rw [e1] at this
   exact this
  | some l=>
   obtain ⟨h1,h2⟩:=hs.is'
   obtain ⟨s1,e1,r1⟩:=Qt3 hs (⟨#[115,116,101,112]⟩:ByteArray)
   have e0:s=(s.1,s.2):=rfl
   rw [e0] at e1
   rw [e1]
   rw [h2]
   simp only [IV.isNil,cond_true,Option.bind_some]
   rw [cbp (by omega),Qq3 (by omega) (by omega)]
   have ek:((k+1:Nat):Int) - 1=(k:Int):=by omega
   rw [ek]
   exact Z7s n a b c d e f g j tx k m s1 _ _ r1 (by omega) (by rw [List.length_append,List.length_singleton];omega)
theorem Zt2 (n m:Nat) (v:Int) (w:Bool) (l:List Int) (e:IV) (a b c d x f g j:Int) (tx:ByteArray) (acc:List Int) :
  Que n (m+1) v w l e a b c d x f g j tx acc=Qny n (m+1) v l e a b c d x f g j tx acc:=rfl
def Zqf (l:List Int):Qk7 × Option (List Int):=
 let a1:=Qrd (some l);let a2:=Qrd a1.2;let a3:=Qrd a2.2;let a4:=Qrd a3.2;let a5:=Qrd a4.2;let a6:=Qrd a5.2;let a7:=Qrd a6.2
 let p:=if a7.1>64 then ([],none) else Z26 a7.1 a7.2 []
 let e:=Zqc p.2
 (((a1.1:Int),(a2.1:Int),(a3.1:Int),(a4.1:Int),(a5.1:Int),(a6.1:Int),p.1,e.1.1,e.1.2.1,e.1.2.2),e.2)
theorem Zm9:∀ (k:Nat) (acc:List Int),Z26 k none acc=(acc,none)
 | 0,_=>rfl
 | _+1,_=>rfl
theorem Zi9:∀ (k:Nat) (o:Option (List Int)) (acc:List Int),(Z26 k o acc).1.length≤acc.length+k
 | 0,o,acc=>by simp [Z26]
 | k+1,none,acc=>by simp [Z26]
 | k+1,some l,acc=>by
  have:=Zi9 k (Qrd (some l)).2 (acc++[((Qrd (some l)).1:Int)])
  rw [List.length_append,List.length_singleton] at this
  show (Z26 k (Qrd (some l)).2 (acc++[((Qrd (some l)).1:Int)])).1.length≤_
  omega
theorem Zqv (l:List Int):(Zqf l).1.pa.length≤64:=by
 unfold Zqf Qk7.pa
 dsimp only
 split
 ·simp
 ·rename_i h
  have:=Zi9 (Qrd (Qrd (Qrd (Qrd (Qrd (Qrd (Qrd (some l)).2).2).2).2).2).2).1 (Qrd (Qrd (Qrd (Qrd (Qrd (Qrd (Qrd (some l)).2).2).2).2).2).2).2 []
  simp only [List.length_nil] at this
  omega
theorem Zrw (o:Option (List Int)) (h:∀ l,o=some l→Qkn l):(Qrd o).1≤1073741824:=by
 unfold Qrd
 split
 ·simp
 ·rename_i l
  split
  ·simp
  ·rename_i v n hd
   exact (Zne (h l rfl) hd).2.2.2
theorem RS.byo {s:List Int × IV} {o:Option (List Int)} (h:RS s o):∀ l,o=some l→Qkn l:=by
 intro l e;subst e
 obtain ⟨h1,h2⟩:=h.is'
 rw [← h1];exact h.by'
theorem Znz (l:List Int) (hb:Qkn l) (hl:l.length≤1000000000) :
  ∃ s',Z4a (l,IV.nil)=some (((Zqf l).1,()),(s',()))∧RS s' (Zqf l).2:=by
 have h0:RS (l,IV.nil) (some l):=⟨hb,hl,rfl,rfl⟩
 show ∃ s',Qvn (Qny 1099511627776 1099511627776) (Que 1099511627776 1099511627776) (l,IV.nil)=_∧_
 unfold Qvn Zqf
 dsimp only
 obtain ⟨s1,e1,h1⟩:=Qt3 h0 (⟨#[107,105,110,100]⟩:ByteArray)
 rw [e1];dsimp only [Option.bind_some]
 obtain ⟨s2,e2,h2⟩:=Qt3 h1 (⟨#[102,114,111,109]⟩:ByteArray)
 rw [e2];dsimp only [Option.bind_some]
 obtain ⟨s3,e3,h3⟩:=Qt3 h2 (⟨#[116,111]⟩:ByteArray)
 rw [e3];dsimp only [Option.bind_some]
 obtain ⟨s4,e4,h4⟩:=Qt3 h3 (⟨#[105,110,99]⟩:ByteArray)
 rw [e4];dsimp only [Option.bind_some]
 obtain ⟨s5,e5,h5⟩:=Qt3 h4 (⟨#[101,112,111,99,104]⟩:ByteArray)
 rw [e5];dsimp only [Option.bind_some]
 obtain ⟨s6,e6,h6⟩:=Qt3 h5 (⟨#[97,103,101]⟩:ByteArray)
 rw [e6];dsimp only [Option.bind_some]
 obtain ⟨s7,e7,h7⟩:=Qt3 h6 (⟨#[119,97,121]⟩:ByteArray)
 rw [e7];dsimp only [Option.bind_some]
 generalize hq:Qrd (Qrd (Qrd (Qrd (Qrd (Qrd (Qrd (some l)).2).2).2).2).2).2=q at *
 have hv:q.1≤1073741824:=by rw [← hq];exact Zrw _ h6.byo
 by_cases hc:q.1>64
 ·rw [cdp (by omega),if_pos hc]
  have hn:RS (s7.1,IV.mk 134 [.str (⟨#[119,97,121]⟩:ByteArray)]) none:=⟨h7.by',h7.len,_,rfl⟩
  have:=Z7s 1099511627776 ((Qrd (some l)).1:Int) ((Qrd (Qrd (some l)).2).1:Int) ((Qrd (Qrd (Qrd (some l)).2).2).1:Int) ((Qrd (Qrd (Qrd (Qrd (some l)).2).2).2).1:Int) ((Qrd (Qrd (Qrd (Qrd (Qrd (some l)).2).2).2).2).1:Int) ((Qrd (Qrd (Qrd (Qrd (Qrd (Qrd (some l)).2).2).2).2).2).1:Int) 0 0 (⟨#[]⟩:ByteArray) q.1 1099511627776 _ none [] hn (by omega) (by simp;omega)
  rw [Zm9] at this
  exact this
 ·rw [cdn (by omega),if_neg hc,Zt2 1099511627776 1099511627775]
  exact Z7s 1099511627776 ((Qrd (some l)).1:Int) ((Qrd (Qrd (some l)).2).1:Int) ((Qrd (Qrd (Qrd (some l)).2).2).1:Int) ((Qrd (Qrd (Qrd (Qrd (some l)).2).2).2).1:Int) ((Qrd (Qrd (Qrd (Qrd (Qrd (some l)).2).2).2).2).1:Int) ((Qrd (Qrd (Qrd (Qrd (Qrd (Qrd (some l)).2).2).2).2).2).1:Int) 0 0 (⟨#[]⟩:ByteArray) q.1 1099511627776 s7 q.2 [] h7 (by omega) (by simp;omega)
end Go.PE
