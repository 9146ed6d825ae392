/-
  Plain lemmas on the functions.
  Conditions: none.
-/
import Derived.Test.YtmfiijdlhjajcaaGreatDoorNodeDownPTieSpec
set_option linter.unusedVariables false
set_option linter.unusedSimpArgs false
set_option maxRecDepth 20000
namespace Go.PE
theorem Zay (n:Nat) (l:List Kid) (v:Int) (h6:l.length≤1000000000):∀ (k m i:Nat),i+k=l.length→k<m →
  Qq9 n m l v (i:Int) 0 0 0=some ((match Qug (l.drop i) v with | some x=>(x,true,()) | none=>((0,0,0),false,())),())
 | k,0,i,_,h=>by omega
 | 0,m+1,i,hk,h=>by
  show Qoe (Qq9 n m) l v (i:Int) 0 0 0=_
  unfold Qoe
  rw [cdn (by omega),List.drop_eq_nil_of_le (by omega)];rfl
 | k+1,m+1,i,hk,h=>by
  show Qoe (Qq9 n m) l v (i:Int) 0 0 0=_
  have hi:i<l.length:=by omega
  unfold Qoe
  rw [cdp (by omega),ct (idx (by omega)),ct (idx (by omega)),Qk9,Qkl hi,Qr9 (by omega),ceq,List.drop_eq_getElem_cons hi]
  show _=some ((match (if kid l[i]=v then some l[i] else Qug (l.drop (i+1)) v) with | some x=>(x,true,()) | none=>((0,0,0),false,())),())
  by_cases hv:l[i].1=v
  ·rw [if_pos hv,if_pos hv]
  ·rw [if_neg hv,if_neg hv,Zay n l v h6 k m (i+1) (by omega) (by omega)]
theorem Z9e (l:List Kid) (v:Int) (h6:l.length≤1000000000):Qpl l v=some ((match Qug l v with | some x=>(x,true,()) | none=>((0,0,0),false,())),()):=by
 have:=Zay 1099511627776 l v h6 l.length 1099511627776 0 (by omega) (by omega)
 rw [List.drop_zero] at this
 exact this
theorem Zhj (l:List Kid) (id inc:Int) (h6:l.length≤1000000000):Qud l id inc=some ((Zor l id inc,()),()):=by
 unfold Qud Zor
 rw [Z9e l id h6]
 cases Qug l id<;>rfl
theorem Z4p (n:Nat) (l:List Kid) (v:Int) (h6:l.length≤1000000):∀ (k m i:Nat) (acc:List Kid),i+k=l.length→k<m→acc.length≤i →
  Qq6 n m l v (i:Int) acc=some ((acc++Qxk kid v (l.drop i),()),())
 | k,0,i,acc,_,h,_=>by omega
 | 0,m+1,i,acc,hk,h,ha=>by
  show Qoa (Qq6 n m) l v (i:Int) acc=_
  unfold Qoa
  rw [cdn (by omega),List.drop_eq_nil_of_le (by omega)];simp [Qxk]
 | k+1,m+1,i,acc,hk,h,ha=>by
  show Qoa (Qq6 n m) l v (i:Int) acc=_
  have hi:i<l.length:=by omega
  unfold Qoa
  rw [cdp (by omega),ct (idx (by omega)),ct (idx (by omega)),Qk9,Qkl hi,Qr9 (by omega),Z9x,List.drop_eq_getElem_cons hi]
  by_cases hv:l[i].1=v
  ·rw [if_pos hv,Z4p n l v h6 k m (i+1) acc (by omega) (by omega) (by omega)]
   have:Qxk kid v (l[i]::l.drop (i+1))=Qxk kid v (l.drop (i+1)):=by unfold Qxk;rw [List.filter_cons,if_neg (by simp [hv])]
   rw [this]
  ·rw [if_neg hv,cbp (by omega),Z4p n l v h6 k m (i+1) _ (by omega) (by omega) (by rw [List.length_append,List.length_singleton];omega)]
   have:Qxk kid v (l[i]::l.drop (i+1))=l[i]::Qxk kid v (l.drop (i+1)):=by unfold Qxk;rw [List.filter_cons,if_pos (bne_iff_ne.2 hv)]
   rw [this,List.append_assoc];rfl
theorem Zfs (l:List Kid) (v:Int) (h6:l.length≤1000000):Qt9 l v=some ((Qxk kid v l,()),()):=by
 have:=Z4p 1099511627776 l v h6 l.length 1099511627776 0 [] (by omega) (by omega) (by simp)
 rw [List.drop_zero,List.nil_append] at this
 exact this
theorem Z2x (n:Nat) (l:List Kid) (v:Int) (hv0:0≤v∧v≤1125899906842624) (hr:∀ x∈l,0≤x.2.2∧x.2.2≤1125899906842624) (h6:l.length≤1000000):∀ (k m i:Nat) (acc:List Kid),i+k=l.length→k<m→acc.length≤i →
  Qpg n m l v (i:Int) acc=some ((acc++Z10 (l.drop i) v,()),())
 | k,0,i,acc,_,h,_=>by omega
 | 0,m+1,i,acc,hk,h,ha=>by
  show Qnh (Qpg n m) l v (i:Int) acc=_
  unfold Qnh
  rw [cdn (by omega),List.drop_eq_nil_of_le (by omega)];simp [Z10]
 | k+1,m+1,i,acc,hk,h,ha=>by
  show Qnh (Qpg n m) l v (i:Int) acc=_
  have hi:i<l.length:=by omega
  have hx:=hr _ (List.getElem_mem hi)
  unfold Qnh
  rw [cdp (by omega),ct (idx (by omega)),ct (idx (by omega)),Qk9,Qkl hi,Qr9 (by omega),Qqd (by omega) (by omega),cp,List.drop_eq_getElem_cons hi]
  by_cases hv:v - l[i].2.2≤20
  ·rw [if_pos hv,cbp (by omega),Z2x n l v hv0 hr h6 k m (i+1) _ (by omega) (by omega) (by rw [List.length_append,List.length_singleton];omega)]
   have:Z10 (l[i]::l.drop (i+1)) v=l[i]::Z10 (l.drop (i+1)) v:=by unfold Z10;rw [List.filter_cons,if_pos (decide_eq_true hv)]
   rw [this,List.append_assoc];rfl
  ·rw [if_neg hv,Z2x n l v hv0 hr h6 k m (i+1) acc (by omega) (by omega) (by omega)]
   have:Z10 (l[i]::l.drop (i+1)) v=Z10 (l.drop (i+1)) v:=by unfold Z10;rw [List.filter_cons,if_neg (by simp [hv])]
   rw [this]
theorem Zil {l:List Kid} (h:KOk l) (v:Int) (hv0:0≤v∧v≤1125899906842624):Qy9 l v=some ((Z10 l v,()),()):=by
 have hl:=h.len
 have:=Z2x 1099511627776 l v hv0 (fun x hx=>by have:=h.rng x hx;omega) (by omega) l.length 1099511627776 0 [] (by omega) (by omega) (by simp)
 rw [List.drop_zero,List.nil_append] at this
 exact this
theorem Zip {α:Type} (l:List α) (a b:Nat):Qd (List.take a (List.drop b (List.map some l)))=some ((l.drop b).take a):=by
 rw [← List.map_drop,← List.map_take,Q6l]
theorem Za8 (n:Nat) (l:List Kid) (a b c:Int) (h6:l.length≤1000000):∀ (k m i:Nat),i+k=l.length→k<m→(∀ y∈l.take i,y.1≤a) →
  Qo7 n m (i:Int) a b c l=some ((l.take i++Zie kid (a,b,c) (l.drop i),true,()),())
 | k,0,i,_,h,_=>by omega
 | 0,m+1,i,hk,h,ha=>by
  show Qnv (Qo7 n m) (i:Int) a b c l=_
  unfold Qnv
  rw [cdn (by omega),cbp (by omega),List.drop_eq_nil_of_le (by omega),List.take_of_length_le (by omega)];rfl
 | k+1,m+1,i,hk,h,ha=>by
  show Qnv (Qo7 n m) (i:Int) a b c l=_
  have hi:i<l.length:=by omega
  unfold Qnv
  rw [cdp (by omega),ct (idx (by omega)),ct (idx (by omega)),Qk9,Qkl hi,Qr9 (by omega),cp]
  by_cases hv:a<l[i].1
  ·rw [if_pos hv]
   have e1:((i:Int) - 0).toNat=i:=by omega
   have e2:(((l.length:Nat):Int) - (i:Int)).toNat=l.length - i:=by omega
   have e3:(List.map some l).length=l.length:=List.length_map ..
   rw [e1,e2,e3,ct (bt (by omega) (by omega)),Zip,List.drop_zero]
   rw [show Nat.ble (0+i) l.length=true from Nat.ble_eq_true_of_le (by omega),cond_true]
   dsimp only [Option.bind_some]
   rw [cbp (by rw [List.length_take];omega),List.nil_append,cbp (by rw [List.length_take];omega)]
   rw [ct (by simp;omega),show Nat.ble (0+i+(l.length - i)) l.length=true from Nat.ble_eq_true_of_le (by omega),cond_true,Nat.zero_add,Zip]
   dsimp only [Option.bind_some]
   rw [cbp (by simp;omega),List.take_of_length_le (l:=l.drop i) (by rw [List.length_drop];omega),List.append_assoc]
   have e4:Zie kid (a,b,c) (l.drop i)=(a,b,c)::l.drop i:=by
    rw [List.drop_eq_getElem_cons hi];exact if_pos hv
   rw [e4];rfl
  ·rw [if_neg hv,Za8 n l a b c h6 k m (i+1) (by omega) (by omega) (fun y hy=>by
    rw [List.take_succ_eq_append_getElem hi] at hy
    rcases List.mem_append.1 hy with hy | hy
    ·exact ha y hy
    ·rcases List.mem_singleton.1 hy with rfl;omega)]
   have e4:Zie kid (a,b,c) (l.drop i)=l[i]::Zie kid (a,b,c) (l.drop (i+1)):=by
    rw [List.drop_eq_getElem_cons hi];exact if_neg hv
   rw [e4,List.take_succ_eq_append_getElem hi,List.append_assoc];rfl
theorem Zeu (l:List Kid) (k:Kid) (h6:l.length≤1000000):∃ b,Qr0 l k=some ((Z35 l k,b,()),()):=by
 show ∃ b,Qto (Qo7 1099511627776 1099511627776) l k=_
 unfold Qto Z35
 rw [Zhj l _ _ (by omega)]
 dsimp only [Option.bind_some]
 cases ho:Zor l k.1 k.2.1 with
 | true=>rw [cond_true,if_pos rfl];exact ⟨_,rfl⟩
 | false=>
  rw [cond_false,if_neg (by simp),Zfs l _ h6]
  dsimp only [Option.bind_some]
  have hl:(Qxk kid k.1 l).length≤l.length:=List.length_filter_le ..
  have:=Za8 1099511627776 (Qxk kid k.1 l) k.1 k.2.1 k.2.2 (by omega) (Qxk kid k.1 l).length 1099511627776 0 (by omega) (by omega) (fun y hy=>by simp at hy)
  rw [List.take_zero,List.drop_zero,List.nil_append] at this
  exact ⟨true,this⟩
theorem Zim (p:List Int) (h:p.length≤1000000):Quj p=some ((if p.length<2 then 0 else List.getD p (p.length - 2) 0,()),()):=by
 unfold Quj
 by_cases h2:p.length<2
 ·rw [cdp (by omega),if_pos h2]
 ·rw [cdn (by omega),if_neg h2,Qqd (by omega) (by omega),ct (bt (by omega) (by omega)),show ((p.length:Int) - 2).toNat=p.length - 2 by omega]
theorem Zdp (p:List Int) (h:p.length≤1000000):Qpd p=some ((Z90 p,()),()):=by
 unfold Qpd Z90
 rw [Zim p h]
 dsimp only [Option.bind_some]
 by_cases h2:p.length<2
 ·rw [if_pos h2,if_pos h2];rfl
 ·rw [if_neg h2,if_neg h2,ceq]
  split<;>rfl
theorem Zdk (id inc now grand:Int):Qsr id inc now grand=some ((Zo6 id inc now grand,()),()):=by
 unfold Qsr Zo6
 rw [ceq];split<;>rfl
theorem Z4j (t:Tie) (k to:Int):Qk6 t k to=some ((Zr8 t k to,()),()):=rfl
theorem Zh3 (t:Tie) (s:Int):Qla t s=some ((Zn9 t s,()),()):=rfl
theorem Z9p {N:Int} {t:Tie} (h:TOk N t) (k to:Int):Qn5 t k to=some ((Zo8 t k to,()),()):=by
 unfold Qn5
 rw [Z4j]
 dsimp only [Option.bind_some]
 have hp:=h.path
 have h1:=h.now
 have h2:=h.born
 have h3:=h.big
 rw [cbp (by show 0+t.2.2.2.2.2.2.1.length≤_;omega),Qqd (by show _≤t.2.2.1 - t.2.2.2.2.2.2.2.2.1;omega) (by show t.2.2.1 - t.2.2.2.2.2.2.2.2.1≤_;omega)]
 rfl
theorem Qxm {N:Int} {t:Tie} (h:TOk N t):Qld t=some ((Que t,()),()):=by
 obtain ⟨id,inc,now,par,pinc,grand,path,ep,born,asked,til,step,kids⟩:=t
 have h1:=h.now
 have h2:=h.born
 have h3:=h.big
 simp only at h1 h2
 unfold Qld
 dsimp only [g3,g4,g5,g6,g7,g8,g9,g10,g11,g12,h3,h4,h5,h6,h7,h8,h9,h10,h11,h12,u0,u1,u2,u3,u4,u5,u6,u7,u8,u9,u10,u11,u12,e1,e2,e3,e4,e5,e6,e7,e8,e9,e10,e11,e12]
 rw [Qqd (by omega) (by omega),ceq,Z9x]
 simp only [Que]
 by_cases a:id=1
 ·rw [if_pos a];simp [a]
 ·rw [if_neg a]
  by_cases b:par=0
  ·rw [if_pos b];simp [a,b]
  ·rw [if_neg b];simp [a,b]
theorem Zel {N:Int} {t:Tie} (h:TOk N t) (hN:N+1≤562949953421312) {m:Qk7} (hm:MSm m):Qm8 t m=some (((Qv0 t m).1,(Qv0 t m).2,()),()):=by
 obtain ⟨id,inc,now,par,pinc,grand,path,ep,born,asked,til,step,kids⟩:=t
 obtain ⟨kd,fr,to,mi,me,ag,pa,lo,hi,tx⟩:=m
 have h1:=h.now
 have h2:=h.step
 have h4:=h.asked
 have hag:=hm.ag
 have hfr:=hm.fr
 have hpa:=hm.pa
 dsimp only [Qk7.kd,Qk7.fr,Qk7.to,Qk7.inc,Qk7.ep,Qk7.ag,Qk7.pa,Qk7.lo,Qk7.hi,Qk7.tx] at h1 h2 h4 hag hfr hpa
 have J1:Qow (id,inc,now,par,pinc,grand,path,ep,born,asked,til,step,kids) (kd,fr,to,mi,me,ag,pa,lo,hi,tx)=some (((id,inc,now,par,pinc,grand,path,ep,born,0,til,step+1,kids),[(6,id,fr,inc,0,0,[],0,0,ebA)],()),()):=by
  unfold Qow
  dsimp only [g3,g4,g5,g6,g7,g8,g9,g10,g11,g12,h3,h4,h5,h6,h7,h8,h9,h10,h11,h12,u0,u1,u2,u3,u4,u5,u6,u7,u8,u9,u10,u11,u12,e1,e2,e3,e4,e5,e6,e7,e8,e9,e10,e11,e12]
  rw [Qqd (by omega) (by omega)];rfl
 have J2:¬ (par≠0∧fr=par)→Qoq (id,inc,now,par,pinc,grand,path,ep,born,asked,til,step,kids) (kd,fr,to,mi,me,ag,pa,lo,hi,tx)=some (((Qv0 (id,inc,now,par,pinc,grand,path,ep,born,asked,til,step,kids) (kd,fr,to,mi,me,ag,pa,lo,hi,tx)).1,(Qv0 (id,inc,now,par,pinc,grand,path,ep,born,asked,til,step,kids) (kd,fr,to,mi,me,ag,pa,lo,hi,tx)).2,()),()):=by
  intro hn
  rw [Qv0]
  unfold Qoq
  dsimp only [g3,g4,g5,g6,g7,g8,g9,g10,g11,g12,h3,h4,h5,h6,h7,h8,h9,h10,h11,h12,u0,u1,u2,u3,u4,u5,u6,u7,u8,u9,u10,u11,u12,e1,e2,e3,e4,e5,e6,e7,e8,e9,e10,e11,e12,Qk7.kd,Qk7.fr,Qk7.to,Qk7.inc,Qk7.ep,Qk7.ag,Qk7.pa,Qk7.lo,Qk7.hi,Qk7.tx]
  rw [if_neg hn,ceq,Z9x]
  by_cases a1:asked=0
  ·rw [if_pos a1,if_pos (.inl a1)];rfl
  rw [if_neg a1]
  by_cases a2:asked=fr
  ·rw [if_pos a2,Z9x]
   by_cases a3:par=0
   ·rw [if_pos a3,if_neg (by omega),Z15 _ _ (by omega)]
    dsimp only [Option.bind_some]
    by_cases a4:(Qm9 pa id).2=true
    ·rw [a4,nt,cond_false]
     by_cases a5:20<ag
     ·rw [cdp a5,J1,if_pos (.inr a5)]
     ·rw [cdn a5,if_neg (by simp [a5]),Zdp _ (by omega)]
      dsimp only [Option.bind_some]
      rw [Qqd (by omega) (by omega)]
    ·have a4':(Qm9 pa id).2=false:=by cases hc:(Qm9 pa id).2<;>simp [hc] at a4 ⊢
     rw [a4',nf,cond_true,J1,if_pos (.inl rfl)]
   ·rw [if_neg a3,if_pos (.inr (.inr a3))];rfl
  ·rw [if_neg a2,if_pos (.inr (.inl a2))];rfl
 unfold Qm8
 dsimp only [g3,g4,g5,g6,g7,g8,g9,g10,g11,g12,h3,h4,h5,h6,h7,h8,h9,h10,h11,h12,u0,u1,u2,u3,u4,u5,u6,u7,u8,u9,u10,u11,u12,e1,e2,e3,e4,e5,e6,e7,e8,e9,e10,e11,e12]
 rw [Z9x]
 by_cases a1:par=0
 ·rw [if_pos a1,J2 (by simp [a1])]
 ·rw [if_neg a1,ceq]
  by_cases a2:fr=par
  ·rw [if_pos a2,Qv0,if_pos ⟨a1,a2⟩]
  ·rw [if_neg a2,J2 (by simp [a2])]
theorem Zcw {N:Int} {t:Tie} (h:TOk N t) (hN:N+1≤562949953421312) {m:Qk7} (hm:MSm m) (lo':Int):Qm6 t m lo'=some (((Z4a t m lo').1,(Z4a t m lo').2,()),()):=by
 have acc:=Zel h hN hm
 have fr':=Qxm h
 have hl:=h.kids.len
 obtain ⟨id,inc,now,par,pinc,grand,path,ep,born,asked,til,step,kids⟩:=t
 obtain ⟨kd,fr,to,mi,me,ag,pa,lo,hi,tx⟩:=m
 have h1:=h.now
 have h2:=h.step
 have h3:=h.path
 have h4:=h.asked
 have h5:=h.one
 have h0:=h.par
 have hag:=hm.ag
 have hfr:=hm.fr
 have hpa:=hm.pa
 have hmi:=hm.inc
 dsimp only [Qk7.kd,Qk7.fr,Qk7.to,Qk7.inc,Qk7.ep,Qk7.ag,Qk7.pa,Qk7.lo,Qk7.hi,Qk7.tx] at h0 h1 h2 h3 h4 h5 hag hfr hpa hmi hl
 have hk:=h.kids
 dsimp only at hk
 have hfull:∀ q,KOk q→Qn5 (id,inc,now,par,pinc,grand,path,ep,born,asked,til,step,q) 2 fr=some ((Zo8 (id,inc,now,par,pinc,grand,path,ep,born,asked,til,step,q) 2 fr,()),()):=fun q hq=>Z9p (N:=N) (t:=(id,inc,now,par,pinc,grand,path,ep,born,asked,til,step,q)) ⟨h.id,h.inc,h.now,h.par,h.pinc,h.grand,h.path,h.ep,h.born,h.asked,h.til,h.step,hq,h.big,h.one⟩ 2 fr
 have J5:Qn3 (id,inc,now,par,pinc,grand,path,ep,born,asked,til,step,kids) (kd,fr,to,mi,me,ag,pa,lo,hi,tx) lo'=some (((id,inc,now,par,pinc,grand,path,ep,born,asked,til,step,Z35 kids (fr,mi,now)),[(2,id,fr,inc,ep,now - born,path,lo',0,ebA)],()),()):=by
  unfold Qn3
  dsimp only [g3,g4,g5,g6,g7,g8,g9,g10,g11,g12,h3,h4,h5,h6,h7,h8,h9,h10,h11,h12,u0,u1,u2,u3,u4,u5,u6,u7,u8,u9,u10,u11,u12,e1,e2,e3,e4,e5,e6,e7,e8,e9,e10,e11,e12]
  obtain ⟨b,hb⟩:=Zeu kids (fr,mi,now) (by omega)
  rw [hb]
  dsimp only [Option.bind_some]
  rw [hfull _ (hk.hear (by dsimp only;omega))]
  rfl
 have J6:Qqx (id,inc,now,par,pinc,grand,path,ep,born,asked,til,step,kids) (kd,fr,to,mi,me,ag,pa,lo,hi,tx) lo'=if Que (id,inc,now,par,pinc,grand,path,ep,born,asked,til,step,kids)=false∨fr∈path∨(Qug kids fr=none∧Zhv id≤(kids.length:Int)) then some (((id,inc,now,par,pinc,grand,path,ep,born,asked,til,step,kids),[(3,id,fr,inc,0,0,[],0,0,ebA)],()),())
   else some (((id,inc,now,par,pinc,grand,path,ep,born,asked,til,step,Z35 kids (fr,mi,now)),[(2,id,fr,inc,ep,now - born,path,lo',0,ebA)],()),()):=by
  unfold Qqx
  dsimp only [g3,g4,g5,g6,g7,g8,g9,g10,g11,g12,h3,h4,h5,h6,h7,h8,h9,h10,h11,h12,u0,u1,u2,u3,u4,u5,u6,u7,u8,u9,u10,u11,u12,e1,e2,e3,e4,e5,e6,e7,e8,e9,e10,e11,e12]
  rw [Z9e _ _ (by omega)]
  dsimp only [Option.bind_some]
  rw [fr',Zpt _ _ (by omega)]
  dsimp only [Option.bind_some]
  rw [J5]
  have e:∀ q:Int,(bif !Que (id,inc,now,par,pinc,grand,path,ep,born,asked,til,step,kids) then some (((id,inc,now,par,pinc,grand,path,ep,born,asked,til,step,kids),[(3,id,fr,inc,0,0,[],0,0,ebA)],()),()) else bif decide (fr∈path) then some (((id,inc,now,par,pinc,grand,path,ep,born,asked,til,step,kids),[(3,id,fr,inc,0,0,[],0,0,ebA)],()),())
    else bif !(match Qug kids fr with | some x=>(x,true,()) | none=>((0,0,0),false,())).2.1 then (bif decide ((kids.length:Int) ≥ q) then some (((id,inc,now,par,pinc,grand,path,ep,born,asked,til,step,kids),[(3,id,fr,inc,0,0,[],0,0,ebA)],()),()) else some (((id,inc,now,par,pinc,grand,path,ep,born,asked,til,step,Z35 kids (fr,mi,now)),[(2,id,fr,inc,ep,now - born,path,lo',0,ebA)],()),()))
    else some (((id,inc,now,par,pinc,grand,path,ep,born,asked,til,step,Z35 kids (fr,mi,now)),[(2,id,fr,inc,ep,now - born,path,lo',0,ebA)],()),()))=(if Que (id,inc,now,par,pinc,grand,path,ep,born,asked,til,step,kids)=false∨fr∈path∨(Qug kids fr=none∧q≤(kids.length:Int)) then some (((id,inc,now,par,pinc,grand,path,ep,born,asked,til,step,kids),[(3,id,fr,inc,0,0,[],0,0,ebA)],()),())
   else some (((id,inc,now,par,pinc,grand,path,ep,born,asked,til,step,Z35 kids (fr,mi,now)),[(2,id,fr,inc,ep,now - born,path,lo',0,ebA)],()),()):Option (((Tie) × (List (Qk7)) × Unit) × Unit)):=by
   intro q
   cases Que (id,inc,now,par,pinc,grand,path,ep,born,asked,til,step,kids) with
   | false=>rw [if_pos (.inl rfl)];rfl
   | true=>
    rw [nt,cond_false,cp]
    by_cases a1:fr∈path
    ·rw [if_pos a1,if_pos (.inr (.inl a1))]
    ·rw [if_neg a1]
     cases hf:Qug kids fr with
     | some x=>rw [if_neg (by simp [a1])];rfl
     | none=>
      dsimp only
      rw [nf,cond_true,cp]
      by_cases a2:q≤(kids.length:Int)
      ·rw [if_pos a2,if_pos (.inr (.inr ⟨rfl,a2⟩))]
      ·rw [if_neg a2,if_neg (by simp [a1];omega)]
  by_cases a0:id=1
  ·rw [Z2y a0,show Zhv id=8 from if_pos a0];exact e 8
  ·rw [Z09 a0,show Zhv id=3 from if_neg a0];exact e 3
 have J7:Qqy (id,inc,now,par,pinc,grand,path,ep,born,asked,til,step,kids) (kd,fr,to,mi,me,ag,pa,lo,hi,tx)=if Qug kids fr=none then some (((id,inc,now,par,pinc,grand,path,ep,born,asked,til,step,kids),[(3,id,fr,inc,0,0,[],0,0,ebA)],()),()) else some (((id,inc,now,par,pinc,grand,path,ep,born,asked,til,step,Z35 kids (fr,mi,now)),[],()),()):=by
  unfold Qqy
  dsimp only [g3,g4,g5,g6,g7,g8,g9,g10,g11,g12,h3,h4,h5,h6,h7,h8,h9,h10,h11,h12,u0,u1,u2,u3,u4,u5,u6,u7,u8,u9,u10,u11,u12,e1,e2,e3,e4,e5,e6,e7,e8,e9,e10,e11,e12]
  rw [Z9e _ _ (by omega)]
  dsimp only [Option.bind_some]
  cases hf:Qug kids fr with
  | none=>rfl
  | some x=>
   rw [nt,cond_false,if_neg (by simp)]
   obtain ⟨b,hb⟩:=Zeu kids (fr,mi,now) (by omega)
   rw [hb];rfl
 have J8:Qqu (kd,fr,to,mi,me,ag,pa,lo,hi,tx) (id,inc,now,par,pinc,grand,path,ep,born,asked,til,step,kids)=if kd=6 then some (((id,inc,now,par,pinc,grand,path,ep,born,asked,til,step,Qxk kid fr kids),[],()),()) else some (((id,inc,now,par,pinc,grand,path,ep,born,asked,til,step,kids),[],()),()):=by
  unfold Qqu
  dsimp only [g3,g4,g5,g6,g7,g8,g9,g10,g11,g12,h3,h4,h5,h6,h7,h8,h9,h10,h11,h12,u0,u1,u2,u3,u4,u5,u6,u7,u8,u9,u10,u11,u12,e1,e2,e3,e4,e5,e6,e7,e8,e9,e10,e11,e12]
  rw [ceq,Zfs _ _ (by omega)]
  rfl
 unfold Qm6
 rw [Z4a,J6,J7,J8]
 dsimp only [g3,g4,g5,g6,g7,g8,g9,g10,g11,g12,h3,h4,h5,h6,h7,h8,h9,h10,h11,h12,u0,u1,u2,u3,u4,u5,u6,u7,u8,u9,u10,u11,u12,e1,e2,e3,e4,e5,e6,e7,e8,e9,e10,e11,e12,Qk7.kd,Qk7.fr,Qk7.to,Qk7.inc,Qk7.ep,Qk7.ag,Qk7.pa,Qk7.lo,Qk7.hi,Qk7.tx]
 rw [acc]
 simp only [Zh3,Z4j,Option.bind_some]
 rw [Qqd (x:=step+1) (by omega) (by omega),Qqd (x:=now - ag) (by omega) (by omega),Z15 _ _ (by omega),Zdp _ (by omega)]
 simp only [Option.bind_some]
 by_cases p:par=0
 ·rw [Zgl p]
  by_cases k1:kd=1
  ·rw [Z2y k1,if_pos k1];split<;>rfl
  rw [Z09 k1,if_neg k1]
  by_cases k2:kd=2
  ·rw [Z2y k2,if_pos k2]
  rw [Z09 k2,if_neg k2]
  by_cases k3:kd=3
  ·rw [Z2y k3,if_pos k3,if_neg (by simp [p]),Z9x,ceq]
   by_cases a1:asked=0
   ·rw [if_pos a1,if_neg (by simp [a1])]
   ·rw [if_neg a1]
    by_cases a2:asked=fr
    ·rw [if_pos a2,if_pos ⟨a1,a2⟩]
    ·rw [if_neg a2,if_neg (by simp [a2])]
  rw [Z09 k3,if_neg k3]
  by_cases k4:kd=4
  ·rw [Z2y k4,if_pos k4];split<;>rfl
  rw [Z09 k4,if_neg k4]
  by_cases k5:kd=5
  ·rw [Z2y k5,if_pos k5,if_pos (by simp [p])];rfl
  rw [Z09 k5,if_neg k5]
  split<;>rfl
 ·have h5':=h5 p
  rw [Zk3 p]
  by_cases k1:kd=1
  ·rw [Z2y k1,if_pos k1];split<;>rfl
  rw [Z09 k1,if_neg k1]
  by_cases k2:kd=2
  ·rw [Z2y k2,if_pos k2]
  rw [Z09 k2,if_neg k2]
  by_cases k3:kd=3
  ·rw [Z2y k3,if_pos k3,Zgl h5',ceq]
   by_cases a1:fr=par
   ·rw [if_pos a1,if_pos ⟨p,a1⟩]
   ·rw [if_neg a1,if_neg (by simp [a1]),if_neg (by simp [h5'])]
  rw [Z09 k3,if_neg k3]
  by_cases k4:kd=4
  ·rw [Z2y k4,if_pos k4];split<;>rfl
  rw [Z09 k4,if_neg k4]
  by_cases k5:kd=5
  ·rw [Z2y k5,if_pos k5,Zq7,ceq]
   by_cases a1:fr=par
   ·rw [if_pos a1,if_neg (by simp [p,a1])]
    by_cases a4:(Qm9 pa id).2=true
    ·rw [a4,nt,cond_false,if_neg (by simp),cp]
     split<;>rfl
    ·have a4':(Qm9 pa id).2=false:=by cases hc:(Qm9 pa id).2<;>simp [hc] at a4 ⊢
     rw [a4',nf,cond_true,if_pos rfl];rfl
   ·rw [if_neg a1,if_pos (by simp [a1])];rfl
  rw [Z09 k5,if_neg k5]
  split<;>rfl
theorem Zgm {N:Int} {t:Tie} (h:TOk N t) (hN:N+1≤562949953421312) {m:Qk7} (hm:MSm m) (lo':Int):Qm4 t m lo'=some (((Qsz t m lo').1,(Qsz t m lo').2,()),()):=by
 have c1:=Zcw h hN hm lo'
 have c2:=Zcw (Zf7 h (s:=0) (by have:=h.now;omega)) hN hm lo'
 have hl:=h.kids.len
 obtain ⟨id,inc,now,par,pinc,grand,path,ep,born,asked,til,step,kids⟩:=t
 obtain ⟨kd,fr,to,mi,me,ag,pa,lo,hi,tx⟩:=m
 dsimp only at hl
 unfold Qm4
 rw [Qsz]
 dsimp only [g3,g4,g5,g6,g7,g8,g9,g10,g11,g12,h3,h4,h5,h6,h7,h8,h9,h10,h11,h12,u0,u1,u2,u3,u4,u5,u6,u7,u8,u9,u10,u11,u12,e1,e2,e3,e4,e5,e6,e7,e8,e9,e10,e11,e12,Qk7.kd,Qk7.fr,Qk7.to,Qk7.inc,Qk7.ep,Qk7.ag,Qk7.pa,Qk7.lo,Qk7.hi,Qk7.tx]
 rw [Zhj _ _ _ (by omega)]
 dsimp only [Option.bind_some]
 cases ho:Zor kids fr mi with
 | true=>rw [cond_true,if_pos (.inl rfl)]
 | false=>
  rw [cond_false]
  have J10:Qt5 (kd,fr,to,mi,me,ag,pa,lo,hi,tx) (id,inc,now,par,pinc,grand,path,ep,born,asked,til,step,kids) lo'=bif fr==par then bif decide (mi>pinc) then Qm6 (Zn9 (id,inc,now,par,pinc,grand,path,ep,born,asked,til,step,kids) 0) (kd,fr,to,mi,me,ag,pa,lo,hi,tx) lo' else Qm6 (id,inc,now,par,pinc,grand,path,ep,born,asked,til,step,kids) (kd,fr,to,mi,me,ag,pa,lo,hi,tx) lo' else Qm6 (id,inc,now,par,pinc,grand,path,ep,born,asked,til,step,kids) (kd,fr,to,mi,me,ag,pa,lo,hi,tx) lo':=rfl
  rw [J10,c1,c2]
  by_cases a1:fr=par
  ·rw [Z2y a1]
   by_cases a2:mi<pinc
   ·rw [cdp a2,if_pos (.inr ⟨a1,a2⟩)]
   ·rw [cdn a2,if_neg (by simp [a2]),Z2y a1]
    by_cases a3:pinc<mi
    ·rw [cdp a3,if_pos ⟨a1,a3⟩]
    ·rw [cdn a3,if_neg (by simp [a3])]
  ·rw [Z09 a1,if_neg (by simp [a1]),Z09 a1,if_neg (by simp [a1])]
end Go.PE
