/-
  Plain lemmas on the functions.
  Conditions: none.
-/
import Derived.Test.YtmfiijdlhjajcaaGreatDoorNodeAllPMsgRef
set_option linter.unusedVariables false
set_option linter.unusedSimpArgs false
set_option maxRecDepth 20000
namespace Go.PE
theorem Zhu (n:Nat) (l:List Kid) (v:Int) (h6:l.length≤1000000000):∀ (k m i:Nat),i+k=l.length→k<m →
  Qsl n m l v (i:Int) 0 0 0=some ((match Qwx (l.drop i) v with | some x=>(x,true,()) | none=>((0,0,0),false,())),())
 | k,0,i,_,h=>by omega
 | 0,m+1,i,hk,h=>by
  show Qq2 (Qsl n m) l v (i:Int) 0 0 0=_
  unfold Qq2
  rw [cdn (by omega),List.drop_eq_nil_of_le (by omega)];rfl
 | k+1,m+1,i,hk,h=>by
  show Qq2 (Qsl n m) l v (i:Int) 0 0 0=_
  have hi:i<l.length:=by omega
  unfold Qq2
  rw [cdp (by omega),ct (idx (by omega)),ct (idx (by omega)),Qkb,Qkq hi,Qoq (by omega),ceq,List.drop_eq_getElem_cons hi]
  show _=some ((match (if kid l[i]=v then some l[i] else Qwx (l.drop (i+1)) v) with | some x=>(x,true,()) | none=>((0,0,0),false,())),())
  by_cases hv:l[i].1=v
  ·rw [if_pos hv,if_pos hv]
  ·rw [if_neg hv,if_neg hv,Zhu n l v h6 k m (i+1) (by omega) (by omega)]
theorem Zbm (l:List Kid) (v:Int) (h6:l.length≤1000000000):Qpk l v=some ((match Qwx l v with | some x=>(x,true,()) | none=>((0,0,0),false,())),()):=by
 have:=Zhu 1099511627776 l v h6 l.length 1099511627776 0 (by omega) (by omega)
 rw [List.drop_zero] at this
 exact this
theorem Zq6 (l:List Kid) (id inc:Int) (h6:l.length≤1000000000):Qy5 l id inc=some ((Zyl l id inc,()),()):=by
 unfold Qy5 Zyl
 rw [Zbm l id h6]
 cases Qwx l id<;>rfl
theorem Zb8 (n:Nat) (l:List Kid) (v:Int) (h6:l.length≤1000000):∀ (k m i:Nat) (a:List Kid),i+k=l.length→k<m→a.length≤i →
  Qsv n m l v (i:Int) a=some ((a++Z3e kid v (l.drop i),()),())
 | k,0,i,a,_,h,_=>by omega
 | 0,m+1,i,a,hk,h,ha=>by
  show Qpt (Qsv n m) l v (i:Int) a=_
  unfold Qpt
  rw [cdn (by omega),List.drop_eq_nil_of_le (by omega)];simp [Z3e]
 | k+1,m+1,i,a,hk,h,ha=>by
  show Qpt (Qsv n m) l v (i:Int) a=_
  have hi:i<l.length:=by omega
  unfold Qpt
  rw [cdp (by omega),ct (idx (by omega)),ct (idx (by omega)),Qkb,Qkq hi,Qoq (by omega),Z8q,List.drop_eq_getElem_cons hi]
  by_cases hv:l[i].1=v
  ·rw [if_pos hv,Zb8 n l v h6 k m (i+1) a (by omega) (by omega) (by omega)]
   have:Z3e kid v (l[i]::l.drop (i+1))=Z3e kid v (l.drop (i+1)):=by unfold Z3e;rw [List.filter_cons,if_neg (by simp [hv])]
   rw [this]
  ·rw [if_neg hv,cbp (by omega),Zb8 n l v h6 k m (i+1) _ (by omega) (by omega) (by rw [List.length_append,List.length_singleton];omega)]
   have:Z3e kid v (l[i]::l.drop (i+1))=l[i]::Z3e kid v (l.drop (i+1)):=by unfold Z3e;rw [List.filter_cons,if_pos (bne_iff_ne.2 hv)]
   rw [this,List.append_assoc];rfl
theorem Znh (l:List Kid) (v:Int) (h6:l.length≤1000000):Qw7 l v=some ((Z3e kid v l,()),()):=by
 have:=Zb8 1099511627776 l v h6 l.length 1099511627776 0 [] (by omega) (by omega) (by simp)
 rw [List.drop_zero,List.nil_append] at this
 exact this
theorem Z99 (n:Nat) (l:List Kid) (v:Int) (b:0≤v∧v≤1125899906842624) (hr:∀ x∈l,0≤x.2.2∧x.2.2≤1125899906842624) (h6:l.length≤1000000):∀ (k m i:Nat) (a:List Kid),i+k=l.length→k<m→a.length≤i →
  Qrd n m l v (i:Int) a=some ((a++Z02 (l.drop i) v,()),())
 | k,0,i,a,_,h,_=>by omega
 | 0,m+1,i,a,hk,h,ha=>by
  show Qox (Qrd n m) l v (i:Int) a=_
  unfold Qox
  rw [cdn (by omega),List.drop_eq_nil_of_le (by omega)];simp [Z02]
 | k+1,m+1,i,a,hk,h,ha=>by
  show Qox (Qrd n m) l v (i:Int) a=_
  have hi:i<l.length:=by omega
  have hx:=hr _ (List.getElem_mem hi)
  unfold Qox
  rw [cdp (by omega),ct (idx (by omega)),ct (idx (by omega)),Qkb,Qkq hi,Qoq (by omega),Qor (by omega) (by omega),cp,List.drop_eq_getElem_cons hi]
  by_cases hv:v - l[i].2.2≤20
  ·rw [if_pos hv,cbp (by omega),Z99 n l v b hr h6 k m (i+1) _ (by omega) (by omega) (by rw [List.length_append,List.length_singleton];omega)]
   have:Z02 (l[i]::l.drop (i+1)) v=l[i]::Z02 (l.drop (i+1)) v:=by unfold Z02;rw [List.filter_cons,if_pos (decide_eq_true hv)]
   rw [this,List.append_assoc];rfl
  ·rw [if_neg hv,Z99 n l v b hr h6 k m (i+1) a (by omega) (by omega) (by omega)]
   have:Z02 (l[i]::l.drop (i+1)) v=Z02 (l.drop (i+1)) v:=by unfold Z02;rw [List.filter_cons,if_neg (by simp [hv])]
   rw [this]
theorem Zsv {l:List Kid} (h:KOk l) (v:Int) (a:0≤v∧v≤1125899906842624):Z3o l v=some ((Z02 l v,()),()):=by
 have hl:=h.len
 have:=Z99 1099511627776 l v a (fun x hx=>by have:=h.rng x hx;omega) (by omega) l.length 1099511627776 0 [] (by omega) (by omega) (by simp)
 rw [List.drop_zero,List.nil_append] at this
 exact this
theorem Zth {α:Type} (l:List α) (a b:Nat):Qd (List.take a (List.drop b (List.map some l)))=some ((l.drop b).take a):=by
 rw [← List.map_drop,← List.map_take,Q6i]
theorem Zi2 (n:Nat) (l:List Kid) (a b c:Int) (h6:l.length≤1000000):∀ (k m i:Nat),i+k=l.length→k<m→(∀ y∈l.take i,y.1≤a) →
  Qpz n m (i:Int) a b c l=some ((l.take i++Zr2 kid (a,b,c) (l.drop i),true,()),())
 | k,0,i,_,h,_=>by omega
 | 0,m+1,i,hk,h,ha=>by
  show Qqa (Qpz n m) (i:Int) a b c l=_
  unfold Qqa
  rw [cdn (by omega),cbp (by omega),List.drop_eq_nil_of_le (by omega),List.take_of_length_le (by omega)];rfl
 | k+1,m+1,i,hk,h,ha=>by
  show Qqa (Qpz n m) (i:Int) a b c l=_
  have hi:i<l.length:=by omega
  unfold Qqa
  rw [cdp (by omega),ct (idx (by omega)),ct (idx (by omega)),Qkb,Qkq hi,Qoq (by omega),cp]
  by_cases hv:a<l[i].1
  ·rw [if_pos hv]
   have e1:((i:Int) - 0).toNat=i:=by omega
   have e2:(((l.length:Nat):Int) - (i:Int)).toNat=l.length - i:=by omega
   have e3:(List.map some l).length=l.length:=List.length_map ..
   rw [e1,e2,e3,ct (bt (by omega) (by omega)),Zth,List.drop_zero]
   rw [show Nat.ble (0+i) l.length=true from Nat.ble_eq_true_of_le (by omega),cond_true]
   dsimp only [Option.bind_some]
   rw [cbp (by rw [List.length_take];omega),List.nil_append,cbp (by rw [List.length_take];omega)]
   rw [ct (by simp;omega),show Nat.ble (0+i+(l.length - i)) l.length=true from Nat.ble_eq_true_of_le (by omega),cond_true,Nat.zero_add,Zth]
   dsimp only [Option.bind_some]
   rw [cbp (by simp;omega),List.take_of_length_le (l:=l.drop i) (by rw [List.length_drop];omega),List.append_assoc]
   have e4:Zr2 kid (a,b,c) (l.drop i)=(a,b,c)::l.drop i:=by
    rw [List.drop_eq_getElem_cons hi];exact if_pos hv
   rw [e4];rfl
  ·rw [if_neg hv,Zi2 n l a b c h6 k m (i+1) (by omega) (by omega) (fun y hy=>by
    rw [List.take_succ_eq_append_getElem hi] at hy
    rcases List.mem_append.1 hy with hy | hy
    ·exact ha y hy
    ·rcases List.mem_singleton.1 hy with rfl;omega)]
   have e4:Zr2 kid (a,b,c) (l.drop i)=l[i]::Zr2 kid (a,b,c) (l.drop (i+1)):=by
    rw [List.drop_eq_getElem_cons hi];exact if_neg hv
   rw [e4,List.take_succ_eq_append_getElem hi,List.append_assoc];rfl
theorem Zoa (l:List Kid) (k:Kid) (h6:l.length≤1000000):∃ b,Qtz l k=some ((Z9d l k,b,()),()):=by
 show ∃ b,Qwv (Qpz 1099511627776 1099511627776) l k=_
 unfold Qwv Z9d
 rw [Zq6 l _ _ (by omega)]
 dsimp only [Option.bind_some]
 cases ho:Zyl l k.1 k.2.1 with
 | true=>rw [cond_true,if_pos rfl];exact ⟨_,rfl⟩
 | false=>
  rw [cond_false,if_neg (by simp),Znh l _ h6]
  dsimp only [Option.bind_some]
  have hl:(Z3e kid k.1 l).length≤l.length:=List.length_filter_le ..
  have:=Zi2 1099511627776 (Z3e kid k.1 l) k.1 k.2.1 k.2.2 (by omega) (Z3e kid k.1 l).length 1099511627776 0 (by omega) (by omega) (fun y hy=>by simp at hy)
  rw [List.take_zero,List.drop_zero,List.nil_append] at this
  exact ⟨true,this⟩
theorem Ztn (p:List Int) (h:p.length≤1000000):Qye p=some ((if p.length<2 then 0 else List.getD p (p.length - 2) 0,()),()):=by
 unfold Qye
 by_cases h2:p.length<2
 ·rw [cdp (by omega),if_pos h2]
 ·rw [cdn (by omega),if_neg h2,Qor (by omega) (by omega),ct (bt (by omega) (by omega)),show ((p.length:Int) - 2).toNat=p.length - 2 by omega]
theorem Zlo (p:List Int) (h:p.length≤1000000):Qrb p=some ((Zg3 p,()),()):=by
 unfold Qrb Zg3
 rw [Ztn p h]
 dsimp only [Option.bind_some]
 by_cases h2:p.length<2
 ·rw [if_pos h2,if_pos h2];rfl
 ·rw [if_neg h2,if_neg h2,ceq]
  split<;>rfl
theorem Zlg (id inc now gd:Int):Qwq id inc now gd=some ((Zxp id inc now gd,()),()):=by
 unfold Qwq Zxp
 rw [ceq];split<;>rfl
theorem Z26 (t:Tie) (k to:Int):Qk9 t k to=some ((Zwg t k to,()),()):=rfl
theorem Zpk (t:Tie) (s:Int):Qlo t s=some ((Zus t s,()),()):=rfl
theorem Zhb {N:Int} {t:Tie} (h:TOk N t) (k to:Int):Qon t k to=some ((Zuk t k to,()),()):=by
 unfold Qon
 rw [Z26]
 dsimp only [Option.bind_some]
 have hp:=h.pt
 have h1:=h.now
 have h2:=h.bn
 have h3:=h.big
 rw [cbp (by show 0+t.2.2.2.2.2.2.1.length≤_;omega),Qor (by show _≤t.2.2.1 - t.2.2.2.2.2.2.2.2.1;omega) (by show t.2.2.1 - t.2.2.2.2.2.2.2.2.1≤_;omega)]
 rfl
theorem Z2z {N:Int} {t:Tie} (h:TOk N t):Qlu t=some ((Qu3 t,()),()):=by
 obtain ⟨id,inc,now,par,pc,gd,pt,ep,bn,asked,til,sp,kids⟩:=t
 have h1:=h.now
 have h2:=h.bn
 have h3:=h.big
 simp only at h1 h2
 unfold Qlu
 dsimp only [g3,g4,g5,g6,g7,g8,g9,g10,g11,h3,h4,h5,h6,h9,h12,u0,u1,u2,u3,u4,u5,u6,u7,u8,u9,u10,u11,e1,e2,e3,e5,e9,e12]
 rw [Qor (by omega) (by omega),ceq,Z8q]
 simp only [Qu3]
 by_cases a:id=1
 ·rw [if_pos a];simp [a]
 ·rw [if_neg a]
  by_cases b:par=0
  ·rw [if_pos b];simp [a,b]
  ·rw [if_neg b];simp [a,b]
theorem Znv {N:Int} {t:Tie} (h:TOk N t) (hN:N+1≤562949953421312) {m:Qka} (hm:MSm m):Qmx t m=some (((Qyq t m).1,(Qyq t m).2,()),()):=by
 obtain ⟨id,inc,now,par,pc,gd,pt,ep,bn,asked,til,sp,kids⟩:=t
 obtain ⟨kd,fr,to,mi,me,ag,pa,lo,hi,tx⟩:=m
 have h1:=h.now
 have h2:=h.sp
 have h4:=h.asked
 have b:=hm.ag
 have c:=hm.fr
 have d:=hm.pa
 dsimp only [Qka.kd,Qka.fr,Qka.to,Qka.inc,Qka.ep,Qka.ag,Qka.pa,Qka.lo,Qka.hi,Qka.tx] at h1 h2 h4 b c d
 have J1:Qqx (id,inc,now,par,pc,gd,pt,ep,bn,asked,til,sp,kids) (kd,fr,to,mi,me,ag,pa,lo,hi,tx)=some (((id,inc,now,par,pc,gd,pt,ep,bn,0,til,sp+1,kids),[(6,id,fr,inc,0,0,[],0,0,ebA)],()),()):=by
  unfold Qqx
  dsimp only [g3,g4,g5,g6,g7,g8,g9,g10,g11,h3,h4,h5,h6,h9,h12,u0,u1,u2,u3,u4,u5,u6,u7,u8,u9,u10,u11,e1,e2,e3,e5,e9,e12]
  rw [Qor (by omega) (by omega)];rfl
 have J2:¬ (par≠0∧fr=par)→Qqq (id,inc,now,par,pc,gd,pt,ep,bn,asked,til,sp,kids) (kd,fr,to,mi,me,ag,pa,lo,hi,tx)=some (((Qyq (id,inc,now,par,pc,gd,pt,ep,bn,asked,til,sp,kids) (kd,fr,to,mi,me,ag,pa,lo,hi,tx)).1,(Qyq (id,inc,now,par,pc,gd,pt,ep,bn,asked,til,sp,kids) (kd,fr,to,mi,me,ag,pa,lo,hi,tx)).2,()),()):=by
  intro hn
  rw [Qyq]
  unfold Qqq
  dsimp only [g3,g4,g5,g6,g7,g8,g9,g10,g11,h3,h4,h5,h6,h9,h12,u0,u1,u2,u3,u4,u5,u6,u7,u8,u9,u10,u11,e1,e2,e3,e5,e9,e12,Qka.kd,Qka.fr,Qka.to,Qka.inc,Qka.ep,Qka.ag,Qka.pa,Qka.lo,Qka.hi,Qka.tx]
  rw [if_neg hn,ceq,Z8q]
  by_cases a1:asked=0
  ·rw [if_pos a1,if_pos (.inl a1)];rfl
  rw [if_neg a1]
  by_cases a2:asked=fr
  ·rw [if_pos a2,Z8q]
   by_cases a3:par=0
   ·rw [if_pos a3,if_neg (by omega),Z5s _ _ (by omega)]
    dsimp only [Option.bind_some]
    by_cases a4:(Qn0 pa id).2=true
    ·rw [a4,nt,cond_false]
     by_cases a5:20<ag
     ·rw [cdp a5,J1,if_pos (.inr a5)]
     ·rw [cdn a5,if_neg (by simp [a5]),Zlo _ (by omega)]
      dsimp only [Option.bind_some]
      rw [Qor (by omega) (by omega)]
    ·have a:(Qn0 pa id).2=false:=by cases hc:(Qn0 pa id).2<;>simp [hc] at a4 ⊢
     rw [a,nf,cond_true,J1,if_pos (.inl rfl)]
   ·rw [if_neg a3,if_pos (.inr (.inr a3))];rfl
  ·rw [if_neg a2,if_pos (.inr (.inl a2))];rfl
 unfold Qmx
 dsimp only [g3,g4,g5,g6,g7,g8,g9,g10,g11,h3,h4,h5,h6,h9,h12,u0,u1,u2,u3,u4,u5,u6,u7,u8,u9,u10,u11,e1,e2,e3,e5,e9,e12]
 rw [Z8q]
 by_cases a1:par=0
 ·rw [if_pos a1,J2 (by simp [a1])]
 ·rw [if_neg a1,ceq]
  by_cases a2:fr=par
  ·rw [if_pos a2,Qyq,if_pos ⟨a1,a2⟩]
  ·rw [if_neg a2,J2 (by simp [a2])]
theorem Zl2 {N:Int} {t:Tie} (h:TOk N t) (hN:N+1≤562949953421312) {m:Qka} (hm:MSm m) (a:Int):Qmw t m a=some (((Z5o t m a).1,(Z5o t m a).2,()),()):=by
 have g:=Znv h hN hm
 have i:=Z2z h
 have hl:=h.kids.len
 obtain ⟨id,inc,now,par,pc,gd,pt,ep,bn,asked,til,sp,kids⟩:=t
 obtain ⟨kd,fr,to,mi,me,ag,pa,lo,hi,tx⟩:=m
 have h1:=h.now
 have h2:=h.sp
 have h3:=h.pt
 have h4:=h.asked
 have h5:=h.one
 have h0:=h.par
 have j:=hm.ag
 have k:=hm.fr
 have n:=hm.pa
 have l:=hm.inc
 dsimp only [Qka.kd,Qka.fr,Qka.to,Qka.inc,Qka.ep,Qka.ag,Qka.pa,Qka.lo,Qka.hi,Qka.tx] at h0 h1 h2 h3 h4 h5 j k n l hl
 have hk:=h.kids
 dsimp only at hk
 have c:∀ q,KOk q→Qon (id,inc,now,par,pc,gd,pt,ep,bn,asked,til,sp,q) 2 fr=some ((Zuk (id,inc,now,par,pc,gd,pt,ep,bn,asked,til,sp,q) 2 fr,()),()):=fun q hq=>Zhb (N:=N) (t:=(id,inc,now,par,pc,gd,pt,ep,bn,asked,til,sp,q)) ⟨h.id,h.inc,h.now,h.par,h.pc,h.gd,h.pt,h.ep,h.bn,h.asked,h.til,h.sp,hq,h.big,h.one⟩ 2 fr
 have J5:Qof (id,inc,now,par,pc,gd,pt,ep,bn,asked,til,sp,kids) (kd,fr,to,mi,me,ag,pa,lo,hi,tx) a=some (((id,inc,now,par,pc,gd,pt,ep,bn,asked,til,sp,Z9d kids (fr,mi,now)),[(2,id,fr,inc,ep,now - bn,pt,a,0,ebA)],()),()):=by
  unfold Qof
  dsimp only [g3,g4,g5,g6,g7,g8,g9,g10,g11,h3,h4,h5,h6,h9,h12,u0,u1,u2,u3,u4,u5,u6,u7,u8,u9,u10,u11,e1,e2,e3,e5,e9,e12]
  obtain ⟨b,hb⟩:=Zoa kids (fr,mi,now) (by omega)
  rw [hb]
  dsimp only [Option.bind_some]
  rw [c _ (hk.hear (by dsimp only;omega))]
  rfl
 have J6:Qtk (id,inc,now,par,pc,gd,pt,ep,bn,asked,til,sp,kids) (kd,fr,to,mi,me,ag,pa,lo,hi,tx) a=if Qu3 (id,inc,now,par,pc,gd,pt,ep,bn,asked,til,sp,kids)=false∨fr∈pt∨(Qwx kids fr=none∧Zr9 id≤(kids.length:Int)) then some (((id,inc,now,par,pc,gd,pt,ep,bn,asked,til,sp,kids),[(3,id,fr,inc,0,0,[],0,0,ebA)],()),())
   else some (((id,inc,now,par,pc,gd,pt,ep,bn,asked,til,sp,Z9d kids (fr,mi,now)),[(2,id,fr,inc,ep,now - bn,pt,a,0,ebA)],()),()):=by
  unfold Qtk
  dsimp only [g3,g4,g5,g6,g7,g8,g9,g10,g11,h3,h4,h5,h6,h9,h12,u0,u1,u2,u3,u4,u5,u6,u7,u8,u9,u10,u11,e1,e2,e3,e5,e9,e12]
  rw [Zbm _ _ (by omega)]
  dsimp only [Option.bind_some]
  rw [i,Zzr _ _ (by omega)]
  dsimp only [Option.bind_some]
  rw [J5]
  have e:∀ q:Int,(bif !Qu3 (id,inc,now,par,pc,gd,pt,ep,bn,asked,til,sp,kids) then some (((id,inc,now,par,pc,gd,pt,ep,bn,asked,til,sp,kids),[(3,id,fr,inc,0,0,[],0,0,ebA)],()),()) else bif decide (fr∈pt) then some (((id,inc,now,par,pc,gd,pt,ep,bn,asked,til,sp,kids),[(3,id,fr,inc,0,0,[],0,0,ebA)],()),())
    else bif !(match Qwx kids fr with | some x=>(x,true,()) | none=>((0,0,0),false,())).2.1 then (bif decide ((kids.length:Int) ≥ q) then some (((id,inc,now,par,pc,gd,pt,ep,bn,asked,til,sp,kids),[(3,id,fr,inc,0,0,[],0,0,ebA)],()),()) else some (((id,inc,now,par,pc,gd,pt,ep,bn,asked,til,sp,Z9d kids (fr,mi,now)),[(2,id,fr,inc,ep,now - bn,pt,a,0,ebA)],()),()))
    else some (((id,inc,now,par,pc,gd,pt,ep,bn,asked,til,sp,Z9d kids (fr,mi,now)),[(2,id,fr,inc,ep,now - bn,pt,a,0,ebA)],()),()))=(if Qu3 (id,inc,now,par,pc,gd,pt,ep,bn,asked,til,sp,kids)=false∨fr∈pt∨(Qwx kids fr=none∧q≤(kids.length:Int)) then some (((id,inc,now,par,pc,gd,pt,ep,bn,asked,til,sp,kids),[(3,id,fr,inc,0,0,[],0,0,ebA)],()),())
   else some (((id,inc,now,par,pc,gd,pt,ep,bn,asked,til,sp,Z9d kids (fr,mi,now)),[(2,id,fr,inc,ep,now - bn,pt,a,0,ebA)],()),()):Option (((Tie) × (List (Qka)) × Unit) × Unit)):=by
   intro q
   cases Qu3 (id,inc,now,par,pc,gd,pt,ep,bn,asked,til,sp,kids) with
   | false=>rw [if_pos (.inl rfl)];rfl
   | true=>
    rw [nt,cond_false,cp]
    by_cases a1:fr∈pt
    ·rw [if_pos a1,if_pos (.inr (.inl a1))]
    ·rw [if_neg a1]
     cases hf:Qwx kids fr with
     | some x=>rw [if_neg (by simp [a1])];rfl
     | none=>
      dsimp only
      rw [nf,cond_true,cp]
      by_cases a2:q≤(kids.length:Int)
      ·rw [if_pos a2,if_pos (.inr (.inr ⟨rfl,a2⟩))]
      ·rw [if_neg a2,if_neg (by simp [a1];omega)]
  by_cases a0:id=1
  ·rw [Z65 a0,show Zr9 id=8 from if_pos a0];exact e 8
  ·rw [Z3n a0,show Zr9 id=3 from if_neg a0];exact e 3
 have J7:Qt5 (id,inc,now,par,pc,gd,pt,ep,bn,asked,til,sp,kids) (kd,fr,to,mi,me,ag,pa,lo,hi,tx)=if Qwx kids fr=none then some (((id,inc,now,par,pc,gd,pt,ep,bn,asked,til,sp,kids),[(3,id,fr,inc,0,0,[],0,0,ebA)],()),()) else some (((id,inc,now,par,pc,gd,pt,ep,bn,asked,til,sp,Z9d kids (fr,mi,now)),[],()),()):=by
  unfold Qt5
  dsimp only [g3,g4,g5,g6,g7,g8,g9,g10,g11,h3,h4,h5,h6,h9,h12,u0,u1,u2,u3,u4,u5,u6,u7,u8,u9,u10,u11,e1,e2,e3,e5,e9,e12]
  rw [Zbm _ _ (by omega)]
  dsimp only [Option.bind_some]
  cases hf:Qwx kids fr with
  | none=>rfl
  | some x=>
   rw [nt,cond_false,if_neg (by simp)]
   obtain ⟨b,hb⟩:=Zoa kids (fr,mi,now) (by omega)
   rw [hb];rfl
 have J8:Qtf (kd,fr,to,mi,me,ag,pa,lo,hi,tx) (id,inc,now,par,pc,gd,pt,ep,bn,asked,til,sp,kids)=if kd=6 then some (((id,inc,now,par,pc,gd,pt,ep,bn,asked,til,sp,Z3e kid fr kids),[],()),()) else some (((id,inc,now,par,pc,gd,pt,ep,bn,asked,til,sp,kids),[],()),()):=by
  unfold Qtf
  dsimp only [g3,g4,g5,g6,g7,g8,g9,g10,g11,h3,h4,h5,h6,h9,h12,u0,u1,u2,u3,u4,u5,u6,u7,u8,u9,u10,u11,e1,e2,e3,e5,e9,e12]
  rw [ceq,Znh _ _ (by omega)]
  rfl
 unfold Qmw
 rw [Z5o,J6,J7,J8]
 dsimp only [g3,g4,g5,g6,g7,g8,g9,g10,g11,h3,h4,h5,h6,h9,h12,u0,u1,u2,u3,u4,u5,u6,u7,u8,u9,u10,u11,e1,e2,e3,e5,e9,e12,Qka.kd,Qka.fr,Qka.to,Qka.inc,Qka.ep,Qka.ag,Qka.pa,Qka.lo,Qka.hi,Qka.tx]
 rw [g]
 simp only [Zpk,Z26,Option.bind_some]
 rw [Qor (x:=sp+1) (by omega) (by omega),Qor (x:=now - ag) (by omega) (by omega),Z5s _ _ (by omega),Zlo _ (by omega)]
 simp only [Option.bind_some]
 by_cases p:par=0
 ·rw [Zqu p]
  by_cases k1:kd=1
  ·rw [Z65 k1,if_pos k1];split<;>rfl
  rw [Z3n k1,if_neg k1]
  by_cases k2:kd=2
  ·rw [Z65 k2,if_pos k2]
  rw [Z3n k2,if_neg k2]
  by_cases k3:kd=3
  ·rw [Z65 k3,if_pos k3,if_neg (by simp [p]),Z8q,ceq]
   by_cases a1:asked=0
   ·rw [if_pos a1,if_neg (by simp [a1])]
   ·rw [if_neg a1]
    by_cases a2:asked=fr
    ·rw [if_pos a2,if_pos ⟨a1,a2⟩]
    ·rw [if_neg a2,if_neg (by simp [a2])]
  rw [Z3n k3,if_neg k3]
  by_cases k4:kd=4
  ·rw [Z65 k4,if_pos k4];split<;>rfl
  rw [Z3n k4,if_neg k4]
  by_cases k5:kd=5
  ·rw [Z65 k5,if_pos k5,if_pos (by simp [p])];rfl
  rw [Z3n k5,if_neg k5]
  split<;>rfl
 ·have d:=h5 p
  rw [Ztu p]
  by_cases k1:kd=1
  ·rw [Z65 k1,if_pos k1];split<;>rfl
  rw [Z3n k1,if_neg k1]
  by_cases k2:kd=2
  ·rw [Z65 k2,if_pos k2]
  rw [Z3n k2,if_neg k2]
  by_cases k3:kd=3
  ·rw [Z65 k3,if_pos k3,Zqu d,ceq]
   by_cases a1:fr=par
   ·rw [if_pos a1,if_pos ⟨p,a1⟩]
   ·rw [if_neg a1,if_neg (by simp [a1]),if_neg (by simp [d])]
  rw [Z3n k3,if_neg k3]
  by_cases k4:kd=4
  ·rw [Z65 k4,if_pos k4];split<;>rfl
  rw [Z3n k4,if_neg k4]
  by_cases k5:kd=5
  ·rw [Z65 k5,if_pos k5,X0g,ceq]
   by_cases a1:fr=par
   ·rw [if_pos a1,if_neg (by simp [p,a1])]
    by_cases a4:(Qn0 pa id).2=true
    ·rw [a4,nt,cond_false,if_neg (by simp),cp]
     split<;>rfl
    ·have f:(Qn0 pa id).2=false:=by cases hc:(Qn0 pa id).2<;>simp [hc] at a4 ⊢
     rw [f,nf,cond_true,if_pos rfl];rfl
   ·rw [if_neg a1,if_pos (by simp [a1])];rfl
  rw [Z3n k5,if_neg k5]
  split<;>rfl
theorem Zg8 {N:Int} {t:Tie} (h:TOk N t) (hN:N+1≤562949953421312) {m:Qka} (hm:MSm m) (a:Int):Qlr t m a=some (((Qt3 t m a).1,(Qt3 t m a).2,()),()):=by
 have c1:=Zl2 h hN hm a
 have c2:=Zl2 (Zmq h (s:=0) (by have:=h.now;omega)) hN hm a
 have hl:=h.kids.len
 obtain ⟨id,inc,now,par,pc,gd,pt,ep,bn,asked,til,sp,kids⟩:=t
 obtain ⟨kd,fr,to,mi,me,ag,pa,lo,hi,tx⟩:=m
 dsimp only at hl
 unfold Qlr
 rw [Qt3]
 dsimp only [g3,g4,g5,g6,g7,g8,g9,g10,g11,h3,h4,h5,h6,h9,h12,u0,u1,u2,u3,u4,u5,u6,u7,u8,u9,u10,u11,e1,e2,e3,e5,e9,e12,Qka.kd,Qka.fr,Qka.to,Qka.inc,Qka.ep,Qka.ag,Qka.pa,Qka.lo,Qka.hi,Qka.tx]
 rw [Zq6 _ _ _ (by omega)]
 dsimp only [Option.bind_some]
 cases ho:Zyl kids fr mi with
 | true=>rw [cond_true,if_pos (.inl rfl)]
 | false=>
  rw [cond_false]
  have b:Qwg (kd,fr,to,mi,me,ag,pa,lo,hi,tx) (id,inc,now,par,pc,gd,pt,ep,bn,asked,til,sp,kids) a=bif fr==par then bif decide (mi>pc) then Qmw (Zus (id,inc,now,par,pc,gd,pt,ep,bn,asked,til,sp,kids) 0) (kd,fr,to,mi,me,ag,pa,lo,hi,tx) a else Qmw (id,inc,now,par,pc,gd,pt,ep,bn,asked,til,sp,kids) (kd,fr,to,mi,me,ag,pa,lo,hi,tx) a else Qmw (id,inc,now,par,pc,gd,pt,ep,bn,asked,til,sp,kids) (kd,fr,to,mi,me,ag,pa,lo,hi,tx) a:=rfl
  rw [b,c1,c2]
  by_cases a1:fr=par
  ·rw [Z65 a1]
   by_cases a2:mi<pc
   ·rw [cdp a2,if_pos (.inr ⟨a1,a2⟩)]
   ·rw [cdn a2,if_neg (by simp [a2]),Z65 a1]
    by_cases a3:pc<mi
    ·rw [cdp a3,if_pos ⟨a1,a3⟩]
    ·rw [cdn a3,if_neg (by simp [a3])]
  ·rw [Z3n a1,if_neg (by simp [a1]),Z3n a1,if_neg (by simp [a1])]
theorem Zih (n:Nat) {N:Int} (id inc now par pc gd:Int) (pt:List Int) (ep bn asked til sp:Int) (kids:List Kid) (h:TOk N (id,inc,now,par,pc,gd,pt,ep,bn,asked,til,sp,kids)):∀ (k m i:Nat) (a:List Qka),i+k=kids.length→k<m→a.length≤1000+i →
  Qme n m (i:Int) id inc now par pc gd pt ep bn asked til sp kids 0 0 0 0 0 0 0 0 0 0 0 [] [] a=some (((id,inc,now,par,pc,gd,pt,ep,bn,asked,til,sp,kids),a++(if Qu3 (id,inc,now,par,pc,gd,pt,ep,bn,asked,til,sp,kids)=true then (kids.drop i).map fun k=>Zuk (id,inc,now,par,pc,gd,pt,ep,bn,asked,til,sp,kids) 5 k.1 else []),()),())
 | k,0,i,a,_,hm,_=>by omega
 | 0,m+1,i,a,hk,hm,ha=>by
  show Qp4 (Qme n m) (i:Int) id inc now par pc gd pt ep bn asked til sp kids 0 0 0 0 0 0 0 0 0 0 0 [] [] a=_
  unfold Qp4
  rw [cdn (by omega),List.drop_eq_nil_of_le (by omega)];simp
 | k+1,m+1,i,a,hk,hm,ha=>by
  show Qp4 (Qme n m) (i:Int) id inc now par pc gd pt ep bn asked til sp kids 0 0 0 0 0 0 0 0 0 0 0 [] [] a=_
  have hi:i<kids.length:=by omega
  have hl:=h.kids.len
  dsimp only at hl
  unfold Qp4
  rw [cdp (by omega),Z2z h]
  dsimp only [Option.bind_some]
  cases hf:Qu3 (id,inc,now,par,pc,gd,pt,ep,bn,asked,til,sp,kids) with
  | false=>rw [cond_false,if_neg (by simp),List.append_nil]
  | true=>
   rw [cond_true,ct (idx (by omega)),ct (idx (by omega)),Qkb,Qkq hi,Zhb h]
   dsimp only [Option.bind_some]
   rw [cbp (by omega),Qoq (by omega),Zih n id inc now par pc gd pt ep bn asked til sp kids h k m (i+1) _ (by omega) (by omega) (by rw [List.length_append,List.length_singleton];omega),hf,if_pos rfl,if_pos rfl,List.drop_eq_getElem_cons hi,List.map_cons,List.append_assoc];rfl
theorem Zga (n:Nat) {N:Int} (id inc now par pc gd:Int) (pt:List Int) (ep bn asked til sp:Int) (kids:List Kid) (h:TOk N (id,inc,now,par,pc,gd,pt,ep,bn,asked,til,sp,kids)):∀ (k m i:Nat) (a:List Qka),i+k=kids.length→k<m→a.length≤1000+i →
  Qmd n m (i:Int) id inc now par pc gd pt ep bn asked til sp kids 0 0 0 0 0 0 0 0 0 0 0 [] [] a=some (((id,inc,now,par,pc,gd,pt,ep,bn,asked,til,sp,kids),a++(if Qu3 (id,inc,now,par,pc,gd,pt,ep,bn,asked,til,sp,kids)=true then (kids.drop i).map fun k=>Zuk (id,inc,now,par,pc,gd,pt,ep,bn,asked,til,sp,kids) 5 k.1 else []),()),())
 | k,0,i,a,_,hm,_=>by omega
 | 0,m+1,i,a,hk,hm,ha=>by
  show Qp0 (Qmd n m) (i:Int) id inc now par pc gd pt ep bn asked til sp kids 0 0 0 0 0 0 0 0 0 0 0 [] [] a=_
  unfold Qp0
  rw [cdn (by omega),List.drop_eq_nil_of_le (by omega)];simp
 | k+1,m+1,i,a,hk,hm,ha=>by
  show Qp0 (Qmd n m) (i:Int) id inc now par pc gd pt ep bn asked til sp kids 0 0 0 0 0 0 0 0 0 0 0 [] [] a=_
  have hi:i<kids.length:=by omega
  have hl:=h.kids.len
  dsimp only at hl
  unfold Qp0
  rw [cdp (by omega),Z2z h]
  dsimp only [Option.bind_some]
  cases hf:Qu3 (id,inc,now,par,pc,gd,pt,ep,bn,asked,til,sp,kids) with
  | false=>rw [cond_false,if_neg (by simp),List.append_nil]
  | true=>
   rw [cond_true,ct (idx (by omega)),Qkb,Qkq hi,Zhb h]
   dsimp only [Option.bind_some]
   rw [cbp (by omega),Qoq (by omega),Zga n id inc now par pc gd pt ep bn asked til sp kids h k m (i+1) _ (by omega) (by omega) (by rw [List.length_append,List.length_singleton];omega),hf,if_pos rfl,if_pos rfl,List.drop_eq_getElem_cons hi,List.map_cons,List.append_assoc];rfl
noncomputable def Zur (L:Qkh) (t:Tie) (ms:List Qka):Option (((Tie) × (List Qka) × Unit) × Unit):=
 bif !((Int.tmod t.2.2.1 2)==0) then some ((t,ms,()),()) else
 bif t.2.2.2.1 != 0 then Option.bind (Qk9 t 4 t.2.2.2.1) fun r=>L 0 t.1 t.2.1 t.2.2.1 t.2.2.2.1 t.2.2.2.2.1 t.2.2.2.2.2.1 t.2.2.2.2.2.2.1 t.2.2.2.2.2.2.2.1 t.2.2.2.2.2.2.2.2.1 t.2.2.2.2.2.2.2.2.2.1 t.2.2.2.2.2.2.2.2.2.2.1 t.2.2.2.2.2.2.2.2.2.2.2.1 t.2.2.2.2.2.2.2.2.2.2.2.2 0 0 0 0 0 0 0 0 0 0 0 [] [] (ms++[r.1.1])
 else L 0 t.1 t.2.1 t.2.2.1 t.2.2.2.1 t.2.2.2.2.1 t.2.2.2.2.2.1 t.2.2.2.2.2.2.1 t.2.2.2.2.2.2.2.1 t.2.2.2.2.2.2.2.2.1 t.2.2.2.2.2.2.2.2.2.1 t.2.2.2.2.2.2.2.2.2.2.1 t.2.2.2.2.2.2.2.2.2.2.2.1 t.2.2.2.2.2.2.2.2.2.2.2.2 0 0 0 0 0 0 0 0 0 0 0 [] [] ms
theorem X00 {N:Int} {t:Tie} (h:TOk N t) (n m:Nat) (hm:100<m) (ms:List Qka) (hs:ms.length≤100):Zur (Qme n m) t ms=some ((t,ms++Zju t,()),()):=by
 obtain ⟨id,inc,now,par,pc,gd,pt,ep,bn,asked,til,sp,kids⟩:=t
 have h1:=h.now
 have hl:=h.kids.len
 dsimp only at h1 hl
 have lp:=fun c ha=>Zih n id inc now par pc gd pt ep bn asked til sp kids h kids.length m 0 c (by omega) (by omega) ha
 unfold Zur
 dsimp only
 rw [Int.tmod_eq_emod_of_nonneg h1.1]
 unfold Zju
 dsimp only
 by_cases a:now % 2=0
 ·rw [if_pos a,X0g,Z65 a]
  by_cases b:par=0
  ·rw [Zqu b,if_neg (by simp [b])]
   exact lp ms (by omega)
  ·rw [Ztu b,if_pos b,Z26]
   dsimp only [Option.bind_some]
   rw [← List.append_assoc]
   exact lp (ms++[Zwg (id,inc,now,par,pc,gd,pt,ep,bn,asked,til,sp,kids) 4 par]) (by rw [List.length_append,List.length_singleton];omega)
 ·rw [if_neg a,X0g,Z3n a,List.append_nil]
theorem Zz3 {N:Int} {t:Tie} (h:TOk N t) (n m:Nat) (hm:100<m) (ms:List Qka) (hs:ms.length≤100):Zur (Qmd n m) t ms=some ((t,ms++Zju t,()),()):=by
 obtain ⟨id,inc,now,par,pc,gd,pt,ep,bn,asked,til,sp,kids⟩:=t
 have h1:=h.now
 have hl:=h.kids.len
 dsimp only at h1 hl
 have lp:=fun c ha=>Zga n id inc now par pc gd pt ep bn asked til sp kids h kids.length m 0 c (by omega) (by omega) ha
 unfold Zur
 dsimp only
 rw [Int.tmod_eq_emod_of_nonneg h1.1]
 unfold Zju
 dsimp only
 by_cases a:now % 2=0
 ·rw [if_pos a,X0g,Z65 a]
  by_cases b:par=0
  ·rw [Zqu b,if_neg (by simp [b])]
   exact lp ms (by omega)
  ·rw [Ztu b,if_pos b,Z26]
   dsimp only [Option.bind_some]
   rw [← List.append_assoc]
   exact lp (ms++[Zwg (id,inc,now,par,pc,gd,pt,ep,bn,asked,til,sp,kids) 4 par]) (by rw [List.length_append,List.length_singleton];omega)
 ·rw [if_neg a,X0g,Z3n a,List.append_nil]
theorem Zta {N:Int} {t:Tie} (h:TOk N t) (hN:N+1≤562949953421312) (L M:Qkh):Qpp L M t=Zur L (Qzq t).1 (Qzq t).2∨Qpp L M t=Zur M (Qzq t).1 (Qzq t).2:=by
 have hp:=fun v hv=>Zsv h.kids v hv
 have h0:=Zrb h hN
 obtain ⟨id,inc,now,par,pc,gd,pt,ep,bn,asked,til,sp,kids⟩:=t
 have h1:=h.now
 have h2:=h.sp
 have h3:=h.ep
 have h4:=h.bn
 dsimp only at h1 h2 h3 h4 hp
 have w1:wJ (now+1)=now+1:=Qor (by omega) (by omega)
 have w2:wJ (now+1+3)=now+1+3:=Qor (by omega) (by omega)
 have w3:wJ (sp+1)=sp+1:=Qor (by omega) (by omega)
 have w4:wJ (ep+1)=ep+1:=Qor (by omega) (by omega)
 have f:¬ sp+1=0:=by omega
 generalize hkk:Z02 kids (now+1)=kk at *
 have J1:Qrh (id,inc,now,par,pc,gd,pt,ep,bn,asked,til,sp,kids) ((kk,()),()) L=Zur L (id,inc,now+1,par,pc,gd,pt,ep,bn,asked,til,sp,kk) []:=by
  unfold Qrh
  dsimp only [g3,g4,g5,g6,g7,g8,g9,g10,g11,h3,h4,h5,h6,h9,h12,u0,u1,u2,u3,u4,u5,u6,u7,u8,u9,u10,u11,e1,e2,e3,e5,e9,e12]
  rw [w1];rfl
 have J3:Qri (((id,inc,now+1,0,0,gd,[],ep,bn,0,til,0,kk),()),()) (id,inc,now,par,pc,gd,pt,ep,bn,asked,til,sp,kids) M=Zur M (id,inc,now+1,0,0,gd,[],ep,bn,1,now+1+3,0,kk) [(1,id,1,inc,0,0,[],0,0,ebA)]:=by
  unfold Qri
  dsimp only [g3,g4,g5,g6,g7,g8,g9,g10,g11,h3,h4,h5,h6,h9,h12,u0,u1,u2,u3,u4,u5,u6,u7,u8,u9,u10,u11,e1,e2,e3,e5,e9,e12]
  rw [w1,w2];rfl
 have J6:Qre (id,inc,now,par,pc,gd,pt,ep,bn,asked,til,sp,kids) ((kk,()),()) L=Zur L (id,inc,now+1,par,pc,gd,pt,ep,bn,1,now+1+3,sp+1,kk) [(1,id,1,inc,0,0,[],0,0,ebA)]:=by
  unfold Qre
  dsimp only [g3,g4,g5,g6,g7,g8,g9,g10,g11,h3,h4,h5,h6,h9,h12,u0,u1,u2,u3,u4,u5,u6,u7,u8,u9,u10,u11,e1,e2,e3,e5,e9,e12]
  rw [w1,w2,w3];rfl
 have J7:Qrg (id,inc,now,par,pc,gd,pt,ep,bn,asked,til,sp,kids) ((kk,()),()) L=Zur L (id,inc,now+1,par,pc,gd,pt,ep,bn,1,now+1+3,sp,kk) [(1,id,1,inc,0,0,[],0,0,ebA)]:=by
  unfold Qrg
  dsimp only [g3,g4,g5,g6,g7,g8,g9,g10,g11,h3,h4,h5,h6,h9,h12,u0,u1,u2,u3,u4,u5,u6,u7,u8,u9,u10,u11,e1,e2,e3,e5,e9,e12]
  rw [w1,w2];rfl
 have J8:Qv0 (id,inc,now,par,pc,gd,pt,ep,bn,asked,til,sp,kids) ((kk,()),()) L=if asked=0 then Zur L (id,inc,now+1,par,pc,gd,pt,ep,bn,(if sp=0∧gd≠0∧gd≠id then gd else 1),now+1+3,sp,kk) [(1,id,(if sp=0∧gd≠0∧gd≠id then gd else 1),inc,0,0,[],0,0,ebA)]
   else Zur L (id,inc,now+1,par,pc,gd,pt,ep,bn,asked,til,sp,kk) []:=by
  unfold Qv0
  rw [J1,J7]
  dsimp only [g3,g4,g5,g6,g7,g8,g9,g10,g11,h3,h4,h5,h6,h9,h12,u0,u1,u2,u3,u4,u5,u6,u7,u8,u9,u10,u11,e1,e2,e3,e5,e9,e12]
  rw [ceq]
  by_cases a:asked=0
  ·rw [if_pos a,if_pos a,ceq]
   by_cases b:sp=0
   ·rw [if_pos b,Z8q]
    by_cases c:gd=0
    ·rw [if_pos c,if_neg (by simp [c])]
    ·rw [if_neg c,Z8q]
     by_cases d:gd=id
     ·rw [if_pos d,if_neg (by simp [d])]
     ·rw [if_neg d,if_pos ⟨b,c,d⟩,w1,w2];rfl
   ·rw [if_neg b,if_neg (by simp [b])]
  ·rw [if_neg a,if_neg a]
 have J9:Qum (id,inc,now,par,pc,gd,pt,ep,bn,asked,til,sp,kids) ((kk,()),()) L=Zur L (Zs1 (id,inc,now+1,par,pc,gd,pt,ep,bn,asked,til,sp,kk)).1 (Zs1 (id,inc,now+1,par,pc,gd,pt,ep,bn,asked,til,sp,kk)).2:=by
  unfold Qum
  rw [J1,J6,J8,Zs1]
  dsimp only [g3,g4,g5,g6,g7,g8,g9,g10,g11,h3,h4,h5,h6,h9,h12,u0,u1,u2,u3,u4,u5,u6,u7,u8,u9,u10,u11,e1,e2,e3,e5,e9,e12]
  rw [ceq]
  by_cases p:par=0
  ·rw [if_pos p,if_neg (show ¬ par≠0 from fun e=>e p),Z8q]
   by_cases a:asked=0
   ·rw [if_pos a,if_pos a,if_neg (show ¬ (asked≠0∧¬ til≤now+1) from fun e=>e.1 a)]
    dsimp only
    rw [if_pos a]
   ·rw [if_neg a,w1,w3,cp]
    by_cases b:til≤now+1
    ·rw [if_pos b,Z3n f,if_neg (show ¬ (asked≠0∧¬ til≤now+1) from fun e=>e.2 b)]
     dsimp only
     rw [if_neg a,if_neg (show ¬ (sp+1=0∧gd≠0∧gd≠id) from fun e=>f e.1)]
    ·rw [if_neg b,if_neg a,if_pos (show asked≠0∧¬ til≤now+1 from ⟨a,b⟩)]
  ·rw [if_neg p,if_pos p]
 unfold Qpp
 dsimp only [g3,g4,g5,g6,g7,g8,g9,g10,g11,h3,h4,h5,h6,h9,h12,u0,u1,u2,u3,u4,u5,u6,u7,u8,u9,u10,u11,e1,e2,e3,e5,e9,e12]
 rw [w1,hp (now+1) (by have:=h.big;omega)]
 dsimp only [Option.bind_some]
 rw [hkk,J1,J9,Int.tmod_eq_emod_of_nonneg (by omega),Qzq]
 dsimp only
 rw [ceq]
 by_cases c1:id=1
 ·refine .inl ?_
  rw [if_pos c1,if_pos c1,Zcj,if_pos c1,ceq,hkk]
  by_cases c2:(now+1) % 2=0
  ·rw [if_pos c2,if_pos c2,w4]
   show _=Zur L _ _
   unfold Zur
   dsimp only
   rw [Int.tmod_eq_emod_of_nonneg (by omega)];rfl
  ·rw [if_neg c2,if_neg c2]
 ·rw [if_neg c1,if_neg c1,Zcj,if_neg c1,Z8q,hkk]
  by_cases p:par=0
  ·refine .inl ?_
   rw [if_pos p,if_neg (show ¬ (par≠0∧¬ now+1 - bn≤20) from fun e=>e.1 p)]
  ·rw [if_neg p]
   have fr:=Z2z (N:=N+1) (t:=(id,inc,now+1,par,pc,gd,pt,ep,bn,asked,til,sp,kk)) ⟨h.id,h.inc,by dsimp only;omega,h.par,h.pc,h.gd,h.pt,by dsimp only;omega,by dsimp only;omega,h.asked,by have:=h.til;dsimp only at *;omega,by dsimp only;omega,by rw [← hkk];exact h.kids.filter _,hN,h.one⟩
   rw [fr]
   dsimp only [Option.bind_some]
   have ef:Qu3 (id,inc,now+1,par,pc,gd,pt,ep,bn,asked,til,sp,kk)=decide (now+1 - bn≤20):=by
    rw [Qu3];exact decide_eq_decide.2 ⟨fun e=>e.elim (fun e=>absurd e c1) (·.2),fun e=>.inr ⟨p,e⟩⟩
   rw [ef]
   by_cases c4:now+1 - bn≤20
   ·refine .inl ?_
    rw [decide_eq_true c4,nt,cond_false,if_neg (show ¬ (par≠0∧¬ now+1 - bn≤20) from fun e=>e.2 c4)]
   ·refine .inr ?_
    rw [decide_eq_false c4,nf,cond_true,if_pos (show par≠0∧¬ now+1 - bn≤20 from ⟨p,c4⟩),Zpk,Zus]
    dsimp only [Option.bind_some]
    rw [Z65 rfl,Zqu rfl]
    unfold Qyn
    rw [J3]
    dsimp only [g3,g4,g5,g6,g7,g8,g9,g10,g11,h3,h4,h5,h6,h9,h12,u0,u1,u2,u3,u4,u5,u6,u7,u8,u9,u10,u11,e1,e2,e3,e5,e9,e12]
    rw [Z65 rfl,Z65 rfl,Zs1,if_neg (show ¬ (0:Int)≠0 by decide),if_neg (show ¬ ((0:Int)≠0∧¬ til≤now+1) from fun e=>e.1 rfl)]
    dsimp only
    rw [if_pos rfl]
    by_cases c:gd=0
    ·rw [Zqu c,if_neg (show ¬ ((0:Int)=0∧gd≠0∧gd≠id) from fun e=>e.2.1 c)]
    ·rw [Ztu c]
     by_cases d:gd=id
     ·rw [Zqu d,if_neg (show ¬ ((0:Int)=0∧gd≠0∧gd≠id) from fun e=>e.2.2 d)]
     ·rw [Ztu d,if_pos ⟨rfl,c,d⟩,w2,w1];rfl
theorem Zrc (t:Tie):(Qzq t).2.length≤1:=by
 unfold Qzq
 split
 ·simp
 ·obtain ⟨id,inc,now,par,pc,gd,pt,ep,bn,asked,til,sp,kids⟩:=Zcj t
  rw [Zs1]
  split
  ·simp
  ·split<;>simp
theorem Zit {N:Int} {t:Tie} (h:TOk N t) (hN:N+1≤562949953421312):Qv8 t=some (((Qxr t).1,(Qxr t).2,()),()):=by
 have key:∀ n,100<n→Qpp (Qme n n) (Qmd n n) t=some (((Qxr t).1,(Qxr t).2,()),()):=by
  intro n hn
  have a:=Zrc t
  rcases Zta h hN (Qme n n) (Qmd n n) with e | e
  ·rw [e,X00 (Zmf h hN) n n hn _ (by omega)];rfl
  ·rw [e,Zz3 (Zmf h hN) n n hn _ (by omega)];rfl
 exact key 1099511627776 (by decide)
theorem OkM.msm {m:Qka} (h:OkM m):MSm m:=⟨h.fr,by have:=h.inc;omega,h.ep,h.ag,h.pl,h.lo,h.hi,h.tx⟩
theorem Zty (s:List Int × Int):Qnw s=some ((decide ((s.1.length:Int)≤s.2),()),(s,())):=rfl
def Zaf (t:Tie):Prop:=t.1=1→t.2.2.2.1=0∧t.2.2.2.2.2.2.2.2.2.1=0
theorem X03 (t:Tie):(Zs1 t).1.1=t.1∧(Zs1 t).1.2.1=t.2.1∧(Zs1 t).1.2.2.2.1=t.2.2.2.1:=by
 obtain ⟨id,inc,now,par,pc,gd,pt,ep,bn,asked,til,sp,kids⟩:=t
 rw [Zs1]
 split
 ·exact ⟨rfl,rfl,rfl⟩
 ·split<;>exact ⟨rfl,rfl,rfl⟩
theorem Zzf (t:Tie):(Zcj t).1=t.1∧(Zcj t).2.1=t.2.1∧(Zaf t→Zaf (Zcj t)):=by
 obtain ⟨id,inc,now,par,pc,gd,pt,ep,bn,asked,til,sp,kids⟩:=t
 rw [Zcj]
 split
 ·split<;>exact ⟨rfl,rfl,fun h=>h⟩
 ·rename_i h1
  split<;>exact ⟨rfl,rfl,fun _ h=>absurd h h1⟩
theorem Zry (t:Tie):(Qxr t).1.1=t.1∧(Qxr t).1.2.1=t.2.1∧(Zaf t→Zaf (Qxr t).1):=by
 obtain ⟨a,b,c⟩:=Zzf t
 show (Qzq t).1.1=t.1∧(Qzq t).1.2.1=t.2.1∧(Zaf t→Zaf (Qzq t).1)
 unfold Qzq
 split
 ·exact ⟨a,b,c⟩
 ·rename_i h
  obtain ⟨x,y,_⟩:=X03 (Zcj t)
  exact ⟨x.trans a,y.trans b,fun _ e=>absurd (x.symm.trans e |>.symm.trans (by omega) |>.symm) (fun e'=>h (a.symm.trans (x.symm.trans e)))⟩
theorem Zvd (t:Tie) (m:Qka) (lo:Int):(Z5o t m lo).1.1=t.1∧(Z5o t m lo).1.2.1=t.2.1∧(Zaf t→Zaf (Z5o t m lo).1):=by
 obtain ⟨id,inc,now,par,pc,gd,pt,ep,bn,asked,til,sp,kids⟩:=t
 obtain ⟨kd,fr,to,mi,me,ag,pa,l,hi,tx⟩:=m
 rw [Z5o]
 split
 ·split<;>exact ⟨rfl,rfl,fun h=>h⟩
 ·split
  ·rw [Qyq]
   split
   ·exact ⟨rfl,rfl,fun h=>h⟩
   ·split
    ·exact ⟨rfl,rfl,fun h=>h⟩
    ·rename_i h1 h2
     split
     ·exact ⟨rfl,rfl,fun h e=>⟨(h e).1,rfl⟩⟩
     ·exact ⟨rfl,rfl,fun h e=>absurd (.inl (h e).2) h2⟩
  ·split
   ·split
    ·exact ⟨rfl,rfl,fun h e=>⟨rfl,rfl⟩⟩
    ·split
     ·exact ⟨rfl,rfl,fun h e=>⟨(h e).1,rfl⟩⟩
     ·exact ⟨rfl,rfl,fun h=>h⟩
   ·split
    ·split<;>exact ⟨rfl,rfl,fun h=>h⟩
    ·split
     ·split
      ·exact ⟨rfl,rfl,fun h=>h⟩
      ·split
       ·exact ⟨rfl,rfl,fun h e=>⟨rfl,rfl⟩⟩
       ·split<;>exact ⟨rfl,rfl,fun h=>h⟩
     ·split<;>exact ⟨rfl,rfl,fun h=>h⟩
theorem Zol (t:Tie) (m:Qka) (lo:Int):(Qt3 t m lo).1.1=t.1∧(Qt3 t m lo).1.2.1=t.2.1∧(Zaf t→Zaf (Qt3 t m lo).1):=by
 obtain ⟨id,inc,now,par,pc,gd,pt,ep,bn,asked,til,sp,kids⟩:=t
 obtain ⟨kd,fr,to,mi,me,ag,pa,l,hi,tx⟩:=m
 rw [Qt3]
 split
 ·exact ⟨rfl,rfl,fun h=>h⟩
 ·split
  ·obtain ⟨a,b,c⟩:=Zvd (Zus (id,inc,now,par,pc,gd,pt,ep,bn,asked,til,sp,kids) 0) (kd,fr,to,mi,me,ag,pa,l,hi,tx) lo
   exact ⟨a,b,fun _=>c (fun _=>⟨rfl,rfl⟩)⟩
  ·exact Zvd _ _ _
def Zvs (i:Int) (t:Tie):Prop:=t.1=i∧∀ k∈t.2.2.2.2.2.2.2.2.2.2.2.2,k.1≠i∧1≤k.2.1
theorem Zsh (t:Tie):∀ k∈(Zcj t).2.2.2.2.2.2.2.2.2.2.2.2,k∈t.2.2.2.2.2.2.2.2.2.2.2.2:=by
 obtain ⟨id,inc,now,par,pc,gd,pt,ep,bn,asked,til,sp,kids⟩:=t
 intro k hk
 have key:∀ n,k∈Z02 kids n→k∈kids:=fun n h=>(List.mem_filter.1 h).1
 rw [Zcj] at hk
 split at hk
 ·split at hk<;>exact key _ hk
 ·split at hk<;>exact key _ hk
theorem Zyd (t:Tie):(Zs1 t).1.2.2.2.2.2.2.2.2.2.2.2.2=t.2.2.2.2.2.2.2.2.2.2.2.2:=by
 obtain ⟨id,inc,now,par,pc,gd,pt,ep,bn,asked,til,sp,kids⟩:=t
 rw [Zs1]
 split
 ·rfl
 ·split<;>rfl
theorem Zx1 {i:Int} {t:Tie} (h:Zvs i t):Zvs i (Qxr t).1:=by
 refine ⟨(Zry t).1.trans h.1,fun k hk=>?_⟩
 have a:k∈(Qzq t).1.2.2.2.2.2.2.2.2.2.2.2.2:=hk
 unfold Qzq at a
 split at a
 ·exact h.2 k (Zsh t k a)
 ·rw [Zyd] at a;exact h.2 k (Zsh t k a)
theorem Zvb {l:List Kid} {x k:Kid} (h:k∈Z9d l x):k=x∨k∈l:=by
 unfold Z9d at h
 split at h
 ·exact .inr h
 ·rcases Zhk.1 h with h | h
  ·exact .inl h
  ·exact .inr (Zi5.1 h).1
theorem Zs5 (t:Tie) (m:Qka) (lo:Int):∀ k∈(Z5o t m lo).1.2.2.2.2.2.2.2.2.2.2.2.2,k∈t.2.2.2.2.2.2.2.2.2.2.2.2∨((m.kd=1∨m.kd=4)∧k.1=m.fr∧k.2.1=m.inc):=by
 obtain ⟨id,inc,now,par,pc,gd,pt,ep,bn,asked,til,sp,kids⟩:=t
 obtain ⟨kd,fr,to,mi,me,ag,pa,l,hi,tx⟩:=m
 rw [Z5o]
 split
 ·rename_i k1
  split
  ·exact fun k hk=>.inl hk
  ·exact fun k hk=>(Zvb hk).elim (fun e=>.inr ⟨.inl k1,by rw [e];exact ⟨rfl,rfl⟩⟩) .inl
 ·split
  ·rw [Qyq]
   repeat' split
   all_goals exact fun k hk=>.inl hk
  ·split
   ·repeat' split
    all_goals exact fun k hk=>.inl hk
   ·split
    ·rename_i k4
     split
     ·exact fun k hk=>.inl hk
     ·exact fun k hk=>(Zvb hk).elim (fun e=>.inr ⟨.inr k4,by rw [e];exact ⟨rfl,rfl⟩⟩) .inl
    ·split
     ·repeat' split
      all_goals exact fun k hk=>.inl hk
     ·split
      ·exact fun k hk=>.inl (Zi5.1 hk).1
      ·exact fun k hk=>.inl hk
theorem Zwv (t:Tie) (m:Qka) (lo:Int):∀ k∈(Qt3 t m lo).1.2.2.2.2.2.2.2.2.2.2.2.2,k∈t.2.2.2.2.2.2.2.2.2.2.2.2∨((m.kd=1∨m.kd=4)∧k.1=m.fr∧k.2.1=m.inc):=by
 obtain ⟨id,inc,now,par,pc,gd,pt,ep,bn,asked,til,sp,kids⟩:=t
 obtain ⟨kd,fr,to,mi,me,ag,pa,l,hi,tx⟩:=m
 rw [Qt3]
 split
 ·exact fun k hk=>.inl hk
 ·split
  ·exact Zs5 (Zus (id,inc,now,par,pc,gd,pt,ep,bn,asked,til,sp,kids) 0) (kd,fr,to,mi,me,ag,pa,l,hi,tx) lo
  ·exact Zs5 _ _ _
theorem Zwq {i:Int} {t:Tie} (h:Zvs i t) {m:Qka} (hm:m.kd=1∨m.kd=4→m.fr≠i∧1≤m.inc) (lo:Int):Zvs i (Qt3 t m lo).1:=by
 refine ⟨(Zol t m lo).1.trans h.1,fun k hk=>?_⟩
 rcases Zwv t m lo k hk with h1 | ⟨h1,h2,h3⟩
 ·exact h.2 k h1
 ·rw [h2,h3];exact hm h1
theorem X10 {m:Qka} (h:Zoz m=true):m.fr≠m.to:=by
 unfold Zoz at h
 simp only [Bool.and_eq_true] at h
 exact bne_iff_ne.1 h.2.2.1
theorem Zys (id inc now gd:Int):Zvs id (Zxp id inc now gd):=by
 unfold Zxp
 split
 ·exact ⟨rfl,fun k hk=>(by cases hk)⟩
 ·exact ⟨rfl,fun k hk=>(by cases hk)⟩
theorem Zz6 (L) (d:Int) (u:1≤d∧d≤8) (f i:Int) (hi:0≤i∧i≤1000) (C:i<f) {s:List Int × Int} (hs:Zce s) (j1 j2 j3 j4 j5 j6 j7 j8 j9 k l:Int) (n:List Int) (o:List Kid) (id inc now par pc gd:Int) (pt:List Int) (ep bn asked til sp:Int) (kids:List Kid) {N:Int} (hN:N+1≤562949953421312)
  (h:TOk N (id,inc,now,par,pc,gd,pt,ep,bn,asked,til,sp,kids)) (hr:Zaf (id,inc,now,par,pc,gd,pt,ep,bn,asked,til,sp,kids)∧Zvs d (id,inc,now,par,pc,gd,pt,ep,bn,asked,til,sp,kids)) :
  (∃ s',Zce s'∧Qlk L d f i s.1 s.2 j1 j2 j3 j4 j5 j6 j7 j8 j9 k l n o id inc now par pc gd pt ep bn asked til sp kids=some (((id,inc,now,par,pc,gd,pt,ep,bn,asked,til,sp,kids),()),(s',()))) ∨
  (∃ (s':List Int × Int) (t':Tie),Zce s'∧TOk (N+1) t'∧t'.1=id∧t'.2.1=inc∧(Zaf t'∧Zvs d t')∧Qlk L d f i s.1 s.2 j1 j2 j3 j4 j5 j6 j7 j8 j9 k l n o id inc now par pc gd pt ep bn asked til sp kids =
   L d f (i+1) s'.1 s'.2 j1 j2 j3 j4 j5 j6 j7 j8 j9 k l n o t'.1 t'.2.1 t'.2.2.1 t'.2.2.2.1 t'.2.2.2.2.1 t'.2.2.2.2.2.1 t'.2.2.2.2.2.2.1 t'.2.2.2.2.2.2.2.1 t'.2.2.2.2.2.2.2.2.1 t'.2.2.2.2.2.2.2.2.2.1 t'.2.2.2.2.2.2.2.2.2.2.1 t'.2.2.2.2.2.2.2.2.2.2.2.1 t'.2.2.2.2.2.2.2.2.2.2.2.2):=by
 have wi:wJ (i+1)=i+1:=Qor (by omega) (by omega)
 unfold Qlk
 rw [cdp C,Zty]
 dsimp only [Option.bind_some]
 by_cases h0:(s.1.length:Int)≤s.2
 ·rw [decide_eq_true h0,nt,cond_false]
  exact .inl ⟨s,hs,rfl⟩
 rw [decide_eq_false h0,nf,cond_true]
 refine .inr ?_
 obtain ⟨q,s1,e,hq,t⟩:=Qne hs 4 (by omega)
 rw [e]
 dsimp only [Option.bind_some]
 have fin:∀ (m:Qka) (s':List Int × Int),MSm m→Zce s'→(m.kd=1∨m.kd=4→m.fr≠d∧1≤m.inc)→∃ (B:List Int × Int) (t':Tie),Zce B∧TOk (N+1) t'∧t'.1=id∧t'.2.1=inc∧(Zaf t'∧Zvs d t')∧(Option.bind (Qlr (id,inc,now,par,pc,gd,pt,ep,bn,asked,til,sp,kids) m 1) fun r=>L d f (wJ (i+1)) s'.1 s'.2 j1 j2 j3 j4 j5 j6 j7 j8 j9 k l n o r.1.1.1 r.1.1.2.1 r.1.1.2.2.1 (g3 r.1.1) (g4 r.1.1) (g5 r.1.1) (g6 r.1.1) (g7 r.1.1) (g8 r.1.1) (g9 r.1.1) (g10 r.1.1) (g11 r.1.1) (h12 r.1.1)) =
   L d f (i+1) B.1 B.2 j1 j2 j3 j4 j5 j6 j7 j8 j9 k l n o t'.1 t'.2.1 t'.2.2.1 t'.2.2.2.1 t'.2.2.2.2.1 t'.2.2.2.2.2.1 t'.2.2.2.2.2.2.1 t'.2.2.2.2.2.2.2.1 t'.2.2.2.2.2.2.2.2.1 t'.2.2.2.2.2.2.2.2.2.1 t'.2.2.2.2.2.2.2.2.2.2.1 t'.2.2.2.2.2.2.2.2.2.2.2.1 t'.2.2.2.2.2.2.2.2.2.2.2.2:=by
  intro m s' hm v D
  rw [Zg8 h hN hm 1,wi]
  obtain ⟨a,b,c⟩:=Zol (id,inc,now,par,pc,gd,pt,ep,bn,asked,til,sp,kids) m 1
  exact ⟨s',_,v,Zda h hm 1 hN,a,b,⟨c hr.1,Zwq hr.2 D 1⟩,rfl⟩
 have J1:∀ {s':List Int × Int} {m:Qka},Zoz m=true→m.to=d→Zce s'→_:=fun {s'} {m} hm j v=>fin m s' (Z3w hm).msm v (fun _=>⟨by rw [← j];exact X10 hm,(Z3w hm).inc.1⟩)
 rw [ceq]
 by_cases q0:(q:Int)=0
 ·rw [if_pos q0,Zit h hN,wi]
  obtain ⟨a,b,c⟩:=Zry (id,inc,now,par,pc,gd,pt,ep,bn,asked,til,sp,kids)
  exact ⟨s1,_,t,Zay h hN,a,b,⟨c hr.1,Zx1 hr.2⟩,rfl⟩
 rw [if_neg q0,ceq]
 by_cases q1:(q:Int)=1
 ·rw [if_pos q1]
  obtain ⟨m,s2,e2,hm,j,_,g⟩:=Zvu t d u
  rw [e2]
  dsimp only [Option.bind_some]
  rw [Z8q]
  by_cases a1:asked=0
  ·rw [if_pos a1];exact J1 hm j g
  rw [if_neg a1,Z8q]
  by_cases a2:asked=d
  ·rw [if_pos a2];exact J1 hm j g
  rw [if_neg a2]
  obtain ⟨p1,s3,e3,E,w⟩:=Qne g 2 (by omega)
  rw [e3]
  dsimp only [Option.bind_some]
  obtain ⟨p2,s4,e4,F,y⟩:=Qne w 9 (by omega)
  rw [e4]
  dsimp only [Option.bind_some]
  obtain ⟨p3,s5,e5,M,J⟩:=Qne y 22 (by omega)
  rw [e5]
  dsimp only [Option.bind_some]
  obtain ⟨p,s6,e6,hp,z⟩:=Zr3 J
  rw [e6]
  dsimp only [Option.bind_some]
  have I:=(Qqb hp).1
  have K:1≤p.length:=by
   unfold Qqz at hp;simp only [Bool.and_eq_true,decide_eq_true_eq] at hp;exact hp.1
  rw [ct (bt (by omega) (Int.le_refl _)),Int.toNat_natCast,List.take_length,cbp (by rw [List.length_drop];omega)]
  obtain ⟨p4,s7,e7,G,A⟩:=Qne z 4 (by omega)
  rw [e7]
  dsimp only [Option.bind_some]
  have ha:=h.asked
  dsimp only at ha
  rw [Qor (x:=1+(p1:Int)) (by omega) (by omega),Qor (x:=1+(p4:Int)) (by omega) (by omega)]
  exact fin _ _ ⟨by dsimp only [Qka.kd,Qka.fr,Qka.to,Qka.inc,Qka.ep,Qka.ag,Qka.pa,Qka.lo,Qka.hi,Qka.tx];omega,by dsimp only [Qka.kd,Qka.fr,Qka.to,Qka.inc,Qka.ep,Qka.ag,Qka.pa,Qka.lo,Qka.hi,Qka.tx];omega,by dsimp only [Qka.kd,Qka.fr,Qka.to,Qka.inc,Qka.ep,Qka.ag,Qka.pa,Qka.lo,Qka.hi,Qka.tx];omega,by dsimp only [Qka.kd,Qka.fr,Qka.to,Qka.inc,Qka.ep,Qka.ag,Qka.pa,Qka.lo,Qka.hi,Qka.tx];omega,by dsimp only [Qka.kd,Qka.fr,Qka.to,Qka.inc,Qka.ep,Qka.ag,Qka.pa,Qka.lo,Qka.hi,Qka.tx];rw [List.length_append,List.length_drop,List.length_singleton];omega,by dsimp only [Qka.kd,Qka.fr,Qka.to,Qka.inc,Qka.ep,Qka.ag,Qka.pa,Qka.lo,Qka.hi,Qka.tx];omega,by dsimp only [Qka.kd,Qka.fr,Qka.to,Qka.inc,Qka.ep,Qka.ag,Qka.pa,Qka.lo,Qka.hi,Qka.tx];omega,by dsimp only [Qka.kd,Qka.fr,Qka.to,Qka.inc,Qka.ep,Qka.ag,Qka.pa,Qka.lo,Qka.hi,Qka.tx];decide⟩ A (fun e=>e.elim (fun x=>absurd x (by decide:¬ (2:Int)=1)) fun x=>absurd x (by decide:¬ (2:Int)=4))
 rw [if_neg q1,ceq]
 by_cases q2:(q:Int)=2
 ·rw [if_pos q2]
  obtain ⟨m,s2,e2,hm,j,_,g⟩:=Zvu t d u
  rw [e2]
  dsimp only [Option.bind_some]
  rw [Z8q]
  by_cases a1:par=0
  ·rw [if_pos a1];exact J1 hm j g
  rw [if_neg a1]
  obtain ⟨p1,s3,e3,E,w⟩:=Qne g 30 (by omega)
  rw [e3]
  dsimp only [Option.bind_some]
  obtain ⟨p2,s4,e4,F,y⟩:=Qne w 20 (by omega)
  rw [e4]
  dsimp only [Option.bind_some]
  obtain ⟨p,s6,e6,hp,z⟩:=Zr3 y
  rw [e6]
  dsimp only [Option.bind_some]
  have I:=(Qqb hp).1
  obtain ⟨p4,s7,e7,G,A⟩:=Qne z 9 (by omega)
  rw [e7]
  dsimp only [Option.bind_some]
  have ha:=h.par
  have H:=h.pc
  dsimp only at ha H
  exact fin _ _ ⟨by dsimp only [Qka.kd,Qka.fr,Qka.to,Qka.inc,Qka.ep,Qka.ag,Qka.pa,Qka.lo,Qka.hi,Qka.tx];omega,by dsimp only [Qka.kd,Qka.fr,Qka.to,Qka.inc,Qka.ep,Qka.ag,Qka.pa,Qka.lo,Qka.hi,Qka.tx];omega,by dsimp only [Qka.kd,Qka.fr,Qka.to,Qka.inc,Qka.ep,Qka.ag,Qka.pa,Qka.lo,Qka.hi,Qka.tx];omega,by dsimp only [Qka.kd,Qka.fr,Qka.to,Qka.inc,Qka.ep,Qka.ag,Qka.pa,Qka.lo,Qka.hi,Qka.tx];omega,by dsimp only [Qka.kd,Qka.fr,Qka.to,Qka.inc,Qka.ep,Qka.ag,Qka.pa,Qka.lo,Qka.hi,Qka.tx];omega,by dsimp only [Qka.kd,Qka.fr,Qka.to,Qka.inc,Qka.ep,Qka.ag,Qka.pa,Qka.lo,Qka.hi,Qka.tx];omega,by dsimp only [Qka.kd,Qka.fr,Qka.to,Qka.inc,Qka.ep,Qka.ag,Qka.pa,Qka.lo,Qka.hi,Qka.tx];omega,by dsimp only [Qka.kd,Qka.fr,Qka.to,Qka.inc,Qka.ep,Qka.ag,Qka.pa,Qka.lo,Qka.hi,Qka.tx];decide⟩ A (fun e=>e.elim (fun x=>absurd x (by decide:¬ (5:Int)=1)) fun x=>absurd x (by decide:¬ (5:Int)=4))
 rw [if_neg q2]
 obtain ⟨m,s2,e2,hm,j,_,g⟩:=Zvu t d u
 rw [e2]
 dsimp only [Option.bind_some]
 exact J1 hm j g
theorem Zvm (n:Nat) (a:Int) (j:1≤a∧a≤8) (j1 j2 j3 j4 j5 j6 j7 j8 j9 b c:Int) (d:List Int) (f:List Kid):∀ (k m i:Nat) (s:List Int × Int) (t:Tie),i+k=20→k<m→Zce s→TOk (100+i) t→(Zaf t∧Zvs a t) →
  ∃ (s':List Int × Int) (t':Tie),Zce s'∧TOk 120 t'∧t'.1=t.1∧t'.2.1=t.2.1∧(Zaf t'∧Zvs a t')∧Qo6 n m a 20 (i:Int) s.1 s.2 j1 j2 j3 j4 j5 j6 j7 j8 j9 b c d f t.1 t.2.1 t.2.2.1 t.2.2.2.1 t.2.2.2.2.1 t.2.2.2.2.2.1 t.2.2.2.2.2.2.1 t.2.2.2.2.2.2.2.1 t.2.2.2.2.2.2.2.2.1 t.2.2.2.2.2.2.2.2.2.1 t.2.2.2.2.2.2.2.2.2.2.1 t.2.2.2.2.2.2.2.2.2.2.2.1 t.2.2.2.2.2.2.2.2.2.2.2.2=some ((t',()),(s',()))
 | k,0,i,s,t,_,h,_,_,_=>by omega
 | 0,m+1,i,s,t,hk,h,hs,ht,hr=>by
  refine ⟨s,t,hs,ht.mono (by omega) (by decide),rfl,rfl,hr,?_⟩
  show Qlk (Qo6 n m) a 20 (i:Int) s.1 s.2 j1 j2 j3 j4 j5 j6 j7 j8 j9 b c d f t.1 t.2.1 t.2.2.1 t.2.2.2.1 t.2.2.2.2.1 t.2.2.2.2.2.1 t.2.2.2.2.2.2.1 t.2.2.2.2.2.2.2.1 t.2.2.2.2.2.2.2.2.1 t.2.2.2.2.2.2.2.2.2.1 t.2.2.2.2.2.2.2.2.2.2.1 t.2.2.2.2.2.2.2.2.2.2.2.1 t.2.2.2.2.2.2.2.2.2.2.2.2=_
  unfold Qlk
  rw [cdn (by omega)]
 | k+1,m+1,i,s,t,hk,h,hs,ht,hr=>by
  obtain ⟨id,inc,now,par,pc,gd,pt,ep,bn,asked,til,sp,kids⟩:=t
  rcases Zz6 (Qo6 n m) a j 20 (i:Int) (by omega) (by omega) hs j1 j2 j3 j4 j5 j6 j7 j8 j9 b c d f id inc now par pc gd pt ep bn asked til sp kids (N:=100+i) (by omega) ht hr with ⟨s',g,e⟩ | ⟨s',t',g,o,e1,e2,l,e⟩
  ·exact ⟨s',_,g,ht.mono (by omega) (by decide),rfl,rfl,hr,e⟩
  ·obtain ⟨p,q,a1,a2,a3,a4,a5,a6⟩:=Zvm n a j j1 j2 j3 j4 j5 j6 j7 j8 j9 b c d f k m (i+1) s' t' (by omega) (by omega) g (by rw [show (100:Int)+((i+1:Nat):Int)=100+(i:Int)+1 by omega];exact o) l
   exact ⟨p,q,a1,a2,a3.trans e1,a4.trans e2,a5,Eq.trans e (by rw [show ((i:Int)+1)=((i+1:Nat):Int) by omega];exact a6)⟩
theorem X0b {id inc now gd N:Int} (h1:1≤id∧id≤8) (h2:1≤inc∧inc≤1073741824) (h3:0≤now∧now≤N) (h4:0≤gd∧gd≤8) (hN:N≤562949953421312):TOk N (Zxp id inc now gd)∧Zaf (Zxp id inc now gd)∧(Zxp id inc now gd).1=id∧(Zxp id inc now gd).2.1=inc:=by
 unfold Zxp
 split
 ·exact ⟨⟨h1,h2,h3,by simp,by simp,h4,by simp,by simp only;omega,by simp only;omega,by simp,by simp only;omega,by simp only;omega,KOk.nil,hN,fun _=>rfl⟩,fun _=>⟨rfl,rfl⟩,rfl,rfl⟩
 ·exact ⟨⟨h1,h2,h3,by simp,by simp,h4,by simp,by simp only;omega,by simp only;omega,by simp,by simp only;omega,by simp only;omega,KOk.nil,hN,fun _=>rfl⟩,fun _=>⟨rfl,rfl⟩,rfl,rfl⟩
theorem X12 {s:List Int × Int} (hs:Zce s) (id:Int) (e:1≤id∧id≤8):∃ (s':List Int × Int) (t:Tie),Zce s'∧TOk 120 t∧t.1=id∧(Zaf t∧Zvs id t)∧Qxl s id 20=some ((t,()),(s',())):=by
 have key:∀ n m,100<m→∃ (s':List Int × Int) (t:Tie),Zce s'∧TOk 120 t∧t.1=id∧(Zaf t∧Zvs id t)∧Qrx (Qut n m) s id 20=some ((t,()),(s',())):=by
  intro n m hm
  obtain ⟨m,rfl⟩:∃ m',m=m'+1:=⟨m - 1,by omega⟩
  unfold Qrx
  obtain ⟨p1,s1,e1,h,f⟩:=Qne hs 5 (by omega)
  rw [e1]
  dsimp only [Option.bind_some]
  obtain ⟨p2,s2,e2,i,g⟩:=Qne f 4 (by omega)
  rw [e2]
  dsimp only [Option.bind_some]
  rw [Zlg]
  dsimp only [Option.bind_some]
  obtain ⟨a,b,c,d⟩:=X0b (N:=100+((0:Nat):Int)) e (show (1:Int)≤2∧(2:Int)≤1073741824 by decide) (show (0:Int)≤(p1:Int)∧(p1:Int)≤100+((0:Nat):Int) by omega) (show 0≤(p2:Int)∧(p2:Int)≤8 by omega) (by omega)
  obtain ⟨s',t',a1,a2,a3,a4,a5,a6⟩:=Zvm n id e 0 0 0 0 0 0 0 0 0 0 0 [] [] 20 (m+1) 0 s2 (Zxp id 2 p1 p2) (by omega) (by omega) g a ⟨b,Zys _ _ _ _⟩
  exact ⟨s',t',a1,a2,a3.trans c,a5,a6⟩
 exact key 1099511627776 1099511627776 (by decide)
theorem Zx2 (L) (now i:Int) (hi:0≤i∧i<12) (hn:0≤now∧now≤1000*i) {s:List Int × Int} (hs:Zce s) (j1 j2:Int) (j3 j4:List Qo4) (j5:List Evt) (j6 j7:Int) {f:Qo3} (hf:FOk f) :
  (∃ s',Zce s'∧Qld L 12 now i s.1 s.2 j6 j7 j1 j2 j3 j4 j5 f.1 f.2.1 f.2.2.1 f.2.2.2.1 f.2.2.2.2.1 f.2.2.2.2.2.1 f.2.2.2.2.2.2=some ((f,()),(s',()))) ∨
  (∃ (s':List Int × Int) (f':Qo3) (b:Int),Zce s'∧FOk f'∧f.1≤f'.1∧0≤b∧b≤1000*(i+1)∧Qld L 12 now i s.1 s.2 j6 j7 j1 j2 j3 j4 j5 f.1 f.2.1 f.2.2.1 f.2.2.2.1 f.2.2.2.2.1 f.2.2.2.2.2.1 f.2.2.2.2.2.2 =
   L 12 b (i+1) s'.1 s'.2 j6 j7 j1 j2 j3 j4 j5 f'.1 f'.2.1 f'.2.2.1 f'.2.2.2.1 f'.2.2.2.2.1 f'.2.2.2.2.2.1 f'.2.2.2.2.2.2):=by
 have wi:wJ (i+1)=i+1:=Qor (by omega) (by omega)
 have hx:=hf.next
 unfold Qld
 rw [cdp (by omega),Zty]
 dsimp only [Option.bind_some]
 by_cases h0:(s.1.length:Int)≤s.2
 ·rw [decide_eq_true h0,nt,cond_false]
  exact .inl ⟨s,hs,rfl⟩
 rw [decide_eq_false h0,nf,cond_true]
 refine .inr ?_
 obtain ⟨q,s1,e,hq,c⟩:=Qne hs 6 (by omega)
 rw [e]
 dsimp only [Option.bind_some]
 have h:∀ p:Nat,(p:Int)<6→wJ ((wJ (f.1 - 1))+(p:Int))=f.1 - 1+p:=by
  intro p hp
  rw [Qor (x:=f.1 - 1) (by omega) (by omega),Qor (by omega) (by omega)]
 rw [ceq]
 by_cases q0:(q:Int)=0
 ·rw [if_pos q0]
  obtain ⟨p1,s2,e2,d,a⟩:=Qne c 3 (by omega)
  rw [e2]
  dsimp only [Option.bind_some]
  obtain ⟨p2,s3,e3,j,g⟩:=Qne a 4 (by omega)
  rw [e3]
  dsimp only [Option.bind_some]
  rw [Zll hf,wi]
  exact ⟨s3,_,now,g,(Zhy hf _ _).1,(Zhy hf _ _).2,by omega,by omega,rfl⟩
 rw [if_neg q0,ceq]
 by_cases q1:(q:Int)=1
 ·rw [if_pos q1]
  obtain ⟨p1,s2,e2,d,a⟩:=Qne c 5 (by omega)
  rw [e2]
  dsimp only [Option.bind_some]
  rw [Qyy,wi]
  exact ⟨s2,_,now,a,Qv9 hf _,by rw [(Z8g f _).1];omega,by omega,by omega,rfl⟩
 rw [if_neg q1,ceq]
 by_cases q2:(q:Int)=2
 ·rw [if_pos q2]
  obtain ⟨p1,s2,e2,d,a⟩:=Qne c 6 (by omega)
  rw [e2]
  dsimp only [Option.bind_some]
  rw [Qor (x:=now+1) (by omega) (by omega),Qor (x:=now+1+(p1:Int)) (by omega) (by omega),Zns hf _ (by omega),wi]
  have ht:=Zig hf (now:=now+1+(p1:Int)) (by omega) (by omega)
  exact ⟨s2,_,now+1+p1,a,ht.1,ht.2,by omega,by omega,rfl⟩
 rw [if_neg q2]
 obtain ⟨p1,s2,e2,d,a⟩:=Qne c 5 (by omega)
 rw [e2]
 dsimp only [Option.bind_some]
 obtain ⟨tx,s3,e3,k,g⟩:=Zyf a
 rw [e3]
 dsimp only [Option.bind_some]
 rw [Zlu hf _ (by dsimp only;omega),wi]
 exact ⟨s3,_,now,g,(Zja hf _).1,(Zja hf _).2,by omega,by omega,rfl⟩
theorem Ztt (n:Nat) (j1 j2:Int) (j3 j4:List Qo4) (j5:List Evt) (j6 j7:Int):∀ (k m i:Nat) (now:Int) (s:List Int × Int) (f:Qo3),i+k=12→k<m→0≤now∧now≤1000*(i:Int)→Zce s→FOk f →
  ∃ (s':List Int × Int) (f':Qo3),Zce s'∧FOk f'∧f.1≤f'.1∧Qm0 n m 12 now (i:Int) s.1 s.2 j6 j7 j1 j2 j3 j4 j5 f.1 f.2.1 f.2.2.1 f.2.2.2.1 f.2.2.2.2.1 f.2.2.2.2.2.1 f.2.2.2.2.2.2=some ((f',()),(s',()))
 | k,0,i,now,s,f,_,h,_,_,_=>by omega
 | 0,m+1,i,now,s,f,hk,h,hn,hs,hf=>by
  refine ⟨s,f,hs,hf,Int.le_refl _,?_⟩
  show Qld (Qm0 n m) 12 now (i:Int) s.1 s.2 j6 j7 j1 j2 j3 j4 j5 f.1 f.2.1 f.2.2.1 f.2.2.2.1 f.2.2.2.2.1 f.2.2.2.2.2.1 f.2.2.2.2.2.2=_
  unfold Qld
  rw [cdn (by omega)]
 | k+1,m+1,i,now,s,f,hk,h,hn,hs,hf=>by
  rcases Zx2 (Qm0 n m) now (i:Int) (by omega) hn hs j1 j2 j3 j4 j5 j6 j7 hf with ⟨s',a,e⟩ | ⟨s',f',b,a,d,a1,a2,a3,e⟩
  ·exact ⟨s',f,a,hf,Int.le_refl _,e⟩
  ·obtain ⟨g,c,b1,b2,b3,b4⟩:=Ztt n j1 j2 j3 j4 j5 j6 j7 k m (i+1) b s' f' (by omega) (by omega) ⟨a2,by omega⟩ a d
   exact ⟨g,c,b1,b2,by omega,Eq.trans e (by rw [show ((i:Int)+1)=((i+1:Nat):Int) by omega];exact b4)⟩
theorem X04 {s:List Int × Int} (hs:Zce s):∃ (s':List Int × Int) (f:Qo3),Zce s'∧FOk f∧1≤f.1∧Qwc s 12=some ((f,()),(s',())):=by
 have key:∀ n m,100<m→∃ (s':List Int × Int) (f:Qo3),Zce s'∧FOk f∧1≤f.1∧Qqs (Qm0 n m) s 12=some ((f,()),(s',())):=by
  intro n m hm
  unfold Qqs
  obtain ⟨p1,s1,e1,c,a⟩:=Qne hs 5 (by omega)
  rw [e1]
  dsimp only [Option.bind_some]
  rw [Qor (x:=1+(p1:Int)) (by omega) (by omega),Zl7 _ _ (by omega)]
  dsimp only [Option.bind_some]
  have b:(Z9x (0,0,[],[],[],0,0) (1+(p1:Int))).1=1+(p1:Int):=by unfold Z9x;rw [if_neg (by simp),if_pos (by omega)]
  obtain ⟨s',f',a1,a2,a3,a4⟩:=Ztt n 0 0 [] [] [] 0 0 12 m 0 0 s1 (Z9x (0,0,[],[],[],0,0) (1+(p1:Int))) (by omega) (by omega) (by omega) a (Zix FOk.none _)
  exact ⟨s',f',a1,a2,by omega,a4⟩
 exact key 1099511627776 1099511627776 (by decide)
structure NOk (N:Int) (n:Z27):Prop where
 on:n.1=true
 inc:1≤n.2.1∧n.2.1≤1073741824
 tie:TOk N n.2.2.2.1
 feed:FOk n.2.2.2.2.1
 root:Zaf n.2.2.2.1
 rootw:n.2.2.2.1.1=1→n.2.2.2.2.1.2.2.2.1=[]
 bad:0≤n.2.2.2.2.2∧n.2.2.2.2.2≤1073741824
theorem X17:Z6d (⟨#[110]⟩:ByteArray)=some ((true,()),()):=by kernel_rfl
theorem Zww (n:Z27) (id gd:Int) (h0:n.1=false) (a:1≤id∧id≤8) (hi:0≤n.2.1∧n.2.1<1073741824):Qyb n id (⟨#[110]⟩:ByteArray) gd=some (((true,n.2.1+1,(⟨#[110]⟩:ByteArray),Zxp id (n.2.1+1) 0 gd,(0,0,[],[],[],0,0),0),true,()),()):=by
 unfold Qyb
 rw [h0,cond_false,X17]
 dsimp only [Option.bind_some]
 rw [nt,cond_false,cdn (by omega),cdn (by omega),cdn (by omega),Qor (by omega) (by omega),Zlg]
 rfl
theorem TOk.inc' {N:Int} {t:Tie} (h:TOk N t) {i:Int} (hi:1≤i∧i≤1073741824):TOk N (t.1,i,t.2.2):=by
 obtain ⟨a1,a2,a3,a4,a5,a6,a7,a8,a9,a,b,c,d,e,f⟩:=h
 exact ⟨a1,hi,a3,a4,a5,a6,a7,a8,a9,a,b,c,d,e,f⟩
theorem Zyo (a:List Int) (hb:Qkf a) (hl:a.length≤1000000000) (id:Int) (h:1≤id∧id≤8):∃ n:Z27,Qv7 a id=some ((n,()),())∧NOk 120 n∧n.2.2.2.1.1=id∧n.2.2.2.1.2.1=n.2.1∧n.2.2.2.2.2≤2∧(n.2.2.2.2.1.1=0→n.2.2.2.2.1.2.1=0)∧Zvs id n.2.2.2.1:=by
 unfold Qv7
 rw [show Qwa a=some (((a,0),()),()) from rfl]
 dsimp only [Option.bind_some]
 obtain ⟨p1,s1,e1,r,k⟩:=Qne (Zyi hb hl) 3 (by omega)
 rw [e1]
 dsimp only [Option.bind_some]
 obtain ⟨p2,s2,e2,s,l⟩:=Qne k 3 (by omega)
 rw [e2]
 dsimp only [Option.bind_some]
 obtain ⟨p3,s3,e3,u,m⟩:=Qne l 9 (by omega)
 rw [e3]
 dsimp only [Option.bind_some]
 rw [Zww _ _ _ rfl h (by dsimp only;omega)]
 dsimp only [Option.bind_some]
 obtain ⟨s4,t,o,ht,b,⟨hr,j⟩,e4⟩:=X12 m id h
 rw [e4]
 dsimp only [Option.bind_some]
 have g:=ht.inc' (i:=(p1:Int)+1) (by omega)
 have d:Zaf (t.1,(p1:Int)+1,t.2.2):=hr
 have c:Zvs id (t.1,(p1:Int)+1,t.2.2):=j
 rw [Z8q]
 by_cases h1:id=1
 ·rw [if_pos h1]
  exact ⟨_,rfl,⟨rfl,by dsimp only;omega,g,FOk.none,d,fun _=>rfl,by dsimp only;omega⟩,b,rfl,by dsimp only;omega,fun _=>rfl,c⟩
 ·rw [if_neg h1]
  obtain ⟨s5,f,p,hf,q,e5⟩:=X04 o
  rw [e5]
  dsimp only [Option.bind_some]
  obtain ⟨p4,s6,e6,v,w⟩:=Qne p 5 (by omega)
  rw [e6]
  dsimp only [Option.bind_some]
  rw [ceq]
  split
  ·exact ⟨_,rfl,⟨rfl,by dsimp only;omega,g,FOk.none,d,fun _=>rfl,by dsimp only;omega⟩,b,rfl,by dsimp only;omega,fun _=>rfl,c⟩
  ·exact ⟨_,rfl,⟨rfl,by dsimp only;omega,g,hf,d,fun e=>absurd (b.symm.trans e) h1,by dsimp only;omega⟩,b,rfl,by dsimp only;omega,fun e=>absurd e (by dsimp only;omega),c⟩
theorem Zzz (h:List Int) (hb:Qkf h) (hl:h.length≤1000000000) (id:Int) (i:1≤id∧id≤8):∃ n:Z27,Qv7 h id=some ((n,()),())∧NOk 120 n∧n.2.2.2.1.1=id∧n.2.2.2.1.2.1=n.2.1∧n.2.2.2.2.2≤2∧(n.2.2.2.2.1.1=0→n.2.2.2.2.1.2.1=0):=by
 obtain ⟨n,a,b,c,d,e,f,g⟩:=Zyo h hb hl id i
 exact ⟨n,a,b,c,d,e,f⟩
theorem Zfx (n:Nat) (l:List Kid) (h6:l.length≤1000000000):∀ (k m i:Nat),i+k=l.length→k<m→Qn4 n m l l (i:Int)=some ((true,()),())
 | k,0,i,_,h=>by omega
 | 0,m+1,i,hk,h=>by
  show Qn9 (Qn4 n m) l l (i:Int)=_
  unfold Qn9
  rw [cdn (by omega)]
 | k+1,m+1,i,hk,h=>by
  show Qn9 (Qn4 n m) l l (i:Int)=_
  unfold Qn9
  rw [cdp (by omega),ct (idx (by omega)),ct (idx (by omega)),beq_self_eq_true,beq_self_eq_true,beq_self_eq_true,Qoq (by omega)]
  exact Zfx n l h6 k m (i+1) (by omega) (by omega)
theorem Zy5 (l:List Kid) (h6:l.length≤1000000000):Qyp l l=some ((true,()),()):=by
 show Qss (Qn4 1099511627776 1099511627776) l l=_
 unfold Qss
 rw [Zqu rfl]
 exact Zfx 1099511627776 l h6 l.length 1099511627776 0 (by omega) (by omega)
theorem Ze4 (n:Nat) (l:List Qo4) (h6:l.length≤1000000000):∀ (k m i:Nat),i+k=l.length→k<m→Qm1 n m l l (i:Int)=some ((true,()),())
 | k,0,i,_,h=>by omega
 | 0,m+1,i,hk,h=>by
  show Qm7 (Qm1 n m) l l (i:Int)=_
  unfold Qm7
  rw [cdn (by omega)]
 | k+1,m+1,i,hk,h=>by
  show Qm7 (Qm1 n m) l l (i:Int)=_
  unfold Qm7
  rw [cdp (by omega),ct (idx (by omega)),ct (idx (by omega)),beq_self_eq_true,Zkv,Qoq (by omega)]
  exact Ze4 n l h6 k m (i+1) (by omega) (by omega)
theorem Zpr (l:List Qo4) (h6:l.length≤1000000000):Qst l l=some ((true,()),()):=by
 show Qqn (Qm1 1099511627776 1099511627776) l l=_
 unfold Qqn
 rw [Zqu rfl]
 exact Ze4 1099511627776 l h6 l.length 1099511627776 0 (by omega) (by omega)
theorem Zg7 (n:Nat) (l:List Evt) (h6:l.length≤1000000000):∀ (k m i:Nat),i+k=l.length→k<m→Qls n m l l (i:Int)=some ((true,()),())
 | k,0,i,_,h=>by omega
 | 0,m+1,i,hk,h=>by
  show Qlt (Qls n m) l l (i:Int)=_
  unfold Qlt
  rw [cdn (by omega)]
 | k+1,m+1,i,hk,h=>by
  show Qlt (Qls n m) l l (i:Int)=_
  unfold Qlt
  rw [cdp (by omega),ct (idx (by omega)),ct (idx (by omega)),beq_self_eq_true,beq_self_eq_true,beq_self_eq_true,beq_self_eq_true,Zkv,Qoq (by omega)]
  exact Zg7 n l h6 k m (i+1) (by omega) (by omega)
theorem Zxe (l:List Evt) (h6:l.length≤1000000000):Qvo l l=some ((true,()),()):=by
 show Qpr (Qls 1099511627776 1099511627776) l l=_
 unfold Qpr
 rw [Zqu rfl]
 exact Zg7 1099511627776 l h6 l.length 1099511627776 0 (by omega) (by omega)
structure NSm (n:Z27):Prop where
 pt:n.2.2.2.1.2.2.2.2.2.2.1.length≤10
 kids:n.2.2.2.1.2.2.2.2.2.2.2.2.2.2.2.2.length≤8
 feed:FSm n.2.2.2.2.1
theorem Zj9 (n:Z27) (h:NSm n):Qmy n n=some ((true,()),()):=by
 have hp:=h.pt
 have hk:=h.kids
 obtain ⟨_,h1,h2,h3⟩:=h.feed
 obtain ⟨on,inc,d,⟨id,ti,now,par,pc,gd,pt,ep,bn,asked,til,sp,kids⟩,⟨nx,top,ring,win,log,tr,du⟩,bad⟩:=n
 dsimp only at hp hk h1 h2 h3
 have ht:∀ t:Tie,t.2.2.2.2.2.2.1.length≤10→t.2.2.2.2.2.2.2.2.2.2.2.2.length≤8→Qv2 t t=some ((true,()),()):=by
  intro t a b
  unfold Qv2
  simp only [beq_self_eq_true,cond_true]
  rw [Zvt _ _ (by show t.2.2.2.2.2.2.1.length≤_;omega) (by show t.2.2.2.2.2.2.1.length≤_;omega),decide_eq_true rfl]
  dsimp only [Option.bind_some]
  rw [cond_true,Zy5 _ (by show t.2.2.2.2.2.2.2.2.2.2.2.2.length≤_;omega)];rfl
 have hf:∀ f:Qo3,f.2.2.1.length≤6→f.2.2.2.1.length≤1000→f.2.2.2.2.1.length≤10000000→Qtb f f=some ((true,()),()):=by
  intro f a b c
  unfold Qtb
  simp only [beq_self_eq_true,cond_true]
  rw [Zpr _ (by omega)]
  dsimp only [Option.bind_some]
  rw [cond_true,Zpr _ (by show f.2.2.2.1.length≤_;omega)]
  dsimp only [Option.bind_some]
  rw [cond_true,Zxe _ (by show f.2.2.2.2.1.length≤_;omega)]
  rfl
 unfold Qmy
 simp only [beq_self_eq_true,cond_true,Zkv]
 rw [ht _ hp hk]
 dsimp only [Option.bind_some]
 rw [cond_true,hf _ h1 h2 h3]
 rfl
theorem NOk.nsm {N:Int} {n:Z27} (h:NOk N n):NSm n:=⟨h.tie.pt,h.tie.kids.len,h.feed.sm⟩
theorem Zzo {i j:Nat} (h:i+j≤1000000000):wJ (Int.fdiv (IntKind.wrap .u64 (wJ ((i:Int)+(j:Int)))) (2 ^ 1))=(((i+j) / 2:Nat):Int):=by
 have e:((i:Int)+(j:Int))=((i+j:Nat):Int):=by omega
 rw [e,Qor (x:=((i+j:Nat):Int)) (by omega) (by omega),X1h (x:=((i+j:Nat):Int)) (by omega) (by omega),Int.fdiv_eq_ediv_of_nonneg _ (by decide)]
 have e2:((i+j:Nat):Int) / 2 ^ 1=(((i+j) / 2:Nat):Int):=by omega
 rw [e2,Qor (by omega) (by omega)]
theorem X1e (x y:Int):Qtm x y=some (((if x<y then -1 else if y<x then 1 else 0:Int),()),()):=by
 unfold Qtm Z5a
 simp only [bne_self_eq_false,Option.bind_some,cond_false,cp]
 by_cases h1:x<y
 ·simp [h1]
 ·by_cases h2:y<x
  ·simp [h1,h2]
  ·simp [h1,h2]
theorem Zdl (l:List Kid) (h:l.length≤1073741824):Qng l=some ((l,()),()):=by unfold Qng;rw [cbp h]
theorem Qtp (l:List Qo4) (h:l.length≤1073741824):Qkr l=some ((l,()),()):=by unfold Qkr;rw [cbp h]
theorem Zan (l:List Evt) (h:l.length≤1073741824):Qlf l=some ((l,()),()):=by unfold Qlf;rw [cbp h]
theorem Zhm (l:List Int) (h:l.length≤1073741824):Qom l=some ((l,()),()):=by unfold Qom;rw [cbp h]
theorem Zhf (n:Nat) (l:List Kid) (v:Int) (f:Kid × Int × Unit→Option (Int × Unit)) (key:Kid→Int) (hl:l.length≤1000000) (hr:Zhh key l) (hf:∀ x∈l,f (x,v,())=some ((if key x<v then -1 else if v<key x then 1 else 0:Int),())):∀ (d m i j:Nat),j - i≤d→d<m→i≤Z16 key v l→Z16 key v l≤j→j≤l.length →
  Ql9 n m l v f (l.length:Int) (i:Int) (j:Int)=some ((((Z16 key v l:Nat):Int),decide (∃ h:Z16 key v l<l.length,key l[Z16 key v l]=v),()),())
 | d,0,i,j,_,h,_,_,_=>by omega
 | d,m+1,i,j,hd,hm,h1,h2,h3=>by
  show Ql8 (Ql9 n m) l v f (l.length:Int) (i:Int) (j:Int)=_
  unfold Ql8
  by_cases b:i<j
  ·rw [cdp (by omega),Zzo (by omega)]
   have hh:(i+j) / 2<l.length:=by omega
   have hk:=Zny (key:=key) (v:=v) hr hh
   rw [ct (idx (by omega)),Qkb,Qkq hh,hf _ (List.getElem_mem hh)]
   dsimp only [Option.bind_some]
   by_cases hc:key l[(i+j) / 2]<v
   ·rw [if_pos hc,cdp (by decide),Qoq (by omega)]
    have:=hk.1 hc
    obtain ⟨d,rfl⟩:∃ d',d=d'+1:=⟨d - 1,by omega⟩
    exact Zhf n l v f key hl hr hf d m ((i+j) / 2+1) j (by omega) (by omega) (by omega) h2 h3
   ·rw [if_neg hc,cdn (by split<;>omega)]
    have:¬ (i+j) / 2<Z16 key v l:=fun e=>hc (hk.2 e)
    obtain ⟨d,rfl⟩:∃ d',d=d'+1:=⟨d - 1,by omega⟩
    exact Zhf n l v f key hl hr hf d m i ((i+j) / 2) (by omega) (by omega) h1 (by omega) (by omega)
  ·rw [cdn (by omega)]
   have e:i=Z16 key v l:=by omega
   rw [e]
   by_cases hp:Z16 key v l<l.length
   ·rw [cdp (by omega),ct (idx (by omega)),Qkb,Qkq hp,hf _ (List.getElem_mem hp)]
    dsimp only [Option.bind_some]
    have:=(Zny (key:=key) (v:=v) hr hp).1
    have a:¬ key l[Z16 key v l]<v:=fun e=>by have:=this e;omega
    rw [if_neg a]
    by_cases hq:v<key l[Z16 key v l]
    ·rw [if_pos hq,decide_eq_false (fun e=>by obtain ⟨_,e⟩:=e;omega)];rfl
    ·rw [if_neg hq,decide_eq_true ⟨hp,by omega⟩];rfl
   ·rw [cdn (by omega),decide_eq_false (fun e=>by obtain ⟨e,_⟩:=e;omega)]
theorem X0z (l:List Kid) (v:Int) (f:Kid × Int × Unit→Option (Int × Unit)) (key:Kid→Int) (hl:l.length≤1000000) (hr:Zhh key l) (hf:∀ x∈l,f (x,v,())=some ((if key x<v then -1 else if v<key x then 1 else 0:Int),())) :
  Qnm l v f=some ((((Z16 key v l:Nat):Int),decide (∃ h:Z16 key v l<l.length,key l[Z16 key v l]=v),()),()):=
 Zhf 1099511627776 l v f key hl hr hf l.length 1099511627776 0 l.length (by omega) (by omega) (by omega) (Zod key v l) (Nat.le_refl _)
theorem Zd3 (n:Nat) (l:List Qo4) (v:Int) (f:Qo4 × Int × Unit→Option (Int × Unit)) (key:Qo4→Int) (hl:l.length≤1000000) (hr:Zhh key l) (hf:∀ x∈l,f (x,v,())=some ((if key x<v then -1 else if v<key x then 1 else 0:Int),())):∀ (d m i j:Nat),j - i≤d→d<m→i≤Z16 key v l→Z16 key v l≤j→j≤l.length →
  Qkz n m l v f (l.length:Int) (i:Int) (j:Int)=some ((((Z16 key v l:Nat):Int),decide (∃ h:Z16 key v l<l.length,key l[Z16 key v l]=v),()),())
 | d,0,i,j,_,h,_,_,_=>by omega
 | d,m+1,i,j,hd,hm,h1,h2,h3=>by
  show Ql0 (Qkz n m) l v f (l.length:Int) (i:Int) (j:Int)=_
  unfold Ql0
  by_cases b:i<j
  ·rw [cdp (by omega),Zzo (by omega)]
   have hh:(i+j) / 2<l.length:=by omega
   have hk:=Zny (key:=key) (v:=v) hr hh
   rw [ct (idx (by omega)),Qkb,Qkq hh,hf _ (List.getElem_mem hh)]
   dsimp only [Option.bind_some]
   by_cases hc:key l[(i+j) / 2]<v
   ·rw [if_pos hc,cdp (by decide),Qoq (by omega)]
    have:=hk.1 hc
    obtain ⟨d,rfl⟩:∃ d',d=d'+1:=⟨d - 1,by omega⟩
    exact Zd3 n l v f key hl hr hf d m ((i+j) / 2+1) j (by omega) (by omega) (by omega) h2 h3
   ·rw [if_neg hc,cdn (by split<;>omega)]
    have:¬ (i+j) / 2<Z16 key v l:=fun e=>hc (hk.2 e)
    obtain ⟨d,rfl⟩:∃ d',d=d'+1:=⟨d - 1,by omega⟩
    exact Zd3 n l v f key hl hr hf d m i ((i+j) / 2) (by omega) (by omega) h1 (by omega) (by omega)
  ·rw [cdn (by omega)]
   have e:i=Z16 key v l:=by omega
   rw [e]
   by_cases hp:Z16 key v l<l.length
   ·rw [cdp (by omega),ct (idx (by omega)),Qkb,Qkq hp,hf _ (List.getElem_mem hp)]
    dsimp only [Option.bind_some]
    have:=(Zny (key:=key) (v:=v) hr hp).1
    have a:¬ key l[Z16 key v l]<v:=fun e=>by have:=this e;omega
    rw [if_neg a]
    by_cases hq:v<key l[Z16 key v l]
    ·rw [if_pos hq,decide_eq_false (fun e=>by obtain ⟨_,e⟩:=e;omega)];rfl
    ·rw [if_neg hq,decide_eq_true ⟨hp,by omega⟩];rfl
   ·rw [cdn (by omega),decide_eq_false (fun e=>by obtain ⟨e,_⟩:=e;omega)]
theorem Zy6 (l:List Qo4) (v:Int) (f:Qo4 × Int × Unit→Option (Int × Unit)) (key:Qo4→Int) (hl:l.length≤1000000) (hr:Zhh key l) (hf:∀ x∈l,f (x,v,())=some ((if key x<v then -1 else if v<key x then 1 else 0:Int),())) :
  Qlb l v f=some ((((Z16 key v l:Nat):Int),decide (∃ h:Z16 key v l<l.length,key l[Z16 key v l]=v),()),()):=
 Zd3 1099511627776 l v f key hl hr hf l.length 1099511627776 0 l.length (by omega) (by omega) (by omega) (Zod key v l) (Nat.le_refl _)
theorem Z7u (n:Nat) (l:List Kid) (f:Kid × Unit→Option (Bool × Unit)) (p:Kid→Bool) (hf:∀ x∈l,f (x,())=some (p x,())) (h6:l.length≤1000000000):∀ (k m i:Nat),i+k=l.length→k<m →
  Qlm n m l f (l.length:Int) (i:Int)=some ((if i+(l.drop i).findIdx p<l.length then ((i+(l.drop i).findIdx p:Nat):Int) else -1,()),())
 | k,0,i,_,h=>by omega
 | 0,m+1,i,hk,h=>by
  show Qmu (Qlm n m) l f (l.length:Int) (i:Int)=_
  unfold Qmu
  rw [cdn (by omega),List.drop_eq_nil_of_le (by omega),if_neg (by simp;omega)]
 | k+1,m+1,i,hk,h=>by
  have hi:i<l.length:=by omega
  have e:Qlm n (m+1) l f (l.length:Int) (i:Int)=bif p l[i] then some (((i:Int),()),()) else Qlm n m l f (l.length:Int) ((i+1:Nat):Int):=by
   show Qmu (Qlm n m) l f (l.length:Int) (i:Int)=_
   unfold Qmu
   rw [cdp (by omega),Zb1,cdp (by omega),cdp (by omega),Qkb,Qkq hi,Qoq (by omega),hf _ (List.getElem_mem hi)]
   rfl
  rw [e,List.drop_eq_getElem_cons hi,List.findIdx_cons]
  cases hv:p l[i] with
  | true=>simp only [cond_true];rw [if_pos (by omega)];rfl
  | false=>
   simp only [cond_false]
   rw [Z7u n l f p hf h6 k m (i+1) (by omega) (by omega)]
   have e2:i+1+(l.drop (i+1)).findIdx p=i+((l.drop (i+1)).findIdx p+1):=by omega
   rw [e2]
theorem Zr1 (l:List Kid) (f:Kid × Unit→Option (Bool × Unit)) (p:Kid→Bool) (hf:∀ x∈l,f (x,())=some (p x,())) (h6:l.length≤1000000000):Qxf l f=some ((if l.findIdx p<l.length then ((l.findIdx p:Nat):Int) else -1,()),()):=by
 have:=Z7u 1099511627776 l f p hf h6 l.length 1099511627776 0 (by omega) (by omega)
 rw [List.drop_zero,Nat.zero_add] at this
 exact this
theorem Z6s (n:Nat) (l:List Qo4) (f:Qo4 × Unit→Option (Bool × Unit)) (p:Qo4→Bool) (hf:∀ x∈l,f (x,())=some (p x,())) (h6:l.length≤1000000000):∀ (k m i:Nat),i+k=l.length→k<m →
  Qle n m l f (l.length:Int) (i:Int)=some ((if i+(l.drop i).findIdx p<l.length then ((i+(l.drop i).findIdx p:Nat):Int) else -1,()),())
 | k,0,i,_,h=>by omega
 | 0,m+1,i,hk,h=>by
  show Qm5 (Qle n m) l f (l.length:Int) (i:Int)=_
  unfold Qm5
  rw [cdn (by omega),List.drop_eq_nil_of_le (by omega),if_neg (by simp;omega)]
 | k+1,m+1,i,hk,h=>by
  have hi:i<l.length:=by omega
  have e:Qle n (m+1) l f (l.length:Int) (i:Int)=bif p l[i] then some (((i:Int),()),()) else Qle n m l f (l.length:Int) ((i+1:Nat):Int):=by
   show Qm5 (Qle n m) l f (l.length:Int) (i:Int)=_
   unfold Qm5
   rw [cdp (by omega),Zb1,cdp (by omega),cdp (by omega),Qkb,Qkq hi,Qoq (by omega),hf _ (List.getElem_mem hi)]
   rfl
  rw [e,List.drop_eq_getElem_cons hi,List.findIdx_cons]
  cases hv:p l[i] with
  | true=>simp only [cond_true];rw [if_pos (by omega)];rfl
  | false=>
   simp only [cond_false]
   rw [Z6s n l f p hf h6 k m (i+1) (by omega) (by omega)]
   have e2:i+1+(l.drop (i+1)).findIdx p=i+((l.drop (i+1)).findIdx p+1):=by omega
   rw [e2]
theorem Zpe (l:List Qo4) (f:Qo4 × Unit→Option (Bool × Unit)) (p:Qo4→Bool) (hf:∀ x∈l,f (x,())=some (p x,())) (h6:l.length≤1000000000):Qw3 l f=some ((if l.findIdx p<l.length then ((l.findIdx p:Nat):Int) else -1,()),()):=by
 have:=Z6s 1099511627776 l f p hf h6 l.length 1099511627776 0 (by omega) (by omega)
 rw [List.drop_zero,Nat.zero_add] at this
 exact this
theorem Qyt (n:Nat) (f:Kid × Unit→Option (Bool × Unit)) (p:Kid→Bool):∀ (k m i j:Nat) (s:List Kid),j+k=s.length→i≤j→k<m→s.length≤1000000000→(∀ x∈s.drop j,f (x,())=some (p x,())) →
  Qm4 n m f (i:Int) (j:Int) s=some ((s.take i++(s.drop j).filter (fun x=>!p x),()),())
 | k,0,i,j,s,_,_,h,_,_=>by omega
 | 0,m+1,i,j,s,hk,d,h,h6,hf=>by
  show Qm2 (Qm4 n m) f (i:Int) (j:Int) s=_
  unfold Qm2
  have e0:((i:Int) - 0).toNat=i:=by omega
  have e1:((s.length:Int) - (i:Int)).toNat=s.length - i:=by omega
  simp only [Qkb,Nat.zero_add,e0,e1]
  have hw:(Q6 (List.map some s) i (List.replicate (s.length - i) ((0,0,0):Kid))).length=s.length:=by
   rw [Z4 (by rw [List.length_replicate,List.length_map];omega),List.length_map]
  rw [cdn (by omega),List.drop_eq_nil_of_le (by omega)]
  repeat rw [ct (by simp only [Bool.and_eq_true,decide_eq_true_eq,Q2,hw,List.length_map];omega)]
  have e2:List.take i (Q6 (List.map some s) i (List.replicate (s.length - i) ((0,0,0):Kid)))=(s.take i).map some:=by
   refine List.ext_getElem? fun j=>?_
   rw [List.getElem?_take,List.map_take,List.getElem?_take,List.getElem?_map]
   by_cases hj:j<i
   ·rw [if_pos hj,if_pos hj,Qi (by rw [List.length_map];omega),if_pos hj,List.getElem?_map]
   ·rw [if_neg hj,if_neg hj]
  rw [e2,Q6i]
  simp
 | k+1,m+1,i,j,s,hk,d,h,h6,hf=>by
  show Qm2 (Qm4 n m) f (i:Int) (j:Int) s=_
  have hj:j<s.length:=by omega
  have hd:=List.drop_eq_getElem_cons hj
  have c:=hf s[j] (by rw [hd];exact List.mem_cons_self ..)
  have b:∀ x∈s.drop (j+1),f (x,())=some (p x,()):=fun x hx=>hf x (by rw [hd];exact List.mem_cons_of_mem _ hx)
  unfold Qm2
  rw [cdp (by omega),Zb1,cdp (by omega),cdp (by omega),Zb1,cdp (by omega),cdp (by omega),Qkb,Qkq hj,c,hd]
  dsimp only [Option.bind_some]
  cases hp:p s[j] with
  | true=>
   rw [nt,cond_false,Qoq (by omega),Qyt n f p k m i (j+1) s (by omega) (by omega) (by omega) h6 b,List.filter_cons_of_neg (by simp [hp])]
  | false=>
   have hi:i<s.length:=by omega
   rw [nf,cond_true,Zb1,cdp (by omega),cdp (by omega),Zb1,cdp (by omega),cdp (by omega),Qoq (by omega),Qoq (by omega),Qkb]
   have a:(s.set i s[j]).drop (j+1)=s.drop (j+1):=by rw [List.drop_set,if_pos (by omega)]
   rw [Qyt n f p k m (i+1) (j+1) (s.set i s[j]) (by rw [List.length_set];omega) (by omega) (by omega) (by rw [List.length_set];omega) (by rw [a];exact b),a,List.filter_cons_of_pos (by simp [hp])]
   have ht:(s.set i s[j]).take (i+1)=s.take i++[s[j]]:=by
    rw [List.take_set,List.take_succ_eq_append_getElem hi,List.set_append_right _ _ (by rw [List.length_take];omega),List.length_take,Nat.min_eq_left (by omega),Nat.sub_self];rfl
   rw [ht,List.append_assoc];rfl
theorem Zg4 (s:List Kid) (f:Kid × Unit→Option (Bool × Unit)) (p:Kid→Bool) (hf:∀ x∈s,f (x,())=some (p x,())) (h6:s.length≤1000000000) :
  Qsq s f=some ((s.filter (fun x=>!p x),()),()):=by
 show Qqp (Qm4 1099511627776 1099511627776) s f=_
 unfold Qqp
 rw [Zr1 s f p hf h6]
 dsimp only [Option.bind_some]
 have a:(s.take (s.findIdx p)).filter (fun x=>!p x)=s.take (s.findIdx p):=by
  apply List.filter_eq_self.2
  intro x hx
  obtain ⟨j,hj,rfl⟩:=List.getElem_of_mem hx
  rw [List.length_take] at hj
  rw [List.getElem_take]
  have:=List.not_of_lt_findIdx (p:=p) (xs:=s) (i:=j) (by omega)
  simp [this]
 by_cases hc:s.findIdx p<s.length
 ·rw [if_pos hc,Z3n (by omega),Qoq (by omega)]
  rw [Qyt 1099511627776 f p (s.length - (s.findIdx p+1)) 1099511627776 (s.findIdx p) (s.findIdx p+1) s (by omega) (by omega) (by omega) h6 (fun x hx=>hf x (List.mem_of_mem_drop hx))]
  have hs:s=s.take (s.findIdx p)++s[s.findIdx p]::s.drop (s.findIdx p+1):=by rw [← List.drop_eq_getElem_cons hc,List.take_append_drop]
  have b:p s[s.findIdx p]=true:=List.findIdx_getElem (w:=hc)
  conv=>rhs;rw [hs]
  rw [List.filter_append,a,List.filter_cons_of_neg (by simp [b])]
 ·rw [if_neg hc,Z65 rfl]
  have:s.take (s.findIdx p)=s:=List.take_of_length_le (by omega)
  rw [this] at a
  rw [a]
theorem Zvl {l:List Kid} (h:KOk l) (id:Int):Z9p l id=some ((((Z16 kid id l:Nat):Int),(Qwx l id).isSome,()),()):=by
 have hl:=h.len
 unfold Z9p
 rw [X0z l id _ kid (by omega) h.rise (fun x _=>by unfold Z8r;rw [X1e];rfl)]
 dsimp only [Option.bind_some]
 congr 3
 rcases Z9t (v:=id) h.rise with ⟨a,b⟩ | ⟨p,a,b⟩
 ·rw [show Qwx l id=none from a,decide_eq_false (fun e=>by obtain ⟨e1,e2⟩:=e;have:=b e1;omega)];rfl
 ·rw [show Qwx l id=some _ from a,decide_eq_true ⟨p,b⟩];rfl
theorem Zqv {l:List Kid} (h:KOk l) (id:Int):Z3d l id=some ((match Qwx l id with | some x=>(x,true,()) | none=>((0,0,0),false,())),()):=by
 unfold Z3d
 rw [Zvl h]
 dsimp only [Option.bind_some]
 rcases Z9t (v:=id) h.rise with ⟨a,b⟩ | ⟨p,a,b⟩
 ·rw [show Qwx l id=none from a];rfl
 ·rw [show Qwx l id=some _ from a]
  dsimp only [Option.isSome_some]
  rw [nt,cond_false,ct (idx (by omega)),Qkb,Qkq p]
theorem Zzv {l:List Kid} (h:KOk l) (id inc:Int):Zis l id inc=some ((Zyl l id inc,()),()):=by
 unfold Zis Zyl
 rw [Zqv h]
 cases Qwx l id<;>rfl
theorem X0h {l:List Kid} (h:KOk l) (k:Kid):∃ b,Zd9 l k=some ((Z9d l k,b,()),()):=by
 have hl:=h.len
 unfold Zd9 Z9d
 rw [Zdl l (by omega),Zzv h]
 dsimp only [Option.bind_some]
 cases ho:Zyl l k.1 k.2.1 with
 | true=>rw [cond_true,if_pos rfl];exact ⟨_,rfl⟩
 | false=>
  rw [cond_false,if_neg (by simp),Zvl h]
  dsimp only [Option.bind_some]
  rcases Z9t (key:=kid) (v:=k.1) h.rise with ⟨a,b⟩ | ⟨p,a,b⟩
  ·rw [show Qwx l k.1=none from a]
   dsimp only [Option.isSome_none]
   rw [cond_false,show Z2d l ((Z16 kid k.1 l:Nat):Int) [k]=Qf0 l ((Z16 kid k.1 l:Nat):Int) [k] from rfl]
   unfold Qf0
   have hp:=Zod kid k.1 l
   rw [ct (by simp only [Bool.and_eq_true,decide_eq_true_eq,Q2,List.length_singleton];omega)]
   dsimp only [Option.bind_some]
   refine ⟨true,?_⟩
   have hn:=Z5g.1 a
   rw [Qkb,Zq1 hn,Zuq h.rise hn,List.append_assoc];rfl
  ·rw [show Qwx l k.1=some _ from a]
   dsimp only [Option.isSome_some]
   rw [cond_true,ct (idx (by omega)),ct (idx (by omega)),Qkb]
   exact ⟨true,by rw [Zzx (key:=kid) h.rise p b]⟩
theorem X07 {l:List Kid} (h:KOk l) (id:Int):Zcy l id=some ((Z3e kid id l,()),()):=by
 have hl:=h.len
 unfold Zcy
 rw [Zdl l (by omega)]
 dsimp only [Option.bind_some]
 rw [Zg4 l _ (fun k=>k.1==id) (fun x _=>rfl) (by omega)]
 rfl
theorem Zzg {l:List Kid} (h:KOk l) (now:Int) (hn:0≤now∧now≤1125899906842624):Zeu l now=some ((Z02 l now,()),()):=by
 have hl:=h.len
 unfold Zeu
 rw [Zdl l (by omega)]
 dsimp only [Option.bind_some]
 rw [Zg4 l _ (fun k=>decide (now - k.2.2>20)) (fun x hx=>by
  have:=h.rng x hx
  unfold Z8y
  dsimp only
  rw [Qor (by omega) (by omega)];rfl) (by omega)]
 dsimp only [Option.bind_some]
 congr 3
 unfold Z02
 congr 1
 funext k
 by_cases h1:now - k.2.2≤20
 ·rw [decide_eq_true h1,decide_eq_false (by omega)];rfl
 ·rw [decide_eq_false h1,decide_eq_true (by omega)];rfl
theorem Zy3 (p:List Int) (x:Int) (h6:p.length≤100000000):Zj1 p x=some (((Qn0 p x).1,(Qn0 p x).2,()),()):=by
 unfold Zj1 Qn0
 rw [Zhm p (by omega)]
 dsimp only [Option.bind_some]
 rw [cbp (by omega),Zl8 _ (by rw [List.length_append,List.length_singleton];omega)]
 dsimp only [Option.bind_some]
 cases Qqz (p++[x])<;>rfl
theorem X08 (p:List Int) (x:Int) (h6:p.length≤100000000):Zho p x=some ((decide (x∈p),()),()):=by
 unfold Zho
 rw [Zln _ _ (by omega)];rfl
theorem Zxh (p:List Int) (h:p.length≤1000000):Zad p=some ((if p.length<2 then 0 else List.getD p (p.length - 2) 0,()),()):=by
 unfold Zad
 by_cases h2:p.length<2
 ·rw [cdp (by omega),if_pos h2]
 ·rw [cdn (by omega),if_neg h2,Qor (by omega) (by omega),ct (bt (by omega) (by omega)),show ((p.length:Int) - 2).toNat=p.length - 2 by omega]
theorem Zwt {f:Qo3} (h:FSm f):Qpf f=some ((f,()),()):=by
 unfold Qpf
 rw [Qtp _ (by have:=h.ring;omega)]
 dsimp only [Option.bind_some]
 rw [Qtp _ (by have:=h.win;show f.2.2.2.1.length≤_;omega)]
 dsimp only [Option.bind_some]
 rw [Zan _ (by have:=h.log;show f.2.2.2.2.1.length≤_;omega)]
 rfl
theorem Zzp {f:Qo3} (h:FSm f):Zi0 f=some ((f,()),()):=by
 unfold Zi0
 rw [Qtp _ (by have:=h.ring;omega)]
 dsimp only [Option.bind_some]
 rw [Qtp _ (by have:=h.win;show f.2.2.2.1.length≤_;omega)]
 dsimp only [Option.bind_some]
 rw [Zan _ (by have:=h.log;show f.2.2.2.2.1.length≤_;omega)]
 rfl
theorem Zxd (l:List Evt) (n:Int) (t:ByteArray) (h:l.length≤1000000000):Zer l n t=some ((l++[Za2 (n,t)],()),()):=by
 unfold Zer
 rw [Zan l (by omega)]
 dsimp only [Option.bind_some]
 rw [cbp (by omega)];rfl
theorem Zv7 (l:List Evt) (a b c:Int) (h:l.length≤1000000000):Ziz l a b c=some ((l++[Zlc a b c],()),()):=by
 unfold Ziz
 rw [Zan l (by omega)]
 dsimp only [Option.bind_some]
 rw [cbp (by omega)];rfl
theorem Zxk (l:List Qo4) (i:Qo4) (h6:l.length≤6):Zep l i=some ((Zfi l i,()),()):=by
 have key:(∀ x,l.getLast?=some x→¬ i.1≤x.1)→Zax ((l,()),()) i=some ((Zfi l i,()),()):=by
  intro hx
  have e:Zfi l i=(l++[i]).drop (l.length+1 - 6):=by
   unfold Zfi
   split
   ·rename_i x h;rw [if_neg (hx x h)]
   ·rename_i h;rw [List.getLast?_eq_none_iff] at h;subst h;rfl
  have hl:(l++[i]).length=l.length+1:=by rw [List.length_append,List.length_singleton]
  unfold Zax
  dsimp only
  rw [cbp (by omega),hl,Qor (by omega) (by omega)]
  have e0:(if 0>(((l.length+1:Nat):Int) - 6) then 0 else (((l.length+1:Nat):Int) - 6))=((l.length+1 - 6:Nat):Int):=by split<;>omega
  rw [e0,ct (by rw [Bool.and_eq_true,Bool.and_eq_true,decide_eq_true_eq,decide_eq_true_eq,decide_eq_true_eq];omega),Qkb,Qkb,List.take_of_length_le (l:=l++[i]) (by omega),Qtp _ (by rw [List.length_drop];omega),e]
  rfl
 unfold Zep
 rw [Qtp l (by omega)]
 dsimp only [Option.bind_some]
 cases hl:l.getLast? with
 | none=>
  rw [List.getLast?_eq_none_iff] at hl
  subst hl
  rw [cdn (by simp)]
  exact key (fun x h=>by cases h)
 | some x=>
  have hp:0<l.length:=by
   cases l with
   | nil=>cases hl
   | cons a b=>simp
  rw [cdp (by omega),Qor (by omega) (by omega),ct (bt (by omega) (by omega))]
  have e2:((l.length:Int) - 1).toNat=l.length - 1:=by omega
  have e3:List.getD l (l.length - 1) (0,ebA)=x:=by
   rw [Qkq (by omega)]
   rw [List.getLast?_eq_getElem?,List.getElem?_eq_getElem (by omega)] at hl
   exact Option.some.inj hl
  rw [e2,e3]
  by_cases h1:i.1≤x.1
  ·rw [cdp h1]
   unfold Zfi;rw [hl];simp only [h1,if_true]
  ·rw [cdn h1];exact key (fun y hy=>by rw [hl] at hy;cases hy;exact h1)
theorem X0j {l:List Qo4} (h:Zhh Zet l) (hl:l.length≤1000000) (n:Int):Zmk l n=some ((match Zuu l n with | some x=>(x.2,true,()) | none=>(ebA,false,())),()):=by
 unfold Zmk
 rw [Zy6 l n _ Zet hl h (fun x _=>by unfold Zcp;rw [X1e];rfl)]
 dsimp only [Option.bind_some]
 rcases Z9t (key:=Zet) (v:=n) h with ⟨a,b⟩ | ⟨p,a,b⟩
 ·rw [show Zuu l n=none from a,decide_eq_false (fun e=>by obtain ⟨e1,e2⟩:=e;have:=b e1;omega)];rfl
 ·rw [show Zuu l n=some _ from a,decide_eq_true ⟨p,b⟩]
  dsimp only
  rw [nt,cond_false,ct (idx (by omega)),Qkb,Qkq p]
theorem Zro (l:List Qo4) (h:l.length≤1000000):Zej l=some ((Zvk l,()),()):=by
 unfold Zej
 cases l with
 | nil=>rfl
 | cons x r=>rw [List.length_cons] at h ⊢;rw [Z3n (by omega),cdp (by omega)];rfl
theorem Zzj (v:Int):Zbf [] v=some (([],(0,ebA),false,()),()):=by
 unfold Zbf
 rw [Qtp [] (by simp),Zro [] (by simp)]
 dsimp only [Option.bind_some]
 rw [Z8q]
 split<;>rfl
theorem Zye (x:Qo4) (r:List Qo4) (v:Int) (h:r.length≤100000):Zbf (x::r) v=if x.1=v then some ((r,x,true,()),()) else some ((x::r,(0,ebA),false,()),()):=by
 unfold Zbf
 rw [Qtp _ (by rw [List.length_cons];omega),Zro _ (by rw [List.length_cons];omega)]
 dsimp only [Option.bind_some]
 rw [Z8q]
 by_cases hx:x.1=v
 ·rw [if_pos (show Zvk (x::r)=v from hx),if_pos hx,Z3n (by rw [List.length_cons];omega),ct (bt (by rw [List.length_cons];omega) (Int.le_refl _)),cdp (by rw [List.length_cons];omega),Int.toNat_natCast,List.take_length]
  rfl
 ·rw [if_neg (show ¬ Zvk (x::r)=v from hx),if_neg hx]
theorem Zzy {w:List Qo4} (h:Zhh Zet w) (hl:w.length≤1000) (next:Int) (x:Qo4) (h1:0≤next∧next≤1000000000) (h2:0≤x.1∧x.1≤1000000000):∃ b,Zqs w next x=some ((Zwy w next x,b,()),()):=by
 unfold Zqs Zwy
 rw [Qtp w (by omega)]
 dsimp only [Option.bind_some]
 rw [Zy6 w x.1 _ Zet (by omega) h (fun y _=>by unfold Zh6;rw [X1e];rfl),Qor (by omega) (by omega)]
 dsimp only [Option.bind_some]
 rcases Z9t (key:=Zet) (v:=x.1) h with ⟨a,b⟩ | ⟨p,a,b⟩
 ·rw [decide_eq_false (fun e=>by obtain ⟨e1,e2⟩:=e;have:=b e1;omega),cond_false]
  by_cases a1:x.1<next
  ·rw [cdp a1,if_pos (.inl a1)];exact ⟨_,rfl⟩
  rw [cdn a1]
  by_cases a2:8≤x.1 - next
  ·rw [cdp a2,if_pos (.inr (.inl a2))];exact ⟨_,rfl⟩
  rw [cdn a2,if_neg (by rw [show Zuu w x.1=none from a];simp [a1,a2])]
  rw [show Z08 w ((Z16 Zet x.1 w:Nat):Int) [x]=Qf0 w ((Z16 Zet x.1 w:Nat):Int) [x] from rfl]
  unfold Qf0
  have hp:=Zod Zet x.1 w
  rw [ct (by simp only [Bool.and_eq_true,decide_eq_true_eq,Q2,List.length_singleton];omega)]
  dsimp only [Option.bind_some]
  have hn:=Z5g.1 a
  exact ⟨true,by rw [Qkb,Zuq h hn,List.append_assoc];rfl⟩
 ·rw [decide_eq_true ⟨p,b⟩,cond_true,if_pos (.inr (.inr (by rw [show Zuu w x.1=some _ from a];rfl)))]
  exact ⟨_,rfl⟩
theorem Zkf (L) (top:Int) (j1 j2 j3 j4:Int) (j5 j6:List Qo4) (j7:List Evt) (next:Int) (ring w:List Qo4) (log:List Evt) (a b:Int) (o:List Qo4) (h1:0≤next∧next≤1000000000) (h2:ring.length≤6) (h3:w.length≤10000) (h4:log.length≤100000000) (h5:o.length≤100000000) :
  Z3k L next top w a b ring log j1 j2 j3 j4 j5 j6 j7 o=match w with
   | []=>some (((next,top,ring,[],log,if o=[] then (a,b) else (0,0)),o,()),())
   | x::r=>if x.1=next then L (next+1) top r a b (Zfi ring x) (log++[Za2 x]) j1 j2 j3 j4 j5 j6 j7 (o++[x]) else some (((next,top,ring,x::r,log,if o=[] then (a,b) else (0,0)),o,()),()):=by
 have fin:∀ w:List Qo4,(bif decide ((o.length:Int)>0) then Option.bind Qtx fun c=>some (((next,top,ring,w,log,c.1.1),o,()),()) else some (((next,top,ring,w,log,a,b),o,()),()))=(some (((next,top,ring,w,log,if o=[] then (a,b) else (0,0)),o,()),()):Option (((Qo3) × (List Qo4) × Unit) × Unit)):=by
  intro w
  cases o with
  | nil=>rfl
  | cons y z=>rw [cdp (by rw [List.length_cons];omega),if_neg (by simp)];rfl
 unfold Z3k
 cases w with
 | nil=>rw [Zzj];exact fin []
 | cons x r=>
  rw [List.length_cons] at h3
  rw [Zye x r next (by omega)]
  by_cases hx:x.1=next
  ·rw [if_pos hx]
   dsimp only [Option.bind_some]
   rw [if_pos hx,nt,cond_false,Zxd _ _ _ (by omega)]
   dsimp only [Option.bind_some]
   rw [Zxk _ _ h2]
   dsimp only [Option.bind_some]
   rw [cbp (by omega),Qor (by omega) (by omega)]
  ·rw [if_neg hx]
   dsimp only [Option.bind_some]
   rw [if_neg hx,nf,cond_true]
   exact fin (x::r)
theorem Zpx (n:Nat) (top:Int) (j1 j2 j3 j4:Int) (j5 j6:List Qo4) (j7:List Evt):∀ (w:List Qo4) (m:Nat) (next:Int) (ring:List Qo4) (log:List Evt) (a b:Int) (o:List Qo4),o≠[] →
  w.length<m→0≤next∧next+w.length≤1000000000→ring.length≤6→w.length≤10000→log.length+w.length≤100000000→o.length+w.length≤100000000 →
  ∃ q,q≠[]∧Qu5 n m next top w a b ring log j1 j2 j3 j4 j5 j6 j7 o=some ((Z0g top next ring w log 0 0,q,()),())
 | w,0,next,ring,log,a,b,o,_,h,_,_,_,_,_=>by omega
 | [],m+1,next,ring,log,a,b,o,ho,h,h1,h2,h3,h4,h5=>by
  refine ⟨o,ho,?_⟩
  rw [List.length_nil] at *
  have e:Qu5 n (m+1) next top [] a b ring log j1 j2 j3 j4 j5 j6 j7 o=_:=Zkf (Qu5 n m) top j1 j2 j3 j4 j5 j6 j7 next ring [] log a b o (by omega) h2 (by simp) (by omega) (by omega)
  rw [e]
  simp only [ho,if_false];rfl
 | x::r,m+1,next,ring,log,a,b,o,ho,h,h1,h2,h3,h4,h5=>by
  rw [List.length_cons] at h h1 h3 h4 h5
  have e:Qu5 n (m+1) next top (x::r) a b ring log j1 j2 j3 j4 j5 j6 j7 o=_:=Zkf (Qu5 n m) top j1 j2 j3 j4 j5 j6 j7 next ring (x::r) log a b o (by omega) h2 (by rw [List.length_cons];omega) (by omega) (by omega)
  rw [e]
  unfold Z0g
  simp only
  by_cases hx:x.1=next
  ·rw [if_pos hx,if_pos hx]
   exact Zpx n top j1 j2 j3 j4 j5 j6 j7 r m (next+1) (Zfi ring x) (log++[Za2 x]) a b (o++[x]) (by simp) (by omega) (by omega) (Zqw h2 x) (by omega) (by rw [List.length_append,List.length_singleton];omega) (by rw [List.length_append,List.length_singleton];omega)
  ·rw [if_neg hx,if_neg hx];exact ⟨o,ho,by simp only [ho,if_false]⟩
theorem Zve (f:Qo3) (h:FSm f):∃ q:List Qo4,Z6v f=some ((Z0d f,q,()),())∧(q=[]→Z0d f=f)∧(∀ x r,f.2.2.2.1=x::r→x.1=f.1→q≠[]):=by
 obtain ⟨n,t,r,w,l,a,b⟩:=f
 obtain ⟨h1,h2,h3,h4⟩:=h
 simp only at h1 h2 h3 h4
 have key:∀ m,10000<m→∃ q:List Qo4,Z79 1099511627776 m n t r w l a b 0 0 0 0 [] [] [] []=some ((Z0d (n,t,r,w,l,a,b),q,()),())∧(q=[]→Z0d (n,t,r,w,l,a,b)=(n,t,r,w,l,a,b))∧(∀ x r',w=x::r'→x.1=n→q≠[]):=by
  intro m hm
  obtain ⟨m,rfl⟩:∃ m',m=m'+1:=⟨m - 1,by omega⟩
  have e:Z79 1099511627776 (m+1) n t r w l a b 0 0 0 0 [] [] [] []=Z3k (Qu5 1099511627776 m) n t w a b r l 0 0 0 0 [] [] [] []:=rfl
  rw [e,Zkf _ t 0 0 0 0 [] [] [] n r w l a b [] (by omega) h2 (by omega) (by omega) (by simp)]
  cases w with
  | nil=>exact ⟨[],rfl,fun _=>rfl,fun x r' e=>by cases e⟩
  | cons x r'=>
   rw [List.length_cons] at h3
   dsimp only
   show ∃ q:List Qo4,(if x.1=n then _ else _)=some ((Z0g t n r (x::r') l a b,q,()),())∧(q=[]→Z0g t n r (x::r') l a b=_)∧_
   unfold Z0g
   by_cases hx:x.1=n
   ·rw [if_pos hx,if_pos hx]
    obtain ⟨q,hq,c⟩:=Zpx 1099511627776 t 0 0 0 0 [] [] [] r' m (n+1) (Zfi r x) (l++[Za2 x]) a b ([]++[x]) (by simp) (by omega) (by omega) (Zqw h2 x) (by omega) (by rw [List.length_append,List.length_singleton];omega) (by simp;omega)
    exact ⟨q,c,fun e=>absurd e hq,fun _ _ _ _=>hq⟩
   ·rw [if_neg hx,if_neg hx]
    exact ⟨[],rfl,fun _=>rfl,fun y s e e2=>by cases e;exact absurd e2 hx⟩
 exact key 1099511627776 (by decide)
theorem Zyh (g:Qo3) (h:FSm g) {R:Type} (K:Qo3→Option R):(Option.bind (Zel g) fun r=>K r.1.1)=K (Z0d g):=by
 obtain ⟨q,e,_⟩:=Zve g h
 unfold Zel
 rw [Zzp h]
 dsimp only [Option.bind_some]
 rw [e];rfl
end Go.PE
