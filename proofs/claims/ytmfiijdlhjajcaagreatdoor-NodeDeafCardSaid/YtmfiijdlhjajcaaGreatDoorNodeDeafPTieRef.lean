/-
  Plain lemmas on the functions.
  Conditions: none.
-/
import Derived.Test.YtmfiijdlhjajcaaGreatDoorNodeDeafPTieSpec
set_option linter.unusedVariables false
set_option linter.unusedSimpArgs false
set_option maxRecDepth 20000
namespace Go.PE
theorem Zcl (n:Nat) (l:List Kid) (v:Int) (h6:l.length≤1000000000):∀ (k m i:Nat),i+k=l.length→k<m →
  Qqk n m l v (i:Int) 0 0 0=some ((match Zdj (l.drop i) v with | some x=>(x,true,()) | none=>((0,0,0),false,())),())
 | k,0,i,_,h=>by omega
 | 0,m+1,i,hk,h=>by
  show Qo9 (Qqk n m) l v (i:Int) 0 0 0=_
  unfold Qo9
  rw [cdn (by omega),List.drop_eq_nil_of_le (by omega)];rfl
 | k+1,m+1,i,hk,h=>by
  show Qo9 (Qqk n m) l v (i:Int) 0 0 0=_
  have hi:i<l.length:=by omega
  unfold Qo9
  rw [cdp (by omega),ct (idx (by omega)),ct (idx (by omega)),Qkl,Qms hi,Qwl (by omega),ceq,List.drop_eq_getElem_cons hi]
  show _=some ((match (if kid l[i]=v then some l[i] else Zdj (l.drop (i+1)) v) with | some x=>(x,true,()) | none=>((0,0,0),false,())),())
  by_cases hv:l[i].1=v
  ·rw [if_pos hv,if_pos hv]
  ·rw [if_neg hv,if_neg hv,Zcl n l v h6 k m (i+1) (by omega) (by omega)]
theorem Zb0 (l:List Kid) (v:Int) (h6:l.length≤1000000000):Qpo l v=some ((match Zdj l v with | some x=>(x,true,()) | none=>((0,0,0),false,())),()):=by
 have:=Zcl 1099511627776 l v h6 l.length 1099511627776 0 (by omega) (by omega)
 rw [List.drop_zero] at this
 exact this
theorem Zk8 (l:List Kid) (id inc:Int) (h6:l.length≤1000000000):Qum l id inc=some ((Zso l id inc,()),()):=by
 unfold Qum Zso
 rw [Zb0 l id h6]
 cases Zdj l id<;>rfl
theorem Z6b (n:Nat) (l:List Kid) (v:Int) (h6:l.length≤1000000):∀ (k m i:Nat) (acc:List Kid),i+k=l.length→k<m→acc.length≤i →
  Qqw n m l v (i:Int) acc=some ((acc++Qz5 kid v (l.drop i),()),())
 | k,0,i,acc,_,h,_=>by omega
 | 0,m+1,i,acc,hk,h,ha=>by
  show Qoj (Qqw n m) l v (i:Int) acc=_
  unfold Qoj
  rw [cdn (by omega),List.drop_eq_nil_of_le (by omega)];simp [Qz5]
 | k+1,m+1,i,acc,hk,h,ha=>by
  show Qoj (Qqw n m) l v (i:Int) acc=_
  have hi:i<l.length:=by omega
  unfold Qoj
  rw [cdp (by omega),ct (idx (by omega)),ct (idx (by omega)),Qkl,Qms hi,Qwl (by omega),Zjv,List.drop_eq_getElem_cons hi]
  by_cases hv:l[i].1=v
  ·rw [if_pos hv,Z6b n l v h6 k m (i+1) acc (by omega) (by omega) (by omega)]
   have:Qz5 kid v (l[i]::l.drop (i+1))=Qz5 kid v (l.drop (i+1)):=by unfold Qz5;rw [List.filter_cons,if_neg (by simp [hv])]
   rw [this]
  ·rw [if_neg hv,cbp (by omega),Z6b n l v h6 k m (i+1) _ (by omega) (by omega) (by rw [List.length_append,List.length_singleton];omega)]
   have:Qz5 kid v (l[i]::l.drop (i+1))=l[i]::Qz5 kid v (l.drop (i+1)):=by unfold Qz5;rw [List.filter_cons,if_pos (bne_iff_ne.2 hv)]
   rw [this,List.append_assoc];rfl
theorem Zgm (l:List Kid) (v:Int) (h6:l.length≤1000000):Qti l v=some ((Qz5 kid v l,()),()):=by
 have:=Z6b 1099511627776 l v h6 l.length 1099511627776 0 [] (by omega) (by omega) (by simp)
 rw [List.drop_zero,List.nil_append] at this
 exact this
theorem Z3t (n:Nat) (l:List Kid) (v:Int) (hv0:0≤v∧v≤1125899906842624) (hr:∀ x∈l,0≤x.2.2∧x.2.2≤1125899906842624) (h6:l.length≤1000000):∀ (k m i:Nat) (acc:List Kid),i+k=l.length→k<m→acc.length≤i →
  Qpm n m l v (i:Int) acc=some ((acc++Z3k (l.drop i) v,()),())
 | k,0,i,acc,_,h,_=>by omega
 | 0,m+1,i,acc,hk,h,ha=>by
  show Qno (Qpm n m) l v (i:Int) acc=_
  unfold Qno
  rw [cdn (by omega),List.drop_eq_nil_of_le (by omega)];simp [Z3k]
 | k+1,m+1,i,acc,hk,h,ha=>by
  show Qno (Qpm n m) l v (i:Int) acc=_
  have hi:i<l.length:=by omega
  have hx:=hr _ (List.getElem_mem hi)
  unfold Qno
  rw [cdp (by omega),ct (idx (by omega)),ct (idx (by omega)),Qkl,Qms hi,Qwl (by omega),Qsk (by omega) (by omega),cp,List.drop_eq_getElem_cons hi]
  by_cases hv:v - l[i].2.2≤20
  ·rw [if_pos hv,cbp (by omega),Z3t n l v hv0 hr h6 k m (i+1) _ (by omega) (by omega) (by rw [List.length_append,List.length_singleton];omega)]
   have:Z3k (l[i]::l.drop (i+1)) v=l[i]::Z3k (l.drop (i+1)) v:=by unfold Z3k;rw [List.filter_cons,if_pos (decide_eq_true hv)]
   rw [this,List.append_assoc];rfl
  ·rw [if_neg hv,Z3t n l v hv0 hr h6 k m (i+1) acc (by omega) (by omega) (by omega)]
   have:Z3k (l[i]::l.drop (i+1)) v=Z3k (l.drop (i+1)) v:=by unfold Z3k;rw [List.filter_cons,if_neg (by simp [hv])]
   rw [this]
theorem Zmq {l:List Kid} (h:KOk l) (v:Int) (hv0:0≤v∧v≤1125899906842624):Qz0 l v=some ((Z3k l v,()),()):=by
 have hl:=h.len
 have:=Z3t 1099511627776 l v hv0 (fun x hx=>by have:=h.rng x hx;omega) (by omega) l.length 1099511627776 0 [] (by omega) (by omega) (by simp)
 rw [List.drop_zero,List.nil_append] at this
 exact this
theorem Zmu {α:Type} (l:List α) (a b:Nat):Qd (List.take a (List.drop b (List.map some l)))=some ((l.drop b).take a):=by
 rw [← List.map_drop,← List.map_take,Q6l]
theorem Zbp (n:Nat) (l:List Kid) (a b c:Int) (h6:l.length≤1000000):∀ (k m i:Nat),i+k=l.length→k<m→(∀ y∈l.take i,y.1≤a) →
  Qom n m (i:Int) a b c l=some ((l.take i++Ziz kid (a,b,c) (l.drop i),true,()),())
 | k,0,i,_,h,_=>by omega
 | 0,m+1,i,hk,h,ha=>by
  show Qoi (Qom n m) (i:Int) a b c l=_
  unfold Qoi
  rw [cdn (by omega),cbp (by omega),List.drop_eq_nil_of_le (by omega),List.take_of_length_le (by omega)];rfl
 | k+1,m+1,i,hk,h,ha=>by
  show Qoi (Qom n m) (i:Int) a b c l=_
  have hi:i<l.length:=by omega
  unfold Qoi
  rw [cdp (by omega),ct (idx (by omega)),ct (idx (by omega)),Qkl,Qms hi,Qwl (by omega),cp]
  by_cases hv:a<l[i].1
  ·rw [if_pos hv]
   have e1:((i:Int) - 0).toNat=i:=by omega
   have e2:(((l.length:Nat):Int) - (i:Int)).toNat=l.length - i:=by omega
   have e3:(List.map some l).length=l.length:=List.length_map ..
   rw [e1,e2,e3,ct (bt (by omega) (by omega)),Zmu,List.drop_zero]
   rw [show Nat.ble (0+i) l.length=true from Nat.ble_eq_true_of_le (by omega),cond_true]
   dsimp only [Option.bind_some]
   rw [cbp (by rw [List.length_take];omega),List.nil_append,cbp (by rw [List.length_take];omega)]
   rw [ct (by simp;omega),show Nat.ble (0+i+(l.length - i)) l.length=true from Nat.ble_eq_true_of_le (by omega),cond_true,Nat.zero_add,Zmu]
   dsimp only [Option.bind_some]
   rw [cbp (by simp;omega),List.take_of_length_le (l:=l.drop i) (by rw [List.length_drop];omega),List.append_assoc]
   have e4:Ziz kid (a,b,c) (l.drop i)=(a,b,c)::l.drop i:=by
    rw [List.drop_eq_getElem_cons hi];exact if_pos hv
   rw [e4];rfl
  ·rw [if_neg hv,Zbp n l a b c h6 k m (i+1) (by omega) (by omega) (fun y hy=>by
    rw [List.take_succ_eq_append_getElem hi] at hy
    rcases List.mem_append.1 hy with hy | hy
    ·exact ha y hy
    ·rcases List.mem_singleton.1 hy with rfl;omega)]
   have e4:Ziz kid (a,b,c) (l.drop i)=l[i]::Ziz kid (a,b,c) (l.drop (i+1)):=by
    rw [List.drop_eq_getElem_cons hi];exact if_neg hv
   rw [e4,List.take_succ_eq_append_getElem hi,List.append_assoc];rfl
theorem Zgx (l:List Kid) (k:Kid) (h6:l.length≤1000000):∃ b,Qrg l k=some ((Zdy l k,b,()),()):=by
 show ∃ b,Qty (Qom 1099511627776 1099511627776) l k=_
 unfold Qty Zdy
 rw [Zk8 l _ _ (by omega)]
 dsimp only [Option.bind_some]
 cases ho:Zso l k.1 k.2.1 with
 | true=>rw [cond_true,if_pos rfl];exact ⟨_,rfl⟩
 | false=>
  rw [cond_false,if_neg (by simp),Zgm l _ h6]
  dsimp only [Option.bind_some]
  have hl:(Qz5 kid k.1 l).length≤l.length:=List.length_filter_le ..
  have:=Zbp 1099511627776 (Qz5 kid k.1 l) k.1 k.2.1 k.2.2 (by omega) (Qz5 kid k.1 l).length 1099511627776 0 (by omega) (by omega) (fun y hy=>by simp at hy)
  rw [List.take_zero,List.drop_zero,List.nil_append] at this
  exact ⟨true,this⟩
theorem Zn9 (p:List Int) (h:p.length≤1000000):Quw p=some ((if p.length<2 then 0 else List.getD p (p.length - 2) 0,()),()):=by
 unfold Quw
 by_cases h2:p.length<2
 ·rw [cdp (by omega),if_pos h2]
 ·rw [cdn (by omega),if_neg h2,Qsk (by omega) (by omega),ct (bt (by omega) (by omega)),show ((p.length:Int) - 2).toNat=p.length - 2 by omega]
theorem Zf7 (p:List Int) (h:p.length≤1000000):Qpk p=some ((Zfn p,()),()):=by
 unfold Qpk Zfn
 rw [Zn9 p h]
 dsimp only [Option.bind_some]
 by_cases h2:p.length<2
 ·rw [if_pos h2,if_pos h2];rfl
 ·rw [if_neg h2,if_neg h2,ceq]
  split<;>rfl
theorem Zfe (id inc now grand:Int):Qtf id inc now grand=some ((Zrd id inc now grand,()),()):=by
 unfold Qtf Zrd
 rw [ceq];split<;>rfl
theorem Z5p (t:Tie) (k to:Int):Qk6 t k to=some ((Zsr t k to,()),()):=rfl
theorem Zjk (t:Tie) (s:Int):Ql3 t s=some ((Zrj t s,()),()):=rfl
theorem Zb8 {N:Int} {t:Tie} (h:TOk N t) (k to:Int):Qn9 t k to=some ((Zqg t k to,()),()):=by
 unfold Qn9
 rw [Z5p]
 dsimp only [Option.bind_some]
 have hp:=h.path
 have h1:=h.now
 have h2:=h.born
 have h3:=h.big
 rw [cbp (by show 0+t.2.2.2.2.2.2.1.length≤_;omega),Qsk (by show _≤t.2.2.1 - t.2.2.2.2.2.2.2.2.1;omega) (by show t.2.2.1 - t.2.2.2.2.2.2.2.2.1≤_;omega)]
 rfl
theorem Z30 {N:Int} {t:Tie} (h:TOk N t):Ql7 t=some ((Z2g t,()),()):=by
 obtain ⟨id,inc,now,par,pinc,grand,path,ep,born,asked,til,step,kids⟩:=t
 have h1:=h.now
 have h2:=h.born
 have h3:=h.big
 simp only at h1 h2
 unfold Ql7
 dsimp only [g3,g4,g5,g6,g7,g8,g9,g10,g11,g12,h3,h4,h5,h6,h7,h8,h9,h10,h11,h12,u0,u1,u2,u3,u4,u5,u6,u7,u8,u9,u10,u11,u12,e1,e2,e3,e4,e5,e6,e7,e8,e9,e10,e11,e12]
 rw [Qsk (by omega) (by omega),ceq,Zjv]
 simp only [Z2g]
 by_cases a:id=1
 ·rw [if_pos a];simp [a]
 ·rw [if_neg a]
  by_cases b:par=0
  ·rw [if_pos b];simp [a,b]
  ·rw [if_neg b];simp [a,b]
theorem Zil {N:Int} {t:Tie} (h:TOk N t) (hN:N+1≤562949953421312) {m:Qk7} (hm:MSm m):Qm0 t m=some (((Z61 t m).1,(Z61 t m).2,()),()):=by
 obtain ⟨id,inc,now,par,pinc,grand,path,ep,born,asked,til,step,kids⟩:=t
 obtain ⟨kd,fr,to,mi,me,ag,pa,lo,hi,tx⟩:=m
 have h1:=h.now
 have h2:=h.step
 have h4:=h.asked
 have hag:=hm.ag
 have hfr:=hm.fr
 have hpa:=hm.pa
 dsimp only [Qk7.kd,Qk7.fr,Qk7.to,Qk7.inc,Qk7.ep,Qk7.ag,Qk7.pa,Qk7.lo,Qk7.hi,Qk7.tx] at h1 h2 h4 hag hfr hpa
 have J1:Qoz (id,inc,now,par,pinc,grand,path,ep,born,asked,til,step,kids) (kd,fr,to,mi,me,ag,pa,lo,hi,tx)=some (((id,inc,now,par,pinc,grand,path,ep,born,0,til,step+1,kids),[(6,id,fr,inc,0,0,[],0,0,ebA)],()),()):=by
  unfold Qoz
  dsimp only [g3,g4,g5,g6,g7,g8,g9,g10,g11,g12,h3,h4,h5,h6,h7,h8,h9,h10,h11,h12,u0,u1,u2,u3,u4,u5,u6,u7,u8,u9,u10,u11,u12,e1,e2,e3,e4,e5,e6,e7,e8,e9,e10,e11,e12]
  rw [Qsk (by omega) (by omega)];rfl
 have J2:¬ (par≠0∧fr=par)→Qov (id,inc,now,par,pinc,grand,path,ep,born,asked,til,step,kids) (kd,fr,to,mi,me,ag,pa,lo,hi,tx)=some (((Z61 (id,inc,now,par,pinc,grand,path,ep,born,asked,til,step,kids) (kd,fr,to,mi,me,ag,pa,lo,hi,tx)).1,(Z61 (id,inc,now,par,pinc,grand,path,ep,born,asked,til,step,kids) (kd,fr,to,mi,me,ag,pa,lo,hi,tx)).2,()),()):=by
  intro hn
  rw [Z61]
  unfold Qov
  dsimp only [g3,g4,g5,g6,g7,g8,g9,g10,g11,g12,h3,h4,h5,h6,h7,h8,h9,h10,h11,h12,u0,u1,u2,u3,u4,u5,u6,u7,u8,u9,u10,u11,u12,e1,e2,e3,e4,e5,e6,e7,e8,e9,e10,e11,e12,Qk7.kd,Qk7.fr,Qk7.to,Qk7.inc,Qk7.ep,Qk7.ag,Qk7.pa,Qk7.lo,Qk7.hi,Qk7.tx]
  rw [if_neg hn,ceq,Zjv]
  by_cases a1:asked=0
  ·rw [if_pos a1,if_pos (.inl a1)];rfl
  rw [if_neg a1]
  by_cases a2:asked=fr
  ·rw [if_pos a2,Zjv]
   by_cases a3:par=0
   ·rw [if_pos a3,if_neg (by omega),Z15 _ _ (by omega)]
    dsimp only [Option.bind_some]
    by_cases a4:(Qq8 pa id).2=true
    ·rw [a4,nt,cond_false]
     by_cases a5:20<ag
     ·rw [cdp a5,J1,if_pos (.inr a5)]
     ·rw [cdn a5,if_neg (by simp [a5]),Zf7 _ (by omega)]
      dsimp only [Option.bind_some]
      rw [Qsk (by omega) (by omega)]
    ·have a4':(Qq8 pa id).2=false:=by cases hc:(Qq8 pa id).2<;>simp [hc] at a4 ⊢
     rw [a4',nf,cond_true,J1,if_pos (.inl rfl)]
   ·rw [if_neg a3,if_pos (.inr (.inr a3))];rfl
  ·rw [if_neg a2,if_pos (.inr (.inl a2))];rfl
 unfold Qm0
 dsimp only [g3,g4,g5,g6,g7,g8,g9,g10,g11,g12,h3,h4,h5,h6,h7,h8,h9,h10,h11,h12,u0,u1,u2,u3,u4,u5,u6,u7,u8,u9,u10,u11,u12,e1,e2,e3,e4,e5,e6,e7,e8,e9,e10,e11,e12]
 rw [Zjv]
 by_cases a1:par=0
 ·rw [if_pos a1,J2 (by simp [a1])]
 ·rw [if_neg a1,ceq]
  by_cases a2:fr=par
  ·rw [if_pos a2,Z61,if_pos ⟨a1,a2⟩]
  ·rw [if_neg a2,J2 (by simp [a2])]
theorem Zf2 {N:Int} {t:Tie} (h:TOk N t) (hN:N+1≤562949953421312) {m:Qk7} (hm:MSm m) (lo':Int):Qm3 t m lo'=some (((Zi4 t m lo').1,(Zi4 t m lo').2,()),()):=by
 have acc:=Zil h hN hm
 have fr':=Z30 h
 have hl:=h.kids.len
 obtain ⟨id,inc,now,par,pinc,grand,path,ep,born,asked,til,step,kids⟩:=t
 obtain ⟨kd,fr,to,mi,me,ag,pa,lo,hi,tx⟩:=m
 have h1:=h.now
 have h2:=h.step
 have h3:=h.path
 have h4:=h.asked
 have h5:=h.one
 have h0:=h.par
 have hag:=hm.ag
 have hfr:=hm.fr
 have hpa:=hm.pa
 have hmi:=hm.inc
 dsimp only [Qk7.kd,Qk7.fr,Qk7.to,Qk7.inc,Qk7.ep,Qk7.ag,Qk7.pa,Qk7.lo,Qk7.hi,Qk7.tx] at h0 h1 h2 h3 h4 h5 hag hfr hpa hmi hl
 have hk:=h.kids
 dsimp only at hk
 have hfull:∀ q,KOk q→Qn9 (id,inc,now,par,pinc,grand,path,ep,born,asked,til,step,q) 2 fr=some ((Zqg (id,inc,now,par,pinc,grand,path,ep,born,asked,til,step,q) 2 fr,()),()):=fun q hq=>Zb8 (N:=N) (t:=(id,inc,now,par,pinc,grand,path,ep,born,asked,til,step,q)) ⟨h.id,h.inc,h.now,h.par,h.pinc,h.grand,h.path,h.ep,h.born,h.asked,h.til,h.step,hq,h.big,h.one⟩ 2 fr
 have J5:Qmy (id,inc,now,par,pinc,grand,path,ep,born,asked,til,step,kids) (kd,fr,to,mi,me,ag,pa,lo,hi,tx) lo'=some (((id,inc,now,par,pinc,grand,path,ep,born,asked,til,step,Zdy kids (fr,mi,now)),[(2,id,fr,inc,ep,now - born,path,lo',0,ebA)],()),()):=by
  unfold Qmy
  dsimp only [g3,g4,g5,g6,g7,g8,g9,g10,g11,g12,h3,h4,h5,h6,h7,h8,h9,h10,h11,h12,u0,u1,u2,u3,u4,u5,u6,u7,u8,u9,u10,u11,u12,e1,e2,e3,e4,e5,e6,e7,e8,e9,e10,e11,e12]
  obtain ⟨b,hb⟩:=Zgx kids (fr,mi,now) (by omega)
  rw [hb]
  dsimp only [Option.bind_some]
  rw [hfull _ (hk.hear (by dsimp only;omega))]
  rfl
 have J6:Qr8 (id,inc,now,par,pinc,grand,path,ep,born,asked,til,step,kids) (kd,fr,to,mi,me,ag,pa,lo,hi,tx) lo'=if Z2g (id,inc,now,par,pinc,grand,path,ep,born,asked,til,step,kids)=false∨fr∈path∨(Zdj kids fr=none∧Zrt id≤(kids.length:Int)) then some (((id,inc,now,par,pinc,grand,path,ep,born,asked,til,step,kids),[(3,id,fr,inc,0,0,[],0,0,ebA)],()),())
   else some (((id,inc,now,par,pinc,grand,path,ep,born,asked,til,step,Zdy kids (fr,mi,now)),[(2,id,fr,inc,ep,now - born,path,lo',0,ebA)],()),()):=by
  unfold Qr8
  dsimp only [g3,g4,g5,g6,g7,g8,g9,g10,g11,g12,h3,h4,h5,h6,h7,h8,h9,h10,h11,h12,u0,u1,u2,u3,u4,u5,u6,u7,u8,u9,u10,u11,u12,e1,e2,e3,e4,e5,e6,e7,e8,e9,e10,e11,e12]
  rw [Zb0 _ _ (by omega)]
  dsimp only [Option.bind_some]
  rw [fr',Zru _ _ (by omega)]
  dsimp only [Option.bind_some]
  rw [J5]
  have e:∀ q:Int,(bif !Z2g (id,inc,now,par,pinc,grand,path,ep,born,asked,til,step,kids) then some (((id,inc,now,par,pinc,grand,path,ep,born,asked,til,step,kids),[(3,id,fr,inc,0,0,[],0,0,ebA)],()),()) else bif decide (fr∈path) then some (((id,inc,now,par,pinc,grand,path,ep,born,asked,til,step,kids),[(3,id,fr,inc,0,0,[],0,0,ebA)],()),())
    else bif !(match Zdj kids fr with | some x=>(x,true,()) | none=>((0,0,0),false,())).2.1 then (bif decide ((kids.length:Int) ≥ q) then some (((id,inc,now,par,pinc,grand,path,ep,born,asked,til,step,kids),[(3,id,fr,inc,0,0,[],0,0,ebA)],()),()) else some (((id,inc,now,par,pinc,grand,path,ep,born,asked,til,step,Zdy kids (fr,mi,now)),[(2,id,fr,inc,ep,now - born,path,lo',0,ebA)],()),()))
    else some (((id,inc,now,par,pinc,grand,path,ep,born,asked,til,step,Zdy kids (fr,mi,now)),[(2,id,fr,inc,ep,now - born,path,lo',0,ebA)],()),()))=(if Z2g (id,inc,now,par,pinc,grand,path,ep,born,asked,til,step,kids)=false∨fr∈path∨(Zdj kids fr=none∧q≤(kids.length:Int)) then some (((id,inc,now,par,pinc,grand,path,ep,born,asked,til,step,kids),[(3,id,fr,inc,0,0,[],0,0,ebA)],()),())
   else some (((id,inc,now,par,pinc,grand,path,ep,born,asked,til,step,Zdy kids (fr,mi,now)),[(2,id,fr,inc,ep,now - born,path,lo',0,ebA)],()),()):Option (((Tie) × (List (Qk7)) × Unit) × Unit)):=by
   intro q
   cases Z2g (id,inc,now,par,pinc,grand,path,ep,born,asked,til,step,kids) with
   | false=>rw [if_pos (.inl rfl)];rfl
   | true=>
    rw [nt,cond_false,cp]
    by_cases a1:fr∈path
    ·rw [if_pos a1,if_pos (.inr (.inl a1))]
    ·rw [if_neg a1]
     cases hf:Zdj kids fr with
     | some x=>rw [if_neg (by simp [a1])];rfl
     | none=>
      dsimp only
      rw [nf,cond_true,cp]
      by_cases a2:q≤(kids.length:Int)
      ·rw [if_pos a2,if_pos (.inr (.inr ⟨rfl,a2⟩))]
      ·rw [if_neg a2,if_neg (by simp [a1];omega)]
  by_cases a0:id=1
  ·rw [Zdw a0,show Zrt id=8 from if_pos a0];exact e 8
  ·rw [Zdd a0,show Zrt id=3 from if_neg a0];exact e 3
 have J7:Qr3 (id,inc,now,par,pinc,grand,path,ep,born,asked,til,step,kids) (kd,fr,to,mi,me,ag,pa,lo,hi,tx)=if Zdj kids fr=none then some (((id,inc,now,par,pinc,grand,path,ep,born,asked,til,step,kids),[(3,id,fr,inc,0,0,[],0,0,ebA)],()),()) else some (((id,inc,now,par,pinc,grand,path,ep,born,asked,til,step,Zdy kids (fr,mi,now)),[],()),()):=by
  unfold Qr3
  dsimp only [g3,g4,g5,g6,g7,g8,g9,g10,g11,g12,h3,h4,h5,h6,h7,h8,h9,h10,h11,h12,u0,u1,u2,u3,u4,u5,u6,u7,u8,u9,u10,u11,u12,e1,e2,e3,e4,e5,e6,e7,e8,e9,e10,e11,e12]
  rw [Zb0 _ _ (by omega)]
  dsimp only [Option.bind_some]
  cases hf:Zdj kids fr with
  | none=>rfl
  | some x=>
   rw [nt,cond_false,if_neg (by simp)]
   obtain ⟨b,hb⟩:=Zgx kids (fr,mi,now) (by omega)
   rw [hb];rfl
 have J8:Qr7 (kd,fr,to,mi,me,ag,pa,lo,hi,tx) (id,inc,now,par,pinc,grand,path,ep,born,asked,til,step,kids)=if kd=6 then some (((id,inc,now,par,pinc,grand,path,ep,born,asked,til,step,Qz5 kid fr kids),[],()),()) else some (((id,inc,now,par,pinc,grand,path,ep,born,asked,til,step,kids),[],()),()):=by
  unfold Qr7
  dsimp only [g3,g4,g5,g6,g7,g8,g9,g10,g11,g12,h3,h4,h5,h6,h7,h8,h9,h10,h11,h12,u0,u1,u2,u3,u4,u5,u6,u7,u8,u9,u10,u11,u12,e1,e2,e3,e4,e5,e6,e7,e8,e9,e10,e11,e12]
  rw [ceq,Zgm _ _ (by omega)]
  rfl
 unfold Qm3
 rw [Zi4,J6,J7,J8]
 dsimp only [g3,g4,g5,g6,g7,g8,g9,g10,g11,g12,h3,h4,h5,h6,h7,h8,h9,h10,h11,h12,u0,u1,u2,u3,u4,u5,u6,u7,u8,u9,u10,u11,u12,e1,e2,e3,e4,e5,e6,e7,e8,e9,e10,e11,e12,Qk7.kd,Qk7.fr,Qk7.to,Qk7.inc,Qk7.ep,Qk7.ag,Qk7.pa,Qk7.lo,Qk7.hi,Qk7.tx]
 rw [acc]
 simp only [Zjk,Z5p,Option.bind_some]
 rw [Qsk (x:=step+1) (by omega) (by omega),Qsk (x:=now - ag) (by omega) (by omega),Z15 _ _ (by omega),Zf7 _ (by omega)]
 simp only [Option.bind_some]
 by_cases p:par=0
 ·rw [Zni p]
  by_cases k1:kd=1
  ·rw [Zdw k1,if_pos k1];split<;>rfl
  rw [Zdd k1,if_neg k1]
  by_cases k2:kd=2
  ·rw [Zdw k2,if_pos k2]
  rw [Zdd k2,if_neg k2]
  by_cases k3:kd=3
  ·rw [Zdw k3,if_pos k3,if_neg (by simp [p]),Zjv,ceq]
   by_cases a1:asked=0
   ·rw [if_pos a1,if_neg (by simp [a1])]
   ·rw [if_neg a1]
    by_cases a2:asked=fr
    ·rw [if_pos a2,if_pos ⟨a1,a2⟩]
    ·rw [if_neg a2,if_neg (by simp [a2])]
  rw [Zdd k3,if_neg k3]
  by_cases k4:kd=4
  ·rw [Zdw k4,if_pos k4];split<;>rfl
  rw [Zdd k4,if_neg k4]
  by_cases k5:kd=5
  ·rw [Zdw k5,if_pos k5,if_pos (by simp [p])];rfl
  rw [Zdd k5,if_neg k5]
  split<;>rfl
 ·have h5':=h5 p
  rw [Zr7 p]
  by_cases k1:kd=1
  ·rw [Zdw k1,if_pos k1];split<;>rfl
  rw [Zdd k1,if_neg k1]
  by_cases k2:kd=2
  ·rw [Zdw k2,if_pos k2]
  rw [Zdd k2,if_neg k2]
  by_cases k3:kd=3
  ·rw [Zdw k3,if_pos k3,Zni h5',ceq]
   by_cases a1:fr=par
   ·rw [if_pos a1,if_pos ⟨p,a1⟩]
   ·rw [if_neg a1,if_neg (by simp [a1]),if_neg (by simp [h5'])]
  rw [Zdd k3,if_neg k3]
  by_cases k4:kd=4
  ·rw [Zdw k4,if_pos k4];split<;>rfl
  rw [Zdd k4,if_neg k4]
  by_cases k5:kd=5
  ·rw [Zdw k5,if_pos k5,Zsp,ceq]
   by_cases a1:fr=par
   ·rw [if_pos a1,if_neg (by simp [p,a1])]
    by_cases a4:(Qq8 pa id).2=true
    ·rw [a4,nt,cond_false,if_neg (by simp),cp]
     split<;>rfl
    ·have a4':(Qq8 pa id).2=false:=by cases hc:(Qq8 pa id).2<;>simp [hc] at a4 ⊢
     rw [a4',nf,cond_true,if_pos rfl];rfl
   ·rw [if_neg a1,if_pos (by simp [a1])];rfl
  rw [Zdd k5,if_neg k5]
  split<;>rfl
theorem Zis {N:Int} {t:Tie} (h:TOk N t) (hN:N+1≤562949953421312) {m:Qk7} (hm:MSm m) (lo':Int):Qlp t m lo'=some (((Zby t m lo').1,(Zby t m lo').2,()),()):=by
 have c1:=Zf2 h hN hm lo'
 have c2:=Zf2 (Zku h (s:=0) (by have:=h.now;omega)) hN hm lo'
 have hl:=h.kids.len
 obtain ⟨id,inc,now,par,pinc,grand,path,ep,born,asked,til,step,kids⟩:=t
 obtain ⟨kd,fr,to,mi,me,ag,pa,lo,hi,tx⟩:=m
 dsimp only at hl
 unfold Qlp
 rw [Zby]
 dsimp only [g3,g4,g5,g6,g7,g8,g9,g10,g11,g12,h3,h4,h5,h6,h7,h8,h9,h10,h11,h12,u0,u1,u2,u3,u4,u5,u6,u7,u8,u9,u10,u11,u12,e1,e2,e3,e4,e5,e6,e7,e8,e9,e10,e11,e12,Qk7.kd,Qk7.fr,Qk7.to,Qk7.inc,Qk7.ep,Qk7.ag,Qk7.pa,Qk7.lo,Qk7.hi,Qk7.tx]
 rw [Zk8 _ _ _ (by omega)]
 dsimp only [Option.bind_some]
 cases ho:Zso kids fr mi with
 | true=>rw [cond_true,if_pos (.inl rfl)]
 | false=>
  rw [cond_false]
  have J10:Qtb (kd,fr,to,mi,me,ag,pa,lo,hi,tx) (id,inc,now,par,pinc,grand,path,ep,born,asked,til,step,kids) lo'=bif fr==par then bif decide (mi>pinc) then Qm3 (Zrj (id,inc,now,par,pinc,grand,path,ep,born,asked,til,step,kids) 0) (kd,fr,to,mi,me,ag,pa,lo,hi,tx) lo' else Qm3 (id,inc,now,par,pinc,grand,path,ep,born,asked,til,step,kids) (kd,fr,to,mi,me,ag,pa,lo,hi,tx) lo' else Qm3 (id,inc,now,par,pinc,grand,path,ep,born,asked,til,step,kids) (kd,fr,to,mi,me,ag,pa,lo,hi,tx) lo':=rfl
  rw [J10,c1,c2]
  by_cases a1:fr=par
  ·rw [Zdw a1]
   by_cases a2:mi<pinc
   ·rw [cdp a2,if_pos (.inr ⟨a1,a2⟩)]
   ·rw [cdn a2,if_neg (by simp [a2]),Zdw a1]
    by_cases a3:pinc<mi
    ·rw [cdp a3,if_pos ⟨a1,a3⟩]
    ·rw [cdn a3,if_neg (by simp [a3])]
  ·rw [Zdd a1,if_neg (by simp [a1]),Zdd a1,if_neg (by simp [a1])]
end Go.PE
