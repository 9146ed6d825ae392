/-
  Plain lemmas on the functions.
  Conditions: none.
-/
import Derived.Test.YtmfiijdlhjajcaaGreatDoorNodeDownPProgFeed2
set_option linter.unusedVariables false
set_option linter.unusedSimpArgs false
set_option maxRecDepth 20000
namespace Go.PE
theorem ofT {N:Int} {t:Tie} (h:TOk N t):Zlp t=some (((t,[]),()),()):=by
 unfold Zlp
 rw [Zb2 _ (by have:=h.path;show t.2.2.2.2.2.2.1.length≤_;omega)]
 dsimp only [Option.bind_some]
 rw [Zak _ (by have:=h.kids.len;show t.2.2.2.2.2.2.2.2.2.2.2.2.length≤_;omega)]
 rfl
theorem Zkm (t:Tie) (l:List Qk7) (k to lo:Int) (h2:k≠2) (h5:k≠5) (hl:l.length≤100000):Qkw (t,l) k to lo=some ((),((t,l++[(k,t.1,to,t.2.1,0,0,[],lo,0,ebA)]),())):=by
 unfold Qkw
 rw [Z09 h2,Z09 h5,cbp (by dsimp only;omega)]
theorem Zqe {N:Int} {t:Tie} (h:TOk N t) (l:List Qk7) (k to lo:Int) (h2:k=2∨k=5) (hl:l.length≤100000):Qkw (t,l) k to lo=some ((),((t,l++[(k,t.1,to,t.2.1,t.2.2.2.2.2.2.2.1,t.2.2.1 - t.2.2.2.2.2.2.2.2.1,t.2.2.2.2.2.2.1,lo,0,ebA)]),())):=by
 have J:Qtc (t,l) k to lo=some ((),((t,l++[(k,t.1,to,t.2.1,t.2.2.2.2.2.2.2.1,t.2.2.1 - t.2.2.2.2.2.2.2.2.1,t.2.2.2.2.2.2.1,lo,0,ebA)]),())):=by
  unfold Qtc
  have h1:=h.now
  have h3:=h.born
  have h4:=h.big
  rw [Zb2 _ (by have:=h.path;show t.2.2.2.2.2.2.1.length≤_;omega)]
  dsimp only [Option.bind_some]
  rw [cbp (by omega),Qqd (by show _≤t.2.2.1 - t.2.2.2.2.2.2.2.2.1;omega) (by show t.2.2.1 - t.2.2.2.2.2.2.2.2.1≤_;omega)]
 unfold Qkw
 rw [J]
 rcases h2 with rfl | rfl
 ·rw [Z2y rfl]
 ·rw [Z09 (by decide),Z2y rfl]
theorem Zny (t:Tie) (l:List Qk7) (s:Int):Qvx (t,l) s=some ((),((Zn9 t s,l),())):=rfl
theorem Zpd {N:Int} {t:Tie} (h:TOk N t):Zat t=some ((Que t,()),()):=Qxm h
theorem Zph {N:Int} {t:Tie} (h:TOk N t) (l:List Qk7) (m:Qk7):Qu8 (t,l) m=some ((),(((t.1,t.2.1,t.2.2.1,t.2.2.2.1,t.2.2.2.2.1,t.2.2.2.2.2.1,t.2.2.2.2.2.2.1,t.2.2.2.2.2.2.2.1,t.2.2.2.2.2.2.2.2.1,t.2.2.2.2.2.2.2.2.2.1,t.2.2.2.2.2.2.2.2.2.2.1,t.2.2.2.2.2.2.2.2.2.2.2.1,Z35 t.2.2.2.2.2.2.2.2.2.2.2.2 (m.fr,m.inc,t.2.2.1)),l),())):=by
 unfold Qu8
 obtain ⟨b,hb⟩:=Zq4 h.kids (m.fr,m.inc,t.2.2.1)
 show Option.bind (Z6e t.2.2.2.2.2.2.2.2.2.2.2.2 (m.fr,m.inc,t.2.2.1)) _=_
 rw [hb];rfl
theorem Zq0 (t:Tie) (l:List Qk7) (m:Qk7) (p:List Int) (h:m.pa.length≤1000000):Qxy (t,l) m p=some ((),(((t.1,t.2.1,t.2.2.1,t.2.2.2.1,t.2.2.2.2.1,Z90 m.pa,p,t.2.2.2.2.2.2.2),l),())):=by
 unfold Qxy
 show Option.bind (Z3m m.pa) _=_
 rw [Zo5 _ h]
 dsimp only [Option.bind_some]
 rw [ceq]
 unfold Z90
 by_cases h2:m.pa.length<2
 ·rw [if_pos h2,if_pos h2];rfl
 ·rw [if_neg h2,if_neg h2]
  by_cases h3:List.getD m.pa (m.pa.length - 2) 0=0
  ·rw [if_pos h3,if_pos h3]
  ·rw [if_neg h3,if_neg h3]
theorem Zo9 {N:Int} {t:Tie} (h:TOk N t) (hN:N+1≤562949953421312) {m:Qk7} (hm:MSm m):Qt3 (t,[]) m=some ((),(Qv0 t m,())):=by
 obtain ⟨id,inc,now,par,pinc,grand,path,ep,born,asked,til,step,kids⟩:=t
 obtain ⟨kd,fr,to,mi,me,ag,pa,lo,hi,tx⟩:=m
 have h1:=h.now
 have h2:=h.step
 have h4:=h.asked
 have hag:=hm.ag
 have hfr:=hm.fr
 have hpa:=hm.pa
 dsimp only [Qk7.kd,Qk7.fr,Qk7.to,Qk7.inc,Qk7.ep,Qk7.ag,Qk7.pa,Qk7.lo,Qk7.hi,Qk7.tx] at h1 h2 h4 hag hfr hpa
 have J1:Qsl ((id,inc,now,par,pinc,grand,path,ep,born,asked,til,step,kids),[]) (kd,fr,to,mi,me,ag,pa,lo,hi,tx)=some ((),(((id,inc,now,par,pinc,grand,path,ep,born,0,til,step+1,kids),[(6,id,fr,inc,0,0,[],0,0,ebA)]),())):=by
  unfold Qsl
  dsimp only [g3,g4,g5,g6,g7,g8,g9,g10,g11,g12,h3,h4,h5,h6,h7,h8,h9,h10,h11,h12,u0,u1,u2,u3,u4,u5,u6,u7,u8,u9,u10,u11,u12,e1,e2,e3,e4,e5,e6,e7,e8,e9,e10,e11,e12]
  rw [Zkm _ _ _ _ _ (by decide) (by decide) (by simp)]
  dsimp only [Option.bind_some]
  rw [Qqd (by omega) (by omega)];rfl
 have w:=Zq0 (id,inc,now,par,pinc,grand,path,ep,born,0,til,step,kids) [] (kd,fr,to,mi,me,ag,pa,lo,hi,tx) (Qm9 pa id).1 (by dsimp only [Qk7.kd,Qk7.fr,Qk7.to,Qk7.inc,Qk7.ep,Qk7.ag,Qk7.pa,Qk7.lo,Qk7.hi,Qk7.tx];omega)
 dsimp only [Qk7.kd,Qk7.fr,Qk7.to,Qk7.inc,Qk7.ep,Qk7.ag,Qk7.pa,Qk7.lo,Qk7.hi,Qk7.tx] at w
 unfold Qt3
 rw [J1,Qv0]
 dsimp only [g3,g4,g5,g6,g7,g8,g9,g10,g11,g12,h3,h4,h5,h6,h7,h8,h9,h10,h11,h12,u0,u1,u2,u3,u4,u5,u6,u7,u8,u9,u10,u11,u12,e1,e2,e3,e4,e5,e6,e7,e8,e9,e10,e11,e12]
 rw [Zkm _ _ _ _ _ (by decide) (by decide) (by simp),Zo3 _ _ (by omega)]
 dsimp only [Option.bind_some]
 rw [w]
 dsimp only [Option.bind_some]
 rw [Qqd (x:=now - ag) (by omega) (by omega),Z9x,Z9x,Z9x]
 by_cases a2:asked=fr
 ·rw [if_pos a2]
  by_cases a3:par=0
  ·rw [if_pos a3,if_neg (show ¬ (par≠0∧fr=par) from fun e=>e.1 a3),if_neg (show ¬ (asked=0∨asked≠fr∨par≠0) by omega)]
   by_cases a4:(Qm9 pa id).2=true
   ·rw [a4,nt,cond_false,cp]
    by_cases a5:20<ag
    ·rw [if_pos (show ag>20 from a5),if_pos (.inr a5)]
    ·rw [if_neg (show ¬ ag>20 from a5),if_neg (show ¬ (true=false∨20<ag) by simp [a5])]
   ·have a4':(Qm9 pa id).2=false:=by cases hc:(Qm9 pa id).2<;>simp [hc] at a4 ⊢
    rw [a4',nf,cond_true,if_pos (.inl rfl)]
  ·rw [if_neg a3]
   by_cases a1:par=fr
   ·rw [if_pos a1,if_pos (show par≠0∧fr=par from ⟨a3,a1.symm⟩)]
   ·rw [if_neg a1,if_neg (show ¬ (par≠0∧fr=par) from fun e=>a1 e.2.symm),if_pos (show asked=0∨asked≠fr∨par≠0 from .inr (.inr a3))];rfl
 ·rw [if_neg a2]
  by_cases a1:par=fr
  ·rw [if_pos a1,if_pos (show par≠0∧fr=par by omega)]
  ·rw [if_neg a1,if_neg (show ¬ (par≠0∧fr=par) from fun e=>a1 e.2.symm),if_pos (show asked=0∨asked≠fr∨par≠0 from .inr (.inl a2))];rfl
theorem Zm1 {N:Int} {t:Tie} (h:TOk N t) (hN:N+1≤562949953421312) {m:Qk7} (hm:MSm m) (lo':Int):Qqg m (((t,[]),()),()) lo'=some (((Z4a t m lo').1,(Z4a t m lo').2,()),()):=by
 have acc:=Zo9 h hN hm
 have fr':=Zpd h
 have hl:=h.kids.len
 have hrs:=Zph h [] m
 obtain ⟨id,inc,now,par,pinc,grand,path,ep,born,asked,til,step,kids⟩:=t
 obtain ⟨kd,fr,to,mi,me,ag,pa,lo,hi,tx⟩:=m
 have h1:=h.now
 have h2:=h.step
 have h3:=h.path
 have h4:=h.asked
 have h5:=h.one
 have h0:=h.par
 have hag:=hm.ag
 have hfr:=hm.fr
 have hpa:=hm.pa
 have hmi:=hm.inc
 dsimp only [Qk7.kd,Qk7.fr,Qk7.to,Qk7.inc,Qk7.ep,Qk7.ag,Qk7.pa,Qk7.lo,Qk7.hi,Qk7.tx] at h0 h1 h2 h3 h4 h5 hag hfr hpa hmi hl hrs
 have hk:=h.kids
 dsimp only at hk
 have hfull:∀ q,KOk q→Qkw ((id,inc,now,par,pinc,grand,path,ep,born,asked,til,step,q),[]) 2 fr lo'=some ((),(((id,inc,now,par,pinc,grand,path,ep,born,asked,til,step,q),[(2,id,fr,inc,ep,now - born,path,lo',0,ebA)]),())):=fun q hq=>Zqe (N:=N) (t:=(id,inc,now,par,pinc,grand,path,ep,born,asked,til,step,q)) ⟨h.id,h.inc,h.now,h.par,h.pinc,h.grand,h.path,h.ep,h.born,h.asked,h.til,h.step,hq,h.big,h.one⟩ [] 2 fr lo' (.inl rfl) (by simp)
 have tn:∀ (k:Int) (t:Tie),k≠2→k≠5→Qkw (t,[]) k fr 0=some ((),((t,[(k,t.1,fr,t.2.1,0,0,[],0,0,ebA)]),())):=fun k t a b=>Zkm t [] k fr 0 a b (by simp)
 have att:Qta ((id,inc,now,par,pinc,grand,path,ep,born,asked,til,step,kids),[]) (kd,fr,to,mi,me,ag,pa,lo,hi,tx) lo'=if Que (id,inc,now,par,pinc,grand,path,ep,born,asked,til,step,kids)=false∨fr∈path∨(Qug kids fr=none∧Zhv id≤(kids.length:Int)) then some ((),(((id,inc,now,par,pinc,grand,path,ep,born,asked,til,step,kids),[(3,id,fr,inc,0,0,[],0,0,ebA)]),()))
   else some ((),(((id,inc,now,par,pinc,grand,path,ep,born,asked,til,step,Z35 kids (fr,mi,now)),[(2,id,fr,inc,ep,now - born,path,lo',0,ebA)]),())):=by
  have room:Qzh ((id,inc,now,par,pinc,grand,path,ep,born,asked,til,step,kids),[]) fr=some ((decide (¬ (Que (id,inc,now,par,pinc,grand,path,ep,born,asked,til,step,kids)=false∨fr∈path∨(Qug kids fr=none∧Zhv id≤(kids.length:Int)))),()),(((id,inc,now,par,pinc,grand,path,ep,born,asked,til,step,kids),[]),())):=by
   unfold Qzh
   dsimp only [g3,g4,g5,g6,g7,g8,g9,g10,g11,g12,h3,h4,h5,h6,h7,h8,h9,h10,h11,h12,u0,u1,u2,u3,u4,u5,u6,u7,u8,u9,u10,u11,u12,e1,e2,e3,e4,e5,e6,e7,e8,e9,e10,e11,e12]
   rw [Zih hk,fr',Zqk _ _ (by omega)]
   dsimp only [Option.bind_some]
   have e:∀ q:Int,(bif Que (id,inc,now,par,pinc,grand,path,ep,born,asked,til,step,kids) then bif !decide (fr∈path) then bif (match Qug kids fr with | some x=>(x,true,()) | none=>((0,0,0),false,())).2.1 then some ((true,()),(((id,inc,now,par,pinc,grand,path,ep,born,asked,til,step,kids),([]:List Qk7)),())) else some ((decide ((kids.length:Int)<q),()),(((id,inc,now,par,pinc,grand,path,ep,born,asked,til,step,kids),[]),()))
     else some ((false,()),(((id,inc,now,par,pinc,grand,path,ep,born,asked,til,step,kids),[]),())) else some ((false,()),(((id,inc,now,par,pinc,grand,path,ep,born,asked,til,step,kids),[]),())))=some ((decide (¬ (Que (id,inc,now,par,pinc,grand,path,ep,born,asked,til,step,kids)=false∨fr∈path∨(Qug kids fr=none∧q≤(kids.length:Int)))),()),(((id,inc,now,par,pinc,grand,path,ep,born,asked,til,step,kids),[]),())):=by
    intro q
    cases Que (id,inc,now,par,pinc,grand,path,ep,born,asked,til,step,kids) with
    | false=>simp
    | true=>
     rw [cond_true,Zq7,cp]
     by_cases a1:fr∈path
     ·rw [if_pos a1];simp [a1]
     ·rw [if_neg a1]
      cases hf:Qug kids fr with
      | some x=>simp [a1]
      | none=>
       dsimp only
       rw [cond_false]
       congr 3
       exact decide_eq_decide.2 (by simp [a1])
   by_cases a0:id=1
   ·rw [Z2y a0,show Zhv id=8 from if_pos a0];exact e 8
   ·rw [Z09 a0,show Zhv id=3 from if_neg a0];exact e 3
  unfold Qta
  dsimp only [g3,g4,g5,g6,g7,g8,g9,g10,g11,g12,h3,h4,h5,h6,h7,h8,h9,h10,h11,h12,u0,u1,u2,u3,u4,u5,u6,u7,u8,u9,u10,u11,u12,e1,e2,e3,e4,e5,e6,e7,e8,e9,e10,e11,e12]
  rw [room]
  dsimp only [Option.bind_some]
  rw [tn 3 _ (by decide) (by decide),hrs]
  dsimp only [Option.bind_some]
  rw [hfull _ (hk.hear (by dsimp only;omega))]
  dsimp only [Option.bind_some]
  by_cases c:Que (id,inc,now,par,pinc,grand,path,ep,born,asked,til,step,kids)=false∨fr∈path∨(Qug kids fr=none∧Zhv id≤(kids.length:Int))
  ·rw [if_pos c,decide_eq_false (fun e=>e c)];rfl
  ·rw [if_neg c,decide_eq_true c];rfl
 have bu:Qst ((id,inc,now,par,pinc,grand,path,ep,born,asked,til,step,kids),[]) (kd,fr,to,mi,me,ag,pa,lo,hi,tx)=if Qug kids fr=none then some ((),(((id,inc,now,par,pinc,grand,path,ep,born,asked,til,step,kids),[(3,id,fr,inc,0,0,[],0,0,ebA)]),())) else some ((),(((id,inc,now,par,pinc,grand,path,ep,born,asked,til,step,Z35 kids (fr,mi,now)),[]),())):=by
  unfold Qst
  dsimp only [g3,g4,g5,g6,g7,g8,g9,g10,g11,g12,h3,h4,h5,h6,h7,h8,h9,h10,h11,h12,u0,u1,u2,u3,u4,u5,u6,u7,u8,u9,u10,u11,u12,e1,e2,e3,e4,e5,e6,e7,e8,e9,e10,e11,e12]
  rw [Zih hk,hrs,tn 3 _ (by decide) (by decide)]
  dsimp only [Option.bind_some]
  cases hf:Qug kids fr with
  | none=>rfl
  | some x=>rw [if_neg (by simp)];rfl
 have w:=Zq0 (id,inc,now,par,pinc,grand,path,ep,born,asked,til,step,kids) [] (kd,fr,to,mi,me,ag,pa,lo,hi,tx) (Qm9 pa id).1 (by dsimp only [Qk7.kd,Qk7.fr,Qk7.to,Qk7.inc,Qk7.ep,Qk7.ag,Qk7.pa,Qk7.lo,Qk7.hi,Qk7.tx];omega)
 dsimp only [Qk7.kd,Qk7.fr,Qk7.to,Qk7.inc,Qk7.ep,Qk7.ag,Qk7.pa,Qk7.lo,Qk7.hi,Qk7.tx] at w
 unfold Qqg
 rw [Z4a]
 dsimp only [g3,g4,g5,g6,g7,g8,g9,g10,g11,g12,h3,h4,h5,h6,h7,h8,h9,h10,h11,h12,u0,u1,u2,u3,u4,u5,u6,u7,u8,u9,u10,u11,u12,e1,e2,e3,e4,e5,e6,e7,e8,e9,e10,e11,e12]
 rw [att,acc,bu]
 unfold Qwa Qw7
 dsimp only [g3,g4,g5,g6,g7,g8,g9,g10,g11,g12,h3,h4,h5,h6,h7,h8,h9,h10,h11,h12,u0,u1,u2,u3,u4,u5,u6,u7,u8,u9,u10,u11,u12,e1,e2,e3,e4,e5,e6,e7,e8,e9,e10,e11,e12]
 simp only [Zny,Option.bind_some]
 rw [tn 6 _ (by decide) (by decide),Zo3 _ _ (by omega)]
 simp only [Option.bind_some,Zny]
 rw [w,Zqa hk]
 simp only [Option.bind_some]
 rw [Qqd (x:=step+1) (by omega) (by omega),Qqd (x:=now - ag) (by omega) (by omega)]
 by_cases k1:kd=1
 ·rw [Z2y k1,if_pos k1];split<;>rfl
 rw [Z09 k1,if_neg k1]
 by_cases k2:kd=2
 ·rw [Z2y k2,if_pos k2]
 rw [Z09 k2,if_neg k2]
 by_cases k3:kd=3
 ·rw [Z2y k3,if_pos k3,ceq]
  by_cases a1:fr=asked
  ·have hp:par=0:=by
    by_cases hp:par=0
    ·exact hp
    ·have:=h5 hp;omega
   rw [if_pos a1,if_neg (show ¬ (par≠0∧fr=par) from fun e=>e.1 hp),if_pos (show asked≠0∧asked=fr by omega)];rfl
  ·rw [if_neg a1,ceq]
   by_cases a2:fr=par
   ·rw [if_pos a2,if_pos (show par≠0∧fr=par by omega)];rfl
   ·rw [if_neg a2,if_neg (show ¬ (par≠0∧fr=par) from fun e=>a2 e.2),if_neg (show ¬ (asked≠0∧asked=fr) from fun e=>a1 e.2.symm)];rfl
 rw [Z09 k3,if_neg k3]
 by_cases k4:kd=4
 ·rw [Z2y k4,if_pos k4];split<;>rfl
 rw [Z09 k4,if_neg k4]
 by_cases k5:kd=5
 ·rw [Z2y k5,if_pos k5,Z9x]
  by_cases a1:fr=par
  ·rw [if_pos a1,if_neg (show ¬ ¬ (par≠0∧fr=par) by omega)]
   by_cases a4:(Qm9 pa id).2=true
   ·rw [a4,nt,cond_false,if_neg (show ¬ true=false by decide),cp]
    by_cases a5:born<now - ag
    ·rw [if_pos (show now - ag>born from a5),if_pos a5];rfl
    ·rw [if_neg (show ¬ now - ag>born from a5),if_neg a5];rfl
   ·have a4':(Qm9 pa id).2=false:=by cases hc:(Qm9 pa id).2<;>simp [hc] at a4 ⊢
    rw [a4',nf,cond_true,if_pos rfl];rfl
  ·rw [if_neg a1,if_pos (show ¬ (par≠0∧fr=par) from fun e=>a1 e.2)];rfl
 rw [Z09 k5,if_neg k5,ceq]
 split<;>rfl
theorem Zoi {N:Int} {t:Tie} (h:TOk N t) (hN:N+1≤562949953421312) {m:Qk7} (hm:MSm m) (lo':Int):Zag t m lo'=some (((Qsz t m lo').1,(Qsz t m lo').2,()),()):=by
 have c1:=Zm1 h hN hm lo'
 have c2:=Zm1 (Zf7 h (s:=0) (by have:=h.now;omega)) hN hm lo'
 have ho:=ofT h
 have hk:=h.kids
 have hpar:=h.par
 have hfr:=hm.fr
 obtain ⟨id,inc,now,par,pinc,grand,path,ep,born,asked,til,step,kids⟩:=t
 obtain ⟨kd,fr,to,mi,me,ag,pa,lo,hi,tx⟩:=m
 dsimp only [Qk7.kd,Qk7.fr,Qk7.to,Qk7.inc,Qk7.ep,Qk7.ag,Qk7.pa,Qk7.lo,Qk7.hi,Qk7.tx] at hk hpar hfr
 unfold Zag
 rw [ho,Qsz]
 dsimp only [Option.bind_some]
 dsimp only [g3,g4,g5,g6,g7,g8,g9,g10,g11,g12,h3,h4,h5,h6,h7,h8,h9,h10,h11,h12,u0,u1,u2,u3,u4,u5,u6,u7,u8,u9,u10,u11,u12,e1,e2,e3,e4,e5,e6,e7,e8,e9,e10,e11,e12]
 rw [Zpz hk]
 dsimp only [Option.bind_some]
 cases ho:Zor kids fr mi with
 | true=>rw [cond_true,if_pos (.inl rfl)]
 | false=>
  rw [cond_false]
  have J2:Z6o ((((id,inc,now,par,pinc,grand,path,ep,born,asked,til,step,kids),[]),()),()) (kd,fr,to,mi,me,ag,pa,lo,hi,tx) lo'=bif par != 0 then bif fr==par then bif decide (mi>pinc) then Qqg (kd,fr,to,mi,me,ag,pa,lo,hi,tx) (((Zn9 (id,inc,now,par,pinc,grand,path,ep,born,asked,til,step,kids) 0,[]),()),()) lo' else Qqg (kd,fr,to,mi,me,ag,pa,lo,hi,tx) ((((id,inc,now,par,pinc,grand,path,ep,born,asked,til,step,kids),[]),()),()) lo' else Qqg (kd,fr,to,mi,me,ag,pa,lo,hi,tx) ((((id,inc,now,par,pinc,grand,path,ep,born,asked,til,step,kids),[]),()),()) lo' else Qqg (kd,fr,to,mi,me,ag,pa,lo,hi,tx) ((((id,inc,now,par,pinc,grand,path,ep,born,asked,til,step,kids),[]),()),()) lo':=rfl
  rw [J2,c1,c2]
  by_cases a1:fr=par
  ·rw [Z2y a1,Z2y a1,Zk3 (by omega)]
   by_cases a2:mi<pinc
   ·rw [cdp a2,if_pos (.inr ⟨a1,a2⟩)]
   ·rw [cdn a2,if_neg (by simp [a2])]
    by_cases a3:pinc<mi
    ·rw [cdp a3,if_pos ⟨a1,a3⟩]
    ·rw [cdn a3,if_neg (by simp [a3])]
  ·rw [Z09 a1,Z09 a1,if_neg (by simp [a1]),if_neg (by simp [a1])]
   cases (par != 0)<;>rfl
end Go.PE
