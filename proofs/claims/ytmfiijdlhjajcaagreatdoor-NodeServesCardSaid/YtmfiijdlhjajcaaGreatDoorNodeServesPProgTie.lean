/-
  Plain lemmas on the functions.
  Conditions: none.
-/
import Derived.Test.YtmfiijdlhjajcaaGreatDoorNodeServesPProgFeed2
set_option linter.unusedVariables false
set_option linter.unusedSimpArgs false
set_option maxRecDepth 20000
namespace Go.PE
theorem ofT {N:Int} {t:Tie} (h:TOk N t):Zmt t=some (((t,[]),()),()):=by
 unfold Zmt
 rw [Zdg _ (by have:=h.path;show t.2.2.2.2.2.2.1.length≤_;omega)]
 dsimp only [Option.bind_some]
 rw [Zco _ (by have:=h.kids.len;show t.2.2.2.2.2.2.2.2.2.2.2.2.length≤_;omega)]
 rfl
theorem Zmq (t:Tie) (l:List Qk7) (k to lo:Int) (h2:k≠2) (h5:k≠5) (hl:l.length≤100000):Ql0 (t,l) k to lo=some ((),((t,l++[(k,t.1,to,t.2.1,0,0,[],lo,0,ebA)]),())):=by
 unfold Ql0
 rw [Z0t h2,Z0t h5,cbp (by dsimp only;omega)]
theorem Zrk {N:Int} {t:Tie} (h:TOk N t) (l:List Qk7) (k to lo:Int) (h2:k=2∨k=5) (hl:l.length≤100000):Ql0 (t,l) k to lo=some ((),((t,l++[(k,t.1,to,t.2.1,t.2.2.2.2.2.2.2.1,t.2.2.1 - t.2.2.2.2.2.2.2.2.1,t.2.2.2.2.2.2.1,lo,0,ebA)]),())):=by
 have J:Qui (t,l) k to lo=some ((),((t,l++[(k,t.1,to,t.2.1,t.2.2.2.2.2.2.2.1,t.2.2.1 - t.2.2.2.2.2.2.2.2.1,t.2.2.2.2.2.2.1,lo,0,ebA)]),())):=by
  unfold Qui
  have h1:=h.now
  have h3:=h.born
  have h4:=h.big
  rw [Zdg _ (by have:=h.path;show t.2.2.2.2.2.2.1.length≤_;omega)]
  dsimp only [Option.bind_some]
  rw [cbp (by omega),Qq3 (by show _≤t.2.2.1 - t.2.2.2.2.2.2.2.2.1;omega) (by show t.2.2.1 - t.2.2.2.2.2.2.2.2.1≤_;omega)]
 unfold Ql0
 rw [J]
 rcases h2 with rfl | rfl
 ·rw [Z2n rfl]
 ·rw [Z0t (by decide),Z2n rfl]
theorem Zpm (t:Tie) (l:List Qk7) (s:Int):Qx2 (t,l) s=some ((),((Zor t s,l),())):=rfl
theorem Zqw {N:Int} {t:Tie} (h:TOk N t):Zch t=some ((Qvc t,()),()):=Qzc h
theorem Zqn {N:Int} {t:Tie} (h:TOk N t) (l:List Qk7) (m:Qk7):Qva (t,l) m=some ((),(((t.1,t.2.1,t.2.2.1,t.2.2.2.1,t.2.2.2.2.1,t.2.2.2.2.2.1,t.2.2.2.2.2.2.1,t.2.2.2.2.2.2.2.1,t.2.2.2.2.2.2.2.2.1,t.2.2.2.2.2.2.2.2.2.1,t.2.2.2.2.2.2.2.2.2.2.1,t.2.2.2.2.2.2.2.2.2.2.2.1,Z56 t.2.2.2.2.2.2.2.2.2.2.2.2 (m.fr,m.inc,t.2.2.1)),l),())):=by
 unfold Qva
 obtain ⟨b,hb⟩:=Zs3 h.kids (m.fr,m.inc,t.2.2.1)
 show Option.bind (Z7v t.2.2.2.2.2.2.2.2.2.2.2.2 (m.fr,m.inc,t.2.2.1)) _=_
 rw [hb];rfl
theorem Zre (t:Tie) (l:List Qk7) (m:Qk7) (p:List Int) (h:m.pa.length≤1000000):Qyt (t,l) m p=some ((),(((t.1,t.2.1,t.2.2.1,t.2.2.2.1,t.2.2.2.2.1,Zan m.pa,p,t.2.2.2.2.2.2.2),l),())):=by
 unfold Qyt
 show Option.bind (Z5f m.pa) _=_
 rw [Zpr _ h]
 dsimp only [Option.bind_some]
 rw [ceq]
 unfold Zan
 by_cases h2:m.pa.length<2
 ·rw [if_pos h2,if_pos h2];rfl
 ·rw [if_neg h2,if_neg h2]
  by_cases h3:List.getD m.pa (m.pa.length - 2) 0=0
  ·rw [if_pos h3,if_pos h3]
  ·rw [if_neg h3,if_neg h3]
theorem Zpp {N:Int} {t:Tie} (h:TOk N t) (hN:N+1≤562949953421312) {m:Qk7} (hm:MSm m):Qtr (t,[]) m=some ((),(Qyi t m,())):=by
 obtain ⟨id,inc,now,par,pinc,grand,path,ep,born,asked,til,step,kids⟩:=t
 obtain ⟨kd,fr,to,mi,me,ag,pa,lo,hi,tx⟩:=m
 have h1:=h.now
 have h2:=h.step
 have h4:=h.asked
 have hag:=hm.ag
 have hfr:=hm.fr
 have hpa:=hm.pa
 dsimp only [Qk7.kd,Qk7.fr,Qk7.to,Qk7.inc,Qk7.ep,Qk7.ag,Qk7.pa,Qk7.lo,Qk7.hi,Qk7.tx] at h1 h2 h4 hag hfr hpa
 have J1:Qta ((id,inc,now,par,pinc,grand,path,ep,born,asked,til,step,kids),[]) (kd,fr,to,mi,me,ag,pa,lo,hi,tx)=some ((),(((id,inc,now,par,pinc,grand,path,ep,born,0,til,step+1,kids),[(6,id,fr,inc,0,0,[],0,0,ebA)]),())):=by
  unfold Qta
  dsimp only [g3,g4,g5,g6,g7,g8,g9,g10,g11,g12,h3,h4,h5,h6,h7,h8,h9,h10,h11,h12,u0,u1,u2,u3,u4,u5,u6,u7,u8,u9,u10,u11,u12,e1,e2,e3,e4,e5,e6,e7,e8,e9,e10,e11,e12]
  rw [Zmq _ _ _ _ _ (by decide) (by decide) (by simp)]
  dsimp only [Option.bind_some]
  rw [Qq3 (by omega) (by omega)];rfl
 have w:=Zre (id,inc,now,par,pinc,grand,path,ep,born,0,til,step,kids) [] (kd,fr,to,mi,me,ag,pa,lo,hi,tx) (Qmh pa id).1 (by dsimp only [Qk7.kd,Qk7.fr,Qk7.to,Qk7.inc,Qk7.ep,Qk7.ag,Qk7.pa,Qk7.lo,Qk7.hi,Qk7.tx];omega)
 dsimp only [Qk7.kd,Qk7.fr,Qk7.to,Qk7.inc,Qk7.ep,Qk7.ag,Qk7.pa,Qk7.lo,Qk7.hi,Qk7.tx] at w
 unfold Qtr
 rw [J1,Qyi]
 dsimp only [g3,g4,g5,g6,g7,g8,g9,g10,g11,g12,h3,h4,h5,h6,h7,h8,h9,h10,h11,h12,u0,u1,u2,u3,u4,u5,u6,u7,u8,u9,u10,u11,u12,e1,e2,e3,e4,e5,e6,e7,e8,e9,e10,e11,e12]
 rw [Zmq _ _ _ _ _ (by decide) (by decide) (by simp),Zq6 _ _ (by omega)]
 dsimp only [Option.bind_some]
 rw [w]
 dsimp only [Option.bind_some]
 rw [Qq3 (x:=now - ag) (by omega) (by omega),Zd0,Zd0,Zd0]
 by_cases a2:asked=fr
 ·rw [if_pos a2]
  by_cases a3:par=0
  ·rw [if_pos a3,if_neg (show ¬ (par≠0∧fr=par) from fun e=>e.1 a3),if_neg (show ¬ (asked=0∨asked≠fr∨par≠0) by omega)]
   by_cases a4:(Qmh pa id).2=true
   ·rw [a4,nt,cond_false,cp]
    by_cases a5:20<ag
    ·rw [if_pos (show ag>20 from a5),if_pos (.inr a5)]
    ·rw [if_neg (show ¬ ag>20 from a5),if_neg (show ¬ (true=false∨20<ag) by simp [a5])]
   ·have a4':(Qmh pa id).2=false:=by cases hc:(Qmh pa id).2<;>simp [hc] at a4 ⊢
    rw [a4',nf,cond_true,if_pos (.inl rfl)]
  ·rw [if_neg a3]
   by_cases a1:par=fr
   ·rw [if_pos a1,if_pos (show par≠0∧fr=par from ⟨a3,a1.symm⟩)]
   ·rw [if_neg a1,if_neg (show ¬ (par≠0∧fr=par) from fun e=>a1 e.2.symm),if_pos (show asked=0∨asked≠fr∨par≠0 from .inr (.inr a3))];rfl
 ·rw [if_neg a2]
  by_cases a1:par=fr
  ·rw [if_pos a1,if_pos (show par≠0∧fr=par by omega)]
  ·rw [if_neg a1,if_neg (show ¬ (par≠0∧fr=par) from fun e=>a1 e.2.symm),if_pos (show asked=0∨asked≠fr∨par≠0 from .inr (.inl a2))];rfl
theorem Znh {N:Int} {t:Tie} (h:TOk N t) (hN:N+1≤562949953421312) {m:Qk7} (hm:MSm m) (lo':Int):Qqq m (((t,[]),()),()) lo'=some (((Z6g t m lo').1,(Z6g t m lo').2,()),()):=by
 have acc:=Zpp h hN hm
 have fr':=Zqw h
 have hl:=h.kids.len
 have hrs:=Zqn h [] m
 obtain ⟨id,inc,now,par,pinc,grand,path,ep,born,asked,til,step,kids⟩:=t
 obtain ⟨kd,fr,to,mi,me,ag,pa,lo,hi,tx⟩:=m
 have h1:=h.now
 have h2:=h.step
 have h3:=h.path
 have h4:=h.asked
 have h5:=h.one
 have h0:=h.par
 have hag:=hm.ag
 have hfr:=hm.fr
 have hpa:=hm.pa
 have hmi:=hm.inc
 dsimp only [Qk7.kd,Qk7.fr,Qk7.to,Qk7.inc,Qk7.ep,Qk7.ag,Qk7.pa,Qk7.lo,Qk7.hi,Qk7.tx] at h0 h1 h2 h3 h4 h5 hag hfr hpa hmi hl hrs
 have hk:=h.kids
 dsimp only at hk
 have hfull:∀ q,KOk q→Ql0 ((id,inc,now,par,pinc,grand,path,ep,born,asked,til,step,q),[]) 2 fr lo'=some ((),(((id,inc,now,par,pinc,grand,path,ep,born,asked,til,step,q),[(2,id,fr,inc,ep,now - born,path,lo',0,ebA)]),())):=fun q hq=>Zrk (N:=N) (t:=(id,inc,now,par,pinc,grand,path,ep,born,asked,til,step,q)) ⟨h.id,h.inc,h.now,h.par,h.pinc,h.grand,h.path,h.ep,h.born,h.asked,h.til,h.step,hq,h.big,h.one⟩ [] 2 fr lo' (.inl rfl) (by simp)
 have tn:∀ (k:Int) (t:Tie),k≠2→k≠5→Ql0 (t,[]) k fr 0=some ((),((t,[(k,t.1,fr,t.2.1,0,0,[],0,0,ebA)]),())):=fun k t a b=>Zmq t [] k fr 0 a b (by simp)
 have att:Qu2 ((id,inc,now,par,pinc,grand,path,ep,born,asked,til,step,kids),[]) (kd,fr,to,mi,me,ag,pa,lo,hi,tx) lo'=if Qvc (id,inc,now,par,pinc,grand,path,ep,born,asked,til,step,kids)=false∨fr∈path∨(Quk kids fr=none∧Zjc id≤(kids.length:Int)) then some ((),(((id,inc,now,par,pinc,grand,path,ep,born,asked,til,step,kids),[(3,id,fr,inc,0,0,[],0,0,ebA)]),()))
   else some ((),(((id,inc,now,par,pinc,grand,path,ep,born,asked,til,step,Z56 kids (fr,mi,now)),[(2,id,fr,inc,ep,now - born,path,lo',0,ebA)]),())):=by
  have room:Z0s ((id,inc,now,par,pinc,grand,path,ep,born,asked,til,step,kids),[]) fr=some ((decide (¬ (Qvc (id,inc,now,par,pinc,grand,path,ep,born,asked,til,step,kids)=false∨fr∈path∨(Quk kids fr=none∧Zjc id≤(kids.length:Int)))),()),(((id,inc,now,par,pinc,grand,path,ep,born,asked,til,step,kids),[]),())):=by
   unfold Z0s
   dsimp only [g3,g4,g5,g6,g7,g8,g9,g10,g11,g12,h3,h4,h5,h6,h7,h8,h9,h10,h11,h12,u0,u1,u2,u3,u4,u5,u6,u7,u8,u9,u10,u11,u12,e1,e2,e3,e4,e5,e6,e7,e8,e9,e10,e11,e12]
   rw [Zjr hk,fr',Zro _ _ (by omega)]
   dsimp only [Option.bind_some]
   have e:∀ q:Int,(bif Qvc (id,inc,now,par,pinc,grand,path,ep,born,asked,til,step,kids) then bif !decide (fr∈path) then bif (match Quk kids fr with | some x=>(x,true,()) | none=>((0,0,0),false,())).2.1 then some ((true,()),(((id,inc,now,par,pinc,grand,path,ep,born,asked,til,step,kids),([]:List Qk7)),())) else some ((decide ((kids.length:Int)<q),()),(((id,inc,now,par,pinc,grand,path,ep,born,asked,til,step,kids),[]),()))
     else some ((false,()),(((id,inc,now,par,pinc,grand,path,ep,born,asked,til,step,kids),[]),())) else some ((false,()),(((id,inc,now,par,pinc,grand,path,ep,born,asked,til,step,kids),[]),())))=some ((decide (¬ (Qvc (id,inc,now,par,pinc,grand,path,ep,born,asked,til,step,kids)=false∨fr∈path∨(Quk kids fr=none∧q≤(kids.length:Int)))),()),(((id,inc,now,par,pinc,grand,path,ep,born,asked,til,step,kids),[]),())):=by
    intro q
    cases Qvc (id,inc,now,par,pinc,grand,path,ep,born,asked,til,step,kids) with
    | false=>simp
    | true=>
     rw [cond_true,Zs5,cp]
     by_cases a1:fr∈path
     ·rw [if_pos a1];simp [a1]
     ·rw [if_neg a1]
      cases hf:Quk kids fr with
      | some x=>simp [a1]
      | none=>
       dsimp only
       rw [cond_false]
       congr 3
       exact decide_eq_decide.2 (by simp [a1])
   by_cases a0:id=1
   ·rw [Z2n a0,show Zjc id=8 from if_pos a0];exact e 8
   ·rw [Z0t a0,show Zjc id=3 from if_neg a0];exact e 3
  unfold Qu2
  dsimp only [g3,g4,g5,g6,g7,g8,g9,g10,g11,g12,h3,h4,h5,h6,h7,h8,h9,h10,h11,h12,u0,u1,u2,u3,u4,u5,u6,u7,u8,u9,u10,u11,u12,e1,e2,e3,e4,e5,e6,e7,e8,e9,e10,e11,e12]
  rw [room]
  dsimp only [Option.bind_some]
  rw [tn 3 _ (by decide) (by decide),hrs]
  dsimp only [Option.bind_some]
  rw [hfull _ (hk.hear (by dsimp only;omega))]
  dsimp only [Option.bind_some]
  by_cases c:Qvc (id,inc,now,par,pinc,grand,path,ep,born,asked,til,step,kids)=false∨fr∈path∨(Quk kids fr=none∧Zjc id≤(kids.length:Int))
  ·rw [if_pos c,decide_eq_false (fun e=>e c)];rfl
  ·rw [if_neg c,decide_eq_true c];rfl
 have bu:Qtm ((id,inc,now,par,pinc,grand,path,ep,born,asked,til,step,kids),[]) (kd,fr,to,mi,me,ag,pa,lo,hi,tx)=if Quk kids fr=none then some ((),(((id,inc,now,par,pinc,grand,path,ep,born,asked,til,step,kids),[(3,id,fr,inc,0,0,[],0,0,ebA)]),())) else some ((),(((id,inc,now,par,pinc,grand,path,ep,born,asked,til,step,Z56 kids (fr,mi,now)),[]),())):=by
  unfold Qtm
  dsimp only [g3,g4,g5,g6,g7,g8,g9,g10,g11,g12,h3,h4,h5,h6,h7,h8,h9,h10,h11,h12,u0,u1,u2,u3,u4,u5,u6,u7,u8,u9,u10,u11,u12,e1,e2,e3,e4,e5,e6,e7,e8,e9,e10,e11,e12]
  rw [Zjr hk,hrs,tn 3 _ (by decide) (by decide)]
  dsimp only [Option.bind_some]
  cases hf:Quk kids fr with
  | none=>rfl
  | some x=>rw [if_neg (by simp)];rfl
 have w:=Zre (id,inc,now,par,pinc,grand,path,ep,born,asked,til,step,kids) [] (kd,fr,to,mi,me,ag,pa,lo,hi,tx) (Qmh pa id).1 (by dsimp only [Qk7.kd,Qk7.fr,Qk7.to,Qk7.inc,Qk7.ep,Qk7.ag,Qk7.pa,Qk7.lo,Qk7.hi,Qk7.tx];omega)
 dsimp only [Qk7.kd,Qk7.fr,Qk7.to,Qk7.inc,Qk7.ep,Qk7.ag,Qk7.pa,Qk7.lo,Qk7.hi,Qk7.tx] at w
 unfold Qqq
 rw [Z6g]
 dsimp only [g3,g4,g5,g6,g7,g8,g9,g10,g11,g12,h3,h4,h5,h6,h7,h8,h9,h10,h11,h12,u0,u1,u2,u3,u4,u5,u6,u7,u8,u9,u10,u11,u12,e1,e2,e3,e4,e5,e6,e7,e8,e9,e10,e11,e12]
 rw [att,acc,bu]
 unfold Qxj Qws
 dsimp only [g3,g4,g5,g6,g7,g8,g9,g10,g11,g12,h3,h4,h5,h6,h7,h8,h9,h10,h11,h12,u0,u1,u2,u3,u4,u5,u6,u7,u8,u9,u10,u11,u12,e1,e2,e3,e4,e5,e6,e7,e8,e9,e10,e11,e12]
 simp only [Zpm,Option.bind_some]
 rw [tn 6 _ (by decide) (by decide),Zq6 _ _ (by omega)]
 simp only [Option.bind_some,Zpm]
 rw [w,Zs2 hk]
 simp only [Option.bind_some]
 rw [Qq3 (x:=step+1) (by omega) (by omega),Qq3 (x:=now - ag) (by omega) (by omega)]
 by_cases k1:kd=1
 ·rw [Z2n k1,if_pos k1];split<;>rfl
 rw [Z0t k1,if_neg k1]
 by_cases k2:kd=2
 ·rw [Z2n k2,if_pos k2]
 rw [Z0t k2,if_neg k2]
 by_cases k3:kd=3
 ·rw [Z2n k3,if_pos k3,ceq]
  by_cases a1:fr=asked
  ·have hp:par=0:=by
    by_cases hp:par=0
    ·exact hp
    ·have:=h5 hp;omega
   rw [if_pos a1,if_neg (show ¬ (par≠0∧fr=par) from fun e=>e.1 hp),if_pos (show asked≠0∧asked=fr by omega)];rfl
  ·rw [if_neg a1,ceq]
   by_cases a2:fr=par
   ·rw [if_pos a2,if_pos (show par≠0∧fr=par by omega)];rfl
   ·rw [if_neg a2,if_neg (show ¬ (par≠0∧fr=par) from fun e=>a2 e.2),if_neg (show ¬ (asked≠0∧asked=fr) from fun e=>a1 e.2.symm)];rfl
 rw [Z0t k3,if_neg k3]
 by_cases k4:kd=4
 ·rw [Z2n k4,if_pos k4];split<;>rfl
 rw [Z0t k4,if_neg k4]
 by_cases k5:kd=5
 ·rw [Z2n k5,if_pos k5,Zd0]
  by_cases a1:fr=par
  ·rw [if_pos a1,if_neg (show ¬ ¬ (par≠0∧fr=par) by omega)]
   by_cases a4:(Qmh pa id).2=true
   ·rw [a4,nt,cond_false,if_neg (show ¬ true=false by decide),cp]
    by_cases a5:born<now - ag
    ·rw [if_pos (show now - ag>born from a5),if_pos a5];rfl
    ·rw [if_neg (show ¬ now - ag>born from a5),if_neg a5];rfl
   ·have a4':(Qmh pa id).2=false:=by cases hc:(Qmh pa id).2<;>simp [hc] at a4 ⊢
    rw [a4',nf,cond_true,if_pos rfl];rfl
  ·rw [if_neg a1,if_pos (show ¬ (par≠0∧fr=par) from fun e=>a1 e.2)];rfl
 rw [Z0t k5,if_neg k5,ceq]
 split<;>rfl
theorem Zou {N:Int} {t:Tie} (h:TOk N t) (hN:N+1≤562949953421312) {m:Qk7} (hm:MSm m) (lo':Int):Zce t m lo'=some (((Qut t m lo').1,(Qut t m lo').2,()),()):=by
 have c1:=Znh h hN hm lo'
 have c2:=Znh (Zh3 h (s:=0) (by have:=h.now;omega)) hN hm lo'
 have ho:=ofT h
 have hk:=h.kids
 have hpar:=h.par
 have hfr:=hm.fr
 obtain ⟨id,inc,now,par,pinc,grand,path,ep,born,asked,til,step,kids⟩:=t
 obtain ⟨kd,fr,to,mi,me,ag,pa,lo,hi,tx⟩:=m
 dsimp only [Qk7.kd,Qk7.fr,Qk7.to,Qk7.inc,Qk7.ep,Qk7.ag,Qk7.pa,Qk7.lo,Qk7.hi,Qk7.tx] at hk hpar hfr
 unfold Zce
 rw [ho,Qut]
 dsimp only [Option.bind_some]
 dsimp only [g3,g4,g5,g6,g7,g8,g9,g10,g11,g12,h3,h4,h5,h6,h7,h8,h9,h10,h11,h12,u0,u1,u2,u3,u4,u5,u6,u7,u8,u9,u10,u11,u12,e1,e2,e3,e4,e5,e6,e7,e8,e9,e10,e11,e12]
 rw [Zrh hk]
 dsimp only [Option.bind_some]
 cases ho:Zqb kids fr mi with
 | true=>rw [cond_true,if_pos (.inl rfl)]
 | false=>
  rw [cond_false]
  have J2:Z7w ((((id,inc,now,par,pinc,grand,path,ep,born,asked,til,step,kids),[]),()),()) (kd,fr,to,mi,me,ag,pa,lo,hi,tx) lo'=bif par != 0 then bif fr==par then bif decide (mi>pinc) then Qqq (kd,fr,to,mi,me,ag,pa,lo,hi,tx) (((Zor (id,inc,now,par,pinc,grand,path,ep,born,asked,til,step,kids) 0,[]),()),()) lo' else Qqq (kd,fr,to,mi,me,ag,pa,lo,hi,tx) ((((id,inc,now,par,pinc,grand,path,ep,born,asked,til,step,kids),[]),()),()) lo' else Qqq (kd,fr,to,mi,me,ag,pa,lo,hi,tx) ((((id,inc,now,par,pinc,grand,path,ep,born,asked,til,step,kids),[]),()),()) lo' else Qqq (kd,fr,to,mi,me,ag,pa,lo,hi,tx) ((((id,inc,now,par,pinc,grand,path,ep,born,asked,til,step,kids),[]),()),()) lo':=rfl
  rw [J2,c1,c2]
  by_cases a1:fr=par
  ·rw [Z2n a1,Z2n a1,Znw (by omega)]
   by_cases a2:mi<pinc
   ·rw [cdp a2,if_pos (.inr ⟨a1,a2⟩)]
   ·rw [cdn a2,if_neg (by simp [a2])]
    by_cases a3:pinc<mi
    ·rw [cdp a3,if_pos ⟨a1,a3⟩]
    ·rw [cdn a3,if_neg (by simp [a3])]
  ·rw [Z0t a1,Z0t a1,if_neg (by simp [a1]),if_neg (by simp [a1])]
   cases (par != 0)<;>rfl
end Go.PE
