/-
  Plain lemmas on the functions.
  Conditions: none.
-/
import Derived.Test.YtmfiijdlhjajcaaGreatDoorNodeResumesPTieRef2
set_option linter.unusedVariables false
set_option linter.unusedSimpArgs false
set_option maxRecDepth 20000
namespace Go.PE
theorem OkM.msm {m:Qk7} (h:OkM m):MSm m:=⟨h.fr,by have:=h.inc;omega,h.ep,h.ag,h.pl,h.lo,h.hi,h.tx⟩
theorem Zoj (s:List Int × Int):Qnx s=some ((decide ((s.1.length:Int)≤s.2),()),(s,())):=rfl
def Z4s (t:Tie):Prop:=t.1=1→t.2.2.2.1=0∧t.2.2.2.2.2.2.2.2.2.1=0
theorem Zqu (t:Tie):(Znr t).1.1=t.1∧(Znr t).1.2.1=t.2.1∧(Znr t).1.2.2.2.1=t.2.2.2.1:=by
 obtain ⟨id,inc,now,par,pinc,grand,path,ep,born,asked,til,step,kids⟩:=t
 rw [Znr]
 split
 ·exact ⟨rfl,rfl,rfl⟩
 ·split<;>exact ⟨rfl,rfl,rfl⟩
theorem Zpv (t:Tie):(Zcj t).1=t.1∧(Zcj t).2.1=t.2.1∧(Z4s t→Z4s (Zcj t)):=by
 obtain ⟨id,inc,now,par,pinc,grand,path,ep,born,asked,til,step,kids⟩:=t
 rw [Zcj]
 split
 ·split<;>exact ⟨rfl,rfl,fun h=>h⟩
 ·rename_i h1
  split<;>exact ⟨rfl,rfl,fun _ h=>absurd h h1⟩
theorem Zpy (t:Tie):(Zkj t).1.1=t.1∧(Zkj t).1.2.1=t.2.1∧(Z4s t→Z4s (Zkj t).1):=by
 obtain ⟨a,b,c⟩:=Zpv t
 show (Z9a t).1.1=t.1∧(Z9a t).1.2.1=t.2.1∧(Z4s t→Z4s (Z9a t).1)
 unfold Z9a
 split
 ·exact ⟨a,b,c⟩
 ·rename_i h
  obtain ⟨x,y,_⟩:=Zqu (Zcj t)
  exact ⟨x.trans a,y.trans b,fun _ e=>absurd (x.symm.trans e |>.symm.trans (by omega) |>.symm) (fun e'=>h (a.symm.trans (x.symm.trans e)))⟩
theorem Zml (t:Tie) (m:Qk7) (lo:Int):(Z71 t m lo).1.1=t.1∧(Z71 t m lo).1.2.1=t.2.1∧(Z4s t→Z4s (Z71 t m lo).1):=by
 obtain ⟨id,inc,now,par,pinc,grand,path,ep,born,asked,til,step,kids⟩:=t
 obtain ⟨kd,fr,to,mi,me,ag,pa,l,hi,tx⟩:=m
 rw [Z71]
 split
 ·split<;>exact ⟨rfl,rfl,fun h=>h⟩
 ·split
  ·rw [Qxm]
   split
   ·exact ⟨rfl,rfl,fun h=>h⟩
   ·split
    ·exact ⟨rfl,rfl,fun h=>h⟩
    ·rename_i h1 h2
     split
     ·exact ⟨rfl,rfl,fun h e=>⟨(h e).1,rfl⟩⟩
     ·exact ⟨rfl,rfl,fun h e=>absurd (.inl (h e).2) h2⟩
  ·split
   ·split
    ·exact ⟨rfl,rfl,fun h e=>⟨rfl,rfl⟩⟩
    ·split
     ·exact ⟨rfl,rfl,fun h e=>⟨(h e).1,rfl⟩⟩
     ·exact ⟨rfl,rfl,fun h=>h⟩
   ·split
    ·split<;>exact ⟨rfl,rfl,fun h=>h⟩
    ·split
     ·split
      ·exact ⟨rfl,rfl,fun h=>h⟩
      ·split
       ·exact ⟨rfl,rfl,fun h e=>⟨rfl,rfl⟩⟩
       ·split<;>exact ⟨rfl,rfl,fun h=>h⟩
     ·split<;>exact ⟨rfl,rfl,fun h=>h⟩
theorem Zjn (t:Tie) (m:Qk7) (lo:Int):(Qx6 t m lo).1.1=t.1∧(Qx6 t m lo).1.2.1=t.2.1∧(Z4s t→Z4s (Qx6 t m lo).1):=by
 obtain ⟨id,inc,now,par,pinc,grand,path,ep,born,asked,til,step,kids⟩:=t
 obtain ⟨kd,fr,to,mi,me,ag,pa,l,hi,tx⟩:=m
 rw [Qx6]
 split
 ·exact ⟨rfl,rfl,fun h=>h⟩
 ·split
  ·obtain ⟨a,b,c⟩:=Zml (Zp0 (id,inc,now,par,pinc,grand,path,ep,born,asked,til,step,kids) 0) (kd,fr,to,mi,me,ag,pa,l,hi,tx) lo
   exact ⟨a,b,fun _=>c (fun _=>⟨rfl,rfl⟩)⟩
  ·exact Zml _ _ _
theorem Zpw (L) (id':Int) (hid:1≤id'∧id'≤8) (most i:Int) (hi:0≤i∧i≤1000) (hlt:i<most) {s:List Int × Int} (hs:Z9o s) (j1 j2 j3 j4 j5 j6 j7 j8 j9 j10 j11:Int) (j12:List Int) (j13:List Kid) (id inc now par pinc grand:Int) (path:List Int) (ep born asked til step:Int) (kids:List Kid) {N:Int} (hN:N+1≤562949953421312)
  (h:TOk N (id,inc,now,par,pinc,grand,path,ep,born,asked,til,step,kids)) (hr:Z4s (id,inc,now,par,pinc,grand,path,ep,born,asked,til,step,kids)) :
  (∃ s',Z9o s'∧Ql5 L id' most i s.1 s.2 j1 j2 j3 j4 j5 j6 j7 j8 j9 j10 j11 j12 j13 id inc now par pinc grand path ep born asked til step kids=some (((id,inc,now,par,pinc,grand,path,ep,born,asked,til,step,kids),()),(s',()))) ∨
  (∃ (s':List Int × Int) (t':Tie),Z9o s'∧TOk (N+1) t'∧t'.1=id∧t'.2.1=inc∧Z4s t'∧Ql5 L id' most i s.1 s.2 j1 j2 j3 j4 j5 j6 j7 j8 j9 j10 j11 j12 j13 id inc now par pinc grand path ep born asked til step kids =
   L id' most (i+1) s'.1 s'.2 j1 j2 j3 j4 j5 j6 j7 j8 j9 j10 j11 j12 j13 t'.1 t'.2.1 t'.2.2.1 t'.2.2.2.1 t'.2.2.2.2.1 t'.2.2.2.2.2.1 t'.2.2.2.2.2.2.1 t'.2.2.2.2.2.2.2.1 t'.2.2.2.2.2.2.2.2.1 t'.2.2.2.2.2.2.2.2.2.1 t'.2.2.2.2.2.2.2.2.2.2.1 t'.2.2.2.2.2.2.2.2.2.2.2.1 t'.2.2.2.2.2.2.2.2.2.2.2.2):=by
 have wi:IntKind.wrap .i64 (i+1)=i+1:=Qpx (by omega) (by omega)
 unfold Ql5
 rw [cdp hlt,Zoj]
 dsimp only [Option.bind_some]
 by_cases h0:(s.1.length:Int)≤s.2
 ·rw [decide_eq_true h0,nt,cond_false]
  exact .inl ⟨s,hs,rfl⟩
 rw [decide_eq_false h0,nf,cond_true]
 refine .inr ?_
 obtain ⟨q,s1,e,hq,hs1⟩:=Qn8 hs 4 (by omega)
 rw [e]
 dsimp only [Option.bind_some]
 have fin:∀ (m:Qk7) (s':List Int × Int),MSm m→Z9o s'→∃ (s'':List Int × Int) (t':Tie),Z9o s''∧TOk (N+1) t'∧t'.1=id∧t'.2.1=inc∧Z4s t'∧(Option.bind (Qm1 (id,inc,now,par,pinc,grand,path,ep,born,asked,til,step,kids) m 1) fun r=>L id' most (IntKind.wrap .i64 (i+1)) s'.1 s'.2 j1 j2 j3 j4 j5 j6 j7 j8 j9 j10 j11 j12 j13 r.1.1.1 r.1.1.2.1 r.1.1.2.2.1 (g3 r.1.1) (g4 r.1.1) (g5 r.1.1) (g6 r.1.1) (g7 r.1.1) (g8 r.1.1) (g9 r.1.1) (g10 r.1.1) (g11 r.1.1) (h12 r.1.1)) =
   L id' most (i+1) s''.1 s''.2 j1 j2 j3 j4 j5 j6 j7 j8 j9 j10 j11 j12 j13 t'.1 t'.2.1 t'.2.2.1 t'.2.2.2.1 t'.2.2.2.2.1 t'.2.2.2.2.2.1 t'.2.2.2.2.2.2.1 t'.2.2.2.2.2.2.2.1 t'.2.2.2.2.2.2.2.2.1 t'.2.2.2.2.2.2.2.2.2.1 t'.2.2.2.2.2.2.2.2.2.2.1 t'.2.2.2.2.2.2.2.2.2.2.2.1 t'.2.2.2.2.2.2.2.2.2.2.2.2:=by
  intro m s' hm hs'
  rw [Zgv h hN hm 1,wi]
  obtain ⟨a,b,c⟩:=Zjn (id,inc,now,par,pinc,grand,path,ep,born,asked,til,step,kids) m 1
  exact ⟨s',_,hs',Zf8 h hm 1 hN,a,b,c hr,rfl⟩
 have J1:∀ {s':List Int × Int} {m:Qk7},Zi5 m=true→Z9o s'→_:=fun {s'} {m} hm hs'=>fin m s' (Zcs hm).msm hs'
 rw [ceq]
 by_cases q0:(q:Int)=0
 ·rw [if_pos q0,Zit h hN,wi]
  obtain ⟨a,b,c⟩:=Zpy (id,inc,now,par,pinc,grand,path,ep,born,asked,til,step,kids)
  exact ⟨s1,_,hs1,Zpe h hN,a,b,c hr,rfl⟩
 rw [if_neg q0,ceq]
 by_cases q1:(q:Int)=1
 ·rw [if_pos q1]
  obtain ⟨m,s2,e2,hm,_,_,hs2⟩:=Zoi hs1 id' hid
  rw [e2]
  dsimp only [Option.bind_some]
  rw [Zao]
  by_cases a1:asked=0
  ·rw [if_pos a1];exact J1 hm hs2
  rw [if_neg a1,Zao]
  by_cases a2:asked=id'
  ·rw [if_pos a2];exact J1 hm hs2
  rw [if_neg a2]
  obtain ⟨p1,s3,e3,hp1,hs3⟩:=Qn8 hs2 2 (by omega)
  rw [e3]
  dsimp only [Option.bind_some]
  obtain ⟨p2,s4,e4,hp2,hs4⟩:=Qn8 hs3 9 (by omega)
  rw [e4]
  dsimp only [Option.bind_some]
  obtain ⟨p3,s5,e5,hp3,hs5⟩:=Qn8 hs4 22 (by omega)
  rw [e5]
  dsimp only [Option.bind_some]
  obtain ⟨p,s6,e6,hp,hs6⟩:=Ziw hs5
  rw [e6]
  dsimp only [Option.bind_some]
  have hpl:=(Qom hp).1
  have hp1':1≤p.length:=by
   unfold Qnc at hp;simp only [Bool.and_eq_true,decide_eq_true_eq] at hp;exact hp.1
  rw [ct (bt (by omega) (Int.le_refl _)),Int.toNat_natCast,List.take_length,cbp (by rw [List.length_drop];omega)]
  obtain ⟨p4,s7,e7,hp4,hs7⟩:=Qn8 hs6 4 (by omega)
  rw [e7]
  dsimp only [Option.bind_some]
  have ha:=h.asked
  dsimp only at ha
  rw [Qpx (x:=1+(p1:Int)) (by omega) (by omega),Qpx (x:=1+(p4:Int)) (by omega) (by omega)]
  exact fin _ _ ⟨by dsimp only [Qk7.kd,Qk7.fr,Qk7.to,Qk7.inc,Qk7.ep,Qk7.ag,Qk7.pa,Qk7.lo,Qk7.hi,Qk7.tx];omega,by dsimp only [Qk7.kd,Qk7.fr,Qk7.to,Qk7.inc,Qk7.ep,Qk7.ag,Qk7.pa,Qk7.lo,Qk7.hi,Qk7.tx];omega,by dsimp only [Qk7.kd,Qk7.fr,Qk7.to,Qk7.inc,Qk7.ep,Qk7.ag,Qk7.pa,Qk7.lo,Qk7.hi,Qk7.tx];omega,by dsimp only [Qk7.kd,Qk7.fr,Qk7.to,Qk7.inc,Qk7.ep,Qk7.ag,Qk7.pa,Qk7.lo,Qk7.hi,Qk7.tx];omega,by dsimp only [Qk7.kd,Qk7.fr,Qk7.to,Qk7.inc,Qk7.ep,Qk7.ag,Qk7.pa,Qk7.lo,Qk7.hi,Qk7.tx];rw [List.length_append,List.length_drop,List.length_singleton];omega,by dsimp only [Qk7.kd,Qk7.fr,Qk7.to,Qk7.inc,Qk7.ep,Qk7.ag,Qk7.pa,Qk7.lo,Qk7.hi,Qk7.tx];omega,by dsimp only [Qk7.kd,Qk7.fr,Qk7.to,Qk7.inc,Qk7.ep,Qk7.ag,Qk7.pa,Qk7.lo,Qk7.hi,Qk7.tx];omega,by dsimp only [Qk7.kd,Qk7.fr,Qk7.to,Qk7.inc,Qk7.ep,Qk7.ag,Qk7.pa,Qk7.lo,Qk7.hi,Qk7.tx];decide⟩ hs7
 rw [if_neg q1,ceq]
 by_cases q2:(q:Int)=2
 ·rw [if_pos q2]
  obtain ⟨m,s2,e2,hm,_,_,hs2⟩:=Zoi hs1 id' hid
  rw [e2]
  dsimp only [Option.bind_some]
  rw [Zao]
  by_cases a1:par=0
  ·rw [if_pos a1];exact J1 hm hs2
  rw [if_neg a1]
  obtain ⟨p1,s3,e3,hp1,hs3⟩:=Qn8 hs2 30 (by omega)
  rw [e3]
  dsimp only [Option.bind_some]
  obtain ⟨p2,s4,e4,hp2,hs4⟩:=Qn8 hs3 20 (by omega)
  rw [e4]
  dsimp only [Option.bind_some]
  obtain ⟨p,s6,e6,hp,hs6⟩:=Ziw hs4
  rw [e6]
  dsimp only [Option.bind_some]
  have hpl:=(Qom hp).1
  obtain ⟨p4,s7,e7,hp4,hs7⟩:=Qn8 hs6 9 (by omega)
  rw [e7]
  dsimp only [Option.bind_some]
  have ha:=h.par
  have hpi:=h.pinc
  dsimp only at ha hpi
  exact fin _ _ ⟨by dsimp only [Qk7.kd,Qk7.fr,Qk7.to,Qk7.inc,Qk7.ep,Qk7.ag,Qk7.pa,Qk7.lo,Qk7.hi,Qk7.tx];omega,by dsimp only [Qk7.kd,Qk7.fr,Qk7.to,Qk7.inc,Qk7.ep,Qk7.ag,Qk7.pa,Qk7.lo,Qk7.hi,Qk7.tx];omega,by dsimp only [Qk7.kd,Qk7.fr,Qk7.to,Qk7.inc,Qk7.ep,Qk7.ag,Qk7.pa,Qk7.lo,Qk7.hi,Qk7.tx];omega,by dsimp only [Qk7.kd,Qk7.fr,Qk7.to,Qk7.inc,Qk7.ep,Qk7.ag,Qk7.pa,Qk7.lo,Qk7.hi,Qk7.tx];omega,by dsimp only [Qk7.kd,Qk7.fr,Qk7.to,Qk7.inc,Qk7.ep,Qk7.ag,Qk7.pa,Qk7.lo,Qk7.hi,Qk7.tx];omega,by dsimp only [Qk7.kd,Qk7.fr,Qk7.to,Qk7.inc,Qk7.ep,Qk7.ag,Qk7.pa,Qk7.lo,Qk7.hi,Qk7.tx];omega,by dsimp only [Qk7.kd,Qk7.fr,Qk7.to,Qk7.inc,Qk7.ep,Qk7.ag,Qk7.pa,Qk7.lo,Qk7.hi,Qk7.tx];omega,by dsimp only [Qk7.kd,Qk7.fr,Qk7.to,Qk7.inc,Qk7.ep,Qk7.ag,Qk7.pa,Qk7.lo,Qk7.hi,Qk7.tx];decide⟩ hs7
 rw [if_neg q2]
 obtain ⟨m,s2,e2,hm,_,_,hs2⟩:=Zoi hs1 id' hid
 rw [e2]
 dsimp only [Option.bind_some]
 exact J1 hm hs2
theorem Zmm (n:Nat) (id':Int) (hid:1≤id'∧id'≤8) (j1 j2 j3 j4 j5 j6 j7 j8 j9 j10 j11:Int) (j12:List Int) (j13:List Kid):∀ (k m i:Nat) (s:List Int × Int) (t:Tie),i+k=20→k<m→Z9o s→TOk (100+i) t→Z4s t →
  ∃ (s':List Int × Int) (t':Tie),Z9o s'∧TOk 120 t'∧t'.1=t.1∧t'.2.1=t.2.1∧Z4s t'∧Qmu n m id' 20 (i:Int) s.1 s.2 j1 j2 j3 j4 j5 j6 j7 j8 j9 j10 j11 j12 j13 t.1 t.2.1 t.2.2.1 t.2.2.2.1 t.2.2.2.2.1 t.2.2.2.2.2.1 t.2.2.2.2.2.2.1 t.2.2.2.2.2.2.2.1 t.2.2.2.2.2.2.2.2.1 t.2.2.2.2.2.2.2.2.2.1 t.2.2.2.2.2.2.2.2.2.2.1 t.2.2.2.2.2.2.2.2.2.2.2.1 t.2.2.2.2.2.2.2.2.2.2.2.2=some ((t',()),(s',()))
 | k,0,i,s,t,_,h,_,_,_=>by omega
 | 0,m+1,i,s,t,hk,h,hs,ht,hr=>by
  refine ⟨s,t,hs,ht.mono (by omega) (by decide),rfl,rfl,hr,?_⟩
  show Ql5 (Qmu n m) id' 20 (i:Int) s.1 s.2 j1 j2 j3 j4 j5 j6 j7 j8 j9 j10 j11 j12 j13 t.1 t.2.1 t.2.2.1 t.2.2.2.1 t.2.2.2.2.1 t.2.2.2.2.2.1 t.2.2.2.2.2.2.1 t.2.2.2.2.2.2.2.1 t.2.2.2.2.2.2.2.2.1 t.2.2.2.2.2.2.2.2.2.1 t.2.2.2.2.2.2.2.2.2.2.1 t.2.2.2.2.2.2.2.2.2.2.2.1 t.2.2.2.2.2.2.2.2.2.2.2.2=_
  unfold Ql5
  rw [cdn (by omega)]
 | k+1,m+1,i,s,t,hk,h,hs,ht,hr=>by
  obtain ⟨id,inc,now,par,pinc,grand,path,ep,born,asked,til,step,kids⟩:=t
  rcases Zpw (Qmu n m) id' hid 20 (i:Int) (by omega) (by omega) hs j1 j2 j3 j4 j5 j6 j7 j8 j9 j10 j11 j12 j13 id inc now par pinc grand path ep born asked til step kids (N:=100+i) (by omega) ht hr with ⟨s',hs',e⟩ | ⟨s',t',hs',ht',e1,e2,hr',e⟩
  ·exact ⟨s',_,hs',ht.mono (by omega) (by decide),rfl,rfl,hr,e⟩
  ·obtain ⟨s'',t'',a1,a2,a3,a4,a5,a6⟩:=Zmm n id' hid j1 j2 j3 j4 j5 j6 j7 j8 j9 j10 j11 j12 j13 k m (i+1) s' t' (by omega) (by omega) hs' (by rw [show (100:Int)+((i+1:Nat):Int)=100+(i:Int)+1 by omega];exact ht') hr'
   exact ⟨s'',t'',a1,a2,a3.trans e1,a4.trans e2,a5,Eq.trans e (by rw [show ((i:Int)+1)=((i+1:Nat):Int) by omega];exact a6)⟩
theorem Zr6 {id inc now grand N:Int} (h1:1≤id∧id≤8) (h2:1≤inc∧inc≤1073741824) (h3:0≤now∧now≤N) (h4:0≤grand∧grand≤8) (hN:N≤562949953421312):TOk N (Zpa id inc now grand)∧Z4s (Zpa id inc now grand)∧(Zpa id inc now grand).1=id∧(Zpa id inc now grand).2.1=inc:=by
 unfold Zpa
 split
 ·exact ⟨⟨h1,h2,h3,by simp,by simp,h4,by simp,by simp only;omega,by simp only;omega,by simp,by simp only;omega,by simp only;omega,KOk.nil,hN,fun _=>rfl⟩,fun _=>⟨rfl,rfl⟩,rfl,rfl⟩
 ·exact ⟨⟨h1,h2,h3,by simp,by simp,h4,by simp,by simp only;omega,by simp only;omega,by simp,by simp only;omega,by simp only;omega,KOk.nil,hN,fun _=>rfl⟩,fun _=>⟨rfl,rfl⟩,rfl,rfl⟩
theorem Zre {s:List Int × Int} (hs:Z9o s) (id:Int) (hid:1≤id∧id≤8):∃ (s':List Int × Int) (t:Tie),Z9o s'∧TOk 120 t∧t.1=id∧Z4s t∧Qud s id 20=some ((t,()),(s',())):=by
 have key:∀ n m,100<m→∃ (s':List Int × Int) (t:Tie),Z9o s'∧TOk 120 t∧t.1=id∧Z4s t∧Qpw (Qs3 n m) s id 20=some ((t,()),(s',())):=by
  intro n m hm
  obtain ⟨m,rfl⟩:∃ m',m=m'+1:=⟨m - 1,by omega⟩
  unfold Qpw
  obtain ⟨p1,s1,e1,hp1,hs1⟩:=Qn8 hs 5 (by omega)
  rw [e1]
  dsimp only [Option.bind_some]
  obtain ⟨p2,s2,e2,hp2,hs2⟩:=Qn8 hs1 4 (by omega)
  rw [e2]
  dsimp only [Option.bind_some]
  rw [Zds]
  dsimp only [Option.bind_some]
  obtain ⟨a,b,c,d⟩:=Zr6 (N:=100+((0:Nat):Int)) hid (show (1:Int)≤2∧(2:Int)≤1073741824 by decide) (show (0:Int)≤(p1:Int)∧(p1:Int)≤100+((0:Nat):Int) by omega) (show 0≤(p2:Int)∧(p2:Int)≤8 by omega) (by omega)
  obtain ⟨s',t',a1,a2,a3,a4,a5,a6⟩:=Zmm n id hid 0 0 0 0 0 0 0 0 0 0 0 [] [] 20 (m+1) 0 s2 (Zpa id 2 p1 p2) (by omega) (by omega) hs2 a b
  exact ⟨s',t',a1,a2,a3.trans c,a5,a6⟩
 exact key 1099511627776 1099511627776 (by decide)
end Go.PE
