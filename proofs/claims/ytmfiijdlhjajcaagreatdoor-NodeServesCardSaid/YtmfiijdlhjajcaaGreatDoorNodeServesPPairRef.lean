/-
  Plain lemmas on the functions.
  Conditions: none.
-/
import Derived.Test.YtmfiijdlhjajcaaGreatDoorNodeServesPTieRef2
set_option linter.unusedVariables false
set_option linter.unusedSimpArgs false
set_option maxRecDepth 20000
namespace Go.PE
theorem OkM.msm {m:Qk7} (h:OkM m):MSm m:=⟨h.fr,by have:=h.inc;omega,h.ep,h.ag,h.pl,h.lo,h.hi,h.tx⟩
theorem Zp0 (s:List Int × Int):Qod s=some ((decide ((s.1.length:Int)≤s.2),()),(s,())):=rfl
def Z4y (t:Tie):Prop:=t.1=1→t.2.2.2.1=0∧t.2.2.2.2.2.2.2.2.2.1=0
theorem Zrr (t:Tie):(Zn4 t).1.1=t.1∧(Zn4 t).1.2.1=t.2.1∧(Zn4 t).1.2.2.2.1=t.2.2.2.1:=by
 obtain ⟨id,inc,now,par,pinc,grand,path,ep,born,asked,til,step,kids⟩:=t
 rw [Zn4]
 split
 ·exact ⟨rfl,rfl,rfl⟩
 ·split<;>exact ⟨rfl,rfl,rfl⟩
theorem Zqy (t:Tie):(Zb2 t).1=t.1∧(Zb2 t).2.1=t.2.1∧(Z4y t→Z4y (Zb2 t)):=by
 obtain ⟨id,inc,now,par,pinc,grand,path,ep,born,asked,til,step,kids⟩:=t
 rw [Zb2]
 split
 ·split<;>exact ⟨rfl,rfl,fun h=>h⟩
 ·rename_i h1
  split<;>exact ⟨rfl,rfl,fun _ h=>absurd h h1⟩
theorem Zn6 (t:Tie):(Zjf t).1.1=t.1∧(Zjf t).1.2.1=t.2.1∧(Z4y t→Z4y (Zjf t).1):=by
 obtain ⟨a,b,c⟩:=Zqy t
 show (Z75 t).1.1=t.1∧(Z75 t).1.2.1=t.2.1∧(Z4y t→Z4y (Z75 t).1)
 unfold Z75
 split
 ·exact ⟨a,b,c⟩
 ·rename_i h
  obtain ⟨x,y,_⟩:=Zrr (Zb2 t)
  exact ⟨x.trans a,y.trans b,fun _ e=>absurd (x.symm.trans e |>.symm.trans (by omega) |>.symm) (fun e'=>h (a.symm.trans (x.symm.trans e)))⟩
theorem Zn2 (t:Tie) (m:Qk7) (lo:Int):(Z6g t m lo).1.1=t.1∧(Z6g t m lo).1.2.1=t.2.1∧(Z4y t→Z4y (Z6g t m lo).1):=by
 obtain ⟨id,inc,now,par,pinc,grand,path,ep,born,asked,til,step,kids⟩:=t
 obtain ⟨kd,fr,to,mi,me,ag,pa,l,hi,tx⟩:=m
 rw [Z6g]
 split
 ·split<;>exact ⟨rfl,rfl,fun h=>h⟩
 ·split
  ·rw [Qyi]
   split
   ·exact ⟨rfl,rfl,fun h=>h⟩
   ·split
    ·exact ⟨rfl,rfl,fun h=>h⟩
    ·rename_i h1 h2
     split
     ·exact ⟨rfl,rfl,fun h e=>⟨(h e).1,rfl⟩⟩
     ·exact ⟨rfl,rfl,fun h e=>absurd (.inl (h e).2) h2⟩
  ·split
   ·split
    ·exact ⟨rfl,rfl,fun h e=>⟨rfl,rfl⟩⟩
    ·split
     ·exact ⟨rfl,rfl,fun h e=>⟨(h e).1,rfl⟩⟩
     ·exact ⟨rfl,rfl,fun h=>h⟩
   ·split
    ·split<;>exact ⟨rfl,rfl,fun h=>h⟩
    ·split
     ·split
      ·exact ⟨rfl,rfl,fun h=>h⟩
      ·split
       ·exact ⟨rfl,rfl,fun h e=>⟨rfl,rfl⟩⟩
       ·split<;>exact ⟨rfl,rfl,fun h=>h⟩
     ·split<;>exact ⟨rfl,rfl,fun h=>h⟩
theorem Zg0 (t:Tie) (m:Qk7) (lo:Int):(Qut t m lo).1.1=t.1∧(Qut t m lo).1.2.1=t.2.1∧(Z4y t→Z4y (Qut t m lo).1):=by
 obtain ⟨id,inc,now,par,pinc,grand,path,ep,born,asked,til,step,kids⟩:=t
 obtain ⟨kd,fr,to,mi,me,ag,pa,l,hi,tx⟩:=m
 rw [Qut]
 split
 ·exact ⟨rfl,rfl,fun h=>h⟩
 ·split
  ·obtain ⟨a,b,c⟩:=Zn2 (Zor (id,inc,now,par,pinc,grand,path,ep,born,asked,til,step,kids) 0) (kd,fr,to,mi,me,ag,pa,l,hi,tx) lo
   exact ⟨a,b,fun _=>c (fun _=>⟨rfl,rfl⟩)⟩
  ·exact Zn2 _ _ _
def Znd (i:Int) (t:Tie):Prop:=t.1=i∧∀ k∈t.2.2.2.2.2.2.2.2.2.2.2.2,k.1≠i∧1≤k.2.1
theorem Zkm (t:Tie):∀ k∈(Zb2 t).2.2.2.2.2.2.2.2.2.2.2.2,k∈t.2.2.2.2.2.2.2.2.2.2.2.2:=by
 obtain ⟨id,inc,now,par,pinc,grand,path,ep,born,asked,til,step,kids⟩:=t
 intro k hk
 have key:∀ n,k∈Z1j kids n→k∈kids:=fun n h=>(List.mem_filter.1 h).1
 rw [Zb2] at hk
 split at hk
 ·split at hk<;>exact key _ hk
 ·split at hk<;>exact key _ hk
theorem Zox (t:Tie):(Zn4 t).1.2.2.2.2.2.2.2.2.2.2.2.2=t.2.2.2.2.2.2.2.2.2.2.2.2:=by
 obtain ⟨id,inc,now,par,pinc,grand,path,ep,born,asked,til,step,kids⟩:=t
 rw [Zn4]
 split
 ·rfl
 ·split<;>rfl
theorem Zpv {i:Int} {t:Tie} (h:Znd i t):Znd i (Zjf t).1:=by
 refine ⟨(Zn6 t).1.trans h.1,fun k hk=>?_⟩
 have hk':k∈(Z75 t).1.2.2.2.2.2.2.2.2.2.2.2.2:=hk
 unfold Z75 at hk'
 split at hk'
 ·exact h.2 k (Zkm t k hk')
 ·rw [Zox] at hk';exact h.2 k (Zkm t k hk')
theorem Znb {l:List Kid} {x k:Kid} (h:k∈Z56 l x):k=x∨k∈l:=by
 unfold Z56 at h
 split at h
 ·exact .inr h
 ·rcases Zbm.1 h with h | h
  ·exact .inl h
  ·exact .inr (Zcl.1 h).1
theorem Zl6 (t:Tie) (m:Qk7) (lo:Int):∀ k∈(Z6g t m lo).1.2.2.2.2.2.2.2.2.2.2.2.2,k∈t.2.2.2.2.2.2.2.2.2.2.2.2∨((m.kd=1∨m.kd=4)∧k.1=m.fr∧k.2.1=m.inc):=by
 obtain ⟨id,inc,now,par,pinc,grand,path,ep,born,asked,til,step,kids⟩:=t
 obtain ⟨kd,fr,to,mi,me,ag,pa,l,hi,tx⟩:=m
 rw [Z6g]
 split
 ·rename_i k1
  split
  ·exact fun k hk=>.inl hk
  ·exact fun k hk=>(Znb hk).elim (fun e=>.inr ⟨.inl k1,by rw [e];exact ⟨rfl,rfl⟩⟩) .inl
 ·split
  ·rw [Qyi]
   repeat' split
   all_goals exact fun k hk=>.inl hk
  ·split
   ·repeat' split
    all_goals exact fun k hk=>.inl hk
   ·split
    ·rename_i k4
     split
     ·exact fun k hk=>.inl hk
     ·exact fun k hk=>(Znb hk).elim (fun e=>.inr ⟨.inr k4,by rw [e];exact ⟨rfl,rfl⟩⟩) .inl
    ·split
     ·repeat' split
      all_goals exact fun k hk=>.inl hk
     ·split
      ·exact fun k hk=>.inl (Zcl.1 hk).1
      ·exact fun k hk=>.inl hk
theorem Zoa (t:Tie) (m:Qk7) (lo:Int):∀ k∈(Qut t m lo).1.2.2.2.2.2.2.2.2.2.2.2.2,k∈t.2.2.2.2.2.2.2.2.2.2.2.2∨((m.kd=1∨m.kd=4)∧k.1=m.fr∧k.2.1=m.inc):=by
 obtain ⟨id,inc,now,par,pinc,grand,path,ep,born,asked,til,step,kids⟩:=t
 obtain ⟨kd,fr,to,mi,me,ag,pa,l,hi,tx⟩:=m
 rw [Qut]
 split
 ·exact fun k hk=>.inl hk
 ·split
  ·exact Zl6 (Zor (id,inc,now,par,pinc,grand,path,ep,born,asked,til,step,kids) 0) (kd,fr,to,mi,me,ag,pa,l,hi,tx) lo
  ·exact Zl6 _ _ _
theorem Zo4 {i:Int} {t:Tie} (h:Znd i t) {m:Qk7} (hm:m.kd=1∨m.kd=4→m.fr≠i∧1≤m.inc) (lo:Int):Znd i (Qut t m lo).1:=by
 refine ⟨(Zg0 t m lo).1.trans h.1,fun k hk=>?_⟩
 rcases Zoa t m lo k hk with h1 | ⟨h1,h2,h3⟩
 ·exact h.2 k h1
 ·rw [h2,h3];exact hm h1
theorem Zsm {m:Qk7} (h:Zhn m=true):m.fr≠m.to:=by
 unfold Zhn at h
 simp only [Bool.and_eq_true] at h
 exact bne_iff_ne.1 h.2.2.1
theorem Zql (id inc now grand:Int):Znd id (Zpc id inc now grand):=by
 unfold Zpc
 split
 ·exact ⟨rfl,fun k hk=>(by cases hk)⟩
 ·exact ⟨rfl,fun k hk=>(by cases hk)⟩
theorem Zr4 (L) (id':Int) (hid:1≤id'∧id'≤8) (most i:Int) (hi:0≤i∧i≤1000) (hlt:i<most) {s:List Int × Int} (hs:Zao s) (j1 j2 j3 j4 j5 j6 j7 j8 j9 j10 j11:Int) (j12:List Int) (j13:List Kid) (id inc now par pinc grand:Int) (path:List Int) (ep born asked til step:Int) (kids:List Kid) {N:Int} (hN:N+1≤562949953421312)
  (h:TOk N (id,inc,now,par,pinc,grand,path,ep,born,asked,til,step,kids)) (hr:Z4y (id,inc,now,par,pinc,grand,path,ep,born,asked,til,step,kids)∧Znd id' (id,inc,now,par,pinc,grand,path,ep,born,asked,til,step,kids)) :
  (∃ s',Zao s'∧Qlc L id' most i s.1 s.2 j1 j2 j3 j4 j5 j6 j7 j8 j9 j10 j11 j12 j13 id inc now par pinc grand path ep born asked til step kids=some (((id,inc,now,par,pinc,grand,path,ep,born,asked,til,step,kids),()),(s',()))) ∨
  (∃ (s':List Int × Int) (t':Tie),Zao s'∧TOk (N+1) t'∧t'.1=id∧t'.2.1=inc∧(Z4y t'∧Znd id' t')∧Qlc L id' most i s.1 s.2 j1 j2 j3 j4 j5 j6 j7 j8 j9 j10 j11 j12 j13 id inc now par pinc grand path ep born asked til step kids =
   L id' most (i+1) s'.1 s'.2 j1 j2 j3 j4 j5 j6 j7 j8 j9 j10 j11 j12 j13 t'.1 t'.2.1 t'.2.2.1 t'.2.2.2.1 t'.2.2.2.2.1 t'.2.2.2.2.2.1 t'.2.2.2.2.2.2.1 t'.2.2.2.2.2.2.2.1 t'.2.2.2.2.2.2.2.2.1 t'.2.2.2.2.2.2.2.2.2.1 t'.2.2.2.2.2.2.2.2.2.2.1 t'.2.2.2.2.2.2.2.2.2.2.2.1 t'.2.2.2.2.2.2.2.2.2.2.2.2):=by
 have wi:IntKind.wrap .i64 (i+1)=i+1:=Qq3 (by omega) (by omega)
 unfold Qlc
 rw [cdp hlt,Zp0]
 dsimp only [Option.bind_some]
 by_cases h0:(s.1.length:Int)≤s.2
 ·rw [decide_eq_true h0,nt,cond_false]
  exact .inl ⟨s,hs,rfl⟩
 rw [decide_eq_false h0,nf,cond_true]
 refine .inr ?_
 obtain ⟨q,s1,e,hq,hs1⟩:=Qnl hs 4 (by omega)
 rw [e]
 dsimp only [Option.bind_some]
 have fin:∀ (m:Qk7) (s':List Int × Int),MSm m→Zao s'→(m.kd=1∨m.kd=4→m.fr≠id'∧1≤m.inc)→∃ (s'':List Int × Int) (t':Tie),Zao s''∧TOk (N+1) t'∧t'.1=id∧t'.2.1=inc∧(Z4y t'∧Znd id' t')∧(Option.bind (Qm6 (id,inc,now,par,pinc,grand,path,ep,born,asked,til,step,kids) m 1) fun r=>L id' most (IntKind.wrap .i64 (i+1)) s'.1 s'.2 j1 j2 j3 j4 j5 j6 j7 j8 j9 j10 j11 j12 j13 r.1.1.1 r.1.1.2.1 r.1.1.2.2.1 (g3 r.1.1) (g4 r.1.1) (g5 r.1.1) (g6 r.1.1) (g7 r.1.1) (g8 r.1.1) (g9 r.1.1) (g10 r.1.1) (g11 r.1.1) (h12 r.1.1)) =
   L id' most (i+1) s''.1 s''.2 j1 j2 j3 j4 j5 j6 j7 j8 j9 j10 j11 j12 j13 t'.1 t'.2.1 t'.2.2.1 t'.2.2.2.1 t'.2.2.2.2.1 t'.2.2.2.2.2.1 t'.2.2.2.2.2.2.1 t'.2.2.2.2.2.2.2.1 t'.2.2.2.2.2.2.2.2.1 t'.2.2.2.2.2.2.2.2.2.1 t'.2.2.2.2.2.2.2.2.2.2.1 t'.2.2.2.2.2.2.2.2.2.2.2.1 t'.2.2.2.2.2.2.2.2.2.2.2.2:=by
  intro m s' hm hs' hmk
  rw [Zhs h hN hm 1,wi]
  obtain ⟨a,b,c⟩:=Zg0 (id,inc,now,par,pinc,grand,path,ep,born,asked,til,step,kids) m 1
  exact ⟨s',_,hs',Zh7 h hm 1 hN,a,b,⟨c hr.1,Zo4 hr.2 hmk 1⟩,rfl⟩
 have J1:∀ {s':List Int × Int} {m:Qk7},Zhn m=true→m.to=id'→Zao s'→_:=fun {s'} {m} hm hto hs'=>fin m s' (Zbe hm).msm hs' (fun _=>⟨by rw [← hto];exact Zsm hm,(Zbe hm).inc.1⟩)
 rw [ceq]
 by_cases q0:(q:Int)=0
 ·rw [if_pos q0,Zja h hN,wi]
  obtain ⟨a,b,c⟩:=Zn6 (id,inc,now,par,pinc,grand,path,ep,born,asked,til,step,kids)
  exact ⟨s1,_,hs1,Zqm h hN,a,b,⟨c hr.1,Zpv hr.2⟩,rfl⟩
 rw [if_neg q0,ceq]
 by_cases q1:(q:Int)=1
 ·rw [if_pos q1]
  obtain ⟨m,s2,e2,hm,hto,_,hs2⟩:=Zq0 hs1 id' hid
  rw [e2]
  dsimp only [Option.bind_some]
  rw [Zd0]
  by_cases a1:asked=0
  ·rw [if_pos a1];exact J1 hm hto hs2
  rw [if_neg a1,Zd0]
  by_cases a2:asked=id'
  ·rw [if_pos a2];exact J1 hm hto hs2
  rw [if_neg a2]
  obtain ⟨p1,s3,e3,hp1,hs3⟩:=Qnl hs2 2 (by omega)
  rw [e3]
  dsimp only [Option.bind_some]
  obtain ⟨p2,s4,e4,hp2,hs4⟩:=Qnl hs3 9 (by omega)
  rw [e4]
  dsimp only [Option.bind_some]
  obtain ⟨p3,s5,e5,hp3,hs5⟩:=Qnl hs4 22 (by omega)
  rw [e5]
  dsimp only [Option.bind_some]
  obtain ⟨p,s6,e6,hp,hs6⟩:=Zjw hs5
  rw [e6]
  dsimp only [Option.bind_some]
  have hpl:=(Qp3 hp).1
  have hp1':1≤p.length:=by
   unfold Qpk at hp;simp only [Bool.and_eq_true,decide_eq_true_eq] at hp;exact hp.1
  rw [ct (bt (by omega) (Int.le_refl _)),Int.toNat_natCast,List.take_length,cbp (by rw [List.length_drop];omega)]
  obtain ⟨p4,s7,e7,hp4,hs7⟩:=Qnl hs6 4 (by omega)
  rw [e7]
  dsimp only [Option.bind_some]
  have ha:=h.asked
  dsimp only at ha
  rw [Qq3 (x:=1+(p1:Int)) (by omega) (by omega),Qq3 (x:=1+(p4:Int)) (by omega) (by omega)]
  exact fin _ _ ⟨by dsimp only [Qk7.kd,Qk7.fr,Qk7.to,Qk7.inc,Qk7.ep,Qk7.ag,Qk7.pa,Qk7.lo,Qk7.hi,Qk7.tx];omega,by dsimp only [Qk7.kd,Qk7.fr,Qk7.to,Qk7.inc,Qk7.ep,Qk7.ag,Qk7.pa,Qk7.lo,Qk7.hi,Qk7.tx];omega,by dsimp only [Qk7.kd,Qk7.fr,Qk7.to,Qk7.inc,Qk7.ep,Qk7.ag,Qk7.pa,Qk7.lo,Qk7.hi,Qk7.tx];omega,by dsimp only [Qk7.kd,Qk7.fr,Qk7.to,Qk7.inc,Qk7.ep,Qk7.ag,Qk7.pa,Qk7.lo,Qk7.hi,Qk7.tx];omega,by dsimp only [Qk7.kd,Qk7.fr,Qk7.to,Qk7.inc,Qk7.ep,Qk7.ag,Qk7.pa,Qk7.lo,Qk7.hi,Qk7.tx];rw [List.length_append,List.length_drop,List.length_singleton];omega,by dsimp only [Qk7.kd,Qk7.fr,Qk7.to,Qk7.inc,Qk7.ep,Qk7.ag,Qk7.pa,Qk7.lo,Qk7.hi,Qk7.tx];omega,by dsimp only [Qk7.kd,Qk7.fr,Qk7.to,Qk7.inc,Qk7.ep,Qk7.ag,Qk7.pa,Qk7.lo,Qk7.hi,Qk7.tx];omega,by dsimp only [Qk7.kd,Qk7.fr,Qk7.to,Qk7.inc,Qk7.ep,Qk7.ag,Qk7.pa,Qk7.lo,Qk7.hi,Qk7.tx];decide⟩ hs7 (fun e=>e.elim (fun x=>absurd x (by decide:¬ (2:Int)=1)) fun x=>absurd x (by decide:¬ (2:Int)=4))
 rw [if_neg q1,ceq]
 by_cases q2:(q:Int)=2
 ·rw [if_pos q2]
  obtain ⟨m,s2,e2,hm,hto,_,hs2⟩:=Zq0 hs1 id' hid
  rw [e2]
  dsimp only [Option.bind_some]
  rw [Zd0]
  by_cases a1:par=0
  ·rw [if_pos a1];exact J1 hm hto hs2
  rw [if_neg a1]
  obtain ⟨p1,s3,e3,hp1,hs3⟩:=Qnl hs2 30 (by omega)
  rw [e3]
  dsimp only [Option.bind_some]
  obtain ⟨p2,s4,e4,hp2,hs4⟩:=Qnl hs3 20 (by omega)
  rw [e4]
  dsimp only [Option.bind_some]
  obtain ⟨p,s6,e6,hp,hs6⟩:=Zjw hs4
  rw [e6]
  dsimp only [Option.bind_some]
  have hpl:=(Qp3 hp).1
  obtain ⟨p4,s7,e7,hp4,hs7⟩:=Qnl hs6 9 (by omega)
  rw [e7]
  dsimp only [Option.bind_some]
  have ha:=h.par
  have hpi:=h.pinc
  dsimp only at ha hpi
  exact fin _ _ ⟨by dsimp only [Qk7.kd,Qk7.fr,Qk7.to,Qk7.inc,Qk7.ep,Qk7.ag,Qk7.pa,Qk7.lo,Qk7.hi,Qk7.tx];omega,by dsimp only [Qk7.kd,Qk7.fr,Qk7.to,Qk7.inc,Qk7.ep,Qk7.ag,Qk7.pa,Qk7.lo,Qk7.hi,Qk7.tx];omega,by dsimp only [Qk7.kd,Qk7.fr,Qk7.to,Qk7.inc,Qk7.ep,Qk7.ag,Qk7.pa,Qk7.lo,Qk7.hi,Qk7.tx];omega,by dsimp only [Qk7.kd,Qk7.fr,Qk7.to,Qk7.inc,Qk7.ep,Qk7.ag,Qk7.pa,Qk7.lo,Qk7.hi,Qk7.tx];omega,by dsimp only [Qk7.kd,Qk7.fr,Qk7.to,Qk7.inc,Qk7.ep,Qk7.ag,Qk7.pa,Qk7.lo,Qk7.hi,Qk7.tx];omega,by dsimp only [Qk7.kd,Qk7.fr,Qk7.to,Qk7.inc,Qk7.ep,Qk7.ag,Qk7.pa,Qk7.lo,Qk7.hi,Qk7.tx];omega,by dsimp only [Qk7.kd,Qk7.fr,Qk7.to,Qk7.inc,Qk7.ep,Qk7.ag,Qk7.pa,Qk7.lo,Qk7.hi,Qk7.tx];omega,by dsimp only [Qk7.kd,Qk7.fr,Qk7.to,Qk7.inc,Qk7.ep,Qk7.ag,Qk7.pa,Qk7.lo,Qk7.hi,Qk7.tx];decide⟩ hs7 (fun e=>e.elim (fun x=>absurd x (by decide:¬ (5:Int)=1)) fun x=>absurd x (by decide:¬ (5:Int)=4))
 rw [if_neg q2]
 obtain ⟨m,s2,e2,hm,hto,_,hs2⟩:=Zq0 hs1 id' hid
 rw [e2]
 dsimp only [Option.bind_some]
 exact J1 hm hto hs2
theorem Zmv (n:Nat) (id':Int) (hid:1≤id'∧id'≤8) (j1 j2 j3 j4 j5 j6 j7 j8 j9 j10 j11:Int) (j12:List Int) (j13:List Kid):∀ (k m i:Nat) (s:List Int × Int) (t:Tie),i+k=20→k<m→Zao s→TOk (100+i) t→(Z4y t∧Znd id' t) →
  ∃ (s':List Int × Int) (t':Tie),Zao s'∧TOk 120 t'∧t'.1=t.1∧t'.2.1=t.2.1∧(Z4y t'∧Znd id' t')∧Qn7 n m id' 20 (i:Int) s.1 s.2 j1 j2 j3 j4 j5 j6 j7 j8 j9 j10 j11 j12 j13 t.1 t.2.1 t.2.2.1 t.2.2.2.1 t.2.2.2.2.1 t.2.2.2.2.2.1 t.2.2.2.2.2.2.1 t.2.2.2.2.2.2.2.1 t.2.2.2.2.2.2.2.2.1 t.2.2.2.2.2.2.2.2.2.1 t.2.2.2.2.2.2.2.2.2.2.1 t.2.2.2.2.2.2.2.2.2.2.2.1 t.2.2.2.2.2.2.2.2.2.2.2.2=some ((t',()),(s',()))
 | k,0,i,s,t,_,h,_,_,_=>by omega
 | 0,m+1,i,s,t,hk,h,hs,ht,hr=>by
  refine ⟨s,t,hs,ht.mono (by omega) (by decide),rfl,rfl,hr,?_⟩
  show Qlc (Qn7 n m) id' 20 (i:Int) s.1 s.2 j1 j2 j3 j4 j5 j6 j7 j8 j9 j10 j11 j12 j13 t.1 t.2.1 t.2.2.1 t.2.2.2.1 t.2.2.2.2.1 t.2.2.2.2.2.1 t.2.2.2.2.2.2.1 t.2.2.2.2.2.2.2.1 t.2.2.2.2.2.2.2.2.1 t.2.2.2.2.2.2.2.2.2.1 t.2.2.2.2.2.2.2.2.2.2.1 t.2.2.2.2.2.2.2.2.2.2.2.1 t.2.2.2.2.2.2.2.2.2.2.2.2=_
  unfold Qlc
  rw [cdn (by omega)]
 | k+1,m+1,i,s,t,hk,h,hs,ht,hr=>by
  obtain ⟨id,inc,now,par,pinc,grand,path,ep,born,asked,til,step,kids⟩:=t
  rcases Zr4 (Qn7 n m) id' hid 20 (i:Int) (by omega) (by omega) hs j1 j2 j3 j4 j5 j6 j7 j8 j9 j10 j11 j12 j13 id inc now par pinc grand path ep born asked til step kids (N:=100+i) (by omega) ht hr with ⟨s',hs',e⟩ | ⟨s',t',hs',ht',e1,e2,hr',e⟩
  ·exact ⟨s',_,hs',ht.mono (by omega) (by decide),rfl,rfl,hr,e⟩
  ·obtain ⟨s'',t'',a1,a2,a3,a4,a5,a6⟩:=Zmv n id' hid j1 j2 j3 j4 j5 j6 j7 j8 j9 j10 j11 j12 j13 k m (i+1) s' t' (by omega) (by omega) hs' (by rw [show (100:Int)+((i+1:Nat):Int)=100+(i:Int)+1 by omega];exact ht') hr'
   exact ⟨s'',t'',a1,a2,a3.trans e1,a4.trans e2,a5,Eq.trans e (by rw [show ((i:Int)+1)=((i+1:Nat):Int) by omega];exact a6)⟩
theorem Zrq {id inc now grand N:Int} (h1:1≤id∧id≤8) (h2:1≤inc∧inc≤1073741824) (h3:0≤now∧now≤N) (h4:0≤grand∧grand≤8) (hN:N≤562949953421312):TOk N (Zpc id inc now grand)∧Z4y (Zpc id inc now grand)∧(Zpc id inc now grand).1=id∧(Zpc id inc now grand).2.1=inc:=by
 unfold Zpc
 split
 ·exact ⟨⟨h1,h2,h3,by simp,by simp,h4,by simp,by simp only;omega,by simp only;omega,by simp,by simp only;omega,by simp only;omega,KOk.nil,hN,fun _=>rfl⟩,fun _=>⟨rfl,rfl⟩,rfl,rfl⟩
 ·exact ⟨⟨h1,h2,h3,by simp,by simp,h4,by simp,by simp only;omega,by simp only;omega,by simp,by simp only;omega,by simp only;omega,KOk.nil,hN,fun _=>rfl⟩,fun _=>⟨rfl,rfl⟩,rfl,rfl⟩
theorem Zsg {s:List Int × Int} (hs:Zao s) (id:Int) (hid:1≤id∧id≤8):∃ (s':List Int × Int) (t:Tie),Zao s'∧TOk 120 t∧t.1=id∧(Z4y t∧Znd id t)∧Qv0 s id 20=some ((t,()),(s',())):=by
 have key:∀ n m,100<m→∃ (s':List Int × Int) (t:Tie),Zao s'∧TOk 120 t∧t.1=id∧(Z4y t∧Znd id t)∧Qqe (Qsb n m) s id 20=some ((t,()),(s',())):=by
  intro n m hm
  obtain ⟨m,rfl⟩:∃ m',m=m'+1:=⟨m - 1,by omega⟩
  unfold Qqe
  obtain ⟨p1,s1,e1,hp1,hs1⟩:=Qnl hs 5 (by omega)
  rw [e1]
  dsimp only [Option.bind_some]
  obtain ⟨p2,s2,e2,hp2,hs2⟩:=Qnl hs1 4 (by omega)
  rw [e2]
  dsimp only [Option.bind_some]
  rw [Zf5]
  dsimp only [Option.bind_some]
  obtain ⟨a,b,c,d⟩:=Zrq (N:=100+((0:Nat):Int)) hid (show (1:Int)≤2∧(2:Int)≤1073741824 by decide) (show (0:Int)≤(p1:Int)∧(p1:Int)≤100+((0:Nat):Int) by omega) (show 0≤(p2:Int)∧(p2:Int)≤8 by omega) (by omega)
  obtain ⟨s',t',a1,a2,a3,a4,a5,a6⟩:=Zmv n id hid 0 0 0 0 0 0 0 0 0 0 0 [] [] 20 (m+1) 0 s2 (Zpc id 2 p1 p2) (by omega) (by omega) hs2 a ⟨b,Zql _ _ _ _⟩
  exact ⟨s',t',a1,a2,a3.trans c,a5,a6⟩
 exact key 1099511627776 1099511627776 (by decide)
end Go.PE
