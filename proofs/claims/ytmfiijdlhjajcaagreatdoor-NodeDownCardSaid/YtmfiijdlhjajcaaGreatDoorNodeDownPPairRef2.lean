/-
  Plain lemmas on the functions.
  Conditions: none.
-/
import Derived.Test.YtmfiijdlhjajcaaGreatDoorNodeDownPPairRef
set_option linter.unusedVariables false
set_option linter.unusedSimpArgs false
set_option maxRecDepth 20000
namespace Go.PE
theorem Zok (L) (now i:Int) (hi:0≤i∧i<12) (hn:0≤now∧now≤1000*i) {s:List Int × Int} (hs:Z8y s) (j1 j2:Int) (j3 j4:List Qnb) (j5:List Evt) (j6 j7:Int) {f:Qni} (hf:FOk f) :
  (∃ s',Z8y s'∧Ql1 L 12 now i s.1 s.2 j6 j7 j1 j2 j3 j4 j5 f.1 f.2.1 f.2.2.1 f.2.2.2.1 f.2.2.2.2.1 f.2.2.2.2.2.1 f.2.2.2.2.2.2=some ((f,()),(s',()))) ∨
  (∃ (s':List Int × Int) (f':Qni) (now':Int),Z8y s'∧FOk f'∧f.1≤f'.1∧0≤now'∧now'≤1000*(i+1)∧Ql1 L 12 now i s.1 s.2 j6 j7 j1 j2 j3 j4 j5 f.1 f.2.1 f.2.2.1 f.2.2.2.1 f.2.2.2.2.1 f.2.2.2.2.2.1 f.2.2.2.2.2.2 =
   L 12 now' (i+1) s'.1 s'.2 j6 j7 j1 j2 j3 j4 j5 f'.1 f'.2.1 f'.2.2.1 f'.2.2.2.1 f'.2.2.2.2.1 f'.2.2.2.2.2.1 f'.2.2.2.2.2.2):=by
 have wi:IntKind.wrap .i64 (i+1)=i+1:=Qqd (by omega) (by omega)
 have hx:=hf.next
 unfold Ql1
 rw [cdp (by omega),Znk]
 dsimp only [Option.bind_some]
 by_cases h0:(s.1.length:Int)≤s.2
 ·rw [decide_eq_true h0,nt,cond_false]
  exact .inl ⟨s,hs,rfl⟩
 rw [decide_eq_false h0,nf,cond_true]
 refine .inr ?_
 obtain ⟨q,s1,e,hq,hs1⟩:=Qn8 hs 6 (by omega)
 rw [e]
 dsimp only [Option.bind_some]
 have hlo:∀ p:Nat,(p:Int)<6→IntKind.wrap .i64 ((IntKind.wrap .i64 (f.1 - 1))+(p:Int))=f.1 - 1+p:=by
  intro p hp
  rw [Qqd (x:=f.1 - 1) (by omega) (by omega),Qqd (by omega) (by omega)]
 rw [ceq]
 by_cases q0:(q:Int)=0
 ·rw [if_pos q0]
  obtain ⟨p1,s2,e2,hp1,hs2⟩:=Qn8 hs1 3 (by omega)
  rw [e2]
  dsimp only [Option.bind_some]
  obtain ⟨p2,s3,e3,hp2,hs3⟩:=Qn8 hs2 4 (by omega)
  rw [e3]
  dsimp only [Option.bind_some]
  rw [Zjd hf,wi]
  exact ⟨s3,_,now,hs3,(Zff hf _ _).1,(Zff hf _ _).2,by omega,by omega,rfl⟩
 rw [if_neg q0,ceq]
 by_cases q1:(q:Int)=1
 ·rw [if_pos q1]
  obtain ⟨p1,s2,e2,hp1,hs2⟩:=Qn8 hs1 5 (by omega)
  rw [e2]
  dsimp only [Option.bind_some]
  rw [Z1w,wi]
  exact ⟨s2,_,now,hs2,Quc hf _,by rw [(Z27 f _).1];omega,by omega,by omega,rfl⟩
 rw [if_neg q1,ceq]
 by_cases q2:(q:Int)=2
 ·rw [if_pos q2]
  obtain ⟨p1,s2,e2,hp1,hs2⟩:=Qn8 hs1 6 (by omega)
  rw [e2]
  dsimp only [Option.bind_some]
  rw [Qqd (x:=now+1) (by omega) (by omega),Qqd (x:=now+1+(p1:Int)) (by omega) (by omega),Zku hf _ (by omega),wi]
  have ht:=Zp3 hf (now:=now+1+(p1:Int)) (by omega) (by omega)
  exact ⟨s2,_,now+1+p1,hs2,ht.1,ht.2,by omega,by omega,rfl⟩
 rw [if_neg q2]
 obtain ⟨p1,s2,e2,hp1,hs2⟩:=Qn8 hs1 5 (by omega)
 rw [e2]
 dsimp only [Option.bind_some]
 obtain ⟨tx,s3,e3,htx,hs3⟩:=Znl hs2
 rw [e3]
 dsimp only [Option.bind_some]
 rw [Zj9 hf _ (by dsimp only;omega),wi]
 exact ⟨s3,_,now,hs3,(Zfa hf _).1,(Zfa hf _).2,by omega,by omega,rfl⟩
theorem Zjm (n:Nat) (j1 j2:Int) (j3 j4:List Qnb) (j5:List Evt) (j6 j7:Int):∀ (k m i:Nat) (now:Int) (s:List Int × Int) (f:Qni),i+k=12→k<m→0≤now∧now≤1000*(i:Int)→Z8y s→FOk f →
  ∃ (s':List Int × Int) (f':Qni),Z8y s'∧FOk f'∧f.1≤f'.1∧Qln n m 12 now (i:Int) s.1 s.2 j6 j7 j1 j2 j3 j4 j5 f.1 f.2.1 f.2.2.1 f.2.2.2.1 f.2.2.2.2.1 f.2.2.2.2.2.1 f.2.2.2.2.2.2=some ((f',()),(s',()))
 | k,0,i,now,s,f,_,h,_,_,_=>by omega
 | 0,m+1,i,now,s,f,hk,h,hn,hs,hf=>by
  refine ⟨s,f,hs,hf,Int.le_refl _,?_⟩
  show Ql1 (Qln n m) 12 now (i:Int) s.1 s.2 j6 j7 j1 j2 j3 j4 j5 f.1 f.2.1 f.2.2.1 f.2.2.2.1 f.2.2.2.2.1 f.2.2.2.2.2.1 f.2.2.2.2.2.2=_
  unfold Ql1
  rw [cdn (by omega)]
 | k+1,m+1,i,now,s,f,hk,h,hn,hs,hf=>by
  rcases Zok (Qln n m) now (i:Int) (by omega) hn hs j1 j2 j3 j4 j5 j6 j7 hf with ⟨s',hs',e⟩ | ⟨s',f',now',hs',hf',a1,a2,a3,e⟩
  ·exact ⟨s',f,hs',hf,Int.le_refl _,e⟩
  ·obtain ⟨s'',f'',b1,b2,b3,b4⟩:=Zjm n j1 j2 j3 j4 j5 j6 j7 k m (i+1) now' s' f' (by omega) (by omega) ⟨a2,by omega⟩ hs' hf'
   exact ⟨s'',f'',b1,b2,by omega,Eq.trans e (by rw [show ((i:Int)+1)=((i+1:Nat):Int) by omega];exact b4)⟩
theorem Zqc {s:List Int × Int} (hs:Z8y s):∃ (s':List Int × Int) (f:Qni),Z8y s'∧FOk f∧1≤f.1∧Qsy s 12=some ((f,()),(s',())):=by
 have key:∀ n m,100<m→∃ (s':List Int × Int) (f:Qni),Z8y s'∧FOk f∧1≤f.1∧Qoo (Qln n m) s 12=some ((f,()),(s',())):=by
  intro n m hm
  unfold Qoo
  obtain ⟨p1,s1,e1,hp1,hs1⟩:=Qn8 hs 5 (by omega)
  rw [e1]
  dsimp only [Option.bind_some]
  rw [Qqd (x:=1+(p1:Int)) (by omega) (by omega),Ziy _ _ (by omega)]
  dsimp only [Option.bind_some]
  have hb1:(Z5g (0,0,[],[],[],0,0) (1+(p1:Int))).1=1+(p1:Int):=by unfold Z5g;rw [if_neg (by simp),if_pos (by omega)]
  obtain ⟨s',f',a1,a2,a3,a4⟩:=Zjm n 0 0 [] [] [] 0 0 12 m 0 0 s1 (Z5g (0,0,[],[],[],0,0) (1+(p1:Int))) (by omega) (by omega) (by omega) hs1 (Zfw FOk.none _)
  exact ⟨s',f',a1,a2,by omega,a4⟩
 exact key 1099511627776 1099511627776 (by decide)
structure NOk (N:Int) (n:Zbs):Prop where
 on:n.1=true
 inc:1≤n.2.1∧n.2.1≤1073741824
 tie:TOk N n.2.2.2.1
 feed:FOk n.2.2.2.2.1
 root:Z3w n.2.2.2.1
 rootw:n.2.2.2.1.1=1→n.2.2.2.2.1.2.2.2.1=[]
 bad:0≤n.2.2.2.2.2∧n.2.2.2.2.2≤1073741824
theorem Zrs:Qzz (⟨#[110]⟩:ByteArray)=some ((true,()),()):=by kernel_rfl
theorem Zmo (n:Zbs) (id grand:Int) (h0:n.1=false) (hid:1≤id∧id≤8) (hi:0≤n.2.1∧n.2.1<1073741824):Quk n id (⟨#[110]⟩:ByteArray) grand=some (((true,n.2.1+1,(⟨#[110]⟩:ByteArray),Zo6 id (n.2.1+1) 0 grand,(0,0,[],[],[],0,0),0),true,()),()):=by
 unfold Quk
 rw [h0,cond_false,Zrs]
 dsimp only [Option.bind_some]
 rw [nt,cond_false,cdn (by omega),cdn (by omega),cdn (by omega),Qqd (by omega) (by omega),Zdk]
 rfl
theorem TOk.inc' {N:Int} {t:Tie} (h:TOk N t) {i:Int} (hi:1≤i∧i≤1073741824):TOk N (t.1,i,t.2.2):=by
 obtain ⟨a1,a2,a3,a4,a5,a6,a7,a8,a9,a10,a11,a12,a13,a14,a15⟩:=h
 exact ⟨a1,hi,a3,a4,a5,a6,a7,a8,a9,a10,a11,a12,a13,a14,a15⟩
theorem Zpl (picks:List Int) (hb:Qki picks) (hl:picks.length≤1000000000) (id:Int) (hid:1≤id∧id≤8):∃ n:Zbs,Qs5 picks id=some ((n,()),())∧NOk 120 n∧n.2.2.2.1.1=id∧n.2.2.2.1.2.1=n.2.1∧n.2.2.2.2.2≤2∧(n.2.2.2.2.1.1=0→n.2.2.2.2.1.2.1=0)∧Zlj id n.2.2.2.1:=by
 unfold Qs5
 rw [show Qsw picks=some (((picks,0),()),()) from rfl]
 dsimp only [Option.bind_some]
 obtain ⟨p1,s1,e1,hp1,hs1⟩:=Qn8 (Zom hb hl) 3 (by omega)
 rw [e1]
 dsimp only [Option.bind_some]
 obtain ⟨p2,s2,e2,hp2,hs2⟩:=Qn8 hs1 3 (by omega)
 rw [e2]
 dsimp only [Option.bind_some]
 obtain ⟨p3,s3,e3,hp3,hs3⟩:=Qn8 hs2 9 (by omega)
 rw [e3]
 dsimp only [Option.bind_some]
 rw [Zmo _ _ _ rfl hid (by dsimp only;omega)]
 dsimp only [Option.bind_some]
 obtain ⟨s4,t,hs4,ht,hid',⟨hr,hki⟩,e4⟩:=Zqx hs3 id hid
 rw [e4]
 dsimp only [Option.bind_some]
 have ht':=ht.inc' (i:=(p1:Int)+1) (by omega)
 have hr':Z3w (t.1,(p1:Int)+1,t.2.2):=hr
 have hk':Zlj id (t.1,(p1:Int)+1,t.2.2):=hki
 rw [Z9x]
 by_cases h1:id=1
 ·rw [if_pos h1]
  exact ⟨_,rfl,⟨rfl,by dsimp only;omega,ht',FOk.none,hr',fun _=>rfl,by dsimp only;omega⟩,hid',rfl,by dsimp only;omega,fun _=>rfl,hk'⟩
 ·rw [if_neg h1]
  obtain ⟨s5,f,hs5,hf,hf1,e5⟩:=Zqc hs4
  rw [e5]
  dsimp only [Option.bind_some]
  obtain ⟨p4,s6,e6,hp4,hs6⟩:=Qn8 hs5 5 (by omega)
  rw [e6]
  dsimp only [Option.bind_some]
  rw [ceq]
  split
  ·exact ⟨_,rfl,⟨rfl,by dsimp only;omega,ht',FOk.none,hr',fun _=>rfl,by dsimp only;omega⟩,hid',rfl,by dsimp only;omega,fun _=>rfl,hk'⟩
  ·exact ⟨_,rfl,⟨rfl,by dsimp only;omega,ht',hf,hr',fun e=>absurd (hid'.symm.trans e) h1,by dsimp only;omega⟩,hid',rfl,by dsimp only;omega,fun e=>absurd e (by dsimp only;omega),hk'⟩
theorem Zq6 (picks:List Int) (hb:Qki picks) (hl:picks.length≤1000000000) (id:Int) (hid:1≤id∧id≤8):∃ n:Zbs,Qs5 picks id=some ((n,()),())∧NOk 120 n∧n.2.2.2.1.1=id∧n.2.2.2.1.2.1=n.2.1∧n.2.2.2.2.2≤2∧(n.2.2.2.2.1.1=0→n.2.2.2.2.1.2.1=0):=by
 obtain ⟨n,a,b,c,d,e,f,g⟩:=Zpl picks hb hl id hid
 exact ⟨n,a,b,c,d,e,f⟩
end Go.PE
