/-
  Plain lemmas on the functions.
  Conditions: none.
-/
import Derived.Test.YtmfiijdlhjajcaaGreatDoorNodeServesPPairRef
set_option linter.unusedVariables false
set_option linter.unusedSimpArgs false
set_option maxRecDepth 20000
namespace Go.PE
theorem Zpu (L) (now i:Int) (hi:0≤i∧i<12) (hn:0≤now∧now≤1000*i) {s:List Int × Int} (hs:Zao s) (j1 j2:Int) (j3 j4:List Qn4) (j5:List Evt) (j6 j7:Int) {f:Qo0} (hf:FOk f) :
  (∃ s',Zao s'∧Ql6 L 12 now i s.1 s.2 j6 j7 j1 j2 j3 j4 j5 f.1 f.2.1 f.2.2.1 f.2.2.2.1 f.2.2.2.2.1 f.2.2.2.2.2.1 f.2.2.2.2.2.2=some ((f,()),(s',()))) ∨
  (∃ (s':List Int × Int) (f':Qo0) (now':Int),Zao s'∧FOk f'∧f.1≤f'.1∧0≤now'∧now'≤1000*(i+1)∧Ql6 L 12 now i s.1 s.2 j6 j7 j1 j2 j3 j4 j5 f.1 f.2.1 f.2.2.1 f.2.2.2.1 f.2.2.2.2.1 f.2.2.2.2.2.1 f.2.2.2.2.2.2 =
   L 12 now' (i+1) s'.1 s'.2 j6 j7 j1 j2 j3 j4 j5 f'.1 f'.2.1 f'.2.2.1 f'.2.2.2.1 f'.2.2.2.2.1 f'.2.2.2.2.2.1 f'.2.2.2.2.2.2):=by
 have wi:IntKind.wrap .i64 (i+1)=i+1:=Qq3 (by omega) (by omega)
 have hx:=hf.next
 unfold Ql6
 rw [cdp (by omega),Zp0]
 dsimp only [Option.bind_some]
 by_cases h0:(s.1.length:Int)≤s.2
 ·rw [decide_eq_true h0,nt,cond_false]
  exact .inl ⟨s,hs,rfl⟩
 rw [decide_eq_false h0,nf,cond_true]
 refine .inr ?_
 obtain ⟨q,s1,e,hq,hs1⟩:=Qnl hs 6 (by omega)
 rw [e]
 dsimp only [Option.bind_some]
 have hlo:∀ p:Nat,(p:Int)<6→IntKind.wrap .i64 ((IntKind.wrap .i64 (f.1 - 1))+(p:Int))=f.1 - 1+p:=by
  intro p hp
  rw [Qq3 (x:=f.1 - 1) (by omega) (by omega),Qq3 (by omega) (by omega)]
 rw [ceq]
 by_cases q0:(q:Int)=0
 ·rw [if_pos q0]
  obtain ⟨p1,s2,e2,hp1,hs2⟩:=Qnl hs1 3 (by omega)
  rw [e2]
  dsimp only [Option.bind_some]
  obtain ⟨p2,s3,e3,hp2,hs3⟩:=Qnl hs2 4 (by omega)
  rw [e3]
  dsimp only [Option.bind_some]
  rw [Zll hf,wi]
  exact ⟨s3,_,now,hs3,(Zgy hf _ _).1,(Zgy hf _ _).2,by omega,by omega,rfl⟩
 rw [if_neg q0,ceq]
 by_cases q1:(q:Int)=1
 ·rw [if_pos q1]
  obtain ⟨p1,s2,e2,hp1,hs2⟩:=Qnl hs1 5 (by omega)
  rw [e2]
  dsimp only [Option.bind_some]
  rw [Z3q,wi]
  exact ⟨s2,_,now,hs2,Qv8 hf _,by rw [(Z3c f _).1];omega,by omega,by omega,rfl⟩
 rw [if_neg q1,ceq]
 by_cases q2:(q:Int)=2
 ·rw [if_pos q2]
  obtain ⟨p1,s2,e2,hp1,hs2⟩:=Qnl hs1 6 (by omega)
  rw [e2]
  dsimp only [Option.bind_some]
  rw [Qq3 (x:=now+1) (by omega) (by omega),Qq3 (x:=now+1+(p1:Int)) (by omega) (by omega),Zms hf _ (by omega),wi]
  have ht:=Zra hf (now:=now+1+(p1:Int)) (by omega) (by omega)
  exact ⟨s2,_,now+1+p1,hs2,ht.1,ht.2,by omega,by omega,rfl⟩
 rw [if_neg q2]
 obtain ⟨p1,s2,e2,hp1,hs2⟩:=Qnl hs1 5 (by omega)
 rw [e2]
 dsimp only [Option.bind_some]
 obtain ⟨tx,s3,e3,htx,hs3⟩:=Zpl hs2
 rw [e3]
 dsimp only [Option.bind_some]
 rw [Zli hf _ (by dsimp only;omega),wi]
 exact ⟨s3,_,now,hs3,(Zg1 hf _).1,(Zg1 hf _).2,by omega,by omega,rfl⟩
theorem Zkw (n:Nat) (j1 j2:Int) (j3 j4:List Qn4) (j5:List Evt) (j6 j7:Int):∀ (k m i:Nat) (now:Int) (s:List Int × Int) (f:Qo0),i+k=12→k<m→0≤now∧now≤1000*(i:Int)→Zao s→FOk f →
  ∃ (s':List Int × Int) (f':Qo0),Zao s'∧FOk f'∧f.1≤f'.1∧Qls n m 12 now (i:Int) s.1 s.2 j6 j7 j1 j2 j3 j4 j5 f.1 f.2.1 f.2.2.1 f.2.2.2.1 f.2.2.2.2.1 f.2.2.2.2.2.1 f.2.2.2.2.2.2=some ((f',()),(s',()))
 | k,0,i,now,s,f,_,h,_,_,_=>by omega
 | 0,m+1,i,now,s,f,hk,h,hn,hs,hf=>by
  refine ⟨s,f,hs,hf,Int.le_refl _,?_⟩
  show Ql6 (Qls n m) 12 now (i:Int) s.1 s.2 j6 j7 j1 j2 j3 j4 j5 f.1 f.2.1 f.2.2.1 f.2.2.2.1 f.2.2.2.2.1 f.2.2.2.2.2.1 f.2.2.2.2.2.2=_
  unfold Ql6
  rw [cdn (by omega)]
 | k+1,m+1,i,now,s,f,hk,h,hn,hs,hf=>by
  rcases Zpu (Qls n m) now (i:Int) (by omega) hn hs j1 j2 j3 j4 j5 j6 j7 hf with ⟨s',hs',e⟩ | ⟨s',f',now',hs',hf',a1,a2,a3,e⟩
  ·exact ⟨s',f,hs',hf,Int.le_refl _,e⟩
  ·obtain ⟨s'',f'',b1,b2,b3,b4⟩:=Zkw n j1 j2 j3 j4 j5 j6 j7 k m (i+1) now' s' f' (by omega) (by omega) ⟨a2,by omega⟩ hs' hf'
   exact ⟨s'',f'',b1,b2,by omega,Eq.trans e (by rw [show ((i:Int)+1)=((i+1:Nat):Int) by omega];exact b4)⟩
theorem Zrl {s:List Int × Int} (hs:Zao s):∃ (s':List Int × Int) (f:Qo0),Zao s'∧FOk f∧1≤f.1∧Qty s 12=some ((f,()),(s',())):=by
 have key:∀ n m,100<m→∃ (s':List Int × Int) (f:Qo0),Zao s'∧FOk f∧1≤f.1∧Qpd (Qls n m) s 12=some ((f,()),(s',())):=by
  intro n m hm
  unfold Qpd
  obtain ⟨p1,s1,e1,hp1,hs1⟩:=Qnl hs 5 (by omega)
  rw [e1]
  dsimp only [Option.bind_some]
  rw [Qq3 (x:=1+(p1:Int)) (by omega) (by omega),Zk4 _ _ (by omega)]
  dsimp only [Option.bind_some]
  have hb1:(Z6u (0,0,[],[],[],0,0) (1+(p1:Int))).1=1+(p1:Int):=by unfold Z6u;rw [if_neg (by simp),if_pos (by omega)]
  obtain ⟨s',f',a1,a2,a3,a4⟩:=Zkw n 0 0 [] [] [] 0 0 12 m 0 0 s1 (Z6u (0,0,[],[],[],0,0) (1+(p1:Int))) (by omega) (by omega) (by omega) hs1 (Zgd FOk.none _)
  exact ⟨s',f',a1,a2,by omega,a4⟩
 exact key 1099511627776 1099511627776 (by decide)
structure NOk (N:Int) (n:Zih):Prop where
 on:n.1=true
 inc:1≤n.2.1∧n.2.1≤1073741824
 tie:TOk N n.2.2.2.1
 feed:FOk n.2.2.2.2.1
 root:Z4y n.2.2.2.1
 rootw:n.2.2.2.1.1=1→n.2.2.2.2.1.2.2.2.1=[]
 bad:0≤n.2.2.2.2.2∧n.2.2.2.2.2≤1073741824
theorem Zt6:Z1x (⟨#[110]⟩:ByteArray)=some ((true,()),()):=by kernel_rfl
theorem Znp (n:Zih) (id grand:Int) (h0:n.1=false) (hid:1≤id∧id≤8) (hi:0≤n.2.1∧n.2.1<1073741824):Qvk n id (⟨#[110]⟩:ByteArray) grand=some (((true,n.2.1+1,(⟨#[110]⟩:ByteArray),Zpc id (n.2.1+1) 0 grand,(0,0,[],[],[],0,0),0),true,()),()):=by
 unfold Qvk
 rw [h0,cond_false,Zt6]
 dsimp only [Option.bind_some]
 rw [nt,cond_false,cdn (by omega),cdn (by omega),cdn (by omega),Qq3 (by omega) (by omega),Zf5]
 rfl
theorem TOk.inc' {N:Int} {t:Tie} (h:TOk N t) {i:Int} (hi:1≤i∧i≤1073741824):TOk N (t.1,i,t.2.2):=by
 obtain ⟨a1,a2,a3,a4,a5,a6,a7,a8,a9,a10,a11,a12,a13,a14,a15⟩:=h
 exact ⟨a1,hi,a3,a4,a5,a6,a7,a8,a9,a10,a11,a12,a13,a14,a15⟩
theorem Zqi (picks:List Int) (hb:Qkn picks) (hl:picks.length≤1000000000) (id:Int) (hid:1≤id∧id≤8):∃ n:Zih,Qvj picks id=some ((n,()),())∧NOk 120 n∧n.2.2.2.1.1=id∧n.2.2.2.1.2.1=n.2.1∧n.2.2.2.2.2≤2∧(n.2.2.2.2.1.1=0→n.2.2.2.2.1.2.1=0)∧Znd id n.2.2.2.1:=by
 unfold Qvj
 rw [show Z2k picks=some (((picks,0),()),()) from rfl]
 dsimp only [Option.bind_some]
 obtain ⟨p1,s1,e1,hp1,hs1⟩:=Qnl (Zs6 hb hl) 3 (by omega)
 rw [e1]
 dsimp only [Option.bind_some]
 obtain ⟨p2,s2,e2,hp2,hs2⟩:=Qnl hs1 3 (by omega)
 rw [e2]
 dsimp only [Option.bind_some]
 obtain ⟨p3,s3,e3,hp3,hs3⟩:=Qnl hs2 9 (by omega)
 rw [e3]
 dsimp only [Option.bind_some]
 rw [Znp _ _ _ rfl hid (by dsimp only;omega)]
 dsimp only [Option.bind_some]
 obtain ⟨s4,t,hs4,ht,hid',⟨hr,hki⟩,e4⟩:=Zsg hs3 id hid
 rw [e4]
 dsimp only [Option.bind_some]
 have ht':=ht.inc' (i:=(p1:Int)+1) (by omega)
 have hr':Z4y (t.1,(p1:Int)+1,t.2.2):=hr
 have hk':Znd id (t.1,(p1:Int)+1,t.2.2):=hki
 rw [Zd0]
 by_cases h1:id=1
 ·rw [if_pos h1]
  exact ⟨_,rfl,⟨rfl,by dsimp only;omega,ht',FOk.none,hr',fun _=>rfl,by dsimp only;omega⟩,hid',rfl,by dsimp only;omega,fun _=>rfl,hk'⟩
 ·rw [if_neg h1]
  obtain ⟨s5,f,hs5,hf,hf1,e5⟩:=Zrl hs4
  rw [e5]
  dsimp only [Option.bind_some]
  obtain ⟨p4,s6,e6,hp4,hs6⟩:=Qnl hs5 5 (by omega)
  rw [e6]
  dsimp only [Option.bind_some]
  rw [ceq]
  split
  ·exact ⟨_,rfl,⟨rfl,by dsimp only;omega,ht',FOk.none,hr',fun _=>rfl,by dsimp only;omega⟩,hid',rfl,by dsimp only;omega,fun _=>rfl,hk'⟩
  ·exact ⟨_,rfl,⟨rfl,by dsimp only;omega,ht',hf,hr',fun e=>absurd (hid'.symm.trans e) h1,by dsimp only;omega⟩,hid',rfl,by dsimp only;omega,fun e=>absurd e (by dsimp only;omega),hk'⟩
end Go.PE
