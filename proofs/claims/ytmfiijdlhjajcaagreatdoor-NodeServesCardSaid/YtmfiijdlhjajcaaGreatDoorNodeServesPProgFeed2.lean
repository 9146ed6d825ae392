/-
  Plain lemmas on the functions.
  Conditions: none.
-/
import Derived.Test.YtmfiijdlhjajcaaGreatDoorNodeServesPProgFeed
set_option linter.unusedVariables false
set_option linter.unusedSimpArgs false
set_option maxRecDepth 20000
namespace Go.PE
theorem Zr5 {f:Qo0} (h:FOk f) (hi:Int):Z7p f hi=some ((match f.2.2.2.1 with | []=>(hi,false,()) | x::_=>if x.1≤hi then (x.1 - 1,true,()) else (hi,false,())),()):=by
 have hs:=h.sm
 unfold Z7p
 rw [show g3 f=f.2.2.2.1 from rfl,Zhq f.2.2.2.1 _ (fun i=>decide (i.1 ≥ f.1)) (fun x _=>rfl) (by have:=hs.win;omega)]
 dsimp only [Option.bind_some]
 cases hw:f.2.2.2.1 with
 | nil=>rfl
 | cons x q=>
  have hx:=h.win1 x (by rw [hw];exact List.mem_cons_self ..)
  have hn:=h.next
  have e0:(x::q).findIdx (fun i=>decide (i.1 ≥ f.1))=0:=by rw [List.findIdx_cons,decide_eq_true (show x.1 ≥ f.1 by omega)];rfl
  rw [e0,if_pos (by rw [List.length_cons];omega),cdn (by omega),ct (bt (by omega) (by rw [List.length_cons];omega))]
  show (bif decide (x.1>hi) then _ else bif _ then some ((IntKind.wrap .i64 (x.1 - 1),true,()),()) else none)=_
  rw [Qq3 (by omega) (by omega),ct (bt (by omega) (by rw [List.length_cons];omega))]
  by_cases a:x.1≤hi
  ·rw [cdn (by omega)];simp only [a,if_true]
  ·rw [cdp (by omega)];simp only [a,if_false]
theorem Zit (L) (hi why was:Int) {f:Qo0} (h:FOk f) (h1:1≤f.1) (hw:was≤f.1) (hh:hi≤1000000) (hz:f.1=was∨f.2.2.2.2.2=(0,0)) (j1 j2 j3 j4:Int) (j5 j6:List Qn4) (j7:List Evt) (o:Qrf) (ho:o.length≤100000) :
  (hi<f.1→Qqx L hi why was f.1 f.2.1 f.2.2.1 f.2.2.2.1 f.2.2.2.2.1 f.2.2.2.2.2.1 f.2.2.2.2.2.2 j1 j2 j3 j4 j5 j6 j7 o=some ((f,o,()),())) ∧
  (f.1≤hi→(∃ o',Qqx L hi why was f.1 f.2.1 f.2.2.1 f.2.2.2.1 f.2.2.2.2.1 f.2.2.2.2.2.1 f.2.2.2.2.2.2 j1 j2 j3 j4 j5 j6 j7 o=some ((Qp7 hi why f,o',()),())∧hi<(Qp7 hi why f).1) ∨
   (FOk (Qp7 hi why f)∧f.1<(Qp7 hi why f).1∧(Qp7 hi why f).2.2.2.2.2=(0,0)∧(Qp7 hi why f).2.2.2.1.length<f.2.2.2.1.length∧∃ o',o'.length≤o.length+1∧Qqx L hi why was f.1 f.2.1 f.2.2.1 f.2.2.2.1 f.2.2.2.2.1 f.2.2.2.2.2.1 f.2.2.2.2.2.2 j1 j2 j3 j4 j5 j6 j7 o =
    L hi why was (Qp7 hi why f).1 (Qp7 hi why f).2.1 (Qp7 hi why f).2.2.1 (Qp7 hi why f).2.2.2.1 (Qp7 hi why f).2.2.2.2.1 (Qp7 hi why f).2.2.2.2.2.1 (Qp7 hi why f).2.2.2.2.2.2 j1 j2 j3 j4 j5 j6 j7 o')):=by
 have hs:=h.sm
 have ha:=Zr5 h hi
 have h':=h.to' h1
 have hok:=fun e=>Zjg (why:=why) (hi:=hi) h' e hh
 obtain ⟨n,t,r,w,l,a,b⟩:=f
 have hn:=h.next
 obtain ⟨_,s2,s3,s4⟩:=hs
 have hlog:=h.log
 simp only at hn s2 s3 s4 h1 hw hz ha hlog
 refine ⟨fun e=>?_,fun e=>?_⟩
 ·simp only at e ⊢
  unfold Qqx
  rw [cdn (by omega)]
  unfold Qzg
  rw [Zd0]
  by_cases q:n=was
  ·rw [if_pos q]
  ·rw [if_neg q]
   have:=hz.elim (fun e=>absurd e q) id
   cases this
   rfl
 ·simp only at e
  have hok:=hok e
  simp only at hok ⊢
  cases w with
  | nil=>
   refine .inl ?_
   dsimp only at ha
   unfold Qqx
   rw [cdp e,ha]
   dsimp only [Option.bind_some]
   rw [cdp e,Zlr _ _ _ _ (by omega)]
   dsimp only [Option.bind_some]
   rw [cbp (by omega),nf,cond_true,Qq3 (by omega) (by omega),Znw (by omega)]
   have es:Qp7 hi why (n,t,r,[],l,a,b)=(hi+1,t,r,[],l++[Zf1 n hi why],0,0):=by
    unfold Qp7;simp only;rw [if_pos e];simp only;rw [if_neg (by omega)]
   rw [es]
   exact ⟨_,rfl,by simp only;omega⟩
  | cons x q=>
   have hx:=h.win1 x (List.mem_cons_self ..)
   simp only at hx
   dsimp only at ha
   by_cases hxh:x.1≤hi
   ·refine .inr ?_
    rw [if_pos hxh] at ha
    unfold Qqx
    rw [cdp e,ha]
    dsimp only [Option.bind_some]
    rw [cdp (by omega),Zlr _ _ _ _ (by omega)]
    dsimp only [Option.bind_some]
    rw [cbp (by omega),nt,cond_false,Qq3 (by omega) (by omega)]
    have es:Qp7 hi why (n,t,r,x::q,l,a,b)=Qxl (x.1 - 1+1,t,r,x::q,l++[Zf1 n (x.1 - 1) why],0,0):=by
     unfold Qp7;simp only;rw [if_pos hxh,if_pos (show n≤x.1 - 1 by omega)];simp only;rw [if_pos (show x.1 - 1+1≤hi by omega)]
    have eg:∀ a b,Qxl (x.1 - 1+1,t,r,x::q,l++[Zf1 n (x.1 - 1) why],a,b)=Qxe t (x.1 - 1+1+1) (Zak r x) q (l++[Zf1 n (x.1 - 1) why]++[Z77 x]) 0 0:=by
     intro a b
     show Qxe _ _ _ (x::q) _ _ _=_
     rw [Qxe];simp only;rw [if_pos (by omega)]
    have ez:∀ (w:List Qn4) (t nx:Int) (r:List Qn4) (l:List Evt),(Qxe t nx r w l 0 0).2.2.2.2.2=(0,0)∧(Qxe t nx r w l 0 0).2.2.2.1.length≤w.length:=by
     intro w
     induction w with
     | nil=>intro t nx r l;exact ⟨rfl,Nat.le_refl _⟩
     | cons y s ih=>
      intro t nx r l
      unfold Qxe
      split
      ·have:=ih t (nx+1) (Zak r y) (l++[Z77 y]);rw [List.length_cons];exact ⟨this.1,by omega⟩
      ·exact ⟨rfl,Nat.le_refl _⟩
    obtain ⟨qq,hq,_,hq3⟩:=Zna (x.1 - 1+1,t,r,x::q,l++[Zf1 n (x.1 - 1) why],a,b) ⟨by simp only;omega,s2,s3,by simp only [List.length_append,List.length_singleton];omega⟩
    rw [hq]
    dsimp only [Option.bind_some]
    have hne:=hq3 x q rfl (by simp only;omega)
    rw [Z0t (by cases qq with | nil=>exact absurd rfl hne | cons y z=>rw [List.length_cons];omega)]
    have ee:=(eg a b).trans (eg 0 0).symm
    have e2:=es.trans (eg 0 0)
    have hfo:FOk (Qp7 hi why (n,t,r,x::q,l,a,b)):=by
     rw [es]
     obtain ⟨a1,a2,a3,a4,a5,a6,a7,a8,a9,a10⟩:=h'
     simp only at a1 a2 a3 a4 a5 a6 a7 a8 a9 a10
     refine (Zfp (f:=(x.1 - 1+1,t,r,x::q,l++[Zf1 n (x.1 - 1) why],0,0)) ⟨by simp only;omega,a2,a3,fun i hi'=>by have p:=a4 i hi';exact ⟨p.1,by show i.1<x.1 - 1+1;omega⟩,a5,a6,fun i hi'=>?_,by simp only [List.length_append,List.length_singleton];omega,z33,z22⟩).1
     have p:=a7 i hi'
     simp only
     rcases List.mem_cons.1 hi' with rfl | hi'
     ·omega
     ·have:=a6.1 i hi';simp only [Z99] at this;omega
    refine ⟨hfo,hok.2.1,by rw [e2];exact (ez _ _ _ _ _).1,by rw [e2,List.length_cons];have:=(ez q t (x.1 - 1+1+1) (Zak r x) (l++[Zf1 n (x.1 - 1) why]++[Z77 x])).2;omega,o++[(n,x.1 - 1)],by rw [List.length_append,List.length_singleton];omega,?_⟩
    rw [ee,← es]
   ·refine .inl ?_
    rw [if_neg hxh] at ha
    unfold Qqx
    rw [cdp e,ha]
    dsimp only [Option.bind_some]
    rw [cdp e,Zlr _ _ _ _ (by omega)]
    dsimp only [Option.bind_some]
    rw [cbp (by omega),nf,cond_true,Qq3 (by omega) (by omega),Znw (by omega)]
    have es:Qp7 hi why (n,t,r,x::q,l,a,b)=(hi+1,t,r,x::q,l++[Zf1 n hi why],0,0):=by
     unfold Qp7;simp only;rw [if_neg hxh,if_pos e];simp only;rw [if_neg (by omega)]
    rw [es]
    exact ⟨_,rfl,by simp only;omega⟩
theorem Zhg (n0:Nat) (hi why was:Int) (hh:hi≤1000000) (j1 j2 j3 j4:Int) (j5 j6:List Qn4) (j7:List Evt):∀ (k m:Nat) (f:Qo0) (o:Qrf),FOk f→1≤f.1→was≤f.1→(f.1=was∨f.2.2.2.2.2=(0,0))→(f.2.2.2.1.length<k∨hi<f.1)→k<m→o.length+k≤100000 →
  ∃ q,Qw2 n0 m hi why was f.1 f.2.1 f.2.2.1 f.2.2.2.1 f.2.2.2.2.1 f.2.2.2.2.2.1 f.2.2.2.2.2.2 j1 j2 j3 j4 j5 j6 j7 o=some ((Qtv hi why k f,q,()),())
 | k,0,f,o,_,_,_,_,_,h,_=>by omega
 | 0,m+1,f,o,hf,h1,hw,hz,hk,h,ho=>by
  have hn:hi<f.1:=hk.elim (fun h=>absurd h (by omega)) id
  exact ⟨o,(Zit (Qw2 n0 m) hi why was hf h1 hw hh hz j1 j2 j3 j4 j5 j6 j7 o (by omega)).1 hn⟩
 | k+1,m+1,f,o,hf,h1,hw,hz,hk,h,ho=>by
  have st:=Zit (Qw2 n0 m) hi why was hf h1 hw hh hz j1 j2 j3 j4 j5 j6 j7 o (by omega)
  by_cases hn:f.1≤hi
  ·rw [show Qtv hi why (k+1) f=Qtv hi why k (Qp7 hi why f) from if_pos hn]
   rcases st.2 hn with ⟨o',e,hlt⟩ | ⟨a1,a2,a3,a4,o',ho',e⟩
   ·exact ⟨o',Eq.trans e (by rw [Zmr hi why k _ hlt])⟩
   ·obtain ⟨q,hq⟩:=Zhg n0 hi why was hh j1 j2 j3 j4 j5 j6 j7 k m (Qp7 hi why f) o' a1 (by omega) (by omega) (.inr a3) (.inl (by rcases hk with hk | hk<;>omega)) (by omega) (by omega)
    exact ⟨q,Eq.trans e hq⟩
  ·rw [show Qtv hi why (k+1) f=f from if_neg hn]
   exact ⟨o,st.1 (by omega)⟩
theorem Zr2 {f:Qo0} (h:FOk f) (h1:1≤f.1) (hi why:Int):∃ q,Zh0 f hi why=some ((Qwu f hi why,q,()),()):=by
 show ∃ q,Z6d (Qzh 1099511627776 1099511627776) f hi why=_
 unfold Z6d Qwu
 rw [Zrg h.sm]
 dsimp only [Option.bind_some]
 rw [cdn (by omega)]
 by_cases hh:1000000<hi
 ·rw [cdp hh,if_pos (.inr hh)];exact ⟨_,rfl⟩
 ·rw [cdn hh,if_neg (by omega)]
  have key:∀ m,100000<m→∃ q,Qzh 1099511627776 m hi why f.1 f.1 f.2.1 (g5 f) (h6 f) f.2.2.1 (g3 f) (g4 f) 0 0 0 0 [] [] [] []=some ((Qtv hi why (f.2.2.2.1.length+1) f,q,()),()):=by
   intro m hm
   obtain ⟨m,rfl⟩:∃ m',m=m'+1:=⟨m - 1,by omega⟩
   have e:Qzh 1099511627776 (m+1) hi why f.1 f.1 f.2.1 (g5 f) (h6 f) f.2.2.1 (g3 f) (g4 f) 0 0 0 0 [] [] [] []=Qw2 1099511627776 (m+1) hi why f.1 f.1 f.2.1 f.2.2.1 f.2.2.2.1 f.2.2.2.2.1 f.2.2.2.2.2.1 f.2.2.2.2.2.2 0 0 0 0 [] [] [] []:=rfl
   rw [e]
   have:=h.sm.win
   exact Zhg 1099511627776 hi why f.1 (by omega) 0 0 0 0 [] [] [] (f.2.2.2.1.length+1) (m+1) f [] h h1 (Int.le_refl _) (.inl rfl) (.inl (by omega)) (by omega) (by simp;omega)
  exact key 1099511627776 (by decide)
def Zlq (t:Int) (f:Qo0):Qo0:=(f.1,t,f.2.2)
theorem Zke (t s:Int):∀ (w:List Qn4) (nx:Int) (r:List Qn4) (l:List Evt) (a b:Int),Qxe t nx r w l a b=Zlq t (Qxe s nx r w l a b)
 | [],nx,r,l,a,b=>rfl
 | x::q,nx,r,l,a,b=>by
  unfold Qxe
  split
  ·exact Zke t s q _ _ _ _ _
  ·rfl
theorem Zl5 (t:Int) (f:Qo0):Qxl (Zlq t f)=Zlq t (Qxl f):=Zke _ _ _ _ _ _ _ _
theorem Zpb (t hi why:Int) (f:Qo0):Qp7 hi why (Zlq t f)=Zlq t (Qp7 hi why f):=by
 obtain ⟨n,t0,r,w,l,a,b⟩:=f
 show Qp7 hi why (n,t,r,w,l,a,b)=_
 have key:∀ to:Int,(if (if n≤to then (to+1,t,r,w,l++[Zf1 n to why],0,0) else (n,t,r,w,l,0,0):Qo0).1≤hi then Qxl (if n≤to then (to+1,t,r,w,l++[Zf1 n to why],0,0) else (n,t,r,w,l,0,0)) else (if n≤to then (to+1,t,r,w,l++[Zf1 n to why],0,0) else (n,t,r,w,l,0,0))) =
   Zlq t (if (if n≤to then (to+1,t0,r,w,l++[Zf1 n to why],0,0) else (n,t0,r,w,l,0,0):Qo0).1≤hi then Qxl (if n≤to then (to+1,t0,r,w,l++[Zf1 n to why],0,0) else (n,t0,r,w,l,0,0)) else (if n≤to then (to+1,t0,r,w,l++[Zf1 n to why],0,0) else (n,t0,r,w,l,0,0))):=by
  intro to
  by_cases q:n≤to
  ·rw [if_pos q,if_pos q]
   simp only
   split
   ·exact Zl5 t (to+1,t0,r,w,l++[Zf1 n to why],0,0)
   ·rfl
  ·rw [if_neg q,if_neg q]
   simp only
   split
   ·exact Zl5 t (n,t0,r,w,l,0,0)
   ·rfl
 exact key _
theorem Zip (t hi why:Int):∀ (k:Nat) (f:Qo0),Qtv hi why k (Zlq t f)=Zlq t (Qtv hi why k f)
 | 0,f=>rfl
 | k+1,f=>by
  unfold Qtv
  rw [Zpb,show (Zlq t f).1=f.1 from rfl]
  split
  ·exact Zip t hi why k _
  ·rfl
theorem Zia (t hi why:Int) (f:Qo0):Qwu (Zlq t f) hi why=Zlq t (Qwu f hi why):=by
 unfold Qwu
 rw [show (Zlq t f).1=f.1 from rfl,show (Zlq t f).2.2.2.1=f.2.2.2.1 from rfl]
 split
 ·rfl
 ·exact Zip t hi why _ f
theorem Zqo (hi why:Int) (f:Qo0):(Qwu f hi why).2.1=f.2.1:=by
 have:=Zia f.2.1 hi why f
 rw [show Zlq f.2.1 f=f from rfl] at this
 rw [this];rfl
theorem Zci {f:Qo0} (h:FSm f) (top:Int):Qu3 f top=some ((Ql8 f top,()),()):=by
 unfold Qu3 Ql8
 rw [Zr3 h]
 dsimp only [Option.bind_some]
 by_cases h1:0<f.1
 ·rw [cdp h1]
  by_cases h2:top≤1000000
  ·rw [cdp h2,Zt8,if_pos ⟨h1,h2⟩]
  ·rw [cdn h2,if_neg (by omega)]
 ·rw [cdn h1,if_neg (by omega)]
theorem Zqh {f:Qo0} (h:FSm f) (next:Int) (hn:-1000000000000≤next∧next≤1000000000000):Z9k f next=some ((Z6u f next,()),()):=by
 unfold Z9k Z6u
 by_cases h1:0<f.1
 ·rw [cdp h1,if_pos h1,Qq3 (by omega) (by omega),Zci h];rfl
 ·rw [cdn h1,if_neg h1,Zr3 h]
  dsimp only [Option.bind_some]
  by_cases h2:1≤next
  ·rw [cdp h2]
   by_cases h3:next≤1000000
   ·rw [cdp h3,if_pos ⟨h2,h3⟩]
   ·rw [cdn h3,if_neg (by omega)]
  ·rw [cdn h2,if_neg (by omega)]
theorem Zqt {f:Qo0} (h:FOk f) (i:Qn4) (hi:i.2.size≤1000000):Z9a f i=some ((Z70 f i,()),()):=by
 unfold Z9a Z70
 have hn:=h.next
 rw [Zr3 h.sm]
 by_cases a1:f.1=0
 ·rw [Z2n a1,if_pos (.inl a1)];rfl
 rw [Z0t a1]
 by_cases a2:i.1<1
 ·rw [cdp a2,if_pos (.inr (.inl a2))];rfl
 rw [cdn a2]
 by_cases a3:1000000<i.1
 ·rw [cdp a3,if_pos (.inr (.inr (.inl a3)))];rfl
 rw [cdn a3]
 by_cases a4:12<i.2.size
 ·rw [cdp (by omega),if_pos (.inr (.inr (.inr a4)))];rfl
 rw [cdn (by omega),if_neg (by omega),Zci h.sm]
 dsimp only [Option.bind_some]
 have hk:=Qv8 h i.1
 have e:=(Z3c f i.1).1
 obtain ⟨b,hb⟩:=Zry hk.win hk.sm.win (Ql8 f i.1).1 i (by omega) (by omega)
 rw [show (g3 (Ql8 f i.1))=(Ql8 f i.1).2.2.2.1 from rfl,hb]
 dsimp only [Option.bind_some]
 have hp:=Zmh (next:=(Ql8 f i.1).1) (x:=i) hk.win (fun j hj=>by have:=hk.win1 j hj;omega) (by omega)
 exact Zrd ((Ql8 f i.1).1,(Ql8 f i.1).2.1,(Ql8 f i.1).2.2.1,Zos (Ql8 f i.1).2.2.2.1 (Ql8 f i.1).1 i,(Ql8 f i.1).2.2.2.2) (Zk1.sm ⟨by simp only;omega,hk.top,hk.ring,hk.ring1,hk.ringl,hp.1,hp.2,hk.log,hk.tries,hk.due⟩) (fun g=>some ((g,()),()))
theorem Zqg {f:Qo0} (h:FOk f) (lo hi:Int):Z9f f lo hi=some ((Z6y f lo hi,()),()):=by
 unfold Z9f Z6y
 have hn:=h.next
 rw [Zr3 h.sm]
 by_cases a1:f.1=0
 ·rw [Z2n a1,if_pos (.inl a1)];rfl
 rw [Z0t a1]
 by_cases a2:lo<1
 ·rw [cdp a2,if_pos (.inr (.inl a2))];rfl
 rw [cdn a2]
 by_cases a3:hi<lo
 ·rw [cdp a3,if_pos (.inr (.inr (.inl a3)))];rfl
 rw [cdn a3]
 by_cases a4:1000000<hi
 ·rw [cdp a4,if_pos (.inr (.inr (.inr a4)))];rfl
 rw [cdn a4,if_neg (by omega),Zci h.sm]
 have e:=(Z3c f hi).1
 dsimp only
 rw [e]
 by_cases b1:f.1<lo
 ·rw [cdp b1,if_pos (.inl b1)];rfl
 rw [cdn b1]
 by_cases b2:hi<f.1
 ·rw [cdp b2,if_pos (.inr b2)];rfl
 rw [cdn b2,if_neg (by omega)]
 obtain ⟨q,hq⟩:=Zr2 h (by omega) hi 1
 rw [hq]
 dsimp only [Option.bind_some]
 have hk:Ql8 f hi=Zlq (max f.2.1 hi) f:=by unfold Ql8;rw [if_pos (by omega)];rfl
 have et:=Zqo hi 1 f
 have hs:=Z52 (h.to' (by omega)) hi 1
 have e2:(u1 (Qwu f hi 1) (if hi>(Qwu f hi 1).2.1 then hi else (Qwu f hi 1).2.1))=Qwu (Ql8 f hi) hi 1:=by
  rw [hk,Zia,Zt8,et];rfl
 rw [e2]
 have hkk:=Qv8 h hi
 exact Zrd _ (Z52 (hkk.to' (by omega)) hi 1).1.sm (fun g=>some ((g,()),()))
end Go.PE
