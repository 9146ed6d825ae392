/-
  Plain lemmas on the functions.
  Conditions: none.
-/
import Derived.Test.YtmfiijdlhjajcaaGreatDoorNodeAllPTieRef
set_option linter.unusedVariables false
set_option linter.unusedSimpArgs false
set_option maxRecDepth 20000
namespace Go.PE
theorem Zza {f:Qo3} (h:FOk f) (hi:Int):Zd7 f hi=some ((match f.2.2.2.1 with | []=>(hi,false,()) | x::_=>if x.1≤hi then (x.1 - 1,true,()) else (hi,false,())),()):=by
 have hs:=h.sm
 unfold Zd7
 rw [show g3 f=f.2.2.2.1 from rfl,Zpe f.2.2.2.1 _ (fun i=>decide (i.1 ≥ f.1)) (fun x _=>rfl) (by have:=hs.win;omega)]
 dsimp only [Option.bind_some]
 cases hw:f.2.2.2.1 with
 | nil=>rfl
 | cons x q=>
  have hx:=h.win1 x (by rw [hw];exact List.mem_cons_self ..)
  have hn:=h.next
  have e0:(x::q).findIdx (fun i=>decide (i.1 ≥ f.1))=0:=by rw [List.findIdx_cons,decide_eq_true (show x.1 ≥ f.1 by omega)];rfl
  rw [e0,if_pos (by rw [List.length_cons];omega),cdn (by omega),ct (bt (by omega) (by rw [List.length_cons];omega))]
  show (bif decide (x.1>hi) then _ else bif _ then some ((wJ (x.1 - 1),true,()),()) else none)=_
  rw [Qor (by omega) (by omega),ct (bt (by omega) (by rw [List.length_cons];omega))]
  by_cases a:x.1≤hi
  ·rw [cdn (by omega)];simp only [a,if_true]
  ·rw [cdp (by omega)];simp only [a,if_false]
theorem Zph (L) (hi why c:Int) {f:Qo3} (h:FOk f) (h1:1≤f.1) (hw:c≤f.1) (hh:hi≤1000000) (hz:f.1=c∨f.2.2.2.2.2=(0,0)) (j1 j2 j3 j4:Int) (j5 j6:List Qo4) (j7:List Evt) (o:Qmq) (ho:o.length≤100000) :
  (hi<f.1→Qs9 L hi why c f.1 f.2.1 f.2.2.1 f.2.2.2.1 f.2.2.2.2.1 f.2.2.2.2.2.1 f.2.2.2.2.2.2 j1 j2 j3 j4 j5 j6 j7 o=some ((f,o,()),())) ∧
  (f.1≤hi→(∃ o',Qs9 L hi why c f.1 f.2.1 f.2.2.1 f.2.2.2.1 f.2.2.2.2.1 f.2.2.2.2.2.1 f.2.2.2.2.2.2 j1 j2 j3 j4 j5 j6 j7 o=some ((Qqh hi why f,o',()),())∧hi<(Qqh hi why f).1) ∨
   (FOk (Qqh hi why f)∧f.1<(Qqh hi why f).1∧(Qqh hi why f).2.2.2.2.2=(0,0)∧(Qqh hi why f).2.2.2.1.length<f.2.2.2.1.length∧∃ o',o'.length≤o.length+1∧Qs9 L hi why c f.1 f.2.1 f.2.2.1 f.2.2.2.1 f.2.2.2.2.1 f.2.2.2.2.2.1 f.2.2.2.2.2.2 j1 j2 j3 j4 j5 j6 j7 o =
    L hi why c (Qqh hi why f).1 (Qqh hi why f).2.1 (Qqh hi why f).2.2.1 (Qqh hi why f).2.2.2.1 (Qqh hi why f).2.2.2.2.1 (Qqh hi why f).2.2.2.2.2.1 (Qqh hi why f).2.2.2.2.2.2 j1 j2 j3 j4 j5 j6 j7 o')):=by
 have hs:=h.sm
 have ha:=Zza h hi
 have h':=h.to' h1
 have g:=fun e=>Zrl (why:=why) (hi:=hi) h' e hh
 obtain ⟨n,t,r,w,l,a,b⟩:=f
 have hn:=h.next
 obtain ⟨_,s2,s3,s4⟩:=hs
 have k:=h.log
 simp only at hn s2 s3 s4 h1 hw hz ha k
 refine ⟨fun e=>?_,fun e=>?_⟩
 ·simp only at e ⊢
  unfold Qs9
  rw [cdn (by omega)]
  unfold Z2t
  rw [Z8q]
  by_cases q:n=c
  ·rw [if_pos q]
  ·rw [if_neg q]
   have:=hz.elim (fun e=>absurd e q) id
   cases this
   rfl
 ·simp only at e
  have g:=g e
  simp only at g ⊢
  cases w with
  | nil=>
   refine .inl ?_
   dsimp only at ha
   unfold Qs9
   rw [cdp e,ha]
   dsimp only [Option.bind_some]
   rw [cdp e,Zv7 _ _ _ _ (by omega)]
   dsimp only [Option.bind_some]
   rw [cbp (by omega),nf,cond_true,Qor (by omega) (by omega),Ztu (by omega)]
   have es:Qqh hi why (n,t,r,[],l,a,b)=(hi+1,t,r,[],l++[Zlc n hi why],0,0):=by
    unfold Qqh;simp only;rw [if_pos e];simp only;rw [if_neg (by omega)]
   rw [es]
   exact ⟨_,rfl,by simp only;omega⟩
  | cons x q=>
   have hx:=h.win1 x (List.mem_cons_self ..)
   simp only at hx
   dsimp only at ha
   by_cases j:x.1≤hi
   ·refine .inr ?_
    rw [if_pos j] at ha
    unfold Qs9
    rw [cdp e,ha]
    dsimp only [Option.bind_some]
    rw [cdp (by omega),Zv7 _ _ _ _ (by omega)]
    dsimp only [Option.bind_some]
    rw [cbp (by omega),nt,cond_false,Qor (by omega) (by omega)]
    have es:Qqh hi why (n,t,r,x::q,l,a,b)=Z0d (x.1 - 1+1,t,r,x::q,l++[Zlc n (x.1 - 1) why],0,0):=by
     unfold Qqh;simp only;rw [if_pos j,if_pos (show n≤x.1 - 1 by omega)];simp only;rw [if_pos (show x.1 - 1+1≤hi by omega)]
    have eg:∀ a b,Z0d (x.1 - 1+1,t,r,x::q,l++[Zlc n (x.1 - 1) why],a,b)=Z0g t (x.1 - 1+1+1) (Zfi r x) q (l++[Zlc n (x.1 - 1) why]++[Za2 x]) 0 0:=by
     intro a b
     show Z0g _ _ _ (x::q) _ _ _=_
     rw [Z0g];simp only;rw [if_pos (by omega)]
    have ez:∀ (w:List Qo4) (t nx:Int) (r:List Qo4) (l:List Evt),(Z0g t nx r w l 0 0).2.2.2.2.2=(0,0)∧(Z0g t nx r w l 0 0).2.2.2.1.length≤w.length:=by
     intro w
     induction w with
     | nil=>intro t nx r l;exact ⟨rfl,Nat.le_refl _⟩
     | cons y s ih=>
      intro t nx r l
      unfold Z0g
      split
      ·have:=ih t (nx+1) (Zfi r y) (l++[Za2 y]);rw [List.length_cons];exact ⟨this.1,by omega⟩
      ·exact ⟨rfl,Nat.le_refl _⟩
    obtain ⟨qq,hq,_,A⟩:=Zve (x.1 - 1+1,t,r,x::q,l++[Zlc n (x.1 - 1) why],a,b) ⟨by simp only;omega,s2,s3,by simp only [List.length_append,List.length_singleton];omega⟩
    rw [hq]
    dsimp only [Option.bind_some]
    have v:=A x q rfl (by simp only;omega)
    rw [Z3n (by cases qq with | nil=>exact absurd rfl v | cons y z=>rw [List.length_cons];omega)]
    have ee:=(eg a b).trans (eg 0 0).symm
    have e2:=es.trans (eg 0 0)
    have u:FOk (Qqh hi why (n,t,r,x::q,l,a,b)):=by
     rw [es]
     obtain ⟨a1,a2,a3,a4,a5,a6,a7,a8,a9,m⟩:=h'
     simp only at a1 a2 a3 a4 a5 a6 a7 a8 a9 m
     refine (Zml (f:=(x.1 - 1+1,t,r,x::q,l++[Zlc n (x.1 - 1) why],0,0)) ⟨by simp only;omega,a2,a3,fun i d=>by have p:=a4 i d;exact ⟨p.1,by show i.1<x.1 - 1+1;omega⟩,a5,a6,fun i d=>?_,by simp only [List.length_append,List.length_singleton];omega,z33,z22⟩).1
     have p:=a7 i d
     simp only
     rcases List.mem_cons.1 d with rfl | d
     ·omega
     ·have:=a6.1 i d;simp only [Zet] at this;omega
    refine ⟨u,g.2.1,by rw [e2];exact (ez _ _ _ _ _).1,by rw [e2,List.length_cons];have:=(ez q t (x.1 - 1+1+1) (Zfi r x) (l++[Zlc n (x.1 - 1) why]++[Za2 x])).2;omega,o++[(n,x.1 - 1)],by rw [List.length_append,List.length_singleton];omega,?_⟩
    rw [ee,← es]
   ·refine .inl ?_
    rw [if_neg j] at ha
    unfold Qs9
    rw [cdp e,ha]
    dsimp only [Option.bind_some]
    rw [cdp e,Zv7 _ _ _ _ (by omega)]
    dsimp only [Option.bind_some]
    rw [cbp (by omega),nf,cond_true,Qor (by omega) (by omega),Ztu (by omega)]
    have es:Qqh hi why (n,t,r,x::q,l,a,b)=(hi+1,t,r,x::q,l++[Zlc n hi why],0,0):=by
     unfold Qqh;simp only;rw [if_neg j,if_pos e];simp only;rw [if_neg (by omega)]
    rw [es]
    exact ⟨_,rfl,by simp only;omega⟩
theorem Zob (n0:Nat) (hi why a:Int) (hh:hi≤1000000) (j1 j2 j3 j4:Int) (j5 j6:List Qo4) (j7:List Evt):∀ (k m:Nat) (f:Qo3) (o:Qmq),FOk f→1≤f.1→a≤f.1→(f.1=a∨f.2.2.2.2.2=(0,0))→(f.2.2.2.1.length<k∨hi<f.1)→k<m→o.length+k≤100000 →
  ∃ q,Qzd n0 m hi why a f.1 f.2.1 f.2.2.1 f.2.2.2.1 f.2.2.2.2.1 f.2.2.2.2.2.1 f.2.2.2.2.2.2 j1 j2 j3 j4 j5 j6 j7 o=some ((Qwr hi why k f,q,()),())
 | k,0,f,o,_,_,_,_,_,h,_=>by omega
 | 0,m+1,f,o,hf,h1,hw,hz,hk,h,ho=>by
  have hn:hi<f.1:=hk.elim (fun h=>absurd h (by omega)) id
  exact ⟨o,(Zph (Qzd n0 m) hi why a hf h1 hw hh hz j1 j2 j3 j4 j5 j6 j7 o (by omega)).1 hn⟩
 | k+1,m+1,f,o,hf,h1,hw,hz,hk,h,ho=>by
  have st:=Zph (Qzd n0 m) hi why a hf h1 hw hh hz j1 j2 j3 j4 j5 j6 j7 o (by omega)
  by_cases hn:f.1≤hi
  ·rw [show Qwr hi why (k+1) f=Qwr hi why k (Qqh hi why f) from if_pos hn]
   rcases st.2 hn with ⟨o',e,b⟩ | ⟨a1,a2,a3,a4,o',c,e⟩
   ·exact ⟨o',Eq.trans e (by rw [Ztx hi why k _ b])⟩
   ·obtain ⟨q,hq⟩:=Zob n0 hi why a hh j1 j2 j3 j4 j5 j6 j7 k m (Qqh hi why f) o' a1 (by omega) (by omega) (.inr a3) (.inl (by rcases hk with hk | hk<;>omega)) (by omega) (by omega)
    exact ⟨q,Eq.trans e hq⟩
  ·rw [show Qwr hi why (k+1) f=f from if_neg hn]
   exact ⟨o,st.1 (by omega)⟩
theorem Zv9 {f:Qo3} (h:FOk f) (h1:1≤f.1) (hi why:Int):∃ q,Zib f hi why=some ((Z01 f hi why,q,()),()):=by
 show ∃ q,Zbl (Z34 1099511627776 1099511627776) f hi why=_
 unfold Zbl Z01
 rw [Zzp h.sm]
 dsimp only [Option.bind_some]
 rw [cdn (by omega)]
 by_cases hh:1000000<hi
 ·rw [cdp hh,if_pos (.inr hh)];exact ⟨_,rfl⟩
 ·rw [cdn hh,if_neg (by omega)]
  have key:∀ m,100000<m→∃ q,Z34 1099511627776 m hi why f.1 f.1 f.2.1 (g5 f) (h6 f) f.2.2.1 (g3 f) (g4 f) 0 0 0 0 [] [] [] []=some ((Qwr hi why (f.2.2.2.1.length+1) f,q,()),()):=by
   intro m hm
   obtain ⟨m,rfl⟩:∃ m',m=m'+1:=⟨m - 1,by omega⟩
   have e:Z34 1099511627776 (m+1) hi why f.1 f.1 f.2.1 (g5 f) (h6 f) f.2.2.1 (g3 f) (g4 f) 0 0 0 0 [] [] [] []=Qzd 1099511627776 (m+1) hi why f.1 f.1 f.2.1 f.2.2.1 f.2.2.2.1 f.2.2.2.2.1 f.2.2.2.2.2.1 f.2.2.2.2.2.2 0 0 0 0 [] [] [] []:=rfl
   rw [e]
   have:=h.sm.win
   exact Zob 1099511627776 hi why f.1 (by omega) 0 0 0 0 [] [] [] (f.2.2.2.1.length+1) (m+1) f [] h h1 (Int.le_refl _) (.inl rfl) (.inl (by omega)) (by omega) (by simp;omega)
  exact key 1099511627776 (by decide)
def Zul (t:Int) (f:Qo3):Qo3:=(f.1,t,f.2.2)
theorem Ztk (t s:Int):∀ (w:List Qo4) (nx:Int) (r:List Qo4) (l:List Evt) (a b:Int),Z0g t nx r w l a b=Zul t (Z0g s nx r w l a b)
 | [],nx,r,l,a,b=>rfl
 | x::q,nx,r,l,a,b=>by
  unfold Z0g
  split
  ·exact Ztk t s q _ _ _ _ _
  ·rfl
theorem Zss (t:Int) (f:Qo3):Z0d (Zul t f)=Zul t (Z0d f):=Ztk _ _ _ _ _ _ _ _
theorem Zxj (t hi why:Int) (f:Qo3):Qqh hi why (Zul t f)=Zul t (Qqh hi why f):=by
 obtain ⟨n,t0,r,w,l,a,b⟩:=f
 show Qqh hi why (n,t,r,w,l,a,b)=_
 have key:∀ to:Int,(if (if n≤to then (to+1,t,r,w,l++[Zlc n to why],0,0) else (n,t,r,w,l,0,0):Qo3).1≤hi then Z0d (if n≤to then (to+1,t,r,w,l++[Zlc n to why],0,0) else (n,t,r,w,l,0,0)) else (if n≤to then (to+1,t,r,w,l++[Zlc n to why],0,0) else (n,t,r,w,l,0,0))) =
   Zul t (if (if n≤to then (to+1,t0,r,w,l++[Zlc n to why],0,0) else (n,t0,r,w,l,0,0):Qo3).1≤hi then Z0d (if n≤to then (to+1,t0,r,w,l++[Zlc n to why],0,0) else (n,t0,r,w,l,0,0)) else (if n≤to then (to+1,t0,r,w,l++[Zlc n to why],0,0) else (n,t0,r,w,l,0,0))):=by
  intro to
  by_cases q:n≤to
  ·rw [if_pos q,if_pos q]
   simp only
   split
   ·exact Zss t (to+1,t0,r,w,l++[Zlc n to why],0,0)
   ·rfl
  ·rw [if_neg q,if_neg q]
   simp only
   split
   ·exact Zss t (n,t0,r,w,l,0,0)
   ·rfl
 exact key _
theorem Zqd (t hi why:Int):∀ (k:Nat) (f:Qo3),Qwr hi why k (Zul t f)=Zul t (Qwr hi why k f)
 | 0,f=>rfl
 | k+1,f=>by
  unfold Qwr
  rw [Zxj,show (Zul t f).1=f.1 from rfl]
  split
  ·exact Zqd t hi why k _
  ·rfl
theorem Zpj (t hi why:Int) (f:Qo3):Z01 (Zul t f) hi why=Zul t (Z01 f hi why):=by
 unfold Z01
 rw [show (Zul t f).1=f.1 from rfl,show (Zul t f).2.2.2.1=f.2.2.2.1 from rfl]
 split
 ·rfl
 ·exact Zqd t hi why _ f
theorem Zyq (hi why:Int) (f:Qo3):(Z01 f hi why).2.1=f.2.1:=by
 have:=Zpj f.2.1 hi why f
 rw [show Zul f.2.1 f=f from rfl] at this
 rw [this];rfl
theorem Zhp {f:Qo3} (h:FSm f) (top:Int):Qx2 f top=some ((Ql5 f top,()),()):=by
 unfold Qx2 Ql5
 rw [Zwt h]
 dsimp only [Option.bind_some]
 by_cases h1:0<f.1
 ·rw [cdp h1]
  by_cases h2:top≤1000000
  ·rw [cdp h2,X1f,if_pos ⟨h1,h2⟩]
  ·rw [cdn h2,if_neg (by omega)]
 ·rw [cdn h1,if_neg (by omega)]
theorem Zyv {f:Qo3} (h:FSm f) (next:Int) (hn:-1000000000000≤next∧next≤1000000000000):Zeq f next=some ((Z9x f next,()),()):=by
 unfold Zeq Z9x
 by_cases h1:0<f.1
 ·rw [cdp h1,if_pos h1,Qor (by omega) (by omega),Zhp h];rfl
 ·rw [cdn h1,if_neg h1,Zwt h]
  dsimp only [Option.bind_some]
  by_cases h2:1≤next
  ·rw [cdp h2]
   by_cases h3:next≤1000000
   ·rw [cdp h3,if_pos ⟨h2,h3⟩]
   ·rw [cdn h3,if_neg (by omega)]
  ·rw [cdn h2,if_neg (by omega)]
theorem X13 {f:Qo3} (h:FOk f) (t:ByteArray) (ht:t.size≤1000000):Zmg f t=some ((match Zyc f t with | some g=>(g,true,()) | none=>(f,false,())),()):=by
 unfold Zmg Zyc
 have hn:=h.next
 have hs:=h.sm
 rw [Zwt hs]
 dsimp only [Option.bind_some]
 have e:(if 1>f.1 then 1 else f.1)=max f.1 1:=by split<;>omega
 simp only [e]
 by_cases h1:12<t.size
 ·rw [cdp (by omega),if_pos (.inl h1)]
 ·rw [cdn (by omega)]
  by_cases h2:1000000<max f.1 1
  ·rw [cdp h2,if_pos (.inr h2)]
  ·rw [cdn h2,if_neg (by omega),Zxd _ _ _ (by have:=hs.log;show f.2.2.2.2.1.length≤_;omega)]
   dsimp only [Option.bind_some]
   rw [Zxk _ _ hs.ring]
   dsimp only [Option.bind_some]
   rw [Qor (by omega) (by omega)]
theorem Zyr {f:Qo3} (h:FOk f) (i:Qo4) (hi:i.2.size≤1000000):Zey f i=some ((Z60 f i,()),()):=by
 unfold Zey Z60
 have hn:=h.next
 rw [Zwt h.sm]
 by_cases a1:f.1=0
 ·rw [Z65 a1,if_pos (.inl a1)];rfl
 rw [Z3n a1]
 by_cases a2:i.1<1
 ·rw [cdp a2,if_pos (.inr (.inl a2))];rfl
 rw [cdn a2]
 by_cases a3:1000000<i.1
 ·rw [cdp a3,if_pos (.inr (.inr (.inl a3)))];rfl
 rw [cdn a3]
 by_cases a4:12<i.2.size
 ·rw [cdp (by omega),if_pos (.inr (.inr (.inr a4)))];rfl
 rw [cdn (by omega),if_neg (by omega),Zhp h.sm]
 dsimp only [Option.bind_some]
 have hk:=Qv9 h i.1
 have e:=(Z8g f i.1).1
 obtain ⟨b,hb⟩:=Zzy hk.win hk.sm.win (Ql5 f i.1).1 i (by omega) (by omega)
 rw [show (g3 (Ql5 f i.1))=(Ql5 f i.1).2.2.2.1 from rfl,hb]
 dsimp only [Option.bind_some]
 have hp:=Zu9 (next:=(Ql5 f i.1).1) (x:=i) hk.win (fun j hj=>by have:=hk.win1 j hj;omega) (by omega)
 exact Zyh ((Ql5 f i.1).1,(Ql5 f i.1).2.1,(Ql5 f i.1).2.2.1,Zwy (Ql5 f i.1).2.2.2.1 (Ql5 f i.1).1 i,(Ql5 f i.1).2.2.2.2) (Zs0.sm ⟨by simp only;omega,hk.top,hk.ring,hk.ring1,hk.ringl,hp.1,hp.2,hk.log,hk.tries,hk.due⟩) (fun g=>some ((g,()),()))
theorem Zz1 {f:Qo3} (h:FOk f) (lo hi:Int):Zew f lo hi=some ((Z40 f lo hi,()),()):=by
 unfold Zew Z40
 have hn:=h.next
 rw [Zwt h.sm]
 by_cases a1:f.1=0
 ·rw [Z65 a1,if_pos (.inl a1)];rfl
 rw [Z3n a1]
 by_cases a2:lo<1
 ·rw [cdp a2,if_pos (.inr (.inl a2))];rfl
 rw [cdn a2]
 by_cases a3:hi<lo
 ·rw [cdp a3,if_pos (.inr (.inr (.inl a3)))];rfl
 rw [cdn a3]
 by_cases a4:1000000<hi
 ·rw [cdp a4,if_pos (.inr (.inr (.inr a4)))];rfl
 rw [cdn a4,if_neg (by omega),Zhp h.sm]
 have e:=(Z8g f hi).1
 dsimp only
 rw [e]
 by_cases b1:f.1<lo
 ·rw [cdp b1,if_pos (.inl b1)];rfl
 rw [cdn b1]
 by_cases b2:hi<f.1
 ·rw [cdp b2,if_pos (.inr b2)];rfl
 rw [cdn b2,if_neg (by omega)]
 obtain ⟨q,hq⟩:=Zv9 h (by omega) hi 1
 rw [hq]
 dsimp only [Option.bind_some]
 have hk:Ql5 f hi=Zul (max f.2.1 hi) f:=by unfold Ql5;rw [if_pos (by omega)];rfl
 have et:=Zyq hi 1 f
 have hs:=Z6g (h.to' (by omega)) hi 1
 have e2:(u1 (Z01 f hi 1) (if hi>(Z01 f hi 1).2.1 then hi else (Z01 f hi 1).2.1))=Z01 (Ql5 f hi) hi 1:=by
  rw [hk,Zpj,X1f,et];rfl
 rw [e2]
 have hkk:=Qv9 h hi
 exact Zyh _ (Z6g (hkk.to' (by omega)) hi 1).1.sm (fun g=>some ((g,()),()))
theorem Zzm {f:Qo3} (h:FOk f):Zhx f=some ((match Zg6 f with | some s=>(s,true,()) | none=>((0,0),false,())),()):=by
 unfold Zhx Zg6
 have hn:=h.next
 have hs:=h.sm
 obtain ⟨n,t,r,w,l,a,b⟩:=f
 simp only at hn ⊢
 cases w with
 | nil=>
  dsimp only
  rw [cdn (by simp)]
  by_cases a1:n=0
  ·rw [Z65 a1,if_pos (.inl a1)]
  rw [Z3n a1]
  by_cases a2:t<n
  ·rw [cdp a2,if_pos (.inr a2)]
  ·rw [cdn a2,if_neg (by omega)]
 | cons x q=>
  have hx:=h.win1 x (List.mem_cons_self ..)
  have hw:=hs.win
  simp only at hx hw
  dsimp only
  rw [cdp (by show (0:Int)<((q.length+1:Nat):Int);omega),Zro _ (by show (x::q).length≤_;omega)]
  dsimp only [Option.bind_some]
  show (bif n==0 then _ else bif decide (wJ (x.1 - 1)<n) then _ else some (((n,wJ (x.1 - 1)),true,()),()))=_
  rw [Qor (by omega) (by omega)]
  by_cases a1:n=0
  ·rw [Z65 a1,if_pos (.inl a1)]
  rw [Z3n a1]
  by_cases a2:x.1 - 1<n
  ·rw [cdp a2,if_pos (.inr a2)]
  ·rw [cdn a2,if_neg (fun e=>e.elim a1 a2)]
theorem X14 (a b now:Int):Zmm (a,b) now=some ((decide (a=0∨b≤now),()),()):=by
 unfold Zmm
 by_cases h:a=0
 ·rw [Z65 h,decide_eq_true (.inl h)]
 ·rw [Z3n h]
  congr 3
  exact decide_eq_decide.2 ⟨.inr,fun x=>x.elim (fun e=>absurd e h) id⟩
theorem Zyz (a b now:Int) (h:0≤a∧a≤2) (hn:0≤now∧now≤1125899906842624):Zem (a,b) now=some (((a+1,now+2*2 ^ a.toNat),()),()):=by
 unfold Zem
 have e1:(if 3<a then 3 else a)=a:=if_neg (by omega)
 dsimp only
 rw [e1,if_neg (show ¬ 0>a by omega),cdp h.1]
 have h3:a=0∨a=1∨a=2:=by omega
 rcases h3 with rfl | rfl | rfl
 ·rw [show wJ (2*2 ^ (min (0:Int).toNat 64))=2 by decide,Qor (x:=now+2) (by omega) (by omega)];rfl
 ·rw [show wJ (2*2 ^ (min (1:Int).toNat 64))=4 by decide,Qor (x:=now+4) (by omega) (by omega)];rfl
 ·rw [show wJ (2*2 ^ (min (2:Int).toNat 64))=8 by decide,Qor (x:=now+8) (by omega) (by omega)];rfl
theorem Zyt {f:Qo3} (h:FOk f) (now:Int) (hn:0≤now∧now≤1125899906842624):Zdu f now=some (((Z6r f now).1,(match (Z6r f now).2 with | some s=>(s,true,()) | none=>((0,0),false,()))),()):=by
 unfold Zdu Z6r
 rw [Zzm h,Zwt h.sm]
 dsimp only [Option.bind_some]
 have a:=h.next
 have ht:=h.tries
 cases hw:Zg6 f with
 | none=>rfl
 | some s=>
  dsimp only
  rw [nt,cond_false,show h5 f=(f.2.2.2.2.2.1,f.2.2.2.2.2.2) from rfl,X14]
  dsimp only [Option.bind_some]
  by_cases a1:f.2.2.2.2.2.1=0∨f.2.2.2.2.2.2≤now
  ·rw [decide_eq_true a1,nt,cond_false,if_pos a1,show Zkw (f.2.2.2.2.2.1,f.2.2.2.2.2.2)=some ((decide (f.2.2.2.2.2.1 ≥ 3),()),()) from rfl]
   dsimp only [Option.bind_some]
   have hf:f.1≠0:=by intro e;unfold Zg6 at hw;simp only [e,true_or,if_true] at hw;cases hw
   by_cases a2:3≤f.2.2.2.2.2.1
   ·rw [cdp a2,if_pos a2]
    obtain ⟨q,hq⟩:=Zv9 h (by omega) s.2 2
    rw [hq]
    dsimp only [Option.bind_some]
    exact Zyh _ (Z6g (h.to' (by omega)) s.2 2).1.sm (fun g=>some ((g,(0,0),false,()),()))
   ·rw [cdn a2,if_neg a2,Zyz _ _ _ (by omega) hn]
    rfl
  ·rw [decide_eq_false a1,nf,cond_true,if_neg a1]
theorem ofT {N:Int} {t:Tie} (h:TOk N t):Zpw t=some (((t,[]),()),()):=by
 unfold Zpw
 rw [Zhm _ (by have:=h.pt;show t.2.2.2.2.2.2.1.length≤_;omega)]
 dsimp only [Option.bind_some]
 rw [Zdl _ (by have:=h.kids.len;show t.2.2.2.2.2.2.2.2.2.2.2.2.length≤_;omega)]
 rfl
theorem Zh2 (t:Tie) (l:List Qka) (k to lo:Int) (h2:k≠2) (h5:k≠5) (hl:l.length≤100000):Qkg (t,l) k to lo=some ((),((t,l++[(k,t.1,to,t.2.1,0,0,[],lo,0,ebA)]),())):=by
 unfold Qkg
 rw [Z3n h2,Z3n h5,cbp (by dsimp only;omega)]
theorem Zxx {N:Int} {t:Tie} (h:TOk N t) (l:List Qka) (k to lo:Int) (h2:k=2∨k=5) (hl:l.length≤100000):Qkg (t,l) k to lo=some ((),((t,l++[(k,t.1,to,t.2.1,t.2.2.2.2.2.2.2.1,t.2.2.1 - t.2.2.2.2.2.2.2.2.1,t.2.2.2.2.2.2.1,lo,0,ebA)]),())):=by
 have J:Qx0 (t,l) k to lo=some ((),((t,l++[(k,t.1,to,t.2.1,t.2.2.2.2.2.2.2.1,t.2.2.1 - t.2.2.2.2.2.2.2.2.1,t.2.2.2.2.2.2.1,lo,0,ebA)]),())):=by
  unfold Qx0
  have h1:=h.now
  have h3:=h.bn
  have h4:=h.big
  rw [Zhm _ (by have:=h.pt;show t.2.2.2.2.2.2.1.length≤_;omega)]
  dsimp only [Option.bind_some]
  rw [cbp (by omega),Qor (by show _≤t.2.2.1 - t.2.2.2.2.2.2.2.2.1;omega) (by show t.2.2.1 - t.2.2.2.2.2.2.2.2.1≤_;omega)]
 unfold Qkg
 rw [J]
 rcases h2 with rfl | rfl
 ·rw [Z65 rfl]
 ·rw [Z3n (by decide),Z65 rfl]
theorem Zu0 (t:Tie) (l:List Qka) (s:Int):Qx1 (t,l) s=some ((),((Zus t s,l),())):=rfl
theorem Zru {N:Int} {t:Tie} (h:TOk N t):Za0 t=some ((Qu3 t,()),()):=Z2z h
theorem Zzd {N:Int} {t:Tie} (h:TOk N t) (l:List Qka) (m:Qka):Qy6 (t,l) m=some ((),(((t.1,t.2.1,t.2.2.1,t.2.2.2.1,t.2.2.2.2.1,t.2.2.2.2.2.1,t.2.2.2.2.2.2.1,t.2.2.2.2.2.2.2.1,t.2.2.2.2.2.2.2.2.1,t.2.2.2.2.2.2.2.2.2.1,t.2.2.2.2.2.2.2.2.2.2.1,t.2.2.2.2.2.2.2.2.2.2.2.1,Z9d t.2.2.2.2.2.2.2.2.2.2.2.2 (m.fr,m.inc,t.2.2.1)),l),())):=by
 unfold Qy6
 obtain ⟨b,hb⟩:=X0h h.kids (m.fr,m.inc,t.2.2.1)
 show Option.bind (Zd9 t.2.2.2.2.2.2.2.2.2.2.2.2 (m.fr,m.inc,t.2.2.1)) _=_
 rw [hb];rfl
theorem Zzu (t:Tie) (l:List Qka) (m:Qka) (p:List Int) (h:m.pa.length≤1000000):Z3l (t,l) m p=some ((),(((t.1,t.2.1,t.2.2.1,t.2.2.2.1,t.2.2.2.2.1,Zg3 m.pa,p,t.2.2.2.2.2.2.2),l),())):=by
 unfold Z3l
 show Option.bind (Zad m.pa) _=_
 rw [Zxh _ h]
 dsimp only [Option.bind_some]
 rw [ceq]
 unfold Zg3
 by_cases h2:m.pa.length<2
 ·rw [if_pos h2,if_pos h2];rfl
 ·rw [if_neg h2,if_neg h2]
  by_cases h3:List.getD m.pa (m.pa.length - 2) 0=0
  ·rw [if_pos h3,if_pos h3]
  ·rw [if_neg h3,if_neg h3]
theorem Zy9 {N:Int} {t:Tie} (h:TOk N t) (hN:N+1≤562949953421312) {m:Qka} (hm:MSm m):Qwb (t,[]) m=some ((),(Qyq t m,())):=by
 obtain ⟨id,inc,now,par,pc,gd,pt,ep,bn,asked,til,sp,kids⟩:=t
 obtain ⟨kd,fr,to,mi,me,ag,pa,lo,hi,tx⟩:=m
 have h1:=h.now
 have h2:=h.sp
 have h4:=h.asked
 have b:=hm.ag
 have c:=hm.fr
 have d:=hm.pa
 dsimp only [Qka.kd,Qka.fr,Qka.to,Qka.inc,Qka.ep,Qka.ag,Qka.pa,Qka.lo,Qka.hi,Qka.tx] at h1 h2 h4 b c d
 have J1:Qvs ((id,inc,now,par,pc,gd,pt,ep,bn,asked,til,sp,kids),[]) (kd,fr,to,mi,me,ag,pa,lo,hi,tx)=some ((),(((id,inc,now,par,pc,gd,pt,ep,bn,0,til,sp+1,kids),[(6,id,fr,inc,0,0,[],0,0,ebA)]),())):=by
  unfold Qvs
  dsimp only [g3,g4,g5,g6,g7,g8,g9,g10,g11,h3,h4,h5,h6,h9,h12,u0,u1,u2,u3,u4,u5,u6,u7,u8,u9,u10,u11,e1,e2,e3,e5,e9,e12]
  rw [Zh2 _ _ _ _ _ (by decide) (by decide) (by simp)]
  dsimp only [Option.bind_some]
  rw [Qor (by omega) (by omega)];rfl
 have w:=Zzu (id,inc,now,par,pc,gd,pt,ep,bn,0,til,sp,kids) [] (kd,fr,to,mi,me,ag,pa,lo,hi,tx) (Qn0 pa id).1 (by dsimp only [Qka.kd,Qka.fr,Qka.to,Qka.inc,Qka.ep,Qka.ag,Qka.pa,Qka.lo,Qka.hi,Qka.tx];omega)
 dsimp only [Qka.kd,Qka.fr,Qka.to,Qka.inc,Qka.ep,Qka.ag,Qka.pa,Qka.lo,Qka.hi,Qka.tx] at w
 unfold Qwb
 rw [J1,Qyq]
 dsimp only [g3,g4,g5,g6,g7,g8,g9,g10,g11,h3,h4,h5,h6,h9,h12,u0,u1,u2,u3,u4,u5,u6,u7,u8,u9,u10,u11,e1,e2,e3,e5,e9,e12]
 rw [Zh2 _ _ _ _ _ (by decide) (by decide) (by simp),Zy3 _ _ (by omega)]
 dsimp only [Option.bind_some]
 rw [w]
 dsimp only [Option.bind_some]
 rw [Qor (x:=now - ag) (by omega) (by omega),Z8q,Z8q,Z8q]
 by_cases a2:asked=fr
 ·rw [if_pos a2]
  by_cases a3:par=0
  ·rw [if_pos a3,if_neg (show ¬ (par≠0∧fr=par) from fun e=>e.1 a3),if_neg (show ¬ (asked=0∨asked≠fr∨par≠0) by omega)]
   by_cases a4:(Qn0 pa id).2=true
   ·rw [a4,nt,cond_false,cp]
    by_cases a5:20<ag
    ·rw [if_pos (show ag>20 from a5),if_pos (.inr a5)]
    ·rw [if_neg (show ¬ ag>20 from a5),if_neg (show ¬ (true=false∨20<ag) by simp [a5])]
   ·have a:(Qn0 pa id).2=false:=by cases hc:(Qn0 pa id).2<;>simp [hc] at a4 ⊢
    rw [a,nf,cond_true,if_pos (.inl rfl)]
  ·rw [if_neg a3]
   by_cases a1:par=fr
   ·rw [if_pos a1,if_pos (show par≠0∧fr=par from ⟨a3,a1.symm⟩)]
   ·rw [if_neg a1,if_neg (show ¬ (par≠0∧fr=par) from fun e=>a1 e.2.symm),if_pos (show asked=0∨asked≠fr∨par≠0 from .inr (.inr a3))];rfl
 ·rw [if_neg a2]
  by_cases a1:par=fr
  ·rw [if_pos a1,if_pos (show par≠0∧fr=par by omega)]
  ·rw [if_neg a1,if_neg (show ¬ (par≠0∧fr=par) from fun e=>a1 e.2.symm),if_pos (show asked=0∨asked≠fr∨par≠0 from .inr (.inl a2))];rfl
theorem Zvx {N:Int} {t:Tie} (h:TOk N t) (hN:N+1≤562949953421312) {m:Qka} (hm:MSm m) (d:Int):Qsf m (((t,[]),()),()) d=some (((Z5o t m d).1,(Z5o t m d).2,()),()):=by
 have l:=Zy9 h hN hm
 have o:=Zru h
 have hl:=h.kids.len
 have g:=Zzd h [] m
 obtain ⟨id,inc,now,par,pc,gd,pt,ep,bn,asked,til,sp,kids⟩:=t
 obtain ⟨kd,fr,to,mi,me,ag,pa,lo,hi,tx⟩:=m
 have h1:=h.now
 have h2:=h.sp
 have h3:=h.pt
 have h4:=h.asked
 have h5:=h.one
 have h0:=h.par
 have p:=hm.ag
 have r:=hm.fr
 have u:=hm.pa
 have s:=hm.inc
 dsimp only [Qka.kd,Qka.fr,Qka.to,Qka.inc,Qka.ep,Qka.ag,Qka.pa,Qka.lo,Qka.hi,Qka.tx] at h0 h1 h2 h3 h4 h5 p r u s hl g
 have hk:=h.kids
 dsimp only at hk
 have f:∀ q,KOk q→Qkg ((id,inc,now,par,pc,gd,pt,ep,bn,asked,til,sp,q),[]) 2 fr d=some ((),(((id,inc,now,par,pc,gd,pt,ep,bn,asked,til,sp,q),[(2,id,fr,inc,ep,now - bn,pt,d,0,ebA)]),())):=fun q hq=>Zxx (N:=N) (t:=(id,inc,now,par,pc,gd,pt,ep,bn,asked,til,sp,q)) ⟨h.id,h.inc,h.now,h.par,h.pc,h.gd,h.pt,h.ep,h.bn,h.asked,h.til,h.sp,hq,h.big,h.one⟩ [] 2 fr d (.inl rfl) (by simp)
 have tn:∀ (k:Int) (t:Tie),k≠2→k≠5→Qkg (t,[]) k fr 0=some ((),((t,[(k,t.1,fr,t.2.1,0,0,[],0,0,ebA)]),())):=fun k t a b=>Zh2 t [] k fr 0 a b (by simp)
 have n:Qwh ((id,inc,now,par,pc,gd,pt,ep,bn,asked,til,sp,kids),[]) (kd,fr,to,mi,me,ag,pa,lo,hi,tx) d=if Qu3 (id,inc,now,par,pc,gd,pt,ep,bn,asked,til,sp,kids)=false∨fr∈pt∨(Qwx kids fr=none∧Zr9 id≤(kids.length:Int)) then some ((),(((id,inc,now,par,pc,gd,pt,ep,bn,asked,til,sp,kids),[(3,id,fr,inc,0,0,[],0,0,ebA)]),()))
   else some ((),(((id,inc,now,par,pc,gd,pt,ep,bn,asked,til,sp,Z9d kids (fr,mi,now)),[(2,id,fr,inc,ep,now - bn,pt,d,0,ebA)]),())):=by
  have i:Z57 ((id,inc,now,par,pc,gd,pt,ep,bn,asked,til,sp,kids),[]) fr=some ((decide (¬ (Qu3 (id,inc,now,par,pc,gd,pt,ep,bn,asked,til,sp,kids)=false∨fr∈pt∨(Qwx kids fr=none∧Zr9 id≤(kids.length:Int)))),()),(((id,inc,now,par,pc,gd,pt,ep,bn,asked,til,sp,kids),[]),())):=by
   unfold Z57
   dsimp only [g3,g4,g5,g6,g7,g8,g9,g10,g11,h3,h4,h5,h6,h9,h12,u0,u1,u2,u3,u4,u5,u6,u7,u8,u9,u10,u11,e1,e2,e3,e5,e9,e12]
   rw [Zqv hk,o,X08 _ _ (by omega)]
   dsimp only [Option.bind_some]
   have e:∀ q:Int,(bif Qu3 (id,inc,now,par,pc,gd,pt,ep,bn,asked,til,sp,kids) then bif !decide (fr∈pt) then bif (match Qwx kids fr with | some x=>(x,true,()) | none=>((0,0,0),false,())).2.1 then some ((true,()),(((id,inc,now,par,pc,gd,pt,ep,bn,asked,til,sp,kids),([]:List Qka)),())) else some ((decide ((kids.length:Int)<q),()),(((id,inc,now,par,pc,gd,pt,ep,bn,asked,til,sp,kids),[]),()))
     else some ((false,()),(((id,inc,now,par,pc,gd,pt,ep,bn,asked,til,sp,kids),[]),())) else some ((false,()),(((id,inc,now,par,pc,gd,pt,ep,bn,asked,til,sp,kids),[]),())))=some ((decide (¬ (Qu3 (id,inc,now,par,pc,gd,pt,ep,bn,asked,til,sp,kids)=false∨fr∈pt∨(Qwx kids fr=none∧q≤(kids.length:Int)))),()),(((id,inc,now,par,pc,gd,pt,ep,bn,asked,til,sp,kids),[]),())):=by
    intro q
    cases Qu3 (id,inc,now,par,pc,gd,pt,ep,bn,asked,til,sp,kids) with
    | false=>simp
    | true=>
     rw [cond_true,X0g,cp]
     by_cases a1:fr∈pt
     ·rw [if_pos a1];simp [a1]
     ·rw [if_neg a1]
      cases hf:Qwx kids fr with
      | some x=>simp [a1]
      | none=>
       dsimp only
       rw [cond_false]
       congr 3
       exact decide_eq_decide.2 (by simp [a1])
   by_cases a0:id=1
   ·rw [Z65 a0,show Zr9 id=8 from if_pos a0];exact e 8
   ·rw [Z3n a0,show Zr9 id=3 from if_neg a0];exact e 3
  unfold Qwh
  dsimp only [g3,g4,g5,g6,g7,g8,g9,g10,g11,h3,h4,h5,h6,h9,h12,u0,u1,u2,u3,u4,u5,u6,u7,u8,u9,u10,u11,e1,e2,e3,e5,e9,e12]
  rw [i]
  dsimp only [Option.bind_some]
  rw [tn 3 _ (by decide) (by decide),g]
  dsimp only [Option.bind_some]
  rw [f _ (hk.hear (by dsimp only;omega))]
  dsimp only [Option.bind_some]
  by_cases c:Qu3 (id,inc,now,par,pc,gd,pt,ep,bn,asked,til,sp,kids)=false∨fr∈pt∨(Qwx kids fr=none∧Zr9 id≤(kids.length:Int))
  ·rw [if_pos c,decide_eq_false (fun e=>e c)];rfl
  ·rw [if_neg c,decide_eq_true c];rfl
 have bu:Qw9 ((id,inc,now,par,pc,gd,pt,ep,bn,asked,til,sp,kids),[]) (kd,fr,to,mi,me,ag,pa,lo,hi,tx)=if Qwx kids fr=none then some ((),(((id,inc,now,par,pc,gd,pt,ep,bn,asked,til,sp,kids),[(3,id,fr,inc,0,0,[],0,0,ebA)]),())) else some ((),(((id,inc,now,par,pc,gd,pt,ep,bn,asked,til,sp,Z9d kids (fr,mi,now)),[]),())):=by
  unfold Qw9
  dsimp only [g3,g4,g5,g6,g7,g8,g9,g10,g11,h3,h4,h5,h6,h9,h12,u0,u1,u2,u3,u4,u5,u6,u7,u8,u9,u10,u11,e1,e2,e3,e5,e9,e12]
  rw [Zqv hk,g,tn 3 _ (by decide) (by decide)]
  dsimp only [Option.bind_some]
  cases hf:Qwx kids fr with
  | none=>rfl
  | some x=>rw [if_neg (by simp)];rfl
 have w:=Zzu (id,inc,now,par,pc,gd,pt,ep,bn,asked,til,sp,kids) [] (kd,fr,to,mi,me,ag,pa,lo,hi,tx) (Qn0 pa id).1 (by dsimp only [Qka.kd,Qka.fr,Qka.to,Qka.inc,Qka.ep,Qka.ag,Qka.pa,Qka.lo,Qka.hi,Qka.tx];omega)
 dsimp only [Qka.kd,Qka.fr,Qka.to,Qka.inc,Qka.ep,Qka.ag,Qka.pa,Qka.lo,Qka.hi,Qka.tx] at w
 unfold Qsf
 rw [Z5o]
 dsimp only [g3,g4,g5,g6,g7,g8,g9,g10,g11,h3,h4,h5,h6,h9,h12,u0,u1,u2,u3,u4,u5,u6,u7,u8,u9,u10,u11,e1,e2,e3,e5,e9,e12]
 rw [n,l,bu]
 unfold Z0s Z07
 dsimp only [g3,g4,g5,g6,g7,g8,g9,g10,g11,h3,h4,h5,h6,h9,h12,u0,u1,u2,u3,u4,u5,u6,u7,u8,u9,u10,u11,e1,e2,e3,e5,e9,e12]
 simp only [Zu0,Option.bind_some]
 rw [tn 6 _ (by decide) (by decide),Zy3 _ _ (by omega)]
 simp only [Option.bind_some,Zu0]
 rw [w,X07 hk]
 simp only [Option.bind_some]
 rw [Qor (x:=sp+1) (by omega) (by omega),Qor (x:=now - ag) (by omega) (by omega)]
 by_cases k1:kd=1
 ·rw [Z65 k1,if_pos k1];split<;>rfl
 rw [Z3n k1,if_neg k1]
 by_cases k2:kd=2
 ·rw [Z65 k2,if_pos k2]
 rw [Z3n k2,if_neg k2]
 by_cases k3:kd=3
 ·rw [Z65 k3,if_pos k3,ceq]
  by_cases a1:fr=asked
  ·have hp:par=0:=by
    by_cases hp:par=0
    ·exact hp
    ·have:=h5 hp;omega
   rw [if_pos a1,if_neg (show ¬ (par≠0∧fr=par) from fun e=>e.1 hp),if_pos (show asked≠0∧asked=fr by omega)];rfl
  ·rw [if_neg a1,ceq]
   by_cases a2:fr=par
   ·rw [if_pos a2,if_pos (show par≠0∧fr=par by omega)];rfl
   ·rw [if_neg a2,if_neg (show ¬ (par≠0∧fr=par) from fun e=>a2 e.2),if_neg (show ¬ (asked≠0∧asked=fr) from fun e=>a1 e.2.symm)];rfl
 rw [Z3n k3,if_neg k3]
 by_cases k4:kd=4
 ·rw [Z65 k4,if_pos k4];split<;>rfl
 rw [Z3n k4,if_neg k4]
 by_cases k5:kd=5
 ·rw [Z65 k5,if_pos k5,Z8q]
  by_cases a1:fr=par
  ·rw [if_pos a1,if_neg (show ¬ ¬ (par≠0∧fr=par) by omega)]
   by_cases a4:(Qn0 pa id).2=true
   ·rw [a4,nt,cond_false,if_neg (show ¬ true=false by decide),cp]
    by_cases a5:bn<now - ag
    ·rw [if_pos (show now - ag>bn from a5),if_pos a5];rfl
    ·rw [if_neg (show ¬ now - ag>bn from a5),if_neg a5];rfl
   ·have j:(Qn0 pa id).2=false:=by cases hc:(Qn0 pa id).2<;>simp [hc] at a4 ⊢
    rw [j,nf,cond_true,if_pos rfl];rfl
  ·rw [if_neg a1,if_pos (show ¬ (par≠0∧fr=par) from fun e=>a1 e.2)];rfl
 rw [Z3n k5,if_neg k5,ceq]
 split<;>rfl
theorem Zya {N:Int} {t:Tie} (h:TOk N t) (hN:N+1≤562949953421312) {m:Qka} (hm:MSm m) (a:Int):Zif t m a=some (((Qt3 t m a).1,(Qt3 t m a).2,()),()):=by
 have c1:=Zvx h hN hm a
 have c2:=Zvx (Zmq h (s:=0) (by have:=h.now;omega)) hN hm a
 have ho:=ofT h
 have hk:=h.kids
 have b:=h.par
 have c:=hm.fr
 obtain ⟨id,inc,now,par,pc,gd,pt,ep,bn,asked,til,sp,kids⟩:=t
 obtain ⟨kd,fr,to,mi,me,ag,pa,lo,hi,tx⟩:=m
 dsimp only [Qka.kd,Qka.fr,Qka.to,Qka.inc,Qka.ep,Qka.ag,Qka.pa,Qka.lo,Qka.hi,Qka.tx] at hk b c
 unfold Zif
 rw [ho,Qt3]
 dsimp only [Option.bind_some]
 dsimp only [g3,g4,g5,g6,g7,g8,g9,g10,g11,h3,h4,h5,h6,h9,h12,u0,u1,u2,u3,u4,u5,u6,u7,u8,u9,u10,u11,e1,e2,e3,e5,e9,e12]
 rw [Zzv hk]
 dsimp only [Option.bind_some]
 cases ho:Zyl kids fr mi with
 | true=>rw [cond_true,if_pos (.inl rfl)]
 | false=>
  rw [cond_false]
  have J2:Zdj ((((id,inc,now,par,pc,gd,pt,ep,bn,asked,til,sp,kids),[]),()),()) (kd,fr,to,mi,me,ag,pa,lo,hi,tx) a=bif par != 0 then bif fr==par then bif decide (mi>pc) then Qsf (kd,fr,to,mi,me,ag,pa,lo,hi,tx) (((Zus (id,inc,now,par,pc,gd,pt,ep,bn,asked,til,sp,kids) 0,[]),()),()) a else Qsf (kd,fr,to,mi,me,ag,pa,lo,hi,tx) ((((id,inc,now,par,pc,gd,pt,ep,bn,asked,til,sp,kids),[]),()),()) a else Qsf (kd,fr,to,mi,me,ag,pa,lo,hi,tx) ((((id,inc,now,par,pc,gd,pt,ep,bn,asked,til,sp,kids),[]),()),()) a else Qsf (kd,fr,to,mi,me,ag,pa,lo,hi,tx) ((((id,inc,now,par,pc,gd,pt,ep,bn,asked,til,sp,kids),[]),()),()) a:=rfl
  rw [J2,c1,c2]
  by_cases a1:fr=par
  ·rw [Z65 a1,Z65 a1,Ztu (by omega)]
   by_cases a2:mi<pc
   ·rw [cdp a2,if_pos (.inr ⟨a1,a2⟩)]
   ·rw [cdn a2,if_neg (by simp [a2])]
    by_cases a3:pc<mi
    ·rw [cdp a3,if_pos ⟨a1,a3⟩]
    ·rw [cdn a3,if_neg (by simp [a3])]
  ·rw [Z3n a1,Z3n a1,if_neg (by simp [a1]),if_neg (by simp [a1])]
   cases (par != 0)<;>rfl
theorem Zjw (n:Nat) {N:Int} (id inc now par pc gd:Int) (pt:List Int) (ep bn asked til sp:Int) (kids:List Kid) (h:TOk N (id,inc,now,par,pc,gd,pt,ep,bn,asked,til,sp,kids)) (hl:kids.length≤8):∀ (k m i:Nat) (a:List Qka),i+k=kids.length→k<m→a.length≤1000+i →
  Qr4 n m kids (kids.length:Int) (i:Int) id inc now par pc gd pt ep bn asked til sp kids a=some ((),(((id,inc,now,par,pc,gd,pt,ep,bn,asked,til,sp,kids),a++(if Qu3 (id,inc,now,par,pc,gd,pt,ep,bn,asked,til,sp,kids)=true then (kids.drop i).map fun k=>Zuk (id,inc,now,par,pc,gd,pt,ep,bn,asked,til,sp,kids) 5 k.1 else [])),()))
 | k,0,i,a,_,hm,_=>by omega
 | 0,m+1,i,a,hk,hm,ha=>by
  show Qr2 (Qr4 n m) kids (kids.length:Int) (i:Int) id inc now par pc gd pt ep bn asked til sp kids a=_
  unfold Qr2
  rw [cdn (by omega),List.drop_eq_nil_of_le (by omega)];simp
 | k+1,m+1,i,a,hk,hm,ha=>by
  show Qr2 (Qr4 n m) kids (kids.length:Int) (i:Int) id inc now par pc gd pt ep bn asked til sp kids a=_
  have hi:i<kids.length:=by omega
  unfold Qr2
  rw [cdp (by omega),ct (idx (by omega)),Zru h]
  dsimp only [Option.bind_some]
  cases hf:Qu3 (id,inc,now,par,pc,gd,pt,ep,bn,asked,til,sp,kids) with
  | false=>
   rw [cond_false,Qoq (by omega),Zjw n id inc now par pc gd pt ep bn asked til sp kids h hl k m (i+1) a (by omega) (by omega) (by omega),hf];rfl
  | true=>
   rw [cond_true,Qkb,Qkq hi,Zxx h a 5 _ 0 (.inr rfl) (by omega)]
   dsimp only [Option.bind_some]
   dsimp only [g3,g4,g5,g6,g7,g8,g9,g10,g11,h3,h4,h5,h6,h9,h12,u0,u1,u2,u3,u4,u5,u6,u7,u8,u9,u10,u11,e1,e2,e3,e5,e9,e12]
   rw [Qoq (by omega),Zjw n id inc now par pc gd pt ep bn asked til sp kids h hl k m (i+1) _ (by omega) (by omega) (by rw [List.length_append,List.length_singleton];omega),hf,if_pos rfl,if_pos rfl,List.drop_eq_getElem_cons hi,List.map_cons,List.append_assoc];rfl
theorem Zz9 {N:Int} {t:Tie} (h:TOk N t) (ms:List Qka) (hs:ms.length≤100):Qvd (t,ms)=some ((),((t,ms++Zju t),())):=by
 have key:∀ n m,100<m→Qyd (Qr4 n m) (t,ms)=some ((),((t,ms++Zju t),())):=by
  intro n m hm
  obtain ⟨id,inc,now,par,pc,gd,pt,ep,bn,asked,til,sp,kids⟩:=t
  have h1:=h.now
  have hl:=h.kids.len
  dsimp only at h1 hl
  have lp:=fun c ha=>Zjw n id inc now par pc gd pt ep bn asked til sp kids h hl kids.length m 0 c (by omega) (by omega) ha
  unfold Qyd Zju
  dsimp only [g3,g4,g5,g6,g7,g8,g9,g10,g11,h3,h4,h5,h6,h9,h12,u0,u1,u2,u3,u4,u5,u6,u7,u8,u9,u10,u11,e1,e2,e3,e5,e9,e12]
  rw [Int.tmod_eq_emod_of_nonneg h1.1]
  by_cases a:now % 2=0
  ·rw [if_pos a,Zqu a]
   by_cases b:par=0
   ·rw [Zqu b,if_neg (by simp [b])]
    exact lp ms (by omega)
   ·rw [Ztu b,if_pos b,Zh2 _ _ _ _ _ (by decide) (by decide) (by omega)]
    dsimp only [Option.bind_some]
    rw [← List.append_assoc]
    exact lp (ms++[Zwg (id,inc,now,par,pc,gd,pt,ep,bn,asked,til,sp,kids) 4 par]) (by rw [List.length_append,List.length_singleton];omega)
  ·rw [if_neg a,Ztu a,List.append_nil]
 exact key 1099511627776 1099511627776 (by decide)
theorem X0k {N:Int} {t:Tie} (h:TOk N t):Quf (t,[])=some ((),((if t.1=1 then (t,[]) else Zs1 t),())):=by
 obtain ⟨id,inc,now,par,pc,gd,pt,ep,bn,asked,til,sp,kids⟩:=t
 have h1:=h.now
 have h2:=h.sp
 have hb:=h.big
 dsimp only at h1 h2
 have f:¬ sp+1=0:=by omega
 have tn:∀ (k to:Int) (t:Tie),k≠2→k≠5→Qkg (t,[]) k to 0=some ((),((t,[(k,t.1,to,t.2.1,0,0,[],0,0,ebA)]),())):=fun k to t a b=>Zh2 t [] k to 0 a b (by simp)
 have w2:wJ (now+3)=now+3:=Qor (by omega) (by omega)
 have w3:wJ (sp+1)=sp+1:=Qor (by omega) (by omega)
 unfold Quf Z3p Qyc Qya
 dsimp only [g3,g4,g5,g6,g7,g8,g9,g10,g11,h3,h4,h5,h6,h9,h12,u0,u1,u2,u3,u4,u5,u6,u7,u8,u9,u10,u11,e1,e2,e3,e5,e9,e12]
 rw [w2,w3,ceq,Z8q,Z8q,cp,Z3n f,ceq,Z8q,Z8q,tn 1 1 _ (by decide) (by decide),tn 1 1 _ (by decide) (by decide),tn 1 gd _ (by decide) (by decide)]
 dsimp only [Option.bind_some]
 by_cases c1:id=1
 ·rw [if_pos c1,if_pos c1]
 rw [if_neg c1,if_neg c1,Zs1]
 by_cases p:par=0
 ·rw [if_pos p,if_neg (show ¬ par≠0 from fun e=>e p)]
  by_cases a:asked=0
  ·rw [if_pos a,if_pos a,if_neg (show ¬ (asked≠0∧¬ til≤now) from fun e=>e.1 a)]
   dsimp only
   rw [if_pos a]
   by_cases b:sp=0
   ·rw [if_pos b]
    by_cases c:gd=0
    ·rw [if_pos c,if_neg (show ¬ (sp=0∧gd≠0∧gd≠id) from fun e=>e.2.1 c)]
    ·rw [if_neg c,Z8q]
     by_cases d:gd=id
     ·rw [if_pos d,if_neg (show ¬ (sp=0∧gd≠0∧gd≠id) from fun e=>e.2.2 d)]
     ·rw [if_neg d,if_pos (show sp=0∧gd≠0∧gd≠id from ⟨b,c,d⟩)]
   ·rw [if_neg b,if_neg (show ¬ (sp=0∧gd≠0∧gd≠id) from fun e=>b e.1)]
  ·rw [if_neg a]
   by_cases b:til≤now
   ·rw [if_pos (show now ≥ til from b),if_neg (show ¬ (asked≠0∧¬ til≤now) from fun e=>e.2 b)]
    dsimp only
    rw [if_neg a,if_neg (show ¬ (sp+1=0∧gd≠0∧gd≠id) from fun e=>f e.1)]
   ·rw [if_neg (show ¬ now ≥ til from b),if_neg a,if_pos (show asked≠0∧¬ til≤now from ⟨a,b⟩)]
 ·rw [if_neg p,if_pos p]
theorem Zyp {N:Int} {t:Tie} (h:TOk N t) (hN:N+1≤562949953421312):Zmh t=some (((Qxr t).1,(Qxr t).2,()),()):=by
 have ho:=ofT h
 have hp:=fun v hv=>Zzg h.kids v hv
 have h0:=Zrb h hN
 have a:=Zmf h hN
 have c:=Zrc t
 have fin:∀ t':Tie,TOk (N+1) t'→t'=Zcj t→t'.1=t.1→(Option.bind (Quf (t',[])) fun r=>Option.bind (Qvd r.2.1) fun r4=>some ((r4.2.1.1,r4.2.1.2,()),()))=some (((Qxr t).1,(Qxr t).2,()),()):=by
  intro t' b e e1
  rw [X0k b,e1]
  dsimp only [Option.bind_some]
  have e2:(if t.1=1 then (t',[]) else Zs1 t')=Qzq t:=by rw [e];rfl
  rw [e2,show Qzq t=((Qzq t).1,(Qzq t).2) from rfl,Zz9 a _ (by omega)]
  rfl
 obtain ⟨id,inc,now,par,pc,gd,pt,ep,bn,asked,til,sp,kids⟩:=t
 have h1:=h.now
 have h2:=h.sp
 have h3:=h.ep
 have h4:=h.bn
 have hb:=h.big
 dsimp only at h1 h2 h3 h4 hp
 have w1:wJ (now+1)=now+1:=Qor (by omega) (by omega)
 have w4:wJ (ep+1)=ep+1:=Qor (by omega) (by omega)
 rw [Zcj] at h0 fin
 dsimp only at fin
 unfold Zmh
 rw [ho]
 dsimp only [Option.bind_some]
 unfold Zgy Zbh
 dsimp only [g3,g4,g5,g6,g7,g8,g9,g10,g11,h3,h4,h5,h6,h9,h12,u0,u1,u2,u3,u4,u5,u6,u7,u8,u9,u10,u11,e1,e2,e3,e5,e9,e12]
 rw [w1,hp (now+1) (by omega)]
 dsimp only [Option.bind_some]
 rw [w4,Int.tmod_eq_emod_of_nonneg (by omega),ceq,ceq,Z8q,Z8q]
 by_cases c1:id=1
 ·rw [if_pos c1,if_pos c1]
  rw [if_pos c1] at h0 fin
  by_cases c2:(now+1) % 2=0
  ·rw [if_pos c2]
   rw [if_pos c2] at h0 fin
   exact fin _ h0 rfl rfl
  ·rw [if_neg c2]
   rw [if_neg c2] at h0 fin
   exact fin _ h0 rfl rfl
 ·rw [if_neg c1,if_neg c1]
  rw [if_neg c1] at h0 fin
  by_cases p:par=0
  ·rw [if_pos p]
   rw [if_neg (show ¬ (par≠0∧¬ now+1 - bn≤20) from fun e=>e.1 p)] at h0 fin
   exact fin _ h0 rfl rfl
  ·rw [if_neg p]
   have fr:=Zru (N:=N+1) (t:=(id,inc,now+1,par,pc,gd,pt,ep,bn,asked,til,sp,Z02 kids (now+1))) ⟨h.id,h.inc,by dsimp only;omega,h.par,h.pc,h.gd,h.pt,by dsimp only;omega,by dsimp only;omega,h.asked,by have:=h.til;dsimp only at *;omega,by dsimp only;omega,h.kids.filter _,hN,h.one⟩
   rw [fr]
   dsimp only [Option.bind_some]
   have ef:Qu3 (id,inc,now+1,par,pc,gd,pt,ep,bn,asked,til,sp,Z02 kids (now+1))=decide (now+1 - bn≤20):=by
    rw [Qu3];exact decide_eq_decide.2 ⟨fun e=>e.elim (fun e=>absurd e c1) (·.2),fun e=>.inr ⟨p,e⟩⟩
   rw [ef]
   by_cases c4:now+1 - bn≤20
   ·rw [decide_eq_true c4,nt,cond_false]
    rw [if_neg (show ¬ (par≠0∧¬ now+1 - bn≤20) from fun e=>e.2 c4)] at h0 fin
    exact fin _ h0 rfl rfl
   ·rw [decide_eq_false c4,nf,cond_true,Zu0,Zus]
    rw [if_pos (show par≠0∧¬ now+1 - bn≤20 from ⟨p,c4⟩)] at h0 fin
    exact fin _ h0 rfl rfl
theorem Zq5 (n:Nat) (id inc now par pc gd:Int) (pt:List Int) (ep bn asked til sp:Int) (kids:List Kid) (hl:kids.length≤8):∀ (k m i:Nat) (a:List Qka),i+k=kids.length→k<m→a.length≤1000+i →
  Qz0 n m kids (kids.length:Int) (i:Int) id inc now par pc gd pt ep bn asked til sp kids a=some ((a++((kids.drop i).map fun k=>Zwg (id,inc,now,par,pc,gd,pt,ep,bn,asked,til,sp,kids) 3 k.1),()),())
 | k,0,i,a,_,hm,_=>by omega
 | 0,m+1,i,a,hk,hm,ha=>by
  show Qyz (Qz0 n m) kids (kids.length:Int) (i:Int) id inc now par pc gd pt ep bn asked til sp kids a=_
  unfold Qyz
  rw [cdn (by omega),List.drop_eq_nil_of_le (by omega)];simp
 | k+1,m+1,i,a,hk,hm,ha=>by
  show Qyz (Qz0 n m) kids (kids.length:Int) (i:Int) id inc now par pc gd pt ep bn asked til sp kids a=_
  have hi:i<kids.length:=by omega
  unfold Qyz
  rw [cdp (by omega),ct (idx (by omega)),Qkb,Qkq hi,Zh2 _ a 3 _ 0 (by decide) (by decide) (by omega)]
  dsimp only [Option.bind_some]
  dsimp only [g3,g4,g5,g6,g7,g8,g9,g10,g11,h3,h4,h5,h6,h9,h12,u0,u1,u2,u3,u4,u5,u6,u7,u8,u9,u10,u11,e1,e2,e3,e5,e9,e12]
  rw [Qoq (by omega),Zq5 n id inc now par pc gd pt ep bn asked til sp kids hl k m (i+1) _ (by omega) (by omega) (by rw [List.length_append,List.length_singleton];omega),List.drop_eq_getElem_cons hi,List.map_cons,List.append_assoc];rfl
theorem Zy2 {N:Int} {t:Tie} (h:TOk N t):Zne t=some ((Zgh t,()),()):=by
 have ho:=ofT h
 have key:∀ n m,100<m→Zbs (Qz0 n m) t=some ((Zgh t,()),()):=by
  intro n m hm
  obtain ⟨id,inc,now,par,pc,gd,pt,ep,bn,asked,til,sp,kids⟩:=t
  have hl:=h.kids.len
  dsimp only at hl
  have lp:=fun a ha=>Zq5 n id inc now par pc gd pt ep bn asked til sp kids hl kids.length m 0 a (by omega) (by omega) ha
  unfold Zbs Zgh
  rw [ho]
  dsimp only [Option.bind_some]
  dsimp only [g3,g4,g5,g6,g7,g8,g9,g10,g11,h3,h4,h5,h6,h9,h12,u0,u1,u2,u3,u4,u5,u6,u7,u8,u9,u10,u11,e1,e2,e3,e5,e9,e12]
  rw [Z8q]
  by_cases b:par=0
  ·rw [if_pos b,if_neg (by simp [b])]
   exact lp [] (by simp)
  ·rw [if_neg b,if_pos b,Zh2 _ _ _ _ _ (by decide) (by decide) (by simp)]
   dsimp only [Option.bind_some]
   exact lp [Zwg (id,inc,now,par,pc,gd,pt,ep,bn,asked,til,sp,kids) 6 par] (by simp)
 exact key 1099511627776 1099511627776 (by decide)
theorem Zg5 (n:Nat) (id inc now par pc gd:Int) (pt:List Int) (ep bn asked til sp:Int) (kids:List Kid) (hl:kids.length≤8):∀ (k m i:Nat) (a:List Qka),i+k=kids.length→k<m→a.length≤1000+i →
  Qoa n m (i:Int) id inc now par pc gd pt ep bn asked til sp kids a=some ((a++((kids.drop i).map fun k=>Zwg (id,inc,now,par,pc,gd,pt,ep,bn,asked,til,sp,kids) 3 k.1),()),())
 | k,0,i,a,_,hm,_=>by omega
 | 0,m+1,i,a,hk,hm,ha=>by
  show Qoi (Qoa n m) (i:Int) id inc now par pc gd pt ep bn asked til sp kids a=_
  unfold Qoi
  rw [cdn (by omega),List.drop_eq_nil_of_le (by omega)];simp
 | k+1,m+1,i,a,hk,hm,ha=>by
  show Qoi (Qoa n m) (i:Int) id inc now par pc gd pt ep bn asked til sp kids a=_
  have hi:i<kids.length:=by omega
  unfold Qoi
  rw [cdp (by omega),ct (idx (by omega)),Qkb,Qkq hi,Z26]
  dsimp only [Option.bind_some]
  rw [cbp (by omega),Qoq (by omega),Zg5 n id inc now par pc gd pt ep bn asked til sp kids hl k m (i+1) _ (by omega) (by omega) (by rw [List.length_append,List.length_singleton];omega),List.drop_eq_getElem_cons hi,List.map_cons,List.append_assoc];rfl
theorem Zri {N:Int} {t:Tie} (h:TOk N t):Z2b t=some ((Zgh t,()),()):=by
 have key:∀ n m,100<m→Qud (Qoa n m) t=some ((Zgh t,()),()):=by
  intro n m hm
  obtain ⟨id,inc,now,par,pc,gd,pt,ep,bn,asked,til,sp,kids⟩:=t
  have hl:=h.kids.len
  dsimp only at hl
  have lp:=fun a ha=>Zg5 n id inc now par pc gd pt ep bn asked til sp kids hl kids.length m 0 a (by omega) (by omega) ha
  unfold Qud Zgh
  dsimp only [g3,g4,g5,g6,g7,g8,g9,g10,g11,h3,h4,h5,h6,h9,h12,u0,u1,u2,u3,u4,u5,u6,u7,u8,u9,u10,u11,e1,e2,e3,e5,e9,e12]
  rw [Z8q]
  by_cases b:par=0
  ·rw [if_pos b,if_neg (by simp [b])]
   exact lp [] (by simp)
  ·rw [if_neg b,if_pos b,Z26]
   dsimp only [Option.bind_some]
   exact lp [Zwg (id,inc,now,par,pc,gd,pt,ep,bn,asked,til,sp,kids) 6 par] (by simp)
 exact key 1099511627776 1099511627776 (by decide)
def X0n (e:Evt):Prop:=e.1=1∨e.1=2
def Ext (f g:Qo3):Prop:=∃ ev:List Evt,g.2.2.2.2.1=f.2.2.2.2.1++ev∧∀ e∈ev,X0n e
theorem Ext.refl (f:Qo3):Ext f f:=⟨[],by simp,fun e h=>by cases h⟩
theorem Ext.of {f g:Qo3} (h:g.2.2.2.2.1=f.2.2.2.2.1):Ext f g:=⟨[],by simp [h],fun e h=>by cases h⟩
theorem Ext.trans {f g h:Qo3}:Ext f g→Ext g h→Ext f h
 | ⟨a,a1,a2⟩,⟨b,b1,b2⟩=>⟨a++b,by rw [b1,a1,List.append_assoc],fun e he=>(List.mem_append.1 he).elim (a2 e) (b2 e)⟩
theorem Zs3 (t:Int):∀ (w:List Qo4) (nx:Int) (r:List Qo4) (l:List Evt) (a b:Int),∃ ev:List Evt,(Z0g t nx r w l a b).2.2.2.2.1=l++ev∧∀ e∈ev,X0n e
 | [],nx,r,l,a,b=>⟨[],by simp [Z0g],fun e h=>by cases h⟩
 | x::q,nx,r,l,a,b=>by
  unfold Z0g
  split
  ·obtain ⟨ev,h1,h2⟩:=Zs3 t q (nx+1) (Zfi r x) (l++[Za2 x]) 0 0
   refine ⟨Za2 x::ev,by rw [h1,List.append_assoc];rfl,fun e he=>?_⟩
   rcases List.mem_cons.1 he with rfl | he
   ·exact .inl rfl
   ·exact h2 e he
  ·exact ⟨[],by simp,fun e h=>by cases h⟩
theorem Zij (f:Qo3):Ext f (Z0d f):=Zs3 _ _ _ _ _ _ _
theorem Zx8 (hi why:Int) (f:Qo3):Ext f (Qqh hi why f):=by
 have key:∀ to:Int,Ext f (if f.1≤to then (to+1,f.2.1,f.2.2.1,f.2.2.2.1,f.2.2.2.2.1++[Zlc f.1 to why],0,0) else (f.1,f.2.1,f.2.2.1,f.2.2.2.1,f.2.2.2.2.1,0,0)):=by
  intro to
  split
  ·exact ⟨[Zlc f.1 to why],rfl,fun e he=>by rcases List.mem_singleton.1 he with rfl;exact .inr rfl⟩
  ·exact Ext.of rfl
 have a:∀ g:Qo3,Ext f g→Ext f (if g.1≤hi then Z0d g else g):=by
  intro g h
  split
  ·exact h.trans (Zij g)
  ·exact h
 exact a _ (key _)
theorem Zq3 (hi why:Int):∀ (n:Nat) (f:Qo3),Ext f (Qwr hi why n f)
 | 0,f=>Ext.refl f
 | n+1,f=>by
  unfold Qwr
  split
  ·exact (Zx8 hi why f).trans (Zq3 hi why n _)
  ·exact Ext.refl f
theorem Zqh (f:Qo3) (hi why:Int):Ext f (Z01 f hi why):=by
 unfold Z01
 split
 ·exact Ext.refl f
 ·exact Zq3 _ _ _ _
theorem Qzc (f:Qo3) (top:Int):Ext f (Ql5 f top):=Ext.of (by rw [(Z8g f top).2])
theorem Zpv (f:Qo3) (n:Int):Ext f (Z9x f n):=by
 unfold Z9x
 split
 ·exact Qzc f _
 ·split
  ·exact Ext.of rfl
  ·exact Ext.refl f
theorem Zq2 (f:Qo3) (i:Qo4):Ext f (Z60 f i):=by
 unfold Z60
 split
 ·exact Ext.refl f
 ·simp only
  have h1:=Qzc f i.1
  exact h1.trans ((Ext.of (g:=((Ql5 f i.1).1,(Ql5 f i.1).2.1,(Ql5 f i.1).2.2.1,Zwy (Ql5 f i.1).2.2.2.1 (Ql5 f i.1).1 i,(Ql5 f i.1).2.2.2.2)) rfl).trans (Zij _))
theorem Zqi (f:Qo3) (lo hi:Int):Ext f (Z40 f lo hi):=by
 unfold Z40
 split
 ·exact Ext.refl f
 ·simp only
  split
  ·exact Qzc f hi
  ·exact (Qzc f hi).trans ((Zqh _ _ _).trans (Zij _))
theorem Zsg (f:Qo3) (now:Int):Ext f (Z6r f now).1:=by
 unfold Z6r
 split
 ·exact Ext.refl f
 ·split
  ·split
   ·exact (Zqh _ _ _).trans (Zij _)
   ·exact Ext.of rfl
  ·exact Ext.refl f
def Zbt (f g:Qo3):List Evt:=g.2.2.2.2.1.drop f.2.2.2.2.1.length
theorem Ext.new {f g:Qo3} (h:Ext f g):g.2.2.2.2.1=f.2.2.2.2.1++Zbt f g∧∀ e∈Zbt f g,X0n e:=by
 obtain ⟨ev,h1,h2⟩:=h
 have:Zbt f g=ev:=by unfold Zbt;rw [h1,List.drop_left]
 rw [this];exact ⟨h1,h2⟩
def Zov (t:Tie) (e:Evt) (k:Kid):Qka:=if e.1=1 then (7,t.1,k.1,t.2.1,0,0,[],e.2.1,0,e.2.2.2.1) else (9,t.1,k.1,t.2.1,0,0,[],e.2.1,e.2.2.1,ebA)
def dnK (t:Tie) (e:Evt) (ks:List Kid):List Qka:=ks.map (Zov t e)
def dnM (t:Tie):List Evt→List Qka
 | []=>[]
 | e::r=>dnK t e t.2.2.2.2.2.2.2.2.2.2.2.2++dnM t r
def Qwj (t:Tie) (f:Qo3):Qka→Int→Qo3
 | (kd,fr,to,mi,me,ag,pa,lo,hi,tx),a=>
  if ¬ (fr=t.2.2.2.1∧mi=t.2.2.2.2.1) then f
  else if kd=2∧a≠fr then Ql5 (Z9x f lo) (lo - 1)
  else if kd=5∧a=fr then Ql5 f hi
  else if kd=7 then Z60 f (lo,tx)
  else if kd=9 then Z40 f lo hi
  else f
def itM (t:Tie) (to:Int) (i:Qo4):Qka:=(7,t.1,to,t.2.1,0,0,[],i.1,0,i.2)
def ntM (t:Tie) (to:Int) (s:Int × Int):Qka:=(9,t.1,to,t.2.1,0,0,[],s.1,s.2,ebA)
def Qxk (t:Tie) (f:Qo3) (m:Qka):List Qka:=
 match Qwx t.2.2.2.2.2.2.2.2.2.2.2.2 m.fr with
 | some k=>if k.2.1=m.inc then (Qoz f m.lo m.hi).1.map (itM t m.fr)++(Qoz f m.lo m.hi).2.map (ntM t m.fr) else []
 | none=>[]
def Zjm (n:Z27) (m:Qka):Z27 × List Qka:=
 let r:=Qt3 n.2.2.2.1 m (max n.2.2.2.2.1.1 1)
 let f:=Qwj r.1 n.2.2.2.2.1 m n.2.2.2.1.2.2.2.1
 ((n.1,n.2.1,n.2.2.1,r.1,f,n.2.2.2.2.2),(r.2++(if m.kd=8 then Qxk r.1 n.2.2.2.2.1 m else []))++dnM r.1 (Zbt n.2.2.2.2.1 f))
theorem Zir {t:Tie} {f:Qo3} {m:Qka} (h:FOk f) (a:Int):FOk (Qwj t f m a):=by
 obtain ⟨kd,fr,to,mi,me,ag,pa,lo,hi,tx⟩:=m
 rw [Qwj]
 split
 ·exact h
 ·split
  ·exact Qv9 (Zix h _) _
  ·split
   ·exact Qv9 h _
   ·split
    ·exact (Zja h _).1
    ·split
     ·exact (Zhy h _ _).1
     ·exact h
theorem Zqk (t:Tie) (f:Qo3) (m:Qka) (a:Int):Ext f (Qwj t f m a):=by
 obtain ⟨kd,fr,to,mi,me,ag,pa,lo,hi,tx⟩:=m
 rw [Qwj]
 split
 ·exact Ext.refl f
 ·split
  ·exact (Zpv f _).trans (Qzc _ _)
  ·split
   ·exact Qzc f _
   ·split
    ·exact Zq2 f _
    ·split
     ·exact Zqi f _ _
     ·exact Ext.refl f
theorem Ztb {N:Int} {n:Z27} (h:NOk N n) {m:Qka} (hm:MSm m) (hN:N+1≤562949953421312):NOk (N+1) (Zjm n m).1:=by
 obtain ⟨h1,h2,h3,h4,h5,h6,h7⟩:=h
 have hi:=Zol n.2.2.2.1 m (max n.2.2.2.2.1.1 1)
 refine ⟨h1,h2,Zda h3 hm _ hN,Zir h4 _,hi.2.2 h5,fun e=>?_,h7⟩
 have e0:n.2.2.2.1.1=1:=hi.1.symm.trans e
 have e1:(Qt3 n.2.2.2.1 m (max n.2.2.2.2.1.1 1)).1.2.2.2.1=0:=(hi.2.2 h5 e).1
 have a:=hm.fr
 show (Qwj _ _ _ _).2.2.2.1=[]
 obtain ⟨kd,fr,to,mi,me,ag,pa,lo,hi,tx⟩:=m
 dsimp only [Qka.kd,Qka.fr,Qka.to,Qka.inc,Qka.ep,Qka.ag,Qka.pa,Qka.lo,Qka.hi,Qka.tx] at a
 rw [Qwj,if_pos (fun x=>by omega)]
 exact h6 e0
theorem Zw3 {n:Z27} (h:NSm n):Qrj n=some ((n,()),()):=by
 have hp:=h.pt
 have hk:=h.kids
 obtain ⟨_,h1,h2,h3⟩:=h.feed
 unfold Qrj
 rw [Zhm _ (by show n.2.2.2.1.2.2.2.2.2.2.1.length≤_;omega)]
 dsimp only [Option.bind_some]
 rw [Zdl _ (by show n.2.2.2.1.2.2.2.2.2.2.2.2.2.2.2.2.length≤_;omega)]
 dsimp only [Option.bind_some]
 rw [Qtp _ (by show n.2.2.2.2.1.2.2.1.length≤_;omega)]
 dsimp only [Option.bind_some]
 rw [Qtp _ (by show n.2.2.2.2.1.2.2.2.1.length≤_;omega)]
 dsimp only [Option.bind_some]
 rw [Zan _ (by show n.2.2.2.2.1.2.2.2.2.1.length≤_;omega)]
 rfl
theorem Zzb {f g:Qo3} (h:Ext f g) (hg:FSm g):Zev g f=some ((Zbt f g,()),()):=by
 obtain ⟨e,_⟩:=h.new
 have hl:=hg.log
 have h1:f.2.2.2.2.1.length≤g.2.2.2.2.1.length:=by rw [e,List.length_append];omega
 unfold Zev
 have e0:(if ((g4 g).length:Int)<((g4 f).length:Int) then ((g4 g).length:Int) else ((g4 f).length:Int))=(f.2.2.2.2.1.length:Int):=by
  show (if (g.2.2.2.2.1.length:Int)<(f.2.2.2.2.1.length:Int) then (g.2.2.2.2.1.length:Int) else (f.2.2.2.2.1.length:Int))=_
  rw [if_neg (by omega)]
 rw [e0,ct (by rw [Bool.and_eq_true,Bool.and_eq_true,decide_eq_true_eq,decide_eq_true_eq,decide_eq_true_eq];show (0≤(f.2.2.2.2.1.length:Int)∧(f.2.2.2.2.1.length:Int)≤(g.2.2.2.2.1.length:Int))∧(g.2.2.2.2.1.length:Int)≤(g.2.2.2.2.1.length:Int);omega),Int.toNat_natCast,Int.toNat_natCast]
 rw [show List.take (g4 g).length (g4 g)=g.2.2.2.2.1 from List.take_length,Zan _ (by rw [List.length_drop];omega)]
 rfl
theorem Ztp (n:Nat) (m1:Nat) (L) (n':Z27) (i j:Int) (e:Evt) (b:List Evt) (hk:n'.2.2.2.1.2.2.2.2.2.2.2.2.2.2.2.2.length≤8):∀ (c m q:Nat) (a:List Qka),q+c=n'.2.2.2.1.2.2.2.2.2.2.2.2.2.2.2.2.length→c<m→a.length≤100000000+q →
  Qws n m1 L m i j n'.2.2.2.1.2.2.2.2.2.2.2.2.2.2.2.2 (n'.2.2.2.1.2.2.2.2.2.2.2.2.2.2.2.2.length:Int) (q:Int) n'.1 n'.2.1 n'.2.2.1 n'.2.2.2.1.1 n'.2.2.2.1.2.1 n'.2.2.2.1.2.2.1 n'.2.2.2.1.2.2.2.1 n'.2.2.2.1.2.2.2.2.1 n'.2.2.2.1.2.2.2.2.2.1 n'.2.2.2.1.2.2.2.2.2.2.1 n'.2.2.2.1.2.2.2.2.2.2.2.1 n'.2.2.2.1.2.2.2.2.2.2.2.2.1 n'.2.2.2.1.2.2.2.2.2.2.2.2.2.1 n'.2.2.2.1.2.2.2.2.2.2.2.2.2.2.1 n'.2.2.2.1.2.2.2.2.2.2.2.2.2.2.2.1 n'.2.2.2.1.2.2.2.2.2.2.2.2.2.2.2.2 n'.2.2.2.2.1.1 n'.2.2.2.2.1.2.1 n'.2.2.2.2.1.2.2.1 n'.2.2.2.2.1.2.2.2.1 n'.2.2.2.2.1.2.2.2.2.1 n'.2.2.2.2.1.2.2.2.2.2.1 n'.2.2.2.2.1.2.2.2.2.2.2 n'.2.2.2.2.2 a e.1 e.2.1 e.2.2.1 e.2.2.2.1 e.2.2.2.2 b =
   L i (wJ (j+1)) n'.1 n'.2.1 n'.2.2.1 n'.2.2.2.1.1 n'.2.2.2.1.2.1 n'.2.2.2.1.2.2.1 n'.2.2.2.1.2.2.2.1 n'.2.2.2.1.2.2.2.2.1 n'.2.2.2.1.2.2.2.2.2.1 n'.2.2.2.1.2.2.2.2.2.2.1 n'.2.2.2.1.2.2.2.2.2.2.2.1 n'.2.2.2.1.2.2.2.2.2.2.2.2.1 n'.2.2.2.1.2.2.2.2.2.2.2.2.2.1 n'.2.2.2.1.2.2.2.2.2.2.2.2.2.2.1 n'.2.2.2.1.2.2.2.2.2.2.2.2.2.2.2.1 n'.2.2.2.1.2.2.2.2.2.2.2.2.2.2.2.2 n'.2.2.2.2.1.1 n'.2.2.2.2.1.2.1 n'.2.2.2.2.1.2.2.1 n'.2.2.2.2.1.2.2.2.1 n'.2.2.2.2.1.2.2.2.2.1 n'.2.2.2.2.1.2.2.2.2.2.1 n'.2.2.2.2.1.2.2.2.2.2.2 n'.2.2.2.2.2 (a++dnK n'.2.2.2.1 e (n'.2.2.2.1.2.2.2.2.2.2.2.2.2.2.2.2.drop q)) b
 | c,0,q,a,_,h,_=>by omega
 | 0,m+1,q,a,hc,h,ha=>by
  show Qzi (Qws n m1 L m) L i j _ _ (q:Int) _ _ _ _ _ _ _ _ _ _ _ _ _ _ _ _ _ _ _ _ _ _ _ _ a _ _ _ _ _ b=_
  unfold Qzi
  rw [cdn (by omega),List.drop_eq_nil_of_le (by omega)];simp [dnK]
 | c+1,m+1,q,a,hc,h,ha=>by
  show Qzi (Qws n m1 L m) L i j _ _ (q:Int) _ _ _ _ _ _ _ _ _ _ _ _ _ _ _ _ _ _ _ _ _ _ _ _ a _ _ _ _ _ b=_
  have hq:q<n'.2.2.2.1.2.2.2.2.2.2.2.2.2.2.2.2.length:=by omega
  unfold Qzi Ze6
  rw [cdp (by omega),ct (idx (by omega)),Qkb,Qkq hq,ceq]
  have e2:∀ x,a++[x]++dnK n'.2.2.2.1 e (n'.2.2.2.1.2.2.2.2.2.2.2.2.2.2.2.2.drop (q+1))=a++(x::dnK n'.2.2.2.1 e (n'.2.2.2.1.2.2.2.2.2.2.2.2.2.2.2.2.drop (q+1))):=fun x=>by rw [List.append_assoc];rfl
  have e3:dnK n'.2.2.2.1 e (n'.2.2.2.1.2.2.2.2.2.2.2.2.2.2.2.2.drop q)=Zov n'.2.2.2.1 e n'.2.2.2.1.2.2.2.2.2.2.2.2.2.2.2.2[q]::dnK n'.2.2.2.1 e (n'.2.2.2.1.2.2.2.2.2.2.2.2.2.2.2.2.drop (q+1)):=by rw [List.drop_eq_getElem_cons hq];rfl
  rw [e3,← e2]
  have ih:=fun x=>Ztp n m1 L n' i j e b hk c m (q+1) (a++[x]) (by omega) (by omega) (by rw [List.length_append,List.length_singleton];omega)
  unfold Zov
  by_cases k1:e.1=1
  ·rw [if_pos k1,if_pos k1]
   unfold Qtr
   dsimp only [Option.bind_some]
   rw [cbp (by omega),Qoq (by omega)]
   exact ih _
  ·rw [if_neg k1,if_neg k1]
   unfold Qtr
   dsimp only [Option.bind_some]
   rw [cbp (by omega),Qoq (by omega)]
   exact ih _
theorem Zk8 (t:Tie) (hk:t.2.2.2.2.2.2.2.2.2.2.2.2.length≤8):∀ l:List Evt,(dnM t l).length≤8*l.length
 | []=>by simp [dnM]
 | e::r=>by
  have:=Zk8 t hk r
  show (dnK t e _++dnM t r).length≤_
  rw [List.length_append,List.length_cons]
  unfold dnK
  rw [List.length_map];omega
theorem Zst (n:Nat) (hn:100<n) (n':Z27) (a:List Evt) (hl:a.length≤10000000) (hk:n'.2.2.2.1.2.2.2.2.2.2.2.2.2.2.2.2.length≤8):∀ (c m q:Nat) (b:List Qka),q+c=a.length→c<m→b.length≤8*q →
  Qwe n m (a.length:Int) (q:Int) n'.1 n'.2.1 n'.2.2.1 n'.2.2.2.1.1 n'.2.2.2.1.2.1 n'.2.2.2.1.2.2.1 n'.2.2.2.1.2.2.2.1 n'.2.2.2.1.2.2.2.2.1 n'.2.2.2.1.2.2.2.2.2.1 n'.2.2.2.1.2.2.2.2.2.2.1 n'.2.2.2.1.2.2.2.2.2.2.2.1 n'.2.2.2.1.2.2.2.2.2.2.2.2.1 n'.2.2.2.1.2.2.2.2.2.2.2.2.2.1 n'.2.2.2.1.2.2.2.2.2.2.2.2.2.2.1 n'.2.2.2.1.2.2.2.2.2.2.2.2.2.2.2.1 n'.2.2.2.1.2.2.2.2.2.2.2.2.2.2.2.2 n'.2.2.2.2.1.1 n'.2.2.2.2.1.2.1 n'.2.2.2.2.1.2.2.1 n'.2.2.2.2.1.2.2.2.1 n'.2.2.2.2.1.2.2.2.2.1 n'.2.2.2.2.1.2.2.2.2.2.1 n'.2.2.2.2.1.2.2.2.2.2.2 n'.2.2.2.2.2 b a=some ((b++dnM n'.2.2.2.1 (a.drop q),()),())
 | c,0,q,b,_,h,_=>by omega
 | 0,m+1,q,b,hc,h,ha=>by
  show Qzf (Qws n m (Qwe n m) n) _ (q:Int) _ _ _ _ _ _ _ _ _ _ _ _ _ _ _ _ _ _ _ _ _ _ _ _ b a=_
  unfold Qzf
  rw [cdn (by omega),List.drop_eq_nil_of_le (by omega)];simp [dnM]
 | c+1,m+1,q,b,hc,h,ha=>by
  show Qzf (Qws n m (Qwe n m) n) _ (q:Int) _ _ _ _ _ _ _ _ _ _ _ _ _ _ _ _ _ _ _ _ _ _ _ _ b a=_
  have hq:q<a.length:=by omega
  unfold Qzf
  rw [cdp (by omega),ct (idx (by omega)),ct (idx (by omega)),Qkb,Qkq hq]
  have:=Ztp n m (Qwe n m) n' (a.length:Int) (q:Int) a[q] a hk n'.2.2.2.1.2.2.2.2.2.2.2.2.2.2.2.2.length n 0 b (by omega) (by omega) (by omega)
  refine Eq.trans this ?_
  rw [Qoq (by omega),List.drop_zero,Zst n hn n' a hl hk c m (q+1) _ (by omega) (by omega) (by rw [List.length_append];unfold dnK;rw [List.length_map];omega),List.drop_eq_getElem_cons hq,List.append_assoc];rfl
theorem Zuo {n':Z27} {f:Qo3} (h:Ext f n'.2.2.2.2.1) (hs:FSm n'.2.2.2.2.1) (hk:n'.2.2.2.1.2.2.2.2.2.2.2.2.2.2.2.2.length≤8):Qy4 n' f=some ((dnM n'.2.2.2.1 (Zbt f n'.2.2.2.2.1),()),()):=by
 have hl:(Zbt f n'.2.2.2.2.1).length≤10000000:=by unfold Zbt;rw [List.length_drop];have:=hs.log;omega
 have key:∀ n m,100<n→20000000<m→Zav (Qwe n m) n' f=some ((dnM n'.2.2.2.1 (Zbt f n'.2.2.2.2.1),()),()):=by
  intro n m hn hm
  unfold Zav
  rw [show g4 n'=n'.2.2.2.2.1 from rfl,Zzb h hs]
  dsimp only [Option.bind_some]
  have:=Zst n hn n' (Zbt f n'.2.2.2.2.1) hl hk (Zbt f n'.2.2.2.2.1).length m 0 [] (by omega) (by omega) (by simp)
  rw [List.drop_zero,List.nil_append] at this
  exact this
 exact key 1099511627776 1099511627776 (by decide) (by decide)
theorem Zzk {n:Z27} (hf:FOk n.2.2.2.2.1) {m:Qka} (hm:MSm m) (f:Int):Z5l n m f=some ((Qwj n.2.2.2.1 n.2.2.2.2.1 m f,()),()):=by
 obtain ⟨kd,fr,to,mi,me,ag,pa,lo,hi,tx⟩:=m
 have g:=hm.lo
 have h:=hm.tx
 dsimp only [Qka.kd,Qka.fr,Qka.to,Qka.inc,Qka.ep,Qka.ag,Qka.pa,Qka.lo,Qka.hi,Qka.tx] at g h
 have J1:Z5e (kd,fr,to,mi,me,ag,pa,lo,hi,tx) n=some ((if kd=7 then Z60 n.2.2.2.2.1 (lo,tx) else if kd=9 then Z40 n.2.2.2.2.1 lo hi else n.2.2.2.2.1,()),()):=by
  unfold Z5e
  dsimp only [g3,g4,g5,g6,g7,g8,g9,g10,g11,h3,h4,h5,h6,h9,h12,u0,u1,u2,u3,u4,u5,u6,u7,u8,u9,u10,u11,e1,e2,e3,e5,e9,e12]
  rw [Zyr hf _ (by dsimp only;omega),Zz1 hf,ceq,ceq]
  dsimp only [Option.bind_some]
  split
  ·rfl
  ·split<;>rfl
 have J2:Z5d (kd,fr,to,mi,me,ag,pa,lo,hi,tx) f n=some ((if kd=5∧f=fr then Ql5 n.2.2.2.2.1 hi else if kd=7 then Z60 n.2.2.2.2.1 (lo,tx) else if kd=9 then Z40 n.2.2.2.2.1 lo hi else n.2.2.2.2.1,()),()):=by
  unfold Z5d
  rw [J1]
  dsimp only [g3,g4,g5,g6,g7,g8,g9,g10,g11,h3,h4,h5,h6,h9,h12,u0,u1,u2,u3,u4,u5,u6,u7,u8,u9,u10,u11,e1,e2,e3,e5,e9,e12]
  rw [Zhp hf.sm,ceq,ceq]
  dsimp only [Option.bind_some]
  by_cases a:kd=5
  ·rw [if_pos a]
   by_cases b:f=fr
   ·rw [if_pos b,if_pos (show kd=5∧f=fr from ⟨a,b⟩)]
   ·rw [if_neg b,if_neg (show ¬ (kd=5∧f=fr) from fun e=>b e.2)]
  ·rw [if_neg a,if_neg (show ¬ (kd=5∧f=fr) from fun e=>a e.1)]
 unfold Z5l
 rw [J2,Qwj]
 dsimp only [g3,g4,g5,g6,g7,g8,g9,g10,g11,h3,h4,h5,h6,h9,h12,u0,u1,u2,u3,u4,u5,u6,u7,u8,u9,u10,u11,e1,e2,e3,e5,e9,e12,Qka.kd,Qka.fr,Qka.to,Qka.inc,Qka.ep,Qka.ag,Qka.pa,Qka.lo,Qka.hi,Qka.tx]
 rw [Zyv hf.sm _ (by omega)]
 dsimp only [Option.bind_some]
 rw [Qor (x:=lo - 1) (by omega) (by omega),Zhp (Zix hf lo).sm,ceq,X0g,ceq,ceq,Z8q]
 dsimp only [Option.bind_some]
 by_cases a:fr=n.2.2.2.1.2.2.2.1
 ·rw [if_pos a]
  by_cases b:mi=n.2.2.2.1.2.2.2.2.1
  ·rw [if_pos b,if_neg (show ¬ ¬ (fr=n.2.2.2.1.2.2.2.1∧mi=n.2.2.2.1.2.2.2.2.1) from fun e=>e ⟨a,b⟩)]
   by_cases c:kd=2
   ·rw [if_pos c]
    by_cases d:f=fr
    ·rw [if_pos d,if_neg (show ¬ (kd=2∧f≠fr) from fun e=>e.2 d)]
    ·rw [if_neg d,if_pos (show kd=2∧f≠fr from ⟨c,d⟩)]
   ·rw [if_neg c,if_neg (show ¬ (kd=2∧f≠fr) from fun e=>c e.1)]
  ·rw [if_neg b,if_pos (show ¬ (fr=n.2.2.2.1.2.2.2.1∧mi=n.2.2.2.1.2.2.2.2.1) from fun e=>b e.2)]
 ·rw [if_neg a,if_pos (show ¬ (fr=n.2.2.2.1.2.2.2.1∧mi=n.2.2.2.1.2.2.2.2.1) from fun e=>a e.1)]
theorem Zzn (l:Qmq) (s:Int × Int) (h:l.getLast?=some s) (n:Int):l.set (l.length - 1) (s.1,n)=l.dropLast++[(s.1,n)]:=by
 have hp:l≠[]:=by rintro rfl;cases h
 obtain ⟨q,e⟩:∃ q,l=l.dropLast++[q]:=⟨_,(List.dropLast_concat_getLast hp).symm⟩
 have e2:q=s:=by rw [e,List.getLast?_concat] at h;exact Option.some.inj h
 have hl:l.dropLast.length=l.length - 1:=List.length_dropLast
 conv=>lhs;rw [e]
 rw [List.length_append,List.length_singleton,Nat.add_sub_cancel,List.set_append_right _ _ (Nat.le_refl _),Nat.sub_self];rfl
theorem Zrf (l:Qmq) (n:Int):(Zrz l n).length≤l.length+1:=by
 unfold Zrz
 split
 ·split
  ·rw [List.length_append,List.length_dropLast,List.length_singleton];omega
  ·rw [List.length_append,List.length_singleton];omega
 ·simp
theorem Znj (n:Nat) (lo hi nx top:Int) (ring win:List Qo4) (log:List Evt) (a b:Int) (hr:Zhh Zet ring) (hl:ring.length≤1000000) (h1:1≤lo) (h2:hi≤1000000) (h3:lo≤1000000):∀ (k m i:Nat) (d:List Qo4) (c:Qmq),i+k=8→k<m→d.length≤i→c.length≤i →
  Qv5 n m lo hi (lo+(i:Int)) nx top ring win log a b d c=some (((Z0j ring hi k (lo+(i:Int)) d c).1,(Z0j ring hi k (lo+(i:Int)) d c).2,()),())
 | k,0,i,d,c,_,h,_,_=>by omega
 | 0,m+1,i,d,c,hk,h,g,j=>by
  show Qwu (Qv5 n m) lo hi (lo+(i:Int)) nx top ring win log a b d c=_
  unfold Qwu
  rw [Qor (x:=lo+(i:Int) - lo) (by omega) (by omega),cdn (show ¬ lo+(i:Int) - lo<8 by omega)]
  cases decide (lo+(i:Int)≤hi)<;>rfl
 | k+1,m+1,i,d,c,hk,h,g,j=>by
  show Qwu (Qv5 n m) lo hi (lo+(i:Int)) nx top ring win log a b d c=_
  have ih:=fun d c h1 h2=>Znj n lo hi nx top ring win log a b hr hl ‹1≤lo› ‹hi≤1000000› h3 k m (i+1) d c (by omega) (by omega) h1 h2
  have e1:wJ (lo+(i:Int)+1)=lo+((i+1:Nat):Int):=by rw [Qor (by omega) (by omega)];omega
  have e2:lo+(i:Int)+1=lo+((i+1:Nat):Int):=by omega
  unfold Qwu
  rw [Qor (x:=lo+(i:Int) - lo) (by omega) (by omega),cdp (show lo+(i:Int) - lo<8 by omega),e1,cp]
  unfold Z0j
  by_cases a1:hi<lo+(i:Int)
  ·rw [if_neg (by omega),if_pos a1]
  rw [if_pos (by omega),if_neg a1,X0j hr hl,e2]
  dsimp only [Option.bind_some]
  cases hg:Zuu ring (lo+(i:Int)) with
  | some x=>
   dsimp only
   rw [cond_true,cond_true,cbp (by omega)]
   have hx:x=(lo+(i:Int),x.2):=by
    have:=(Zon hg).2
    simp only [Zet] at this
    rw [← this]
   rw [← hx]
   exact ih _ _ (by rw [List.length_append,List.length_singleton];omega) (by omega)
  | none=>
   dsimp only
   rw [cond_false,cond_false,cdn (show ¬ lo+(i:Int)<1 by omega),cdn (show ¬ lo+(i:Int)>1000000 by omega)]
   have J2:(∀ s,c.getLast?=some s→¬ s.2+1=lo+(i:Int))→Z59 c (Qv5 n m) lo hi (lo+(i:Int)) nx top ring win log a b d=some (((Z0j ring hi k (lo+((i+1:Nat):Int)) d (Zrz c (lo+(i:Int)))).1,(Z0j ring hi k (lo+((i+1:Nat):Int)) d (Zrz c (lo+(i:Int)))).2,()),()):=by
    intro hs
    have e:Zrz c (lo+(i:Int))=c++[(lo+(i:Int),lo+(i:Int))]:=by
     unfold Zrz
     split
     ·rename_i s h;rw [if_neg (hs s h)]
     ·rename_i h;rw [List.getLast?_eq_none_iff] at h;subst h;rfl
    unfold Z59
    rw [cbp (by omega),e1,e]
    exact ih _ _ (by omega) (by rw [List.length_append,List.length_singleton];omega)
   cases f:c.getLast? with
   | none=>
    have:c=[]:=List.getLast?_eq_none_iff.1 f
    rw [cdn (by rw [this];simp)]
    exact J2 (fun s e=>by rw [f] at e;cases e)
   | some s=>
    have hp:0<c.length:=by
     cases c with
     | nil=>cases f
     | cons a b=>simp
    have e5:((c.length:Int) - 1).toNat=c.length - 1:=by omega
    have e6:List.getD c (c.length - 1) (0,0)=s:=by
     rw [Qkq (by omega)]
     rw [List.getLast?_eq_getElem?,List.getElem?_eq_getElem (by omega)] at f
     exact Option.some.inj f
    have hh:(ix ((c.length:Int) - 1) (c.length:Int))=true:=bt (by omega) (by omega)
    rw [cdp (by omega),Qor (x:=(c.length:Int) - 1) (by omega) (by omega),ct hh,ct hh,e5,e6,Qor (x:=lo+(i:Int) - 1) (by omega) (by omega),ceq]
    by_cases q:s.2=lo+(i:Int) - 1
    ·rw [if_pos q,ct hh,ct hh,Zzn c s f]
     have e:Zrz c (lo+(i:Int))=c.dropLast++[(s.1,lo+(i:Int))]:=by
      unfold Zrz
      rw [f]
      dsimp only
      rw [if_pos (by omega)]
     rw [← e]
     exact ih _ _ (by omega) (by have:=Zrf c (lo+(i:Int));omega)
    ·rw [if_neg q]
     exact J2 (fun s' e=>by rw [f] at e;cases e;omega)
theorem Zw7 {f:Qo3} (h:FOk f) (lo hi:Int) (h1:1≤lo∧lo≤1000000) (h2:hi≤1000000):Zjy f lo hi=some (((Qoz f lo hi).1,(Qoz f lo hi).2,()),()):=by
 have hn:=h.next
 have hs:=h.sm
 have key:∀ n m,100<m→Z86 (Qv5 n m) f lo hi=some (((Qoz f lo hi).1,(Qoz f lo hi).2,()),()):=by
  intro n m hm
  unfold Z86 Qoz
  by_cases a:f.1=0
  ·rw [cdp (by omega),if_pos a]
  ·rw [cdn (by omega),if_neg a,Qor (by omega) (by omega)]
   have e:(if f.1 - 1<hi then f.1 - 1 else hi)=min hi (f.1 - 1):=by split<;>omega
   rw [e]
   have:=Znj n lo (min hi (f.1 - 1)) f.1 f.2.1 f.2.2.1 f.2.2.2.1 f.2.2.2.2.1 f.2.2.2.2.2.1 f.2.2.2.2.2.2 h.ring (by have:=hs.ring;omega) h1.1 (by omega) h1.2 8 m 0 [] [] (by omega) (by omega) (by simp) (by simp)
   rw [show lo+((0:Nat):Int)=lo by omega] at this
   exact this
 exact key 1099511627776 1099511627776 (by decide)
theorem Zva (n:Nat) (n':Z27) (mm:Qka) (a:Qmq) (hl:a.length≤1000):∀ (k m i:Nat) (b:List Qka),i+k=a.length→k<m→b.length≤10000+i →
  Qt0 n m (a.length:Int) (i:Int) n'.1 n'.2.1 n'.2.2.1 n'.2.2.2.1.1 n'.2.2.2.1.2.1 n'.2.2.2.1.2.2.1 n'.2.2.2.1.2.2.2.1 n'.2.2.2.1.2.2.2.2.1 n'.2.2.2.1.2.2.2.2.2.1 n'.2.2.2.1.2.2.2.2.2.2.1 n'.2.2.2.1.2.2.2.2.2.2.2.1 n'.2.2.2.1.2.2.2.2.2.2.2.2.1 n'.2.2.2.1.2.2.2.2.2.2.2.2.2.1 n'.2.2.2.1.2.2.2.2.2.2.2.2.2.2.1 n'.2.2.2.1.2.2.2.2.2.2.2.2.2.2.2.1 n'.2.2.2.1.2.2.2.2.2.2.2.2.2.2.2.2 n'.2.2.2.2.1.1 n'.2.2.2.2.1.2.1 n'.2.2.2.2.1.2.2.1 n'.2.2.2.2.1.2.2.2.1 n'.2.2.2.2.1.2.2.2.2.1 n'.2.2.2.2.1.2.2.2.2.2.1 n'.2.2.2.2.1.2.2.2.2.2.2 n'.2.2.2.2.2 mm.1 mm.2.1 mm.2.2.1 mm.2.2.2.1 mm.2.2.2.2.1 mm.2.2.2.2.2.1 mm.2.2.2.2.2.2.1 mm.2.2.2.2.2.2.2.1 mm.2.2.2.2.2.2.2.2.1 mm.2.2.2.2.2.2.2.2.2 b a=some ((b++(a.drop i).map (ntM n'.2.2.2.1 mm.fr),()),())
 | k,0,i,b,_,h,_=>by omega
 | 0,m+1,i,b,hk,h,ha=>by
  show Qva (Qt0 n m) (a.length:Int) (i:Int) n'.1 n'.2.1 n'.2.2.1 n'.2.2.2.1.1 n'.2.2.2.1.2.1 n'.2.2.2.1.2.2.1 n'.2.2.2.1.2.2.2.1 n'.2.2.2.1.2.2.2.2.1 n'.2.2.2.1.2.2.2.2.2.1 n'.2.2.2.1.2.2.2.2.2.2.1 n'.2.2.2.1.2.2.2.2.2.2.2.1 n'.2.2.2.1.2.2.2.2.2.2.2.2.1 n'.2.2.2.1.2.2.2.2.2.2.2.2.2.1 n'.2.2.2.1.2.2.2.2.2.2.2.2.2.2.1 n'.2.2.2.1.2.2.2.2.2.2.2.2.2.2.2.1 n'.2.2.2.1.2.2.2.2.2.2.2.2.2.2.2.2 n'.2.2.2.2.1.1 n'.2.2.2.2.1.2.1 n'.2.2.2.2.1.2.2.1 n'.2.2.2.2.1.2.2.2.1 n'.2.2.2.2.1.2.2.2.2.1 n'.2.2.2.2.1.2.2.2.2.2.1 n'.2.2.2.2.1.2.2.2.2.2.2 n'.2.2.2.2.2 mm.1 mm.2.1 mm.2.2.1 mm.2.2.2.1 mm.2.2.2.2.1 mm.2.2.2.2.2.1 mm.2.2.2.2.2.2.1 mm.2.2.2.2.2.2.2.1 mm.2.2.2.2.2.2.2.2.1 mm.2.2.2.2.2.2.2.2.2 b a=_
  unfold Qva
  rw [cdn (by omega),List.drop_eq_nil_of_le (by omega)];simp
 | k+1,m+1,i,b,hk,h,ha=>by
  show Qva (Qt0 n m) (a.length:Int) (i:Int) n'.1 n'.2.1 n'.2.2.1 n'.2.2.2.1.1 n'.2.2.2.1.2.1 n'.2.2.2.1.2.2.1 n'.2.2.2.1.2.2.2.1 n'.2.2.2.1.2.2.2.2.1 n'.2.2.2.1.2.2.2.2.2.1 n'.2.2.2.1.2.2.2.2.2.2.1 n'.2.2.2.1.2.2.2.2.2.2.2.1 n'.2.2.2.1.2.2.2.2.2.2.2.2.1 n'.2.2.2.1.2.2.2.2.2.2.2.2.2.1 n'.2.2.2.1.2.2.2.2.2.2.2.2.2.2.1 n'.2.2.2.1.2.2.2.2.2.2.2.2.2.2.2.1 n'.2.2.2.1.2.2.2.2.2.2.2.2.2.2.2.2 n'.2.2.2.2.1.1 n'.2.2.2.2.1.2.1 n'.2.2.2.2.1.2.2.1 n'.2.2.2.2.1.2.2.2.1 n'.2.2.2.2.1.2.2.2.2.1 n'.2.2.2.2.1.2.2.2.2.2.1 n'.2.2.2.2.1.2.2.2.2.2.2 n'.2.2.2.2.2 mm.1 mm.2.1 mm.2.2.1 mm.2.2.2.1 mm.2.2.2.2.1 mm.2.2.2.2.2.1 mm.2.2.2.2.2.2.1 mm.2.2.2.2.2.2.2.1 mm.2.2.2.2.2.2.2.2.1 mm.2.2.2.2.2.2.2.2.2 b a=_
  have hi:i<a.length:=by omega
  unfold Qva Qtr
  rw [cdp (by omega),ct (idx (by omega)),ct (idx (by omega)),Qkb,Qkq hi]
  dsimp only [Option.bind_some]
  rw [cbp (by omega),Qoq (by omega)]
  refine Eq.trans (Zva n n' mm a hl k m (i+1) _ (by omega) (by omega) (by rw [List.length_append,List.length_singleton];omega)) ?_
  rw [List.drop_eq_getElem_cons hi,List.map_cons,List.append_assoc];rfl
theorem Zvy (n q:Nat) (hq:2000<q) (n':Z27) (mm:Qka) (a:List Qo4) (c:Qmq) (hl:c.length≤1000) (d:a.length≤1000):∀ (k m i:Nat) (b:List Qka),i+k=a.length→k<m→b.length≤i →
  Qvc q m (a.length:Int) (i:Int) n'.1 n'.2.1 n'.2.2.1 n'.2.2.2.1.1 n'.2.2.2.1.2.1 n'.2.2.2.1.2.2.1 n'.2.2.2.1.2.2.2.1 n'.2.2.2.1.2.2.2.2.1 n'.2.2.2.1.2.2.2.2.2.1 n'.2.2.2.1.2.2.2.2.2.2.1 n'.2.2.2.1.2.2.2.2.2.2.2.1 n'.2.2.2.1.2.2.2.2.2.2.2.2.1 n'.2.2.2.1.2.2.2.2.2.2.2.2.2.1 n'.2.2.2.1.2.2.2.2.2.2.2.2.2.2.1 n'.2.2.2.1.2.2.2.2.2.2.2.2.2.2.2.1 n'.2.2.2.1.2.2.2.2.2.2.2.2.2.2.2.2 n'.2.2.2.2.1.1 n'.2.2.2.2.1.2.1 n'.2.2.2.2.1.2.2.1 n'.2.2.2.2.1.2.2.2.1 n'.2.2.2.2.1.2.2.2.2.1 n'.2.2.2.2.1.2.2.2.2.2.1 n'.2.2.2.2.1.2.2.2.2.2.2 n'.2.2.2.2.2 mm.1 mm.2.1 mm.2.2.1 mm.2.2.2.1 mm.2.2.2.2.1 mm.2.2.2.2.2.1 mm.2.2.2.2.2.2.1 mm.2.2.2.2.2.2.2.1 mm.2.2.2.2.2.2.2.2.1 mm.2.2.2.2.2.2.2.2.2 b c a=some ((b++(a.drop i).map (itM n'.2.2.2.1 mm.fr)++c.map (ntM n'.2.2.2.1 mm.fr),()),())
 | k,0,i,b,_,h,_=>by omega
 | 0,m+1,i,b,hk,h,ha=>by
  show Qvb (Qvc q m) (Qt0 q q) (a.length:Int) (i:Int) n'.1 n'.2.1 n'.2.2.1 n'.2.2.2.1.1 n'.2.2.2.1.2.1 n'.2.2.2.1.2.2.1 n'.2.2.2.1.2.2.2.1 n'.2.2.2.1.2.2.2.2.1 n'.2.2.2.1.2.2.2.2.2.1 n'.2.2.2.1.2.2.2.2.2.2.1 n'.2.2.2.1.2.2.2.2.2.2.2.1 n'.2.2.2.1.2.2.2.2.2.2.2.2.1 n'.2.2.2.1.2.2.2.2.2.2.2.2.2.1 n'.2.2.2.1.2.2.2.2.2.2.2.2.2.2.1 n'.2.2.2.1.2.2.2.2.2.2.2.2.2.2.2.1 n'.2.2.2.1.2.2.2.2.2.2.2.2.2.2.2.2 n'.2.2.2.2.1.1 n'.2.2.2.2.1.2.1 n'.2.2.2.2.1.2.2.1 n'.2.2.2.2.1.2.2.2.1 n'.2.2.2.2.1.2.2.2.2.1 n'.2.2.2.2.1.2.2.2.2.2.1 n'.2.2.2.2.1.2.2.2.2.2.2 n'.2.2.2.2.2 mm.1 mm.2.1 mm.2.2.1 mm.2.2.2.1 mm.2.2.2.2.1 mm.2.2.2.2.2.1 mm.2.2.2.2.2.2.1 mm.2.2.2.2.2.2.2.1 mm.2.2.2.2.2.2.2.2.1 mm.2.2.2.2.2.2.2.2.2 b c a=_
  unfold Qvb
  rw [cdn (by omega),List.drop_eq_nil_of_le (by omega),List.map_nil,List.append_nil]
  have:=Zva q n' mm c hl c.length q 0 b (by omega) (by omega) (by omega)
  rw [List.drop_zero] at this
  exact this
 | k+1,m+1,i,b,hk,h,ha=>by
  show Qvb (Qvc q m) (Qt0 q q) (a.length:Int) (i:Int) n'.1 n'.2.1 n'.2.2.1 n'.2.2.2.1.1 n'.2.2.2.1.2.1 n'.2.2.2.1.2.2.1 n'.2.2.2.1.2.2.2.1 n'.2.2.2.1.2.2.2.2.1 n'.2.2.2.1.2.2.2.2.2.1 n'.2.2.2.1.2.2.2.2.2.2.1 n'.2.2.2.1.2.2.2.2.2.2.2.1 n'.2.2.2.1.2.2.2.2.2.2.2.2.1 n'.2.2.2.1.2.2.2.2.2.2.2.2.2.1 n'.2.2.2.1.2.2.2.2.2.2.2.2.2.2.1 n'.2.2.2.1.2.2.2.2.2.2.2.2.2.2.2.1 n'.2.2.2.1.2.2.2.2.2.2.2.2.2.2.2.2 n'.2.2.2.2.1.1 n'.2.2.2.2.1.2.1 n'.2.2.2.2.1.2.2.1 n'.2.2.2.2.1.2.2.2.1 n'.2.2.2.2.1.2.2.2.2.1 n'.2.2.2.2.1.2.2.2.2.2.1 n'.2.2.2.2.1.2.2.2.2.2.2 n'.2.2.2.2.2 mm.1 mm.2.1 mm.2.2.1 mm.2.2.2.1 mm.2.2.2.2.1 mm.2.2.2.2.2.1 mm.2.2.2.2.2.2.1 mm.2.2.2.2.2.2.2.1 mm.2.2.2.2.2.2.2.2.1 mm.2.2.2.2.2.2.2.2.2 b c a=_
  have hi:i<a.length:=by omega
  unfold Qvb Qtr
  rw [cdp (by omega),ct (idx (by omega)),ct (idx (by omega)),Qkb,Qkq hi]
  dsimp only [Option.bind_some]
  rw [cbp (by omega),Qoq (by omega)]
  refine Eq.trans (Zvy n q hq n' mm a c hl d k m (i+1) _ (by omega) (by omega) (by rw [List.length_append,List.length_singleton];omega)) ?_
  rw [List.drop_eq_getElem_cons hi,List.map_cons]
  simp only [List.append_assoc,List.singleton_append,List.cons_append];rfl
theorem Zha (ring:List Qo4) (top:Int):∀ (k:Nat) (n:Int) (a:List Qo4) (b:Qmq),(Z0j ring top k n a b).1.length≤a.length+k∧(Z0j ring top k n a b).2.length≤b.length+k
 | 0,n,a,b=>⟨Nat.le_refl _,Nat.le_refl _⟩
 | k+1,n,a,b=>by
  unfold Z0j
  split
  ·exact ⟨Nat.le_add_right _ _,Nat.le_add_right _ _⟩
  ·split
   ·rename_i i _
    have:=Zha ring top k (n+1) (a++[i]) b
    rw [List.length_append,List.length_singleton] at this;omega
   ·have:=Zha ring top k (n+1) a (Zrz b n)
    have h2:=Zrf b n
    omega
theorem Zhg (f:Qo3) (lo hi:Int):(Qoz f lo hi).1.length≤8∧(Qoz f lo hi).2.length≤8:=by
 unfold Qoz
 split
 ·simp
 ·have:=Zha f.2.2.1 (min hi (f.1 - 1)) 8 lo [] []
  simp at this;exact this
theorem Zh8 (t:Tie) (f:Qo3) (m:Qka):(Qxk t f m).length≤16:=by
 unfold Qxk
 have:=Zhg f m.lo m.hi
 split
 ·split
  ·rw [List.length_append,List.length_map,List.length_map];omega
  ·simp
 ·simp
theorem Zwh {n':Z27} (hk:KOk n'.2.2.2.1.2.2.2.2.2.2.2.2.2.2.2.2) (hf:FOk n'.2.2.2.2.1) {mm:Qka} (h1:1≤mm.lo∧mm.lo≤1000000) (h2:mm.hi≤1000000):Zb0 n' mm=some ((Qxk n'.2.2.2.1 n'.2.2.2.2.1 mm,()),()):=by
 have key:∀ q,100000<q→Z58 (Qvc q q) n' mm=some ((Qxk n'.2.2.2.1 n'.2.2.2.2.1 mm,()),()):=by
  intro q hq
  unfold Z58 Qxk
  rw [show h12 (g3 n')=n'.2.2.2.1.2.2.2.2.2.2.2.2.2.2.2.2 from rfl,Zqv hk,show mm.2.1=mm.fr from rfl]
  dsimp only [Option.bind_some]
  cases b:Qwx n'.2.2.2.1.2.2.2.2.2.2.2.2.2.2.2.2 mm.fr with
  | none=>rfl
  | some k=>
   dsimp only
   rw [nt,cond_false,show g3 mm=mm.inc from rfl,Z8q]
   by_cases a:k.2.1=mm.inc
   ·rw [if_pos a,if_pos a,show g4 n'=n'.2.2.2.2.1 from rfl,show g7 mm=mm.lo from rfl,show g8 mm=mm.hi from rfl,Zw7 hf _ _ h1 h2]
    dsimp only [Option.bind_some]
    have hl:=Zhg n'.2.2.2.2.1 mm.lo mm.hi
    have:=Zvy 0 q (by omega) n' mm (Qoz n'.2.2.2.2.1 mm.lo mm.hi).1 (Qoz n'.2.2.2.2.1 mm.lo mm.hi).2 (by omega) (by omega) (Qoz n'.2.2.2.2.1 mm.lo mm.hi).1.length q 0 [] (by omega) (by omega) (by simp)
    rw [List.drop_zero,List.nil_append] at this
    exact this
   ·rw [if_neg a,if_neg a]
 exact key 1099511627776 (by decide)
theorem Zk9 (t:Tie) (m:Qka) (lo:Int):(Qt3 t m lo).2.length≤1:=by
 have c1:∀ t:Tie,(Z5o t m lo).2.length≤1:=by
  intro t
  obtain ⟨id,inc,now,par,pc,gd,pt,ep,bn,asked,til,sp,kids⟩:=t
  obtain ⟨kd,fr,to,mi,me,ag,pa,l,hi,tx⟩:=m
  rw [Z5o]
  split
  ·split<;>simp
  ·split
   ·rw [Qyq]
    split
    ·simp
    ·split
     ·simp
     ·split<;>simp
   ·split
    ·split
     ·simp
     ·split<;>simp
    ·split
     ·split<;>simp
     ·split
      ·split
       ·simp
       ·split
        ·simp
        ·split<;>simp
      ·split<;>simp
 obtain ⟨id,inc,now,par,pc,gd,pt,ep,bn,asked,til,sp,kids⟩:=t
 obtain ⟨kd,fr,to,mi,me,ag,pa,l,hi,tx⟩:=m
 rw [Qt3]
 split
 ·simp
 ·split
  ·exact c1 _
  ·exact c1 _
theorem Zyk {N:Int} {n:Z27} (h:NOk N n) (hN:N+1≤562949953421312) {b:List Int} (hb:Qkf b) (hl:b.length≤1000000000) {m:Qka} (ht:Zjz b=some m) (p:m.to=n.2.2.2.1.1):Qx7 n b=some (((Zjm n m).1,(Zjm n m).2,()),()):=by
 have a:=(Z9n ht).1
 have o:=Z3w a
 have hm:=o.msm
 have l:=h.feed.next
 have hc:=Ztb h hm hN
 have k:m.kd=8→1≤m.lo:=by
  intro e
  unfold Zoz at a
  simp only [Bool.and_eq_true] at a
  have hf:=a.2.2.2.2
  unfold Qyr at hf
  have e':m.1=8:=e
  simp only [e'] at hf
  simp at hf
  exact (Qkt.1 hf.2.1.1).1
 unfold Qx7
 rw [Zw3 h.nsm]
 dsimp only [Option.bind_some]
 rw [h.on,nt,cond_false,Zdp b hb hl,ht,show Zup (some m)=((m,true,()),()) from rfl]
 dsimp only [Option.bind_some]
 rw [nt,cond_false,Zqu (show m.2.2.1=(g3 n).1 from p)]
 have e1:(if 1>(g4 n).1 then 1 else (g4 n).1)=max n.2.2.2.2.1.1 1:=by show (if 1>n.2.2.2.2.1.1 then 1 else n.2.2.2.2.1.1)=_;split<;>omega
 rw [e1,show g3 n=n.2.2.2.1 from rfl,Zya h.tie hN hm]
 dsimp only [Option.bind_some]
 have hT:=Zda h.tie hm (max n.2.2.2.2.1.1 1) hN
 have q:=Zk9 n.2.2.2.1 m (max n.2.2.2.2.1.1 1)
 generalize hr:Qt3 n.2.2.2.1 m (max n.2.2.2.2.1.1 1)=r at *
 have hx:∀ f:Qo3,(u4 (u3 n r.1) f)=(n.1,n.2.1,n.2.2.1,r.1,f,n.2.2.2.2.2):=fun f=>rfl
 have j:Z5l (u3 n r.1) m (g3 n.2.2.2.1)=some ((Qwj r.1 n.2.2.2.2.1 m n.2.2.2.1.2.2.2.1,()),()):=Zzk (n:=(u3 n r.1)) h.feed hm _
 have c:=Zir (t:=r.1) h.feed (m:=m) n.2.2.2.1.2.2.2.1
 have g:=Zqk r.1 n.2.2.2.2.1 m n.2.2.2.1.2.2.2.1
 have i:=Zw3 (n:=(n.1,n.2.1,n.2.2.1,r.1,Qwj r.1 n.2.2.2.2.1 m n.2.2.2.1.2.2.2.1,n.2.2.2.2.2)) ⟨hT.pt,hT.kids.len,c.sm⟩
 have d:=Zuo (n':=(n.1,n.2.1,n.2.2.1,r.1,Qwj r.1 n.2.2.2.2.1 m n.2.2.2.1.2.2.2.1,n.2.2.2.2.2)) g c.sm hT.kids.len
 have s:=Zk8 r.1 hT.kids.len (Zbt n.2.2.2.2.1 (Qwj r.1 n.2.2.2.2.1 m n.2.2.2.1.2.2.2.1))
 have u:(Zbt n.2.2.2.2.1 (Qwj r.1 n.2.2.2.2.1 m n.2.2.2.1.2.2.2.1)).length≤10000000:=by unfold Zbt;rw [List.length_drop];have:=c.sm.log;omega
 have ec:Zjm n m=((n.1,n.2.1,n.2.2.1,r.1,Qwj r.1 n.2.2.2.2.1 m n.2.2.2.1.2.2.2.1,n.2.2.2.2.2),(r.2++(if m.kd=8 then Qxk r.1 n.2.2.2.2.1 m else []))++dnM r.1 (Zbt n.2.2.2.2.1 (Qwj r.1 n.2.2.2.2.1 m n.2.2.2.1.2.2.2.1))):=by unfold Zjm;rw [hr]
 rw [ec,show m.1=m.kd from rfl,ceq,j]
 by_cases k8:m.kd=8
 ·have v:=Zh8 r.1 n.2.2.2.2.1 m
  rw [if_pos k8,if_pos k8,show Zb0 (u3 n r.1) m=some ((Qxk r.1 n.2.2.2.2.1 m,()),()) from Zwh (n':=(u3 n r.1)) hT.kids h.feed ⟨k k8,hm.lo.2⟩ hm.hi.2]
  dsimp only [Option.bind_some]
  rw [cbp (by omega),hx,i]
  dsimp only [Option.bind_some]
  rw [show g4 n=n.2.2.2.2.1 from rfl,d]
  dsimp only [Option.bind_some]
  rw [cbp (by rw [List.length_append];show _+(dnM r.1 _).length≤_;omega)]
 ·rw [if_neg k8,if_neg k8,List.append_nil]
  dsimp only [Option.bind_some]
  rw [hx,i]
  dsimp only [Option.bind_some]
  rw [show g4 n=n.2.2.2.2.1 from rfl,d]
  dsimp only [Option.bind_some]
  rw [cbp (by show _+(dnM r.1 _).length≤_;omega)]
def hiM (h:Int):Qka→Qka
 | (kd,fr,to,mi,me,ag,pa,lo,hi,tx)=>if kd=5 then (kd,fr,to,mi,me,ag,pa,lo,h,tx) else (kd,fr,to,mi,me,ag,pa,lo,hi,tx)
def X0q (t:Tie):Option (Int × Int)→List Qka
 | some s=>[(8,t.1,t.2.2.2.1,t.2.1,0,0,[],s.1,s.2,ebA)]
 | none=>[]
def Zjd (n:Z27):Z27 × List Qka:=
 if (Qxr n.2.2.2.1).1.2.2.2.1=0 then ((n.1,n.2.1,n.2.2.1,(Qxr n.2.2.2.1).1,n.2.2.2.2.1,n.2.2.2.2.2),(Qxr n.2.2.2.1).2.map (hiM (max 0 (n.2.2.2.2.1.1 - 1))))
 else ((n.1,n.2.1,n.2.2.1,(Qxr n.2.2.2.1).1,(Z6r n.2.2.2.2.1 (Qxr n.2.2.2.1).1.2.2.1).1,n.2.2.2.2.2),((Qxr n.2.2.2.1).2.map (hiM (max 0 (n.2.2.2.2.1.1 - 1)))++X0q (Qxr n.2.2.2.1).1 (Z6r n.2.2.2.2.1 (Qxr n.2.2.2.1).1.2.2.1).2)++dnM (Qxr n.2.2.2.1).1 (Zbt n.2.2.2.2.1 (Z6r n.2.2.2.2.1 (Qxr n.2.2.2.1).1.2.2.1).1))
def Zwx (n:Z27) (s:ByteArray):Z27 × List Qka × Bool:=
 if n.2.2.2.1.1≠1 then (n,[],false) else
 match Zyc n.2.2.2.2.1 s with
 | some g=>((n.1,n.2.1,n.2.2.1,n.2.2.2.1,g,n.2.2.2.2.2),dnM n.2.2.2.1 (Zbt n.2.2.2.2.1 g),true)
 | none=>(n,[],false)
def X0y (n:Z27):Z27:=(n.1,n.2.1,n.2.2.1,n.2.2.2.1,n.2.2.2.2.1,min (n.2.2.2.2.2+1) 1073741824)
def Zg2 (n:Z27) (b:List Int):Z27 × List Qka:=
 match Zjz b with
 | some m=>if m.to=n.2.2.2.1.1 then Zjm n m else (X0y n,[])
 | none=>(X0y n,[])
theorem Zvv {f g:Qo3} {s:ByteArray} (h:Zyc f s=some g):Ext f g:=by
 unfold Zyc at h
 simp only at h
 split at h
 ·cases h
 ·cases h
  exact ⟨[Za2 (max f.1 1,s)],rfl,fun e he=>by rcases List.mem_singleton.1 he with rfl;exact .inl rfl⟩
theorem NOk.mono {N M:Int} {n:Z27} (h:NOk N n) (h1:N≤M) (h2:M≤562949953421312):NOk M n:=⟨h.on,h.inc,h.tie.mono h1 h2,h.feed,h.root,h.rootw,h.bad⟩
theorem Zyw {N:Int} {n:Z27} (h:NOk N n) (hN:N+1≤562949953421312):NOk (N+1) (Zjd n).1:=by
 have ht:=Zay h.tie hN
 have hi:=Zry n.2.2.2.1
 have a:=ht.now
 unfold Zjd
 split
 ·exact ⟨h.on,h.inc,ht,h.feed,hi.2.2 h.root,fun e=>h.rootw (hi.1.symm.trans e),h.bad⟩
 ·rename_i hp
  refine ⟨h.on,h.inc,ht,(Zig h.feed a.1 (by omega)).1,hi.2.2 h.root,fun e=>?_,h.bad⟩
  exact absurd ((hi.2.2 h.root) e).1 hp
theorem X0e {N:Int} {n:Z27} (h:NOk N n) (s:ByteArray):NOk N (Zwx n s).1:=by
 unfold Zwx
 split
 ·exact h
 ·rename_i h1
  have e1:n.2.2.2.1.1=1:=Decidable.not_not.1 h1
  split
  ·rename_i g hg
   have:=Zrm h.feed (h.rootw e1) hg
   exact ⟨h.on,h.inc,h.tie,this.1,h.root,fun _=>this.2,h.bad⟩
  ·exact h
theorem Zxv {N:Int} {n:Z27} (h:NOk N n) (hN:N+1≤562949953421312) (b:List Int):NOk (N+1) (Zg2 n b).1:=by
 have hb:NOk (N+1) (X0y n):=by
  have:=h.bad
  exact ⟨h.on,h.inc,h.tie.mono (by omega) hN,h.feed,h.root,h.rootw,by show 0≤min (n.2.2.2.2.2+1) 1073741824∧min (n.2.2.2.2.2+1) 1073741824≤1073741824;omega⟩
 unfold Zg2
 split
 ·rename_i m hm
  split
  ·exact Ztb h (Z3w (Z9n hm).1).msm hN
  ·exact hb
 ·exact hb
theorem Zxt {t:Tie} (h:t.2.2.2.2.2.2.2.2.2.2.2.2.length≤8):(Zju t).length≤9:=by
 unfold Zju
 split
 ·rw [List.length_append]
  have h1:(if t.2.2.2.1≠0 then [Zwg t 4 t.2.2.2.1] else []).length≤1:=by split<;>simp
  have h2:(if Qu3 t=true then t.2.2.2.2.2.2.2.2.2.2.2.2.map fun k=>Zuk t 5 k.1 else []).length≤8:=by
   split
   ·rw [List.length_map];exact h
   ·simp
  omega
 ·simp
theorem Zn2 {N:Int} {t:Tie} (h:TOk N t) (hN:N+1≤562949953421312):(Qxr t).2.length≤10:=by
 have:=Zxt (t:=(Qzq t).1) (Zay h hN).kids.len
 have:=Zrc t
 show ((Qzq t).2++Zju (Qzq t).1).length≤10
 rw [List.length_append];omega
theorem Zyu (t:Tie) (s:Option (Int × Int)):(X0q t s).length≤1:=by cases s<;>simp [X0q]
theorem Zzt (h:Int) (m:Qka):hiM h m=if m.1=5 then (m.1,m.2.1,m.2.2.1,m.2.2.2.1,m.2.2.2.2.1,m.2.2.2.2.2.1,m.2.2.2.2.2.2.1,m.2.2.2.2.2.2.2.1,h,m.2.2.2.2.2.2.2.2.2) else m:=by
 obtain ⟨kd,fr,to,mi,me,ag,pa,lo,hi,tx⟩:=m;rfl
theorem X1l (x:Int) (h:-1000000000000≤x∧x≤1000000000000):(if 0>wJ (x - 1) then 0 else wJ (x - 1))=max 0 (x - 1):=by
 rw [Qor (by omega) (by omega)];split<;>omega
theorem Zxg (n:Nat) (y1:Bool) (y2:Int) (y3:ByteArray) (s1 s2 s3 s4 s5 s6:Int) (s7:List Int) (s8 s9 h j k:Int) (a:List Kid) (f1 f2:Int) (f3 f4:List Qo4) (f5:List Evt) (f6 f7:Int) (yb:Int) (z1:Int) (z2:ByteArray) (z3 z4 z5 z6 z7 z8 z9 s t u v w x y z A:Int) (B:List Int) (C:List Kid) (D z22:List Qo4) (E:List Evt) (x1:Bool) (x2:Int) (x3:ByteArray) (t1 t2 t3 t4 t5 t6:Int) (t7:List Int) (t8 t9 o p r:Int) (kids:List Kid) (g1 g2:Int) (b d:List Qo4) (e:List Evt) (f g bd:Int) (hf:0≤f1∧f1≤1000001) (len:Nat) (hl:len≤1000000):∀ (c m i:Nat) (l:List Qka),i+c=len→c<m→l.length=len →
  Qw8 n m (len:Int) (i:Int) y1 y2 y3 s1 s2 s3 s4 s5 s6 s7 s8 s9 h j k a f1 f2 f3 f4 f5 f6 f7 yb z1 z2 z3 z4 z5 z6 z7 z8 z9 s t u v w x y z A B C D z22 E x1 x2 x3 t1 t2 t3 t4 t5 t6 t7 t8 t9 o p r kids g1 g2 b d e f g bd l=Qu4 (Qw8 n 0) (len:Int) (len:Int) y1 y2 y3 s1 s2 s3 s4 s5 s6 s7 s8 s9 h j k a f1 f2 f3 f4 f5 f6 f7 yb z1 z2 z3 z4 z5 z6 z7 z8 z9 s t u v w x y z A B C D z22 E x1 x2 x3 t1 t2 t3 t4 t5 t6 t7 t8 t9 o p r kids g1 g2 b d e f g bd (l.take i++(l.drop i).map (hiM (max 0 (f1 - 1))))
 | c,0,i,l,_,hm,_=>by omega
 | 0,m+1,i,l,hc,hm,F=>by
  have hi:i=len:=by omega
  subst hi
  rw [List.drop_eq_nil_of_le (by omega),List.take_of_length_le (by omega),List.map_nil,List.append_nil]
  show Qu4 (Qw8 n m) (i:Int) (i:Int) y1 y2 y3 s1 s2 s3 s4 s5 s6 s7 s8 s9 h j k a f1 f2 f3 f4 f5 f6 f7 yb z1 z2 z3 z4 z5 z6 z7 z8 z9 s t u v w x y z A B C D z22 E x1 x2 x3 t1 t2 t3 t4 t5 t6 t7 t8 t9 o p r kids g1 g2 b d e f g bd l=_
  unfold Qu4
  rw [cdn (show ¬ ((i:Int)<(i:Int)) by omega),cdn (show ¬ ((i:Int)<(i:Int)) by omega)]
 | c+1,m+1,i,l,hc,hm,F=>by
  have hi:i<l.length:=by omega
  have hI:(ix (i:Int) (l.length:Int))=true:=idx (by omega)
  have hw:=Qoq (i:=i) (by omega)
  have e1:∀ q:Qka,hiM (max 0 (f1 - 1)) l[i]=q→(l.set i q).take (i+1)++((l.set i q).drop (i+1)).map (hiM (max 0 (f1 - 1)))=l.take i++(l.drop i).map (hiM (max 0 (f1 - 1))):=by
   intro q hq
   rw [List.drop_eq_getElem_cons hi,List.map_cons,hq,List.drop_set_of_lt (by omega),List.take_set,List.take_succ_eq_append_getElem hi,List.set_append_right _ _ (by rw [List.length_take];omega)]
   rw [show i - (l.take i).length=0 by rw [List.length_take];omega]
   simp
  have ih:=fun q=>Zxg n y1 y2 y3 s1 s2 s3 s4 s5 s6 s7 s8 s9 h j k a f1 f2 f3 f4 f5 f6 f7 yb z1 z2 z3 z4 z5 z6 z7 z8 z9 s t u v w x y z A B C D z22 E x1 x2 x3 t1 t2 t3 t4 t5 t6 t7 t8 t9 o p r kids g1 g2 b d e f g bd hf len hl c m (i+1) q (by omega) (by omega)
  have hx:=Zzt (max 0 (f1 - 1)) l[i]
  show Qu4 (Qw8 n m) (len:Int) (i:Int) y1 y2 y3 s1 s2 s3 s4 s5 s6 s7 s8 s9 h j k a f1 f2 f3 f4 f5 f6 f7 yb z1 z2 z3 z4 z5 z6 z7 z8 z9 s t u v w x y z A B C D z22 E x1 x2 x3 t1 t2 t3 t4 t5 t6 t7 t8 t9 o p r kids g1 g2 b d e f g bd l=_
  rw [Qu4]
  rw [cdp (show (i:Int)<(len:Int) by omega)]
  simp only [hI,cond_true,Qkb,Qkq hi,hw,X1l f1 (by omega)]
  by_cases k5:l[i].1=5
  ·rw [Z65 k5]
   rw [if_pos k5] at hx
   refine Eq.trans (ih _ (by rw [List.length_set];exact F)) ?_
   rw [e1 _ hx]
  ·rw [Z3n k5]
   rw [if_neg k5] at hx
   refine Eq.trans (ih l F) ?_
   have:=e1 l[i] hx
   rw [List.set_getElem_self] at this
   rw [this]
theorem Zz4 {N:Int} {n:Z27} (h:NOk N n) (hN:N+1≤562949953421312):Znr n=some (((Zjd n).1,(Zjd n).2,()),()):=by
 have key:∀ q m,100<m→Zaz (Qw8 q m) n=some (((Zjd n).1,(Zjd n).2,()),()):=by
  intro q m hm
  have hf:=h.feed
  have j:=hf.next
  have hT:=Zay h.tie hN
  have d:=Zn2 h.tie hN
  have a:=hT.now
  unfold Zaz
  rw [Zw3 h.nsm]
  dsimp only [Option.bind_some]
  rw [h.on,nt,cond_false,show g3 n=n.2.2.2.1 from rfl,Zyp h.tie hN]
  dsimp only [Option.bind_some]
  unfold Zjd
  generalize hr:Qxr n.2.2.2.1=r at *
  refine Eq.trans (Zxg q _ _ _ _ _ _ _ _ _ _ _ _ _ _ _ _ n.2.2.2.2.1.1 _ _ _ _ _ _ _ _ _ _ _ _ _ _ _ _ _ _ _ _ _ _ _ _ _ _ _ _ _ _ _ _ _ _ _ _ _ _ _ _ _ _ _ _ _ _ _ _ _ _ _ _ _ _ (by omega) r.2.length (by omega) r.2.length m 0 r.2 (by omega) (by omega) rfl) ?_
  rw [List.drop_zero,List.take_zero,List.nil_append]
  rw [Qu4,cdn (show ¬ ((r.2.length:Int)<(r.2.length:Int)) by omega),ceq]
  by_cases hp:r.1.2.2.2.1=0
  ·rw [if_pos hp,if_pos hp,h.on]
  ·rw [if_neg hp,if_neg hp]
   have e:=Zig hf a.1 (show r.1.2.2.1≤1125899906842624 by omega)
   have c:=Zsg n.2.2.2.2.1 r.1.2.2.1
   rw [show Zdu (n.2.2.2.2.1.1,n.2.2.2.2.1.2.1,n.2.2.2.2.1.2.2.1,n.2.2.2.2.1.2.2.2.1,n.2.2.2.2.1.2.2.2.2.1,n.2.2.2.2.1.2.2.2.2.2.1,n.2.2.2.2.1.2.2.2.2.2.2) r.1.2.2.1=_ from Zyt hf r.1.2.2.1 ⟨a.1,by omega⟩]
   dsimp only [Option.bind_some]
   have b:=Zuo (n':=(n.1,n.2.1,n.2.2.1,r.1,(Z6r n.2.2.2.2.1 r.1.2.2.1).1,n.2.2.2.2.2)) c e.1.sm hT.kids.len
   have f:=Zk8 r.1 hT.kids.len (Zbt n.2.2.2.2.1 (Z6r n.2.2.2.2.1 r.1.2.2.1).1)
   have i:(Zbt n.2.2.2.2.1 (Z6r n.2.2.2.2.1 r.1.2.2.1).1).length≤10000000:=by unfold Zbt;rw [List.length_drop];have:=e.1.sm.log;omega
   have g:(r.2.map (hiM (max 0 (n.2.2.2.2.1.1 - 1)))).length≤10:=by rw [List.length_map];exact d
   rw [h.on] at b ⊢
   cases hs:(Z6r n.2.2.2.2.1 r.1.2.2.1).2 with
   | none=>
    dsimp only
    rw [cond_false,show Qy4 _ _=_ from b]
    dsimp only [Option.bind_some]
    rw [cbp (by omega),X0q,List.append_nil]
   | some s=>
    dsimp only
    rw [cond_true]
    unfold Qtr
    dsimp only [Option.bind_some]
    rw [cbp (by omega),show Qy4 _ _=_ from b]
    dsimp only [Option.bind_some]
    rw [cbp (by rw [List.length_append,List.length_singleton];omega)]
    rfl
 exact key 1099511627776 1099511627776 (by decide)
theorem X0c {N:Int} {n:Z27} (h:NOk N n) (s:ByteArray) (hs:s.size≤1000000):Zmo n s=some (((Zwx n s).1,(Zwx n s).2.1,(Zwx n s).2.2,()),()):=by
 unfold Zmo
 rw [Zw3 h.nsm]
 dsimp only [Option.bind_some]
 rw [h.on,nt,cond_false,Z8q,show (g3 n).1=n.2.2.2.1.1 from rfl]
 unfold Zwx
 by_cases h1:n.2.2.2.1.1=1
 ·rw [if_pos h1,if_neg (fun e=>e h1),show g4 n=n.2.2.2.2.1 from rfl,X13 h.feed s hs]
  dsimp only [Option.bind_some]
  cases hg:Zyc n.2.2.2.2.1 s with
  | none=>rfl
  | some g=>
   dsimp only
   have:=Zrm h.feed (h.rootw h1) hg
   rw [nt,cond_false,show Qy4 (u4 n g) n.2.2.2.2.1=_ from Zuo (n':=(n.1,n.2.1,n.2.2.1,n.2.2.2.1,g,n.2.2.2.2.2)) (Zvv hg) this.1.sm h.tie.kids.len]
   rfl
 ·rw [if_neg h1,if_pos h1]
theorem Zwc {N:Int} {n:Z27} (h:NOk N n) (hN:N+1≤562949953421312) {b:List Int} (hb:Qkf b) (hl:b.length≤1000000000):Qx7 n b=some (((Zg2 n b).1,(Zg2 n b).2,()),()):=by
 have c:=h.bad
 have e:(if 1073741824<wJ (n.2.2.2.2.2+1) then 1073741824 else wJ (n.2.2.2.2.2+1))=min (n.2.2.2.2.2+1) 1073741824:=by
  rw [Qor (by omega) (by omega)];split<;>omega
 have fin:(some (((e5 n (if 1073741824<wJ ((h5 n)+1) then 1073741824 else wJ ((h5 n)+1))),[],()),()):Option (((Z27) × (List Qka) × Unit) × Unit))=some ((X0y n,[],()),()):=by
  show some (((n.1,n.2.1,n.2.2.1,n.2.2.2.1,n.2.2.2.2.1,if 1073741824<wJ (n.2.2.2.2.2+1) then 1073741824 else wJ (n.2.2.2.2.2+1)),[],()),())=_
  rw [e];rfl
 unfold Zg2
 cases ht:Zjz b with
 | none=>
  unfold Qx7
  rw [Zw3 h.nsm]
  dsimp only [Option.bind_some]
  rw [h.on,nt,cond_false,Zdp b hb hl,ht]
  exact fin
 | some m=>
  dsimp only
  by_cases a:m.to=n.2.2.2.1.1
  ·rw [if_pos a];exact Zyk h hN hb hl ht a
  ·rw [if_neg a]
   unfold Qx7
   rw [Zw3 h.nsm]
   dsimp only [Option.bind_some]
   rw [h.on,nt,cond_false,Zdp b hb hl,ht,show Zup (some m)=((m,true,()),()) from rfl]
   dsimp only [Option.bind_some]
   rw [nt,cond_false,Ztu (show m.2.2.1≠(g3 n).1 from a)]
   exact fin
def Zdk (n:Z27):Z27:=(false,n.2.1,zB,X0p,(0,0,[],[],[],0,0),n.2.2.2.2.2)
theorem Zpm (n:Z27):NSm (Zdk n):=⟨by simp [Zdk],by simp [Zdk],⟨by simp [Zdk],by simp [Zdk],by simp [Zdk],by simp [Zdk]⟩⟩
theorem Zs4 {N:Int} {n:Z27} (h:NOk N n):Za1 n=some ((Zdk n,()),()):=by
 unfold Za1
 rw [h.on];rfl
theorem X0i {N:Int} {n:Z27} (h:NOk N n):Zmj n=some ((Zdk n,Zgh n.2.2.2.1,()),()):=by
 unfold Zmj
 rw [Zs4 h,show g3 n=n.2.2.2.1 from rfl,Zy2 h.tie,h.on]
 rfl
end Go.PE
