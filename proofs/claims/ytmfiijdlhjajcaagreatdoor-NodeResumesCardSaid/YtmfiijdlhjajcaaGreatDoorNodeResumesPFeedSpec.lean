/-
  Plain lemmas on the functions.
  Conditions: none.
-/
import Derived.Test.YtmfiijdlhjajcaaGreatDoorNodeResumesPKidSpec
set_option linter.unusedVariables false
set_option linter.unusedSimpArgs false
namespace Go.PE
abbrev Qnf:=Int × ByteArray
abbrev Evt:=Int × Int × Int × ByteArray × Int
abbrev Qnq:=Int × Int × List Qnf × List Qnf × List Evt × Int × Int
abbrev Z92 (i:Qnf):Int:=i.1
def Zmi (l:List Qnf) (n:Int):Option Qnf:=Zek Z92 n l
def Z9r (l:List Qnf) (i:Qnf):List Qnf:=
 match l.getLast? with
 | some x=>if i.1≤x.1 then l else (l++[i]).drop (l.length+1 - 6)
 | none=>[i]
def Znu (l:List Qnf) (next:Int) (x:Qnf):List Qnf:=if x.1<next∨8≤x.1 - next∨(Zmi l x.1).isSome=true then l else Zin Z92 x l
def Z6a (i:Qnf):Evt:=(1,i.1,i.1,i.2,0)
def Zdy (lo hi why:Int):Evt:=(2,lo,hi,(⟨#[]⟩:ByteArray),why)
def Qw6 (top:Int):Int→List Qnf→List Qnf→List Evt→Int→Int→Qnq
 | next,ring,[],log,a,b=>(next,top,ring,[],log,a,b)
 | next,ring,x::r,log,a,b=>if x.1=next then Qw6 top (next+1) (Z9r ring x) r (log++[Z6a x]) 0 0 else (next,top,ring,x::r,log,a,b)
def Qwl (f:Qnq):Qnq:=Qw6 f.2.1 f.1 f.2.2.1 f.2.2.2.1 f.2.2.2.2.1 f.2.2.2.2.2.1 f.2.2.2.2.2.2
def Zmf (l:List Qnf):Int:=match l with | []=>0 | x::_=>x.1
def Qot (hi why:Int) (f:Qnq):Qnq:=
 let to:=match f.2.2.2.1 with | []=>hi | x::_=>if x.1≤hi then x.1 - 1 else hi
 let g:Qnq:=if f.1≤to then (to+1,f.2.1,f.2.2.1,f.2.2.2.1,f.2.2.2.2.1++[Zdy f.1 to why],0,0) else (f.1,f.2.1,f.2.2.1,f.2.2.2.1,f.2.2.2.2.1,0,0)
 if g.1≤hi then Qwl g else g
def Qtg (hi why:Int):Nat→Qnq→Qnq
 | 0,f=>f
 | n+1,f=>if f.1≤hi then Qtg hi why n (Qot hi why f) else f
def Qvy (f:Qnq) (hi why:Int):Qnq:=if f.1<1∨1000000<hi then f else Qtg hi why (f.2.2.2.1.length+1) f
def Qkm (f:Qnq) (top:Int):Qnq:=if 0<f.1∧top≤1000000 then (f.1,max f.2.1 top,f.2.2) else f
def Qws (f:Qnq) (next:Int):Qnq:=if 0<f.1 then Qkm f (next - 1) else if 1≤next∧next≤1000000 then (next,f.2) else f
def Z5t (f:Qnq) (i:Qnf):Qnq:=
 if f.1=0∨i.1<1∨1000000<i.1∨12<i.2.size then f else
 let g:=Qkm f i.1
 Qwl (g.1,g.2.1,g.2.2.1,Znu g.2.2.2.1 g.1 i,g.2.2.2.2)
def Z5w (f:Qnq) (lo hi:Int):Qnq:=
 if f.1=0∨lo<1∨hi<lo∨1000000<hi then f else
 let g:=Qkm f hi
 if g.1<lo∨hi<g.1 then g else Qwl (Qvy g hi 1)
def Zhk (f:Qnq):Option (Int × Int):=
 let hi:=match f.2.2.2.1 with | []=>f.2.1 | x::_=>x.1 - 1
 if f.1=0∨hi<f.1 then none else some (f.1,hi)
def Zmw (f:Qnq) (now:Int):Qnq × Option (Int × Int):=
 match Zhk f with
 | none=>(f,none)
 | some s=>
  if f.2.2.2.2.2.1=0∨f.2.2.2.2.2.2≤now then
   if 3≤f.2.2.2.2.2.1 then (Qwl (Qvy f s.2 2),none)
   else ((f.1,f.2.1,f.2.2.1,f.2.2.2.1,f.2.2.2.2.1,f.2.2.2.2.2.1+1,now+2*2 ^ f.2.2.2.2.2.1.toNat),some s)
  else (f,none)
def Zp8 (l:List (Int × Int)) (n:Int):List (Int × Int):=
 match l.getLast? with
 | some s=>if s.2+1=n then l.dropLast++[(s.1,n)] else l++[(n,n)]
 | none=>[(n,n)]
def Z1f (ring:List Qnf) (top:Int):Nat→Int→List Qnf→List (Int × Int)→List Qnf × List (Int × Int)
 | 0,n,a,b=>(a,b)
 | k+1,n,a,b=>
  if top<n then (a,b) else
  match Zmi ring n with
  | some i=>Z1f ring top k (n+1) (a++[i]) b
  | none=>Z1f ring top k (n+1) a (Zp8 b n)
def Qxj (f:Qnq) (lo hi:Int):List Qnf × List (Int × Int):=if f.1=0 then ([],[]) else Z1f f.2.2.1 (min hi (f.1 - 1)) 8 lo [] []
structure FOk (f:Qnq):Prop where
 next:0≤f.1∧f.1≤1000001
 top:0≤f.2.1∧f.2.1≤1000000
 ring:Zan Z92 f.2.2.1
 ring1:∀ i∈f.2.2.1,1≤i.1∧i.1<f.1
 ringl:f.2.2.1.length≤6
 win:Zan Z92 f.2.2.2.1
 win1:∀ i∈f.2.2.2.1,f.1<i.1∧i.1≤1000000∧i.1<f.1+8
 win0:f.1=0→f.2.2.2.1=[]
 log:(f.2.2.2.2.1.length:Int)≤f.1
 tries:0≤f.2.2.2.2.2.1∧f.2.2.2.2.2.1≤3
 due:0≤f.2.2.2.2.2.2∧f.2.2.2.2.2.2≤2251799813685248
structure Zj3 (f:Qnq):Prop where
 next:1≤f.1∧f.1≤1000001
 top:0≤f.2.1∧f.2.1≤1000000
 ring:Zan Z92 f.2.2.1
 ring1:∀ i∈f.2.2.1,1≤i.1∧i.1<f.1
 ringl:f.2.2.1.length≤6
 win:Zan Z92 f.2.2.2.1
 win1:∀ i∈f.2.2.2.1,f.1≤i.1∧i.1≤1000000∧i.1<f.1+8
 log:(f.2.2.2.2.1.length:Int)≤f.1
 tries:0≤f.2.2.2.2.2.1∧f.2.2.2.2.2.1≤3
 due:0≤f.2.2.2.2.2.2∧f.2.2.2.2.2.2≤2251799813685248
theorem FOk.none:FOk (0,0,[],[],[],0,0):=⟨⟨by decide,by decide⟩,⟨by decide,by decide⟩,trivial,fun i h=>(by cases h),by simp,trivial,fun i h=>(by cases h),fun _=>rfl,by simp,⟨by decide,by decide⟩,⟨by decide,by decide⟩⟩
theorem FOk.to' {f:Qnq} (h:FOk f) (h1:1≤f.1):Zj3 f:=⟨⟨h1,h.next.2⟩,h.top,h.ring,h.ring1,h.ringl,h.win,fun i hi=>by have:=h.win1 i hi;exact ⟨by omega,this.2⟩,h.log,h.tries,h.due⟩
theorem Zj8 {α:Type} {key:α→Int} {k:α}:∀ {l:List α},Zan key l→(∀ y∈l,key y<key k)→Zan key (l++[k])
 | [],_,_=>⟨fun y hy=>(by cases hy),trivial⟩
 | x::r,h,hn=>by
  refine ⟨fun y hy=>?_,Zj8 h.2 fun y hy=>hn y (List.mem_cons_of_mem _ hy)⟩
  rcases List.mem_append.1 hy with hy | hy
  ·exact h.1 y hy
  ·rcases List.mem_singleton.1 hy with rfl;exact hn x (List.mem_cons_self ..)
theorem Zj7 {α:Type} {key:α→Int}:∀ (n:Nat) {l:List α},Zan key l→Zan key (l.drop n)
 | 0,_,h=>h
 | n+1,[],h=>trivial
 | n+1,x::r,h=>Zj7 n h.2
theorem Znx {l:List Qnf} {i:Qnf} (h:∀ x∈l,x.1<i.1):Z9r l i=(l++[i]).drop (l.length+1 - 6):=by
 unfold Z9r
 split
 ·rename_i x hx
  have:=h x (List.mem_of_getLast? hx)
  rw [if_neg (by omega)]
 ·rename_i hx
  rw [List.getLast?_eq_none_iff] at hx
  subst hx;rfl
theorem Zor {l:List Qnf} {i:Qnf} (h:Zan Z92 l) (h1:∀ x∈l,1≤x.1∧x.1<i.1) (h2:l.length≤6) (hi:1≤i.1):Zan Z92 (Z9r l i)∧(∀ x∈Z9r l i,1≤x.1∧x.1<i.1+1)∧(Z9r l i).length≤6:=by
 rw [Znx fun x hx=>(h1 x hx).2]
 refine ⟨Zj7 _ (Zj8 h fun y hy=>(h1 y hy).2),fun x hx=>?_,by rw [List.length_drop,List.length_append,List.length_singleton];omega⟩
 rcases List.mem_append.1 (List.mem_of_mem_drop hx) with hx | hx
 ·have:=h1 x hx;omega
 ·rcases List.mem_singleton.1 hx with rfl;omega
theorem z33:(0:Int)≤0∧(0:Int)≤3:=⟨by decide,by decide⟩
theorem z22:(0:Int)≤0∧(0:Int)≤2251799813685248:=⟨by decide,by decide⟩
theorem Zia (top:Int):∀ (w:List Qnf) (next:Int) (ring:List Qnf) (log:List Evt) (a b:Int),Zj3 (next,top,ring,w,log,a,b)→FOk (Qw6 top next ring w log a b)∧next≤(Qw6 top next ring w log a b).1
 | [],next,ring,log,a,b,h=>⟨⟨⟨by have:=h.next.1;show (0:Int)≤next;simp only at this;omega,h.next.2⟩,h.top,h.ring,h.ring1,h.ringl,h.win,fun i hi=>(by cases hi),fun _=>rfl,h.log,h.tries,h.due⟩,Int.le_refl _⟩
 | x::r,next,ring,log,a,b,h=>by
  unfold Qw6
  obtain ⟨h1,h2,h3,h4,h5,h6,h7,h8,h9,h10⟩:=h
  simp only at h1 h2 h3 h4 h5 h6 h7 h8 h9 h10
  by_cases hx:x.1=next
  ·rw [if_pos hx]
   have hx7:=h7 x (List.mem_cons_self ..)
   obtain ⟨a1,a2,a3⟩:=Zor (i:=x) h3 (by rw [hx];exact h4) h5 (by omega)
   have:=Zia top r (next+1) (Z9r ring x) (log++[Z6a x]) 0 0 ⟨by simp only;omega,h2,a1,by rw [hx] at a2;exact a2,a3,h6.2,fun i hi=>by
    have p:=h7 i (List.mem_cons_of_mem _ hi);have q:=h6.1 i hi;simp only [Z92] at q ⊢;omega,by simp only [List.length_append,List.length_singleton];omega,z33,z22⟩
   exact ⟨this.1,by have:=this.2;omega⟩
  ·rw [if_neg hx]
   refine ⟨⟨by simp only;omega,h2,h3,h4,h5,h6,fun i hi=>?_,fun h0=>by simp only at h0;omega,h8,h9,h10⟩,Int.le_refl _⟩
   have p:=h7 i hi
   simp only
   rcases List.mem_cons.1 hi with rfl | hi
   ·omega
   ·have q:=h6.1 i hi;have p':=h7 x (List.mem_cons_self ..);simp only [Z92] at q;omega
theorem Zet {f:Qnq} (h:Zj3 f):FOk (Qwl f)∧f.1≤(Qwl f).1:=Zia _ _ _ _ _ _ _ h
theorem Zi9 {f:Qnq} {hi why:Int} (h:Zj3 f) (hh:f.1≤hi) (h6:hi≤1000000) :
  Zj3 (Qot hi why f)∧f.1<(Qot hi why f).1∧(hi<(Qot hi why f).1∨(Qot hi why f).2.2.2.1.length<f.2.2.2.1.length):=by
 obtain ⟨n,t,r,w,l,a,b⟩:=f
 obtain ⟨h1,h2,h3,h4,h5,h6',h7,h8,h9,h10⟩:=h
 simp only at h1 h2 h3 h4 h5 h6' h7 h8 h9 h10 hh ⊢
 have z:=z33
 have z2:=z22
 cases w with
 | nil=>
  unfold Qot
  simp only
  rw [if_pos hh]
  simp only
  rw [if_neg (by omega)]
  exact ⟨⟨by simp only;omega,h2,h3,fun i hi'=>by have:=h4 i hi';simp only;omega,h5,h6',fun i hi'=>(by cases hi'),by simp only [List.length_append,List.length_singleton];omega,z,z2⟩,by simp only;omega,.inl (by simp only;omega)⟩
 | cons x q=>
  have hx:=h7 x (List.mem_cons_self ..)
  unfold Qot
  simp only
  by_cases h0:x.1≤hi
  ·rw [if_pos h0]
   have key:∀ g:Qnq,g=(x.1,t,r,x::q,g.2.2.2.2.1,0,0)→(g.2.2.2.2.1.length:Int)≤x.1→Zj3 (if g.1≤hi then Qwl g else g)∧n<(if g.1≤hi then Qwl g else g).1∧(hi<(if g.1≤hi then Qwl g else g).1∨(if g.1≤hi then Qwl g else g).2.2.2.1.length<q.length+1):=by
    intro g hg hl
    generalize hL:g.2.2.2.2.1=L at hg hl
    subst hg
    simp only
    rw [if_pos h0]
    have hgo:Qwl (x.1,t,r,x::q,L,0,0)=Qw6 t (x.1+1) (Z9r r x) q (L++[Z6a x]) 0 0:=by
     show Qw6 _ _ _ (x::q) _ _ _=_
     rw [Qw6];simp only [if_pos]
    obtain ⟨a1,a2,a3⟩:=Zor (i:=x) h3 (fun y hy=>by have:=h4 y hy;omega) h5 (by omega)
    have hk:=Zia t q (x.1+1) (Z9r r x) (L++[Z6a x]) 0 0 ⟨by simp only;omega,h2,a1,a2,a3,h6'.2,fun i hi'=>by
     have p:=h7 i (List.mem_cons_of_mem _ hi');have q':=h6'.1 i hi';simp only [Z92] at q' ⊢;omega,by simp only [List.length_append,List.length_singleton];omega,z,z2⟩
    rw [hgo]
    refine ⟨hk.1.to' (by have:=hk.2;omega),by have:=hk.2;omega,.inr ?_⟩
    have hlen:∀ (w:List Qnf) (next:Int) (ring:List Qnf) (log:List Evt) (a b:Int),(Qw6 t next ring w log a b).2.2.2.1.length≤w.length:=by
     intro w
     induction w with
     | nil=>intro next ring log a b;exact Nat.le_refl _
     | cons y s ih=>
      intro next ring log a b
      unfold Qw6
      split
      ·have:=ih (next+1) (Z9r ring y) (log++[Z6a y]) 0 0;rw [List.length_cons];omega
      ·exact Nat.le_refl _
    have:=hlen q (x.1+1) (Z9r r x) (L++[Z6a x]) 0 0
    omega
   rw [List.length_cons]
   by_cases h8':n≤x.1 - 1
   ·rw [if_pos h8']
    exact key _ (by simp only [Prod.mk.injEq,and_true,true_and];omega) (by simp only [List.length_append,List.length_singleton];omega)
   ·rw [if_neg h8']
    exact key _ (by simp only [Prod.mk.injEq,and_true,true_and];omega) (by simp only;omega)
  ·rw [if_neg h0,if_pos hh]
   simp only
   rw [if_neg (by omega)]
   exact ⟨⟨by simp only;omega,h2,h3,fun i hi'=>by have:=h4 i hi';simp only;omega,h5,h6',fun i hi'=>by
    have p:=h7 i hi';simp only
    rcases List.mem_cons.1 hi' with rfl | hi'
    ·omega
    ·have q':=h6'.1 i hi';simp only [Z92] at q';omega,by simp only [List.length_append,List.length_singleton];omega,z,z2⟩,by simp only;omega,.inl (by simp only;omega)⟩
theorem Zjv {hi why:Int} (h6:hi≤1000000):∀ (n:Nat) {f:Qnq},Zj3 f→Zj3 (Qtg hi why n f)∧f.1≤(Qtg hi why n f).1∧(f.2.2.2.1.length<n→hi<(Qtg hi why n f).1)
 | 0,f,h=>⟨h,Int.le_refl _,fun h=>by omega⟩
 | n+1,f,h=>by
  unfold Qtg
  by_cases h1:f.1≤hi
  ·rw [if_pos h1]
   obtain ⟨a,b,c⟩:=Zi9 (why:=why) h h1 h6
   obtain ⟨p,q,r⟩:=Zjv h6 n a
   refine ⟨p,by omega,fun hl=>?_⟩
   rcases c with c | c
   ·omega
   ·exact r (by omega)
  ·rw [if_neg h1];exact ⟨h,Int.le_refl _,fun _=>by omega⟩
theorem Z42 {f:Qnq} (h:Zj3 f) (hi why:Int):Zj3 (Qvy f hi why)∧f.1≤(Qvy f hi why).1:=by
 unfold Qvy
 split
 ·exact ⟨h,Int.le_refl _⟩
 ·have:=Zjv (why:=why) (hi:=hi) (by omega) (f.2.2.2.1.length+1) h
  exact ⟨this.1,this.2.1⟩
theorem Quf {f:Qnq} (h:FOk f) (top:Int):FOk (Qkm f top):=by
 unfold Qkm
 split
 ·rename_i h1
  exact ⟨h.next,by have:=h.top;simp only;omega,h.ring,h.ring1,h.ringl,h.win,h.win1,h.win0,h.log,h.tries,h.due⟩
 ·exact h
theorem Qxv (f:Qnq) (top:Int):(Qkm f top).1=f.1∧(Qkm f top).2.2=f.2.2:=by unfold Qkm;split<;>exact ⟨rfl,rfl⟩
theorem Zf1 {f:Qnq} (h:FOk f) (next:Int):FOk (Qws f next):=by
 unfold Qws
 split
 ·exact Quf h _
 ·split
  ·rename_i h0 h1
   have:=h.next
   have e:f.1=0:=by omega
   have hw:=h.win0 e
   exact ⟨by simp only;omega,h.top,h.ring,fun i hi=>by have:=h.ring1 i hi;simp only;omega,h.ringl,h.win,fun i hi=>(by simp only [hw] at hi;cases hi),fun e=>by simp only at e;omega,by have:=h.log;simp only;omega,h.tries,h.due⟩
  ·exact h
theorem Zlf {w:List Qnf} {next:Int} {x:Qnf} (h:Zan Z92 w) (h1:∀ i∈w,next≤i.1∧i.1≤1000000∧i.1<next+8) (hx:x.1≤1000000):Zan Z92 (Znu w next x)∧∀ i∈Znu w next x,next≤i.1∧i.1≤1000000∧i.1<next+8:=by
 unfold Znu
 split
 ·exact ⟨h,h1⟩
 ·rename_i hn
  have hf:Zmi w x.1=none:=by
   cases hg:Zmi w x.1 with
   | none=>rfl
   | some y=>rw [hg] at hn;simp at hn
  refine ⟨Zez h (Z04.1 hf),fun i hi=>?_⟩
  rcases Zes.1 hi with rfl | hi
  ·omega
  ·exact h1 i hi
theorem Zgl {f:Qnq} (h:FOk f) (i:Qnf):FOk (Z5t f i)∧f.1≤(Z5t f i).1:=by
 unfold Z5t
 split
 ·exact ⟨h,Int.le_refl _⟩
 ·rename_i h0
  have hk:=Quf h i.1
  have e:=Qxv f i.1
  have hn:=h.next
  have hp:=Zlf (next:=(Qkm f i.1).1) (x:=i) hk.win (fun j hj=>by have:=hk.win1 j hj;omega) (by omega)
  have:=Zet (f:=((Qkm f i.1).1,(Qkm f i.1).2.1,(Qkm f i.1).2.2.1,Znu (Qkm f i.1).2.2.2.1 (Qkm f i.1).1 i,(Qkm f i.1).2.2.2.2)) ⟨by simp only;omega,hk.top,hk.ring,hk.ring1,hk.ringl,hp.1,hp.2,hk.log,hk.tries,hk.due⟩
  refine ⟨this.1,?_⟩
  have:=this.2
  simp only at this ⊢
  omega
theorem Zf7 {f:Qnq} (h:FOk f) (lo hi:Int):FOk (Z5w f lo hi)∧f.1≤(Z5w f lo hi).1:=by
 unfold Z5w
 split
 ·exact ⟨h,Int.le_refl _⟩
 ·have hk:=Quf h hi
  have e:=(Qxv f hi).1
  simp only
  split
  ·exact ⟨hk,by omega⟩
  ·have hs:=Z42 (hk.to' (by omega)) hi 1
   have:=Zet hs.1
   exact ⟨this.1,by omega⟩
theorem Zpt {f:Qnq} (h:FOk f) {now:Int} (h0:0≤now) (h1:now≤1125899906842624):FOk (Zmw f now).1∧f.1≤(Zmw f now).1.1:=by
 unfold Zmw
 split
 ·exact ⟨h,Int.le_refl _⟩
 ·rename_i s hs
  have hn1:f.1≠0:=by
   intro e;unfold Zhk at hs;simp only [e,true_or,if_true] at hs;cases hs
  have hn:=h.next
  split
  ·split
   ·have hk:=Z42 (h.to' (by omega)) s.2 2
    have:=Zet hk.1
    exact ⟨this.1,by simp only;omega⟩
   ·refine ⟨⟨h.next,h.top,h.ring,h.ring1,h.ringl,h.win,h.win1,h.win0,h.log,?_,?_⟩,Int.le_refl _⟩
    ·have:=h.tries;simp only;omega
    ·have ht:=h.tries
     simp only
     have:f.2.2.2.2.2.1=0∨f.2.2.2.2.2.1=1∨f.2.2.2.2.2.1=2:=by omega
     have e2:(2:Int)*2 ^ f.2.2.2.2.2.1.toNat≤8∧0≤(2:Int)*2 ^ f.2.2.2.2.2.1.toNat:=by
      rcases this with e | e | e<;>rw [e]<;>decide
     omega
  ·exact ⟨h,Int.le_refl _⟩
end Go.PE
