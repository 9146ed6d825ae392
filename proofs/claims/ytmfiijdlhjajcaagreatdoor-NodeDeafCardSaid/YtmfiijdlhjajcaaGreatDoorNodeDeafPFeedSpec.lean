/-
  Plain lemmas on the functions.
  Conditions: none.
-/
import Derived.Test.YtmfiijdlhjajcaaGreatDoorNodeDeafPKidSpec
set_option linter.unusedVariables false
set_option linter.unusedSimpArgs false
namespace Go.PE
abbrev Qtl:=Int × ByteArray
abbrev Evt:=Int × Int × Int × ByteArray × Int
abbrev Quh:=Int × Int × List Qtl × List Qtl × List Evt × Int × Int
abbrev Zjf (i:Qtl):Int:=i.1
def Zrx (l:List Qtl) (n:Int):Option Qtl:=Zfw Zjf n l
def Zj1 (l:List Qtl) (i:Qtl):List Qtl:=
 match l.getLast? with
 | some x=>if i.1≤x.1 then l else (l++[i]).drop (l.length+1 - 6)
 | none=>[i]
def Zrw (l:List Qtl) (next:Int) (x:Qtl):List Qtl:=if x.1<next∨8≤x.1 - next∨(Zrx l x.1).isSome=true then l else Ziz Zjf x l
def Zj4 (i:Qtl):Evt:=(1,i.1,i.1,i.2,0)
def Zrv (lo hi why:Int):Evt:=(2,lo,hi,(⟨#[]⟩:ByteArray),why)
def Zd2 (top:Int):Int→List Qtl→List Qtl→List Evt→Int→Int→Quh
 | next,ring,[],log,a,b=>(next,top,ring,[],log,a,b)
 | next,ring,x::r,log,a,b=>if x.1=next then Zd2 top (next+1) (Zj1 ring x) r (log++[Zj4 x]) 0 0 else (next,top,ring,x::r,log,a,b)
def Z6w (f:Quh):Quh:=Zd2 f.2.1 f.1 f.2.2.1 f.2.2.2.1 f.2.2.2.2.1 f.2.2.2.2.2.1 f.2.2.2.2.2.2
def Zt8 (l:List Qtl):Int:=match l with | []=>0 | x::_=>x.1
def Z0b (hi why:Int) (f:Quh):Quh:=
 let to:=match f.2.2.2.1 with | []=>hi | x::_=>if x.1≤hi then x.1 - 1 else hi
 let g:Quh:=if f.1≤to then (to+1,f.2.1,f.2.2.1,f.2.2.2.1,f.2.2.2.2.1++[Zrv f.1 to why],0,0) else (f.1,f.2.1,f.2.2.1,f.2.2.2.1,f.2.2.2.2.1,0,0)
 if g.1≤hi then Z6w g else g
def Z50 (hi why:Int):Nat→Quh→Quh
 | 0,f=>f
 | n+1,f=>if f.1≤hi then Z50 hi why n (Z0b hi why f) else f
def Zgj (f:Quh) (hi why:Int):Quh:=if f.1<1∨1000000<hi then f else Z50 hi why (f.2.2.2.1.length+1) f
def Qq7 (f:Quh) (top:Int):Quh:=if 0<f.1∧top≤1000000 then (f.1,max f.2.1 top,f.2.2) else f
def Zn3 (f:Quh) (next:Int):Quh:=if 0<f.1 then Qq7 f (next - 1) else if 1≤next∧next≤1000000 then (next,f.2) else f
def Zta (f:Quh) (t:ByteArray):Option Quh:=
 let n:=max f.1 1
 if 12<t.size∨1000000<n then none else some (n+1,n,Zj1 f.2.2.1 (n,t),f.2.2.2.1,f.2.2.2.2.1++[Zj4 (n,t)],f.2.2.2.2.2)
def Zm6 (f:Quh) (i:Qtl):Quh:=
 if f.1=0∨i.1<1∨1000000<i.1∨12<i.2.size then f else
 let g:=Qq7 f i.1
 Z6w (g.1,g.2.1,g.2.2.1,Zrw g.2.2.2.1 g.1 i,g.2.2.2.2)
def Zlk (f:Quh) (lo hi:Int):Quh:=
 if f.1=0∨lo<1∨hi<lo∨1000000<hi then f else
 let g:=Qq7 f hi
 if g.1<lo∨hi<g.1 then g else Z6w (Zgj g hi 1)
def Zjg (f:Quh):Option (Int × Int):=
 let hi:=match f.2.2.2.1 with | []=>f.2.1 | x::_=>x.1 - 1
 if f.1=0∨hi<f.1 then none else some (f.1,hi)
def Zpe (f:Quh) (now:Int):Quh × Option (Int × Int):=
 match Zjg f with
 | none=>(f,none)
 | some s=>
  if f.2.2.2.2.2.1=0∨f.2.2.2.2.2.2≤now then
   if 3≤f.2.2.2.2.2.1 then (Z6w (Zgj f s.2 2),none)
   else ((f.1,f.2.1,f.2.2.1,f.2.2.2.1,f.2.2.2.2.1,f.2.2.2.2.2.1+1,now+2*2 ^ f.2.2.2.2.2.1.toNat),some s)
  else (f,none)
def Zud (l:List (Int × Int)) (n:Int):List (Int × Int):=
 match l.getLast? with
 | some s=>if s.2+1=n then l.dropLast++[(s.1,n)] else l++[(n,n)]
 | none=>[(n,n)]
def Zo0 (ring:List Qtl) (top:Int):Nat→Int→List Qtl→List (Int × Int)→List Qtl × List (Int × Int)
 | 0,n,a,b=>(a,b)
 | k+1,n,a,b=>
  if top<n then (a,b) else
  match Zrx ring n with
  | some i=>Zo0 ring top k (n+1) (a++[i]) b
  | none=>Zo0 ring top k (n+1) a (Zud b n)
def Zts (f:Quh) (lo hi:Int):List Qtl × List (Int × Int):=if f.1=0 then ([],[]) else Zo0 f.2.2.1 (min hi (f.1 - 1)) 8 lo [] []
structure FOk (f:Quh):Prop where
 next:0≤f.1∧f.1≤1000001
 top:0≤f.2.1∧f.2.1≤1000000
 ring:Zia Zjf f.2.2.1
 ring1:∀ i∈f.2.2.1,1≤i.1∧i.1<f.1
 ringl:f.2.2.1.length≤6
 win:Zia Zjf f.2.2.2.1
 win1:∀ i∈f.2.2.2.1,f.1<i.1∧i.1≤1000000∧i.1<f.1+8
 win0:f.1=0→f.2.2.2.1=[]
 log:(f.2.2.2.2.1.length:Int)≤f.1
 tries:0≤f.2.2.2.2.2.1∧f.2.2.2.2.2.1≤3
 due:0≤f.2.2.2.2.2.2∧f.2.2.2.2.2.2≤2251799813685248
structure Zn7 (f:Quh):Prop where
 next:1≤f.1∧f.1≤1000001
 top:0≤f.2.1∧f.2.1≤1000000
 ring:Zia Zjf f.2.2.1
 ring1:∀ i∈f.2.2.1,1≤i.1∧i.1<f.1
 ringl:f.2.2.1.length≤6
 win:Zia Zjf f.2.2.2.1
 win1:∀ i∈f.2.2.2.1,f.1≤i.1∧i.1≤1000000∧i.1<f.1+8
 log:(f.2.2.2.2.1.length:Int)≤f.1
 tries:0≤f.2.2.2.2.2.1∧f.2.2.2.2.2.1≤3
 due:0≤f.2.2.2.2.2.2∧f.2.2.2.2.2.2≤2251799813685248
theorem FOk.none:FOk (0,0,[],[],[],0,0):=⟨⟨by decide,by decide⟩,⟨by decide,by decide⟩,trivial,fun i h=>(by cases h),by simp,trivial,fun i h=>(by cases h),fun _=>rfl,by simp,⟨by decide,by decide⟩,⟨by decide,by decide⟩⟩
theorem FOk.to' {f:Quh} (h:FOk f) (h1:1≤f.1):Zn7 f:=⟨⟨h1,h.next.2⟩,h.top,h.ring,h.ring1,h.ringl,h.win,fun i hi=>by have:=h.win1 i hi;exact ⟨by omega,this.2⟩,h.log,h.tries,h.due⟩
theorem Zly {α:Type} {key:α→Int} {k:α}:∀ {l:List α},Zia key l→(∀ y∈l,key y<key k)→Zia key (l++[k])
 | [],_,_=>⟨fun y hy=>(by cases hy),trivial⟩
 | x::r,h,hn=>by
  refine ⟨fun y hy=>?_,Zly h.2 fun y hy=>hn y (List.mem_cons_of_mem _ hy)⟩
  rcases List.mem_append.1 hy with hy | hy
  ·exact h.1 y hy
  ·rcases List.mem_singleton.1 hy with rfl;exact hn x (List.mem_cons_self ..)
theorem Zmg {α:Type} {key:α→Int}:∀ (n:Nat) {l:List α},Zia key l→Zia key (l.drop n)
 | 0,_,h=>h
 | n+1,[],h=>trivial
 | n+1,x::r,h=>Zmg n h.2
theorem Zqz {l:List Qtl} {i:Qtl} (h:∀ x∈l,x.1<i.1):Zj1 l i=(l++[i]).drop (l.length+1 - 6):=by
 unfold Zj1
 split
 ·rename_i x hx
  have:=h x (List.mem_of_getLast? hx)
  rw [if_neg (by omega)]
 ·rename_i hx
  rw [List.getLast?_eq_none_iff] at hx
  subst hx;rfl
theorem Zog {l:List Qtl} {i:Qtl} (h:Zia Zjf l) (h1:∀ x∈l,1≤x.1∧x.1<i.1) (h2:l.length≤6) (hi:1≤i.1):Zia Zjf (Zj1 l i)∧(∀ x∈Zj1 l i,1≤x.1∧x.1<i.1+1)∧(Zj1 l i).length≤6:=by
 rw [Zqz fun x hx=>(h1 x hx).2]
 refine ⟨Zmg _ (Zly h fun y hy=>(h1 y hy).2),fun x hx=>?_,by rw [List.length_drop,List.length_append,List.length_singleton];omega⟩
 rcases List.mem_append.1 (List.mem_of_mem_drop hx) with hx | hx
 ·have:=h1 x hx;omega
 ·rcases List.mem_singleton.1 hx with rfl;omega
theorem z33:(0:Int)≤0∧(0:Int)≤3:=⟨by decide,by decide⟩
theorem z22:(0:Int)≤0∧(0:Int)≤2251799813685248:=⟨by decide,by decide⟩
theorem Zl9 (top:Int):∀ (w:List Qtl) (next:Int) (ring:List Qtl) (log:List Evt) (a b:Int),Zn7 (next,top,ring,w,log,a,b)→FOk (Zd2 top next ring w log a b)∧next≤(Zd2 top next ring w log a b).1
 | [],next,ring,log,a,b,h=>⟨⟨⟨by have:=h.next.1;show (0:Int)≤next;simp only at this;omega,h.next.2⟩,h.top,h.ring,h.ring1,h.ringl,h.win,fun i hi=>(by cases hi),fun _=>rfl,h.log,h.tries,h.due⟩,Int.le_refl _⟩
 | x::r,next,ring,log,a,b,h=>by
  unfold Zd2
  obtain ⟨h1,h2,h3,h4,h5,h6,h7,h8,h9,h10⟩:=h
  simp only at h1 h2 h3 h4 h5 h6 h7 h8 h9 h10
  by_cases hx:x.1=next
  ·rw [if_pos hx]
   have hx7:=h7 x (List.mem_cons_self ..)
   obtain ⟨a1,a2,a3⟩:=Zog (i:=x) h3 (by rw [hx];exact h4) h5 (by omega)
   have:=Zl9 top r (next+1) (Zj1 ring x) (log++[Zj4 x]) 0 0 ⟨by simp only;omega,h2,a1,by rw [hx] at a2;exact a2,a3,h6.2,fun i hi=>by
    have p:=h7 i (List.mem_cons_of_mem _ hi);have q:=h6.1 i hi;simp only [Zjf] at q ⊢;omega,by simp only [List.length_append,List.length_singleton];omega,z33,z22⟩
   exact ⟨this.1,by have:=this.2;omega⟩
  ·rw [if_neg hx]
   refine ⟨⟨by simp only;omega,h2,h3,h4,h5,h6,fun i hi=>?_,fun h0=>by simp only at h0;omega,h8,h9,h10⟩,Int.le_refl _⟩
   have p:=h7 i hi
   simp only
   rcases List.mem_cons.1 hi with rfl | hi
   ·omega
   ·have q:=h6.1 i hi;have p':=h7 x (List.mem_cons_self ..);simp only [Zjf] at q;omega
theorem Zl8 {f:Quh} (h:Zn7 f):FOk (Z6w f)∧f.1≤(Z6w f).1:=Zl9 _ _ _ _ _ _ _ h
theorem Zst {f:Quh} (h:FOk f):Z6w f=f:=by
 obtain ⟨n,t,r,w,l,a,b⟩:=f
 cases w with
 | nil=>rfl
 | cons x q=>
  have:=h.win1 x (List.mem_cons_self ..)
  show Zd2 _ _ _ (x::q) _ _ _=_
  unfold Zd2
  simp only at this ⊢
  rw [if_neg (by omega)]
theorem Zou {f:Quh} {hi why:Int} (h:Zn7 f) (hh:f.1≤hi) (h6:hi≤1000000) :
  Zn7 (Z0b hi why f)∧f.1<(Z0b hi why f).1∧(hi<(Z0b hi why f).1∨(Z0b hi why f).2.2.2.1.length<f.2.2.2.1.length):=by
 obtain ⟨n,t,r,w,l,a,b⟩:=f
 obtain ⟨h1,h2,h3,h4,h5,h6',h7,h8,h9,h10⟩:=h
 simp only at h1 h2 h3 h4 h5 h6' h7 h8 h9 h10 hh ⊢
 have z:=z33
 have z2:=z22
 cases w with
 | nil=>
  unfold Z0b
  simp only
  rw [if_pos hh]
  simp only
  rw [if_neg (by omega)]
  exact ⟨⟨by simp only;omega,h2,h3,fun i hi'=>by have:=h4 i hi';simp only;omega,h5,h6',fun i hi'=>(by cases hi'),by simp only [List.length_append,List.length_singleton];omega,z,z2⟩,by simp only;omega,.inl (by simp only;omega)⟩
 | cons x q=>
  have hx:=h7 x (List.mem_cons_self ..)
  unfold Z0b
  simp only
  by_cases h0:x.1≤hi
  ·rw [if_pos h0]
   have key:∀ g:Quh,g=(x.1,t,r,x::q,g.2.2.2.2.1,0,0)→(g.2.2.2.2.1.length:Int)≤x.1→Zn7 (if g.1≤hi then Z6w g else g)∧n<(if g.1≤hi then Z6w g else g).1∧(hi<(if g.1≤hi then Z6w g else g).1∨(if g.1≤hi then Z6w g else g).2.2.2.1.length<q.length+1):=by
    intro g hg hl
    generalize hL:g.2.2.2.2.1=L at hg hl
    subst hg
    simp only
    rw [if_pos h0]
    have hgo:Z6w (x.1,t,r,x::q,L,0,0)=Zd2 t (x.1+1) (Zj1 r x) q (L++[Zj4 x]) 0 0:=by
     show Zd2 _ _ _ (x::q) _ _ _=_
     rw [Zd2];simp only [if_pos]
    obtain ⟨a1,a2,a3⟩:=Zog (i:=x) h3 (fun y hy=>by have:=h4 y hy;omega) h5 (by omega)
    have hk:=Zl9 t q (x.1+1) (Zj1 r x) (L++[Zj4 x]) 0 0 ⟨by simp only;omega,h2,a1,a2,a3,h6'.2,fun i hi'=>by
     have p:=h7 i (List.mem_cons_of_mem _ hi');have q':=h6'.1 i hi';simp only [Zjf] at q' ⊢;omega,by simp only [List.length_append,List.length_singleton];omega,z,z2⟩
    rw [hgo]
    refine ⟨hk.1.to' (by have:=hk.2;omega),by have:=hk.2;omega,.inr ?_⟩
    have hlen:∀ (w:List Qtl) (next:Int) (ring:List Qtl) (log:List Evt) (a b:Int),(Zd2 t next ring w log a b).2.2.2.1.length≤w.length:=by
     intro w
     induction w with
     | nil=>intro next ring log a b;exact Nat.le_refl _
     | cons y s ih=>
      intro next ring log a b
      unfold Zd2
      split
      ·have:=ih (next+1) (Zj1 ring y) (log++[Zj4 y]) 0 0;rw [List.length_cons];omega
      ·exact Nat.le_refl _
    have:=hlen q (x.1+1) (Zj1 r x) (L++[Zj4 x]) 0 0
    omega
   rw [List.length_cons]
   by_cases h8':n≤x.1 - 1
   ·rw [if_pos h8']
    exact key _ (by simp only [Prod.mk.injEq,and_true,true_and];omega) (by simp only [List.length_append,List.length_singleton];omega)
   ·rw [if_neg h8']
    exact key _ (by simp only [Prod.mk.injEq,and_true,true_and];omega) (by simp only;omega)
  ·rw [if_neg h0,if_pos hh]
   simp only
   rw [if_neg (by omega)]
   exact ⟨⟨by simp only;omega,h2,h3,fun i hi'=>by have:=h4 i hi';simp only;omega,h5,h6',fun i hi'=>by
    have p:=h7 i hi';simp only
    rcases List.mem_cons.1 hi' with rfl | hi'
    ·omega
    ·have q':=h6'.1 i hi';simp only [Zjf] at q';omega,by simp only [List.length_append,List.length_singleton];omega,z,z2⟩,by simp only;omega,.inl (by simp only;omega)⟩
theorem Zm1 {hi why:Int} (h6:hi≤1000000):∀ (n:Nat) {f:Quh},Zn7 f→Zn7 (Z50 hi why n f)∧f.1≤(Z50 hi why n f).1∧(f.2.2.2.1.length<n→hi<(Z50 hi why n f).1)
 | 0,f,h=>⟨h,Int.le_refl _,fun h=>by omega⟩
 | n+1,f,h=>by
  unfold Z50
  by_cases h1:f.1≤hi
  ·rw [if_pos h1]
   obtain ⟨a,b,c⟩:=Zou (why:=why) h h1 h6
   obtain ⟨p,q,r⟩:=Zm1 h6 n a
   refine ⟨p,by omega,fun hl=>?_⟩
   rcases c with c | c
   ·omega
   ·exact r (by omega)
  ·rw [if_neg h1];exact ⟨h,Int.le_refl _,fun _=>by omega⟩
theorem Zbf {f:Quh} (h:Zn7 f) (hi why:Int):Zn7 (Zgj f hi why)∧f.1≤(Zgj f hi why).1:=by
 unfold Zgj
 split
 ·exact ⟨h,Int.le_refl _⟩
 ·have:=Zm1 (why:=why) (hi:=hi) (by omega) (f.2.2.2.1.length+1) h
  exact ⟨this.1,this.2.1⟩
theorem Z4t {f:Quh} (h:FOk f) (top:Int):FOk (Qq7 f top):=by
 unfold Qq7
 split
 ·rename_i h1
  exact ⟨h.next,by have:=h.top;simp only;omega,h.ring,h.ring1,h.ringl,h.win,h.win1,h.win0,h.log,h.tries,h.due⟩
 ·exact h
theorem Zbq (f:Quh) (top:Int):(Qq7 f top).1=f.1∧(Qq7 f top).2.2=f.2.2:=by unfold Qq7;split<;>exact ⟨rfl,rfl⟩
theorem Zq8 {f:Quh} (h:FOk f) (next:Int):FOk (Zn3 f next):=by
 unfold Zn3
 split
 ·exact Z4t h _
 ·split
  ·rename_i h0 h1
   have:=h.next
   have e:f.1=0:=by omega
   have hw:=h.win0 e
   exact ⟨by simp only;omega,h.top,h.ring,fun i hi=>by have:=h.ring1 i hi;simp only;omega,h.ringl,h.win,fun i hi=>(by simp only [hw] at hi;cases hi),fun e=>by simp only at e;omega,by have:=h.log;simp only;omega,h.tries,h.due⟩
  ·exact h
theorem Zq7 {w:List Qtl} {next:Int} {x:Qtl} (h:Zia Zjf w) (h1:∀ i∈w,next≤i.1∧i.1≤1000000∧i.1<next+8) (hx:x.1≤1000000):Zia Zjf (Zrw w next x)∧∀ i∈Zrw w next x,next≤i.1∧i.1≤1000000∧i.1<next+8:=by
 unfold Zrw
 split
 ·exact ⟨h,h1⟩
 ·rename_i hn
  have hf:Zrx w x.1=none:=by
   cases hg:Zrx w x.1 with
   | none=>rfl
   | some y=>rw [hg] at hn;simp at hn
  refine ⟨Zh4 h (Z9b.1 hf),fun i hi=>?_⟩
  rcases Zgc.1 hi with rfl | hi
  ·omega
  ·exact h1 i hi
theorem Zm3 {f:Quh} (h:FOk f) (i:Qtl):FOk (Zm6 f i)∧f.1≤(Zm6 f i).1:=by
 unfold Zm6
 split
 ·exact ⟨h,Int.le_refl _⟩
 ·rename_i h0
  have hk:=Z4t h i.1
  have e:=Zbq f i.1
  have hn:=h.next
  have hp:=Zq7 (next:=(Qq7 f i.1).1) (x:=i) hk.win (fun j hj=>by have:=hk.win1 j hj;omega) (by omega)
  have:=Zl8 (f:=((Qq7 f i.1).1,(Qq7 f i.1).2.1,(Qq7 f i.1).2.2.1,Zrw (Qq7 f i.1).2.2.2.1 (Qq7 f i.1).1 i,(Qq7 f i.1).2.2.2.2)) ⟨by simp only;omega,hk.top,hk.ring,hk.ring1,hk.ringl,hp.1,hp.2,hk.log,hk.tries,hk.due⟩
  refine ⟨this.1,?_⟩
  have:=this.2
  simp only at this ⊢
  omega
theorem Zmc {f:Quh} (h:FOk f) (lo hi:Int):FOk (Zlk f lo hi)∧f.1≤(Zlk f lo hi).1:=by
 unfold Zlk
 split
 ·exact ⟨h,Int.le_refl _⟩
 ·have hk:=Z4t h hi
  have e:=(Zbq f hi).1
  simp only
  split
  ·exact ⟨hk,by omega⟩
  ·have hs:=Zbf (hk.to' (by omega)) hi 1
   have:=Zl8 hs.1
   exact ⟨this.1,by omega⟩
theorem Zrb {f:Quh} (h:FOk f) {now:Int} (h0:0≤now) (h1:now≤1125899906842624):FOk (Zpe f now).1∧f.1≤(Zpe f now).1.1:=by
 unfold Zpe
 split
 ·exact ⟨h,Int.le_refl _⟩
 ·rename_i s hs
  have hn1:f.1≠0:=by
   intro e;unfold Zjg at hs;simp only [e,true_or,if_true] at hs;cases hs
  have hn:=h.next
  split
  ·split
   ·have hk:=Zbf (h.to' (by omega)) s.2 2
    have:=Zl8 hk.1
    exact ⟨this.1,by simp only;omega⟩
   ·refine ⟨⟨h.next,h.top,h.ring,h.ring1,h.ringl,h.win,h.win1,h.win0,h.log,?_,?_⟩,Int.le_refl _⟩
    ·have:=h.tries;simp only;omega
    ·have ht:=h.tries
     simp only
     have:f.2.2.2.2.2.1=0∨f.2.2.2.2.2.1=1∨f.2.2.2.2.2.1=2:=by omega
     have e2:(2:Int)*2 ^ f.2.2.2.2.2.1.toNat≤8∧0≤(2:Int)*2 ^ f.2.2.2.2.2.1.toNat:=by
      rcases this with e | e | e<;>rw [e]<;>decide
     omega
  ·exact ⟨h,Int.le_refl _⟩
theorem Ztl {f g:Quh} {t:ByteArray} (h:FOk f) (hw:f.2.2.2.1=[]) (hg:Zta f t=some g):FOk g∧g.2.2.2.1=[]:=by
 unfold Zta at hg
 simp only at hg
 split at hg
 ·cases hg
 ·rename_i h0
  cases hg
  have hn:=h.next
  obtain ⟨a1,a2,a3⟩:=Zog (i:=(max f.1 1,t)) h.ring (fun x hx=>by have:=h.ring1 x hx;simp only;omega) h.ringl (by simp only;omega)
  exact ⟨⟨by simp only;omega,by simp only;omega,a1,a2,a3,h.win,fun i hi=>(by simp only [hw] at hi;cases hi),fun e=>hw,by have:=h.log;simp only [List.length_append,List.length_singleton];omega,h.tries,h.due⟩,hw⟩
end Go.PE
