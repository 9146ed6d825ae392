/-
  Plain lemmas on the functions.
  Conditions: none.
-/
import Derived.Test.YtmfiijdlhjajcaaGreatDoorNodeServesPKidSpec
set_option linter.unusedVariables false
set_option linter.unusedSimpArgs false
namespace Go.PE
abbrev Qn4:=Int × ByteArray
abbrev Evt:=Int × Int × Int × ByteArray × Int
abbrev Qo0:=Int × Int × List Qn4 × List Qn4 × List Evt × Int × Int
abbrev Z99 (i:Qn4):Int:=i.1
def Zn1 (l:List Qn4) (n:Int):Option Qn4:=Zfc Z99 n l
def Zak (l:List Qn4) (i:Qn4):List Qn4:=
 match l.getLast? with
 | some x=>if i.1≤x.1 then l else (l++[i]).drop (l.length+1 - 6)
 | none=>[i]
def Zos (l:List Qn4) (next:Int) (x:Qn4):List Qn4:=if x.1<next∨8≤x.1 - next∨(Zn1 l x.1).isSome=true then l else Zjy Z99 x l
def Z77 (i:Qn4):Evt:=(1,i.1,i.1,i.2,0)
def Zf1 (lo hi why:Int):Evt:=(2,lo,hi,(⟨#[]⟩:ByteArray),why)
def Qxe (top:Int):Int→List Qn4→List Qn4→List Evt→Int→Int→Qo0
 | next,ring,[],log,a,b=>(next,top,ring,[],log,a,b)
 | next,ring,x::r,log,a,b=>if x.1=next then Qxe top (next+1) (Zak ring x) r (log++[Z77 x]) 0 0 else (next,top,ring,x::r,log,a,b)
def Qxl (f:Qo0):Qo0:=Qxe f.2.1 f.1 f.2.2.1 f.2.2.2.1 f.2.2.2.2.1 f.2.2.2.2.2.1 f.2.2.2.2.2.2
def Zmy (l:List Qn4):Int:=match l with | []=>0 | x::_=>x.1
def Qp7 (hi why:Int) (f:Qo0):Qo0:=
 let to:=match f.2.2.2.1 with | []=>hi | x::_=>if x.1≤hi then x.1 - 1 else hi
 let g:Qo0:=if f.1≤to then (to+1,f.2.1,f.2.2.1,f.2.2.2.1,f.2.2.2.2.1++[Zf1 f.1 to why],0,0) else (f.1,f.2.1,f.2.2.1,f.2.2.2.1,f.2.2.2.2.1,0,0)
 if g.1≤hi then Qxl g else g
def Qtv (hi why:Int):Nat→Qo0→Qo0
 | 0,f=>f
 | n+1,f=>if f.1≤hi then Qtv hi why n (Qp7 hi why f) else f
def Qwu (f:Qo0) (hi why:Int):Qo0:=if f.1<1∨1000000<hi then f else Qtv hi why (f.2.2.2.1.length+1) f
def Ql8 (f:Qo0) (top:Int):Qo0:=if 0<f.1∧top≤1000000 then (f.1,max f.2.1 top,f.2.2) else f
def Z6u (f:Qo0) (next:Int):Qo0:=if 0<f.1 then Ql8 f (next - 1) else if 1≤next∧next≤1000000 then (next,f.2) else f
def Z70 (f:Qo0) (i:Qn4):Qo0:=
 if f.1=0∨i.1<1∨1000000<i.1∨12<i.2.size then f else
 let g:=Ql8 f i.1
 Qxl (g.1,g.2.1,g.2.2.1,Zos g.2.2.2.1 g.1 i,g.2.2.2.2)
def Z6y (f:Qo0) (lo hi:Int):Qo0:=
 if f.1=0∨lo<1∨hi<lo∨1000000<hi then f else
 let g:=Ql8 f hi
 if g.1<lo∨hi<g.1 then g else Qxl (Qwu g hi 1)
def Zix (f:Qo0):Option (Int × Int):=
 let hi:=match f.2.2.2.1 with | []=>f.2.1 | x::_=>x.1 - 1
 if f.1=0∨hi<f.1 then none else some (f.1,hi)
def Zo2 (f:Qo0) (now:Int):Qo0 × Option (Int × Int):=
 match Zix f with
 | none=>(f,none)
 | some s=>
  if f.2.2.2.2.2.1=0∨f.2.2.2.2.2.2≤now then
   if 3≤f.2.2.2.2.2.1 then (Qxl (Qwu f s.2 2),none)
   else ((f.1,f.2.1,f.2.2.1,f.2.2.2.1,f.2.2.2.2.1,f.2.2.2.2.2.1+1,now+2*2 ^ f.2.2.2.2.2.1.toNat),some s)
  else (f,none)
def Zn7 (l:Qrf) (n:Int):Qrf:=
 match l.getLast? with
 | some s=>if s.2+1=n then l.dropLast++[(s.1,n)] else l++[(n,n)]
 | none=>[(n,n)]
def Qv3 (ring:List Qn4) (top:Int):Nat→Int→List Qn4→List (Int × Int)→List Qn4 × List (Int × Int)
 | 0,n,a,b=>(a,b)
 | k+1,n,a,b=>
  if top<n then (a,b) else
  match Zn1 ring n with
  | some i=>Qv3 ring top k (n+1) (a++[i]) b
  | none=>Qv3 ring top k (n+1) a (Zn7 b n)
def Quv (f:Qo0) (lo hi:Int):List Qn4 × List (Int × Int):=if f.1=0 then ([],[]) else Qv3 f.2.2.1 (min hi (f.1 - 1)) 8 lo [] []
structure FOk (f:Qo0):Prop where
 next:0≤f.1∧f.1≤1000001
 top:0≤f.2.1∧f.2.1≤1000000
 ring:Zb9 Z99 f.2.2.1
 ring1:∀ i∈f.2.2.1,1≤i.1∧i.1<f.1
 ringl:f.2.2.1.length≤6
 win:Zb9 Z99 f.2.2.2.1
 win1:∀ i∈f.2.2.2.1,f.1<i.1∧i.1≤1000000∧i.1<f.1+8
 win0:f.1=0→f.2.2.2.1=[]
 log:(f.2.2.2.2.1.length:Int)≤f.1
 tries:0≤f.2.2.2.2.2.1∧f.2.2.2.2.2.1≤3
 due:0≤f.2.2.2.2.2.2∧f.2.2.2.2.2.2≤2251799813685248
structure Zk1 (f:Qo0):Prop where
 next:1≤f.1∧f.1≤1000001
 top:0≤f.2.1∧f.2.1≤1000000
 ring:Zb9 Z99 f.2.2.1
 ring1:∀ i∈f.2.2.1,1≤i.1∧i.1<f.1
 ringl:f.2.2.1.length≤6
 win:Zb9 Z99 f.2.2.2.1
 win1:∀ i∈f.2.2.2.1,f.1≤i.1∧i.1≤1000000∧i.1<f.1+8
 log:(f.2.2.2.2.1.length:Int)≤f.1
 tries:0≤f.2.2.2.2.2.1∧f.2.2.2.2.2.1≤3
 due:0≤f.2.2.2.2.2.2∧f.2.2.2.2.2.2≤2251799813685248
theorem FOk.none:FOk (0,0,[],[],[],0,0):=⟨⟨by decide,by decide⟩,⟨by decide,by decide⟩,trivial,fun i h=>(by cases h),by simp,trivial,fun i h=>(by cases h),fun _=>rfl,by simp,⟨by decide,by decide⟩,⟨by decide,by decide⟩⟩
theorem FOk.to' {f:Qo0} (h:FOk f) (h1:1≤f.1):Zk1 f:=⟨⟨h1,h.next.2⟩,h.top,h.ring,h.ring1,h.ringl,h.win,fun i hi=>by have:=h.win1 i hi;exact ⟨by omega,this.2⟩,h.log,h.tries,h.due⟩
theorem Zl4 {α:Type} {key:α→Int} {k:α}:∀ {l:List α},Zb9 key l→(∀ y∈l,key y<key k)→Zb9 key (l++[k])
 | [],_,_=>⟨fun y hy=>(by cases hy),trivial⟩
 | x::r,h,hn=>by
  refine ⟨fun y hy=>?_,Zl4 h.2 fun y hy=>hn y (List.mem_cons_of_mem _ hy)⟩
  rcases List.mem_append.1 hy with hy | hy
  ·exact h.1 y hy
  ·rcases List.mem_singleton.1 hy with rfl;exact hn x (List.mem_cons_self ..)
theorem Zkr {α:Type} {key:α→Int}:∀ (n:Nat) {l:List α},Zb9 key l→Zb9 key (l.drop n)
 | 0,_,h=>h
 | n+1,[],h=>trivial
 | n+1,x::r,h=>Zkr n h.2
theorem Zp8 {l:List Qn4} {i:Qn4} (h:∀ x∈l,x.1<i.1):Zak l i=(l++[i]).drop (l.length+1 - 6):=by
 unfold Zak
 split
 ·rename_i x hx
  have:=h x (List.mem_of_getLast? hx)
  rw [if_neg (by omega)]
 ·rename_i hx
  rw [List.getLast?_eq_none_iff] at hx
  subst hx;rfl
theorem Zpo {l:List Qn4} {i:Qn4} (h:Zb9 Z99 l) (h1:∀ x∈l,1≤x.1∧x.1<i.1) (h2:l.length≤6) (hi:1≤i.1):Zb9 Z99 (Zak l i)∧(∀ x∈Zak l i,1≤x.1∧x.1<i.1+1)∧(Zak l i).length≤6:=by
 rw [Zp8 fun x hx=>(h1 x hx).2]
 refine ⟨Zkr _ (Zl4 h fun y hy=>(h1 y hy).2),fun x hx=>?_,by rw [List.length_drop,List.length_append,List.length_singleton];omega⟩
 rcases List.mem_append.1 (List.mem_of_mem_drop hx) with hx | hx
 ·have:=h1 x hx;omega
 ·rcases List.mem_singleton.1 hx with rfl;omega
theorem z33:(0:Int)≤0∧(0:Int)≤3:=⟨by decide,by decide⟩
theorem z22:(0:Int)≤0∧(0:Int)≤2251799813685248:=⟨by decide,by decide⟩
theorem Zjx (top:Int):∀ (w:List Qn4) (next:Int) (ring:List Qn4) (log:List Evt) (a b:Int),Zk1 (next,top,ring,w,log,a,b)→FOk (Qxe top next ring w log a b)∧next≤(Qxe top next ring w log a b).1
 | [],next,ring,log,a,b,h=>⟨⟨⟨by have:=h.next.1;show (0:Int)≤next;simp only at this;omega,h.next.2⟩,h.top,h.ring,h.ring1,h.ringl,h.win,fun i hi=>(by cases hi),fun _=>rfl,h.log,h.tries,h.due⟩,Int.le_refl _⟩
 | x::r,next,ring,log,a,b,h=>by
  unfold Qxe
  obtain ⟨h1,h2,h3,h4,h5,h6,h7,h8,h9,h10⟩:=h
  simp only at h1 h2 h3 h4 h5 h6 h7 h8 h9 h10
  by_cases hx:x.1=next
  ·rw [if_pos hx]
   have hx7:=h7 x (List.mem_cons_self ..)
   obtain ⟨a1,a2,a3⟩:=Zpo (i:=x) h3 (by rw [hx];exact h4) h5 (by omega)
   have:=Zjx top r (next+1) (Zak ring x) (log++[Z77 x]) 0 0 ⟨by simp only;omega,h2,a1,by rw [hx] at a2;exact a2,a3,h6.2,fun i hi=>by
    have p:=h7 i (List.mem_cons_of_mem _ hi);have q:=h6.1 i hi;simp only [Z99] at q ⊢;omega,by simp only [List.length_append,List.length_singleton];omega,z33,z22⟩
   exact ⟨this.1,by have:=this.2;omega⟩
  ·rw [if_neg hx]
   refine ⟨⟨by simp only;omega,h2,h3,h4,h5,h6,fun i hi=>?_,fun h0=>by simp only at h0;omega,h8,h9,h10⟩,Int.le_refl _⟩
   have p:=h7 i hi
   simp only
   rcases List.mem_cons.1 hi with rfl | hi
   ·omega
   ·have q:=h6.1 i hi;have p':=h7 x (List.mem_cons_self ..);simp only [Z99] at q;omega
theorem Zfp {f:Qo0} (h:Zk1 f):FOk (Qxl f)∧f.1≤(Qxl f).1:=Zjx _ _ _ _ _ _ _ h
theorem Zjg {f:Qo0} {hi why:Int} (h:Zk1 f) (hh:f.1≤hi) (h6:hi≤1000000) :
  Zk1 (Qp7 hi why f)∧f.1<(Qp7 hi why f).1∧(hi<(Qp7 hi why f).1∨(Qp7 hi why f).2.2.2.1.length<f.2.2.2.1.length):=by
 obtain ⟨n,t,r,w,l,a,b⟩:=f
 obtain ⟨h1,h2,h3,h4,h5,h6',h7,h8,h9,h10⟩:=h
 simp only at h1 h2 h3 h4 h5 h6' h7 h8 h9 h10 hh ⊢
 have z:=z33
 have z2:=z22
 cases w with
 | nil=>
  unfold Qp7
  simp only
  rw [if_pos hh]
  simp only
  rw [if_neg (by omega)]
  exact ⟨⟨by simp only;omega,h2,h3,fun i hi'=>by have:=h4 i hi';simp only;omega,h5,h6',fun i hi'=>(by cases hi'),by simp only [List.length_append,List.length_singleton];omega,z,z2⟩,by simp only;omega,.inl (by simp only;omega)⟩
 | cons x q=>
  have hx:=h7 x (List.mem_cons_self ..)
  unfold Qp7
  simp only
  by_cases h0:x.1≤hi
  ·rw [if_pos h0]
   have key:∀ g:Qo0,g=(x.1,t,r,x::q,g.2.2.2.2.1,0,0)→(g.2.2.2.2.1.length:Int)≤x.1→Zk1 (if g.1≤hi then Qxl g else g)∧n<(if g.1≤hi then Qxl g else g).1∧(hi<(if g.1≤hi then Qxl g else g).1∨(if g.1≤hi then Qxl g else g).2.2.2.1.length<q.length+1):=by
    intro g hg hl
    generalize hL:g.2.2.2.2.1=L at hg hl
    subst hg
    simp only
    rw [if_pos h0]
    have hgo:Qxl (x.1,t,r,x::q,L,0,0)=Qxe t (x.1+1) (Zak r x) q (L++[Z77 x]) 0 0:=by
     show Qxe _ _ _ (x::q) _ _ _=_
     rw [Qxe];simp only [if_pos]
    obtain ⟨a1,a2,a3⟩:=Zpo (i:=x) h3 (fun y hy=>by have:=h4 y hy;omega) h5 (by omega)
    have hk:=Zjx t q (x.1+1) (Zak r x) (L++[Z77 x]) 0 0 ⟨by simp only;omega,h2,a1,a2,a3,h6'.2,fun i hi'=>by
     have p:=h7 i (List.mem_cons_of_mem _ hi');have q':=h6'.1 i hi';simp only [Z99] at q' ⊢;omega,by simp only [List.length_append,List.length_singleton];omega,z,z2⟩
    rw [hgo]
    refine ⟨hk.1.to' (by have:=hk.2;omega),by have:=hk.2;omega,.inr ?_⟩
    have hlen:∀ (w:List Qn4) (next:Int) (ring:List Qn4) (log:List Evt) (a b:Int),(Qxe t next ring w log a b).2.2.2.1.length≤w.length:=by
     intro w
     induction w with
     | nil=>intro next ring log a b;exact Nat.le_refl _
     | cons y s ih=>
      intro next ring log a b
      unfold Qxe
      split
      ·have:=ih (next+1) (Zak ring y) (log++[Z77 y]) 0 0;rw [List.length_cons];omega
      ·exact Nat.le_refl _
    have:=hlen q (x.1+1) (Zak r x) (L++[Z77 x]) 0 0
    omega
   rw [List.length_cons]
   by_cases h8':n≤x.1 - 1
   ·rw [if_pos h8']
    exact key _ (by simp only [Prod.mk.injEq,and_true,true_and];omega) (by simp only [List.length_append,List.length_singleton];omega)
   ·rw [if_neg h8']
    exact key _ (by simp only [Prod.mk.injEq,and_true,true_and];omega) (by simp only;omega)
  ·rw [if_neg h0,if_pos hh]
   simp only
   rw [if_neg (by omega)]
   exact ⟨⟨by simp only;omega,h2,h3,fun i hi'=>by have:=h4 i hi';simp only;omega,h5,h6',fun i hi'=>by
    have p:=h7 i hi';simp only
    rcases List.mem_cons.1 hi' with rfl | hi'
    ·omega
    ·have q':=h6'.1 i hi';simp only [Z99] at q';omega,by simp only [List.length_append,List.length_singleton];omega,z,z2⟩,by simp only;omega,.inl (by simp only;omega)⟩
theorem Zlf {hi why:Int} (h6:hi≤1000000):∀ (n:Nat) {f:Qo0},Zk1 f→Zk1 (Qtv hi why n f)∧f.1≤(Qtv hi why n f).1∧(f.2.2.2.1.length<n→hi<(Qtv hi why n f).1)
 | 0,f,h=>⟨h,Int.le_refl _,fun h=>by omega⟩
 | n+1,f,h=>by
  unfold Qtv
  by_cases h1:f.1≤hi
  ·rw [if_pos h1]
   obtain ⟨a,b,c⟩:=Zjg (why:=why) h h1 h6
   obtain ⟨p,q,r⟩:=Zlf h6 n a
   refine ⟨p,by omega,fun hl=>?_⟩
   rcases c with c | c
   ·omega
   ·exact r (by omega)
  ·rw [if_neg h1];exact ⟨h,Int.le_refl _,fun _=>by omega⟩
theorem Z52 {f:Qo0} (h:Zk1 f) (hi why:Int):Zk1 (Qwu f hi why)∧f.1≤(Qwu f hi why).1:=by
 unfold Qwu
 split
 ·exact ⟨h,Int.le_refl _⟩
 ·have:=Zlf (why:=why) (hi:=hi) (by omega) (f.2.2.2.1.length+1) h
  exact ⟨this.1,this.2.1⟩
theorem Qv8 {f:Qo0} (h:FOk f) (top:Int):FOk (Ql8 f top):=by
 unfold Ql8
 split
 ·rename_i h1
  exact ⟨h.next,by have:=h.top;simp only;omega,h.ring,h.ring1,h.ringl,h.win,h.win1,h.win0,h.log,h.tries,h.due⟩
 ·exact h
theorem Z3c (f:Qo0) (top:Int):(Ql8 f top).1=f.1∧(Ql8 f top).2.2=f.2.2:=by unfold Ql8;split<;>exact ⟨rfl,rfl⟩
theorem Zgd {f:Qo0} (h:FOk f) (next:Int):FOk (Z6u f next):=by
 unfold Z6u
 split
 ·exact Qv8 h _
 ·split
  ·rename_i h0 h1
   have:=h.next
   have e:f.1=0:=by omega
   have hw:=h.win0 e
   exact ⟨by simp only;omega,h.top,h.ring,fun i hi=>by have:=h.ring1 i hi;simp only;omega,h.ringl,h.win,fun i hi=>(by simp only [hw] at hi;cases hi),fun e=>by simp only at e;omega,by have:=h.log;simp only;omega,h.tries,h.due⟩
  ·exact h
theorem Zmh {w:List Qn4} {next:Int} {x:Qn4} (h:Zb9 Z99 w) (h1:∀ i∈w,next≤i.1∧i.1≤1000000∧i.1<next+8) (hx:x.1≤1000000):Zb9 Z99 (Zos w next x)∧∀ i∈Zos w next x,next≤i.1∧i.1≤1000000∧i.1<next+8:=by
 unfold Zos
 split
 ·exact ⟨h,h1⟩
 ·rename_i hn
  have hf:Zn1 w x.1=none:=by
   cases hg:Zn1 w x.1 with
   | none=>rfl
   | some y=>rw [hg] at hn;simp at hn
  refine ⟨Zgw h (Qwf.1 hf),fun i hi=>?_⟩
  rcases Zbm.1 hi with rfl | hi
  ·omega
  ·exact h1 i hi
theorem Zg1 {f:Qo0} (h:FOk f) (i:Qn4):FOk (Z70 f i)∧f.1≤(Z70 f i).1:=by
 unfold Z70
 split
 ·exact ⟨h,Int.le_refl _⟩
 ·rename_i h0
  have hk:=Qv8 h i.1
  have e:=Z3c f i.1
  have hn:=h.next
  have hp:=Zmh (next:=(Ql8 f i.1).1) (x:=i) hk.win (fun j hj=>by have:=hk.win1 j hj;omega) (by omega)
  have:=Zfp (f:=((Ql8 f i.1).1,(Ql8 f i.1).2.1,(Ql8 f i.1).2.2.1,Zos (Ql8 f i.1).2.2.2.1 (Ql8 f i.1).1 i,(Ql8 f i.1).2.2.2.2)) ⟨by simp only;omega,hk.top,hk.ring,hk.ring1,hk.ringl,hp.1,hp.2,hk.log,hk.tries,hk.due⟩
  refine ⟨this.1,?_⟩
  have:=this.2
  simp only at this ⊢
  omega
theorem Zgy {f:Qo0} (h:FOk f) (lo hi:Int):FOk (Z6y f lo hi)∧f.1≤(Z6y f lo hi).1:=by
 unfold Z6y
 split
 ·exact ⟨h,Int.le_refl _⟩
 ·have hk:=Qv8 h hi
  have e:=(Z3c f hi).1
  simp only
  split
  ·exact ⟨hk,by omega⟩
  ·have hs:=Z52 (hk.to' (by omega)) hi 1
   have:=Zfp hs.1
   exact ⟨this.1,by omega⟩
theorem Zra {f:Qo0} (h:FOk f) {now:Int} (h0:0≤now) (h1:now≤1125899906842624):FOk (Zo2 f now).1∧f.1≤(Zo2 f now).1.1:=by
 unfold Zo2
 split
 ·exact ⟨h,Int.le_refl _⟩
 ·rename_i s hs
  have hn1:f.1≠0:=by
   intro e;unfold Zix at hs;simp only [e,true_or,if_true] at hs;cases hs
  have hn:=h.next
  split
  ·split
   ·have hk:=Z52 (h.to' (by omega)) s.2 2
    have:=Zfp hk.1
    exact ⟨this.1,by simp only;omega⟩
   ·refine ⟨⟨h.next,h.top,h.ring,h.ring1,h.ringl,h.win,h.win1,h.win0,h.log,?_,?_⟩,Int.le_refl _⟩
    ·have:=h.tries;simp only;omega
    ·have ht:=h.tries
     simp only
     have:f.2.2.2.2.2.1=0∨f.2.2.2.2.2.1=1∨f.2.2.2.2.2.1=2:=by omega
     have e2:(2:Int)*2 ^ f.2.2.2.2.2.1.toNat≤8∧0≤(2:Int)*2 ^ f.2.2.2.2.2.1.toNat:=by
      rcases this with e | e | e<;>rw [e]<;>decide
     omega
  ·exact ⟨h,Int.le_refl _⟩
end Go.PE
