/-
  Plain lemmas on the functions.
  Conditions: none.
-/
import Derived.Test.YtmfiijdlhjajcaaGreatDoorNodeDownPKidSpec
set_option linter.unusedVariables false
set_option linter.unusedSimpArgs false
namespace Go.PE
abbrev Qnb:=Int × ByteArray
abbrev Evt:=Int × Int × Int × ByteArray × Int
abbrev Qni:=Int × Int × List Qnb × List Qnb × List Evt × Int × Int
abbrev Z85 (i:Qnb):Int:=i.1
def Zm3 (l:List Qnb) (n:Int):Option Qnb:=Zdr Z85 n l
def Z95 (l:List Qnb) (i:Qnb):List Qnb:=
 match l.getLast? with
 | some x=>if i.1≤x.1 then l else (l++[i]).drop (l.length+1 - 6)
 | none=>[i]
def Zn8 (l:List Qnb) (next:Int) (x:Qnb):List Qnb:=if x.1<next∨8≤x.1 - next∨(Zm3 l x.1).isSome=true then l else Zie Z85 x l
def Z61 (i:Qnb):Evt:=(1,i.1,i.1,i.2,0)
def Zd7 (lo hi why:Int):Evt:=(2,lo,hi,(⟨#[]⟩:ByteArray),why)
def Qvp (top:Int):Int→List Qnb→List Qnb→List Evt→Int→Int→Qni
 | next,ring,[],log,a,b=>(next,top,ring,[],log,a,b)
 | next,ring,x::r,log,a,b=>if x.1=next then Qvp top (next+1) (Z95 ring x) r (log++[Z61 x]) 0 0 else (next,top,ring,x::r,log,a,b)
def Qvw (f:Qni):Qni:=Qvp f.2.1 f.1 f.2.2.1 f.2.2.2.1 f.2.2.2.2.1 f.2.2.2.2.2.1 f.2.2.2.2.2.2
def Zlw (l:List Qnb):Int:=match l with | []=>0 | x::_=>x.1
def Qoh (hi why:Int) (f:Qni):Qni:=
 let to:=match f.2.2.2.1 with | []=>hi | x::_=>if x.1≤hi then x.1 - 1 else hi
 let g:Qni:=if f.1≤to then (to+1,f.2.1,f.2.2.1,f.2.2.2.1,f.2.2.2.2.1++[Zd7 f.1 to why],0,0) else (f.1,f.2.1,f.2.2.1,f.2.2.2.1,f.2.2.2.2.1,0,0)
 if g.1≤hi then Qvw g else g
def Qt0 (hi why:Int):Nat→Qni→Qni
 | 0,f=>f
 | n+1,f=>if f.1≤hi then Qt0 hi why n (Qoh hi why f) else f
def Qvq (f:Qni) (hi why:Int):Qni:=if f.1<1∨1000000<hi then f else Qt0 hi why (f.2.2.2.1.length+1) f
def Ql2 (f:Qni) (top:Int):Qni:=if 0<f.1∧top≤1000000 then (f.1,max f.2.1 top,f.2.2) else f
def Z5g (f:Qni) (next:Int):Qni:=if 0<f.1 then Ql2 f (next - 1) else if 1≤next∧next≤1000000 then (next,f.2) else f
def Z5e (f:Qni) (i:Qnb):Qni:=
 if f.1=0∨i.1<1∨1000000<i.1∨12<i.2.size then f else
 let g:=Ql2 f i.1
 Qvw (g.1,g.2.1,g.2.2.1,Zn8 g.2.2.2.1 g.1 i,g.2.2.2.2)
def Z59 (f:Qni) (lo hi:Int):Qni:=
 if f.1=0∨lo<1∨hi<lo∨1000000<hi then f else
 let g:=Ql2 f hi
 if g.1<lo∨hi<g.1 then g else Qvw (Qvq g hi 1)
def Zgq (f:Qni):Option (Int × Int):=
 let hi:=match f.2.2.2.1 with | []=>f.2.1 | x::_=>x.1 - 1
 if f.1=0∨hi<f.1 then none else some (f.1,hi)
def Zmu (f:Qni) (now:Int):Qni × Option (Int × Int):=
 match Zgq f with
 | none=>(f,none)
 | some s=>
  if f.2.2.2.2.2.1=0∨f.2.2.2.2.2.2≤now then
   if 3≤f.2.2.2.2.2.1 then (Qvw (Qvq f s.2 2),none)
   else ((f.1,f.2.1,f.2.2.1,f.2.2.2.1,f.2.2.2.2.1,f.2.2.2.2.2.1+1,now+2*2 ^ f.2.2.2.2.2.1.toNat),some s)
  else (f,none)
def Zoq (l:List (Int × Int)) (n:Int):List (Int × Int):=
 match l.getLast? with
 | some s=>if s.2+1=n then l.dropLast++[(s.1,n)] else l++[(n,n)]
 | none=>[(n,n)]
def Z0z (ring:List Qnb) (top:Int):Nat→Int→List Qnb→List (Int × Int)→List Qnb × List (Int × Int)
 | 0,n,a,b=>(a,b)
 | k+1,n,a,b=>
  if top<n then (a,b) else
  match Zm3 ring n with
  | some i=>Z0z ring top k (n+1) (a++[i]) b
  | none=>Z0z ring top k (n+1) a (Zoq b n)
def Qx8 (f:Qni) (lo hi:Int):List Qnb × List (Int × Int):=if f.1=0 then ([],[]) else Z0z f.2.2.1 (min hi (f.1 - 1)) 8 lo [] []
structure FOk (f:Qni):Prop where
 next:0≤f.1∧f.1≤1000001
 top:0≤f.2.1∧f.2.1≤1000000
 ring:Z8t Z85 f.2.2.1
 ring1:∀ i∈f.2.2.1,1≤i.1∧i.1<f.1
 ringl:f.2.2.1.length≤6
 win:Z8t Z85 f.2.2.2.1
 win1:∀ i∈f.2.2.2.1,f.1<i.1∧i.1≤1000000∧i.1<f.1+8
 win0:f.1=0→f.2.2.2.1=[]
 log:(f.2.2.2.2.1.length:Int)≤f.1
 tries:0≤f.2.2.2.2.2.1∧f.2.2.2.2.2.1≤3
 due:0≤f.2.2.2.2.2.2∧f.2.2.2.2.2.2≤2251799813685248
structure Zii (f:Qni):Prop where
 next:1≤f.1∧f.1≤1000001
 top:0≤f.2.1∧f.2.1≤1000000
 ring:Z8t Z85 f.2.2.1
 ring1:∀ i∈f.2.2.1,1≤i.1∧i.1<f.1
 ringl:f.2.2.1.length≤6
 win:Z8t Z85 f.2.2.2.1
 win1:∀ i∈f.2.2.2.1,f.1≤i.1∧i.1≤1000000∧i.1<f.1+8
 log:(f.2.2.2.2.1.length:Int)≤f.1
 tries:0≤f.2.2.2.2.2.1∧f.2.2.2.2.2.1≤3
 due:0≤f.2.2.2.2.2.2∧f.2.2.2.2.2.2≤2251799813685248
theorem FOk.none:FOk (0,0,[],[],[],0,0):=⟨⟨by decide,by decide⟩,⟨by decide,by decide⟩,trivial,fun i h=>(by cases h),by simp,trivial,fun i h=>(by cases h),fun _=>rfl,by simp,⟨by decide,by decide⟩,⟨by decide,by decide⟩⟩
theorem FOk.to' {f:Qni} (h:FOk f) (h1:1≤f.1):Zii f:=⟨⟨h1,h.next.2⟩,h.top,h.ring,h.ring1,h.ringl,h.win,fun i hi=>by have:=h.win1 i hi;exact ⟨by omega,this.2⟩,h.log,h.tries,h.due⟩
theorem Zj4 {α:Type} {key:α→Int} {k:α}:∀ {l:List α},Z8t key l→(∀ y∈l,key y<key k)→Z8t key (l++[k])
 | [],_,_=>⟨fun y hy=>(by cases hy),trivial⟩
 | x::r,h,hn=>by
  refine ⟨fun y hy=>?_,Zj4 h.2 fun y hy=>hn y (List.mem_cons_of_mem _ hy)⟩
  rcases List.mem_append.1 hy with hy | hy
  ·exact h.1 y hy
  ·rcases List.mem_singleton.1 hy with rfl;exact hn x (List.mem_cons_self ..)
theorem Zir {α:Type} {key:α→Int}:∀ (n:Nat) {l:List α},Z8t key l→Z8t key (l.drop n)
 | 0,_,h=>h
 | n+1,[],h=>trivial
 | n+1,x::r,h=>Zir n h.2
theorem Znw {l:List Qnb} {i:Qnb} (h:∀ x∈l,x.1<i.1):Z95 l i=(l++[i]).drop (l.length+1 - 6):=by
 unfold Z95
 split
 ·rename_i x hx
  have:=h x (List.mem_of_getLast? hx)
  rw [if_neg (by omega)]
 ·rename_i hx
  rw [List.getLast?_eq_none_iff] at hx
  subst hx;rfl
theorem Znj {l:List Qnb} {i:Qnb} (h:Z8t Z85 l) (h1:∀ x∈l,1≤x.1∧x.1<i.1) (h2:l.length≤6) (hi:1≤i.1):Z8t Z85 (Z95 l i)∧(∀ x∈Z95 l i,1≤x.1∧x.1<i.1+1)∧(Z95 l i).length≤6:=by
 rw [Znw fun x hx=>(h1 x hx).2]
 refine ⟨Zir _ (Zj4 h fun y hy=>(h1 y hy).2),fun x hx=>?_,by rw [List.length_drop,List.length_append,List.length_singleton];omega⟩
 rcases List.mem_append.1 (List.mem_of_mem_drop hx) with hx | hx
 ·have:=h1 x hx;omega
 ·rcases List.mem_singleton.1 hx with rfl;omega
theorem z33:(0:Int)≤0∧(0:Int)≤3:=⟨by decide,by decide⟩
theorem z22:(0:Int)≤0∧(0:Int)≤2251799813685248:=⟨by decide,by decide⟩
theorem Zhs (top:Int):∀ (w:List Qnb) (next:Int) (ring:List Qnb) (log:List Evt) (a b:Int),Zii (next,top,ring,w,log,a,b)→FOk (Qvp top next ring w log a b)∧next≤(Qvp top next ring w log a b).1
 | [],next,ring,log,a,b,h=>⟨⟨⟨by have:=h.next.1;show (0:Int)≤next;simp only at this;omega,h.next.2⟩,h.top,h.ring,h.ring1,h.ringl,h.win,fun i hi=>(by cases hi),fun _=>rfl,h.log,h.tries,h.due⟩,Int.le_refl _⟩
 | x::r,next,ring,log,a,b,h=>by
  unfold Qvp
  obtain ⟨h1,h2,h3,h4,h5,h6,h7,h8,h9,h10⟩:=h
  simp only at h1 h2 h3 h4 h5 h6 h7 h8 h9 h10
  by_cases hx:x.1=next
  ·rw [if_pos hx]
   have hx7:=h7 x (List.mem_cons_self ..)
   obtain ⟨a1,a2,a3⟩:=Znj (i:=x) h3 (by rw [hx];exact h4) h5 (by omega)
   have:=Zhs top r (next+1) (Z95 ring x) (log++[Z61 x]) 0 0 ⟨by simp only;omega,h2,a1,by rw [hx] at a2;exact a2,a3,h6.2,fun i hi=>by
    have p:=h7 i (List.mem_cons_of_mem _ hi);have q:=h6.1 i hi;simp only [Z85] at q ⊢;omega,by simp only [List.length_append,List.length_singleton];omega,z33,z22⟩
   exact ⟨this.1,by have:=this.2;omega⟩
  ·rw [if_neg hx]
   refine ⟨⟨by simp only;omega,h2,h3,h4,h5,h6,fun i hi=>?_,fun h0=>by simp only at h0;omega,h8,h9,h10⟩,Int.le_refl _⟩
   have p:=h7 i hi
   simp only
   rcases List.mem_cons.1 hi with rfl | hi
   ·omega
   ·have q:=h6.1 i hi;have p':=h7 x (List.mem_cons_self ..);simp only [Z85] at q;omega
theorem Ze3 {f:Qni} (h:Zii f):FOk (Qvw f)∧f.1≤(Qvw f).1:=Zhs _ _ _ _ _ _ _ h
theorem Zhy {f:Qni} {hi why:Int} (h:Zii f) (hh:f.1≤hi) (h6:hi≤1000000) :
  Zii (Qoh hi why f)∧f.1<(Qoh hi why f).1∧(hi<(Qoh hi why f).1∨(Qoh hi why f).2.2.2.1.length<f.2.2.2.1.length):=by
 obtain ⟨n,t,r,w,l,a,b⟩:=f
 obtain ⟨h1,h2,h3,h4,h5,h6',h7,h8,h9,h10⟩:=h
 simp only at h1 h2 h3 h4 h5 h6' h7 h8 h9 h10 hh ⊢
 have z:=z33
 have z2:=z22
 cases w with
 | nil=>
  unfold Qoh
  simp only
  rw [if_pos hh]
  simp only
  rw [if_neg (by omega)]
  exact ⟨⟨by simp only;omega,h2,h3,fun i hi'=>by have:=h4 i hi';simp only;omega,h5,h6',fun i hi'=>(by cases hi'),by simp only [List.length_append,List.length_singleton];omega,z,z2⟩,by simp only;omega,.inl (by simp only;omega)⟩
 | cons x q=>
  have hx:=h7 x (List.mem_cons_self ..)
  unfold Qoh
  simp only
  by_cases h0:x.1≤hi
  ·rw [if_pos h0]
   have key:∀ g:Qni,g=(x.1,t,r,x::q,g.2.2.2.2.1,0,0)→(g.2.2.2.2.1.length:Int)≤x.1→Zii (if g.1≤hi then Qvw g else g)∧n<(if g.1≤hi then Qvw g else g).1∧(hi<(if g.1≤hi then Qvw g else g).1∨(if g.1≤hi then Qvw g else g).2.2.2.1.length<q.length+1):=by
    intro g hg hl
    generalize hL:g.2.2.2.2.1=L at hg hl
    subst hg
    simp only
    rw [if_pos h0]
    have hgo:Qvw (x.1,t,r,x::q,L,0,0)=Qvp t (x.1+1) (Z95 r x) q (L++[Z61 x]) 0 0:=by
     show Qvp _ _ _ (x::q) _ _ _=_
     rw [Qvp];simp only [if_pos]
    obtain ⟨a1,a2,a3⟩:=Znj (i:=x) h3 (fun y hy=>by have:=h4 y hy;omega) h5 (by omega)
    have hk:=Zhs t q (x.1+1) (Z95 r x) (L++[Z61 x]) 0 0 ⟨by simp only;omega,h2,a1,a2,a3,h6'.2,fun i hi'=>by
     have p:=h7 i (List.mem_cons_of_mem _ hi');have q':=h6'.1 i hi';simp only [Z85] at q' ⊢;omega,by simp only [List.length_append,List.length_singleton];omega,z,z2⟩
    rw [hgo]
    refine ⟨hk.1.to' (by have:=hk.2;omega),by have:=hk.2;omega,.inr ?_⟩
    have hlen:∀ (w:List Qnb) (next:Int) (ring:List Qnb) (log:List Evt) (a b:Int),(Qvp t next ring w log a b).2.2.2.1.length≤w.length:=by
     intro w
     induction w with
     | nil=>intro next ring log a b;exact Nat.le_refl _
     | cons y s ih=>
      intro next ring log a b
      unfold Qvp
      split
      ·have:=ih (next+1) (Z95 ring y) (log++[Z61 y]) 0 0;rw [List.length_cons];omega
      ·exact Nat.le_refl _
    have:=hlen q (x.1+1) (Z95 r x) (L++[Z61 x]) 0 0
    omega
   rw [List.length_cons]
   by_cases h8':n≤x.1 - 1
   ·rw [if_pos h8']
    exact key _ (by simp only [Prod.mk.injEq,and_true,true_and];omega) (by simp only [List.length_append,List.length_singleton];omega)
   ·rw [if_neg h8']
    exact key _ (by simp only [Prod.mk.injEq,and_true,true_and];omega) (by simp only;omega)
  ·rw [if_neg h0,if_pos hh]
   simp only
   rw [if_neg (by omega)]
   exact ⟨⟨by simp only;omega,h2,h3,fun i hi'=>by have:=h4 i hi';simp only;omega,h5,h6',fun i hi'=>by
    have p:=h7 i hi';simp only
    rcases List.mem_cons.1 hi' with rfl | hi'
    ·omega
    ·have q':=h6'.1 i hi';simp only [Z85] at q';omega,by simp only [List.length_append,List.length_singleton];omega,z,z2⟩,by simp only;omega,.inl (by simp only;omega)⟩
theorem Zk0 {hi why:Int} (h6:hi≤1000000):∀ (n:Nat) {f:Qni},Zii f→Zii (Qt0 hi why n f)∧f.1≤(Qt0 hi why n f).1∧(f.2.2.2.1.length<n→hi<(Qt0 hi why n f).1)
 | 0,f,h=>⟨h,Int.le_refl _,fun h=>by omega⟩
 | n+1,f,h=>by
  unfold Qt0
  by_cases h1:f.1≤hi
  ·rw [if_pos h1]
   obtain ⟨a,b,c⟩:=Zhy (why:=why) h h1 h6
   obtain ⟨p,q,r⟩:=Zk0 h6 n a
   refine ⟨p,by omega,fun hl=>?_⟩
   rcases c with c | c
   ·omega
   ·exact r (by omega)
  ·rw [if_neg h1];exact ⟨h,Int.le_refl _,fun _=>by omega⟩
theorem Z46 {f:Qni} (h:Zii f) (hi why:Int):Zii (Qvq f hi why)∧f.1≤(Qvq f hi why).1:=by
 unfold Qvq
 split
 ·exact ⟨h,Int.le_refl _⟩
 ·have:=Zk0 (why:=why) (hi:=hi) (by omega) (f.2.2.2.1.length+1) h
  exact ⟨this.1,this.2.1⟩
theorem Quc {f:Qni} (h:FOk f) (top:Int):FOk (Ql2 f top):=by
 unfold Ql2
 split
 ·rename_i h1
  exact ⟨h.next,by have:=h.top;simp only;omega,h.ring,h.ring1,h.ringl,h.win,h.win1,h.win0,h.log,h.tries,h.due⟩
 ·exact h
theorem Z27 (f:Qni) (top:Int):(Ql2 f top).1=f.1∧(Ql2 f top).2.2=f.2.2:=by unfold Ql2;split<;>exact ⟨rfl,rfl⟩
theorem Zfw {f:Qni} (h:FOk f) (next:Int):FOk (Z5g f next):=by
 unfold Z5g
 split
 ·exact Quc h _
 ·split
  ·rename_i h0 h1
   have:=h.next
   have e:f.1=0:=by omega
   have hw:=h.win0 e
   exact ⟨by simp only;omega,h.top,h.ring,fun i hi=>by have:=h.ring1 i hi;simp only;omega,h.ringl,h.win,fun i hi=>(by simp only [hw] at hi;cases hi),fun e=>by simp only at e;omega,by have:=h.log;simp only;omega,h.tries,h.due⟩
  ·exact h
theorem Zkq {w:List Qnb} {next:Int} {x:Qnb} (h:Z8t Z85 w) (h1:∀ i∈w,next≤i.1∧i.1≤1000000∧i.1<next+8) (hx:x.1≤1000000):Z8t Z85 (Zn8 w next x)∧∀ i∈Zn8 w next x,next≤i.1∧i.1≤1000000∧i.1<next+8:=by
 unfold Zn8
 split
 ·exact ⟨h,h1⟩
 ·rename_i hn
  have hf:Zm3 w x.1=none:=by
   cases hg:Zm3 w x.1 with
   | none=>rfl
   | some y=>rw [hg] at hn;simp at hn
  refine ⟨Ze9 h (Qzt.1 hf),fun i hi=>?_⟩
  rcases Z9t.1 hi with rfl | hi
  ·omega
  ·exact h1 i hi
theorem Zfa {f:Qni} (h:FOk f) (i:Qnb):FOk (Z5e f i)∧f.1≤(Z5e f i).1:=by
 unfold Z5e
 split
 ·exact ⟨h,Int.le_refl _⟩
 ·rename_i h0
  have hk:=Quc h i.1
  have e:=Z27 f i.1
  have hn:=h.next
  have hp:=Zkq (next:=(Ql2 f i.1).1) (x:=i) hk.win (fun j hj=>by have:=hk.win1 j hj;omega) (by omega)
  have:=Ze3 (f:=((Ql2 f i.1).1,(Ql2 f i.1).2.1,(Ql2 f i.1).2.2.1,Zn8 (Ql2 f i.1).2.2.2.1 (Ql2 f i.1).1 i,(Ql2 f i.1).2.2.2.2)) ⟨by simp only;omega,hk.top,hk.ring,hk.ring1,hk.ringl,hp.1,hp.2,hk.log,hk.tries,hk.due⟩
  refine ⟨this.1,?_⟩
  have:=this.2
  simp only at this ⊢
  omega
theorem Zff {f:Qni} (h:FOk f) (lo hi:Int):FOk (Z59 f lo hi)∧f.1≤(Z59 f lo hi).1:=by
 unfold Z59
 split
 ·exact ⟨h,Int.le_refl _⟩
 ·have hk:=Quc h hi
  have e:=(Z27 f hi).1
  simp only
  split
  ·exact ⟨hk,by omega⟩
  ·have hs:=Z46 (hk.to' (by omega)) hi 1
   have:=Ze3 hs.1
   exact ⟨this.1,by omega⟩
theorem Zp3 {f:Qni} (h:FOk f) {now:Int} (h0:0≤now) (h1:now≤1125899906842624):FOk (Zmu f now).1∧f.1≤(Zmu f now).1.1:=by
 unfold Zmu
 split
 ·exact ⟨h,Int.le_refl _⟩
 ·rename_i s hs
  have hn1:f.1≠0:=by
   intro e;unfold Zgq at hs;simp only [e,true_or,if_true] at hs;cases hs
  have hn:=h.next
  split
  ·split
   ·have hk:=Z46 (h.to' (by omega)) s.2 2
    have:=Ze3 hk.1
    exact ⟨this.1,by simp only;omega⟩
   ·refine ⟨⟨h.next,h.top,h.ring,h.ring1,h.ringl,h.win,h.win1,h.win0,h.log,?_,?_⟩,Int.le_refl _⟩
    ·have:=h.tries;simp only;omega
    ·have ht:=h.tries
     simp only
     have:f.2.2.2.2.2.1=0∨f.2.2.2.2.2.1=1∨f.2.2.2.2.2.1=2:=by omega
     have e2:(2:Int)*2 ^ f.2.2.2.2.2.1.toNat≤8∧0≤(2:Int)*2 ^ f.2.2.2.2.2.1.toNat:=by
      rcases this with e | e | e<;>rw [e]<;>decide
     omega
  ·exact ⟨h,Int.le_refl _⟩
end Go.PE
