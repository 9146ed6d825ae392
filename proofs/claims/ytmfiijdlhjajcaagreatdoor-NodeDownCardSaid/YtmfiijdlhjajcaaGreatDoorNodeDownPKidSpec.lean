/-
  Plain lemmas on the functions.
  Conditions: none.
-/
import Derived.Test.YtmfiijdlhjajcaaGreatDoorNodeDownPLoopsX
set_option linter.unusedVariables false
set_option linter.unusedSimpArgs false
namespace Go.PE
abbrev Kid:=Int × Int × Int
def Z8t {α:Type} (key:α→Int):List α→Prop
 | []=>True
 | x::r=>(∀ y∈r,key x<key y)∧Z8t key r
def Qwh {α:Type} (key:α→Int) (v:Int):List α→Nat
 | []=>0
 | x::r=>if key x<v then Qwh key v r+1 else 0
theorem Zet {α:Type} (key:α→Int) (v:Int):∀ l:List α,Qwh key v l≤l.length
 | []=>Nat.le_refl _
 | x::r=>by
  unfold Qwh
  split
  ·have:=Zet key v r;rw [List.length_cons];omega
  ·omega
theorem Zf4 {α:Type} {key:α→Int} {v:Int}:∀ {l:List α},Z8t key l→∀ {i:Nat} (h:i<l.length),key l[i]<v↔i<Qwh key v l
 | [],_,i,h=>absurd h (by simp)
 | x::r,hr,0,h=>by
  show key x<v↔_
  unfold Qwh;split
  ·exact ⟨fun _=>by omega,fun _=>by assumption⟩
  ·exact ⟨fun h=>by contradiction,fun h=>by omega⟩
 | x::r,hr,i+1,h=>by
  have hi:i<r.length:=by rw [List.length_cons] at h;omega
  show key r[i]<v↔_
  unfold Qwh;split
  ·rw [Zf4 hr.2 hi];omega
  ·have:=hr.1 _ (List.getElem_mem hi)
   exact ⟨fun h=>by omega,fun h=>by omega⟩
def Zdr {α:Type} (key:α→Int) (v:Int):List α→Option α
 | []=>none
 | x::r=>if key x=v then some x else Zdr key v r
theorem Zk2 {α:Type} {key:α→Int} {v:Int}:∀ {l:List α} {x:α},Zdr key v l=some x→x∈l∧key x=v
 | [],x,h=>by cases h
 | y::r,x,h=>by
  unfold Zdr at h
  split at h
  ·cases h;exact ⟨List.mem_cons_self ..,by assumption⟩
  ·have:=Zk2 h;exact ⟨List.mem_cons_of_mem _ this.1,this.2⟩
theorem Qzt {α:Type} {key:α→Int} {v:Int}:∀ {l:List α},Zdr key v l=none↔∀ x∈l,key x≠v
 | []=>by simp [Zdr]
 | y::r=>by
  unfold Zdr
  split
  ·simp;intro h;contradiction
  ·rw [Qzt];simp;intro _;assumption
theorem Z3i {α:Type} {key:α→Int} {v:Int}:∀ {l:List α},Z8t key l→(Zdr key v l=none∧(∀ (h:Qwh key v l<l.length),v<key l[Qwh key v l]))∨(∃ h:Qwh key v l<l.length,Zdr key v l=some l[Qwh key v l]∧key l[Qwh key v l]=v)
 | [],_=>.inl ⟨rfl,fun h=>absurd h (by simp)⟩
 | x::r,hr=>by
  by_cases h1:key x<v
  ·have e1:Qwh key v (x::r)=Qwh key v r+1:=by show (if key x<v then Qwh key v r+1 else 0)=_;rw [if_pos h1]
   have e2:Zdr key v (x::r)=Zdr key v r:=by show (if key x=v then _ else _)=_;rw [if_neg (by omega)]
   rcases Z3i (v:=v) hr.2 with ⟨a,b⟩ | ⟨h,a,b⟩
   ·refine .inl ⟨e2.trans a,fun h=>?_⟩
    simp only [e1,List.getElem_cons_succ] at h ⊢
    exact b (by rw [List.length_cons] at h;omega)
   ·refine .inr ⟨by rw [e1,List.length_cons];omega,?_⟩
    simp only [e1,List.getElem_cons_succ]
    exact ⟨e2.trans a,b⟩
  ·have e1:Qwh key v (x::r)=0:=by show (if key x<v then Qwh key v r+1 else 0)=_;rw [if_neg h1]
   by_cases h2:key x=v
   ·refine .inr ⟨by rw [e1,List.length_cons];omega,?_⟩
    simp only [e1,List.getElem_cons_zero]
    exact ⟨by show (if key x=v then _ else _)=_;rw [if_pos h2],h2⟩
   ·refine .inl ⟨?_,fun h=>?_⟩
    ·rw [Qzt]
     intro y hy
     rcases List.mem_cons.1 hy with rfl | hy
     ·exact h2
     ·have:=hr.1 y hy;omega
    ·simp only [e1,List.getElem_cons_zero];omega
def Zie {α:Type} (key:α→Int) (k:α):List α→List α
 | []=>[k]
 | x::r=>if key k<key x then k::x::r else x::Zie key k r
def Qxk {α:Type} (key:α→Int) (v:Int) (l:List α):List α:=l.filter fun k=>key k != v
theorem Z4n {α:Type} {key:α→Int} (p:α→Bool):∀ {l:List α},Z8t key l→Z8t key (l.filter p)
 | [],_=>trivial
 | x::r,h=>by
  rw [List.filter_cons]
  split
  ·exact ⟨fun y hy=>h.1 y (List.mem_filter.1 hy).1,Z4n p h.2⟩
  ·exact Z4n p h.2
theorem Z9t {α:Type} {key:α→Int} {k y:α}:∀ {l:List α},y∈Zie key k l↔y=k∨y∈l
 | []=>by simp [Zie]
 | x::r=>by
  unfold Zie
  split
  ·simp
  ·rw [List.mem_cons,Z9t,List.mem_cons]
   constructor
   ·rintro (h | h | h)<;>simp [h]
   ·rintro (h | h | h)<;>simp [h]
theorem Ze9 {α:Type} {key:α→Int} {k:α}:∀ {l:List α},Z8t key l→(∀ y∈l,key y≠key k)→Z8t key (Zie key k l)
 | [],_,_=>⟨fun y hy=>(by cases hy),trivial⟩
 | x::r,h,hn=>by
  unfold Zie
  have hx:=hn x (List.mem_cons_self ..)
  split
  ·refine ⟨fun y hy=>?_,h⟩
   rcases List.mem_cons.1 hy with rfl | hy
   ·assumption
   ·have:=h.1 y hy;omega
  ·refine ⟨fun y hy=>?_,Ze9 h.2 fun y hy=>hn y (List.mem_cons_of_mem _ hy)⟩
   rcases Z9t.1 hy with rfl | hy
   ·omega
   ·exact h.1 y hy
theorem Zkw {α:Type} {key:α→Int} {k:α}:∀ {l:List α},Z8t key l→(∀ y∈l,key y≠key k)→Zie key k l=l.take (Qwh key (key k) l)++k::l.drop (Qwh key (key k) l)
 | [],_,_=>rfl
 | x::r,h,hn=>by
  have hx:=hn x (List.mem_cons_self ..)
  unfold Zie Qwh
  by_cases h1:key x<key k
  ·rw [if_neg (by omega),if_pos h1,List.take_succ_cons,List.drop_succ_cons,List.cons_append,Zkw h.2 fun y hy=>hn y (List.mem_cons_of_mem _ hy)]
  ·rw [if_pos (by omega),if_neg h1];rfl
theorem Zh2 {α:Type} {key:α→Int} {v:Int} {l:List α} (h:∀ x∈l,key x≠v):Qxk key v l=l:=by
 unfold Qxk;rw [List.filter_eq_self];intro x hx;exact bne_iff_ne.2 (h x hx)
theorem Zbe {α:Type} {key:α→Int} {v:Int} {l:List α} {x:α}:x∈Qxk key v l↔x∈l∧key x≠v:=by
 unfold Qxk;rw [List.mem_filter,bne_iff_ne]
theorem Zpw {α:Type} {key:α→Int} {k:α}:∀ {l:List α},Z8t key l→∀ (h:Qwh key (key k) l<l.length),key l[Qwh key (key k) l]=key k→l.set (Qwh key (key k) l) k=Zie key k (Qxk key (key k) l)
 | [],_,h,_=>absurd h (by simp)
 | x::r,hr,h,he=>by
  by_cases h1:key x<key k
  ·have e1:Qwh key (key k) (x::r)=Qwh key (key k) r+1:=by show (if key x<key k then Qwh key (key k) r+1 else 0)=_;rw [if_pos h1]
   simp only [e1,List.getElem_cons_succ,List.set_cons_succ] at h he ⊢
   have e2:Qxk key (key k) (x::r)=x::Qxk key (key k) r:=by unfold Qxk;rw [List.filter_cons,if_pos (bne_iff_ne.2 (by omega))]
   rw [e2,Zpw hr.2 (by rw [List.length_cons] at h;omega) he]
   show _=if key k<key x then _ else _
   rw [if_neg (by omega)]
  ·have e1:Qwh key (key k) (x::r)=0:=by show (if key x<key k then Qwh key (key k) r+1 else 0)=_;rw [if_neg h1]
   simp only [e1,List.getElem_cons_zero,List.set_cons_zero] at h he ⊢
   have e2:Qxk key (key k) (x::r)=r:=by
    unfold Qxk
    rw [List.filter_cons,if_neg (by simp [he])]
    exact Zh2 (fun y hy=>by have:=hr.1 y hy;omega)
   rw [e2]
   cases r with
   | nil=>rfl
   | cons y q=>
    have:=hr.1 y (List.mem_cons_self ..)
    show _=if key k<key y then _ else _
    rw [if_pos (by omega)]
theorem Ze6 {α:Type} {key:α→Int} {a b:Int}:∀ {l:List α},Z8t key l→(∀ x∈l,a≤key x∧key x≤b)→(l.length:Int)≤max (b - a+1) 0
 | [],_,_=>by simp;omega
 | x::r,h,hb=>by
  have hx:=hb x (List.mem_cons_self ..)
  have:=Ze6 (a:=key x+1) (b:=b) h.2 (fun y hy=>⟨by have:=h.1 y hy;omega,(hb y (List.mem_cons_of_mem _ hy)).2⟩)
  rw [List.length_cons];omega
abbrev kid (k:Kid):Int:=k.1
def Qug (l:List Kid) (id:Int):Option Kid:=Zdr kid id l
def Zor (l:List Kid) (id inc:Int):Bool:=match Qug l id with | some k=>decide (inc<k.2.1) | none=>false
def Z35 (l:List Kid) (k:Kid):List Kid:=if Zor l k.1 k.2.1=true then l else Zie kid k (Qxk kid k.1 l)
def Z10 (l:List Kid) (now:Int):List Kid:=l.filter fun k=>decide (now - k.2.2≤20)
def Zl5 (x:Int):Prop:=-1152921504606846976≤x∧x≤1152921504606846976
structure KOk (l:List Kid):Prop where
 rise:Z8t kid l
 rng:∀ k∈l,1≤k.1∧k.1≤8∧0≤k.2.1∧k.2.1≤1073741824∧0≤k.2.2∧k.2.2≤1125899906842624
theorem KOk.len {l:List Kid} (h:KOk l):l.length≤8:=by
 have:=Ze6 (a:=1) (b:=8) h.rise (fun x hx=>⟨(h.rng x hx).1,(h.rng x hx).2.1⟩)
 omega
theorem KOk.nil:KOk []:=⟨trivial,fun k h=>by cases h⟩
theorem KOk.filter {l:List Kid} (h:KOk l) (p:Kid→Bool):KOk (l.filter p):=⟨Z4n p h.rise,fun k hk=>h.rng k (List.mem_filter.1 hk).1⟩
theorem KOk.hear {l:List Kid} (h:KOk l) {k:Kid} (hk:1≤k.1∧k.1≤8∧0≤k.2.1∧k.2.1≤1073741824∧0≤k.2.2∧k.2.2≤1125899906842624):KOk (Z35 l k):=by
 unfold Z35
 split
 ·exact h
 ·refine ⟨Ze9 (Z4n _ h.rise) fun y hy=>(Zbe.1 hy).2,fun y hy=>?_⟩
  rcases Z9t.1 hy with rfl | hy
  ·exact hk
  ·exact h.rng y (Zbe.1 hy).1
end Go.PE
