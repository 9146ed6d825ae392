/-
  Plain lemmas on the functions.
  Conditions: none.
-/
import Derived.Test.YtmfiijdlhjajcaaGreatDoorNodeDeafPLoopsX
set_option linter.unusedVariables false
set_option linter.unusedSimpArgs false
namespace Go.PE
abbrev Kid:=Int × Int × Int
def Zia {α:Type} (key:α→Int):List α→Prop
 | []=>True
 | x::r=>(∀ y∈r,key x<key y)∧Zia key r
def Zea {α:Type} (key:α→Int) (v:Int):List α→Nat
 | []=>0
 | x::r=>if key x<v then Zea key v r+1 else 0
theorem Zsd {α:Type} (key:α→Int) (v:Int):∀ l:List α,Zea key v l≤l.length
 | []=>Nat.le_refl _
 | x::r=>by
  unfold Zea
  split
  ·have:=Zsd key v r;rw [List.length_cons];omega
  ·omega
theorem Zsc {α:Type} {key:α→Int} {v:Int}:∀ {l:List α},Zia key l→∀ {i:Nat} (h:i<l.length),key l[i]<v↔i<Zea key v l
 | [],_,i,h=>absurd h (by simp)
 | x::r,hr,0,h=>by
  show key x<v↔_
  unfold Zea;split
  ·exact ⟨fun _=>by omega,fun _=>by assumption⟩
  ·exact ⟨fun h=>by contradiction,fun h=>by omega⟩
 | x::r,hr,i+1,h=>by
  have hi:i<r.length:=by rw [List.length_cons] at h;omega
  show key r[i]<v↔_
  unfold Zea;split
  ·rw [Zsc hr.2 hi];omega
  ·have:=hr.1 _ (List.getElem_mem hi)
   exact ⟨fun h=>by omega,fun h=>by omega⟩
def Zfw {α:Type} (key:α→Int) (v:Int):List α→Option α
 | []=>none
 | x::r=>if key x=v then some x else Zfw key v r
theorem Zqo {α:Type} {key:α→Int} {v:Int}:∀ {l:List α} {x:α},Zfw key v l=some x→x∈l∧key x=v
 | [],x,h=>by cases h
 | y::r,x,h=>by
  unfold Zfw at h
  split at h
  ·cases h;exact ⟨List.mem_cons_self ..,by assumption⟩
  ·have:=Zqo h;exact ⟨List.mem_cons_of_mem _ this.1,this.2⟩
theorem Z9b {α:Type} {key:α→Int} {v:Int}:∀ {l:List α},Zfw key v l=none↔∀ x∈l,key x≠v
 | []=>by simp [Zfw]
 | y::r=>by
  unfold Zfw
  split
  ·simp;intro h;contradiction
  ·rw [Z9b];simp;intro _;assumption
theorem Zq9 {α:Type} {key:α→Int} {v:Int}:∀ {l:List α},Zia key l→(Zfw key v l=none∧(∀ (h:Zea key v l<l.length),v<key l[Zea key v l]))∨(∃ h:Zea key v l<l.length,Zfw key v l=some l[Zea key v l]∧key l[Zea key v l]=v)
 | [],_=>.inl ⟨rfl,fun h=>absurd h (by simp)⟩
 | x::r,hr=>by
  by_cases h1:key x<v
  ·have e1:Zea key v (x::r)=Zea key v r+1:=by show (if key x<v then Zea key v r+1 else 0)=_;rw [if_pos h1]
   have e2:Zfw key v (x::r)=Zfw key v r:=by show (if key x=v then _ else _)=_;rw [if_neg (by omega)]
   rcases Zq9 (v:=v) hr.2 with ⟨a,b⟩ | ⟨h,a,b⟩
   ·refine .inl ⟨e2.trans a,fun h=>?_⟩
    simp only [e1,List.getElem_cons_succ] at h ⊢
    exact b (by rw [List.length_cons] at h;omega)
   ·refine .inr ⟨by rw [e1,List.length_cons];omega,?_⟩
    simp only [e1,List.getElem_cons_succ]
    exact ⟨e2.trans a,b⟩
  ·have e1:Zea key v (x::r)=0:=by show (if key x<v then Zea key v r+1 else 0)=_;rw [if_neg h1]
   by_cases h2:key x=v
   ·refine .inr ⟨by rw [e1,List.length_cons];omega,?_⟩
    simp only [e1,List.getElem_cons_zero]
    exact ⟨by show (if key x=v then _ else _)=_;rw [if_pos h2],h2⟩
   ·refine .inl ⟨?_,fun h=>?_⟩
    ·rw [Z9b]
     intro y hy
     rcases List.mem_cons.1 hy with rfl | hy
     ·exact h2
     ·have:=hr.1 y hy;omega
    ·simp only [e1,List.getElem_cons_zero];omega
def Ziz {α:Type} (key:α→Int) (k:α):List α→List α
 | []=>[k]
 | x::r=>if key k<key x then k::x::r else x::Ziz key k r
def Qz5 {α:Type} (key:α→Int) (v:Int) (l:List α):List α:=l.filter fun k=>key k != v
theorem Z6h {α:Type} {key:α→Int} (p:α→Bool):∀ {l:List α},Zia key l→Zia key (l.filter p)
 | [],_=>trivial
 | x::r,h=>by
  rw [List.filter_cons]
  split
  ·exact ⟨fun y hy=>h.1 y (List.mem_filter.1 hy).1,Z6h p h.2⟩
  ·exact Z6h p h.2
theorem Zgc {α:Type} {key:α→Int} {k y:α}:∀ {l:List α},y∈Ziz key k l↔y=k∨y∈l
 | []=>by simp [Ziz]
 | x::r=>by
  unfold Ziz
  split
  ·simp
  ·rw [List.mem_cons,Zgc,List.mem_cons]
   constructor
   ·rintro (h | h | h)<;>simp [h]
   ·rintro (h | h | h)<;>simp [h]
theorem Zh4 {α:Type} {key:α→Int} {k:α}:∀ {l:List α},Zia key l→(∀ y∈l,key y≠key k)→Zia key (Ziz key k l)
 | [],_,_=>⟨fun y hy=>(by cases hy),trivial⟩
 | x::r,h,hn=>by
  unfold Ziz
  have hx:=hn x (List.mem_cons_self ..)
  split
  ·refine ⟨fun y hy=>?_,h⟩
   rcases List.mem_cons.1 hy with rfl | hy
   ·assumption
   ·have:=h.1 y hy;omega
  ·refine ⟨fun y hy=>?_,Zh4 h.2 fun y hy=>hn y (List.mem_cons_of_mem _ hy)⟩
   rcases Zgc.1 hy with rfl | hy
   ·omega
   ·exact h.1 y hy
theorem Zs7 {α:Type} {key:α→Int} {k:α}:∀ {l:List α},Zia key l→(∀ y∈l,key y≠key k)→Ziz key k l=l.take (Zea key (key k) l)++k::l.drop (Zea key (key k) l)
 | [],_,_=>rfl
 | x::r,h,hn=>by
  have hx:=hn x (List.mem_cons_self ..)
  unfold Ziz Zea
  by_cases h1:key x<key k
  ·rw [if_neg (by omega),if_pos h1,List.take_succ_cons,List.drop_succ_cons,List.cons_append,Zs7 h.2 fun y hy=>hn y (List.mem_cons_of_mem _ hy)]
  ·rw [if_pos (by omega),if_neg h1];rfl
theorem Zri {α:Type} {key:α→Int} {k:α}:∀ {l:List α},(Ziz key k l).length=l.length+1
 | []=>rfl
 | x::r=>by
  unfold Ziz
  split
  ·simp
  ·rw [List.length_cons,Zri,List.length_cons]
theorem Zps {α:Type} {key:α→Int} {v:Int} {l:List α} (h:∀ x∈l,key x≠v):Qz5 key v l=l:=by
 unfold Qz5;rw [List.filter_eq_self];intro x hx;exact bne_iff_ne.2 (h x hx)
theorem Zmb {α:Type} {key:α→Int} {v:Int} {l:List α} {x:α}:x∈Qz5 key v l↔x∈l∧key x≠v:=by
 unfold Qz5;rw [List.mem_filter,bne_iff_ne]
theorem Zt7 {α:Type} {key:α→Int} {k:α}:∀ {l:List α},Zia key l→∀ (h:Zea key (key k) l<l.length),key l[Zea key (key k) l]=key k→l.set (Zea key (key k) l) k=Ziz key k (Qz5 key (key k) l)
 | [],_,h,_=>absurd h (by simp)
 | x::r,hr,h,he=>by
  by_cases h1:key x<key k
  ·have e1:Zea key (key k) (x::r)=Zea key (key k) r+1:=by show (if key x<key k then Zea key (key k) r+1 else 0)=_;rw [if_pos h1]
   simp only [e1,List.getElem_cons_succ,List.set_cons_succ] at h he ⊢
   have e2:Qz5 key (key k) (x::r)=x::Qz5 key (key k) r:=by unfold Qz5;rw [List.filter_cons,if_pos (bne_iff_ne.2 (by omega))]
   rw [e2,Zt7 hr.2 (by rw [List.length_cons] at h;omega) he]
   show _=if key k<key x then _ else _
   rw [if_neg (by omega)]
  ·have e1:Zea key (key k) (x::r)=0:=by show (if key x<key k then Zea key (key k) r+1 else 0)=_;rw [if_neg h1]
   simp only [e1,List.getElem_cons_zero,List.set_cons_zero] at h he ⊢
   have e2:Qz5 key (key k) (x::r)=r:=by
    unfold Qz5
    rw [List.filter_cons,if_neg (by simp [he])]
    exact Zps (fun y hy=>by have:=hr.1 y hy;omega)
   rw [e2]
   cases r with
   | nil=>rfl
   | cons y q=>
    have:=hr.1 y (List.mem_cons_self ..)
    show _=if key k<key y then _ else _
    rw [if_pos (by omega)]
theorem Zge {α:Type} {key:α→Int} {a b:Int}:∀ {l:List α},Zia key l→(∀ x∈l,a≤key x∧key x≤b)→(l.length:Int)≤max (b - a+1) 0
 | [],_,_=>by simp;omega
 | x::r,h,hb=>by
  have hx:=hb x (List.mem_cons_self ..)
  have:=Zge (a:=key x+1) (b:=b) h.2 (fun y hy=>⟨by have:=h.1 y hy;omega,(hb y (List.mem_cons_of_mem _ hy)).2⟩)
  rw [List.length_cons];omega
abbrev kid (k:Kid):Int:=k.1
def Zdj (l:List Kid) (id:Int):Option Kid:=Zfw kid id l
def Zso (l:List Kid) (id inc:Int):Bool:=match Zdj l id with | some k=>decide (inc<k.2.1) | none=>false
def Zdy (l:List Kid) (k:Kid):List Kid:=if Zso l k.1 k.2.1=true then l else Ziz kid k (Qz5 kid k.1 l)
def Z3k (l:List Kid) (now:Int):List Kid:=l.filter fun k=>decide (now - k.2.2≤20)
def Zod (x:Int):Prop:=-1152921504606846976≤x∧x≤1152921504606846976
structure KOk (l:List Kid):Prop where
 rise:Zia kid l
 rng:∀ k∈l,1≤k.1∧k.1≤8∧0≤k.2.1∧k.2.1≤1073741824∧0≤k.2.2∧k.2.2≤1125899906842624
theorem KOk.len {l:List Kid} (h:KOk l):l.length≤8:=by
 have:=Zge (a:=1) (b:=8) h.rise (fun x hx=>⟨(h.rng x hx).1,(h.rng x hx).2.1⟩)
 omega
theorem KOk.nil:KOk []:=⟨trivial,fun k h=>by cases h⟩
theorem KOk.filter {l:List Kid} (h:KOk l) (p:Kid→Bool):KOk (l.filter p):=⟨Z6h p h.rise,fun k hk=>h.rng k (List.mem_filter.1 hk).1⟩
theorem KOk.hear {l:List Kid} (h:KOk l) {k:Kid} (hk:1≤k.1∧k.1≤8∧0≤k.2.1∧k.2.1≤1073741824∧0≤k.2.2∧k.2.2≤1125899906842624):KOk (Zdy l k):=by
 unfold Zdy
 split
 ·exact h
 ·refine ⟨Zh4 (Z6h _ h.rise) fun y hy=>(Zmb.1 hy).2,fun y hy=>?_⟩
  rcases Zgc.1 hy with rfl | hy
  ·exact hk
  ·exact h.rng y (Zmb.1 hy).1
end Go.PE
