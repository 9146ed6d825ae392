/-
  Plain lemmas on the functions.
  Conditions: none.
-/
import Derived.Test.YtmfiijdlhjajcaaGreatDoorNodeServesPLoopsX
set_option linter.unusedVariables false
set_option linter.unusedSimpArgs false
namespace Go.PE
abbrev Kid:=Int × Int × Int
def Zb9 {α:Type} (key:α→Int):List α→Prop
 | []=>True
 | x::r=>(∀ y∈r,key x<key y)∧Zb9 key r
def Qxn {α:Type} (key:α→Int) (v:Int):List α→Nat
 | []=>0
 | x::r=>if key x<v then Qxn key v r+1 else 0
theorem Zg6 {α:Type} (key:α→Int) (v:Int):∀ l:List α,Qxn key v l≤l.length
 | []=>Nat.le_refl _
 | x::r=>by
  unfold Qxn
  split
  ·have:=Zg6 key v r;rw [List.length_cons];omega
  ·omega
theorem Zh6 {α:Type} {key:α→Int} {v:Int}:∀ {l:List α},Zb9 key l→∀ {i:Nat} (h:i<l.length),key l[i]<v↔i<Qxn key v l
 | [],_,i,h=>absurd h (by simp)
 | x::r,hr,0,h=>by
  show key x<v↔_
  unfold Qxn;split
  ·exact ⟨fun _=>by omega,fun _=>by assumption⟩
  ·exact ⟨fun h=>by contradiction,fun h=>by omega⟩
 | x::r,hr,i+1,h=>by
  have hi:i<r.length:=by rw [List.length_cons] at h;omega
  show key r[i]<v↔_
  unfold Qxn;split
  ·rw [Zh6 hr.2 hi];omega
  ·have:=hr.1 _ (List.getElem_mem hi)
   exact ⟨fun h=>by omega,fun h=>by omega⟩
def Zfc {α:Type} (key:α→Int) (v:Int):List α→Option α
 | []=>none
 | x::r=>if key x=v then some x else Zfc key v r
theorem Zc6 {α:Type} {key:α→Int} {v:Int}:∀ {l:List α} {x:α},Zfc key v l=some x→x∈l∧key x=v
 | [],x,h=>by cases h
 | y::r,x,h=>by
  unfold Zfc at h
  split at h
  ·cases h;exact ⟨List.mem_cons_self ..,by assumption⟩
  ·have:=Zc6 h;exact ⟨List.mem_cons_of_mem _ this.1,this.2⟩
theorem Qwf {α:Type} {key:α→Int} {v:Int}:∀ {l:List α},Zfc key v l=none↔∀ x∈l,key x≠v
 | []=>by simp [Zfc]
 | y::r=>by
  unfold Zfc
  split
  ·simp;intro h;contradiction
  ·rw [Qwf];simp;intro _;assumption
theorem Z5c {α:Type} {key:α→Int} {v:Int}:∀ {l:List α},Zb9 key l→(Zfc key v l=none∧(∀ (h:Qxn key v l<l.length),v<key l[Qxn key v l]))∨(∃ h:Qxn key v l<l.length,Zfc key v l=some l[Qxn key v l]∧key l[Qxn key v l]=v)
 | [],_=>.inl ⟨rfl,fun h=>absurd h (by simp)⟩
 | x::r,hr=>by
  by_cases h1:key x<v
  ·have e1:Qxn key v (x::r)=Qxn key v r+1:=by show (if key x<v then Qxn key v r+1 else 0)=_;rw [if_pos h1]
   have e2:Zfc key v (x::r)=Zfc key v r:=by show (if key x=v then _ else _)=_;rw [if_neg (by omega)]
   rcases Z5c (v:=v) hr.2 with ⟨a,b⟩ | ⟨h,a,b⟩
   ·refine .inl ⟨e2.trans a,fun h=>?_⟩
    simp only [e1,List.getElem_cons_succ] at h ⊢
    exact b (by rw [List.length_cons] at h;omega)
   ·refine .inr ⟨by rw [e1,List.length_cons];omega,?_⟩
    simp only [e1,List.getElem_cons_succ]
    exact ⟨e2.trans a,b⟩
  ·have e1:Qxn key v (x::r)=0:=by show (if key x<v then Qxn key v r+1 else 0)=_;rw [if_neg h1]
   by_cases h2:key x=v
   ·refine .inr ⟨by rw [e1,List.length_cons];omega,?_⟩
    simp only [e1,List.getElem_cons_zero]
    exact ⟨by show (if key x=v then _ else _)=_;rw [if_pos h2],h2⟩
   ·refine .inl ⟨?_,fun h=>?_⟩
    ·rw [Qwf]
     intro y hy
     rcases List.mem_cons.1 hy with rfl | hy
     ·exact h2
     ·have:=hr.1 y hy;omega
    ·simp only [e1,List.getElem_cons_zero];omega
def Zjy {α:Type} (key:α→Int) (k:α):List α→List α
 | []=>[k]
 | x::r=>if key k<key x then k::x::r else x::Zjy key k r
def Qyz {α:Type} (key:α→Int) (v:Int) (l:List α):List α:=l.filter fun k=>key k != v
theorem Z65 {α:Type} {key:α→Int} (p:α→Bool):∀ {l:List α},Zb9 key l→Zb9 key (l.filter p)
 | [],_=>trivial
 | x::r,h=>by
  rw [List.filter_cons]
  split
  ·exact ⟨fun y hy=>h.1 y (List.mem_filter.1 hy).1,Z65 p h.2⟩
  ·exact Z65 p h.2
theorem Zbm {α:Type} {key:α→Int} {k y:α}:∀ {l:List α},y∈Zjy key k l↔y=k∨y∈l
 | []=>by simp [Zjy]
 | x::r=>by
  unfold Zjy
  split
  ·simp
  ·rw [List.mem_cons,Zbm,List.mem_cons]
   constructor
   ·rintro (h | h | h)<;>simp [h]
   ·rintro (h | h | h)<;>simp [h]
theorem Zgw {α:Type} {key:α→Int} {k:α}:∀ {l:List α},Zb9 key l→(∀ y∈l,key y≠key k)→Zb9 key (Zjy key k l)
 | [],_,_=>⟨fun y hy=>(by cases hy),trivial⟩
 | x::r,h,hn=>by
  unfold Zjy
  have hx:=hn x (List.mem_cons_self ..)
  split
  ·refine ⟨fun y hy=>?_,h⟩
   rcases List.mem_cons.1 hy with rfl | hy
   ·assumption
   ·have:=h.1 y hy;omega
  ·refine ⟨fun y hy=>?_,Zgw h.2 fun y hy=>hn y (List.mem_cons_of_mem _ hy)⟩
   rcases Zbm.1 hy with rfl | hy
   ·omega
   ·exact h.1 y hy
theorem Zmd {α:Type} {key:α→Int} {k:α}:∀ {l:List α},Zb9 key l→(∀ y∈l,key y≠key k)→Zjy key k l=l.take (Qxn key (key k) l)++k::l.drop (Qxn key (key k) l)
 | [],_,_=>rfl
 | x::r,h,hn=>by
  have hx:=hn x (List.mem_cons_self ..)
  unfold Zjy Qxn
  by_cases h1:key x<key k
  ·rw [if_neg (by omega),if_pos h1,List.take_succ_cons,List.drop_succ_cons,List.cons_append,Zmd h.2 fun y hy=>hn y (List.mem_cons_of_mem _ hy)]
  ·rw [if_pos (by omega),if_neg h1];rfl
theorem Zj2 {α:Type} {key:α→Int} {v:Int} {l:List α} (h:∀ x∈l,key x≠v):Qyz key v l=l:=by
 unfold Qyz;rw [List.filter_eq_self];intro x hx;exact bne_iff_ne.2 (h x hx)
theorem Zcl {α:Type} {key:α→Int} {v:Int} {l:List α} {x:α}:x∈Qyz key v l↔x∈l∧key x≠v:=by
 unfold Qyz;rw [List.mem_filter,bne_iff_ne]
theorem Zrj {α:Type} {key:α→Int} {k:α}:∀ {l:List α},Zb9 key l→∀ (h:Qxn key (key k) l<l.length),key l[Qxn key (key k) l]=key k→l.set (Qxn key (key k) l) k=Zjy key k (Qyz key (key k) l)
 | [],_,h,_=>absurd h (by simp)
 | x::r,hr,h,he=>by
  by_cases h1:key x<key k
  ·have e1:Qxn key (key k) (x::r)=Qxn key (key k) r+1:=by show (if key x<key k then Qxn key (key k) r+1 else 0)=_;rw [if_pos h1]
   simp only [e1,List.getElem_cons_succ,List.set_cons_succ] at h he ⊢
   have e2:Qyz key (key k) (x::r)=x::Qyz key (key k) r:=by unfold Qyz;rw [List.filter_cons,if_pos (bne_iff_ne.2 (by omega))]
   rw [e2,Zrj hr.2 (by rw [List.length_cons] at h;omega) he]
   show _=if key k<key x then _ else _
   rw [if_neg (by omega)]
  ·have e1:Qxn key (key k) (x::r)=0:=by show (if key x<key k then Qxn key (key k) r+1 else 0)=_;rw [if_neg h1]
   simp only [e1,List.getElem_cons_zero,List.set_cons_zero] at h he ⊢
   have e2:Qyz key (key k) (x::r)=r:=by
    unfold Qyz
    rw [List.filter_cons,if_neg (by simp [he])]
    exact Zj2 (fun y hy=>by have:=hr.1 y hy;omega)
   rw [e2]
   cases r with
   | nil=>rfl
   | cons y q=>
    have:=hr.1 y (List.mem_cons_self ..)
    show _=if key k<key y then _ else _
    rw [if_pos (by omega)]
theorem Zfr {α:Type} {key:α→Int} {a b:Int}:∀ {l:List α},Zb9 key l→(∀ x∈l,a≤key x∧key x≤b)→(l.length:Int)≤max (b - a+1) 0
 | [],_,_=>by simp;omega
 | x::r,h,hb=>by
  have hx:=hb x (List.mem_cons_self ..)
  have:=Zfr (a:=key x+1) (b:=b) h.2 (fun y hy=>⟨by have:=h.1 y hy;omega,(hb y (List.mem_cons_of_mem _ hy)).2⟩)
  rw [List.length_cons];omega
abbrev kid (k:Kid):Int:=k.1
def Quk (l:List Kid) (id:Int):Option Kid:=Zfc kid id l
def Zqb (l:List Kid) (id inc:Int):Bool:=match Quk l id with | some k=>decide (inc<k.2.1) | none=>false
def Z56 (l:List Kid) (k:Kid):List Kid:=if Zqb l k.1 k.2.1=true then l else Zjy kid k (Qyz kid k.1 l)
def Z1j (l:List Kid) (now:Int):List Kid:=l.filter fun k=>decide (now - k.2.2≤20)
def Zlw (x:Int):Prop:=-1152921504606846976≤x∧x≤1152921504606846976
structure KOk (l:List Kid):Prop where
 rise:Zb9 kid l
 rng:∀ k∈l,1≤k.1∧k.1≤8∧0≤k.2.1∧k.2.1≤1073741824∧0≤k.2.2∧k.2.2≤1125899906842624
theorem KOk.len {l:List Kid} (h:KOk l):l.length≤8:=by
 have:=Zfr (a:=1) (b:=8) h.rise (fun x hx=>⟨(h.rng x hx).1,(h.rng x hx).2.1⟩)
 omega
theorem KOk.nil:KOk []:=⟨trivial,fun k h=>by cases h⟩
theorem KOk.filter {l:List Kid} (h:KOk l) (p:Kid→Bool):KOk (l.filter p):=⟨Z65 p h.rise,fun k hk=>h.rng k (List.mem_filter.1 hk).1⟩
theorem KOk.hear {l:List Kid} (h:KOk l) {k:Kid} (hk:1≤k.1∧k.1≤8∧0≤k.2.1∧k.2.1≤1073741824∧0≤k.2.2∧k.2.2≤1125899906842624):KOk (Z56 l k):=by
 unfold Z56
 split
 ·exact h
 ·refine ⟨Zgw (Z65 _ h.rise) fun y hy=>(Zcl.1 hy).2,fun y hy=>?_⟩
  rcases Zbm.1 hy with rfl | hy
  ·exact hk
  ·exact h.rng y (Zcl.1 hy).1
end Go.PE
