/-
  Plain lemmas on the functions.
  Conditions: none.
-/
import Derived.Test.YtemajkklbjdmjaaGreatHierAllPMayDist
set_option linter.unusedVariables false
set_option linter.unusedSimpArgs false
set_option maxRecDepth 20000
namespace Go.PE
def ids:List Int:=[1,2,3,4,5,6,7,8]
def rising (l:List Int):List Int:=ids.filter (fun x=>decide (x∈l))
def Ris (l:List Int):Prop:=l=rising l
theorem mem_ids {x:Int}:x∈ids↔1≤x∧x≤8:=by
 unfold ids;simp only [List.mem_cons,List.not_mem_nil,or_false];omega
theorem mem_rising {x:Int} {l:List Int}:x∈rising l↔(1≤x∧x≤8)∧x∈l:=by
 unfold rising;rw [List.mem_filter,mem_ids,decide_eq_true_eq]
theorem rising_congr {a b:List Int} (h:∀ x,1≤x→x≤8→(x∈a↔x∈b)):rising a=rising b:=by
 unfold rising
 apply List.filter_congr
 intro x hx
 rw [mem_ids] at hx
 exact decide_eq_decide.2 (h x hx.1 hx.2)
theorem Ris.range {l:List Int} (h:Ris l) {x:Int} (hx:x∈l):1≤x∧x≤8:=by
 rw [h] at hx;exact (mem_rising.1 hx).1
theorem ris_rising (l:List Int):Ris (rising l):=rising_congr (fun x h1 h2=>by rw [mem_rising];simp [h1,h2])
theorem Ris.ext {a b:List Int} (ha:Ris a) (hb:Ris b) (h:∀ x,x∈a↔x∈b):a=b:=by
 rw [ha,hb];exact rising_congr (fun x _ _=>h x)
theorem ids_pw:List.Pairwise (·<·) ids:=by unfold ids;decide
theorem Ris.pw {l:List Int} (h:Ris l):List.Pairwise (·<·) l:=by rw [h];exact ids_pw.filter _
theorem Ris.nodup {l:List Int} (h:Ris l):l.Nodup:=h.pw.imp (fun h=>by omega)
theorem Ris.filter {l:List Int} (h:Ris l) (p:Int→Bool):Ris (l.filter p):=by
 have:l.filter p=ids.filter (fun x=>decide (x∈l.filter p)):=by
  conv=>lhs;rw [h];unfold rising;rw [List.filter_filter]
  apply List.filter_congr
  intro x _
  rw [Bool.eq_iff_iff];simp [List.mem_filter];exact And.comm
 exact this
theorem Ris.nil:Ris []:=rfl
theorem Ris.le8 {l:List Int} (h:Ris l):l.length≤8:=by
 rw [h];exact List.length_filter_le ..
theorem Ris.single {x:Int} (h1:1≤x) (h2:x≤8):Ris [x]:=by
 have:x=1∨x=2∨x=3∨x=4∨x=5∨x=6∨x=7∨x=8:=by omega
 rcases this with rfl | rfl | rfl | rfl | rfl | rfl | rfl | rfl<;>(unfold Ris rising ids;decide)
theorem ris_of_pw:∀ {l:List Int},(∀ x∈l,1≤x∧x≤8)→List.Pairwise (·<·) l→Ris l:=by
 intro l hr hp
 have key:∀ (a b:List Int),List.Pairwise (·<·) a→List.Pairwise (·<·) b→(∀ x,x∈a↔x∈b)→a=b:=by
  intro a
  induction a with
  | nil=>intro b _ _ h;cases b with
   | nil=>rfl
   | cons y t=>exact absurd ((h y).2 (List.mem_cons_self ..)) (by simp)
  | cons x s ih=>
   intro b ha hb h
   cases b with
   | nil=>exact absurd ((h x).1 (List.mem_cons_self ..)) (by simp)
   | cons y t=>
    rw [List.pairwise_cons] at ha hb
    have hxy:x=y:=by
     have h1:=(h x).1 (List.mem_cons_self ..)
     have h2:=(h y).2 (List.mem_cons_self ..)
     rcases List.mem_cons.1 h1 with e | h1
     ·exact e
     rcases List.mem_cons.1 h2 with e | h2
     ·exact e.symm
     have:=ha.1 _ h2;have:=hb.1 _ h1;omega
    subst hxy
    congr 1
    apply ih t ha.2 hb.2
    intro z
    have hz:=h z
    rw [List.mem_cons,List.mem_cons] at hz
    constructor
    ·intro hz1
     have:=ha.1 _ hz1
     rcases hz.1 (.inr hz1) with e | h'
     ·omega
     ·exact h'
    ·intro hz1
     have:=hb.1 _ hz1
     rcases hz.2 (.inr hz1) with e | h'
     ·omega
     ·exact h'
 apply key _ _ hp (ids_pw.filter _)
 intro x
 have:=mem_rising (x:=x) (l:=l)
 unfold rising at this
 rw [this]
 exact ⟨fun h=>⟨hr x h,h⟩,fun h=>h.2⟩
theorem rising_add_length {a:List Int} {m:Int} (ha:Ris a) (h1:1≤m) (h2:m≤8) (hm:m ∉ a):(rising (a++[m])).length=a.length+1:=by
 have hp:(rising (a++[m])).Perm (m::a):=by
  rw [List.perm_ext_iff_of_nodup (ris_rising _).nodup (List.nodup_cons.2 ⟨hm,ha.nodup⟩)]
  intro x
  rw [mem_rising,List.mem_append,List.mem_singleton,List.mem_cons]
  constructor
  ·rintro ⟨_,h | h⟩
   ·exact .inr h
   ·exact .inl h
  ·rintro (h | h)
   ·subst h;exact ⟨⟨h1,h2⟩,.inr rfl⟩
   ·exact ⟨ha.range h,.inl h⟩
 simpa using hp.length_eq
theorem filter_ne_length {b:List Int} {m:Int} (hb:b.Nodup) (hm:m∈b):(b.filter (fun x=>x != m)).length+1=b.length:=by
 have hp:(m::b.filter (fun x=>x != m)).Perm b:=by
  rw [List.perm_ext_iff_of_nodup (List.nodup_cons.2 ⟨by simp [List.mem_filter],hb.filter _⟩) hb]
  intro x
  rw [List.mem_cons,List.mem_filter]
  constructor
  ·rintro (h | h)
   ·subst h;exact hm
   ·exact h.1
  ·intro h
   by_cases e:x=m
   ·exact .inl e
   ·exact .inr ⟨h,by simpa using e⟩
 simpa using hp.length_eq
def IsLeast (c:Int→Prop) (v:Int→Int) (r:Int):Prop:=(r=0∧∀ x,¬ c x)∨(c r∧∀ y,c y→v r<v y∨(v r=v y∧r≤y))
theorem IsLeast.uniq {c:Int→Prop} {v:Int→Int} {r s:Int} (hr:IsLeast c v r) (hs:IsLeast c v s):r=s:=by
 rcases hr with ⟨rfl,h⟩ | ⟨h1,h2⟩
 ·rcases hs with ⟨rfl,_⟩ | ⟨h3,_⟩
  ·rfl
  ·exact absurd h3 (h _)
 ·rcases hs with ⟨rfl,h⟩ | ⟨h3,h4⟩
  ·exact absurd h1 (h _)
  ·have:=h2 _ h3;have:=h4 _ h1;omega
theorem IsLeast.congr {c c':Int→Prop} {v:Int→Int} {r:Int} (h:∀ x,c x↔c' x) (hr:IsLeast c v r):IsLeast c' v r:=by
 rcases hr with ⟨rfl,g⟩ | ⟨h1,h2⟩
 ·exact .inl ⟨rfl,fun x hx=>g x ((h x).2 hx)⟩
 ·exact .inr ⟨(h _).1 h1,fun y hy=>h2 y ((h y).2 hy)⟩
def better (v:Int→Int) (at_ x:Int):Int:=if at_=0∨v x<v at_∨(v x=v at_∧x<at_) then x else at_
def argl (v:Int→Int) (l:List Int):Int:=l.foldl (better v) 0
theorem argl_fold (v:Int→Int):∀ (l:List Int) (c:Int→Prop) (a:Int),(∀ x∈l,x≠0)→¬ c 0→IsLeast c v a→IsLeast (fun x=>c x∨x∈l) v (l.foldl (better v) a)
 | [],c,a,_,_,h=>h.congr (fun x=>by simp)
 | y::l,c,a,hl,h0,h=>by
  have hy:=hl y (List.mem_cons_self ..)
  have step:IsLeast (fun x=>c x∨x=y) v (better v a y):=by
   unfold better
   rcases h with ⟨rfl,g⟩ | ⟨h1,h2⟩
   ·rw [if_pos (.inl rfl)]
    refine .inr ⟨.inr rfl,fun z hz=>?_⟩
    rcases hz with hz | rfl
    ·exact absurd hz (g z)
    ·exact .inr ⟨rfl,Int.le_refl _⟩
   ·have ha:a≠0:=fun e=>h0 (e▸h1)
    by_cases hb:v y<v a∨(v y=v a∧y<a)
    ·rw [if_pos (.inr hb)]
     refine .inr ⟨.inr rfl,fun z hz=>?_⟩
     rcases hz with hz | rfl
     ·have:=h2 z hz;omega
     ·exact .inr ⟨rfl,Int.le_refl _⟩
    ·rw [if_neg (by simp only [ha,false_or];exact hb)]
     refine .inr ⟨.inl h1,fun z hz=>?_⟩
     rcases hz with hz | rfl
     ·exact h2 z hz
     ·omega
  have:=argl_fold v l (fun x=>c x∨x=y) (better v a y) (fun x hx=>hl x (List.mem_cons_of_mem _ hx)) (fun h=>h.elim h0 (fun e=>hy e.symm)) step
  exact this.congr (fun x=>by simp only [List.mem_cons,or_assoc])
theorem argl_least (v:Int→Int) (l:List Int) (hl:∀ x∈l,x≠0):IsLeast (·∈l) v (argl v l):=
 (argl_fold v l (fun _=>False) 0 hl (fun h=>h) (.inl ⟨rfl,fun _ h=>h⟩)).congr (fun x=>by simp)
def farF (D:Int→Int→Int) (m:Int) (l:List Int):Int:=l.foldl (fun a x=>max a (D m x)) 0
def midF (D:Int→Int→Int) (l:List Int):Int:=argl (fun x=>farF D x l) l
def nearF (D:Int→Int→Int) (m:Int) (l:List Int):Int:=argl (D m) (l.filter (fun x=>x != m))
def ofF (D:Int→Int→Int) (l:List Int):List Int × Int:=(l,midF D l)
theorem midF_mem {D:Int→Int→Int} {l:List Int} (hl:∀ x∈l,x≠0) (hn:l≠[]):midF D l∈l:=by
 rcases argl_least (fun x=>farF D x l) l hl with ⟨_,h⟩ | ⟨h,_⟩
 ·cases l with
  | nil=>exact absurd rfl hn
  | cons x t=>exact absurd (List.mem_cons_self ..) (h x)
 ·exact h
theorem nearF_mem {D:Int→Int→Int} {m:Int} {l:List Int} (hl:∀ x∈l,x≠0) {z:Int} (hz:z∈l) (hzm:z≠m):nearF D m l∈l∧nearF D m l≠m:=by
 have hl':∀ x∈l.filter (fun x=>x != m),x≠0:=fun x hx=>hl x (List.mem_filter.1 hx).1
 rcases argl_least (D m) _ hl' with ⟨_,h⟩ | ⟨h,_⟩
 ·exact absurd (List.mem_filter.2 ⟨hz,by simpa using hzm⟩) (h z)
 ·have:=List.mem_filter.1 h
  have h2:=this.2
  exact ⟨this.1,fun e=>by unfold nearF at e;rw [e] at h2;simp at h2⟩
def pairsF:List Int→List (Int × Int)
 | []=>[]
 | x::l=>l.map (fun y=>(x,y))++pairsF l
def farther (D:Int→Int→Int) (p z:Int × Int):Int × Int:=if p.1=0∨D z.1 z.2>D p.1 p.2 then z else p
def endsF (D:Int→Int→Int) (l:List Int):Int × Int:=(pairsF l).foldl (farther D) (0,0)
theorem farther_fold (D:Int→Int→Int):∀ (ps:List (Int × Int)) (p:Int × Int),(∀ z∈ps,z.1≠0)→(ps.foldl (farther D) p=p∧(p.1=0→ps=[]))∨ps.foldl (farther D) p∈ps
 | [],p,_=>.inl ⟨rfl,fun _=>rfl⟩
 | z::ps,p,h=>by
  have hz:=h z (List.mem_cons_self ..)
  have ih:=farther_fold D ps (farther D p z) (fun y hy=>h y (List.mem_cons_of_mem _ hy))
  rw [List.foldl_cons]
  by_cases hc:p.1=0∨D z.1 z.2>D p.1 p.2
  ·have e:farther D p z=z:=if_pos hc
   rw [e] at ih ⊢
   rcases ih with ⟨ih,_⟩ | ih
   ·right;rw [ih];exact List.mem_cons_self ..
   ·right;exact List.mem_cons_of_mem _ ih
  ·have e:farther D p z=p:=if_neg hc
   rw [e] at ih ⊢
   rcases ih with ⟨ih,_⟩ | ih
   ·left;exact ⟨ih,fun h0=>absurd (.inl h0) hc⟩
   ·right;exact List.mem_cons_of_mem _ ih
theorem mem_pairsF {x y:Int}:∀ {l:List Int},(x,y)∈pairsF l→x∈l∧y∈l∧(l.Nodup→x≠y)
 | [],h=>by cases h
 | z::l,h=>by
  unfold pairsF at h
  rcases List.mem_append.1 h with h | h
  ·obtain ⟨w,hw,e⟩:=List.mem_map.1 h
   obtain ⟨rfl,rfl⟩:=Prod.mk.inj e
   refine ⟨List.mem_cons_self ..,List.mem_cons_of_mem _ hw,fun hn=>?_⟩
   rintro rfl
   exact (List.nodup_cons.1 hn).1 hw
  ·have ih:=mem_pairsF h
   exact ⟨List.mem_cons_of_mem _ ih.1,List.mem_cons_of_mem _ ih.2.1,fun hn=>ih.2.2 (List.nodup_cons.1 hn).2⟩
theorem endsF_mem {D:Int→Int→Int} {l:List Int} (hr:Ris l) (h2:2≤l.length):(endsF D l).1∈l∧(endsF D l).2∈l∧(endsF D l).1≠(endsF D l).2:=by
 have hz:∀ z∈pairsF l,z.1≠0:=fun z hz=>by
  have:=hr.range (mem_pairsF (x:=z.1) (y:=z.2) hz).1;omega
 have hm:endsF D l∈pairsF l:=by
  rcases farther_fold D (pairsF l) (0,0) hz with ⟨_,h⟩ | h
  ·have:=h rfl
   match l,h2 with
   | x::y::t,_=>unfold pairsF at this;simp at this
  ·exact h
 have:=mem_pairsF (x:=(endsF D l).1) (y:=(endsF D l).2) hm
 exact ⟨this.1,this.2.1,this.2.2 hr.nodup⟩
def goF (D:Int→Int→Int) (k:Nat) (p q:Int):Nat→List Int × List Int→List Int × List Int
 | 0,s=>s
 | n+1,s=>if s.1.length<k∧s.2.length>k then goF D k p q n (rising (s.1++[nearF D p (s.2.filter (fun x=>x != q))]),s.2.filter (fun x=>x != nearF D p (s.2.filter (fun x=>x != q)))) else s
def sideF (D:Int→Int→Int) (p q m:Int):Bool:=m != q&&(m==p||decide (D m p≤D m q))
def splitF (D:Int→Int→Int) (k:Nat) (l:List Int):List Int × List Int:=
 if l.length<2 then (l,[]) else
  let e:=endsF D l
  let s:=goF D k e.1 e.2 8 (l.filter (sideF D e.1 e.2),l.filter (fun m=>!sideF D e.1 e.2 m))
  let t:=goF D k e.2 e.1 8 (s.2,s.1)
  (t.2,t.1)
structure Two (l:List Int) (p q:Int) (s:List Int × List Int):Prop where
 ra:Ris s.1
 rb:Ris s.2
 mem:∀ x,x∈l↔x∈s.1∨x∈s.2
 apart:∀ x,x∈s.1→x ∉ s.2
 pa:p∈s.1
 qb:q∈s.2
theorem Two.swap {l:List Int} {p q:Int} {s:List Int × List Int} (h:Two l p q s):Two l q p (s.2,s.1):=
 ⟨h.rb,h.ra,fun x=>by rw [h.mem x];exact Or.comm,fun x hx hy=>h.apart x hy hx,h.qb,h.pa⟩
theorem Two.len {l:List Int} {p q:Int} {s:List Int × List Int} (hl:Ris l) (h:Two l p q s):s.1.length+s.2.length=l.length:=by
 have hp:(s.1++s.2).Perm l:=by
  rw [List.perm_ext_iff_of_nodup (List.nodup_append.2 ⟨h.ra.nodup,h.rb.nodup,fun x hx y hy e=>h.apart x hx (e▸hy)⟩) hl.nodup]
  intro x
  rw [List.mem_append,h.mem x]
 have:=hp.length_eq
 rw [List.length_append] at this
 exact this
theorem Two.goes {D:Int→Int→Int} {l:List Int} {p q:Int} {s:List Int × List Int} (h:Two l p q s) (h2:2≤s.2.length) :
  nearF D p (s.2.filter (fun x=>x != q))∈s.2∧nearF D p (s.2.filter (fun x=>x != q))≠q∧nearF D p (s.2.filter (fun x=>x != q)) ∉ s.1∧p ∉ s.2.filter (fun x=>x != q):=by
 have hpn:p ∉ s.2:=h.apart p h.pa
 have hlen:=filter_ne_length h.rb.nodup h.qb
 obtain ⟨z,hz⟩:∃ z,z∈s.2.filter (fun x=>x != q):=by
  cases hf:s.2.filter (fun x=>x != q) with
  | nil=>rw [hf] at hlen;simp at hlen;omega
  | cons z t=>exact ⟨z,List.mem_cons_self ..⟩
 have hz':=(List.mem_filter.1 hz).1
 have hm:=nearF_mem (D:=D) (m:=p) (l:=s.2.filter (fun x=>x != q)) (fun x hx=>by have:=h.rb.range (List.mem_filter.1 hx).1;omega) hz (fun e=>hpn (e▸hz'))
 have hm':=List.mem_filter.1 hm.1
 refine ⟨hm'.1,by simpa using hm'.2,fun hx=>h.apart _ hx hm'.1,fun hx=>hpn (List.mem_filter.1 hx).1⟩
theorem Two.step {D:Int→Int→Int} {l:List Int} {p q:Int} {s:List Int × List Int} (h:Two l p q s) (h2:2≤s.2.length) :
  Two l p q (rising (s.1++[nearF D p (s.2.filter (fun x=>x != q))]),s.2.filter (fun x=>x != nearF D p (s.2.filter (fun x=>x != q)))):=by
 obtain ⟨g1,g2,g3,g4⟩:=h.goes (D:=D) h2
 generalize nearF D p (s.2.filter (fun x=>x != q))=m at *
 have hm:=h.rb.range g1
 refine ⟨ris_rising _,h.rb.filter _,fun x=>?_,fun x hx=>?_,?_,?_⟩
 ·dsimp only
  rw [h.mem x,mem_rising,List.mem_append,List.mem_singleton,List.mem_filter]
  constructor
  ·rintro (hx | hx)
   ·exact .inl ⟨h.ra.range hx,.inl hx⟩
   ·by_cases e:x=m
    ·exact .inl ⟨h.rb.range hx,.inr e⟩
    ·exact .inr ⟨hx,by simpa using e⟩
  ·rintro (⟨_,hx | hx⟩ | hx)
   ·exact .inl hx
   ·subst hx;exact .inr g1
   ·exact .inr hx.1
 ·dsimp only at hx ⊢
  rw [mem_rising,List.mem_append,List.mem_singleton] at hx
  rw [List.mem_filter]
  rintro ⟨hy,hz⟩
  rcases hx.2 with h' | h'
  ·exact h.apart x h' hy
  ·subst h';simp at hz
 ·dsimp only;rw [mem_rising,List.mem_append];exact ⟨h.ra.range h.pa,.inl h.pa⟩
 ·dsimp only;rw [List.mem_filter];exact ⟨h.qb,by simpa using fun e=>g2 e.symm⟩
theorem Two.step_len {D:Int→Int→Int} {l:List Int} {p q:Int} {s:List Int × List Int} (h:Two l p q s) (h2:2≤s.2.length) :
  (rising (s.1++[nearF D p (s.2.filter (fun x=>x != q))])).length=s.1.length+1∧(s.2.filter (fun x=>x != nearF D p (s.2.filter (fun x=>x != q)))).length+1=s.2.length:=by
 obtain ⟨g1,g2,g3,g4⟩:=h.goes (D:=D) h2
 have hm:=h.rb.range g1
 exact ⟨rising_add_length h.ra hm.1 hm.2 g3,filter_ne_length h.rb.nodup g1⟩
theorem goF_two {D:Int→Int→Int} {l:List Int} {k:Nat} (hk:1≤k) {p q:Int}:∀ (n:Nat) (s:List Int × List Int),Two l p q s→s.2.length≤n →
  Two l p q (goF D k p q n s)∧(k≤s.2.length→k≤(goF D k p q n s).2.length)∧(k≤(goF D k p q n s).1.length∨(goF D k p q n s).2.length≤k)∧(k≤s.1.length→goF D k p q n s=s)
 | 0,s,h,hn=>by
  refine ⟨h,fun h=>h,.inr ?_,fun _=>rfl⟩
  show s.2.length≤k;omega
 | n+1,s,h,hn=>by
  unfold goF
  by_cases hc:s.1.length<k∧s.2.length>k
  ·rw [if_pos hc]
   have hl:=h.step_len (D:=D) (by omega)
   have ih:=goF_two (D:=D) hk n _ (h.step (D:=D) (by omega)) (by dsimp only;omega)
   dsimp only at ih
   exact ⟨ih.1,fun _=>ih.2.1 (by omega),ih.2.2.1,fun h=>by omega⟩
  ·rw [if_neg hc]
   exact ⟨h,fun h=>h,by omega,fun _=>rfl⟩
theorem splitF_start {D:Int→Int→Int} {l:List Int} (hl:Ris l) (h2:2≤l.length) :
  Two l (endsF D l).1 (endsF D l).2 (l.filter (sideF D (endsF D l).1 (endsF D l).2),l.filter (fun m=>!sideF D (endsF D l).1 (endsF D l).2 m)):=by
 obtain ⟨e1,e2,e3⟩:=endsF_mem (D:=D) hl h2
 generalize (endsF D l).1=p at *
 generalize (endsF D l).2=q at *
 refine ⟨hl.filter _,hl.filter _,fun x=>?_,fun x hx hy=>?_,?_,?_⟩
 ·rw [List.mem_filter,List.mem_filter]
  cases sideF D p q x<;>simp
 ·rw [List.mem_filter] at hx hy;rw [hx.2] at hy;simp at hy
 ·rw [List.mem_filter];exact ⟨e1,by unfold sideF;simp [e3]⟩
 ·rw [List.mem_filter];exact ⟨e2,by unfold sideF;simp⟩
theorem splitF_spec {D:Int→Int→Int} {l:List Int} {k:Nat} (hk:1≤k) (hl:Ris l) (h2:2≤l.length) :
  Two l (endsF D l).1 (endsF D l).2 (splitF D k l)∧(2*k≤l.length→k≤(splitF D k l).1.length∧k≤(splitF D k l).2.length):=by
 have h0:=splitF_start (D:=D) hl h2
 unfold splitF
 rw [if_neg (by omega)]
 dsimp only
 generalize hs0:(l.filter (sideF D (endsF D l).1 (endsF D l).2),l.filter (fun m=>!sideF D (endsF D l).1 (endsF D l).2 m))=s0 at *
 have h8:=hl.le8
 have l0:=h0.len hl
 obtain ⟨a1,a2,a3,a4⟩:=goF_two (D:=D) hk 8 s0 h0 (by omega)
 generalize goF D k (endsF D l).1 (endsF D l).2 8 s0=s at *
 have l1:=a1.len hl
 have h1:=a1.swap
 obtain ⟨b1,b2,b3,b4⟩:=goF_two (D:=D) hk 8 (s.2,s.1) h1 (by dsimp only;omega)
 generalize goF D k (endsF D l).2 (endsF D l).1 8 (s.2,s.1)=t at *
 have l2:=b1.len hl
 refine ⟨b1.swap,fun hk2=>?_⟩
 dsimp only at *
 by_cases c:k≤s.1.length
 ·have:=b2 c
  omega
 ·have:k≤s.2.length:=by omega
  have:=b4 this
  subst this
  dsimp only at *
  omega
abbrev Cl:Type:=List Int × Int
def grpF (D:Int→Int→Int) (k:Nat):Nat→List Int→List (List Int)
 | 0,l=>[l]
 | n+1,l=>if l.length≤3*k - 1 then [l] else grpF D k n (splitF D k l).1++grpF D k n (splitF D k l).2
def groupF (D:Int→Int→Int) (k:Nat) (l:List Int):List Cl:=if l=[] then [] else (grpF D k 8 l).map (ofF D)
theorem splitF_short {D:Int→Int→Int} {l:List Int} {k:Nat} (hk:1≤k) (hl:Ris l) (h2:2≤l.length) :
  (splitF D k l).1≠[]∧(splitF D k l).2≠[]∧(splitF D k l).1.length<l.length∧(splitF D k l).2.length<l.length∧(splitF D k l).1.length+(splitF D k l).2.length=l.length:=by
 have h:=(splitF_spec (D:=D) hk hl h2).1
 have hs:=h.len hl
 have n1:(splitF D k l).1≠[]:=fun e=>by have:=h.pa;rw [e] at this;cases this
 have n2:(splitF D k l).2≠[]:=fun e=>by have:=h.qb;rw [e] at this;cases this
 have:=List.length_pos_iff.2 n1
 have:=List.length_pos_iff.2 n2
 exact ⟨n1,n2,by omega,by omega,hs⟩
structure Parts (k:Nat) (l:List Int) (g:List (List Int)):Prop where
 ris:∀ m∈g,Ris m∧m≠[]∧m.length≤3*k - 1
 mem:∀ x,x∈l↔∃ m∈g,x∈m
 apart:g.Pairwise (fun a b=>∀ x,x∈a→x ∉ b)
 enough:k≤l.length→∀ m∈g,k≤m.length
 some:g≠[]
 one:g.length=1↔l.length≤3*k - 1
theorem grpF_parts {D:Int→Int→Int} {k:Nat} (hk:1≤k):∀ (n:Nat) (l:List Int),Ris l→l≠[]→l.length≤n→Parts k l (grpF D k n l)
 | 0,l,_,hn,h=>by cases l with
  | nil=>exact absurd rfl hn
  | cons x t=>simp at h
 | n+1,l,hl,hn,h=>by
  unfold grpF
  by_cases hc:l.length≤3*k - 1
  ·rw [if_pos hc]
   exact ⟨fun m hm=>by rw [List.mem_singleton] at hm;subst hm;exact ⟨hl,hn,hc⟩,fun x=>by simp,by simp,fun hk m hm=>by rw [List.mem_singleton] at hm;subst hm;exact hk,by simp,by simp [hc]⟩
  ·rw [if_neg hc]
   have h2:2≤l.length:=by omega
   obtain ⟨s1,s2,s3,s4,s5⟩:=splitF_short (D:=D) hk hl h2
   obtain ⟨t,te⟩:=splitF_spec (D:=D) hk hl h2
   have te:=te (by omega)
   generalize hS:splitF D k l=S at *
   have pa:=grpF_parts (D:=D) hk n S.1 t.ra s1 (by omega)
   have pb:=grpF_parts (D:=D) hk n S.2 t.rb s2 (by omega)
   refine ⟨fun m hm=>?_,fun x=>?_,?_,fun _ m hm=>?_,?_,?_⟩
   ·rcases List.mem_append.1 hm with hm | hm
    ·exact pa.ris m hm
    ·exact pb.ris m hm
   ·rw [t.mem x,pa.mem x,pb.mem x]
    constructor
    ·rintro (⟨m,hm,hx⟩ | ⟨m,hm,hx⟩)
     ·exact ⟨m,List.mem_append.2 (.inl hm),hx⟩
     ·exact ⟨m,List.mem_append.2 (.inr hm),hx⟩
    ·rintro ⟨m,hm,hx⟩
     rcases List.mem_append.1 hm with hm | hm
     ·exact .inl ⟨m,hm,hx⟩
     ·exact .inr ⟨m,hm,hx⟩
   ·rw [List.pairwise_append]
    refine ⟨pa.apart,pb.apart,fun a ha b hb x hx hy=>?_⟩
    exact t.apart x ((pa.mem x).2 ⟨a,ha,hx⟩) ((pb.mem x).2 ⟨b,hb,hy⟩)
   ·rcases List.mem_append.1 hm with hm | hm
    ·exact pa.enough te.1 m hm
    ·exact pb.enough te.2 m hm
   ·intro e;exact pa.some (List.append_eq_nil_iff.1 e).1
   ·have:=List.length_pos_iff.2 pa.some
    have:=List.length_pos_iff.2 pb.some
    rw [List.length_append]
    constructor
    ·intro h;omega
    ·intro h;exact absurd h hc
theorem grpF_nil {D:Int→Int→Int} {k:Nat}:grpF D k 8 []=[[]]:=by unfold grpF;rw [if_pos (by simp)]
structure Clus (D:Int→Int→Int) (cs:List Cl):Prop where
 ris:∀ c∈cs,Ris c.1∧c.1≠[]∧c.2=midF D c.1
 apart:cs.Pairwise (fun a b=>∀ x,x∈a.1→x ∉ b.1)
def isIn (cs:List Cl) (x:Int):Prop:=∃ c∈cs,x∈c.1
theorem apart_symm:∀ {a b:Cl},(∀ x,x∈a.1→x ∉ b.1)→(∀ x,x∈b.1→x ∉ a.1):=fun h x hx hy=>h x hy hx
theorem Clus.perm {D:Int→Int→Int} {cs ds:List Cl} (h:Clus D cs) (p:cs.Perm ds):Clus D ds:=
 ⟨fun c hc=>h.ris c (p.mem_iff.2 hc),(p.pairwise_iff (fun h=>apart_symm h)).1 h.apart⟩
theorem isIn_perm {cs ds:List Cl} (p:cs.Perm ds) (x:Int):isIn cs x↔isIn ds x:=by
 unfold isIn
 constructor
 ·rintro ⟨c,hc,hx⟩;exact ⟨c,p.mem_iff.1 hc,hx⟩
 ·rintro ⟨c,hc,hx⟩;exact ⟨c,p.mem_iff.2 hc,hx⟩
def total (cs:List Cl):Nat:=(cs.map (fun c=>c.1.length)).sum
theorem total_perm {cs ds:List Cl} (p:cs.Perm ds):total cs=total ds:=(p.map _).sum_nat
theorem Clus.cons {D:Int→Int→Int} {c:Cl} {cs:List Cl}:Clus D (c::cs)↔(Ris c.1∧c.1≠[]∧c.2=midF D c.1)∧(∀ x,x∈c.1→¬ isIn cs x)∧Clus D cs:=by
 constructor
 ·intro h
  have ha:=List.pairwise_cons.1 h.apart
  exact ⟨h.ris c (List.mem_cons_self ..),fun x hx ⟨b,hb,hy⟩=>ha.1 b hb x hx hy,fun b hb=>h.ris b (List.mem_cons_of_mem _ hb),ha.2⟩
 ·rintro ⟨h1,h2,h3⟩
  exact ⟨fun b hb=>by
   rcases List.mem_cons.1 hb with rfl | hb
   ·exact h1
   ·exact h3.ris b hb,List.pairwise_cons.2 ⟨fun b hb x hx hy=>h2 x hx ⟨b,hb,hy⟩,h3.apart⟩⟩
theorem Clus.nil {D:Int→Int→Int}:Clus D []:=⟨fun _ hc=>(nomatch hc),List.Pairwise.nil⟩
theorem isIn_cons {c:Cl} {cs:List Cl} {x:Int}:isIn (c::cs) x↔x∈c.1∨isIn cs x:=by
 unfold isIn;simp
theorem isIn_nil {x:Int}:¬ isIn [] x:=by unfold isIn;simp
theorem total_cons {c:Cl} {cs:List Cl}:total (c::cs)=c.1.length+total cs:=by unfold total;simp
theorem Clus.total_le {D:Int→Int→Int} {cs:List Cl} (h:Clus D cs):total cs≤8:=by
 have hp:∀ cs,Clus D cs→((cs.map (·.1)).flatten).Nodup∧(∀ x,x∈(cs.map (·.1)).flatten↔isIn cs x)∧((cs.map (·.1)).flatten).length=total cs:=by
  intro cs
  induction cs with
  | nil=>intro _;exact ⟨by simp,fun x=>by simp [isIn],by simp [total]⟩
  | cons c cs ih=>
   intro h
   obtain ⟨h1,h2,h3⟩:=Clus.cons.1 h
   obtain ⟨i1,i2,i3⟩:=ih h3
   refine ⟨?_,fun x=>?_,?_⟩
   ·rw [List.map_cons,List.flatten_cons,List.nodup_append]
    refine ⟨h1.1.nodup,i1,fun x hx y hy e=>?_⟩
    exact h2 x hx ((i2 x).1 (e▸hy))
   ·rw [List.map_cons,List.flatten_cons,List.mem_append,i2 x,isIn_cons]
   ·rw [List.map_cons,List.flatten_cons,List.length_append,i3,total_cons]
 obtain ⟨i1,i2,i3⟩:=hp cs h
 have hp:((cs.map (·.1)).flatten).Perm (rising ((cs.map (·.1)).flatten)):=by
  rw [List.perm_ext_iff_of_nodup i1 (ris_rising _).nodup]
  intro x
  rw [mem_rising]
  constructor
  ·intro hx
   refine ⟨?_,hx⟩
   obtain ⟨c,hc,hy⟩:=(i2 x).1 hx
   exact (h.ris c hc).1.range hy
  ·exact fun h=>h.2
 have:=hp.length_eq
 have:=(ris_rising ((cs.map (·.1)).flatten)).le8
 omega
theorem Clus.len_le {D:Int→Int→Int} {cs:List Cl} (h:Clus D cs):cs.length≤8:=by
 have:∀ cs,Clus D cs→cs.length≤total cs:=by
  intro cs
  induction cs with
  | nil=>intro _;simp
  | cons c cs ih=>
   intro h
   obtain ⟨h1,h2,h3⟩:=Clus.cons.1 h
   have:=ih h3
   have:=List.length_pos_iff.2 h1.2.1
   rw [total_cons,List.length_cons];omega
 have:=this cs h
 have:=h.total_le
 omega
theorem ofF_ok {D:Int→Int→Int} {l:List Int} (hl:Ris l) (hn:l≠[]):Ris (ofF D l).1∧(ofF D l).1≠[]∧(ofF D l).2=midF D (ofF D l).1:=⟨hl,hn,rfl⟩
def zc:Cl:=([],0)
def idxF (cs:List Cl) (x:Int):Nat:=cs.findIdx (fun c=>decide (x∈c.1))
def homeF (cs:List Cl) (x:Int):Int:=if idxF cs x<cs.length then (idxF cs x:Int) else -1
def partF (D:Int→Int→Int) (k:Nat) (cs:List Cl) (i:Nat):List Cl:=
 cs.take i++[ofF D (splitF D k (List.getD cs i zc).1).1,ofF D (splitF D k (List.getD cs i zc).1).2]++cs.drop (i+1)
def cutF (D:Int→Int→Int) (k:Nat) (cs:List Cl) (i:Nat):List Cl:=
 if (List.getD cs i zc).1.length≤3*k - 1 then cs else partF D k cs i
def joinF (D:Int→Int→Int) (k:Nat) (cs:List Cl) (at_ id:Int):List Cl:=
 if cs=[] then [ofF D [id]] else if at_<0∨(cs.length:Int)≤at_∨0≤homeF cs id then cs else
  cutF D k (cs.set at_.toNat (ofF D (rising ((List.getD cs at_.toNat zc).1++[id])))) at_.toNat
def leaveF (D:Int→Int→Int) (k:Nat) (cs:List Cl) (id:Int):List Cl:=
 let i:=idxF cs id
 if ¬ i<cs.length then cs else
 let l:=(List.getD cs i zc).1.filter (fun x=>x != id)
 if l=[] then cs.eraseIdx i else
 let cs1:=cs.set i (ofF D l)
 if k≤l.length∨cs1.length<2 then cs1 else
 let j:=idxF cs1 (nearF D (midF D l) ((cs1.eraseIdx i).map (·.2)))
 let cs2:=(cs1.set i (ofF D (rising (l++(List.getD cs1 j zc).1)))).eraseIdx j
 cutF D k cs2 (if j<i then i - 1 else i)
theorem getD_lt {α:Type} {l:List α} {i:Nat} (h:i<l.length) (d:α):List.getD l i d=l[i]:=by
 rw [List.getD_eq_getElem?_getD,List.getElem?_eq_getElem h];rfl
theorem perm_erase {α:Type} {l:List α} {i:Nat} (h:i<l.length):l.Perm (l[i]::l.eraseIdx i):=by
 rw [List.eraseIdx_eq_take_drop_succ]
 have:l=l.take i++l[i]::l.drop (i+1):=by rw [← List.drop_eq_getElem_cons h,List.take_append_drop]
 have hp:(l.take i++l[i]::l.drop (i+1)).Perm (l[i]::(l.take i++l.drop (i+1))):=List.perm_middle
 rw [← this] at hp
 exact hp
theorem perm_set {α:Type} {l:List α} {i:Nat} (h:i<l.length) (x:α):(l.set i x).Perm (x::l.eraseIdx i):=by
 have:=perm_erase (l:=l.set i x) (i:=i) (by simpa using h)
 rwa [List.getElem_set_self,List.eraseIdx_set_eq] at this
theorem perm_part (D:Int→Int→Int) (k:Nat) {cs:List Cl} {i:Nat} (h:i<cs.length):(partF D k cs i).Perm (ofF D (splitF D k cs[i].1).1::ofF D (splitF D k cs[i].1).2::cs.eraseIdx i):=by
 unfold partF
 rw [getD_lt h,List.eraseIdx_eq_take_drop_succ,List.append_assoc]
 refine (List.perm_middle (a:=ofF D (splitF D k cs[i].1).1)).trans ?_
 exact List.Perm.cons _ List.perm_middle
theorem idxF_lt {cs:List Cl} {x:Int}:idxF cs x<cs.length↔isIn cs x:=by
 unfold idxF isIn
 constructor
 ·intro h
  have:=List.findIdx_getElem (p:=fun c:Cl=>decide (x∈c.1)) (xs:=cs) (w:=h)
  exact ⟨_,List.getElem_mem h,of_decide_eq_true this⟩
 ·rintro ⟨c,hc,hx⟩
  exact List.findIdx_lt_length_of_exists ⟨c,hc,decide_eq_true hx⟩
theorem idxF_mem {cs:List Cl} {x:Int} (h:idxF cs x<cs.length):x∈(cs[idxF cs x]).1:=
 of_decide_eq_true (List.findIdx_getElem (p:=fun c:Cl=>decide (x∈c.1)) (xs:=cs) (w:=h))
theorem Clus.two {D:Int→Int→Int} {cs:List Cl} (h:Clus D cs) {i j:Nat} (hi:i<cs.length) (hj:j<cs.length) {x:Int} (h1:x∈cs[i].1) (h2:x∈cs[j].1):i=j:=by
 have hp:=List.pairwise_iff_getElem.1 h.apart
 rcases Nat.lt_trichotomy i j with g | g | g
 ·exact absurd h2 (hp i j hi hj g x h1)
 ·exact g
 ·exact absurd h1 (hp j i hj hi g x h2)
theorem Clus.idx {D:Int→Int→Int} {cs:List Cl} (h:Clus D cs) {i:Nat} (hi:i<cs.length) {x:Int} (hx:x∈cs[i].1):idxF cs x=i:=by
 have h1:idxF cs x<cs.length:=idxF_lt.2 ⟨_,List.getElem_mem hi,hx⟩
 exact h.two h1 hi (idxF_mem h1) hx
theorem Clus.midIn {D:Int→Int→Int} {c:Cl} (h:Ris c.1∧c.1≠[]∧c.2=midF D c.1):c.2∈c.1:=by
 rw [h.2.2];exact midF_mem (fun x hx=>by have:=h.1.range hx;omega) h.2.1
theorem splitF_clus {D:Int→Int→Int} {k:Nat} (hk:1≤k) {c:Cl} {cs:List Cl} (h:Clus D (c::cs)) (hl:3*k - 1<c.1.length) :
  Clus D (ofF D (splitF D k c.1).1::ofF D (splitF D k c.1).2::cs)∧(∀ x,isIn (ofF D (splitF D k c.1).1::ofF D (splitF D k c.1).2::cs) x↔isIn (c::cs) x) ∧
  total (ofF D (splitF D k c.1).1::ofF D (splitF D k c.1).2::cs)=total (c::cs)∧k≤(splitF D k c.1).1.length∧k≤(splitF D k c.1).2.length:=by
 obtain ⟨h1,h2,h3⟩:=Clus.cons.1 h
 have g2:2≤c.1.length:=by omega
 obtain ⟨s1,s2,s3,s4,s5⟩:=splitF_short (D:=D) hk h1.1 g2
 obtain ⟨t,te⟩:=splitF_spec (D:=D) hk h1.1 g2
 have te:=te (by omega)
 generalize hS:splitF D k c.1=S at *
 refine ⟨?_,fun x=>?_,?_,te.1,te.2⟩
 ·rw [Clus.cons,Clus.cons]
  refine ⟨ofF_ok t.ra s1,fun x hx hy=>?_,ofF_ok t.rb s2,fun x hx hy=>?_,h3⟩
  ·rw [isIn_cons] at hy
   rcases hy with hy | hy
   ·exact t.apart x hx hy
   ·exact h2 x ((t.mem x).2 (.inl hx)) hy
  ·exact h2 x ((t.mem x).2 (.inr hx)) hy
 ·rw [isIn_cons,isIn_cons,isIn_cons,t.mem x]
  show x∈S.1∨x∈S.2∨isIn cs x↔_
  rw [or_assoc]
 ·rw [total_cons,total_cons,total_cons]
  show S.1.length+(S.2.length+total cs)=_
  omega
def Sized (k:Nat) (cs:List Cl):Prop:=(∀ c∈cs,c.1.length≤3*k - 1)∧(1<cs.length→∀ c∈cs,k≤c.1.length)
theorem Sized.perm {k:Nat} {cs ds:List Cl} (h:Sized k cs) (p:cs.Perm ds):Sized k ds:=
 ⟨fun c hc=>h.1 c (p.mem_iff.2 hc),fun hl c hc=>h.2 (by rw [p.length_eq];exact hl) c (p.mem_iff.2 hc)⟩
theorem cutF_clus {D:Int→Int→Int} {k:Nat} (hk:1≤k) {cs:List Cl} {i:Nat} (hi:i<cs.length) (h:Clus D cs) :
  Clus D (cutF D k cs i)∧(∀ x,isIn (cutF D k cs i) x↔isIn cs x)∧total (cutF D k cs i)=total cs∧cutF D k cs i≠[] ∧
  ((∀ c∈cs.eraseIdx i,k≤c.1.length∧c.1.length≤3*k - 1)→(1<cs.length→k≤cs[i].1.length)→cs[i].1.length≤4*k - 2∨cs[i].1.length≤3*k→Sized k (cutF D k cs i)):=by
 unfold cutF
 rw [getD_lt hi]
 by_cases hc:cs[i].1.length≤3*k - 1
 ·rw [if_pos hc]
  refine ⟨h,fun x=>Iff.rfl,rfl,fun e=>by rw [e] at hi;simp at hi,fun h1 h2 h3=>?_⟩
  have p:=perm_erase hi
  refine Sized.perm (cs:=cs[i]::cs.eraseIdx i) ⟨fun c hc'=>?_,fun hl c hc'=>?_⟩ p.symm
  ·rcases List.mem_cons.1 hc' with rfl | hc'
   ·exact hc
   ·exact (h1 c hc').2
  ·rcases List.mem_cons.1 hc' with rfl | hc'
   ·exact h2 (by rw [p.length_eq];exact hl)
   ·exact (h1 c hc').1
 ·rw [if_neg hc]
  have p:=perm_erase hi
  have q:=perm_part D k hi
  obtain ⟨s1,s2,s3,s4,s5⟩:=splitF_clus hk (h.perm p) (by omega)
  refine ⟨s1.perm q.symm,fun x=>?_,?_,fun e=>?_,fun h1 h2 h3=>?_⟩
  ·rw [isIn_perm q,s2 x,isIn_perm p]
  ·rw [total_perm q,s3,total_perm p]
  ·rw [e] at q;exact absurd q.length_eq (by simp)
  ·refine Sized.perm ⟨fun c hc'=>?_,fun hl c hc'=>?_⟩ q.symm
   ·have hsum:=(splitF_short (D:=D) hk (h.ris _ (List.getElem_mem hi)).1 (by omega:2≤cs[i].1.length)).2.2.2.2
    rcases List.mem_cons.1 hc' with rfl | hc'
    ·show (splitF D k cs[i].1).1.length≤_;omega
    rcases List.mem_cons.1 hc' with rfl | hc'
    ·show (splitF D k cs[i].1).2.length≤_;omega
    ·exact (h1 c hc').2
   ·rcases List.mem_cons.1 hc' with rfl | hc'
    ·exact s4
    rcases List.mem_cons.1 hc' with rfl | hc'
    ·exact s5
    ·exact (h1 c hc').1
theorem Clus.at {D:Int→Int→Int} {cs:List Cl} {i:Nat} (hi:i<cs.length) (h:Clus D cs):(Ris cs[i].1∧cs[i].1≠[]∧cs[i].2=midF D cs[i].1)∧(∀ x,x∈cs[i].1→¬ isIn (cs.eraseIdx i) x)∧Clus D (cs.eraseIdx i):=
 Clus.cons.1 (h.perm (perm_erase hi))
theorem isIn_at {cs:List Cl} {i:Nat} (hi:i<cs.length) (x:Int):isIn cs x↔x∈cs[i].1∨isIn (cs.eraseIdx i) x:=by
 rw [isIn_perm (perm_erase hi),isIn_cons]
theorem total_at {cs:List Cl} {i:Nat} (hi:i<cs.length):total cs=cs[i].1.length+total (cs.eraseIdx i):=by
 rw [total_perm (perm_erase hi),total_cons]
theorem homeF_pos {cs:List Cl} {x:Int}:0≤homeF cs x↔isIn cs x:=by
 rw [← idxF_lt];unfold homeF
 by_cases h:idxF cs x<cs.length
 ·rw [if_pos h];exact ⟨fun _=>h,fun _=>by omega⟩
 ·rw [if_neg h];exact ⟨fun h=>by omega,fun h'=>absurd h' h⟩
theorem joinF_clus {D:Int→Int→Int} {k:Nat} (hk:1≤k) {cs:List Cl} {at_ id:Int} (h1:1≤id) (h2:id≤8) (h:Clus D cs) :
  Clus D (joinF D k cs at_ id)∧(Sized k cs→Sized k (joinF D k cs at_ id)) ∧
  ((cs=[]∨0≤at_∧at_<(cs.length:Int))→(∀ x,isIn (joinF D k cs at_ id) x↔isIn cs x∨x=id)∧total (joinF D k cs at_ id)=total cs+(if 0≤homeF cs id then 0 else 1)):=by
 unfold joinF
 by_cases hn:cs=[]
 ·subst hn
  rw [if_pos rfl]
  refine ⟨Clus.cons.2 ⟨ofF_ok (Ris.single h1 h2) (by simp),fun x _ hx=>isIn_nil hx,Clus.nil⟩,fun _=>⟨fun c hc=>?_,fun hl=>by simp at hl⟩,fun _=>⟨fun x=>?_,?_⟩⟩
  ·rw [List.mem_singleton] at hc;subst hc;show 1≤_;omega
  ·rw [isIn_cons];simp [isIn_nil,ofF]
  ·rw [if_neg (fun hx=>isIn_nil (homeF_pos.1 hx))];rfl
 rw [if_neg hn]
 by_cases hc:at_<0∨(cs.length:Int)≤at_∨0≤homeF cs id
 ·rw [if_pos hc]
  refine ⟨h,fun h=>h,fun hat=>?_⟩
  have hat:=hat.resolve_left hn
  have hi:isIn cs id:=homeF_pos.1 (by omega)
  refine ⟨fun x=>⟨.inl,fun hx=>hx.elim (fun h=>h) (fun e=>e▸hi)⟩,by rw [if_pos (homeF_pos.2 hi)];rfl⟩
 rw [if_neg hc]
 obtain ⟨i,rfl⟩:∃ i:Nat,at_=i:=⟨at_.toNat,by omega⟩
 have hi:i<cs.length:=by omega
 have hno:¬ isIn cs id:=fun hx=>hc (.inr (.inr (homeF_pos.2 hx)))
 rw [Int.toNat_natCast,getD_lt hi]
 obtain ⟨g1,g2,g3⟩:=h.at hi
 have hid:id ∉ cs[i].1:=fun hx=>hno ((isIn_at hi id).2 (.inl hx))
 have hide:¬ isIn (cs.eraseIdx i) id:=fun hx=>hno ((isIn_at hi id).2 (.inr hx))
 have hlen:=rising_add_length g1.1 h1 h2 hid
 have hne:rising (cs[i].1++[id])≠[]:=fun e=>by rw [e] at hlen;simp at hlen
 have ps:=perm_set hi (ofF D (rising (cs[i].1++[id])))
 have hC:Clus D (ofF D (rising (cs[i].1++[id]))::cs.eraseIdx i):=Clus.cons.2 ⟨ofF_ok (ris_rising _) hne,fun x hx hy=>by
  have hx:=(mem_rising.1 hx).2
  rcases List.mem_append.1 hx with hx | hx
  ·exact g2 x hx hy
  ·rw [List.mem_singleton] at hx;subst hx;exact hide hy,g3⟩
 have hi':i<(cs.set i (ofF D (rising (cs[i].1++[id])))).length:=by simpa using hi
 obtain ⟨c1,c2,c3,c4,c5⟩:=cutF_clus hk hi' (hC.perm ps.symm)
 refine ⟨c1,fun hs=>?_,fun _=>⟨fun x=>?_,?_⟩⟩
 ·apply c5
  ·intro c hc'
   rw [List.eraseIdx_set_eq] at hc'
   have hm:=List.mem_of_mem_eraseIdx hc'
   refine ⟨hs.2 ?_ c hm,hs.1 c hm⟩
   have:=List.length_pos_of_mem hc'
   rw [List.length_eraseIdx,if_pos hi] at this;omega
  ·intro hl
   rw [List.getElem_set_self]
   show k≤(rising _).length
   rw [List.length_set] at hl
   have:=hs.2 hl _ (List.getElem_mem hi)
   omega
  ·rw [List.getElem_set_self]
   right;show (rising _).length≤_
   have:=hs.1 _ (List.getElem_mem hi);omega
 ·rw [c2 x,isIn_perm ps,isIn_cons,isIn_at hi x]
  show x∈rising _∨_↔_
  rw [mem_rising,List.mem_append,List.mem_singleton]
  constructor
  ·rintro (⟨_,h | h⟩ | h)
   ·exact .inl (.inl h)
   ·exact .inr h
   ·exact .inl (.inr h)
  ·rintro ((h | h) | h)
   ·exact .inl ⟨g1.1.range h,.inl h⟩
   ·exact .inr h
   ·exact .inl ⟨by omega,.inr h⟩
 ·rw [c3,total_perm ps,total_cons,total_at hi,if_neg (fun hx=>hno (homeF_pos.1 hx))]
  show (rising _).length+_=_
  omega
theorem leaveF_clus {D:Int→Int→Int} {k:Nat} (hk:1≤k) {cs:List Cl} {id:Int} (h:Clus D cs) :
  Clus D (leaveF D k cs id)∧(Sized k cs→Sized k (leaveF D k cs id)) ∧
  (∀ x,isIn (leaveF D k cs id) x↔isIn cs x∧x≠id)∧total (leaveF D k cs id)+(if 0≤homeF cs id then 1 else 0)=total cs:=by
 unfold leaveF
 dsimp only
 by_cases hi:idxF cs id<cs.length
 case neg=>
  have hno:¬ isIn cs id:=fun hx=>hi (idxF_lt.2 hx)
  rw [if_pos hi,if_neg (fun hx=>hno (homeF_pos.1 hx))]
  exact ⟨h,fun h=>h,fun x=>⟨fun hx=>⟨hx,fun e=>hno (e▸hx)⟩,fun hx=>hx.1⟩,rfl⟩
 have hin:=idxF_lt.1 hi
 rw [if_neg (fun hn=>hn hi),if_pos (homeF_pos.2 hin)]
 have hid:=idxF_mem hi
 generalize idxF cs id=i at *
 rw [getD_lt hi]
 obtain ⟨g1,g2,g3⟩:=h.at hi
 have hlen:=filter_ne_length g1.1.nodup hid
 have hide:¬ isIn (cs.eraseIdx i) id:=g2 id hid
 have hmem:∀ x,x∈cs[i].1.filter (fun x=>x != id)↔x∈cs[i].1∧x≠id:=fun x=>by rw [List.mem_filter];simp
 have hrl:=g1.1.filter (fun x=>x != id)
 have htot:=total_at hi
 generalize hL:cs[i].1.filter (fun x=>x != id)=l at *
 have inx:∀ x,isIn cs x∧x≠id↔x∈l∨isIn (cs.eraseIdx i) x:=fun x=>by
  rw [isIn_at hi x,hmem x]
  constructor
  ·rintro ⟨h1 | h1,h2⟩
   ·exact .inl ⟨h1,h2⟩
   ·exact .inr h1
  ·rintro (h1 | h1)
   ·exact ⟨.inl h1.1,h1.2⟩
   ·exact ⟨.inr h1,fun e=>hide (e▸h1)⟩
 by_cases hl0:l=[]
 ·rw [if_pos hl0]
  subst hl0
  refine ⟨g3,fun hs=>⟨fun c hc=>hs.1 c (List.mem_of_mem_eraseIdx hc),fun hl c hc=>hs.2 ?_ c (List.mem_of_mem_eraseIdx hc)⟩,fun x=>?_,?_⟩
  ·rw [List.length_eraseIdx,if_pos hi] at hl;omega
  ·rw [inx x];simp
  ·simp at hlen;omega
 rw [if_neg hl0]
 have ps:=perm_set hi (ofF D l)
 have hC:Clus D (ofF D l::cs.eraseIdx i):=Clus.cons.2 ⟨ofF_ok hrl hl0,fun x hx hy=>g2 x ((hmem x).1 hx).1 hy,g3⟩
 have hC1:=hC.perm ps.symm
 have hins:∀ x,isIn (cs.set i (ofF D l)) x↔isIn cs x∧x≠id:=fun x=>by rw [inx x,isIn_perm ps,isIn_cons];exact Iff.rfl
 have hts:total (cs.set i (ofF D l))+1=total cs:=by rw [total_perm ps,total_cons];show l.length+_+1=_;omega
 have hl1:(cs.set i (ofF D l)).length=cs.length:=by simp
 have hi1:i<(cs.set i (ofF D l)).length:=by omega
 have he1:(cs.set i (ofF D l)).eraseIdx i=cs.eraseIdx i:=List.eraseIdx_set_eq
 have ha1:(cs.set i (ofF D l))[i]=ofF D l:=List.getElem_set_self ..
 by_cases hk1:k≤l.length∨(cs.set i (ofF D l)).length<2
 ·rw [if_pos hk1]
  refine ⟨hC1,fun hs=>Sized.perm ⟨fun c hc=>?_,fun hl c hc=>?_⟩ ps.symm,hins,hts⟩
  ·rcases List.mem_cons.1 hc with rfl | hc
   ·show l.length≤_;have:=hs.1 _ (List.getElem_mem hi);omega
   ·exact hs.1 c (List.mem_of_mem_eraseIdx hc)
  ·rw [← ps.length_eq] at hl
   rcases List.mem_cons.1 hc with rfl | hc
   ·show k≤l.length;omega
   ·exact hs.2 (by omega) c (List.mem_of_mem_eraseIdx hc)
 rw [if_neg hk1]
 generalize hcs1:cs.set i (ofF D l)=cs1 at *
 have hnear:nearF D (midF D l) ((cs1.eraseIdx i).map (·.2))∈(cs1.eraseIdx i).map (·.2):=by
  have hpos:0<(cs1.eraseIdx i).length:=by rw [List.length_eraseIdx,if_pos hi1];omega
  obtain ⟨c,hc⟩:∃ c,c∈cs1.eraseIdx i:=by
   cases he:cs1.eraseIdx i with
   | nil=>rw [he] at hpos;simp at hpos
   | cons c t=>exact ⟨c,List.mem_cons_self ..⟩
  have hc0:∀ c∈cs1.eraseIdx i,c.2∈c.1:=fun c hc=>Clus.midIn ((hC1.at hi1).2.2.ris c hc)
  refine (nearF_mem (fun x hx=>?_) (List.mem_map_of_mem hc) (fun e=>?_)).1
  ·obtain ⟨c,hc,rfl⟩:=List.mem_map.1 hx
   have:=((hC1.at hi1).2.2.ris c hc).1.range (hc0 c hc);omega
  ·have h1:=midF_mem (D:=D) (l:=l) (fun x hx=>by have:=hrl.range hx;omega) hl0
   have h2:=hc0 c hc
   rw [e] at h2
   rw [he1] at hc
   exact g2 _ ((hmem _).1 h1).1 ⟨c,hc,h2⟩
 generalize nearF D (midF D l) ((cs1.eraseIdx i).map (·.2))=near at *
 obtain ⟨c0,hc0,rfl⟩:=List.mem_map.1 hnear
 have hm0:=Clus.midIn ((hC1.at hi1).2.2.ris c0 hc0)
 have hjn:isIn cs1 c0.2:=⟨c0,List.mem_of_mem_eraseIdx hc0,hm0⟩
 have hj:idxF cs1 c0.2<cs1.length:=idxF_lt.2 hjn
 have hjm:=idxF_mem hj
 have hji:idxF cs1 c0.2≠i:=fun e=>by
  have:c0.2∈cs1[i].1:=by have:=hjm;simp only [e] at this;exact this
  exact (hC1.at hi1).2.1 _ this ⟨c0,hc0,hm0⟩
 generalize idxF cs1 c0.2=j at *
 rw [getD_lt hj]
 obtain ⟨o1,o2,o3⟩:=hC1.at hj
 have hi2:(if j<i then i - 1 else i)<(cs1.eraseIdx j).length:=by
  rw [List.length_eraseIdx,if_pos hj];split<;>omega
 have hat2:(cs1.eraseIdx j)[if j<i then i - 1 else i]=ofF D l:=by
  rw [List.getElem_eraseIdx]
  by_cases g:j<i
  ·simp only [if_pos g]
   rw [dif_neg (by omega)]
   have:i - 1+1=i:=by omega
   simp only [this];exact ha1
  ·simp only [if_neg g]
   rw [dif_pos (by omega)];exact ha1
 have hse:∀ x,(cs1.set i x).eraseIdx j=(cs1.eraseIdx j).set (if j<i then i - 1 else i) x:=fun x=>by
  by_cases g:j<i
  ·rw [if_pos g,List.eraseIdx_set_lt g]
  ·rw [if_neg g,List.eraseIdx_set_gt (by omega)]
 rw [hse]
 generalize hI:(if j<i then i - 1 else i)=i2 at *
 obtain ⟨q1,q2,q3⟩:=o3.at hi2
 rw [hat2] at q1 q2
 have hother:∀ x,x∈cs1[j].1→x ∉ l∧¬ isIn ((cs1.eraseIdx j).eraseIdx i2) x:=fun x hx=>by
  have:=o2 x hx
  rw [isIn_at hi2,hat2] at this
  exact ⟨fun h=>this (.inl h),fun h=>this (.inr h)⟩
 have hall:∀ x,x∈rising (l++cs1[j].1)↔x∈l∨x∈cs1[j].1:=fun x=>by
  rw [mem_rising,List.mem_append]
  exact ⟨fun h=>h.2,fun h=>⟨h.elim (fun h=>hrl.range h) (fun h=>o1.1.range h),h⟩⟩
 have hlall:(rising (l++cs1[j].1)).length=l.length+cs1[j].1.length:=by
  have hp:(rising (l++cs1[j].1)).Perm (l++cs1[j].1):=by
   rw [List.perm_ext_iff_of_nodup (ris_rising _).nodup (List.nodup_append.2 ⟨hrl.nodup,o1.1.nodup,fun x hx y hy e=>(hother y hy).1 (e▸hx)⟩)]
   intro x;rw [hall x,List.mem_append]
  rw [hp.length_eq,List.length_append]
 have ps2:=perm_set hi2 (ofF D (rising (l++cs1[j].1)))
 have hC2:Clus D (ofF D (rising (l++cs1[j].1))::(cs1.eraseIdx j).eraseIdx i2):=Clus.cons.2 ⟨ofF_ok (ris_rising _) (fun e=>by
  rw [e] at hlall;have:=List.length_pos_iff.2 hl0;simp at hlall;omega),fun x hx hy=>by
   rcases (hall x).1 hx with hx | hx
   ·exact q2 x hx hy
   ·exact (hother x hx).2 hy,q3⟩
 have hi3:i2<((cs1.eraseIdx j).set i2 (ofF D (rising (l++cs1[j].1)))).length:=by simpa using hi2
 obtain ⟨c1,c2,c3,c4,c5⟩:=cutF_clus hk hi3 (hC2.perm ps2.symm)
 refine ⟨c1,fun hs=>?_,fun x=>?_,?_⟩
 ·have hszj:∀ c∈cs1,c∈cs∨c=ofF D l:=fun c hc=>by
   rw [← hcs1] at hc
   rcases List.mem_or_eq_of_mem_set hc with h | h
   ·exact .inl h
   ·exact .inr h
  have h3:=hs.1
  have h2:=hs.2 (by omega)
  apply c5
  ·intro c hc
   rw [List.eraseIdx_set_eq] at hc
   have hm:=List.mem_of_mem_eraseIdx (List.mem_of_mem_eraseIdx hc)
   have hmc:c∈cs:=by
    rcases hszj c hm with h | h
    ·exact h
    ·
     subst h
     exfalso
     have hx:=midF_mem (D:=D) (l:=l) (fun x hx=>by have:=hrl.range hx;omega) hl0
     exact q2 _ hx ⟨_,hc,hx⟩
   exact ⟨h2 c hmc,h3 c hmc⟩
  ·intro _
   rw [List.getElem_set_self]
   show k≤(rising _).length
   have hjc:cs1[j]∈cs:=by
    rcases hszj _ (List.getElem_mem hj) with h | h
    ·exact h
    ·exfalso
     have hx:=midF_mem (D:=D) (l:=l) (fun x hx=>by have:=hrl.range hx;omega) hl0
     exact (hother (midF D l) (by rw [h];exact hx)).1 hx
   have:=h2 _ hjc
   omega
  ·rw [List.getElem_set_self]
   left;show (rising _).length≤_
   have hjc:cs1[j]∈cs:=by
    rcases hszj _ (List.getElem_mem hj) with h | h
    ·exact h
    ·exfalso
     have hx:=midF_mem (D:=D) (l:=l) (fun x hx=>by have:=hrl.range hx;omega) hl0
     exact (hother (midF D l) (by rw [h];exact hx)).1 hx
   have:=h3 _ hjc
   omega
 ·rw [c2 x,isIn_perm ps2,isIn_cons,← hins x,isIn_at hj x,isIn_at hi2 x,hat2]
  show x∈rising _∨_↔_
  rw [hall x]
  show _↔x∈cs1[j].1∨x∈l∨_
  constructor
  ·rintro ((h | h) | h)
   ·exact .inr (.inl h)
   ·exact .inl h
   ·exact .inr (.inr h)
  ·rintro (h | h | h)
   ·exact .inl (.inr h)
   ·exact .inl (.inl h)
   ·exact .inr h
 ·rw [c3,total_perm ps2,total_cons,← hts,total_at hj,total_at hi2,hat2]
  show (rising _).length+_+1=cs1[j].1.length+(l.length+_)+1
  omega
end Go.PE
