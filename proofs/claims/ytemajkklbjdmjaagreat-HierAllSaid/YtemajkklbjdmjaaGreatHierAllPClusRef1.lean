/-
  Plain lemmas on the functions.
  Conditions: none.
-/
import Derived.Test.YtemajkklbjdmjaaGreatHierAllPHierFun2
set_option linter.unusedVariables false
set_option linter.unusedSimpArgs false
set_option maxRecDepth 20000
namespace Go.PE
def upF:Nat→Int→List Int
 | 0,_=>[]
 | c+1,k=>k::upF c (k+1)
theorem upF_ids:upF 8 1=ids:=by decide
theorem mem_upF {x:Int}:∀ {c:Nat} {k:Int},x∈upF c k↔k≤x∧x<k+c
 | 0,k=>by unfold upF;simp
 | c+1,k=>by
  unfold upF
  rw [List.mem_cons,mem_upF];omega
theorem ref_without_loop (n:Nat) (l:List Int) (id:Int) (h6:l.length≤1000000):∀ (k m i:Nat) (acc:List Int),i+k=l.length→k<m→acc.length≤i →
  pleachref7_without_L1 n m l id (i:Int) acc=some ((acc++(l.drop i).filter (fun x=>x != id),()),())
 | k,0,i,acc,_,h,_=>by omega
 | 0,m+1,i,acc,hk,hm,ha=>by
  show pleachref7_without_B1 (pleachref7_without_L1 n m) l id (i:Int) acc=_
  unfold pleachref7_without_B1
  rw [cdn (by omega),List.drop_eq_nil_of_le (by omega)];simp
 | k+1,m+1,i,acc,hk,hm,ha=>by
  show pleachref7_without_B1 (pleachref7_without_L1 n m) l id (i:Int) acc=_
  have hi:i<l.length:=by omega
  unfold pleachref7_without_B1
  rw [cdp (by omega),cand,cdp (by omega),cdp (by omega),toNat_nat,getD_at hi,inext (by omega),List.drop_eq_getElem_cons hi]
  generalize l[i]=x
  by_cases h:x=id
  ·rw [cnen h,ref_without_loop n l id h6 k m (i+1) acc (by omega) (by omega) (by omega),List.filter_cons_of_neg (by simp [h])]
  ·rw [cnep h,cand,cdp (by omega),cdp (by omega),cbp (by omega),ref_without_loop n l id h6 k m (i+1) _ (by omega) (by omega) (by rw [List.length_append,List.length_singleton];omega),List.filter_cons_of_pos (by simp [h]),List.append_assoc];rfl
theorem ref_without_is (l:List Int) (id:Int) (h6:l.length≤1000000):pleachref7_without l id=some ((l.filter (fun x=>x != id),()),()):=by
 have:=ref_without_loop 1099511627776 l id h6 l.length 1099511627776 0 [] (by omega) (by omega) (by simp)
 rw [List.drop_zero,List.nil_append] at this
 exact this
theorem ref_Rising_loop (n:Nat) (l:List Int) (h6:l.length≤1000000):∀ (c m:Nat) (k:Int) (acc:List Int),k+c=9→1≤k→c<m→acc.length≤8 - c →
  pleachref7_Rising_L1 n m l k acc=some ((acc++(upF c k).filter (fun x=>decide (x∈l)),()),())
 | c,0,k,acc,_,_,h,_=>by omega
 | 0,m+1,k,acc,hk,h1,hm,ha=>by
  show pleachref7_Rising_B1 (pleachref7_Rising_L1 n m) l k acc=_
  unfold pleachref7_Rising_B1
  rw [cdn (by omega)]
  unfold upF;simp
 | c+1,m+1,k,acc,hk,h1,hm,ha=>by
  show pleachref7_Rising_B1 (pleachref7_Rising_L1 n m) l k acc=_
  unfold pleachref7_Rising_B1
  rw [cdp (by omega),has_eq _ _ (by omega),kinc (by omega) (by omega)]
  dsimp only [Option.bind_some]
  conv=>rhs;unfold upF
  by_cases h:k∈l
  ·rw [cdp h,cbp (by omega),ref_Rising_loop n l h6 c m (k+1) _ (by omega) (by omega) (by omega) (by rw [List.length_append,List.length_singleton];omega),List.filter_cons_of_pos (by simp [h]),List.append_assoc];rfl
  ·rw [cdn h,ref_Rising_loop n l h6 c m (k+1) acc (by omega) (by omega) (by omega) (by omega),List.filter_cons_of_neg (by simp [h])]
theorem ref_Rising_is (l:List Int) (h6:l.length≤1000000):pleachref7_Rising l=some ((rising l,()),()):=by
 have:=ref_Rising_loop 1099511627776 l h6 8 1099511627776 1 [] (by omega) (by omega) (by omega) (by simp)
 rw [upF_ids,List.nil_append] at this
 exact this
def refStep (ok:Int→Bool) (v:Int→Int) (b k:Int):Int:=if ok k=true∧(b=0∨v k<v b) then k else b
theorem ref_least (ok:Int→Bool) (v:Int→Int):∀ (c:Nat) (k b:Int),1≤k→b<k→0≤b→IsLeast (fun x=>1≤x∧x<k∧ok x=true) v b→IsLeast (fun x=>1≤x∧x<k+c∧ok x=true) v ((upF c k).foldl (refStep ok v) b)
 | 0,k,b,_,_,_,h=>h.congr (fun x=>by simp)
 | c+1,k,b,hk,hb,hb0,h=>by
  unfold upF
  rw [List.foldl_cons]
  have step:IsLeast (fun x=>1≤x∧x<k+1∧ok x=true) v (refStep ok v b k)∧refStep ok v b k<k+1∧0≤refStep ok v b k:=by
   unfold refStep
   by_cases hok:ok k=true
   ·rcases h with ⟨rfl,g⟩ | ⟨h1,h2⟩
    ·rw [if_pos ⟨hok,.inl rfl⟩]
     refine ⟨.inr ⟨⟨hk,by omega,hok⟩,fun y hy=>?_⟩,by omega,by omega⟩
     by_cases e:y=k
     ·subst e;exact .inr ⟨rfl,Int.le_refl _⟩
     ·exact absurd ⟨hy.1,by omega,hy.2.2⟩ (g y)
    ·by_cases hv:v k<v b
     ·rw [if_pos ⟨hok,.inr hv⟩]
      refine ⟨.inr ⟨⟨hk,by omega,hok⟩,fun y hy=>?_⟩,by omega,by omega⟩
      by_cases e:y=k
      ·subst e;exact .inr ⟨rfl,Int.le_refl _⟩
      ·have:=h2 y ⟨hy.1,by omega,hy.2.2⟩;omega
     ·rw [if_neg (fun g=>by have:=h1.1;omega)]
      refine ⟨.inr ⟨⟨h1.1,by omega,h1.2.2⟩,fun y hy=>?_⟩,by omega,by omega⟩
      by_cases e:y=k
      ·subst e;omega
      ·exact h2 y ⟨hy.1,by omega,hy.2.2⟩
   ·rw [if_neg (fun g=>hok g.1)]
    refine ⟨h.congr (fun x=>⟨fun g=>⟨g.1,by omega,g.2.2⟩,fun g=>⟨g.1,?_,g.2.2⟩⟩),by omega,by omega⟩
    by_cases e:x=k
    ·subst e;exact absurd g.2.2 hok
    ·omega
  exact (ref_least ok v c (k+1) _ (by omega) step.2.1 step.2.2 step.1).congr (fun x=>⟨fun g=>⟨g.1,by omega,g.2.2⟩,fun g=>⟨g.1,by omega,g.2.2⟩⟩)
theorem ref_least_ids (ok:Int→Bool) (v:Int→Int):IsLeast (fun x=>(1≤x∧x≤8)∧ok x=true) v ((upF 8 1).foldl (refStep ok v) 0):=
 (ref_least ok v 8 1 0 (by omega) (by omega) (by omega) (.inl ⟨rfl,fun x h=>by omega⟩)).congr (fun x=>⟨fun g=>⟨⟨g.1,by omega⟩,g.2.2⟩,fun g=>⟨g.1.1,by omega,g.2⟩⟩)
theorem ref_Near_loop (n:Nat) {d:List (List Int)} (h:OkD d) {a:Int} (ha:1≤a∧a≤8) (l:List Int) (h6:l.length≤1000000):∀ (c m:Nat) (k b:Int),k+c=9→1≤k→c<m→0≤b→b≤8 →
  pleachref7_Near_L1 n m d a l b k=some (((upF c k).foldl (refStep (fun x=>decide (x∈l)&&(x != a)) (eD d a)) b,()),())
 | c,0,k,b,_,_,h,_,_=>by omega
 | 0,m+1,k,b,hk,h1,hm,_,_=>by
  show pleachref7_Near_B1 (pleachref7_Near_L1 n m) d a l b k=_
  unfold pleachref7_Near_B1
  rw [cdn (by omega)]
  unfold upF;rfl
 | c+1,m+1,k,b,hk,h1,hm,hb0,hb8=>by
  show pleachref7_Near_B1 (pleachref7_Near_L1 n m) d a l b k=_
  have ih:=fun b h0 h8=>ref_Near_loop n h ha l h6 c m (k+1) b (by omega) (by omega) (by omega) h0 h8
  have hl:=h.len
  have hr:=h.rows (a - 1).toNat (by omega)
  unfold pleachref7_Near_B1
  rw [cdp (by omega),has_eq _ _ (by omega),kinc (by omega) (by omega)]
  dsimp only [Option.bind_some]
  conv=>rhs;unfold upF
  rw [List.foldl_cons]
  rw [wi64 (x:=a - 1) (by omega) (by omega),wi64 (x:=k - 1) (by omega) (by omega),wi64 (x:=b - 1) (by omega) (by omega)]
  by_cases hka:k=a
  ·have e:refStep (fun x=>decide (x∈l)&&(x != a)) (eD d a) b k=b:=if_neg (by simp [hka])
   rw [cnen hka,e,ih b hb0 hb8]
  ·rw [cnep hka]
   by_cases hm2:k∈l
   ·rw [cdp hm2]
    by_cases h0:b=0
    ·have e:refStep (fun x=>decide (x∈l)&&(x != a)) (eD d a) b k=k:=if_pos ⟨by simp [hm2,hka],.inl h0⟩
     rw [ceqp h0,e,ih k (by omega) (by omega)]
    ·rw [ceqn h0]
     rw [ct (by simp only [Bool.and_eq_true,decide_eq_true_eq];omega),ct (by simp only [Bool.and_eq_true,decide_eq_true_eq];omega),ct (by simp only [Bool.and_eq_true,decide_eq_true_eq];omega),ct (by simp only [Bool.and_eq_true,decide_eq_true_eq];omega)]
     by_cases hv:eD d a k<eD d a b
     ·have e:refStep (fun x=>decide (x∈l)&&(x != a)) (eD d a) b k=k:=if_pos ⟨by simp [hm2,hka],.inr hv⟩
      rw [cdp (by exact hv),e,ih k (by omega) (by omega)]
     ·have e:refStep (fun x=>decide (x∈l)&&(x != a)) (eD d a) b k=b:=if_neg (fun g=>hv (g.2.resolve_left h0))
      rw [cdn (by exact hv),e,ih b hb0 hb8]
   ·have e:refStep (fun x=>decide (x∈l)&&(x != a)) (eD d a) b k=b:=if_neg (by simp [hm2])
    rw [cdn hm2,e,ih b hb0 hb8]
theorem ref_Near_is {d:List (List Int)} (h:OkD d) {a:Int} (ha:1≤a∧a≤8) (l:List Int) (hl:∀ x∈l,1≤x∧x≤8) (h6:l.length≤1000000):pleachref7_Near d a l=some ((nearF (eD d) a l,()),()):=by
 have:=ref_Near_loop 1099511627776 h ha l h6 8 1099511627776 1 0 (by omega) (by omega) (by omega) (by omega) (by omega)
 have e:(upF 8 1).foldl (refStep (fun x=>decide (x∈l)&&(x != a)) (eD d a)) 0=nearF (eD d) a l:=by
  refine (ref_least_ids _ _).uniq ((argl_least (eD d a) _ (fun x hx=>by have:=hl x (List.mem_filter.1 hx).1;omega)).congr (fun x=>?_))
  rw [List.mem_filter,Bool.and_eq_true,decide_eq_true_eq]
  exact ⟨fun g=>⟨hl x g.1,g.1,g.2⟩,fun g=>g.2⟩
 rw [e] at this
 exact this
theorem ref_Far_loop (n:Nat) {d:List (List Int)} (h:OkD d) {a:Int} (ha:1≤a∧a≤8) (l:List Int) (hl:∀ x∈l,1≤x∧x≤8) (h6:l.length≤1000000):∀ (k m i:Nat) (acc:Int),i+k=l.length→k<m →
  pleachref7_Far_L1 n m d a l acc (i:Int)=some (((l.drop i).foldl (fun a' x=>max a' (eD d a x)) acc,()),())
 | k,0,i,acc,_,h=>by omega
 | 0,m+1,i,acc,hk,hm=>by
  show pleachref7_Far_B1 (pleachref7_Far_L1 n m) d a l acc (i:Int)=_
  unfold pleachref7_Far_B1
  rw [cdn (by omega),List.drop_eq_nil_of_le (by omega)];rfl
 | k+1,m+1,i,acc,hk,hm=>by
  show pleachref7_Far_B1 (pleachref7_Far_L1 n m) d a l acc (i:Int)=_
  have hi:i<l.length:=by omega
  have hx:=hl _ (List.getElem_mem hi)
  have hl8:=h.len
  have hr:=h.rows (a - 1).toNat (by omega)
  unfold pleachref7_Far_B1
  rw [toNat_nat,getD_at hi,inext (by omega),List.drop_eq_getElem_cons hi]
  generalize l[i]=x at *
  rw [wi64 (x:=a - 1) (by omega) (by omega),wi64 (x:=x - 1) (by omega) (by omega)]
  rw [cdp (by omega),cand,cdp (by omega),cdp (by omega),cand,cdp (by omega),cdp (by omega),cand,cdp (by omega),cdp (by omega)]
  rw [ref_Far_loop n h ha l hl h6 k m (i+1) _ (by omega) (by omega),List.foldl_cons]
  congr 4
  show (if eD d a x>acc then eD d a x else acc)=_
  generalize eD d a x=v
  by_cases g:v>acc
  ·rw [if_pos g];omega
  ·rw [if_neg g];omega
theorem ref_Far_is {d:List (List Int)} (h:OkD d) {a:Int} (ha:1≤a∧a≤8) (l:List Int) (hl:∀ x∈l,1≤x∧x≤8) (h6:l.length≤1000000):pleachref7_Far d a l=some ((farF (eD d) a l,()),()):=by
 have:=ref_Far_loop 1099511627776 h ha l hl h6 l.length 1099511627776 0 0 (by omega) (by omega)
 rw [List.drop_zero] at this
 exact this
theorem ref_Mid_loop (n:Nat) {d:List (List Int)} (h:OkD d) (l:List Int) (hl:∀ x∈l,1≤x∧x≤8) (h6:l.length≤1000000):∀ (c m:Nat) (k b:Int),k+c=9→1≤k→c<m→0≤b→b≤8 →
  pleachref7_Mid_L1 n m d l b k=some (((upF c k).foldl (refStep (fun x=>decide (x∈l)) (fun x=>farF (eD d) x l)) b,()),())
 | c,0,k,b,_,_,h,_,_=>by omega
 | 0,m+1,k,b,hk,h1,hm,_,_=>by
  show pleachref7_Mid_B1 (pleachref7_Mid_L1 n m) d l b k=_
  unfold pleachref7_Mid_B1
  rw [cdn (by omega)]
  unfold upF;rfl
 | c+1,m+1,k,b,hk,h1,hm,hb0,hb8=>by
  show pleachref7_Mid_B1 (pleachref7_Mid_L1 n m) d l b k=_
  have ih:=fun b h0 h8=>ref_Mid_loop n h l hl h6 c m (k+1) b (by omega) (by omega) (by omega) h0 h8
  unfold pleachref7_Mid_B1
  rw [cdp (by omega),has_eq _ _ (by omega),kinc (by omega) (by omega)]
  dsimp only [Option.bind_some]
  conv=>rhs;unfold upF
  rw [List.foldl_cons]
  by_cases hm2:k∈l
  ·rw [cdp hm2]
   by_cases h0:b=0
   ·have e:refStep (fun x=>decide (x∈l)) (fun x=>farF (eD d) x l) b k=k:=if_pos ⟨by simp [hm2],.inl h0⟩
    rw [ceqp h0,e,ih k (by omega) (by omega)]
   ·rw [ceqn h0,ref_Far_is h (by omega) l hl h6,ref_Far_is h (by omega) l hl h6]
    dsimp only [Option.bind_some]
    by_cases hv:farF (eD d) k l<farF (eD d) b l
    ·have e:refStep (fun x=>decide (x∈l)) (fun x=>farF (eD d) x l) b k=k:=if_pos ⟨by simp [hm2],.inr hv⟩
     rw [cdp hv,e,ih k (by omega) (by omega)]
    ·have e:refStep (fun x=>decide (x∈l)) (fun x=>farF (eD d) x l) b k=b:=if_neg (fun g=>hv (g.2.resolve_left h0))
     rw [cdn hv,e,ih b hb0 hb8]
  ·have e:refStep (fun x=>decide (x∈l)) (fun x=>farF (eD d) x l) b k=b:=if_neg (by simp [hm2])
   rw [cdn hm2,e,ih b hb0 hb8]
theorem ref_Mid_is {d:List (List Int)} (h:OkD d) (l:List Int) (hl:∀ x∈l,1≤x∧x≤8) (h6:l.length≤1000000):pleachref7_Mid d l=some ((midF (eD d) l,()),()):=by
 have:=ref_Mid_loop 1099511627776 h l hl h6 8 1099511627776 1 0 (by omega) (by omega) (by omega) (by omega) (by omega)
 have e:(upF 8 1).foldl (refStep (fun x=>decide (x∈l)) (fun x=>farF (eD d) x l)) 0=midF (eD d) l:=by
  refine (ref_least_ids _ _).uniq ((argl_least (fun x=>farF (eD d) x l) l (fun x hx=>by have:=hl x hx;omega)).congr (fun x=>?_))
  rw [decide_eq_true_eq]
  exact ⟨fun g=>⟨hl x g,g⟩,fun g=>g.2⟩
 rw [e] at this
 exact this
theorem ref_Of_is {d:List (List Int)} (h:OkD d) (l:List Int) (hl:∀ x∈l,1≤x∧x≤8) (h6:l.length≤1000000):pleachref7_Of d l=some ((ofF (eD d) l,()),()):=by
 unfold pleachref7_Of
 rw [cbp (by omega),ref_Mid_is h l hl h6];rfl
end Go.PE
