/-
  Plain lemmas on the functions.
  Conditions: none.
-/
import Derived.Test.YtemajkklbjdmjaaGreatHierAllPHierSpec
set_option linter.unusedVariables false
set_option linter.unusedSimpArgs false
set_option maxRecDepth 20000
namespace Go.PE
def eD (d:List (List Int)) (a b:Int):Int:=List.getD (List.getD d (a - 1).toNat []) (b - 1).toNat 0
theorem OkD.eD {d:List (List Int)} (h:OkD d) {a b:Int} (ha:1≤a∧a≤8) (hb:1≤b∧b≤8):0≤Go.PE.eD d a b∧Go.PE.eD d a b≤1000:=by
 have:=h.vals (a - 1).toNat (b - 1).toNat (by omega) (by omega)
 exact ⟨this.1,this.2.1⟩
theorem mid_dist_is {d:List (List Int)} (h:OkD d) {a b:Int} (ha:1≤a∧a≤8) (hb:1≤b∧b≤8):mid_dist d a b=some ((eD d a b,()),()):=by
 have hl:=h.len
 have hr:=h.rows (a - 1).toNat (by omega)
 unfold mid_dist
 rw [wi64 (x:=a - 1) (by omega) (by omega),wi64 (x:=b - 1) (by omega) (by omega)]
 rw [cdn (by omega),cdn (by omega),cdn (by omega),cand,cdp (by omega),cdp (by omega),cdn (by omega),cand,cdp (by omega),cdp (by omega),cand,cdp (by omega),cdp (by omega)]
 rfl
theorem mid_Far_loop (n:Nat) {d:List (List Int)} (h:OkD d) {a:Int} (ha:1≤a∧a≤8) (l:List Int) (hl:∀ x∈l,1≤x∧x≤8) (h6:l.length≤1000000000):∀ (k m i:Nat) (acc:Int),i+k=l.length→k<m →
  mid_Far_L1 n m d a acc l (l.length:Int) (i:Int)=some (((l.drop i).foldl (fun a' x=>max a' (eD d a x)) acc,()),())
 | k,0,i,acc,_,h=>by omega
 | 0,m+1,i,acc,hk,h=>by
  show mid_Far_B1 (mid_Far_L1 n m) d a acc l (l.length:Int) (i:Int)=_
  unfold mid_Far_B1
  rw [cdn (by omega),List.drop_eq_nil_of_le (by omega)];rfl
 | k+1,m+1,i,acc,hk,hm=>by
  show mid_Far_B1 (mid_Far_L1 n m) d a acc l (l.length:Int) (i:Int)=_
  have hi:i<l.length:=by omega
  unfold mid_Far_B1
  rw [cdp (by omega),cand,cdp (by omega),cdp (by omega),toNat_nat,getD_at hi,mid_dist_is h ha (hl _ (List.getElem_mem hi)),List.drop_eq_getElem_cons hi,inext (by omega)]
  dsimp only [Option.bind_some]
  rw [mid_Far_loop n h ha l hl h6 k m (i+1) _ (by omega) (by omega),List.foldl_cons]
  congr 4
  generalize eD d a l[i]=v
  by_cases g:v>acc
  ·rw [if_pos g];omega
  ·rw [if_neg g];omega
theorem mid_Far_is {d:List (List Int)} (h:OkD d) {a:Int} (ha:1≤a∧a≤8) (l:List Int) (hl:∀ x∈l,1≤x∧x≤8) (h6:l.length≤1000000000):mid_Far d a l=some ((farF (eD d) a l,()),()):=by
 have:=mid_Far_loop 1099511627776 h ha l hl h6 l.length 1099511627776 0 0 (by omega) (by omega)
 rw [List.drop_zero] at this
 exact this
theorem farF_bound {d:List (List Int)} (h:OkD d) {a:Int} (ha:1≤a∧a≤8) (l:List Int) (hl:∀ x∈l,1≤x∧x≤8):0≤farF (eD d) a l∧farF (eD d) a l≤1000:=by
 have key:∀ (l:List Int) (acc:Int),(∀ x∈l,1≤x∧x≤8)→0≤acc→acc≤1000→0≤l.foldl (fun a' x=>max a' (eD d a x)) acc∧l.foldl (fun a' x=>max a' (eD d a x)) acc≤1000:=by
  intro l
  induction l with
  | nil=>intro acc _ h1 h2;exact ⟨h1,h2⟩
  | cons x t ih=>
   intro acc hl h1 h2
   have:=h.eD ha (hl x (List.mem_cons_self ..))
   rw [List.foldl_cons]
   exact ih _ (fun y hy=>hl y (List.mem_cons_of_mem _ hy)) (by omega) (by omega)
 exact key l 0 hl (by omega) (by omega)
theorem clus_far_is {d:List (List Int)} (h:OkD d) {a b:Int} (ha:1≤a∧a≤8) (hb:1≤b∧b≤8):clus_far d a b=some ((eD d a b,()),()):=by
 unfold clus_far
 rw [mid_Far_is h ha [b] (fun x hx=>by rw [List.mem_singleton] at hx;subst hx;exact hb) (by simp)]
 dsimp only [Option.bind_some]
 congr 3
 have:=h.eD ha hb
 unfold farF
 simp only [List.foldl_cons,List.foldl_nil];omega
theorem mid_least_loop (n:Nat) (l:List Int) (hl:∀ x∈l,1≤x) (v:Int→Int) (ok:Int→Bool) (f:Int × Unit→Option (Int × Bool × Unit)) (hf:∀ x∈l,f (x,())=some (v x,ok x,())) (h6:l.length≤1000000000):∀ (k m i:Nat) (at_ best:Int),i+k=l.length→k<m→(at_≠0→best=v at_) →
  mid_least_L1 n m f at_ best l (l.length:Int) (i:Int)=some ((((l.drop i).filter ok).foldl (better v) at_,()),())
 | k,0,i,at_,best,_,h,_=>by omega
 | 0,m+1,i,at_,best,hk,h,_=>by
  show mid_least_B1 (mid_least_L1 n m) f at_ best l (l.length:Int) (i:Int)=_
  unfold mid_least_B1
  rw [cdn (by omega),List.drop_eq_nil_of_le (by omega)];rfl
 | k+1,m+1,i,at_,best,hk,hm,hb=>by
  show mid_least_B1 (mid_least_L1 n m) f at_ best l (l.length:Int) (i:Int)=_
  have hi:i<l.length:=by omega
  have hx:=hl _ (List.getElem_mem hi)
  unfold mid_least_B1
  rw [cdp (by omega),cand,cdp (by omega),cdp (by omega),toNat_nat,getD_at hi,hf _ (List.getElem_mem hi),List.drop_eq_getElem_cons hi,inext (by omega)]
  dsimp only [Option.bind_some]
  generalize l[i]=x at *
  have ih:∀ (a b:Int),(a≠0→b=v a)→mid_least_L1 n m f a b l (l.length:Int) ((i+1:Nat):Int)=some ((((l.drop (i+1)).filter ok).foldl (better v) a,()),()):=
   fun a b hab=>mid_least_loop n l hl v ok f hf h6 k m (i+1) a b (by omega) (by omega) hab
  cases hok:ok x with
  | false=>rw [cond_false,ih _ _ hb,List.filter_cons_of_neg (by simp [hok])]
  | true=>
   rw [cond_true,List.filter_cons_of_pos hok,List.foldl_cons]
   have bp:(at_=0∨v x<v at_∨(v x=v at_∧x<at_))→better v at_ x=x:=fun h=>if_pos h
   have bn:¬ (at_=0∨v x<v at_∨(v x=v at_∧x<at_))→better v at_ x=at_:=fun h=>if_neg h
   by_cases h0:at_=0
   ·rw [ceqp h0,ih _ _ (fun _=>rfl),bp (.inl h0)]
   ·have hb:=hb h0
    subst hb
    rw [ceqn h0]
    by_cases h1:v x<v at_
    ·rw [cdp h1,ih _ _ (fun _=>rfl),bp (.inr (.inl h1))]
    ·rw [cdn h1]
     by_cases h2:v x=v at_
     ·rw [ceqp h2]
      by_cases h3:x<at_
      ·rw [cdp h3,ih _ _ (fun _=>rfl),bp (.inr (.inr ⟨h2,h3⟩))]
      ·rw [cdn h3,ih _ _ (fun _=>rfl),bn (by omega)]
     ·rw [ceqn h2,ih _ _ (fun _=>rfl),bn (by omega)]
theorem mid_least_is (l:List Int) (hl:∀ x∈l,1≤x) (v:Int→Int) (ok:Int→Bool) (f:Int × Unit→Option (Int × Bool × Unit)) (hf:∀ x∈l,f (x,())=some (v x,ok x,())) (h6:l.length≤1000000000):mid_least l f=some ((argl v (l.filter ok),()),()):=by
 have:=mid_least_loop 1099511627776 l hl v ok f hf h6 l.length 1099511627776 0 0 1001 (by omega) (by omega) (fun h=>absurd rfl h)
 rw [List.drop_zero] at this
 exact this
theorem mid_Near_is {d:List (List Int)} (h:OkD d) {m:Int} (hm:1≤m∧m≤8) (l:List Int) (hl:∀ x∈l,1≤x∧x≤8) (h6:l.length≤1000000000):mid_Near d m l=some ((nearF (eD d) m l,()),()):=by
 unfold mid_Near
 rw [mid_least_is l (fun x hx=>(hl x hx).1) (eD d m) (fun x=>x != m) _ (fun x hx=>?_) h6]
 ·rfl
 ·unfold mid_Near_fn1
  dsimp only
  rw [mid_dist_is h hm (hl x hx)];rfl
theorem mid_Mid_is {d:List (List Int)} (h:OkD d) (l:List Int) (hl:∀ x∈l,1≤x∧x≤8) (h6:l.length≤1000000000):mid_Mid d l=some ((midF (eD d) l,()),()):=by
 unfold mid_Mid
 rw [mid_least_is l (fun x hx=>(hl x hx).1) (fun x=>farF (eD d) x l) (fun _=>true) _ (fun x hx=>?_) h6]
 ·have:l.filter (fun _=>true)=l:=List.filter_eq_self.2 (fun _ _=>rfl)
  rw [this];rfl
 ·unfold mid_Mid_fn1
  dsimp only
  rw [mid_Far_is h (hl x hx) l hl h6];rfl
theorem clone_int_is (l:List Int) (h6:l.length≤1000000000):slices_Clone_int l=some ((l,()),()):=by
 unfold slices_Clone_int
 rw [cbp (by omega)]
theorem clus_Of_is {d:List (List Int)} (h:OkD d) (l:List Int) (hl:∀ x∈l,1≤x∧x≤8) (h6:l.length≤1000000000):clus_Of d l=some ((ofF (eD d) l,()),()):=by
 unfold clus_Of
 rw [clone_int_is l h6,mid_Mid_is h l hl h6];rfl
theorem deleteFunc_loop (n:Nat) (f:Int × Unit→Option (Bool × Unit)) (p:Int→Bool):∀ (k m i j:Nat) (s:List Int),j+k=s.length→i≤j→k<m→s.length≤1000000000→(∀ x∈s.drop j,f (x,())=some (p x,())) →
  slices_DeleteFunc_int_L1 n m f (i:Int) (j:Int) s=some ((s.take i++(s.drop j).filter (fun x=>!p x),()),())
 | k,0,i,j,s,_,_,h,_,_=>by omega
 | 0,m+1,i,j,s,hk,hij,h,h6,hf=>by
  show slices_DeleteFunc_int_B1 (slices_DeleteFunc_int_L1 n m) f (i:Int) (j:Int) s=_
  unfold slices_DeleteFunc_int_B1
  have e0:((i:Int) - 0).toNat=i:=by omega
  have e1:((s.length:Int) - (i:Int)).toNat=s.length - i:=by omega
  simp only [toNat_nat,Nat.zero_add,e0,e1]
  have hw:(writeAt (List.map some s) i (List.replicate (s.length - i) (0:Int))).length=s.length:=by
   rw [length_writeAt (by rw [List.length_replicate,List.length_map];omega),List.length_map]
  rw [cdn (by omega),List.drop_eq_nil_of_le (by omega)]
  repeat rw [ct (by simp only [Bool.and_eq_true,decide_eq_true_eq,nble_iff,hw,List.length_map];omega)]
  have e2:List.take i (writeAt (List.map some s) i (List.replicate (s.length - i) (0:Int)))=(s.take i).map some:=by
   refine List.ext_getElem? fun j=>?_
   rw [List.getElem?_take,List.map_take,List.getElem?_take,List.getElem?_map]
   by_cases hj:j<i
   ·rw [if_pos hj,if_pos hj,getElem?_writeAt (by rw [List.length_map];omega),if_pos hj,List.getElem?_map]
   ·rw [if_neg hj,if_neg hj]
  rw [e2,allSome_map]
  simp
 | k+1,m+1,i,j,s,hk,hij,h,h6,hf=>by
  show slices_DeleteFunc_int_B1 (slices_DeleteFunc_int_L1 n m) f (i:Int) (j:Int) s=_
  have hj:j<s.length:=by omega
  have hd:=List.drop_eq_getElem_cons hj
  have hfx:=hf s[j] (by rw [hd];exact List.mem_cons_self ..)
  have hfr:∀ x∈s.drop (j+1),f (x,())=some (p x,()):=fun x hx=>hf x (by rw [hd];exact List.mem_cons_of_mem _ hx)
  unfold slices_DeleteFunc_int_B1
  rw [cdp (by omega),cand,cdp (by omega),cdp (by omega),cand,cdp (by omega),cdp (by omega),toNat_nat,getD_at hj,hfx,hd]
  dsimp only [Option.bind_some]
  cases hp:p s[j] with
  | true=>
   rw [nt,cond_false,inext (by omega),deleteFunc_loop n f p k m i (j+1) s (by omega) (by omega) (by omega) h6 hfr,List.filter_cons_of_neg (by simp [hp])]
  | false=>
   have hi:i<s.length:=by omega
   rw [nf,cond_true,cand,cdp (by omega),cdp (by omega),cand,cdp (by omega),cdp (by omega),inext (by omega),inext (by omega),toNat_nat]
   have hd2:(s.set i s[j]).drop (j+1)=s.drop (j+1):=by rw [List.drop_set,if_pos (by omega)]
   rw [deleteFunc_loop n f p k m (i+1) (j+1) (s.set i s[j]) (by rw [List.length_set];omega) (by omega) (by omega) (by rw [List.length_set];omega) (by rw [hd2];exact hfr),hd2,List.filter_cons_of_pos (by simp [hp])]
   have ht:(s.set i s[j]).take (i+1)=s.take i++[s[j]]:=by
    rw [List.take_set,List.take_succ_eq_append_getElem hi,List.set_append_right _ _ (by rw [List.length_take];omega),List.length_take,Nat.min_eq_left (by omega),Nat.sub_self];rfl
   rw [ht,List.append_assoc];rfl
theorem deleteFunc_int (s:List Int) (f:Int × Unit→Option (Bool × Unit)) (p:Int→Bool) (hf:∀ x∈s,f (x,())=some (p x,())) (h6:s.length≤1000000000) :
  slices_DeleteFunc_int s f=some ((s.filter (fun x=>!p x),()),()):=by
 show slices_DeleteFunc_int_T (slices_DeleteFunc_int_L1 1099511627776 1099511627776) s f=_
 unfold slices_DeleteFunc_int_T
 rw [indexFunc_int s f p hf h6]
 dsimp only [Option.bind_some]
 have hpre:(s.take (s.findIdx p)).filter (fun x=>!p x)=s.take (s.findIdx p):=by
  apply List.filter_eq_self.2
  intro x hx
  obtain ⟨j,hj,rfl⟩:=List.getElem_of_mem hx
  rw [List.length_take] at hj
  rw [List.getElem_take]
  have:=List.not_of_lt_findIdx (p:=p) (xs:=s) (i:=j) (by omega)
  simp [this]
 by_cases hc:s.findIdx p<s.length
 ·rw [if_pos hc,ceqn (by omega),inext (by omega)]
  rw [deleteFunc_loop 1099511627776 f p (s.length - (s.findIdx p+1)) 1099511627776 (s.findIdx p) (s.findIdx p+1) s (by omega) (by omega) (by omega) h6 (fun x hx=>hf x (List.mem_of_mem_drop hx))]
  have hs:s=s.take (s.findIdx p)++s[s.findIdx p]::s.drop (s.findIdx p+1):=by rw [← List.drop_eq_getElem_cons hc,List.take_append_drop]
  have hpx:p s[s.findIdx p]=true:=List.findIdx_getElem (w:=hc)
  conv=>rhs;rw [hs]
  rw [List.filter_append,hpre,List.filter_cons_of_neg (by simp [hpx])]
 ·rw [if_neg hc,ceqp rfl]
  have:s.take (s.findIdx p)=s:=List.take_of_length_le (by omega)
  rw [this] at hpre
  rw [hpre]
theorem less_int (a b:Int):cmp_Less_int a b=some ((decide (a<b),()),()):=by
 unfold cmp_Less_int cmp_isNaN_int
 simp
theorem insertion_inner (n m1:Nat) (r1:Int→Int→Int→List Int→Option (Unit × (List Int × Unit))) (b i:Int) (hi:0≤i∧i<1000000000):∀ (p1:List Int) (m:Nat) (x:Int) (p2 rest:List Int),p1.length<m→p1.length≤1000 →
  (p1++p2).Pairwise (·≤·)→(∀ y∈p2,x<y) →
  ∃ q,(x::(p1++p2)).Perm q∧q.Pairwise (·≤·)∧slices_insertionSortOrdered_int_L2 n m1 r1 m 0 b i (p1.length:Int) (p1++x::(p2++rest))=r1 0 b (IntKind.wrap .i64 (i+1)) (q++rest):=by
 intro p1
 induction hn:p1.length generalizing p1 with
 | zero=>
  intro m x p2 rest hm h6 hs hx
  have:p1=[]:=List.length_eq_zero_iff.1 hn
  subst this
  obtain ⟨m,rfl⟩:∃ m',m=m'+1:=⟨m - 1,by omega⟩
  refine ⟨x::p2,List.Perm.refl _,List.pairwise_cons.2 ⟨fun y hy=>by have:=hx y hy;omega,hs⟩,?_⟩
  show slices_insertionSortOrdered_int_B2 (slices_insertionSortOrdered_int_L2 n m1 r1 m) r1 0 b i ((0:Nat):Int) _=_
  unfold slices_insertionSortOrdered_int_B2
  rw [cdn (by omega)];rfl
 | succ k ih=>
  intro m x p2 rest hm h6 hs hx
  obtain ⟨p,y,rfl⟩:∃ p y,p1=p++[y]:=by
   have hne:p1≠[]:=fun h=>by rw [h] at hn;simp at hn
   exact ⟨p1.dropLast,p1.getLast hne,(List.dropLast_concat_getLast hne).symm⟩
  rw [List.length_append,List.length_singleton] at hn
  have hk:p.length=k:=by omega
  obtain ⟨m,rfl⟩:∃ m',m=m'+1:=⟨m - 1,by omega⟩
  have hrun:slices_insertionSortOrdered_int_L2 n m1 r1 (m+1) 0 b i ((k+1:Nat):Int) (p++[y]++x::(p2++rest)) =
    bif decide (x<y) then slices_insertionSortOrdered_int_L2 n m1 r1 m 0 b i ((p.length:Nat):Int) (p++x::((y::p2)++rest)) else r1 0 b (IntKind.wrap .i64 (i+1)) (p++[y]++x::(p2++rest)):=by
   show slices_insertionSortOrdered_int_B2 (slices_insertionSortOrdered_int_L2 n m1 r1 m) r1 0 b i ((k+1:Nat):Int) _=_
   unfold slices_insertionSortOrdered_int_B2
   have e1:IntKind.wrap .i64 (((k+1:Nat):Int) - 1)=(k:Int):=by rw [wi64 (by omega) (by omega)];omega
   have hlen:(p++[y]++x::(p2++rest)).length=k+2+(p2++rest).length:=by simp;omega
   have g1:List.getD (p++[y]++x::(p2++rest)) (k+1) 0=x:=by
    rw [List.getD_eq_getElem?_getD,List.getElem?_append_right (by simp;omega)]
    have:k+1 - (p++[y]).length=0:=by simp;omega
    rw [this];rfl
   have g2:List.getD (p++[y]++x::(p2++rest)) k 0=y:=by
    rw [List.append_assoc,List.getD_eq_getElem?_getD,List.getElem?_append_right (by omega)]
    have:k - p.length=0:=by omega
    rw [this];rfl
   have s1:List.set (p++[y]++x::(p2++rest)) (k+1) y=p++[y]++y::(p2++rest):=by
    rw [List.set_append_right _ _ (by simp;omega)]
    have:k+1 - (p++[y]).length=0:=by simp;omega
    rw [this];rfl
   have s2:List.set (p++[y]++y::(p2++rest)) k x=p++x::((y::p2)++rest):=by
    rw [List.append_assoc,List.set_append_right _ _ (by omega)]
    have:k - p.length=0:=by omega
    rw [this];rfl
   simp only [e1,toNat_nat,g1,g2,less_int,s1,s2]
   rw [cdp (by omega)]
   repeat rw [ct (by simp only [Bool.and_eq_true,decide_eq_true_eq];omega)]
   dsimp only [Option.bind_some]
   have hlen2:(p++[y]++y::(p2++rest)).length=k+2+(p2++rest).length:=by simp;omega
   have c1:(decide ((0:Int)≤(k:Int))&&decide ((k:Int)<((p++[y]++x::(p2++rest)).length:Int)))=true:=by simp only [Bool.and_eq_true,decide_eq_true_eq];omega
   have c2:(decide ((0:Int)≤((k+1:Nat):Int))&&decide (((k+1:Nat):Int)<((p++[y]++x::(p2++rest)).length:Int)))=true:=by simp only [Bool.and_eq_true,decide_eq_true_eq];omega
   have c3:(decide ((0:Int)≤(k:Int))&&decide ((k:Int)<((p++[y]++y::(p2++rest)).length:Int)))=true:=by simp only [Bool.and_eq_true,decide_eq_true_eq];omega
   simp only [c1,c2,c3,cond_true,hk]
  rw [hrun]
  by_cases hxy:x<y
  ·rw [cdp hxy]
   have hs':(p++(y::p2)).Pairwise (·≤·):=by rw [List.append_assoc] at hs;exact hs
   obtain ⟨q,q1,q2,q3⟩:=ih p hk m x (y::p2) rest (by omega) (by omega) hs' (fun z hz=>by
    rcases List.mem_cons.1 hz with rfl | hz
    ·exact hxy
    ·exact hx z hz)
   refine ⟨q,?_,q2,by rw [hk];exact q3⟩
   rw [List.append_assoc];exact q1
  ·rw [cdn hxy]
   refine ⟨p++[y]++x::p2,?_,?_,by simp⟩
   ·exact (List.perm_middle (l₁:=p++[y]) (l₂:=p2) (a:=x)).symm
   ·rw [List.pairwise_append] at hs ⊢
    refine ⟨hs.1,List.pairwise_cons.2 ⟨fun z hz=>by have:=hx z hz;omega,hs.2.1⟩,fun a ha z hz=>?_⟩
    have hay:a≤y:=by
     rcases List.mem_append.1 ha with ha' | ha'
     ·have:=(List.pairwise_append.1 hs.1).2.2 a ha' y (List.mem_singleton.2 rfl);exact this
     ·rw [List.mem_singleton] at ha';omega
    rcases List.mem_cons.1 hz with rfl | hz
    ·omega
    ·exact hs.2.2 a ha z hz
theorem insertion_outer (n:Nat) (hn:2000<n) (N:Nat) (hN:N≤1000):∀ (k m i:Nat) (q rest:List Int),i+k=N→k<m→q.length=i→q.length+rest.length=N→q.Pairwise (·≤·) →
  ∃ r,(q++rest).Perm r∧r.Pairwise (·≤·)∧slices_insertionSortOrdered_int_L1 n m 0 (N:Int) (i:Int) (q++rest)=some ((),(r,()))
 | k,0,i,q,rest,_,h,_,_,_=>by omega
 | 0,m+1,i,q,rest,hk,h,hq,hl,hs=>by
  have:rest=[]:=List.length_eq_zero_iff.1 (by omega)
  subst this
  refine ⟨q,by simp,hs,?_⟩
  show slices_insertionSortOrdered_int_B1 (slices_insertionSortOrdered_int_L2 n m (slices_insertionSortOrdered_int_L1 n m) n) 0 (N:Int) (i:Int) _=_
  unfold slices_insertionSortOrdered_int_B1
  rw [cdn (by omega)];simp
 | k+1,m+1,i,q,rest,hk,h,hq,hl,hs=>by
  obtain ⟨x,t,rfl⟩:∃ x t,rest=x::t:=by
   cases rest with
   | nil=>simp at hl;omega
   | cons x t=>exact ⟨x,t,rfl⟩
  rw [List.length_cons] at hl
  obtain ⟨q',q1,q2,q3⟩:=insertion_inner n m (slices_insertionSortOrdered_int_L1 n m) (N:Int) (i:Int) (by omega) q n x [] t (by omega) (by omega) (by simpa using hs) (fun y hy=>by cases hy)
  rw [List.append_nil] at q1
  have hlq:q'.length=i+1:=by rw [← q1.length_eq,List.length_cons,hq]
  obtain ⟨r,r1,r2,r3⟩:=insertion_outer n hn N hN k m (i+1) q' t (by omega) (by omega) hlq (by omega) q2
  refine ⟨r,?_,r2,?_⟩
  ·have:(q++x::t).Perm (q'++t):=(List.perm_middle).trans (by
    have:=q1.append_right t
    simpa using this)
   exact this.trans r1
  ·show slices_insertionSortOrdered_int_B1 (slices_insertionSortOrdered_int_L2 n m (slices_insertionSortOrdered_int_L1 n m) n) 0 (N:Int) (i:Int) _=_
   unfold slices_insertionSortOrdered_int_B1
   rw [cdp (by omega)]
   rw [List.nil_append,hq] at q3
   rw [q3,inext (by omega),r3]
theorem insertion_is (l:List Int) (h:l.length≤1000):∃ r,l.Perm r∧r.Pairwise (·≤·)∧slices_insertionSortOrdered_int l 0 (l.length:Int)=some ((),(r,())):=by
 show ∃ r,_∧_∧slices_insertionSortOrdered_int_T (slices_insertionSortOrdered_int_L1 1099511627776 1099511627776) l 0 (l.length:Int)=_
 unfold slices_insertionSortOrdered_int_T
 have e:IntKind.wrap .i64 (0+1)=((1:Nat):Int):=by decide
 rw [e]
 cases l with
 | nil=>
  refine ⟨[],List.Perm.refl _,List.Pairwise.nil,?_⟩
  have key:∀ n m:Nat,0<m→slices_insertionSortOrdered_int_L1 n m 0 0 1 []=some ((),([],())):=by
   intro n m hm
   obtain ⟨m,rfl⟩:∃ m',m=m'+1:=⟨m - 1,by omega⟩
   show slices_insertionSortOrdered_int_B1 (slices_insertionSortOrdered_int_L2 n m (slices_insertionSortOrdered_int_L1 n m) n) 0 0 1 []=_
   unfold slices_insertionSortOrdered_int_B1
   rw [cdn (by decide)]
  exact key _ _ (by omega)
 | cons x t=>
  have:=insertion_outer 1099511627776 (by omega) (x::t).length h t.length 1099511627776 1 [x] t (by rw [List.length_cons];omega) (by rw [List.length_cons] at h;omega) rfl (by simp;omega) (by simp)
  exact this
theorem bits_Len_small:∀ n:Nat,n≤12→∃ v:Int,math_bits_Len (IntKind.wrap .u64 (n:Int))=some ((v,()),()):=by
 intro n hn
 have:n=0∨n=1∨n=2∨n=3∨n=4∨n=5∨n=6∨n=7∨n=8∨n=9∨n=10∨n=11∨n=12:=by omega
 rcases this with rfl | rfl | rfl | rfl | rfl | rfl | rfl | rfl | rfl | rfl | rfl | rfl | rfl
 ·exact ⟨0,by kernel_rfl⟩
 ·exact ⟨1,by kernel_rfl⟩
 ·exact ⟨2,by kernel_rfl⟩
 ·exact ⟨2,by kernel_rfl⟩
 ·exact ⟨3,by kernel_rfl⟩
 ·exact ⟨3,by kernel_rfl⟩
 ·exact ⟨3,by kernel_rfl⟩
 ·exact ⟨3,by kernel_rfl⟩
 ·exact ⟨4,by kernel_rfl⟩
 ·exact ⟨4,by kernel_rfl⟩
 ·exact ⟨4,by kernel_rfl⟩
 ·exact ⟨4,by kernel_rfl⟩
 ·exact ⟨4,by kernel_rfl⟩
theorem sort_int (l:List Int) (h:l.length≤12):∃ r,l.Perm r∧r.Pairwise (·≤·)∧slices_Sort_int l=some ((),(r,())):=by
 obtain ⟨r,r1,r2,r3⟩:=insertion_is l (by omega)
 refine ⟨r,r1,r2,?_⟩
 unfold slices_Sort_int
 obtain ⟨v,hv⟩:=bits_Len_small l.length h
 rw [hv]
 dsimp only [Option.bind_some]
 have:slices_pdqsortOrdered_int l 0 (l.length:Int) v=some ((),(r,())):=by
  show slices_pdqsortOrdered_int_B1 0 (l.length:Int) v true true l=_
  unfold slices_pdqsortOrdered_int_B1
  rw [wi64 (x:=(l.length:Int) - 0) (by omega) (by omega),cdp (by omega),r3];rfl
 rw [this];rfl
theorem sort_rising (l:List Int) (hr:∀ x∈l,1≤x∧x≤8) (hn:l.Nodup) (h:l.length≤12):slices_Sort_int l=some ((),(rising l,())):=by
 obtain ⟨r,r1,r2,r3⟩:=sort_int l h
 have hp:r.Pairwise (·<·):=by
  have hn':r.Nodup:=r1.nodup_iff.1 hn
  have:=r2.and hn'
  exact this.imp (fun h=>by omega)
 have hris:Ris r:=ris_of_pw (fun x hx=>hr x (r1.mem_iff.2 hx)) hp
 have:r=rising l:=hris.ext (ris_rising l) (fun x=>by rw [mem_rising,← r1.mem_iff];exact ⟨fun h=>⟨hr x h,h⟩,fun h=>h.2⟩)
 rw [r3,this]
end Go.PE
