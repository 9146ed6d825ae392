/-
  Plain lemmas on the functions.
  Conditions: none.
-/
import Derived.Test.YtemajkklbjdmjaaGreatHierAllPClusFun1
set_option linter.unusedVariables false
set_option linter.unusedSimpArgs false
set_option maxRecDepth 20000
namespace Go.PE
def bst (D:Int→Int→Int) (p:Int × Int):Int:=if p.1=0 then -1 else D p.1 p.2
theorem ends_inner (n m1:Nat) (r1:List (List Int)→List Int→Int→Int→Int→List Int→Int→Int→Option ((Int × Int × Unit) × Unit)) {d:List (List Int)} (h:OkD d) (l l':List Int) (len:Int) (i:Nat) (hi:i<1000000000) (x:Int) (hx:1≤x∧x≤8) (ys:List Int) (hy:∀ y∈ys,1≤y∧y≤8) (h6:ys.length≤1000000000):∀ (k m j:Nat) (p:Int × Int),j+k=ys.length→k<m →
  clus_ends_L2 n m1 r1 m d l p.1 p.2 (bst (eD d) p) x l' len (i:Int) ys (ys.length:Int) (j:Int) =
   r1 d l (((ys.drop j).map (fun y=>(x,y))).foldl (farther (eD d)) p).1 (((ys.drop j).map (fun y=>(x,y))).foldl (farther (eD d)) p).2 (bst (eD d) (((ys.drop j).map (fun y=>(x,y))).foldl (farther (eD d)) p)) l' len ((i+1:Nat):Int)
 | k,0,j,p,_,h=>by omega
 | 0,m+1,j,p,hk,hm=>by
  show clus_ends_B2 (clus_ends_L2 n m1 r1 m) r1 d l p.1 p.2 (bst (eD d) p) x l' len (i:Int) ys (ys.length:Int) (j:Int)=_
  unfold clus_ends_B2
  rw [cdn (by omega),List.drop_eq_nil_of_le (by omega),inext (by omega)];rfl
 | k+1,m+1,j,p,hk,hm=>by
  show clus_ends_B2 (clus_ends_L2 n m1 r1 m) r1 d l p.1 p.2 (bst (eD d) p) x l' len (i:Int) ys (ys.length:Int) (j:Int)=_
  have hj:j<ys.length:=by omega
  have hyj:=hy _ (List.getElem_mem hj)
  unfold clus_ends_B2
  rw [cdp (by omega),cand,cdp (by omega),cdp (by omega),toNat_nat,getD_at hj,clus_far_is h hx hyj,List.drop_eq_getElem_cons hj,inext (by omega)]
  dsimp only [Option.bind_some]
  generalize ys[j]=y at *
  have hv:=h.eD hx hyj
  have ih:=fun p=>ends_inner n m1 r1 h l l' len i hi x hx ys hy h6 k m (j+1) p (by omega) (by omega)
  rw [List.map_cons,List.foldl_cons]
  by_cases hc:p.1=0∨eD d x y>eD d p.1 p.2
  ·have e:farther (eD d) p (x,y)=(x,y):=if_pos hc
   have eb:bst (eD d) (x,y)=eD d x y:=if_neg (by show ¬ x=0;omega)
   rw [e]
   have:=ih (x,y)
   rw [eb] at this
   rw [cdp (by unfold bst;split<;>omega),this]
  ·have e:farther (eD d) p (x,y)=p:=if_neg hc
   rw [e,cdn (by unfold bst;rw [if_neg (fun h=>hc (.inl h))];omega),ih p]
theorem ends_outer (n:Nat) (hn:1000000001<n) {d:List (List Int)} (h:OkD d) (l:List Int) (hl:∀ y∈l,1≤y∧y≤8) (h6:l.length≤1000000000 - 1):∀ (k m i:Nat) (p:Int × Int),i+k=l.length→k<m →
  clus_ends_L1 n m d l p.1 p.2 (bst (eD d) p) l (l.length:Int) (i:Int)=some ((((pairsF (l.drop i)).foldl (farther (eD d)) p).1,((pairsF (l.drop i)).foldl (farther (eD d)) p).2,()),())
 | k,0,i,p,_,h=>by omega
 | 0,m+1,i,p,hk,hm=>by
  show clus_ends_B1 (clus_ends_L2 n m (clus_ends_L1 n m) n) d l p.1 p.2 (bst (eD d) p) l (l.length:Int) (i:Int)=_
  unfold clus_ends_B1
  rw [cdn (by omega),List.drop_eq_nil_of_le (by omega)];rfl
 | k+1,m+1,i,p,hk,hm=>by
  show clus_ends_B1 (clus_ends_L2 n m (clus_ends_L1 n m) n) d l p.1 p.2 (bst (eD d) p) l (l.length:Int) (i:Int)=_
  have hi:i<l.length:=by omega
  unfold clus_ends_B1
  rw [inext (by omega)]
  simp only [toNat_nat]
  rw [cdp (by omega),cand,cdp (by omega),cdp (by omega),ct (by simp only [Bool.and_eq_true,decide_eq_true_eq];omega),getD_at hi,List.take_length]
  have z0:(0:Int)=((0:Nat):Int):=rfl
  rw [z0,ends_inner n m (clus_ends_L1 n m) h l l (l.length:Int) i (by omega) l[i] (hl _ (List.getElem_mem hi)) (l.drop (i+1)) (fun y hy=>hl y (List.mem_of_mem_drop hy)) (by rw [List.length_drop];omega) (l.drop (i+1)).length n 0 p (by omega) (by rw [List.length_drop];omega)]
  rw [ends_outer n hn h l hl h6 k m (i+1) _ (by omega) (by omega),List.drop_eq_getElem_cons hi,List.drop_zero]
  conv=>rhs;unfold pairsF
  rw [List.foldl_append]
theorem clus_ends_is {d:List (List Int)} (h:OkD d) (l:List Int) (hl:∀ y∈l,1≤y∧y≤8) (h6:l.length≤1000000):clus_ends d l=some (((endsF (eD d) l).1,(endsF (eD d) l).2,()),()):=by
 have:=ends_outer 1099511627776 (by omega) h l hl (by omega) l.length 1099511627776 0 (0,0) (by omega) (by omega)
 rw [List.drop_zero] at this
 exact this
theorem clus_over_is {d:List (List Int)} (h:OkD d) {l:List Int} {p q:Int} {s:List Int × List Int} (t:Two l p q s) (h2:2≤s.2.length) :
  clus_over d s.2 s.1 q p=some ((s.2.filter (fun x=>x != nearF (eD d) p (s.2.filter (fun x=>x != q))),rising (s.1++[nearF (eD d) p (s.2.filter (fun x=>x != q))]),()),()):=by
 obtain ⟨g1,g2,g3,g4⟩:=t.goes (D:=eD d) h2
 have l1:=t.ra.le8
 have l2:=t.rb.le8
 have hp:=t.ra.range t.pa
 unfold clus_over
 rw [clone_int_is s.2 (by omega)]
 dsimp only [Option.bind_some]
 have e1:slices_DeleteFunc_int s.2 (fun x=>(clus_over_fn1 x.1 q).bind fun r=>some (r.1.1,()))=some ((s.2.filter (fun x=>x != q),()),()):=deleteFunc_int s.2 _ (fun x=>x==q) (fun x _=>rfl) (by omega)
 rw [e1]
 dsimp only [Option.bind_some]
 have lf:(s.2.filter (fun x=>x != q)).length≤8:=Nat.le_trans (List.length_filter_le ..) l2
 rw [mid_Near_is h hp _ (fun x hx=>t.rb.range (List.mem_filter.1 hx).1) (by omega),contains_int _ _ (by omega)]
 dsimp only [Option.bind_some]
 rw [cdn g4]
 generalize nearF (eD d) p (s.2.filter (fun x=>x != q))=m at *
 have e2:slices_DeleteFunc_int s.2 (fun x=>(clus_over_fn2 x.1 m).bind fun r=>some (r.1.1,()))=some ((s.2.filter (fun x=>x != m),()),()):=deleteFunc_int s.2 _ (fun x=>x==m) (fun x _=>rfl) (by omega)
 rw [e2,clone_int_is s.1 (by omega)]
 dsimp only [Option.bind_some]
 rw [cbp (by omega),sort_rising (s.1++[m]) (fun x hx=>by
  rcases List.mem_append.1 hx with hx | hx
  ·exact t.ra.range hx
  ·rw [List.mem_singleton] at hx;subst hx;exact t.rb.range g1) (by
  rw [List.nodup_append]
  refine ⟨t.ra.nodup,by simp,fun x hx y hy=>?_⟩
  rw [List.mem_singleton] at hy;subst hy
  exact fun e=>g3 (e▸hx)) (by rw [List.length_append,List.length_singleton];omega)]
 rfl
theorem goF_stop {D:Int→Int→Int} {k:Nat} {p q:Int}:∀ (n:Nat) (s:List Int × List Int),¬ (s.1.length<k∧s.2.length>k)→goF D k p q n s=s
 | 0,s,_=>rfl
 | n+1,s,h=>by unfold goF;rw [if_neg h]
theorem split_second (n:Nat) {d:List (List Int)} (h:OkD d) {l:List Int} {k:Nat} (hk:1≤k) (hk2:k≤100) {p q:Int}:∀ (g m:Nat) (s:List Int × List Int),Two l p q s→s.2.length≤g→g<m →
  clus_Split_L5 n m d (k:Int) q p s.2 s.1=some (((goF (eD d) k p q g s).2,(goF (eD d) k p q g s).1,()),())∧clus_Split_L7 n m d (k:Int) q p s.2 s.1=some (((goF (eD d) k p q g s).2,(goF (eD d) k p q g s).1,()),())
 | g,0,s,_,_,hm=>by omega
 | 0,m+1,s,t,hs,hm=>by
  have:=t.qb
  have e:s.2=[]:=List.length_eq_zero_iff.1 (by omega)
  rw [e] at this;cases this
 | g+1,m+1,s,t,hs,hm=>by
  by_cases hc:s.1.length<k∧s.2.length>k
  ·have ih:=split_second n h hk hk2 g m _ (t.step (D:=eD d) (by omega)) (by have:=(t.step_len (D:=eD d) (by omega)).2;dsimp only;omega) (by omega)
   have ho:=clus_over_is h t (by omega)
   have eg:goF (eD d) k p q (g+1) s=goF (eD d) k p q g (rising (s.1++[nearF (eD d) p (s.2.filter (fun x=>x != q))]),s.2.filter (fun x=>x != nearF (eD d) p (s.2.filter (fun x=>x != q)))):=by
    conv=>lhs;unfold goF
    rw [if_pos hc]
   rw [eg]
   constructor
   ·show clus_Split_B5 (clus_Split_L5 n m) d (k:Int) q p s.2 s.1=_
    unfold clus_Split_B5
    rw [cdp (by omega),cdp (by omega),ho]
    exact ih.1
   ·show clus_Split_B7 (clus_Split_L7 n m) d (k:Int) q p s.2 s.1=_
    unfold clus_Split_B7
    rw [cdp (by omega),cdp (by omega),ho]
    exact ih.2
  ·rw [goF_stop _ s hc]
   constructor
   ·show clus_Split_B5 (clus_Split_L5 n m) d (k:Int) q p s.2 s.1=_
    unfold clus_Split_B5
    by_cases h1:s.1.length<k
    ·rw [cdp (by omega),cdn (by omega)]
    ·rw [cdn (by omega)]
   ·show clus_Split_B7 (clus_Split_L7 n m) d (k:Int) q p s.2 s.1=_
    unfold clus_Split_B7
    by_cases h1:s.1.length<k
    ·rw [cdp (by omega),cdn (by omega)]
    ·rw [cdn (by omega)]
theorem split_first (n:Nat) (hn:10<n) {d:List (List Int)} (h:OkD d) {l:List Int} {k:Nat} (hk:1≤k) (hk2:k≤100) {p q:Int}:∀ (g m:Nat) (s:List Int × List Int),Two l p q s→s.2.length≤g→g<m →
  clus_Split_L3 n m d (k:Int) p q s.1 s.2=some (((goF (eD d) k q p 8 ((goF (eD d) k p q g s).2,(goF (eD d) k p q g s).1)).2,(goF (eD d) k q p 8 ((goF (eD d) k p q g s).2,(goF (eD d) k p q g s).1)).1,()),())
 | g,0,s,_,_,hm=>by omega
 | 0,m+1,s,t,hs,hm=>by
  have:=t.qb
  have e:s.2=[]:=List.length_eq_zero_iff.1 (by omega)
  rw [e] at this;cases this
 | g+1,m+1,s,t,hs,hm=>by
  show clus_Split_B3 (clus_Split_L3 n m) (clus_Split_L4 n n) (clus_Split_L6 n n) d (k:Int) p q s.1 s.2=_
  have l1:=t.ra.le8
  obtain ⟨n,rfl⟩:∃ n',n=n'+1:=⟨n - 1,by omega⟩
  have sec:=split_second (n+1) h (l:=l) hk hk2 8 (n+1) (s.2,s.1) t.swap (by dsimp only;omega) (by omega)
  by_cases hc:s.1.length<k∧s.2.length>k
  ·have ih:=split_first (n+1) hn h hk hk2 g m _ (t.step (D:=eD d) (by omega)) (by have:=(t.step_len (D:=eD d) (by omega)).2;dsimp only;omega) (by omega)
   have ho:=clus_over_is h t (by omega)
   have eg:goF (eD d) k p q (g+1) s=goF (eD d) k p q g (rising (s.1++[nearF (eD d) p (s.2.filter (fun x=>x != q))]),s.2.filter (fun x=>x != nearF (eD d) p (s.2.filter (fun x=>x != q)))):=by
    conv=>lhs;unfold goF
    rw [if_pos hc]
   rw [eg]
   unfold clus_Split_B3
   rw [cdp (by omega),cdp (by omega),ho]
   exact ih
  ·rw [goF_stop _ s hc]
   unfold clus_Split_B3
   by_cases h1:s.1.length<k
   ·rw [cdp (by omega),cdn (by omega)]
    exact sec.1
   ·rw [cdn (by omega)]
    exact sec.2
theorem split_parts (n:Nat) (hn:20<n) {d:List (List Int)} (h:OkD d) (l:List Int) (hl:Ris l) (p q:Int) (hp:1≤p∧p≤8) (hq:1≤q∧q≤8) (k:Int):∀ (c m i:Nat) (a b:List Int),i+c=l.length→c<m→a.length≤i→b.length≤i →
  clus_Split_L1 n m d k p q l (l.length:Int) (i:Int) a b=clus_Split_L3 n n d k p q (a++(l.drop i).filter (sideF (eD d) p q)) (b++(l.drop i).filter (fun m=>!sideF (eD d) p q m))
 | c,0,i,a,b,_,h,_,_=>by omega
 | 0,m+1,i,a,b,hc,hm,ha,hb=>by
  show clus_Split_B1 (clus_Split_L1 n m) (clus_Split_L2 n n) d k p q l (l.length:Int) (i:Int) a b=_
  unfold clus_Split_B1
  rw [cdn (by omega),List.drop_eq_nil_of_le (by omega),List.filter_nil,List.filter_nil,List.append_nil,List.append_nil]
  obtain ⟨n,rfl⟩:∃ n',n=n'+1:=⟨n - 1,by omega⟩
  rfl
 | c+1,m+1,i,a,b,hc,hm,ha,hb=>by
  show clus_Split_B1 (clus_Split_L1 n m) (clus_Split_L2 n n) d k p q l (l.length:Int) (i:Int) a b=_
  have h8:=hl.le8
  have hi:i<l.length:=by omega
  have hx:=hl.range (List.getElem_mem hi)
  unfold clus_Split_B1
  rw [cdp (by omega),cand,cdp (by omega),cdp (by omega),toNat_nat,getD_at hi,inext (by omega),List.drop_eq_getElem_cons hi]
  generalize l[i]=x at *
  have ih:=fun a b ha hb=>split_parts n hn h l hl p q hp hq k c m (i+1) a b (by omega) (by omega) ha hb
  have pos:sideF (eD d) p q x=true→a++(x::l.drop (i+1)).filter (sideF (eD d) p q)=(a++[x])++(l.drop (i+1)).filter (sideF (eD d) p q)∧b++(x::l.drop (i+1)).filter (fun m=>!sideF (eD d) p q m)=b++(l.drop (i+1)).filter (fun m=>!sideF (eD d) p q m):=fun hs=>by
   rw [List.filter_cons_of_pos hs,List.filter_cons_of_neg (by simp [hs]),List.append_assoc];exact ⟨rfl,rfl⟩
  have neg:sideF (eD d) p q x=false→a++(x::l.drop (i+1)).filter (sideF (eD d) p q)=a++(l.drop (i+1)).filter (sideF (eD d) p q)∧b++(x::l.drop (i+1)).filter (fun m=>!sideF (eD d) p q m)=(b++[x])++(l.drop (i+1)).filter (fun m=>!sideF (eD d) p q m):=fun hs=>by
   rw [List.filter_cons_of_neg (by simp [hs]),List.filter_cons_of_pos (by simp [hs]),List.append_assoc];exact ⟨rfl,rfl⟩
  by_cases h1:x=q
  ·have hs:sideF (eD d) p q x=false:=by unfold sideF;simp [h1]
   rw [cnen h1,cbp (by omega),(neg hs).1,(neg hs).2,ih a (b++[x]) (by omega) (by rw [List.length_append,List.length_singleton];omega)]
  ·rw [cnep h1]
   by_cases h2:x=p
   ·have hs:sideF (eD d) p q x=true:=by unfold sideF;simp [h1,h2];rw [h2] at h1;exact h1
    rw [ceqp h2,cbp (by omega),(pos hs).1,(pos hs).2,ih (a++[x]) b (by rw [List.length_append,List.length_singleton];omega) (by omega)]
   ·rw [ceqn h2,clus_far_is h hx hp,clus_far_is h hx hq]
    dsimp only [Option.bind_some]
    by_cases h3:eD d x p≤eD d x q
    ·have hs:sideF (eD d) p q x=true:=by unfold sideF;simp [h1,h3]
     rw [cdp h3,cbp (by omega),(pos hs).1,(pos hs).2,ih (a++[x]) b (by rw [List.length_append,List.length_singleton];omega) (by omega)]
    ·have hs:sideF (eD d) p q x=false:=by unfold sideF;simp [h2,h3]
     rw [cdn h3,cbp (by omega),(neg hs).1,(neg hs).2,ih a (b++[x]) (by omega) (by rw [List.length_append,List.length_singleton];omega)]
theorem clus_Split_is {d:List (List Int)} (h:OkD d) (l:List Int) (hl:Ris l) {k:Nat} (hk:1≤k) (hk2:k≤100):clus_Split d l (k:Int)=some (((splitF (eD d) k l).1,(splitF (eD d) k l).2,()),()):=by
 show clus_Split_T (clus_Split_L1 1099511627776 1099511627776) d l (k:Int)=_
 unfold clus_Split_T
 have h8:=hl.le8
 by_cases h2:l.length<2
 ·rw [cdp (by omega),clone_int_is l (by omega)]
  unfold splitF
  rw [if_pos h2];rfl
 rw [cdn (by omega),clus_ends_is h l (fun x hx=>hl.range hx) (by omega)]
 dsimp only [Option.bind_some]
 have t:=splitF_start (D:=eD d) hl (by omega)
 obtain ⟨e1,e2,e3⟩:=endsF_mem (D:=eD d) hl (by omega)
 have z0:(0:Int)=((0:Nat):Int):=rfl
 rw [z0,split_parts 1099511627776 (by omega) h l hl _ _ (hl.range e1) (hl.range e2) (k:Int) l.length 1099511627776 0 [] [] (by omega) (by omega) (by simp) (by simp)]
 rw [List.drop_zero,List.nil_append,List.nil_append]
 have lb:(l.filter (fun m=>!sideF (eD d) (endsF (eD d) l).1 (endsF (eD d) l).2 m)).length≤8:=Nat.le_trans (List.length_filter_le ..) h8
 have:=split_first 1099511627776 (by omega) h hk hk2 8 1099511627776 _ t lb (by omega)
 unfold splitF
 rw [if_neg h2]
 exact this
end Go.PE
