/-
  Plain lemmas on the functions.
  Conditions: none.
-/
import Derived.Test.YtemajkklbjdmjaaGreatHierAllPClusRef1
set_option linter.unusedVariables false
set_option linter.unusedSimpArgs false
set_option maxRecDepth 20000
namespace Go.PE
theorem rends_inner (n m1:Nat) (r1:List (List Int)→List Int→Int→Int→Int→Int→Option (((List Int) × (List Int) × Unit) × Unit)) {d:List (List Int)} (h:OkD d) (l:List Int) (hl:∀ y∈l,1≤y∧y≤8) (h6:l.length≤1000000) (K:Int) (i:Nat) (hi:i<l.length):∀ (k m j:Nat) (p:Int × Int),j+k=l.length→k<m→(p.1≠0→(1≤p.1∧p.1≤8)∧(1≤p.2∧p.2≤8)) →
  pleachref7_Split_L2 n m1 r1 m d l K p.1 p.2 (i:Int) (j:Int) =
   r1 d l K (((l.drop j).map (fun y=>(l[i],y))).foldl (farther (eD d)) p).1 (((l.drop j).map (fun y=>(l[i],y))).foldl (farther (eD d)) p).2 ((i+1:Nat):Int)
 | k,0,j,p,_,h,_=>by omega
 | 0,m+1,j,p,hk,hm,_=>by
  show pleachref7_Split_B2 (pleachref7_Split_L2 n m1 r1 m) r1 d l K p.1 p.2 (i:Int) (j:Int)=_
  unfold pleachref7_Split_B2
  rw [cdn (by omega),List.drop_eq_nil_of_le (by omega),inext (by omega)];rfl
 | k+1,m+1,j,p,hk,hm,hp=>by
  show pleachref7_Split_B2 (pleachref7_Split_L2 n m1 r1 m) r1 d l K p.1 p.2 (i:Int) (j:Int)=_
  have hj:j<l.length:=by omega
  have hx:=hl _ (List.getElem_mem hi)
  have hy:=hl _ (List.getElem_mem hj)
  unfold pleachref7_Split_B2
  rw [toNat_nat i,toNat_nat j,getD_at hj,getD_at hi,List.drop_eq_getElem_cons hj,inext (by omega)]
  have ih:=fun p hp=>rends_inner n m1 r1 h l hl h6 K i hi k m (j+1) p (by omega) (by omega) hp
  have ci:(decide ((0:Int)≤(i:Int))&&decide ((i:Int)<(l.length:Int)))=true:=by simp only [Bool.and_eq_true,decide_eq_true_eq];omega
  have cj:(decide ((0:Int)≤(j:Int))&&decide ((j:Int)<(l.length:Int)))=true:=by simp only [Bool.and_eq_true,decide_eq_true_eq];omega
  simp only [ci,cj,cond_true]
  rw [cdp (by omega)]
  generalize l[j]=y at *
  generalize l[i]=x at *
  rw [List.map_cons,List.foldl_cons]
  by_cases h0:p.1=0
  ·have e:farther (eD d) p (x,y)=(x,y):=if_pos (.inl h0)
   rw [ceqp h0,e,ih (x,y) (fun _=>⟨hx,hy⟩)]
  ·have hp:=hp h0
   rw [ceqn h0,wi64 (x:=x - 1) (by omega) (by omega),wi64 (x:=y - 1) (by omega) (by omega),wi64 (x:=p.1 - 1) (by omega) (by omega),wi64 (x:=p.2 - 1) (by omega) (by omega)]
   have hl8:=h.len
   have hrx:=h.rows (x - 1).toNat (by omega)
   have hrp:=h.rows (p.1 - 1).toNat (by omega)
   rw [ct (by simp only [Bool.and_eq_true,decide_eq_true_eq];omega),ct (by simp only [Bool.and_eq_true,decide_eq_true_eq];omega),ct (by simp only [Bool.and_eq_true,decide_eq_true_eq];omega),ct (by simp only [Bool.and_eq_true,decide_eq_true_eq];omega)]
   by_cases hc:eD d x y>eD d p.1 p.2
   ·have e:farther (eD d) p (x,y)=(x,y):=if_pos (.inr hc)
    rw [cdp (by exact hc),e,ih (x,y) (fun _=>⟨hx,hy⟩)]
   ·have e:farther (eD d) p (x,y)=p:=if_neg (fun g=>g.elim h0 hc)
    rw [cdn (by exact hc),e,ih p (fun _=>hp)]
theorem farther_range {D:Int→Int→Int} (x:Int) (hx:1≤x∧x≤8):∀ (ys:List Int),(∀ y∈ys,1≤y∧y≤8)→∀ (p:Int × Int),(p.1≠0→(1≤p.1∧p.1≤8)∧(1≤p.2∧p.2≤8)) →
  ((((ys.map (fun y=>(x,y))).foldl (farther D) p).1≠0→(1≤((ys.map (fun y=>(x,y))).foldl (farther D) p).1∧((ys.map (fun y=>(x,y))).foldl (farther D) p).1≤8)∧(1≤((ys.map (fun y=>(x,y))).foldl (farther D) p).2∧((ys.map (fun y=>(x,y))).foldl (farther D) p).2≤8)))
 | [],_,p,hp=>hp
 | y::ys,hy,p,hp=>by
  rw [List.map_cons,List.foldl_cons]
  refine farther_range x hx ys (fun z hz=>hy z (List.mem_cons_of_mem _ hz)) _ ?_
  unfold farther
  split
  ·exact fun _=>⟨hx,hy y (List.mem_cons_self ..)⟩
  ·exact hp
theorem rends_outer (n:Nat) (hn:1000001<n) {d:List (List Int)} (h:OkD d) (l:List Int) (hl:∀ y∈l,1≤y∧y≤8) (h6:l.length≤1000000) (K:Int):∀ (k m i:Nat) (p:Int × Int),i+k=l.length→k<m→(p.1≠0→(1≤p.1∧p.1≤8)∧(1≤p.2∧p.2≤8)) →
  pleachref7_Split_L1 n m d l K p.1 p.2 (i:Int)=pleachref7_Split_L3 n n d l K ((pairsF (l.drop i)).foldl (farther (eD d)) p).1 ((pairsF (l.drop i)).foldl (farther (eD d)) p).2 0 [] []
 | k,0,i,p,_,h,_=>by omega
 | 0,m+1,i,p,hk,hm,_=>by
  show pleachref7_Split_B1 (pleachref7_Split_L2 n m (pleachref7_Split_L1 n m) n) (pleachref7_Split_L3 n n) d l K p.1 p.2 (i:Int)=_
  unfold pleachref7_Split_B1
  rw [cdn (by omega),List.drop_eq_nil_of_le (by omega)];rfl
 | k+1,m+1,i,p,hk,hm,hp=>by
  show pleachref7_Split_B1 (pleachref7_Split_L2 n m (pleachref7_Split_L1 n m) n) (pleachref7_Split_L3 n n) d l K p.1 p.2 (i:Int)=_
  have hi:i<l.length:=by omega
  unfold pleachref7_Split_B1
  rw [cdp (by omega),inext (by omega),rends_inner n m (pleachref7_Split_L1 n m) h l hl h6 K i hi k n (i+1) p (by omega) (by omega) hp]
  rw [rends_outer n hn h l hl h6 K k m (i+1) _ (by omega) (by omega) (farther_range _ (hl _ (List.getElem_mem hi)) _ (fun y hy=>hl y (List.mem_of_mem_drop hy)) p hp),List.drop_eq_getElem_cons hi]
  conv=>rhs;unfold pairsF
  rw [List.foldl_append]
theorem rparts (n:Nat) (hn:20<n) {d:List (List Int)} (h:OkD d) (l:List Int) (hl:Ris l) (p q:Int) (hp:1≤p∧p≤8) (hq:1≤q∧q≤8) (k:Int):∀ (c m i:Nat) (a b:List Int),i+c=l.length→c<m→a.length≤i→b.length≤i →
  pleachref7_Split_L3 n m d l k p q (i:Int) a b=pleachref7_Split_L5 n n d k p q (a++(l.drop i).filter (sideF (eD d) p q)) (b++(l.drop i).filter (fun m=>!sideF (eD d) p q m))
 | c,0,i,a,b,_,h,_,_=>by omega
 | 0,m+1,i,a,b,hc,hm,ha,hb=>by
  show pleachref7_Split_B3 (pleachref7_Split_L3 n m) (pleachref7_Split_L4 n n) d l k p q (i:Int) a b=_
  unfold pleachref7_Split_B3
  rw [cdn (by omega),List.drop_eq_nil_of_le (by omega),List.filter_nil,List.filter_nil,List.append_nil,List.append_nil]
  obtain ⟨n,rfl⟩:∃ n',n=n'+1:=⟨n - 1,by omega⟩
  rfl
 | c+1,m+1,i,a,b,hc,hm,ha,hb=>by
  show pleachref7_Split_B3 (pleachref7_Split_L3 n m) (pleachref7_Split_L4 n n) d l k p q (i:Int) a b=_
  have h8:=hl.le8
  have hi:i<l.length:=by omega
  have hx:=hl.range (List.getElem_mem hi)
  unfold pleachref7_Split_B3
  rw [cdp (by omega),cand,cdp (by omega),cdp (by omega),toNat_nat,getD_at hi,inext (by omega),List.drop_eq_getElem_cons hi]
  generalize l[i]=x at *
  have ih:=fun a b ha hb=>rparts n hn h l hl p q hp hq k c m (i+1) a b (by omega) (by omega) ha hb
  have pos:sideF (eD d) p q x=true→a++(x::l.drop (i+1)).filter (sideF (eD d) p q)=(a++[x])++(l.drop (i+1)).filter (sideF (eD d) p q)∧b++(x::l.drop (i+1)).filter (fun m=>!sideF (eD d) p q m)=b++(l.drop (i+1)).filter (fun m=>!sideF (eD d) p q m):=fun hs=>by
   rw [List.filter_cons_of_pos hs,List.filter_cons_of_neg (by simp [hs]),List.append_assoc];exact ⟨rfl,rfl⟩
  have neg:sideF (eD d) p q x=false→a++(x::l.drop (i+1)).filter (sideF (eD d) p q)=a++(l.drop (i+1)).filter (sideF (eD d) p q)∧b++(x::l.drop (i+1)).filter (fun m=>!sideF (eD d) p q m)=(b++[x])++(l.drop (i+1)).filter (fun m=>!sideF (eD d) p q m):=fun hs=>by
   rw [List.filter_cons_of_neg (by simp [hs]),List.filter_cons_of_pos (by simp [hs]),List.append_assoc];exact ⟨rfl,rfl⟩
  by_cases h1:x=q
  ·have hs:sideF (eD d) p q x=false:=by unfold sideF;simp [h1]
   rw [cnen h1,cbp (by omega),(neg hs).1,(neg hs).2,ih a (b++[x]) (by omega) (by rw [List.length_append,List.length_singleton];omega)]
  ·rw [cnep h1]
   by_cases h2:x=p
   ·have hs:sideF (eD d) p q x=true:=by unfold sideF;simp [h1,h2];rw [h2] at h1;exact h1
    rw [ceqp h2,cbp (by omega),(pos hs).1,(pos hs).2,ih (a++[x]) b (by rw [List.length_append,List.length_singleton];omega) (by omega)]
   ·have hl8:=h.len
    have hrx:=h.rows (x - 1).toNat (by omega)
    rw [ceqn h2,wi64 (x:=x - 1) (by omega) (by omega),wi64 (x:=p - 1) (by omega) (by omega),wi64 (x:=q - 1) (by omega) (by omega)]
    rw [ct (by simp only [Bool.and_eq_true,decide_eq_true_eq];omega),ct (by simp only [Bool.and_eq_true,decide_eq_true_eq];omega),ct (by simp only [Bool.and_eq_true,decide_eq_true_eq];omega),ct (by simp only [Bool.and_eq_true,decide_eq_true_eq];omega)]
    by_cases h3:eD d x p≤eD d x q
    ·have hs:sideF (eD d) p q x=true:=by unfold sideF;simp [h1,h3]
     rw [cdp (by exact h3),cbp (by omega),(pos hs).1,(pos hs).2,ih (a++[x]) b (by rw [List.length_append,List.length_singleton];omega) (by omega)]
    ·have hs:sideF (eD d) p q x=false:=by unfold sideF;simp [h2,h3]
     rw [cdn (by exact h3),cbp (by omega),(neg hs).1,(neg hs).2,ih a (b++[x]) (by omega) (by rw [List.length_append,List.length_singleton];omega)]
theorem rsecond (n:Nat) {d:List (List Int)} (h:OkD d) {l:List Int} {k:Nat} (hk:1≤k) (hk2:k≤100) {p q:Int}:∀ (g m:Nat) (s:List Int × List Int),Two l p q s→s.2.length≤g→g<m →
  pleachref7_Split_L7 n m d (k:Int) q p s.2 s.1=some (((goF (eD d) k p q g s).2,(goF (eD d) k p q g s).1,()),())∧pleachref7_Split_L9 n m d (k:Int) q p s.2 s.1=some (((goF (eD d) k p q g s).2,(goF (eD d) k p q g s).1,()),())
 | g,0,s,_,_,hm=>by omega
 | 0,m+1,s,t,hs,hm=>by
  have:=t.qb
  have e:s.2=[]:=List.length_eq_zero_iff.1 (by omega)
  rw [e] at this;cases this
 | g+1,m+1,s,t,hs,hm=>by
  have l1:=t.ra.le8
  have l2:=t.rb.le8
  have hp:=t.ra.range t.pa
  by_cases hc:s.1.length<k∧s.2.length>k
  ·have ih:=rsecond n h hk hk2 g m _ (t.step (D:=eD d) (by omega)) (by have:=(t.step_len (D:=eD d) (by omega)).2;dsimp only;omega) (by omega)
   have lf:(s.2.filter (fun x=>x != q)).length≤8:=Nat.le_trans (List.length_filter_le ..) l2
   have ho1:=ref_without_is s.2 q (by omega)
   have ho2:=ref_Near_is h hp (s.2.filter (fun x=>x != q)) (fun x hx=>t.rb.range (List.mem_filter.1 hx).1) (by omega)
   have ho3:=ref_without_is s.2 (nearF (eD d) p (s.2.filter (fun x=>x != q))) (by omega)
   have ho4:=ref_Rising_is (s.1++[nearF (eD d) p (s.2.filter (fun x=>x != q))]) (by rw [List.length_append,List.length_singleton];omega)
   have eg:goF (eD d) k p q (g+1) s=goF (eD d) k p q g (rising (s.1++[nearF (eD d) p (s.2.filter (fun x=>x != q))]),s.2.filter (fun x=>x != nearF (eD d) p (s.2.filter (fun x=>x != q)))):=by
    conv=>lhs;unfold goF
    rw [if_pos hc]
   rw [eg]
   constructor
   ·show pleachref7_Split_B7 (pleachref7_Split_L7 n m) d (k:Int) q p s.2 s.1=_
    unfold pleachref7_Split_B7
    rw [cdp (by omega),cdp (by omega),ho1]
    dsimp only [Option.bind_some]
    rw [ho2]
    dsimp only [Option.bind_some]
    rw [cbp (by omega),ho4,ho3]
    exact ih.1
   ·show pleachref7_Split_B9 (pleachref7_Split_L9 n m) d (k:Int) q p s.2 s.1=_
    unfold pleachref7_Split_B9
    rw [cdp (by omega),cdp (by omega),ho1]
    dsimp only [Option.bind_some]
    rw [ho2]
    dsimp only [Option.bind_some]
    rw [cbp (by omega),ho4,ho3]
    exact ih.2
  ·rw [goF_stop _ s hc]
   constructor
   ·show pleachref7_Split_B7 (pleachref7_Split_L7 n m) d (k:Int) q p s.2 s.1=_
    unfold pleachref7_Split_B7
    by_cases h1:s.1.length<k
    ·rw [cdp (by omega),cdn (by omega)]
    ·rw [cdn (by omega)]
   ·show pleachref7_Split_B9 (pleachref7_Split_L9 n m) d (k:Int) q p s.2 s.1=_
    unfold pleachref7_Split_B9
    by_cases h1:s.1.length<k
    ·rw [cdp (by omega),cdn (by omega)]
    ·rw [cdn (by omega)]
theorem rfirst (n:Nat) (hn:10<n) {d:List (List Int)} (h:OkD d) {l:List Int} {k:Nat} (hk:1≤k) (hk2:k≤100) {p q:Int}:∀ (g m:Nat) (s:List Int × List Int),Two l p q s→s.2.length≤g→g<m →
  pleachref7_Split_L5 n m d (k:Int) p q s.1 s.2=some (((goF (eD d) k q p 8 ((goF (eD d) k p q g s).2,(goF (eD d) k p q g s).1)).2,(goF (eD d) k q p 8 ((goF (eD d) k p q g s).2,(goF (eD d) k p q g s).1)).1,()),())
 | g,0,s,_,_,hm=>by omega
 | 0,m+1,s,t,hs,hm=>by
  have:=t.qb
  have e:s.2=[]:=List.length_eq_zero_iff.1 (by omega)
  rw [e] at this;cases this
 | g+1,m+1,s,t,hs,hm=>by
  show pleachref7_Split_B5 (pleachref7_Split_L5 n m) (pleachref7_Split_L6 n n) (pleachref7_Split_L8 n n) d (k:Int) p q s.1 s.2=_
  have l1:=t.ra.le8
  have l2:=t.rb.le8
  have hp:=t.ra.range t.pa
  obtain ⟨n,rfl⟩:∃ n',n=n'+1:=⟨n - 1,by omega⟩
  have sec:=rsecond (n+1) h (l:=l) hk hk2 8 (n+1) (s.2,s.1) t.swap (by dsimp only;omega) (by omega)
  by_cases hc:s.1.length<k∧s.2.length>k
  ·have ih:=rfirst (n+1) hn h hk hk2 g m _ (t.step (D:=eD d) (by omega)) (by have:=(t.step_len (D:=eD d) (by omega)).2;dsimp only;omega) (by omega)
   have lf:(s.2.filter (fun x=>x != q)).length≤8:=Nat.le_trans (List.length_filter_le ..) l2
   have ho1:=ref_without_is s.2 q (by omega)
   have ho2:=ref_Near_is h hp (s.2.filter (fun x=>x != q)) (fun x hx=>t.rb.range (List.mem_filter.1 hx).1) (by omega)
   have ho3:=ref_without_is s.2 (nearF (eD d) p (s.2.filter (fun x=>x != q))) (by omega)
   have ho4:=ref_Rising_is (s.1++[nearF (eD d) p (s.2.filter (fun x=>x != q))]) (by rw [List.length_append,List.length_singleton];omega)
   have eg:goF (eD d) k p q (g+1) s=goF (eD d) k p q g (rising (s.1++[nearF (eD d) p (s.2.filter (fun x=>x != q))]),s.2.filter (fun x=>x != nearF (eD d) p (s.2.filter (fun x=>x != q)))):=by
    conv=>lhs;unfold goF
    rw [if_pos hc]
   rw [eg]
   unfold pleachref7_Split_B5
   rw [cdp (by omega),cdp (by omega),ho1]
   dsimp only [Option.bind_some]
   rw [ho2]
   dsimp only [Option.bind_some]
   rw [cbp (by omega),ho4,ho3]
   exact ih
  ·rw [goF_stop _ s hc]
   unfold pleachref7_Split_B5
   by_cases h1:s.1.length<k
   ·rw [cdp (by omega),cdn (by omega)]
    exact sec.1
   ·rw [cdn (by omega)]
    exact sec.2
theorem ref_Split_is {d:List (List Int)} (h:OkD d) (l:List Int) (hl:Ris l) {k:Nat} (hk:1≤k) (hk2:k≤100):pleachref7_Split d l (k:Int)=some (((splitF (eD d) k l).1,(splitF (eD d) k l).2,()),()):=by
 show pleachref7_Split_T (pleachref7_Split_L1 1099511627776 1099511627776) d l (k:Int)=_
 unfold pleachref7_Split_T
 have h8:=hl.le8
 by_cases h2:l.length<2
 ·rw [cdp (by omega),cbp (by omega)]
  unfold splitF
  rw [if_pos h2];rfl
 rw [cdn (by omega)]
 have t:=splitF_start (D:=eD d) hl (by omega)
 obtain ⟨e1,e2,e3⟩:=endsF_mem (D:=eD d) hl (by omega)
 have z0:((0:Nat):Int)=0:=rfl
 have ho:=rends_outer 1099511627776 (by omega) h l (fun x hx=>hl.range hx) (by omega) (k:Int) l.length 1099511627776 0 (0,0) (by omega) (by omega) (fun h=>absurd rfl h)
 rw [List.drop_zero] at ho
 dsimp only at ho
 rw [z0] at ho
 rw [ho]
 have hp:=rparts 1099511627776 (by omega) h l hl (endsF (eD d) l).1 (endsF (eD d) l).2 (hl.range e1) (hl.range e2) (k:Int) l.length 1099511627776 0 [] [] (by omega) (by omega) (by simp) (by simp)
 rw [List.drop_zero,List.nil_append,List.nil_append,z0] at hp
 unfold endsF at hp
 rw [hp]
 have lb:(l.filter (fun m=>!sideF (eD d) (endsF (eD d) l).1 (endsF (eD d) l).2 m)).length≤8:=Nat.le_trans (List.length_filter_le ..) h8
 have:=rfirst 1099511627776 (by omega) h hk hk2 8 1099511627776 _ t lb (by omega)
 unfold splitF
 rw [if_neg h2]
 exact this
end Go.PE
