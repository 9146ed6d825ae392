/-
  Plain lemmas on the functions.
  Conditions: none.
-/
import Derived.Test.YtemajkklbjdmjaaGreatHierAllPClusFun2
set_option linter.unusedVariables false
set_option linter.unusedSimpArgs false
set_option maxRecDepth 20000
namespace Go.PE
def sumLen (l:List (List Cl)):Nat:=(l.map List.length).sum
theorem concat_second (n:Nat) (v:List (List Cl)) (hv:v.length≤1000000):∀ (k m i:Nat) (acc:List Cl),i+k=v.length→k<m→acc.length+sumLen (v.drop i)≤1000000 →
  slices_Concat_Cluster_L2 n m v (v.length:Int) (i:Int) acc=some ((acc++(v.drop i).flatten,()),())
 | k,0,i,acc,_,h,_=>by omega
 | 0,m+1,i,acc,hk,hm,ha=>by
  show slices_Concat_Cluster_B2 (slices_Concat_Cluster_L2 n m) v (v.length:Int) (i:Int) acc=_
  unfold slices_Concat_Cluster_B2
  rw [cdn (by omega),List.drop_eq_nil_of_le (by omega)];simp
 | k+1,m+1,i,acc,hk,hm,ha=>by
  show slices_Concat_Cluster_B2 (slices_Concat_Cluster_L2 n m) v (v.length:Int) (i:Int) acc=_
  have hi:i<v.length:=by omega
  rw [List.drop_eq_getElem_cons hi] at ha ⊢
  have hs:sumLen (v[i]::v.drop (i+1))=v[i].length+sumLen (v.drop (i+1)):=by
   unfold sumLen;rw [List.map_cons,List.sum_cons]
  rw [hs] at ha
  unfold slices_Concat_Cluster_B2
  rw [cdp (by omega),cand,cdp (by omega),cdp (by omega),toNat_nat,getD_at hi,cbp (by omega),inext (by omega),concat_second n v hv k m (i+1) _ (by omega) (by omega) (by rw [List.length_append];omega),List.flatten_cons,List.append_assoc]
theorem concat_first (n:Nat) (hn:1000001<n) (v:List (List Cl)) (hv:v.length≤1000000) (hs:sumLen v≤1000000):∀ (k m i:Nat) (s:Nat),i+k=v.length→k<m→s+sumLen (v.drop i)≤1000000 →
  slices_Concat_Cluster_L1 n m v (s:Int) v (v.length:Int) (i:Int)=some ((v.flatten,()),())
 | k,0,i,s,_,h,_=>by omega
 | 0,m+1,i,s,hk,hm,ha=>by
  show slices_Concat_Cluster_B1 (slices_Concat_Cluster_L1 n m) (slices_Concat_Cluster_L2 n n) v (s:Int) v (v.length:Int) (i:Int)=_
  unfold slices_Concat_Cluster_B1
  have hg:slices_Grow_Cluster [] (s:Int)=some (([],()),()):=by
   unfold slices_Grow_Cluster growR
   rw [ct (by simp only [Bool.and_eq_true,decide_eq_true_eq,nble_iff,List.length_nil];omega)]
  rw [cdn (by omega),hg]
  dsimp only [Option.bind_some]
  have:=concat_second n v hv v.length n 0 [] (by omega) (by omega) (by rw [List.drop_zero];simp;exact hs)
  rw [List.drop_zero,List.nil_append] at this
  exact this
 | k+1,m+1,i,s,hk,hm,ha=>by
  show slices_Concat_Cluster_B1 (slices_Concat_Cluster_L1 n m) (slices_Concat_Cluster_L2 n n) v (s:Int) v (v.length:Int) (i:Int)=_
  have hi:i<v.length:=by omega
  rw [List.drop_eq_getElem_cons hi] at ha
  have hs:sumLen (v[i]::v.drop (i+1))=v[i].length+sumLen (v.drop (i+1)):=by
   unfold sumLen;rw [List.map_cons,List.sum_cons]
  rw [hs] at ha
  unfold slices_Concat_Cluster_B1
  rw [cdp (by omega),cand,cdp (by omega),cdp (by omega),toNat_nat,getD_at hi]
  have e:IntKind.wrap .i64 ((s:Int)+(v[i].length:Int))=((s+v[i].length:Nat):Int):=by rw [wi64 (by omega) (by omega)];omega
  rw [e,cdn (by omega),inext (by omega),concat_first n hn v hv ‹_› k m (i+1) (s+v[i].length) (by omega) (by omega) (by omega)]
theorem concat_is (v:List (List Cl)) (hv:v.length≤1000000) (hs:sumLen v≤1000000):slices_Concat_Cluster v=some ((v.flatten,()),()):=
 concat_first 1099511627776 (by omega) v hv hs v.length 1099511627776 0 0 (by omega) (by omega) (by rw [List.drop_zero];omega)
theorem clus_cut_is {d:List (List Int)} (h:OkD d) {k:Nat} (hk:1≤k) (hk2:k≤100) (cs:List Cl) (hl:cs.length≤1000) (i:Nat) (hi:i<cs.length) (hr:Ris cs[i].1) :
  clus_cut d cs (i:Int) (k:Int)=some ((cutF (eD d) k cs i,decide (3*k - 1<cs[i].1.length),()),()):=by
 unfold clus_cut cutF
 have e0:List.getD cs i ([],0)=cs[i]:=getD_at hi _
 have e1:List.getD cs i zc=cs[i]:=getD_at hi _
 have hw:IntKind.wrap .i64 ((IntKind.wrap .i64 (3*(k:Int))) - 1)=((3*k - 1:Nat):Int):=by rw [wi64 (x:=3*(k:Int)) (by omega) (by omega),wi64 (by omega) (by omega)];omega
 rw [toNat_nat,e0,e1,hw,ct (by simp only [Bool.and_eq_true,decide_eq_true_eq];omega)]
 by_cases h1:cs[i].1.length<2
 ·rw [cdp (by omega),if_pos (by omega),decide_eq_false (by omega)]
 rw [cdn (by omega)]
 by_cases h2:cs[i].1.length≤3*k - 1
 ·rw [cdp (by omega),if_pos h2,decide_eq_false (by omega)]
 rw [cdn (by omega),if_neg h2,clus_Split_is h _ hr hk hk2]
 dsimp only [Option.bind_some]
 obtain ⟨s1,s2,s3,s4,s5⟩:=splitF_short (D:=eD d) hk hr (by omega)
 have t:=(splitF_spec (D:=eD d) hk hr (by omega)).1
 have p1:=List.length_pos_iff.2 s1
 have p2:=List.length_pos_iff.2 s2
 have l1:=t.ra.le8
 have l2:=t.rb.le8
 rw [ceqn (by omega),ceqn (by omega),ct (by simp only [Bool.and_eq_true,decide_eq_true_eq];omega),clus_Of_is h _ (fun x hx=>t.ra.range hx) (by omega),clus_Of_is h _ (fun x hx=>t.rb.range hx) (by omega)]
 dsimp only [Option.bind_some]
 rw [inext (by omega),ct (by simp only [Bool.and_eq_true,decide_eq_true_eq];omega),List.drop_zero,toNat_nat,toNat_nat,List.take_length]
 rw [concat_is _ (by simp) (by unfold sumLen;simp;omega),decide_eq_true (by omega)]
 dsimp only [Option.bind_some]
 unfold partF
 rw [e1]
 simp
theorem partF_at {D:Int→Int→Int} {k:Nat} {pre rest:List Cl} {l:List Int}:partF D k (pre++ofF D l::rest) pre.length=pre++ofF D (splitF D k l).1::ofF D (splitF D k l).2::rest:=by
 unfold partF
 have e:List.getD (pre++ofF D l::rest) pre.length zc=ofF D l:=by
  rw [List.getD_eq_getElem?_getD,List.getElem?_append_right (Nat.le_refl _),Nat.sub_self];rfl
 have t:(pre++ofF D l::rest).take pre.length=pre:=List.take_left ..
 have dd:(pre++ofF D l::rest).drop (pre.length+1)=rest:=by
  rw [List.drop_append,List.drop_of_length_le (by omega)]
  have:pre.length+1 - pre.length=1:=by omega
  rw [this];rfl
 rw [e,t,dd]
 show pre++[ofF D (splitF D k l).1,ofF D (splitF D k l).2]++rest=_
 simp
theorem cutF_at {D:Int→Int→Int} {k:Nat} {pre rest:List Cl} {l:List Int}:cutF D k (pre++ofF D l::rest) pre.length=if l.length≤3*k - 1 then pre++ofF D l::rest else pre++ofF D (splitF D k l).1::ofF D (splitF D k l).2::rest:=by
 unfold cutF
 have e:List.getD (pre++ofF D l::rest) pre.length zc=ofF D l:=by
  rw [List.getD_eq_getElem?_getD,List.getElem?_append_right (Nat.le_refl _),Nat.sub_self];rfl
 rw [e,partF_at];rfl
theorem at_mid {pre rest:List Cl} {c:Cl} (h:pre.length<(pre++c::rest).length):(pre++c::rest)[pre.length]=c:=by
 rw [List.getElem_append_right (Nat.le_refl _)]
 simp
theorem grpF_pos {D:Int→Int→Int} {k:Nat} (hk:1≤k) {g:Nat} {l:List Int} (hl:Ris l) (hn:l≠[]) (h:l.length≤g):1≤(grpF D k g l).length:=by
 have:=(grpF_parts (D:=D) hk g l hl hn h).some
 exact List.length_pos_iff.2 this
theorem group_walk (n:Nat) {d:List (List Int)} (h:OkD d) {k:Nat} (hk:1≤k) (hk2:k≤100):∀ (g:Nat) (l:List Int),Ris l→l≠[]→l.length≤g→∀ (m:Nat) (pre rest:List Cl),2*(grpF (eD d) k g l).length≤m→pre.length+rest.length+l.length≤500 →
  clus_Group_L2 n m d (k:Int) (pre++ofF (eD d) l::rest) ((pre.length:Nat):Int) =
   clus_Group_L2 n (m+1 - 2*(grpF (eD d) k g l).length) d (k:Int) (pre++(grpF (eD d) k g l).map (ofF (eD d))++rest) ((pre.length+(grpF (eD d) k g l).length:Nat):Int)
 | 0,l,_,hn,hg,m,pre,rest,hm,hb=>absurd (List.length_eq_zero_iff.1 (by omega)) hn
 | g+1,l,hl,hn,hg,0,pre,rest,hm,hb=>by
  have:=grpF_pos (D:=eD d) hk hl hn hg
  omega
 | g+1,l,hl,hn,hg,m+1,pre,rest,hm,hb=>by
  have hi:pre.length<(pre++ofF (eD d) l::rest).length:=by simp
  have hc:=clus_cut_is h hk hk2 (pre++ofF (eD d) l::rest) (by simp;omega) pre.length hi (by rw [at_mid];exact hl)
  rw [cutF_at,at_mid] at hc
  have e1:clus_Group_L2 n (m+1) d (k:Int) (pre++ofF (eD d) l::rest) ((pre.length:Nat):Int)=clus_Group_B2 (clus_Group_L2 n m) d (k:Int) (pre++ofF (eD d) l::rest) ((pre.length:Nat):Int):=rfl
  rw [e1]
  unfold clus_Group_B2
  rw [cdp (by omega),hc]
  dsimp only [Option.bind_some]
  have eg:grpF (eD d) k (g+1) l=if l.length≤3*k - 1 then [l] else grpF (eD d) k g (splitF (eD d) k l).1++grpF (eD d) k g (splitF (eD d) k l).2:=by
   conv=>lhs;unfold grpF
  rw [eg] at hm ⊢
  by_cases h2:l.length≤3*k - 1
  ·rw [if_pos h2,decide_eq_false (show ¬ 3*k - 1<(ofF (eD d) l).1.length by show ¬ 3*k - 1<l.length;omega),nf,cond_true,inext (by omega),if_pos h2]
   simp
  ·rw [if_neg h2,decide_eq_true (show 3*k - 1<(ofF (eD d) l).1.length by show 3*k - 1<l.length;omega),nt,cond_false,if_neg h2]
   rw [if_neg h2] at hm
   obtain ⟨s1,s2,s3,s4,s5⟩:=splitF_short (D:=eD d) hk hl (by omega)
   have t:=(splitF_spec (D:=eD d) hk hl (by omega)).1
   generalize splitF (eD d) k l=S at *
   have pa:=grpF_pos (D:=eD d) hk t.ra s1 (show S.1.length≤g by omega)
   have pb:=grpF_pos (D:=eD d) hk t.rb s2 (show S.2.length≤g by omega)
   have fa:=(grpF_fewer (D:=eD d) hk g S.1 t.ra s1 (by omega)).1
   rw [List.length_append] at hm ⊢
   rw [group_walk n h hk hk2 g S.1 t.ra s1 (by omega) m pre (ofF (eD d) S.2::rest) (by omega) (by rw [List.length_cons];omega)]
   have ib:=group_walk n h hk hk2 g S.2 t.rb s2 (by omega) (m+1 - 2*(grpF (eD d) k g S.1).length) (pre++(grpF (eD d) k g S.1).map (ofF (eD d))) rest (by omega) (by rw [List.length_append,List.length_map];omega)
   rw [List.length_append,List.length_map] at ib
   rw [ib]
   have en:m+1 - 2*(grpF (eD d) k g S.1).length+1 - 2*(grpF (eD d) k g S.2).length=m+1+1 - 2*((grpF (eD d) k g S.1).length+(grpF (eD d) k g S.2).length):=by omega
   rw [en,List.map_append,Nat.add_assoc pre.length]
   simp only [List.append_assoc]
theorem clus_Group_is {d:List (List Int)} (h:OkD d) {k:Nat} (hk:1≤k) (hk2:k≤100) (l:List Int) (hl:Ris l):clus_Group d l (k:Int)=some ((groupF (eD d) k l,()),()):=by
 have h8:=hl.le8
 show clus_Group_T (clus_Group_L1 1099511627776 1099511627776) d l (k:Int)=_
 unfold clus_Group_T groupF
 by_cases hn:l=[]
 ·rw [ceqp (by rw [hn];rfl),if_pos hn]
 have:=List.length_pos_iff.2 hn
 rw [ceqn (by omega),if_neg hn,clus_Of_is h l (fun x hx=>hl.range hx) (by omega)]
 dsimp only [Option.bind_some]
 have f:=(grpF_fewer (D:=eD d) hk 8 l hl hn h8).1
 have key:∀ n m:Nat,20≤m→clus_Group_L1 n m d (k:Int) 0 [ofF (eD d) l]=some (((grpF (eD d) k 8 l).map (ofF (eD d)),()),()):=by
  intro n m hm
  obtain ⟨m,rfl⟩:∃ m',m=m'+1:=⟨m - 1,by omega⟩
  have e0:clus_Group_L1 n (m+1) d (k:Int) 0 [ofF (eD d) l]=clus_Group_L2 n (m+1) d (k:Int) ([]++ofF (eD d) l::[]) ((([]:List Cl).length:Nat):Int):=rfl
  rw [e0,group_walk n h hk hk2 8 l hl hn h8 (m+1) [] [] (by omega) (by simp;omega)]
  obtain ⟨q,hq⟩:∃ q,m+1+1 - 2*(grpF (eD d) k 8 l).length=q+1:=⟨m+1 - 2*(grpF (eD d) k 8 l).length,by omega⟩
  rw [hq,List.nil_append,List.append_nil]
  show clus_Group_B2 (clus_Group_L2 n q) d (k:Int) _ _=_
  unfold clus_Group_B2
  rw [cdn (by rw [List.length_map,List.length_nil];omega)]
 exact key _ _ (by omega)
theorem Clus.small {D:Int→Int→Int} {cs:List Cl} (h:Clus D cs):(∀ c∈cs,c.1.length≤1000000)∧cs.length≤1000000:=
 ⟨fun c hc=>by have:=(h.ris c hc).1.le8;omega,by have:=h.len_le;omega⟩
end Go.PE
