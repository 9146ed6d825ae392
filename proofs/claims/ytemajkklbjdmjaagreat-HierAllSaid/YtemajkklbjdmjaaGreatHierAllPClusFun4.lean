/-
  Plain lemmas on the functions.
  Conditions: none.
-/
import Derived.Test.YtemajkklbjdmjaaGreatHierAllPClusText
set_option linter.unusedVariables false
set_option linter.unusedSimpArgs false
set_option maxRecDepth 20000
namespace Go.PE
theorem indexFunc_Cluster_loop (n:Nat) (l:List Cl) (f:Cl × Unit→Option (Bool × Unit)) (p:Cl→Bool) (hf:∀ x∈l,f (x,())=some (p x,())) (h6:l.length≤1000000000):∀ (k m i:Nat),i+k=l.length→k<m →
  slices_IndexFunc_Cluster_L1 n m l f (l.length:Int) (i:Int)=some ((if i+(l.drop i).findIdx p<l.length then ((i+(l.drop i).findIdx p:Nat):Int) else -1,()),())
 | k,0,i,_,h=>by omega
 | 0,m+1,i,hk,h=>by
  show slices_IndexFunc_Cluster_B1 (slices_IndexFunc_Cluster_L1 n m) l f (l.length:Int) (i:Int)=_
  unfold slices_IndexFunc_Cluster_B1
  rw [cdn (by omega),List.drop_eq_nil_of_le (by omega),if_neg (by simp;omega)]
 | k+1,m+1,i,hk,h=>by
  have hi:i<l.length:=by omega
  have e:slices_IndexFunc_Cluster_L1 n (m+1) l f (l.length:Int) (i:Int)=bif p l[i] then some (((i:Int),()),()) else slices_IndexFunc_Cluster_L1 n m l f (l.length:Int) ((i+1:Nat):Int):=by
   show slices_IndexFunc_Cluster_B1 (slices_IndexFunc_Cluster_L1 n m) l f (l.length:Int) (i:Int)=_
   unfold slices_IndexFunc_Cluster_B1
   rw [cdp (by omega),cand,cdp (by omega),cdp (by omega),toNat_nat,getD_at hi,inext (by omega),hf _ (List.getElem_mem hi)]
   rfl
  rw [e,List.drop_eq_getElem_cons hi,List.findIdx_cons]
  cases hv:p l[i] with
  | true=>simp only [cond_true];rw [if_pos (by omega)];rfl
  | false=>
   simp only [cond_false]
   rw [indexFunc_Cluster_loop n l f p hf h6 k m (i+1) (by omega) (by omega)]
   have e2:i+1+(l.drop (i+1)).findIdx p=i+((l.drop (i+1)).findIdx p+1):=by omega
   rw [e2]
theorem indexFunc_Cluster (l:List Cl) (f:Cl × Unit→Option (Bool × Unit)) (p:Cl→Bool) (hf:∀ x∈l,f (x,())=some (p x,())) (h6:l.length≤1000000000):slices_IndexFunc_Cluster l f=some ((if l.findIdx p<l.length then ((l.findIdx p:Nat):Int) else -1,()),()):=by
 have:=indexFunc_Cluster_loop 1099511627776 l f p hf h6 l.length 1099511627776 0 (by omega) (by omega)
 rw [List.drop_zero,Nat.zero_add] at this
 exact this
theorem clus_find_is (cs:List Cl) (id:Int) (h:∀ c∈cs,c.1.length≤1000000) (h6:cs.length≤1000000):clus_find cs id=some ((homeF cs id,()),()):=by
 unfold clus_find
 rw [indexFunc_Cluster cs _ (fun c=>decide (id∈c.1)) (fun c hc=>?_) (by omega)]
 ·rfl
 ·unfold clus_find_fn1
  dsimp only
  rw [contains_int _ _ (by have:=h c hc;omega)];rfl
theorem bigOk_is {cs:List Cl} (h:∀ c∈cs,c.1.length≤1000000) (h6:cs.length≤1000000):bigOk cs=true:=by
 unfold bigOk
 rw [Bool.and_eq_true,nble_iff,List.all_eq_true]
 exact ⟨by omega,fun c hc=>nble_iff.2 (by have:=h c hc;omega)⟩
theorem hole_set {α:Type} (z:α):∀ (cs:List α) (i:Nat) (x:α),i<cs.length→allThere (List.set (List.set (List.map some cs) i none) i (some x))=true∧gets z (List.set (List.set (List.map some cs) i none) i (some x))=cs.set i x:=by
 have full:∀ (cs:List α),allThere (List.map some cs)=true∧gets z (List.map some cs)=cs:=by
  intro cs
  induction cs with
  | nil=>exact ⟨rfl,rfl⟩
  | cons c cs ih=>exact ⟨ih.1,congrArg (c::·) ih.2⟩
 intro cs i x hi
 have e:List.set (List.set (List.map some cs) i none) i (some x)=List.map some (cs.set i x):=by rw [List.set_set,List.map_set]
 rw [e]
 exact full _
theorem take_hole {α:Type} (cs:List α) (i:Nat) (x:α):List.take cs.length (List.set (List.set (List.map some cs) i none) i (some x))=List.set (List.set (List.map some cs) i none) i (some x):=
 List.take_of_length_le (by simp)
theorem homeF_idx {cs:List Cl} {id:Int} (h:0≤homeF cs id):idxF cs id<cs.length∧homeF cs id=(idxF cs id:Int):=by
 unfold homeF at h ⊢
 by_cases hc:idxF cs id<cs.length
 ·rw [if_pos hc];exact ⟨hc,rfl⟩
 ·rw [if_neg hc] at h;omega
theorem clus_Join_is {d:List (List Int)} (h:OkD d) {k:Nat} (hk:1≤k) (hk2:k≤100) (cs:List Cl) (hc:Clus (eD d) cs) (a id:Int) (h1:1≤id∧id≤8) :
  clus_Join d cs a id (k:Int)=some ((joinF (eD d) k cs a id,()),()):=by
 rw [clus_Join_text]
 have hs:=hc.small
 have hl8:=hc.len_le
 rw [ct (bigOk_is hs.1 hs.2)]
 unfold joinF
 by_cases hn:cs=[]
 ·subst hn
  rw [ceqp (x:=((([]:List Cl).length:Nat):Int)) (y:=0) rfl,if_pos rfl,clus_Of_is h [id] (fun x hx=>by rw [List.mem_singleton] at hx;subst hx;exact h1) (by simp)];rfl
 have:=List.length_pos_iff.2 hn
 rw [ceqn (by omega),if_neg hn]
 by_cases c1:a<0
 ·rw [cdp c1,if_pos (.inl c1)]
 rw [cdn c1]
 by_cases c2:(cs.length:Int)≤a
 ·rw [cdp (by omega),if_pos (.inr (.inl c2))]
 rw [cdn (by omega),clus_find_is cs id hs.1 hs.2]
 dsimp only [Option.bind_some]
 by_cases c3:0≤homeF cs id
 ·rw [cdp (by omega),if_pos (.inr (.inr c3))]
 rw [cdn (by omega),if_neg (by omega)]
 obtain ⟨i,rfl⟩:∃ i:Nat,a=i:=⟨a.toNat,by omega⟩
 have hi:i<cs.length:=by omega
 have hc0:=hc.ris _ (List.getElem_mem hi)
 have h8:=hc0.1.le8
 have hnid:id ∉ cs[i].1:=fun hx=>c3 (homeF_pos.2 ⟨_,List.getElem_mem hi,hx⟩)
 have e0:List.getD cs i ([],0)=cs[i]:=getD_at hi _
 have e1:List.getD cs i zc=cs[i]:=getD_at hi _
 have hh:=hole_set ([],0) cs i (ofF (eD d) (rising (cs[i].1++[id]))) hi
 rw [toNat_nat,e0,e1]
 rw [ct (show takeAt (i:Int) cs=true by unfold takeAt;simp only [Bool.and_eq_true,decide_eq_true_eq];omega),cbp (by omega)]
 rw [sort_rising (cs[i].1++[id]) (fun x hx=>by
  rcases List.mem_append.1 hx with hx | hx
  ·exact hc0.1.range hx
  ·rw [List.mem_singleton] at hx;subst hx;exact h1) (by
  rw [List.nodup_append]
  refine ⟨hc0.1.nodup,by simp,fun x hx y hy=>?_⟩
  rw [List.mem_singleton] at hy;subst hy
  exact fun e=>hnid (e▸hx)) (by rw [List.length_append,List.length_singleton];omega)]
 dsimp only [Option.bind_some]
 rw [clus_Of_is h _ (fun x hx=>(ris_rising _).range hx) (by have:=(ris_rising (cs[i].1++[id])).le8;omega)]
 dsimp only [Option.bind_some]
 rw [take_hole,hh.1,hh.2,ct (by simp only [Bool.and_eq_true,decide_eq_true_eq];omega),ct (by simp only [Bool.and_eq_true,decide_eq_true_eq,nble_iff,List.length_set,List.length_map,and_true];omega)]
 have hi':i<(cs.set i (ofF (eD d) (rising (cs[i].1++[id])))).length:=by simpa using hi
 rw [clus_cut_is h hk hk2 _ (by rw [List.length_set];omega) i hi' (by rw [List.getElem_set_self];exact ris_rising _)]
 rfl
theorem clus_leaders_loop (n:Nat) (cs:List Cl) (h6:cs.length≤1000000) (i:Nat):∀ (k m j:Nat) (acc:List Int),j+k=cs.length→k<m→acc.length≤j →
  clus_leaders_L1 n m (i:Int) cs (cs.length:Int) (j:Int) acc=some ((acc++(if i<j then (cs.drop j).map (·.2) else ((cs.drop j).eraseIdx (i - j)).map (·.2)),()),())
 | k,0,j,acc,_,h,_=>by omega
 | 0,m+1,j,acc,hk,hm,ha=>by
  show clus_leaders_B1 (clus_leaders_L1 n m) (i:Int) cs (cs.length:Int) (j:Int) acc=_
  unfold clus_leaders_B1
  rw [cdn (by omega),List.drop_eq_nil_of_le (by omega)];simp
 | k+1,m+1,j,acc,hk,hm,ha=>by
  show clus_leaders_B1 (clus_leaders_L1 n m) (i:Int) cs (cs.length:Int) (j:Int) acc=_
  have hj:j<cs.length:=by omega
  unfold clus_leaders_B1
  rw [cdp (by omega),cand,cdp (by omega),cdp (by omega),toNat_nat,inext (by omega)]
  have e0:List.getD cs j ([],0)=cs[j]:=getD_at hj _
  rw [e0,List.drop_eq_getElem_cons hj]
  by_cases hij:j=i
  ·subst hij
   rw [cnen rfl,clus_leaders_loop n cs h6 j k m (j+1) acc (by omega) (by omega) (by omega),if_pos (by omega),if_neg (by omega),Nat.sub_self];rfl
  ·rw [cnep (by omega),cbp (by omega),clus_leaders_loop n cs h6 i k m (j+1) _ (by omega) (by omega) (by rw [List.length_append,List.length_singleton];omega),List.append_assoc]
   congr 4
   by_cases h1:i<j
   ·rw [if_pos (by omega),if_pos h1];rfl
   ·rw [if_neg (by omega),if_neg h1]
    obtain ⟨q,hq⟩:∃ q,i - j=q+1:=⟨i - j - 1,by omega⟩
    have:i - (j+1)=q:=by omega
    rw [hq,this];rfl
theorem clus_leaders_is (cs:List Cl) (h6:cs.length≤1000000) (i:Nat):clus_leaders cs (i:Int)=some (((cs.eraseIdx i).map (·.2),()),()):=by
 have:=clus_leaders_loop 1099511627776 cs h6 i cs.length 1099511627776 0 [] (by omega) (by omega) (by simp)
 rw [List.drop_zero,List.nil_append,if_neg (by omega),Nat.sub_zero] at this
 exact this
theorem delete_full (cs:List Cl) (j:Nat) (hj:j<cs.length) (h6:cs.length≤1000000):slices_Delete_Cluster (List.map some cs) (j:Int) (IntKind.wrap .i64 ((j:Int)+1))=some ((cs.eraseIdx j,()),()):=by
 unfold slices_Delete_Cluster deleteHR
 rw [inext (by omega),ct (by simp only [Bool.and_eq_true,decide_eq_true_eq,List.length_map];omega),toNat_nat,toNat_nat]
 have:List.take j (List.map some cs)++List.drop (j+1) (List.map some cs)=List.map some (cs.eraseIdx j):=by
  rw [List.eraseIdx_eq_take_drop_succ,List.map_append,List.map_take,List.map_drop]
 rw [this,allSome_map];rfl
theorem delete_hole (cs:List Cl) (j:Nat) (hj:j<cs.length) (h6:cs.length≤1000000):slices_Delete_Cluster (padN cs.length (List.set (List.map some cs) j none)) (j:Int) (IntKind.wrap .i64 ((j:Int)+1))=some ((cs.eraseIdx j,()),()):=by
 rw [padN_eq (by simp)]
 unfold slices_Delete_Cluster deleteHR
 rw [inext (by omega),ct (by simp only [Bool.and_eq_true,decide_eq_true_eq,List.length_map,List.length_set];omega),toNat_nat,toNat_nat]
 have:List.take j (List.set (List.map some cs) j none)++List.drop (j+1) (List.set (List.map some cs) j none)=List.map some (cs.eraseIdx j):=by
  rw [List.eraseIdx_eq_take_drop_succ,List.map_append,List.map_take,List.map_drop,List.take_set_of_le (by omega),List.drop_set,if_pos (by omega)]
 rw [this,allSome_map];rfl
theorem Clus.lead_idx {D:Int→Int→Int} {cs:List Cl} (h:Clus D cs) {i:Nat} (hi:i<cs.length):cs.findIdx (fun c=>c.2==cs[i].2)=i:=by
 rw [List.findIdx_eq hi]
 refine ⟨beq_self_eq_true _,fun j hj=>?_⟩
 rw [beq_eq_false_iff_ne]
 intro e
 have h1:=Clus.midIn (h.ris _ (List.getElem_mem hi))
 have h2:=Clus.midIn (h.ris _ (List.getElem_mem (show j<cs.length by omega)))
 rw [e] at h2
 have:=h.two (by omega) hi h2 h1
 omega
theorem clus_Leave_is {d:List (List Int)} (h:OkD d) {k:Nat} (hk:1≤k) (hk2:k≤100) (cs:List Cl) (hc:Clus (eD d) cs) (id:Int) :
  clus_Leave d cs id (k:Int)=some ((leaveF (eD d) k cs id,()),()):=by
 rw [clus_Leave_text]
 have hs:=hc.small
 have hl8:=hc.len_le
 rw [ct (bigOk_is hs.1 hs.2),clus_find_is cs id hs.1 hs.2]
 dsimp only [Option.bind_some]
 unfold leaveF
 dsimp only
 by_cases c1:homeF cs id<0
 ·have:¬ idxF cs id<cs.length:=fun hx=>by have:=homeF_pos.2 (idxF_lt.1 hx);omega
  rw [cdp c1,if_pos this]
 obtain ⟨hi,hh⟩:=homeF_idx (cs:=cs) (id:=id) (by omega)
 rw [cdn c1,if_neg (fun hn=>hn hi),hh]
 have hid:=idxF_mem hi
 generalize idxF cs id=i at *
 have hc0:=hc.ris _ (List.getElem_mem hi)
 have h8:=hc0.1.le8
 have e0:List.getD cs i ([],0)=cs[i]:=getD_at hi _
 have e1:List.getD cs i zc=cs[i]:=getD_at hi _
 rw [toNat_nat,e0,e1,ct (show takeAt (i:Int) cs=true by unfold takeAt;simp only [Bool.and_eq_true,decide_eq_true_eq];omega)]
 have ed:slices_DeleteFunc_int cs[i].1 (fun x=>(clus_Leave_fn1 x.1 id).bind fun r=>some (r.1.1,()))=some ((cs[i].1.filter (fun x=>x != id),()),()):=deleteFunc_int cs[i].1 _ (fun x=>x==id) (fun x _=>rfl) (by omega)
 rw [ed]
 dsimp only [Option.bind_some]
 have hrl:=hc0.1.filter (fun x=>x != id)
 have hlle:(cs[i].1.filter (fun x=>x != id)).length≤8:=Nat.le_trans (List.length_filter_le ..) h8
 have hsub:∀ x∈cs[i].1.filter (fun x=>x != id),x∈cs[i].1:=fun x hx=>(List.mem_filter.1 hx).1
 obtain ⟨g1,g2,g3⟩:=hc.at hi
 generalize cs[i].1.filter (fun x=>x != id)=l at *
 by_cases hl0:l=[]
 ·subst hl0
  rw [ceqp (x:=((([]:List Int).length:Nat):Int)) (y:=0) rfl,if_pos rfl,delete_hole cs i hi (by omega)];rfl
 have hlp:=List.length_pos_iff.2 hl0
 rw [ceqn (by omega),if_neg hl0,clus_Of_is h l (fun x hx=>hrl.range hx) (by omega)]
 dsimp only [Option.bind_some]
 have hh2:=hole_set ([],0) cs i (ofF (eD d) l) hi
 rw [take_hole,hh2.1,hh2.2,ct (by simp only [Bool.and_eq_true,decide_eq_true_eq];omega),ct (by simp only [Bool.and_eq_true,decide_eq_true_eq,nble_iff,List.length_set,List.length_map,and_true];omega)]
 have hC1:Clus (eD d) (cs.set i (ofF (eD d) l)):=(Clus.cons.2 ⟨ofF_ok hrl hl0,fun x hx hy=>g2 x (hsub x hx) hy,g3⟩).perm (perm_set hi (ofF (eD d) l)).symm
 have hl1:(cs.set i (ofF (eD d) l)).length=cs.length:=by simp
 by_cases c2:k≤l.length
 ·rw [cdp (by omega),if_pos (.inl c2)]
 rw [cdn (by omega)]
 by_cases c3:(cs.set i (ofF (eD d) l)).length<2
 ·rw [cdp (by omega),if_pos (.inr c3)]
 rw [cdn (by omega),if_neg (by omega)]
 have ha1:∀ z:Cl,List.getD (cs.set i (ofF (eD d) l)) i z=ofF (eD d) l:=fun z=>by rw [getD_at (by omega),List.getElem_set_self]
 have he1:(cs.set i (ofF (eD d) l)).eraseIdx i=cs.eraseIdx i:=List.eraseIdx_set_eq
 have hat:∀ hq,(cs.set i (ofF (eD d) l))[i]'hq=ofF (eD d) l:=fun hq=>List.getElem_set_self ..
 have hi1:i<(cs.set i (ofF (eD d) l)).length:=by omega
 generalize cs.set i (ofF (eD d) l)=cs1 at *
 rw [ct (by simp only [Bool.and_eq_true,decide_eq_true_eq];omega),ct (by simp only [Bool.and_eq_true,decide_eq_true_eq];omega),clus_leaders_is cs1 (by omega) i]
 dsimp only [Option.bind_some]
 have hml:=midF_mem (D:=eD d) (l:=l) (fun x hx=>by have:=hrl.range hx;omega) hl0
 have hlead:∀ x∈(cs1.eraseIdx i).map (·.2),1≤x∧x≤8:=fun x hx=>by
  obtain ⟨c,hcm,rfl⟩:=List.mem_map.1 hx
  exact (hC1.ris c (List.mem_of_mem_eraseIdx hcm)).1.range (Clus.midIn (hC1.ris c (List.mem_of_mem_eraseIdx hcm)))
 rw [ha1,mid_Near_is h (show 1≤(ofF (eD d) l).2∧(ofF (eD d) l).2≤8 from hrl.range hml) _ hlead (by rw [List.length_map,List.length_eraseIdx];split<;>omega)]
 dsimp only [Option.bind_some]
 have hnear:nearF (eD d) (midF (eD d) l) ((cs1.eraseIdx i).map (·.2))∈(cs1.eraseIdx i).map (·.2):=by
  have hpos:0<(cs1.eraseIdx i).length:=by rw [List.length_eraseIdx,if_pos hi1];omega
  obtain ⟨c,hcm⟩:=List.exists_mem_of_length_pos hpos
  refine (nearF_mem (fun x hx=>by have:=hlead x hx;omega) (List.mem_map_of_mem hcm) (fun e=>?_)).1
  have h2:=Clus.midIn (hC1.ris c (List.mem_of_mem_eraseIdx hcm))
  rw [e] at h2
  rw [he1] at hcm
  exact g2 _ (hsub _ hml) ⟨c,hcm,h2⟩
 show (Option.bind (slices_IndexFunc_Cluster cs1 (fun x=>(clus_Leave_fn2 x.1 (nearF (eD d) (midF (eD d) l) ((cs1.eraseIdx i).map (·.2)))).bind fun r=>some (r.1.1,()))) _)=_
 generalize nearF (eD d) (midF (eD d) l) ((cs1.eraseIdx i).map (·.2))=near at *
 obtain ⟨c0,hc0m,rfl⟩:=List.mem_map.1 hnear
 obtain ⟨j0,hj0,hj0e⟩:=List.getElem_of_mem (List.mem_of_mem_eraseIdx hc0m)
 have hm0:c0.2∈c0.1:=Clus.midIn (hC1.ris c0 (List.mem_of_mem_eraseIdx hc0m))
 have hidx:idxF cs1 c0.2=j0:=hC1.idx hj0 (by rw [hj0e];exact hm0)
 have hfi:cs1.findIdx (fun c=>c.2==c0.2)=j0:=by
  have:=hC1.lead_idx hj0
  rw [hj0e] at this;exact this
 have hji:j0≠i:=fun e=>by
  subst e
  have h2:=hat hj0
  rw [hj0e] at h2
  rw [he1] at hc0m
  rw [h2] at hm0 hc0m
  exact g2 (midF (eD d) l) (hsub _ hml) ⟨_,hc0m,hml⟩
 rw [indexFunc_Cluster cs1 _ (fun c=>c.2==c0.2) (fun c _=>rfl) (by omega),hfi,if_pos hj0,hidx]
 dsimp only [Option.bind_some]
 have hcj:=hC1.ris _ (List.getElem_mem hj0)
 have hcj8:=hcj.1.le8
 have e2:List.getD cs1 j0 ([],0)=cs1[j0]:=getD_at hj0 _
 have e3:List.getD cs1 j0 zc=cs1[j0]:=getD_at hj0 _
 rw [cdn (by omega),ceqn (by omega),toNat_nat,e2,e3,ct (by simp only [Bool.and_eq_true,decide_eq_true_eq];omega),ct (by simp only [Bool.and_eq_true,decide_eq_true_eq];omega),cbp (by omega)]
 have happ:∀ x,x∈l→x ∉ cs1[j0].1:=fun x hx hy=>by
  have:c0∈cs.eraseIdx i:=by rw [he1] at hc0m;exact hc0m
  rw [hj0e] at hy
  exact g2 x (hsub x hx) ⟨c0,this,hy⟩
 have hrall:∀ x∈l++cs1[j0].1,1≤x∧x≤8:=fun x hx=>(List.mem_append.1 hx).elim (fun hx=>hrl.range hx) (fun hx=>hcj.1.range hx)
 rw [sort_rising (l++cs1[j0].1) hrall (List.nodup_append.2 ⟨hrl.nodup,hcj.1.nodup,fun x hx y hy e=>happ x hx (e▸hy)⟩) (by
  rw [List.length_append]
  have t1:=(hC1.perm (perm_erase hj0)).total_le
  have t2:=total_at (cs:=cs1.eraseIdx j0) (i:=if j0<i then i - 1 else i) (by rw [List.length_eraseIdx,if_pos hj0];split<;>omega)
  rw [total_cons] at t1
  have:(cs1.eraseIdx j0)[if j0<i then i - 1 else i]'(by rw [List.length_eraseIdx,if_pos hj0];split<;>omega)=ofF (eD d) l:=by
   rw [List.getElem_eraseIdx]
   by_cases g:j0<i
   ·simp only [if_pos g]
    rw [dif_neg (by omega)]
    have:i - 1+1=i:=by omega
    simp only [this];exact hat _
   ·simp only [if_neg g]
    rw [dif_pos (by omega)];exact hat _
  rw [this] at t2
  have:(ofF (eD d) l).1.length=l.length:=rfl
  omega)]
 dsimp only [Option.bind_some]
 have hRall:Ris (rising (l++cs1[j0].1)):=ris_rising _
 have hall:∀ x,x∈rising (l++cs1[j0].1)↔x∈l∨x∈cs1[j0].1:=fun x=>by
  rw [mem_rising,List.mem_append]
  exact ⟨fun h=>h.2,fun h=>⟨hrall x (List.mem_append.2 h),h⟩⟩
 have hRall8:=hRall.le8
 rw [clus_Of_is h _ (fun x hx=>hRall.range hx) (by omega)]
 dsimp only [Option.bind_some]
 rw [ct (by simp only [Bool.and_eq_true,decide_eq_true_eq];omega),ct (by simp only [Bool.and_eq_true,decide_eq_true_eq];omega)]
 rw [delete_full (cs1.set i (ofF (eD d) (rising (l++cs1[j0].1)))) j0 (by rw [List.length_set];exact hj0) (by rw [List.length_set];omega)]
 dsimp only [Option.bind_some]
 have hse:∀ x,(cs1.set i x).eraseIdx j0=(cs1.eraseIdx j0).set (if j0<i then i - 1 else i) x:=fun x=>by
  by_cases g:j0<i
  ·rw [if_pos g,List.eraseIdx_set_lt g]
  ·rw [if_neg g,List.eraseIdx_set_gt (by omega)]
 have hi2:(if j0<i then i - 1 else i)<(cs1.eraseIdx j0).length:=by
  rw [List.length_eraseIdx,if_pos hj0];split<;>omega
 have hat2:(cs1.eraseIdx j0)[if j0<i then i - 1 else i]=ofF (eD d) l:=by
  rw [List.getElem_eraseIdx]
  by_cases g:j0<i
  ·simp only [if_pos g]
   rw [dif_neg (by omega)]
   have:i - 1+1=i:=by omega
   simp only [this];exact hat _
  ·simp only [if_neg g]
   rw [dif_pos (by omega)];exact hat _
 obtain ⟨o1,o2,o3⟩:=hC1.at hj0
 rw [hse]
 generalize (if j0<i then i - 1 else i)=i2 at *
 obtain ⟨q1,q2,q3⟩:=o3.at hi2
 rw [hat2] at q1 q2
 have hother:∀ x,x∈cs1[j0].1→¬ isIn ((cs1.eraseIdx j0).eraseIdx i2) x:=fun x hx=>by
  have:=o2 x hx
  rw [isIn_at hi2,hat2] at this
  exact fun h=>this (.inr h)
 have hne:rising (l++cs1[j0].1)≠[]:=fun e=>by
  obtain ⟨z,hz⟩:=List.exists_mem_of_length_pos hlp
  have:=(hall z).2 (.inl hz)
  rw [e] at this;cases this
 have hC2:Clus (eD d) ((cs1.eraseIdx j0).set i2 (ofF (eD d) (rising (l++cs1[j0].1)))):=(Clus.cons.2 ⟨ofF_ok hRall hne,fun x hx hy=>by
   rcases (hall x).1 hx with hx | hx
   ·exact q2 x hx hy
   ·exact hother x hx hy,q3⟩).perm (perm_set hi2 _).symm
 have hi3:i2<((cs1.eraseIdx j0).set i2 (ofF (eD d) (rising (l++cs1[j0].1)))).length:=by simpa using hi2
 have hat3:((cs1.eraseIdx j0).set i2 (ofF (eD d) (rising (l++cs1[j0].1))))[i2]=ofF (eD d) (rising (l++cs1[j0].1)):=List.getElem_set_self ..
 have hs2:=hC2.small
 have hl2:=hC2.len_le
 have hp:=List.length_pos_iff.2 hne
 have hx0:List.getD (rising (l++cs1[j0].1)) 0 0∈rising (l++cs1[j0].1):=by
  rw [getD_at hp];exact List.getElem_mem hp
 rw [ct (by simp only [Bool.and_eq_true,decide_eq_true_eq];omega),ct (by simp only [Bool.and_eq_true,decide_eq_true_eq];omega),clus_find_is _ _ hs2.1 hs2.2]
 dsimp only [Option.bind_some]
 have hfin:homeF ((cs1.eraseIdx j0).set i2 (ofF (eD d) (rising (l++cs1[j0].1)))) (List.getD (rising (l++cs1[j0].1)) 0 0)=(i2:Int):=by
  unfold homeF
  have:idxF ((cs1.eraseIdx j0).set i2 (ofF (eD d) (rising (l++cs1[j0].1)))) (List.getD (rising (l++cs1[j0].1)) 0 0)=i2:=hC2.idx hi3 (by rw [hat3];exact hx0)
  rw [this,if_pos hi3]
 rw [hfin,clus_cut_is h hk hk2 _ (by omega) i2 hi3 (by rw [hat3];exact hRall)]
 rfl
end Go.PE
