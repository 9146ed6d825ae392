/-
  Plain lemmas on the functions.
  Conditions: none.
-/
import Derived.Test.YtemajkklbjdmjaaGreatHierAllPClusRefG
set_option linter.unusedVariables false
set_option linter.unusedSimpArgs false
set_option maxRecDepth 20000
namespace Go.PE
theorem ref_Home_loop (n:Nat) (cs:List Cl) (id:Int) (h:∀ c∈cs,c.1.length≤1000000) (h6:cs.length≤1000000):∀ (k m i:Nat),i+k=cs.length→k<m →
  pleachref7_Home_L1 n m cs id (i:Int)=some ((if i+(cs.drop i).findIdx (fun c=>decide (id∈c.1))<cs.length then ((i+(cs.drop i).findIdx (fun c=>decide (id∈c.1)):Nat):Int) else -1,()),())
 | k,0,i,_,h=>by omega
 | 0,m+1,i,hk,hm=>by
  show pleachref7_Home_B1 (pleachref7_Home_L1 n m) cs id (i:Int)=_
  unfold pleachref7_Home_B1
  rw [cdn (by omega),List.drop_eq_nil_of_le (by omega),if_neg (by simp;omega)]
 | k+1,m+1,i,hk,hm=>by
  show pleachref7_Home_B1 (pleachref7_Home_L1 n m) cs id (i:Int)=_
  have hi:i<cs.length:=by omega
  have hc:=h _ (List.getElem_mem hi)
  have e0:List.getD cs i ([],0)=cs[i]:=getD_at hi _
  unfold pleachref7_Home_B1
  rw [cdp (by omega),cand,cdp (by omega),cdp (by omega),toNat_nat,e0,has_eq _ _ (by omega),inext (by omega),List.drop_eq_getElem_cons hi,List.findIdx_cons]
  dsimp only [Option.bind_some]
  cases hv:decide (id∈cs[i].1) with
  | true=>simp only [cond_true];rw [if_pos (by omega)];rfl
  | false=>
   simp only [cond_false]
   rw [ref_Home_loop n cs id h h6 k m (i+1) (by omega) (by omega)]
   have e2:i+1+(cs.drop (i+1)).findIdx (fun c=>decide (id∈c.1))=i+((cs.drop (i+1)).findIdx (fun c=>decide (id∈c.1))+1):=by omega
   rw [e2]
theorem ref_Home_is (cs:List Cl) (id:Int) (h:∀ c∈cs,c.1.length≤1000000) (h6:cs.length≤1000000):pleachref7_Home cs id=some ((homeF cs id,()),()):=by
 have:=ref_Home_loop 1099511627776 cs id h h6 cs.length 1099511627776 0 (by omega) (by omega)
 rw [List.drop_zero,Nat.zero_add] at this
 exact this
theorem ref_cut {d:List (List Int)} (h:OkD d) {k:Nat} (hk:1≤k) (hk2:k≤100) (cs:List Cl) (hl:cs.length≤1000) (i:Nat) (hi:i<cs.length) (hr:Ris cs[i].1) {α:Type} (f:List Cl→α) (b:Bool) (hb:b=decide (3*k - 1<cs[i].1.length)) :
  (bif b then Option.bind (pleachref7_parted d cs (i:Int) (k:Int)) fun (r5:((List ((List Int) × Int)) × Unit) × Unit)=>some (f r5.1.1)
   else some (f cs))=some (f (cutF (eD d) k cs i)):=by
 have e1:List.getD cs i zc=cs[i]:=getD_at hi _
 unfold cutF
 rw [hb,e1]
 by_cases h1:cs[i].1.length≤3*k - 1
 ·rw [cdn (by omega),if_pos h1]
 ·rw [cdp (by omega),if_neg h1,ref_parted_is h hk hk2 cs hl i hi hr (by omega)];rfl
theorem cut_cond {k:Nat} (hk:1≤k) (hk2:k≤100) {cs:List Cl} {i:Nat} (hi:i<cs.length):((List.getD cs i ([],0)).1.length:Int)>IntKind.wrap .i64 ((IntKind.wrap .i64 (3*(k:Int))) - 1)↔3*k - 1<cs[i].1.length:=by
 have e1:List.getD cs i ([],0)=cs[i]:=getD_at hi _
 have hw:IntKind.wrap .i64 ((IntKind.wrap .i64 (3*(k:Int))) - 1)=((3*k - 1:Nat):Int):=by rw [wi64 (x:=3*(k:Int)) (by omega) (by omega),wi64 (by omega) (by omega)];omega
 rw [e1,hw];omega
theorem ref_JoinClus_is {d:List (List Int)} (h:OkD d) {k:Nat} (hk:1≤k) (hk2:k≤100) (cs:List Cl) (hc:Clus (eD d) cs) (a id:Int) (h1:1≤id∧id≤8) :
  pleachref7_JoinClus d cs a id (k:Int)=some ((joinF (eD d) k cs a id,()),()):=by
 have hs:=hc.small
 have hl8:=hc.len_le
 unfold pleachref7_JoinClus joinF
 rw [cbp (by omega)]
 by_cases hn:cs=[]
 ·subst hn
  rw [ceqp (x:=((([]:List Cl).length:Nat):Int)) (y:=0) rfl,if_pos rfl,ref_Of_is h [id] (fun x hx=>by rw [List.mem_singleton] at hx;subst hx;exact h1) (by simp)];rfl
 have:=List.length_pos_iff.2 hn
 rw [ceqn (by omega),if_neg hn]
 simp only [List.nil_append]
 by_cases c1:a<0
 ·rw [cdp c1,if_pos (.inl c1)]
 rw [cdn c1]
 by_cases c2:(cs.length:Int)≤a
 ·rw [cdp (by omega),if_pos (.inr (.inl c2))]
 rw [cdn (by omega),ref_Home_is cs id hs.1 hs.2]
 dsimp only [Option.bind_some]
 by_cases c3:0≤homeF cs id
 ·rw [cdp (by omega),if_pos (.inr (.inr c3))]
 rw [cdn (by omega),if_neg (by omega)]
 obtain ⟨i,rfl⟩:∃ i:Nat,a=i:=⟨a.toNat,by omega⟩
 have hi:i<cs.length:=by omega
 have hc0:=hc.ris _ (List.getElem_mem hi)
 have h8:=hc0.1.le8
 have e0:List.getD cs i ([],0)=cs[i]:=getD_at hi _
 have e1:List.getD cs i zc=cs[i]:=getD_at hi _
 rw [toNat_nat,e0,e1,ct (by simp only [Bool.and_eq_true,decide_eq_true_eq];omega),cbp (by omega),cbp (by omega),ref_Rising_is _ (by rw [List.length_append,List.length_singleton];omega)]
 dsimp only [Option.bind_some]
 have hR:Ris (rising (cs[i].1++[id])):=ris_rising _
 have hR8:=hR.le8
 rw [ref_Of_is h _ (fun x hx=>hR.range hx) (by omega)]
 dsimp only [Option.bind_some]
 have hi':i<(cs.set i (ofF (eD d) (rising (cs[i].1++[id])))).length:=by simpa using hi
 rw [ct (by simp only [Bool.and_eq_true,decide_eq_true_eq];omega),ct (by simp only [Bool.and_eq_true,decide_eq_true_eq];omega),ct (by simp only [Bool.and_eq_true,decide_eq_true_eq];omega),ct (by simp only [Bool.and_eq_true,decide_eq_true_eq];omega)]
 exact ref_cut h hk hk2 (cs.set i (ofF (eD d) (rising (cs[i].1++[id])))) (by rw [List.length_set];omega) i hi' (by rw [List.getElem_set_self];exact hR) (fun x=>((x,()),())) _ (decide_eq_decide.2 (cut_cond hk hk2 hi'))
theorem some_take (cs:List Cl) (j:Nat) (hj:j≤cs.length):allSome (List.take (cs.length - j) (List.drop j (List.map some cs)))=some (cs.drop j):=by
 rw [← List.map_drop,List.take_of_length_le (by rw [List.length_map,List.length_drop];omega),allSome_map]
theorem ref_Leave_loop (n:Nat) (F:List Int→Option (((List Cl) × Unit) × Unit)) (d:List (List Int)) (k:Int) (i:Nat) (cs:List Cl) (l:List Int) (h6:cs.length≤1000000)
  (hF:∀ m acc,pleachref7_LeaveClus_B1 (pleachref7_LeaveClus_L1 n m) d k (i:Int) (cs.length:Int) cs l acc=F acc):∀ (c m j:Nat) (acc:List Int),j+c=cs.length→c<m→acc.length≤j →
  pleachref7_LeaveClus_L1 n m d k (i:Int) (j:Int) cs l acc=F (acc++(if i<j then (cs.drop j).map (·.2) else ((cs.drop j).eraseIdx (i - j)).map (·.2)))
 | c,0,j,acc,_,h,_=>by omega
 | 0,m+1,j,acc,hk,hm,ha=>by
  show pleachref7_LeaveClus_B1 (pleachref7_LeaveClus_L1 n m) d k (i:Int) (j:Int) cs l acc=_
  have:j=cs.length:=by omega
  subst this
  rw [hF,List.drop_eq_nil_of_le (by omega)];simp
 | c+1,m+1,j,acc,hk,hm,ha=>by
  show pleachref7_LeaveClus_B1 (pleachref7_LeaveClus_L1 n m) d k (i:Int) (j:Int) cs l acc=_
  have hj:j<cs.length:=by omega
  unfold pleachref7_LeaveClus_B1
  rw [cdp (by omega),toNat_nat,inext (by omega)]
  have e0:List.getD cs j ([],0)=cs[j]:=getD_at hj _
  rw [e0,List.drop_eq_getElem_cons hj]
  by_cases hij:j=i
  ·subst hij
   rw [cnen rfl,ref_Leave_loop n F d k j cs l h6 hF c m (j+1) acc (by omega) (by omega) (by omega),if_pos (by omega),if_neg (by omega),Nat.sub_self];rfl
  ·rw [cnep (by omega),ct (by simp only [Bool.and_eq_true,decide_eq_true_eq];omega),ct (by simp only [Bool.and_eq_true,decide_eq_true_eq];omega),cbp (by omega),ref_Leave_loop n F d k i cs l h6 hF c m (j+1) _ (by omega) (by omega) (by rw [List.length_append,List.length_singleton];omega),List.append_assoc]
   congr 2
   by_cases h1:i<j
   ·rw [if_pos (by omega),if_pos h1];rfl
   ·rw [if_neg (by omega),if_neg h1]
    obtain ⟨q,hq⟩:∃ q,i - j=q+1:=⟨i - j - 1,by omega⟩
    have:i - (j+1)=q:=by omega
    rw [hq,this];rfl
theorem ref_LeaveClus_is {d:List (List Int)} (h:OkD d) {k:Nat} (hk:1≤k) (hk2:k≤100) (cs:List Cl) (hc:Clus (eD d) cs) (id:Int) :
  pleachref7_LeaveClus d cs id (k:Int)=some ((leaveF (eD d) k cs id,()),()):=by
 have hs:=hc.small
 have hl8:=hc.len_le
 show pleachref7_LeaveClus_T (pleachref7_LeaveClus_L1 1099511627776 1099511627776) d cs id (k:Int)=_
 unfold pleachref7_LeaveClus_T
 rw [ref_Home_is cs id hs.1 hs.2]
 dsimp only [Option.bind_some]
 unfold leaveF
 dsimp only
 rw [cbp (by omega)]
 simp only [List.nil_append,Int.sub_zero,Nat.zero_add]
 by_cases c1:homeF cs id<0
 ·have:¬ idxF cs id<cs.length:=fun hx=>by have:=homeF_pos.2 (idxF_lt.1 hx);omega
  rw [cdp c1,if_pos this]
 obtain ⟨hi,hh⟩:=homeF_idx (cs:=cs) (id:=id) (by omega)
 rw [cdn c1,if_neg (fun hn=>hn hi),hh]
 have hid:=idxF_mem hi
 generalize idxF cs id=i at *
 have hc0:=hc.ris _ (List.getElem_mem hi)
 have h8:=hc0.1.le8
 have e0:List.getD cs i ([],0)=cs[i]:=getD_at hi _
 have e1:List.getD cs i zc=cs[i]:=getD_at hi _
 rw [toNat_nat,e0,e1,ct (by simp only [Bool.and_eq_true,decide_eq_true_eq];omega),ref_without_is _ _ (by omega)]
 dsimp only [Option.bind_some]
 have hrl:=hc0.1.filter (fun x=>x != id)
 have hlle:(cs[i].1.filter (fun x=>x != id)).length≤8:=Nat.le_trans (List.length_filter_le ..) h8
 have hsub:∀ x∈cs[i].1.filter (fun x=>x != id),x∈cs[i].1:=fun x hx=>(List.mem_filter.1 hx).1
 obtain ⟨g1,g2,g3⟩:=hc.at hi
 generalize cs[i].1.filter (fun x=>x != id)=l at *
 by_cases hl0:l=[]
 ·subst hl0
  rw [ceqp (x:=((([]:List Int).length:Nat):Int)) (y:=0) rfl,if_pos rfl,inext (by omega),toNat_nat]
  have n1:((cs.length:Int) - ((i+1:Nat):Int)).toNat=cs.length - (i+1):=by omega
  rw [n1]
  rw [ct (by simp only [Bool.and_eq_true,decide_eq_true_eq,List.length_map];omega),ct (by simp only [Bool.and_eq_true,decide_eq_true_eq,List.length_map];omega),cbp (by rw [List.length_map];omega),cbp (by rw [List.length_map];omega),some_take cs (i+1) (by omega)]
  dsimp only [Option.bind_some]
  have ld:(cs.drop (i+1)).length=cs.length - (i+1):=List.length_drop ..
  have lw:(writeAt (List.map some cs) i (cs.drop (i+1))).length=cs.length:=by rw [length_writeAt (by rw [List.length_map];omega),List.length_map]
  rw [cbp (by rw [List.length_map];omega),cbp (by omega)]
  have e2:List.take (i+(cs.drop (i+1)).length) (writeAt (List.map some cs) i (cs.drop (i+1)))=List.map some (cs.eraseIdx i):=by
   unfold writeAt
   rw [List.take_append_of_le_length (by simp;omega),List.take_of_length_le (by simp;omega),List.eraseIdx_eq_take_drop_succ,List.map_append,List.map_take]
  rw [e2,allSome_map];rfl
 have hlp:=List.length_pos_iff.2 hl0
 rw [ceqn (by omega),if_neg hl0,ref_Of_is h l (fun x hx=>hrl.range hx) (by omega)]
 dsimp only [Option.bind_some]
 rw [ct (by simp only [Bool.and_eq_true,decide_eq_true_eq];omega),ct (by simp only [Bool.and_eq_true,decide_eq_true_eq];omega)]
 have hC1:Clus (eD d) (cs.set i (ofF (eD d) l)):=(Clus.cons.2 ⟨ofF_ok hrl hl0,fun x hx hy=>g2 x (hsub x hx) hy,g3⟩).perm (perm_set hi (ofF (eD d) l)).symm
 have hl1:(cs.set i (ofF (eD d) l)).length=cs.length:=by simp
 by_cases c2:k≤l.length
 ·rw [cdp (by omega),if_pos (.inl c2)]
 rw [cdn (by omega)]
 by_cases c3:(cs.set i (ofF (eD d) l)).length<2
 ·rw [ceqp (by omega),if_pos (.inr c3)]
 rw [ceqn (by omega),if_neg (by omega)]
 have ha1:∀ z:Cl,List.getD (cs.set i (ofF (eD d) l)) i z=ofF (eD d) l:=fun z=>by rw [getD_at (by omega),List.getElem_set_self]
 have he1:(cs.set i (ofF (eD d) l)).eraseIdx i=cs.eraseIdx i:=List.eraseIdx_set_eq
 have hat:∀ hq,(cs.set i (ofF (eD d) l))[i]'hq=ofF (eD d) l:=fun hq=>List.getElem_set_self ..
 have hi1:i<(cs.set i (ofF (eD d) l)).length:=by omega
 generalize cs.set i (ofF (eD d) l)=cs1 at *
 have hloop:=ref_Leave_loop 1099511627776 (fun acc=>pleachref7_LeaveClus_B1 (fun _ _ _ _ _ _ _=>none) d (k:Int) (i:Int) (cs1.length:Int) cs1 l acc) d (k:Int) i cs1 l (by omega) (fun m acc=>by
  unfold pleachref7_LeaveClus_B1
  rw [cdn (by omega),cdn (by omega)]) cs1.length 1099511627776 0 [] (by omega) (by omega) (by simp)
 rw [List.drop_zero,List.nil_append,if_neg (by omega),Nat.sub_zero] at hloop
 have z0:((0:Nat):Int)=0:=rfl
 rw [z0] at hloop
 rw [hloop]
 unfold pleachref7_LeaveClus_B1
 have hml:=midF_mem (D:=eD d) (l:=l) (fun x hx=>by have:=hrl.range hx;omega) hl0
 have hlead:∀ x∈(cs1.eraseIdx i).map (·.2),1≤x∧x≤8:=fun x hx=>by
  obtain ⟨c,hcm,rfl⟩:=List.mem_map.1 hx
  exact (hC1.ris c (List.mem_of_mem_eraseIdx hcm)).1.range (Clus.midIn (hC1.ris c (List.mem_of_mem_eraseIdx hcm)))
 rw [cdn (by omega),toNat_nat,ha1,ct (by simp only [Bool.and_eq_true,decide_eq_true_eq];omega),ct (by simp only [Bool.and_eq_true,decide_eq_true_eq];omega)]
 rw [ref_Near_is h (show 1≤(ofF (eD d) l).2∧(ofF (eD d) l).2≤8 from hrl.range hml) _ hlead (by rw [List.length_map,List.length_eraseIdx];split<;>omega)]
 dsimp only [Option.bind_some]
 have hnear:nearF (eD d) (midF (eD d) l) ((cs1.eraseIdx i).map (·.2))∈(cs1.eraseIdx i).map (·.2):=by
  have hpos:0<(cs1.eraseIdx i).length:=by rw [List.length_eraseIdx,if_pos hi1];omega
  obtain ⟨c,hcm⟩:=List.exists_mem_of_length_pos hpos
  refine (nearF_mem (fun x hx=>by have:=hlead x hx;omega) (List.mem_map_of_mem hcm) (fun e=>?_)).1
  have h2:=Clus.midIn (hC1.ris c (List.mem_of_mem_eraseIdx hcm))
  rw [e] at h2
  rw [he1] at hcm
  exact g2 _ (hsub _ hml) ⟨c,hcm,h2⟩
 have hs1:=hC1.small
 show (Option.bind (pleachref7_Home cs1 (nearF (eD d) (midF (eD d) l) ((cs1.eraseIdx i).map (·.2)))) _)=_
 generalize nearF (eD d) (midF (eD d) l) ((cs1.eraseIdx i).map (·.2))=near at *
 obtain ⟨c0,hc0m,rfl⟩:=List.mem_map.1 hnear
 obtain ⟨j0,hj0,hj0e⟩:=List.getElem_of_mem (List.mem_of_mem_eraseIdx hc0m)
 have hm0:c0.2∈c0.1:=Clus.midIn (hC1.ris c0 (List.mem_of_mem_eraseIdx hc0m))
 have hidx:idxF cs1 c0.2=j0:=hC1.idx hj0 (by rw [hj0e];exact hm0)
 have hhome:homeF cs1 c0.2=(j0:Int):=by unfold homeF;rw [hidx,if_pos hj0]
 rw [ref_Home_is cs1 _ hs1.1 hs1.2,hhome,hidx]
 dsimp only [Option.bind_some]
 have hcj:=hC1.ris _ (List.getElem_mem hj0)
 have hcj8:=hcj.1.le8
 have e2:List.getD cs1 j0 ([],0)=cs1[j0]:=getD_at hj0 _
 have e3:List.getD cs1 j0 zc=cs1[j0]:=getD_at hj0 _
 have hrall:∀ x∈l++cs1[j0].1,1≤x∧x≤8:=fun x hx=>(List.mem_append.1 hx).elim (fun hx=>hrl.range hx) (fun hx=>hcj.1.range hx)
 rw [cbp (by omega),toNat_nat,e2,e3,ct (by simp only [Bool.and_eq_true,decide_eq_true_eq];omega),ct (by simp only [Bool.and_eq_true,decide_eq_true_eq];omega)]
 simp only [List.nil_append,Int.sub_zero,Nat.zero_add,List.drop_zero,toNat_nat]
 rw [cbp (by omega),ref_Rising_is _ (by rw [List.length_append];omega)]
 dsimp only [Option.bind_some]
 have hRall:Ris (rising (l++cs1[j0].1)):=ris_rising _
 have hRall8:=hRall.le8
 rw [ref_Of_is h _ (fun x hx=>hRall.range hx) (by omega)]
 dsimp only [Option.bind_some]
 have hx2:((cs1.set i (ofF (eD d) (rising (l++cs1[j0].1)))).length)=cs1.length:=List.length_set ..
 generalize hcs2:cs1.set i (ofF (eD d) (rising (l++cs1[j0].1)))=cs2 at *
 have n1:((cs2.length:Int) - ((j0+1:Nat):Int)).toNat=cs2.length - (j0+1):=by omega
 rw [inext (by omega),n1,toNat_nat]
 rw [ct (by simp only [Bool.and_eq_true,decide_eq_true_eq];omega),ct (by simp only [Bool.and_eq_true,decide_eq_true_eq];omega),ct (by simp only [Bool.and_eq_true,decide_eq_true_eq,List.length_map];omega),cbp (by rw [List.length_map];omega)]
 have e4:allSome (List.take j0 (List.map some cs2))=some (cs2.take j0):=by rw [← List.map_take,allSome_map]
 rw [e4]
 dsimp only [Option.bind_some]
 have l4:(cs2.take j0).length=j0:=by rw [List.length_take];omega
 have l5:(cs2.drop (j0+1)).length=cs2.length - (j0+1):=List.length_drop ..
 rw [cbp (by omega),ct (by simp only [Bool.and_eq_true,decide_eq_true_eq,List.length_map];omega),cbp (by rw [List.length_map];omega),some_take cs2 (j0+1) (by omega)]
 dsimp only [Option.bind_some]
 have he:=List.eraseIdx_eq_take_drop_succ cs2 j0
 rw [cbp (by omega),he]
 have hle:(cs2.take j0++cs2.drop (j0+1)).length=cs2.length - 1:=by rw [← he,List.length_eraseIdx,if_pos (by omega)]
 have hji:j0≠i:=fun e=>by
  subst e
  have h2:=hat hj0
  rw [hj0e] at h2
  rw [he1] at hc0m
  rw [h2] at hm0 hc0m
  exact g2 (midF (eD d) l) (hsub _ hml) ⟨_,hc0m,hml⟩
 have hget:∀ hq,(cs2.eraseIdx j0)[if j0<i then i - 1 else i]'hq=ofF (eD d) (rising (l++cs1[j0].1)):=fun hq=>by
  rw [List.getElem_eraseIdx]
  by_cases g:j0<i
  ·simp only [if_pos g]
   rw [dif_neg (by omega)]
   have:i - 1+1=i:=by omega
   simp only [this,← hcs2];exact List.getElem_set_self ..
  ·simp only [if_neg g]
   rw [dif_pos (by omega)]
   simp only [← hcs2];exact List.getElem_set_self ..
 simp only [he] at hget
 by_cases g:j0<i
 ·have hi2:i - 1<(cs2.take j0++cs2.drop (j0+1)).length:=by omega
  have hget:(cs2.take j0++cs2.drop (j0+1))[i - 1]=ofF (eD d) (rising (l++cs1[j0].1)):=by have:=hget (by rw [if_pos g];exact hi2);simp only [if_pos g] at this;exact this
  have ei:IntKind.wrap .i64 ((i:Int) - 1)=((i - 1:Nat):Int):=by rw [wi64 (by omega) (by omega)];omega
  rw [cdp (by omega),ei,ct (by simp only [Bool.and_eq_true,decide_eq_true_eq];omega),ct (by simp only [Bool.and_eq_true,decide_eq_true_eq];omega),if_pos g]
  exact ref_cut h hk hk2 (cs2.take j0++cs2.drop (j0+1)) (by omega) (i - 1) hi2 (by rw [hget];exact hRall) (fun x=>((x,()),())) _ (decide_eq_decide.2 (cut_cond hk hk2 hi2))
 ·have hi2:i<(cs2.take j0++cs2.drop (j0+1)).length:=by omega
  have hget:(cs2.take j0++cs2.drop (j0+1))[i]=ofF (eD d) (rising (l++cs1[j0].1)):=by have:=hget (by rw [if_neg g];exact hi2);simp only [if_neg g] at this;exact this
  rw [cdn (by omega),ct (by simp only [Bool.and_eq_true,decide_eq_true_eq];omega),ct (by simp only [Bool.and_eq_true,decide_eq_true_eq];omega),if_neg g]
  exact ref_cut h hk hk2 (cs2.take j0++cs2.drop (j0+1)) (by omega) i hi2 (by rw [hget];exact hRall) (fun x=>((x,()),())) _ (decide_eq_decide.2 (cut_cond hk hk2 hi2))
end Go.PE
