/-
  Plain lemmas on the functions.
  Conditions: none.
-/
import Derived.Test.YtemajkklbjdmjaaGreatHierAllPClusRef3
set_option linter.unusedVariables false
set_option linter.unusedSimpArgs false
set_option maxRecDepth 20000
namespace Go.PE
theorem ref_New_loop (n:Nat) (d:List (List Int)) (h6:d.length≤1000000) (hr:∀ r∈d,r.length≤1000000) (kk:Int):∀ (c m i:Nat),i+c=d.length→c<m →
  pleachref7_New_L1 n m d (i:Int) 0 [] [] kk (d.take i) []=some (((kk,d,[]),true,()),())
 | c,0,i,_,h=>by omega
 | 0,m+1,i,hc,hm=>by
  show pleachref7_New_B1 (pleachref7_New_L1 n m) d (i:Int) 0 [] [] kk (d.take i) []=_
  unfold pleachref7_New_B1
  rw [cdn (by omega),List.take_of_length_le (by omega)]
 | c+1,m+1,i,hc,hm=>by
  show pleachref7_New_B1 (pleachref7_New_L1 n m) d (i:Int) 0 [] [] kk (d.take i) []=_
  have hi:i<d.length:=by omega
  have:=hr _ (List.getElem_mem hi)
  unfold pleachref7_New_B1
  rw [cdp (by omega),ct (by simp only [Bool.and_eq_true,decide_eq_true_eq];omega),toNat_nat,getD_at hi,cbp (by omega),cbp (by rw [List.length_take];omega),inext (by omega),List.nil_append,← List.take_succ_eq_append_getElem hi]
  exact ref_New_loop n d h6 hr kk c m (i+1) (by omega) (by omega)
theorem ref_New_is {d:List (List Int)} (h:OkD d) {k:Nat} (h1:1≤k) (h2:k≤3):pleachref7_New d (k:Int)=some ((((k:Int),d,[]),true,()),()):=by
 show pleachref7_New_T (pleachref7_New_L1 1099511627776 1099511627776) d (k:Int)=_
 unfold pleachref7_New_T
 rw [mayDist_eq d h]
 dsimp only [Option.bind_some]
 rw [nt,cond_false,cdn (by omega),cdn (by omega)]
 have:=ref_New_loop 1099511627776 d h.small.1 h.small.2 (k:Int) d.length 1099511627776 0 (by omega) (by have:=h.small.1;omega)
 rw [List.take_zero] at this
 exact this
theorem ref_leaders_loop (n:Nat) {D:Int→Int→Int} (cs:List Cl) (hc:Clus D cs):∀ (k m i:Nat) (acc:List Int),i+k=cs.length→k<m→acc=(cs.take i).map (·.2) →
  pleachref7_leaders_L1 n m cs (i:Int) acc=some ((leadF cs,()),())
 | k,0,i,acc,_,h,_=>by omega
 | 0,m+1,i,acc,hk,hm,ha=>by
  show pleachref7_leaders_B1 (pleachref7_leaders_L1 n m) cs (i:Int) acc=_
  have hl:=hc.len_le
  rw [List.take_of_length_le (by omega)] at ha
  subst ha
  unfold pleachref7_leaders_B1
  rw [cdn (by omega),ref_Rising_is _ (by rw [List.length_map];omega)]
  rfl
 | k+1,m+1,i,acc,hk,hm,ha=>by
  show pleachref7_leaders_B1 (pleachref7_leaders_L1 n m) cs (i:Int) acc=_
  have hl:=hc.len_le
  have hi:i<cs.length:=by omega
  have e0:List.getD cs i ([],0)=cs[i]:=getD_at hi _
  have hal:acc.length≤8:=by rw [ha,List.length_map,List.length_take];omega
  unfold pleachref7_leaders_B1
  rw [cdp (by omega),ct (by simp only [Bool.and_eq_true,decide_eq_true_eq];omega),cbp (by omega),toNat_nat,e0,inext (by omega),ref_leaders_loop n cs hc k m (i+1) _ (by omega) (by omega) (by rw [ha,List.take_succ_eq_append_getElem hi,List.map_append];rfl)]
theorem ref_leaders_is {D:Int→Int→Int} (cs:List Cl) (hc:Clus D cs):pleachref7_leaders cs=some ((leadF cs,()),()):=
 ref_leaders_loop 1099511627776 cs hc cs.length 1099511627776 0 [] (by omega) (by have:=hc.len_le;omega) (by simp)
theorem ref_above_loop (n:Nat) {d:List (List Int)} (h:OkD d) {k:Nat} (hk:1≤k) (hk2:k≤100) (L0:List (List Cl)):∀ (f m:Nat) (cs:List Cl) (acc:List (List Cl)),Clus (eD d) cs→cs.length≤f→f<m→acc.length+cs.length≤8 →
  pleachref7_above_L2 n m cs (k:Int) d L0 0 [] [] (k:Int) d acc=some ((((k:Int),d,acc++aboveF (eD d) k (f+1) cs),()),())
 | f,0,cs,acc,_,_,hm,_=>by omega
 | f,m+1,cs,acc,hc,hf,hm,ha=>by
  show pleachref7_above_B2 (pleachref7_above_L2 n m) cs (k:Int) d L0 0 [] [] (k:Int) d acc=_
  unfold pleachref7_above_B2 aboveF
  by_cases hn:cs=[]
  ·rw [cdn (by rw [hn];decide),if_pos hn,List.append_nil]
  have hp:=List.length_pos_iff.2 hn
  rw [cdp (by omega),cbp (by omega),if_neg hn]
  by_cases h1:cs.length=1
  ·rw [ceqp (by omega),if_pos h1]
  rw [ceqn (by omega),if_neg h1,ref_leaders_is cs hc]
  dsimp only [Option.bind_some]
  obtain ⟨l1,l2,l3,l4⟩:=hc.leads
  have g:=groupF_clus (D:=eD d) hk (ris_leadF cs)
  have g4:=g.2.2.2.1 (by omega)
  rw [ref_Group_is h hk hk2 _ (ris_leadF cs)]
  dsimp only [Option.bind_some]
  obtain ⟨f,rfl⟩:∃ f',f=f'+1:=⟨f - 1,by omega⟩
  rw [ref_above_loop n h hk hk2 L0 f m _ (acc++[cs]) g.1 (by omega) (by omega) (by rw [List.length_append,List.length_singleton];omega),List.append_assoc];rfl
theorem ref_above_is {d:List (List Int)} (h:OkD d) {k:Nat} (hk:1≤k) (hk2:k≤100) (L:List (List Cl)) (cs:List Cl) (hc:Clus (eD d) cs):pleachref7_above ((k:Int),d,L) cs=some ((((k:Int),d,aboveF (eD d) k 9 cs),()),()):=by
 have key:∀ n m:Nat,20<m→pleachref7_above_L1 n m cs (k:Int) d L 0 [] [] (k:Int) d []=some ((((k:Int),d,aboveF (eD d) k 9 cs),()),()):=by
  intro n m hm
  obtain ⟨m,rfl⟩:∃ m',m=m'+1:=⟨m - 1,by omega⟩
  have e0:pleachref7_above_L1 n (m+1) cs (k:Int) d L 0 [] [] (k:Int) d []=pleachref7_above_L2 n (m+1) cs (k:Int) d L 0 [] [] (k:Int) d []:=rfl
  rw [e0]
  have:=ref_above_loop n h hk hk2 L 8 (m+1) cs [] hc hc.len_le (by omega) (by simp;exact hc.len_le)
  rw [List.nil_append] at this
  exact this
 exact key 1099511627776 1099511627776 (by omega)
theorem ref_Join_loop (n:Nat) {d:List (List Int)} (h:OkD d) {k:Nat} (hk:1≤k) (L:List (List Cl)) (ht:Tower (eD d) k L) (hl8:L.length≤8) (id:Int) (hid:1≤id∧id≤8) (hno:∀ i (hi:i<L.length),¬ isIn L[i] id) (kk:Int) (R:Option ((HV × Unit) × Unit))
  (hend:∀ m,pleachref7_Join_B1 (pleachref7_Join_L1 n m) id (downF (eD d) id L) 0 kk d L 0 [] []=R):∀ (i m:Nat),i<L.length→i<m →
  pleachref7_Join_L1 n m id (downF (eD d) id (L.drop i)) (i:Int) kk d L 0 [] []=R
 | i,0,hi,h=>by omega
 | 0,m+1,hi,hm=>by
  show pleachref7_Join_B1 (pleachref7_Join_L1 n m) id (downF (eD d) id L) ((0:Nat):Int) kk d L 0 [] []=_
  exact hend m
 | i+1,m+1,hi,hm=>by
  show pleachref7_Join_B1 (pleachref7_Join_L1 n m) id (downF (eD d) id (L.drop (i+1))) ((i+1:Nat):Int) kk d L 0 [] []=_
  have ht1:=tower_drop ht (i+1) hi
  have ed:=List.drop_eq_getElem_cons hi
  rw [ed] at ht1
  have hb:=downF_ok hk ht1 id (hno (i+1) hi)
  rw [← ed] at hb
  have hc1:=(tower_head ht1).1
  have ei:L.drop i=L[i]::L.drop (i+1):=List.drop_eq_getElem_cons (by omega)
  have ih:=ref_Join_loop n h hk L ht hl8 id hid hno kk R hend i m (by omega) (by omega)
  have estep:downF (eD d) id (L.drop i)=homeF L[i] (nearF (eD d) id (List.getD L[i+1] (downF (eD d) id (L.drop (i+1))).toNat zc).1):=by
   rw [ei,ed];conv=>lhs;unfold downF
  rw [estep] at ih
  generalize downF (eD d) id (L.drop (i+1))=a at *
  obtain ⟨q,rfl⟩:∃ q:Nat,a=q:=⟨a.toNat,by omega⟩
  have hq:q<L[i+1].length:=by omega
  have e0:List.getD L[i+1] q ([],0)=L[i+1][q]:=getD_at hq _
  have e1:List.getD L[i+1] q zc=L[i+1][q]:=getD_at hq _
  rw [toNat_nat,e1] at ih
  have hcq:=hc1.ris _ (List.getElem_mem hq)
  have hcq8:=hcq.1.le8
  have hci:=tower_all ht _ (List.getElem_mem (show i<L.length by omega))
  have ew:IntKind.wrap .i64 (((i+1:Nat):Int) - 1)=(i:Int):=by rw [wi64 (by omega) (by omega)];omega
  unfold pleachref7_Join_B1
  rw [cdp (by omega),ew,toNat_nat,toNat_nat,toNat_nat,getD_at hi,getD_at (show i<L.length by omega),e0]
  rw [ct (by simp only [Bool.and_eq_true,decide_eq_true_eq];omega),ct (by simp only [Bool.and_eq_true,decide_eq_true_eq];omega),ref_Near_is h hid _ (fun x hx=>hcq.1.range hx) (by omega)]
  dsimp only [Option.bind_some]
  rw [ct (by simp only [Bool.and_eq_true,decide_eq_true_eq];omega),ref_Home_is _ _ hci.small.1 hci.small.2]
  exact ih
theorem ref_Join_is {d:List (List Int)} (h:OkD d) {k:Nat} (hk:1≤k) (hk2:k≤100) (L:List (List Cl)) (hL:HOk d k L) (id:Int):pleachref7_Join ((k:Int),d,L) id=some ((((k:Int),d,joinH d k L id),()),()):=by
 show pleachref7_Join_T (pleachref7_Join_L1 1099511627776 1099511627776) ((k:Int),d,L) id=_
 unfold pleachref7_Join_T joinH
 dsimp only
 rw [mayDist_eq d h]
 dsimp only [Option.bind_some]
 rw [nt,cond_false]
 by_cases c1:id<1
 ·rw [cdp c1,if_pos (.inl c1)]
 rw [cdn c1]
 by_cases c2:id>8
 ·rw [cdp c2,if_pos (.inr (.inl c2))]
 rw [cdn c2]
 by_cases hn:L=[]
 ·subst hn
  have hh:homeF (lowF []) id=-1:=rfl
  rw [cdn (by simp),if_neg (by rw [hh];omega)]
  have hj:=joinF_clus (D:=eD d) hk (at_:=downF (eD d) id []) (id:=id) (by omega) (by omega) hL.clus
  have key:∀ n m:Nat,0<m→pleachref7_Join_L1 n m id 0 (IntKind.wrap .i64 ((([]:List (List Cl)).length:Int) - 1)) (k:Int) d [] 0 [] []=some ((((k:Int),d,aboveF (eD d) k 9 (joinF (eD d) k (lowF []) (downF (eD d) id []) id)),()),()):=by
   intro n m hm
   obtain ⟨m,rfl⟩:∃ m',m=m'+1:=⟨m - 1,by omega⟩
   show pleachref7_Join_B1 (pleachref7_Join_L1 n m) id 0 (IntKind.wrap .i64 ((([]:List (List Cl)).length:Int) - 1)) (k:Int) d [] 0 [] []=_
   unfold pleachref7_Join_B1
   have hj1:=ref_JoinClus_is h hk hk2 [] Clus.nil 0 id (by omega)
   rw [cdn (by decide),cdn (by simp),hj1]
   dsimp only [Option.bind_some]
   have ha:pleachref7_above ((k:Int),d,[]) (joinF (eD d) k [] 0 id)=some ((((k:Int),d,aboveF (eD d) k 9 (joinF (eD d) k [] 0 id)),()),()):=ref_above_is h hk hk2 [] (joinF (eD d) k [] 0 id) hj.1
   rw [ha];rfl
  exact key _ _ (by omega)
 ·obtain ⟨r,e,t,hl8,_⟩:=hL.tower hk hn
  have hp:=List.length_pos_iff.2 hn
  have e0:List.getD L 0 []=lowF L:=rfl
  rw [cdp (by omega),cdp (by omega),e0,ref_Home_is _ _ hL.clus.small.1 hL.clus.small.2]
  dsimp only [Option.bind_some]
  by_cases c3:0≤homeF (lowF L) id
  ·rw [cdp (by omega),if_pos (.inr (.inr c3))]
  have hno:¬ isIn (lowF L) id:=fun hx=>c3 (homeF_pos.2 hx)
  have hj:=joinF_clus (D:=eD d) hk (at_:=downF (eD d) id L) (id:=id) (by omega) (by omega) hL.clus
  rw [cdn (by omega),if_neg (by omega)]
  have ew:IntKind.wrap .i64 ((L.length:Int) - 1)=((L.length - 1:Nat):Int):=by rw [wi64 (by omega) (by omega)];omega
  have hloop:=ref_Join_loop 1099511627776 h hk L t hl8 id (by omega) (hL.none hk hno) (k:Int) (some ((((k:Int),d,aboveF (eD d) k 9 (joinF (eD d) k (lowF L) (downF (eD d) id L) id)),()),())) (fun m=>by
   unfold pleachref7_Join_B1
   rw [cdn (by omega),cdp (by omega),cdp (by omega),e0,ref_JoinClus_is h hk hk2 _ hL.clus _ _ (by omega)]
   dsimp only [Option.bind_some]
   rw [ref_above_is h hk hk2 L _ hj.1];rfl) (L.length - 1) 1099511627776 (by omega) (by omega)
  have hd:downF (eD d) id (L.drop (L.length - 1))=0:=by
   rw [List.drop_eq_getElem_cons (show L.length - 1<L.length by omega),List.drop_of_length_le (by omega)];rfl
  rw [hd] at hloop
  rw [ew,hloop]
theorem ref_Leave_is {d:List (List Int)} (h:OkD d) {k:Nat} (hk:1≤k) (hk2:k≤100) (L:List (List Cl)) (hL:HOk d k L) (id:Int):pleachref7_Leave ((k:Int),d,L) id=some ((((k:Int),d,leaveH d k L id),()),()):=by
 unfold pleachref7_Leave leaveH
 dsimp only
 rw [mayDist_eq d h]
 dsimp only [Option.bind_some]
 rw [nt,cond_false]
 by_cases hn:L=[]
 ·subst hn
  have hh:homeF (lowF []) id=-1:=rfl
  rw [ceqp (x:=((([]:List (List Cl)).length:Nat):Int)) (y:=0) rfl,hh,if_pos (by omega)]
 have hp:=List.length_pos_iff.2 hn
 have e0:List.getD L 0 []=lowF L:=rfl
 rw [ceqn (by omega),cdp (by omega),e0,ref_Home_is _ _ hL.clus.small.1 hL.clus.small.2]
 dsimp only [Option.bind_some]
 by_cases c3:homeF (lowF L) id<0
 ·rw [cdp c3,if_pos c3]
 have hj:=leaveF_clus (D:=eD d) hk (id:=id) hL.clus
 rw [cdn c3,if_neg c3,cdp (by omega),ref_LeaveClus_is h hk hk2 _ hL.clus]
 dsimp only [Option.bind_some]
 rw [ref_above_is h hk hk2 L _ hj.1];rfl
theorem ref_Ask_loop (n:Nat) (k:Int) (d:List (List Int)) (L:List (List Cl)) (hL:SmallL L) (id:Int):∀ (c m i:Nat),i+c=L.length→c<m →
  pleachref7_Ask_L1 n m id (i:Int) k d L=some ((askF (L.drop i) id,()),())
 | c,0,i,_,h=>by omega
 | 0,m+1,i,hk,hm=>by
  show pleachref7_Ask_B1 (pleachref7_Ask_L1 n m) id (i:Int) k d L=_
  unfold pleachref7_Ask_B1
  rw [cdn (by omega),List.drop_eq_nil_of_le (by omega)];rfl
 | c+1,m+1,i,hk,hm=>by
  show pleachref7_Ask_B1 (pleachref7_Ask_L1 n m) id (i:Int) k d L=_
  have hi:i<L.length:=by omega
  have hl:=hL.len
  obtain ⟨g1,g2⟩:=hL.each _ (List.getElem_mem hi)
  have ci:(decide ((0:Int)≤(i:Int))&&decide ((i:Int)<(L.length:Int)))=true:=by simp only [Bool.and_eq_true,decide_eq_true_eq];omega
  unfold pleachref7_Ask_B1
  simp only [ci,cond_true]
  rw [cdp (by omega),toNat_nat,getD_at hi,ref_Home_is _ _ (fun c hc=>by have:=g2 c hc;omega) (by omega),List.drop_eq_getElem_cons hi,inext (by omega)]
  dsimp only [Option.bind_some]
  conv=>rhs;unfold askF
  by_cases hh:idxF L[i] id<L[i].length
  ·have e0:List.getD L[i] (idxF L[i] id) ([],0)=L[i][idxF L[i] id]:=getD_at hh _
   have e1:List.getD L[i] (idxF L[i] id) zc=L[i][idxF L[i] id]:=getD_at hh _
   have hhm:homeF L[i] id=(idxF L[i] id:Int):=by unfold homeF;rw [if_pos hh]
   rw [hhm,cdn (by omega),ct (by simp only [Bool.and_eq_true,decide_eq_true_eq];omega),toNat_nat,e0,if_pos hh,e1]
   by_cases hl2:L[i][idxF L[i] id].2=id
   ·rw [cnen hl2,if_neg (fun g=>g hl2),ref_Ask_loop n k d L hL id c m (i+1) (by omega) (by omega)]
   ·rw [cnep hl2,ct (by simp only [Bool.and_eq_true,decide_eq_true_eq];omega),if_pos hl2]
  ·have hhm:homeF L[i] id=-1:=by unfold homeF;rw [if_neg hh]
   rw [hhm,cdp (by omega),if_neg hh]
theorem ref_Ask_is (k:Int) (d:List (List Int)) (L:List (List Cl)) (hL:SmallL L) (id:Int):pleachref7_Ask (k,d,L) id=some ((askF L id,()),()):=by
 have:=ref_Ask_loop 1099511627776 k d L hL id L.length 1099511627776 0 (by omega) (by have:=hL.len;omega)
 rw [List.drop_zero] at this
 exact this
end Go.PE
