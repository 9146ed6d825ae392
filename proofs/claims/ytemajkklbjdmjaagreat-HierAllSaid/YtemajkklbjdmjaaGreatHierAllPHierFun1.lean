/-
  Plain lemmas on the functions.
  Conditions: none.
-/
import Derived.Test.YtemajkklbjdmjaaGreatHierAllPClusFun4
set_option linter.unusedVariables false
set_option linter.unusedSimpArgs false
set_option maxRecDepth 20000
namespace Go.PE
abbrev HV:Type:=Int × List (List Int) × List (List Cl)
theorem clone_ints_is (l:List (List Int)) (h6:l.length≤1000000000):slices_Clone_ints l=some ((l,()),()):=by unfold slices_Clone_ints;rw [cbp (by omega)]
theorem clone_Cluster_is (l:List Cl) (h6:l.length≤1000000000):slices_Clone_Cluster l=some ((l,()),()):=by unfold slices_Clone_Cluster;rw [cbp (by omega)]
theorem clone_Clusters_is (l:List (List Cl)) (h6:l.length≤1000000000):slices_Clone_Clusters l=some ((l,()),()):=by unfold slices_Clone_Clusters;rw [cbp (by omega)]
theorem hier_twin_loop (n:Nat) (d:List (List Int)) (h6:d.length≤1000000) (hr:∀ r∈d,r.length≤1000000):∀ (k m i:Nat),i+k=d.length→k<m →
  hier_twin_L1 n m d (d.length:Int) (i:Int) d=some ((d,()),())
 | k,0,i,_,h=>by omega
 | 0,m+1,i,hk,hm=>by
  show hier_twin_B1 (hier_twin_L1 n m) d (d.length:Int) (i:Int) d=_
  unfold hier_twin_B1
  rw [cdn (by omega)]
 | k+1,m+1,i,hk,hm=>by
  show hier_twin_B1 (hier_twin_L1 n m) d (d.length:Int) (i:Int) d=_
  have hi:i<d.length:=by omega
  have:=hr _ (List.getElem_mem hi)
  unfold hier_twin_B1
  rw [cdp (by omega),ct (by simp only [Bool.and_eq_true,decide_eq_true_eq];omega),toNat_nat,getD_at hi,clone_int_is _ (by omega)]
  dsimp only [Option.bind_some]
  rw [ct (by simp only [Bool.and_eq_true,decide_eq_true_eq];omega),ct (by simp only [Bool.and_eq_true,decide_eq_true_eq];omega),inext (by omega),List.set_getElem_self,hier_twin_loop n d h6 hr k m (i+1) (by omega) (by omega)]
theorem hier_twin_is (d:List (List Int)) (h6:d.length≤1000000) (hr:∀ r∈d,r.length≤1000000):hier_twin d=some ((d,()),()):=by
 show hier_twin_T (hier_twin_L1 1099511627776 1099511627776) d=_
 unfold hier_twin_T
 rw [clone_ints_is d (by omega)]
 exact hier_twin_loop 1099511627776 d h6 hr d.length 1099511627776 0 (by omega) (by omega)
theorem hier_clusters_loop (n:Nat) (cs:List Cl) (h6:cs.length≤1000000) (hr:∀ c∈cs,c.1.length≤1000000):∀ (k m i:Nat),i+k=cs.length→k<m →
  hier_clusters_L1 n m (cs.length:Int) (i:Int) cs=some ((cs,()),())
 | k,0,i,_,h=>by omega
 | 0,m+1,i,hk,hm=>by
  show hier_clusters_B1 (hier_clusters_L1 n m) (cs.length:Int) (i:Int) cs=_
  unfold hier_clusters_B1
  rw [cdn (by omega)]
 | k+1,m+1,i,hk,hm=>by
  show hier_clusters_B1 (hier_clusters_L1 n m) (cs.length:Int) (i:Int) cs=_
  have hi:i<cs.length:=by omega
  have:=hr _ (List.getElem_mem hi)
  have e0:List.getD cs i ([],0)=cs[i]:=getD_at hi _
  unfold hier_clusters_B1
  rw [cdp (by omega),ct (by simp only [Bool.and_eq_true,decide_eq_true_eq];omega),ct (by simp only [Bool.and_eq_true,decide_eq_true_eq];omega),toNat_nat,e0,clone_int_is _ (by omega)]
  dsimp only [Option.bind_some]
  have e1:cs.set i (cs[i].1,cs[i].2)=cs:=List.set_getElem_self hi
  rw [ct (by simp only [Bool.and_eq_true,decide_eq_true_eq];omega),ct (by simp only [Bool.and_eq_true,decide_eq_true_eq];omega),inext (by omega),e1,hier_clusters_loop n cs h6 hr k m (i+1) (by omega) (by omega)]
theorem hier_clusters_is (cs:List Cl) (h6:cs.length≤1000000) (hr:∀ c∈cs,c.1.length≤1000000):hier_clusters cs=some ((cs,()),()):=by
 show hier_clusters_T (hier_clusters_L1 1099511627776 1099511627776) cs=_
 unfold hier_clusters_T
 rw [clone_Cluster_is cs (by omega)]
 exact hier_clusters_loop 1099511627776 cs h6 hr cs.length 1099511627776 0 (by omega) (by omega)
structure SmallL (L:List (List Cl)):Prop where
 len:L.length≤1000
 each:∀ cs∈L,cs.length≤1000∧∀ c∈cs,c.1.length≤1000
theorem hier_copied_loop (n:Nat) (L:List (List Cl)) (hL:SmallL L) (kk:Int) (d:List (List Int)):∀ (k m i:Nat),i+k=L.length→k<m →
  hier_copied_L1 n m (L.length:Int) (i:Int) kk d 0 [] [] L=some (((kk,d,L),()),())
 | k,0,i,_,h=>by omega
 | 0,m+1,i,hk,hm=>by
  show hier_copied_B1 (hier_copied_L1 n m) (L.length:Int) (i:Int) kk d 0 [] [] L=_
  unfold hier_copied_B1
  rw [cdn (by omega)]
 | k+1,m+1,i,hk,hm=>by
  show hier_copied_B1 (hier_copied_L1 n m) (L.length:Int) (i:Int) kk d 0 [] [] L=_
  have hi:i<L.length:=by omega
  have hl:=hL.len
  obtain ⟨g1,g2⟩:=hL.each _ (List.getElem_mem hi)
  unfold hier_copied_B1
  rw [cdp (by omega),ct (by simp only [Bool.and_eq_true,decide_eq_true_eq];omega),ct (by simp only [Bool.and_eq_true,decide_eq_true_eq];omega),toNat_nat,getD_at hi,hier_clusters_is _ (by omega) (fun c hc=>by have:=g2 c hc;omega)]
  dsimp only [Option.bind_some]
  rw [ct (by simp only [Bool.and_eq_true,decide_eq_true_eq];omega),ct (by simp only [Bool.and_eq_true,decide_eq_true_eq];omega),inext (by omega),List.set_getElem_self,hier_copied_loop n L hL kk d k m (i+1) (by omega) (by omega)]
theorem OkD.small {d:List (List Int)} (h:OkD d):d.length≤1000000∧∀ r∈d,r.length≤1000000:=by
 have hl:=h.len
 refine ⟨by omega,fun r hr=>?_⟩
 obtain ⟨i,hi,rfl⟩:=List.getElem_of_mem hr
 have:=h.rows i (by omega)
 rw [getD_lt hi] at this;omega
theorem hier_copied_is {d:List (List Int)} (hd:OkD d) (k:Int) (L:List (List Cl)) (hL:SmallL L):hier_copied (k,d,L)=some (((k,d,L),()),()):=by
 have hl:=hL.len
 show hier_copied_T (hier_copied_L1 1099511627776 1099511627776) (k,d,L)=_
 unfold hier_copied_T
 dsimp only
 rw [hier_twin_is d hd.small.1 hd.small.2,clone_Clusters_is L (by omega)]
 exact hier_copied_loop 1099511627776 L hL k d L.length 1099511627776 0 (by omega) (by omega)
theorem hier_dist_inner (n m1:Nat) {d:List (List Int)} (h:OkD d) (i:Nat) (hi:i<8) (r1:List (List Int)→List (List Int)→Int→Int→Option ((Bool × Unit) × Unit)):∀ (k m j:Nat),j+k=8→k<m →
  hier_dist_L2 n m1 r1 m d (i:Int) d (d.length:Int) (i:Int) (List.getD d i []) ((List.getD d i []).length:Int) (j:Int)=r1 d d (d.length:Int) ((i+1:Nat):Int)
 | k,0,j,_,h=>by omega
 | 0,m+1,j,hk,hm=>by
  show hier_dist_B2 (hier_dist_L2 n m1 r1 m) r1 d (i:Int) d (d.length:Int) (i:Int) (List.getD d i []) ((List.getD d i []).length:Int) (j:Int)=_
  have hr:=h.rows i hi
  unfold hier_dist_B2
  rw [cdn (by omega),inext (by omega)]
 | k+1,m+1,j,hk,hm=>by
  show hier_dist_B2 (hier_dist_L2 n m1 r1 m) r1 d (i:Int) d (d.length:Int) (i:Int) (List.getD d i []) ((List.getD d i []).length:Int) (j:Int)=_
  have hj:j<8:=by omega
  have hl:=h.len
  have hr:=h.rows i hi
  have hr2:=h.rows j hj
  obtain ⟨v1,v2,v3,v4⟩:=h.vals i j hi hj
  unfold e0 at v1 v2 v3 v4
  unfold hier_dist_B2
  rw [cdp (by omega),ct (by simp only [Bool.and_eq_true,decide_eq_true_eq];omega),toNat_nat,toNat_nat,cdn (by omega),cdn (by omega),ct (by simp only [Bool.and_eq_true,decide_eq_true_eq];omega),ct (by simp only [Bool.and_eq_true,decide_eq_true_eq];omega),cnen v3,inext (by omega)]
  have ih:=hier_dist_inner n m1 h i hi r1 k m (j+1) (by omega) (by omega)
  by_cases hij:i=j
  ·rw [ceqp (by omega),cnen (v4 hij),ih]
  ·rw [ceqn (by omega),ih]
theorem hier_dist_outer (n:Nat) (hn:20<n) {d:List (List Int)} (h:OkD d):∀ (k m i:Nat),i+k=8→k<m→hier_dist_L1 n m d d (d.length:Int) (i:Int)=some ((true,()),())
 | k,0,i,_,h=>by omega
 | 0,m+1,i,hk,hm=>by
  show hier_dist_B1 (hier_dist_L2 n m (hier_dist_L1 n m) n) d d (d.length:Int) (i:Int)=_
  have hl:=h.len
  unfold hier_dist_B1
  rw [cdn (by omega)]
 | k+1,m+1,i,hk,hm=>by
  show hier_dist_B1 (hier_dist_L2 n m (hier_dist_L1 n m) n) d d (d.length:Int) (i:Int)=_
  have hl:=h.len
  unfold hier_dist_B1
  rw [cdp (by omega),ct (by simp only [Bool.and_eq_true,decide_eq_true_eq];omega),toNat_nat]
  have z0:(0:Int)=((0:Nat):Int):=rfl
  rw [z0,hier_dist_inner n m h i (by omega) (hier_dist_L1 n m) 8 n 0 (by omega) (by omega)]
  exact hier_dist_outer n hn h k m (i+1) (by omega) (by omega)
theorem containsFunc_ints_loop (n:Nat) (l:List (List Int)) (f:List Int × Unit→Option (Bool × Unit)) (hf:∀ x∈l,f (x,())=some (false,())) (h6:l.length≤1000000):∀ (k m i:Nat),i+k=l.length→k<m →
  slices_IndexFunc_ints_L1 n m l f (l.length:Int) (i:Int)=some ((-1,()),())
 | k,0,i,_,h=>by omega
 | 0,m+1,i,hk,h=>by
  show slices_IndexFunc_ints_B1 (slices_IndexFunc_ints_L1 n m) l f (l.length:Int) (i:Int)=_
  unfold slices_IndexFunc_ints_B1
  rw [cdn (by omega)]
 | k+1,m+1,i,hk,h=>by
  show slices_IndexFunc_ints_B1 (slices_IndexFunc_ints_L1 n m) l f (l.length:Int) (i:Int)=_
  have hi:i<l.length:=by omega
  unfold slices_IndexFunc_ints_B1
  rw [cdp (by omega),cand,cdp (by omega),cdp (by omega),toNat_nat,getD_at hi,inext (by omega),hf _ (List.getElem_mem hi)]
  dsimp only [Option.bind_some]
  rw [cond_false,containsFunc_ints_loop n l f hf h6 k m (i+1) (by omega) (by omega)]
theorem hier_dist_is {d:List (List Int)} (h:OkD d):hier_dist d=some ((true,()),()):=by
 have hl:=h.len
 show hier_dist_T (hier_dist_L1 1099511627776 1099511627776) d=_
 unfold hier_dist_T
 have hc:slices_ContainsFunc_ints d (fun x=>(hier_dist_fn1 x.1).bind fun r=>some (r.1.1,()))=some ((false,()),()):=by
  unfold slices_ContainsFunc_ints
  have:slices_IndexFunc_ints d (fun x=>(hier_dist_fn1 x.1).bind fun r=>some (r.1.1,()))=some ((-1,()),()):=
   containsFunc_ints_loop 1099511627776 d (fun x=>(hier_dist_fn1 x.1).bind fun r=>some (r.1.1,())) (fun r hr=>by
    obtain ⟨i,hi,rfl⟩:=List.getElem_of_mem hr
    have hr8:=h.rows i (by omega)
    rw [getD_lt hi] at hr8
    unfold hier_dist_fn1
    dsimp only [Option.bind_some]
    rw [hr8];rfl) (by omega) d.length 1099511627776 0 (by omega) (by omega)
  rw [this];rfl
 rw [cnen (by omega),hc]
 dsimp only [Option.bind_some]
 rw [cond_false]
 exact hier_dist_outer 1099511627776 (by omega) h 8 1099511627776 0 (by omega) (by omega)
theorem hier_New_is {d:List (List Int)} (h:OkD d) {k:Nat} (h1:1≤k) (h2:k≤3):hier_New d (k:Int)=some ((((k:Int),d,[]),true,()),()):=by
 unfold hier_New
 rw [hier_dist_is h]
 dsimp only [Option.bind_some]
 rw [nt,cond_false,cdn (by omega),cdn (by omega),hier_twin_is d h.small.1 h.small.2];rfl
theorem tower_all {D:Int→Int→Int} {k:Nat}:∀ {L:List (List Cl)},Tower D k L→∀ cs∈L,Clus D cs
 | [],h,_,_=>by cases h
 | [c],h,cs,hc=>by rw [List.mem_singleton] at hc;subst hc;exact h.1
 | c::e::r,h,cs,hc=>by
  rcases List.mem_cons.1 hc with rfl | hc
  ·exact h.1
  ·exact tower_all h.2.2.2 cs hc
theorem tower_drop {D:Int→Int→Int} {k:Nat}:∀ {L:List (List Cl)},Tower D k L→∀ i,i<L.length→Tower D k (L.drop i)
 | L,h,0,_=>h
 | [],h,i+1,hi=>by simp at hi
 | [c],h,i+1,hi=>by simp at hi
 | c::e::r,h,i+1,hi=>tower_drop h.2.2.2 i (by simpa using hi)
theorem tower_up {D:Int→Int→Int} {k:Nat} (hk:1≤k):∀ {L:List (List Cl)},Tower D k L→∀ i (hi:i<L.length) x,isIn L[i] x→isIn (List.getD L 0 []) x
 | [],h,i,hi,_,_=>by simp at hi
 | c::r,h,0,hi,x,hx=>hx
 | [c],h,i+1,hi,_,_=>by simp at hi
 | c::e::r,h,i+1,hi,x,hx=>by
  have h0:=tower_up hk h.2.2.2 i (by simpa using hi) x hx
  obtain ⟨hc,h2,rfl,ht⟩:=h
  have h0:isIn (groupF D k (leadF c)) x:=h0
  rw [(groupF_clus hk (ris_leadF c)).2.2.1,hc.leads.1] at h0
  obtain ⟨q,hq,rfl⟩:=h0
  exact ⟨q,hq,Clus.midIn (hc.ris q hq)⟩
def lowF (L:List (List Cl)):List Cl:=List.getD L 0 []
structure HOk (d:List (List Int)) (k:Nat) (L:List (List Cl)):Prop where
 clus:Clus (eD d) (lowF L)
 sized:Sized k (lowF L)
 lev:L=aboveF (eD d) k 9 (lowF L)
theorem above_nil {D:Int→Int→Int} {k n:Nat}:aboveF D k n []=[]:=by cases n<;>simp [aboveF]
theorem HOk.nil {d:List (List Int)} {k:Nat}:HOk d k []:=⟨Clus.nil,⟨fun _ hc=>(nomatch hc),fun h=>by simp [lowF] at h⟩,above_nil.symm⟩
theorem HOk.of {d:List (List Int)} {k:Nat} (hk:1≤k) {cs:List Cl} (hc:Clus (eD d) cs) (hs:Sized k cs):HOk d k (aboveF (eD d) k 9 cs)∧lowF (aboveF (eD d) k 9 cs)=cs:=by
 have hl:lowF (aboveF (eD d) k 9 cs)=cs:=by
  by_cases hn:cs=[]
  ·subst hn;rw [above_nil];rfl
  ·obtain ⟨r,e,_⟩:=aboveF_tower hk 9 cs hc hn (by have:=hc.len_le;omega)
   rw [e];rfl
 exact ⟨⟨by rw [hl];exact hc,by rw [hl];exact hs,by rw [hl]⟩,hl⟩
theorem HOk.tower {d:List (List Int)} {k:Nat} (hk:1≤k) {L:List (List Cl)} (h:HOk d k L) (hn:L≠[]):∃ r,L=lowF L::r∧Tower (eD d) k L∧L.length≤8∧lowF L≠[]:=by
 have hl:=h.clus.len_le
 have hne:lowF L≠[]:=fun e=>by have:=h.lev;rw [e,above_nil] at this;exact hn this
 obtain ⟨r,e,t,hr⟩:=aboveF_tower hk 9 (lowF L) h.clus hne (by omega)
 have e2:L=lowF L::r:=h.lev.trans e
 exact ⟨r,e2,by rw [e2];exact t,by rw [e2,List.length_cons];omega,hne⟩
theorem HOk.small {d:List (List Int)} {k:Nat} (hk:1≤k) {L:List (List Cl)} (h:HOk d k L):SmallL L:=by
 by_cases hn:L=[]
 ·subst hn;exact ⟨by simp,fun cs hc=>by cases hc⟩
 ·obtain ⟨r,e,t,hr,_⟩:=h.tower hk hn
  exact ⟨by omega,fun cs hc=>by
   have:=tower_all t cs hc
   have:=this.len_le
   exact ⟨by omega,fun c hcc=>by have:=((tower_all t cs hc).ris c hcc).1.le8;omega⟩⟩
theorem hier_all_is (k:Int) (d:List (List Int)) (L:List (List Cl)):hier_all (k,d,L)=some ((lowF L,()),()):=by
 unfold hier_all lowF
 dsimp only
 cases L with
 | nil=>rfl
 | cons c r=>
  have:((c::r).length:Int)≠0:=by rw [List.length_cons];omega
  rw [ceqn this,cdp (by simp)]
theorem hier_find_is (cs:List Cl) (id:Int) (h:∀ c∈cs,c.1.length≤1000000) (h6:cs.length≤1000000):hier_find cs id=some ((homeF cs id,()),()):=by
 unfold hier_find
 rw [indexFunc_Cluster cs _ (fun c=>decide (id∈c.1)) (fun c hc=>?_) (by omega)]
 ·rfl
 ·unfold hier_find_fn1
  dsimp only
  rw [contains_int _ _ (by have:=h c hc;omega)];rfl
theorem hier_leaders_loop (n:Nat) {D:Int→Int→Int} (cs:List Cl) (hc:Clus D cs):∀ (k m i:Nat) (acc:List Int),i+k=cs.length→k<m→acc=(cs.take i).map (·.2) →
  hier_leaders_L1 n m cs (cs.length:Int) (i:Int) acc=some ((leadF cs,()),())
 | k,0,i,acc,_,h,_=>by omega
 | 0,m+1,i,acc,hk,hm,ha=>by
  show hier_leaders_B1 (hier_leaders_L1 n m) cs (cs.length:Int) (i:Int) acc=_
  have hl:=hc.len_le
  obtain ⟨l1,l2,l3,l4⟩:=hc.leads
  rw [List.take_of_length_le (by omega)] at ha
  subst ha
  unfold hier_leaders_B1
  rw [cdn (by omega),sort_rising _ l4 l3 (by rw [List.length_map];omega)]
  rfl
 | k+1,m+1,i,acc,hk,hm,ha=>by
  show hier_leaders_B1 (hier_leaders_L1 n m) cs (cs.length:Int) (i:Int) acc=_
  have hl:=hc.len_le
  have hi:i<cs.length:=by omega
  have e0:List.getD cs i ([],0)=cs[i]:=getD_at hi _
  have hal:acc.length≤8:=by rw [ha,List.length_map,List.length_take];omega
  unfold hier_leaders_B1
  rw [cdp (by omega),ct (by simp only [Bool.and_eq_true,decide_eq_true_eq];omega),cbp (by omega),toNat_nat,e0,inext (by omega),hier_leaders_loop n cs hc k m (i+1) _ (by omega) (by omega) (by rw [ha,List.take_succ_eq_append_getElem hi,List.map_append];rfl)]
theorem hier_leaders_is {D:Int→Int→Int} (cs:List Cl) (hc:Clus D cs):hier_leaders cs=some ((leadF cs,()),()):=
 hier_leaders_loop 1099511627776 cs hc cs.length 1099511627776 0 [] (by omega) (by have:=hc.len_le;omega) (by simp)
theorem hier_above_loop (n:Nat) {d:List (List Int)} (h:OkD d) {k:Nat} (hk:1≤k) (hk2:k≤100):∀ (f m:Nat) (cs:List Cl) (acc:List (List Cl)),Clus (eD d) cs→cs.length≤f→f<m→acc.length+cs.length≤8 →
  hier_above_L1 n m cs (k:Int) d acc 0 [] []=some ((((k:Int),d,acc++aboveF (eD d) k (f+1) cs),()),())
 | f,0,cs,acc,_,_,hm,_=>by omega
 | f,m+1,cs,acc,hc,hf,hm,ha=>by
  show hier_above_B1 (hier_above_L1 n m) cs (k:Int) d acc 0 [] []=_
  unfold hier_above_B1 aboveF
  by_cases hn:cs=[]
  ·rw [cdn (by rw [hn];decide),if_pos hn,List.append_nil]
  have hp:=List.length_pos_iff.2 hn
  rw [cdp (by omega),cbp (by omega),if_neg hn]
  by_cases h1:cs.length=1
  ·rw [ceqp (by omega),if_pos h1]
  rw [ceqn (by omega),if_neg h1,cdn (by rw [List.length_append,List.length_singleton];omega),hier_leaders_is cs hc]
  dsimp only [Option.bind_some]
  obtain ⟨l1,l2,l3,l4⟩:=hc.leads
  have hln:leadF cs≠[]:=fun e=>by rw [e] at l2;simp at l2;omega
  have g:=groupF_clus (D:=eD d) hk (ris_leadF cs)
  have g4:=g.2.2.2.1 (by omega)
  rw [clus_Group_is h hk hk2 _ (ris_leadF cs)]
  dsimp only [Option.bind_some]
  obtain ⟨f,rfl⟩:∃ f',f=f'+1:=⟨f - 1,by omega⟩
  rw [hier_above_loop n h hk hk2 f m _ (acc++[cs]) g.1 (by omega) (by omega) (by rw [List.length_append,List.length_singleton];omega),List.append_assoc];rfl
theorem hier_above_is {d:List (List Int)} (h:OkD d) {k:Nat} (hk:1≤k) (hk2:k≤100) (L:List (List Cl)) (cs:List Cl) (hc:Clus (eD d) cs):hier_above ((k:Int),d,L) cs=some ((((k:Int),d,aboveF (eD d) k 9 cs),()),()):=by
 have:=hier_above_loop 1099511627776 h hk hk2 8 1099511627776 cs [] hc hc.len_le (by omega) (by simp;exact hc.len_le)
 rw [List.nil_append] at this
 exact this
theorem hier_down_loop (n:Nat) {d:List (List Int)} (h:OkD d) {k:Nat} (hk:1≤k) (L:List (List Cl)) (ht:Tower (eD d) k L) (hl8:L.length≤8) (id:Int) (hid:1≤id∧id≤8) (hno:∀ i (hi:i<L.length),¬ isIn L[i] id) (kk:Int):∀ (i m:Nat),i<L.length→i<m →
  hier_down_L1 n m id (downF (eD d) id (L.drop i)) (i:Int) kk d L=some ((downF (eD d) id L,()),())
 | i,0,hi,h=>by omega
 | 0,m+1,hi,hm=>by
  show hier_down_B1 (hier_down_L1 n m) id (downF (eD d) id L) ((0:Nat):Int) kk d L=_
  unfold hier_down_B1
  rw [cdn (by omega)]
 | i+1,m+1,hi,hm=>by
  show hier_down_B1 (hier_down_L1 n m) id (downF (eD d) id (L.drop (i+1))) ((i+1:Nat):Int) kk d L=_
  have ht1:=tower_drop ht (i+1) hi
  have ed:=List.drop_eq_getElem_cons hi
  rw [ed] at ht1
  have hb:=downF_ok hk ht1 id (hno (i+1) hi)
  rw [← ed] at hb
  have hc1:=(tower_head ht1).1
  have ei:L.drop i=L[i]::L.drop (i+1):=List.drop_eq_getElem_cons (by omega)
  have ih:=hier_down_loop n h hk L ht hl8 id hid hno kk i m (by omega) (by omega)
  have estep:downF (eD d) id (L.drop i)=homeF L[i] (nearF (eD d) id (List.getD L[i+1] (downF (eD d) id (L.drop (i+1))).toNat zc).1):=by
   rw [ei,ed];conv=>lhs;unfold downF
  rw [estep] at ih
  generalize downF (eD d) id (L.drop (i+1))=a at *
  obtain ⟨q,rfl⟩:∃ q:Nat,a=q:=⟨a.toNat,by omega⟩
  have hq:q<L[i+1].length:=by omega
  have e0:List.getD L[i+1] q ([],0)=L[i+1][q]:=getD_at hq _
  have e1:List.getD L[i+1] q zc=L[i+1][q]:=getD_at hq _
  rw [toNat_nat,e1] at ih
  have hcq:=hc1.ris _ (List.getElem_mem hq)
  have hcq8:=hcq.1.le8
  have hci:=tower_all ht _ (List.getElem_mem (show i<L.length by omega))
  have ew:IntKind.wrap .i64 (((i+1:Nat):Int) - 1)=(i:Int):=by rw [wi64 (by omega) (by omega)];omega
  unfold hier_down_B1
  rw [cdp (by omega),cdn (by omega),ew,toNat_nat,toNat_nat,toNat_nat,getD_at hi,getD_at (show i<L.length by omega),e0]
  rw [ct (by simp only [Bool.and_eq_true,decide_eq_true_eq];omega),cdn (by omega),ct (by simp only [Bool.and_eq_true,decide_eq_true_eq];omega),ct (by simp only [Bool.and_eq_true,decide_eq_true_eq];omega),mid_Near_is h hid _ (fun x hx=>hcq.1.range hx) (by omega)]
  dsimp only [Option.bind_some]
  rw [ct (by simp only [Bool.and_eq_true,decide_eq_true_eq];omega),hier_find_is _ _ hci.small.1 hci.small.2]
  exact ih
theorem HOk.none {d:List (List Int)} {k:Nat} (hk:1≤k) {L:List (List Cl)} (h:HOk d k L) {id:Int} (hno:¬ isIn (lowF L) id):∀ i (hi:i<L.length),¬ isIn L[i] id:=fun i hi hx=>by
 have hn:L≠[]:=fun e=>by rw [e] at hi;simp at hi
 obtain ⟨r,e,t,_⟩:=h.tower hk hn
 exact hno (tower_up hk t i hi id hx)
theorem hier_down_is {d:List (List Int)} (h:OkD d) {k:Nat} (hk:1≤k) (L:List (List Cl)) (hL:HOk d k L) (id:Int) (hid:1≤id∧id≤8) (hno:¬ isIn (lowF L) id) (kk:Int):hier_down (kk,d,L) id=some ((downF (eD d) id L,()),()):=by
 show hier_down_T (hier_down_L1 1099511627776 1099511627776) (kk,d,L) id=_
 unfold hier_down_T
 dsimp only
 by_cases hn:L=[]
 ·subst hn
  have key:∀ n m:Nat,0<m→hier_down_L1 n m id 0 (IntKind.wrap .i64 ((([]:List (List Cl)).length:Int) - 1)) kk d []=some ((0,()),()):=by
   intro n m hm
   obtain ⟨m,rfl⟩:∃ m',m=m'+1:=⟨m - 1,by omega⟩
   show hier_down_B1 (hier_down_L1 n m) id 0 (IntKind.wrap .i64 ((([]:List (List Cl)).length:Int) - 1)) kk d []=_
   unfold hier_down_B1
   rw [cdn (by decide)]
  exact key _ _ (by omega)
 ·obtain ⟨r,e,t,hl8,_⟩:=hL.tower hk hn
  have hp:=List.length_pos_iff.2 hn
  have ew:IntKind.wrap .i64 ((L.length:Int) - 1)=((L.length - 1:Nat):Int):=by rw [wi64 (by omega) (by omega)];omega
  have hloop:=hier_down_loop 1099511627776 h hk L t hl8 id hid (hL.none hk hno) kk (L.length - 1) 1099511627776 (by omega) (by omega)
  have hd:downF (eD d) id (L.drop (L.length - 1))=0:=by
   rw [List.drop_eq_getElem_cons (show L.length - 1<L.length by omega),List.drop_of_length_le (by omega)];rfl
  rw [hd] at hloop
  rw [ew,hloop]
theorem hier_Ask_loop (n:Nat) (L:List (List Cl)) (hL:SmallL L) (id:Int):∀ (k m i:Nat),i+k=L.length→k<m →
  hier_Ask_L1 n m id L (L.length:Int) (i:Int)=some ((askF (L.drop i) id,()),())
 | k,0,i,_,h=>by omega
 | 0,m+1,i,hk,hm=>by
  show hier_Ask_B1 (hier_Ask_L1 n m) id L (L.length:Int) (i:Int)=_
  unfold hier_Ask_B1
  rw [cdn (by omega),List.drop_eq_nil_of_le (by omega)];rfl
 | k+1,m+1,i,hk,hm=>by
  show hier_Ask_B1 (hier_Ask_L1 n m) id L (L.length:Int) (i:Int)=_
  have hi:i<L.length:=by omega
  have hl:=hL.len
  obtain ⟨g1,g2⟩:=hL.each _ (List.getElem_mem hi)
  unfold hier_Ask_B1
  rw [cdp (by omega),ct (by simp only [Bool.and_eq_true,decide_eq_true_eq];omega),toNat_nat,getD_at hi,hier_find_is _ _ (fun c hc=>by have:=g2 c hc;omega) (by omega),List.drop_eq_getElem_cons hi,inext (by omega)]
  dsimp only [Option.bind_some]
  conv=>rhs;unfold askF
  by_cases hh:idxF L[i] id<L[i].length
  ·have e0:List.getD L[i] (idxF L[i] id) ([],0)=L[i][idxF L[i] id]:=getD_at hh _
   have e1:List.getD L[i] (idxF L[i] id) zc=L[i][idxF L[i] id]:=getD_at hh _
   have hhm:homeF L[i] id=(idxF L[i] id:Int):=by unfold homeF;rw [if_pos hh]
   rw [hhm,cdn (by omega),ct (by simp only [Bool.and_eq_true,decide_eq_true_eq];omega),toNat_nat,e0,if_pos hh,e1]
   by_cases hl2:L[i][idxF L[i] id].2=id
   ·rw [cnen hl2,if_neg (fun g=>g hl2),hier_Ask_loop n L hL id k m (i+1) (by omega) (by omega)]
   ·rw [cnep hl2,ct (by simp only [Bool.and_eq_true,decide_eq_true_eq];omega),if_pos hl2]
  ·have hhm:homeF L[i] id=-1:=by unfold homeF;rw [if_neg hh]
   rw [hhm,cdp (by omega),if_neg hh]
theorem hier_Ask_is (k:Int) (d:List (List Int)) (L:List (List Cl)) (hL:SmallL L) (id:Int):hier_Ask (k,d,L) id=some ((askF L id,()),()):=by
 have:=hier_Ask_loop 1099511627776 L hL id L.length 1099511627776 0 (by omega) (by have:=hL.len;omega)
 rw [List.drop_zero] at this
 exact this
def joinH (d:List (List Int)) (k:Nat) (L:List (List Cl)) (id:Int):List (List Cl):=
 if id<1∨id>8∨0≤homeF (lowF L) id then L else aboveF (eD d) k 9 (joinF (eD d) k (lowF L) (downF (eD d) id L) id)
def leaveH (d:List (List Int)) (k:Nat) (L:List (List Cl)) (id:Int):List (List Cl):=
 if homeF (lowF L) id<0 then L else aboveF (eD d) k 9 (leaveF (eD d) k (lowF L) id)
theorem joinH_ok {d:List (List Int)} {k:Nat} (hk:1≤k) {L:List (List Cl)} (h:HOk d k L) (id:Int):HOk d k (joinH d k L id):=by
 unfold joinH
 by_cases hc:id<1∨id>8∨0≤homeF (lowF L) id
 ·rw [if_pos hc];exact h
 ·rw [if_neg hc]
  have hj:=joinF_clus (D:=eD d) hk (at_:=downF (eD d) id L) (id:=id) (by omega) (by omega) h.clus
  exact (HOk.of hk hj.1 (hj.2.1 h.sized)).1
theorem leaveH_ok {d:List (List Int)} {k:Nat} (hk:1≤k) {L:List (List Cl)} (h:HOk d k L) (id:Int):HOk d k (leaveH d k L id):=by
 unfold leaveH
 by_cases hc:homeF (lowF L) id<0
 ·rw [if_pos hc];exact h
 ·rw [if_neg hc]
  have hj:=leaveF_clus (D:=eD d) hk (id:=id) h.clus
  exact (HOk.of hk hj.1 (hj.2.1 h.sized)).1
theorem hier_Join_is {d:List (List Int)} (h:OkD d) {k:Nat} (hk:1≤k) (hk2:k≤100) (L:List (List Cl)) (hL:HOk d k L) (id:Int):hier_Join ((k:Int),d,L) id=some ((((k:Int),d,joinH d k L id),()),()):=by
 unfold hier_Join joinH
 rw [hier_copied_is h _ L (hL.small hk)]
 dsimp only [Option.bind_some]
 by_cases c1:id<1
 ·rw [cdp c1,if_pos (.inl c1)]
 rw [cdn c1]
 by_cases c2:id>8
 ·rw [cdp c2,if_pos (.inr (.inl c2))]
 rw [cdn c2,hier_all_is]
 dsimp only [Option.bind_some]
 rw [hier_find_is _ _ hL.clus.small.1 hL.clus.small.2]
 dsimp only [Option.bind_some]
 by_cases c3:0≤homeF (lowF L) id
 ·rw [cdp (by omega),if_pos (.inr (.inr c3))]
 have hno:¬ isIn (lowF L) id:=fun hx=>c3 (homeF_pos.2 hx)
 have hj:=joinF_clus (D:=eD d) hk (at_:=downF (eD d) id L) (id:=id) (by omega) (by omega) hL.clus
 rw [cdn (by omega),if_neg (by omega),hier_down_is h hk L hL id (by omega) hno]
 dsimp only [Option.bind_some]
 rw [clus_Join_is h hk hk2 _ hL.clus _ _ (by omega)]
 dsimp only [Option.bind_some]
 rw [hier_above_is h hk hk2 L _ hj.1];rfl
theorem hier_Leave_is {d:List (List Int)} (h:OkD d) {k:Nat} (hk:1≤k) (hk2:k≤100) (L:List (List Cl)) (hL:HOk d k L) (id:Int):hier_Leave ((k:Int),d,L) id=some ((((k:Int),d,leaveH d k L id),()),()):=by
 unfold hier_Leave leaveH
 rw [hier_copied_is h _ L (hL.small hk)]
 dsimp only [Option.bind_some]
 rw [hier_all_is]
 dsimp only [Option.bind_some]
 rw [hier_find_is _ _ hL.clus.small.1 hL.clus.small.2]
 dsimp only [Option.bind_some]
 by_cases c3:homeF (lowF L) id<0
 ·rw [cdp c3,if_pos c3]
 have hj:=leaveF_clus (D:=eD d) hk (id:=id) hL.clus
 rw [cdn c3,if_neg c3,clus_Leave_is h hk hk2 _ hL.clus]
 dsimp only [Option.bind_some]
 rw [hier_above_is h hk hk2 L _ hj.1];rfl
end Go.PE
