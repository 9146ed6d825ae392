/-
  Plain lemmas on the functions.
  Conditions: none.
-/
import Derived.Test.YtemajkklbjdmjaaGreatHierAllPGrpSpec
set_option linter.unusedVariables false
set_option linter.unusedSimpArgs false
set_option maxRecDepth 20000
namespace Go.PE
def leadF (cs:List Cl):List Int:=rising (cs.map (·.2))
theorem ris_leadF (cs:List Cl):Ris (leadF cs):=ris_rising _
theorem Clus.leads {D:Int→Int→Int} {cs:List Cl} (h:Clus D cs):(∀ x,x∈leadF cs↔∃ c∈cs,c.2=x)∧(leadF cs).length=cs.length∧(cs.map (·.2)).Nodup∧(∀ x∈cs.map (·.2),1≤x∧x≤8):=by
 have hr:∀ c∈cs,1≤c.2∧c.2≤8:=fun c hc=>(h.ris c hc).1.range (Clus.midIn (h.ris c hc))
 have hm:∀ x,x∈leadF cs↔∃ c∈cs,c.2=x:=fun x=>by
  unfold leadF
  rw [mem_rising,List.mem_map]
  constructor
  ·exact fun h=>h.2
  ·rintro ⟨c,hc,rfl⟩;exact ⟨hr c hc,c,hc,rfl⟩
 have hnd:(cs.map (·.2)).Nodup:=by
  unfold List.Nodup
  rw [List.pairwise_map]
  refine h.apart.imp_of_mem (fun {a b} ha hb hab e=>?_)
  have h1:=Clus.midIn (h.ris a ha)
  have h2:=Clus.midIn (h.ris b hb)
  rw [← e] at h2
  exact hab _ h1 h2
 refine ⟨hm,?_,hnd,fun x hx=>?_⟩
 ·have hp:(leadF cs).Perm (cs.map (·.2)):=by
   rw [List.perm_ext_iff_of_nodup (ris_leadF cs).nodup hnd]
   intro x;rw [hm x,List.mem_map]
  rw [hp.length_eq,List.length_map]
 ·obtain ⟨c,hc,rfl⟩:=List.mem_map.1 hx;exact hr c hc
def aboveF (D:Int→Int→Int) (k:Nat):Nat→List Cl→List (List Cl)
 | 0,_=>[]
 | n+1,cs=>if cs=[] then [] else if cs.length=1 then [cs] else cs::aboveF D k n (groupF D k (leadF cs))
def Tower (D:Int→Int→Int) (k:Nat):List (List Cl)→Prop
 | []=>False
 | [cs]=>Clus D cs∧cs.length=1
 | cs::ds::r=>Clus D cs∧2≤cs.length∧ds=groupF D k (leadF cs)∧Tower D k (ds::r)
theorem aboveF_tower {D:Int→Int→Int} {k:Nat} (hk:1≤k):∀ (n:Nat) (cs:List Cl),Clus D cs→cs≠[]→cs.length≤n→∃ r,aboveF D k n cs=cs::r∧Tower D k (cs::r)∧r.length<cs.length
 | 0,cs,_,hn,h=>by cases cs with
  | nil=>exact absurd rfl hn
  | cons x t=>simp at h
 | n+1,cs,hc,hn,h=>by
  have:=List.length_pos_iff.2 hn
  unfold aboveF
  rw [if_neg hn]
  by_cases h1:cs.length=1
  ·rw [if_pos h1];exact ⟨[],rfl,⟨hc,h1⟩,by simp;omega⟩
  ·rw [if_neg h1]
   obtain ⟨l1,l2,l3,l4⟩:=hc.leads
   have hlr:Ris (leadF cs):=ris_rising _
   obtain ⟨g1,g2,g3,g4,g5,g6⟩:=groupF_clus (D:=D) hk hlr
   have hln:leadF cs≠[]:=fun e=>by rw [e] at l2;simp at l2;omega
   have:=g4 (by omega)
   obtain ⟨r,e1,e2,e3⟩:=aboveF_tower hk n _ g1 (g5 hln) (by omega)
   refine ⟨groupF D k (leadF cs)::r,by rw [e1],⟨hc,by omega,rfl,e2⟩,?_⟩
   rw [List.length_cons];omega
theorem aboveF_more {D:Int→Int→Int} {k:Nat} (hk:1≤k):∀ (n m:Nat) (cs:List Cl),Clus D cs→cs.length≤n→n≤m→cs≠[]→aboveF D k n cs=aboveF D k m cs
 | 0,m,cs,_,h,_,hn=>by cases cs with
  | nil=>exact absurd rfl hn
  | cons x t=>simp at h
 | n+1,0,cs,hc,h,hm,_=>by omega
 | n+1,m+1,cs,hc,h,hm,hn=>by
  have:=List.length_pos_iff.2 hn
  unfold aboveF
  rw [if_neg hn,if_neg hn]
  by_cases h1:cs.length=1
  ·rw [if_pos h1,if_pos h1]
  ·rw [if_neg h1,if_neg h1]
   obtain ⟨l1,l2,l3,l4⟩:=hc.leads
   have hlr:Ris (leadF cs):=ris_rising _
   obtain ⟨g1,g2,g3,g4,g5,g6⟩:=groupF_clus (D:=D) hk hlr
   have hln:leadF cs≠[]:=fun e=>by rw [e] at l2;simp at l2;omega
   have:=g4 (by omega)
   rw [aboveF_more hk n m _ g1 (by omega) (by omega) (g5 hln)]
def askF:List (List Cl)→Int→Int
 | [],_=>0
 | cs::r,id=>if idxF cs id<cs.length then (if (List.getD cs (idxF cs id) zc).2≠id then (List.getD cs (idxF cs id) zc).2 else askF r id) else 0
def ldF:List (List Cl)→Int→Nat
 | [],_=>0
 | cs::r,id=>if idxF cs id<cs.length then (if (List.getD cs (idxF cs id) zc).2≠id then 0 else 1+ldF r id) else 0
theorem tower_head {D:Int→Int→Int} {k:Nat}:∀ {cs:List Cl} {r:List (List Cl)},Tower D k (cs::r)→Clus D cs∧cs≠[]
 | cs,[],h=>⟨h.1,fun e=>by have:=h.2;rw [e] at this;simp at this⟩
 | cs,d::r,h=>⟨h.1,fun e=>by have:=h.2.1;rw [e] at this;simp at this⟩
theorem ldF_le:∀ (L:List (List Cl)) (id:Int),ldF L id≤L.length
 | [],_=>Nat.le_refl _
 | cs::r,id=>by
  have:=ldF_le r id
  unfold ldF
  rw [List.length_cons]
  split
  ·split<;>omega
  ·omega
theorem tower_ask {D:Int→Int→Int} {k:Nat} (hk:1≤k):∀ {r:List (List Cl)} {cs:List Cl},Tower D k (cs::r)→∀ id,isIn cs id →
  (askF (cs::r) id=0∨(askF (cs::r) id≠0∧askF (cs::r) id≠id∧isIn cs (askF (cs::r) id)∧ldF (cs::r) id<ldF (cs::r) (askF (cs::r) id)))
 | r,cs,ht,id,hid=>by
  obtain ⟨hc,hn⟩:=tower_head ht
  have hlt:=idxF_lt.2 hid
  have hm:=idxF_mem hlt
  have e1:askF (cs::r) id=if (cs[idxF cs id]).2≠id then (cs[idxF cs id]).2 else askF r id:=by
   conv=>lhs;unfold askF
   rw [if_pos hlt,getD_lt hlt]
  have e2:ldF (cs::r) id=if (cs[idxF cs id]).2≠id then 0 else 1+ldF r id:=by
   conv=>lhs;unfold ldF
   rw [if_pos hlt,getD_lt hlt]
  have hk0:=hc.ris _ (List.getElem_mem hlt)
  have hmid:=Clus.midIn hk0
  generalize idxF cs id=i at *
  by_cases hl:(cs[i]).2=id
  ·rw [if_neg (fun h=>h hl)] at e1 e2
   match r,ht with
   | [],ht=>left;rw [e1];rfl
   | ds::r,ht=>
    obtain ⟨_,h2,rfl,ht'⟩:=ht
    have hin:isIn (groupF D k (leadF cs)) id:=by
     rw [(groupF_clus hk (ris_leadF cs)).2.2.1,hc.leads.1];exact ⟨_,List.getElem_mem hlt,hl⟩
    rcases tower_ask hk ht' id hin with h | ⟨h1,h2,h3,h4⟩
    ·left;rw [e1,h]
    ·right
     rw [e1,e2]
     generalize askF (groupF D k (leadF cs)::r) id=x at *
     have hx:x∈leadF cs:=by rwa [(groupF_clus hk (ris_leadF cs)).2.2.1] at h3
     obtain ⟨c,hcm,rfl⟩:=(hc.leads.1 _).1 hx
     have hcx:=Clus.midIn (hc.ris c hcm)
     refine ⟨h1,h2,⟨c,hcm,hcx⟩,?_⟩
     obtain ⟨j,hj,rfl⟩:=List.getElem_of_mem hcm
     have hji:=hc.idx hj hcx
     have:ldF (cs::groupF D k (leadF cs)::r) (cs[j]).2=1+ldF (groupF D k (leadF cs)::r) (cs[j]).2:=by
      conv=>lhs;unfold ldF
      rw [if_pos (by omega),getD_lt (by omega)]
      simp only [hji]
      rw [if_neg (fun h=>h rfl)]
     omega
  ·rw [if_pos hl] at e1 e2
   right
   rw [e1,e2]
   have h1:=hk0.1.range hmid
   refine ⟨by omega,hl,⟨_,List.getElem_mem hlt,hmid⟩,?_⟩
   have hji:=hc.idx hlt hmid
   conv=>rhs;unfold ldF
   rw [if_pos (by omega),getD_lt (by omega)]
   simp only [hji]
   rw [if_neg (fun h=>h rfl)]
   omega
theorem askF_out {cs:List Cl} {r:List (List Cl)} {id:Int} (h:¬ isIn cs id):askF (cs::r) id=0:=by
 unfold askF;rw [if_neg (fun h'=>h (idxF_lt.1 h'))]
theorem tower_top {D:Int→Int→Int} {k:Nat} (hk:1≤k):∀ {r:List (List Cl)} {cs:List Cl},Tower D k (cs::r)→∃ t,isIn cs t∧∀ id,isIn cs id→(askF (cs::r) id=0↔id=t)
 | [],cs,ht=>by
  obtain ⟨hc,h1⟩:=ht
  match cs,h1 with
  | [c],_=>
   have h0:=hc.ris c (List.mem_cons_self ..)
   have hmid:=Clus.midIn h0
   refine ⟨c.2,⟨c,List.mem_cons_self ..,hmid⟩,fun id hid=>?_⟩
   have hlt:=idxF_lt.2 hid
   unfold askF
   rw [if_pos hlt,getD_lt hlt]
   have:idxF [c] id=0:=by simp at hlt;exact hlt
   simp only [this]
   show (if c.2≠id then c.2 else askF [] id)=0↔_
   have:=h0.1.range hmid
   by_cases h:c.2=id
   ·rw [if_neg (fun g=>g h)];exact ⟨fun _=>h.symm,fun _=>rfl⟩
   ·rw [if_pos h];exact ⟨fun g=>by omega,fun g=>absurd g.symm h⟩
 | ds::r,cs,ht=>by
  obtain ⟨hc,h2,rfl,ht'⟩:=ht
  have hg:=groupF_clus (D:=D) hk (ris_leadF cs)
  obtain ⟨t,h3,h4⟩:=tower_top hk ht'
  have hin:∀ x,isIn (groupF D k (leadF cs)) x↔∃ c∈cs,c.2=x:=fun x=>by rw [← hc.leads.1];exact hg.2.2.1 x
  obtain ⟨ct,hct,hct2⟩:=(hin t).1 h3
  refine ⟨t,⟨ct,hct,hct2▸Clus.midIn (hc.ris ct hct)⟩,fun id hid=>?_⟩
  have hlt:=idxF_lt.2 hid
  have hk0:=hc.ris _ (List.getElem_mem hlt)
  have hmid:=Clus.midIn hk0
  have:=hk0.1.range hmid
  have hidm:=idxF_mem hlt
  have e1:askF (cs::groupF D k (leadF cs)::r) id=if (cs[idxF cs id]).2≠id then (cs[idxF cs id]).2 else askF (groupF D k (leadF cs)::r) id:=by
   conv=>lhs;unfold askF
   rw [if_pos hlt,getD_lt hlt]
  rw [e1]
  by_cases h:(cs[idxF cs id]).2=id
  ·rw [if_neg (fun g=>g h)]
   exact h4 id ((hin id).2 ⟨_,List.getElem_mem hlt,h⟩)
  ·rw [if_pos h]
   refine ⟨fun g=>by omega,fun g=>?_⟩
   subst g
   exfalso
   obtain ⟨j,hj,rfl⟩:=List.getElem_of_mem hct
   have hm2:=Clus.midIn (hc.ris _ (List.getElem_mem hj))
   rw [hct2] at hm2
   have hij:=hc.two hlt hj hidm hm2
   apply h
   simp only [hij];exact hct2
def downF (D:Int→Int→Int) (id:Int):List (List Cl)→Int
 | []=>0
 | [_]=>0
 | cs::ds::r=>homeF cs (nearF D id (List.getD ds (downF D id (ds::r)).toNat zc).1)
theorem downF_ok {D:Int→Int→Int} {k:Nat} (hk:1≤k):∀ {r:List (List Cl)} {cs:List Cl},Tower D k (cs::r)→∀ id,¬ isIn cs id→0≤downF D id (cs::r)∧downF D id (cs::r)<(cs.length:Int)
 | [],cs,ht,id,_=>by
  have:=ht.2
  unfold downF;omega
 | ds::r,cs,ht,id,hid=>by
  obtain ⟨hc,h2,rfl,ht'⟩:=ht
  have hg:=groupF_clus (D:=D) hk (ris_leadF cs)
  have hin:∀ x,isIn (groupF D k (leadF cs)) x↔∃ c∈cs,c.2=x:=fun x=>by rw [← hc.leads.1];exact hg.2.2.1 x
  have hid':¬ isIn (groupF D k (leadF cs)) id:=fun h=>by
   obtain ⟨c,hcm,rfl⟩:=(hin id).1 h
   exact hid ⟨c,hcm,Clus.midIn (hc.ris c hcm)⟩
  have ih:=downF_ok hk ht' id hid'
  unfold downF
  generalize downF D id (groupF D k (leadF cs)::r)=a at *
  obtain ⟨n,rfl⟩:∃ n:Nat,a=n:=⟨a.toNat,by omega⟩
  have hn:n<(groupF D k (leadF cs)).length:=by omega
  rw [Int.toNat_natCast,getD_lt hn]
  have hk0:=hg.1.ris _ (List.getElem_mem hn)
  obtain ⟨z,hz⟩:=List.exists_mem_of_ne_nil _ hk0.2.1
  have hzid:z≠id:=fun e=>hid' ⟨_,List.getElem_mem hn,e▸hz⟩
  have hnear:=(nearF_mem (D:=D) (m:=id) (fun x hx=>by have:=hk0.1.range hx;omega) hz hzid).1
  obtain ⟨c,hcm,hc2⟩:=(hin _).1 ⟨_,List.getElem_mem hn,hnear⟩
  have hi:isIn cs (nearF D id (groupF D k (leadF cs))[n].1):=⟨c,hcm,by rw [← hc2];exact Clus.midIn (hc.ris c hcm)⟩
  have hlt:=idxF_lt.2 hi
  unfold homeF
  rw [if_pos hlt]
  omega
end Go.PE
