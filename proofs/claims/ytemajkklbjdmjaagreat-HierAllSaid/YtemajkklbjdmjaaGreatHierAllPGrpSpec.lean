/-
  Plain lemmas on the functions.
  Conditions: none.
-/
import Derived.Test.YtemajkklbjdmjaaGreatHierAllPClusSpec
set_option linter.unusedVariables false
set_option linter.unusedSimpArgs false
set_option maxRecDepth 20000
namespace Go.PE
theorem grpF_fewer {D:Int→Int→Int} {k:Nat} (hk:1≤k):∀ (n:Nat) (l:List Int),Ris l→l≠[]→l.length≤n→(grpF D k n l).length≤l.length∧(2≤l.length→(grpF D k n l).length<l.length)
 | 0,l,_,hn,h=>by cases l with
  | nil=>exact absurd rfl hn
  | cons x t=>simp at h
 | n+1,l,hl,hn,h=>by
  have:=List.length_pos_iff.2 hn
  unfold grpF
  by_cases hc:l.length≤3*k - 1
  ·rw [if_pos hc];exact ⟨by simp;omega,fun h=>by simp;omega⟩
  ·rw [if_neg hc]
   have h2:2≤l.length:=by omega
   obtain ⟨s1,s2,s3,s4,s5⟩:=splitF_short (D:=D) hk hl h2
   obtain ⟨t,te⟩:=splitF_spec (D:=D) hk hl h2
   generalize splitF D k l=S at *
   have pa:=grpF_fewer (D:=D) hk n S.1 t.ra s1 (by omega)
   have pb:=grpF_fewer (D:=D) hk n S.2 t.rb s2 (by omega)
   have:=List.length_pos_iff.2 s1
   have:=List.length_pos_iff.2 s2
   rw [List.length_append]
   refine ⟨by omega,fun _=>?_⟩
   by_cases ha:2≤S.1.length
   ·have:=pa.2 ha;omega
   ·by_cases hb:2≤S.2.length
    ·have:=pb.2 hb;omega
    ·omega
theorem groupF_clus {D:Int→Int→Int} {k:Nat} (hk:1≤k) {l:List Int} (hl:Ris l) :
  Clus D (groupF D k l)∧Sized k (groupF D k l)∧(∀ x,isIn (groupF D k l) x↔x∈l)∧(2≤l.length→(groupF D k l).length<l.length)∧(l≠[]→groupF D k l≠[])∧(l≠[]→((groupF D k l).length=1↔l.length≤3*k - 1)):=by
 unfold groupF
 by_cases hn:l=[]
 ·rw [if_pos hn];subst hn
  exact ⟨Clus.nil,⟨fun _ hc=>(nomatch hc),fun h=>by simp at h⟩,fun x=>by simp [isIn_nil],fun h=>by simp at h,fun h=>absurd rfl h,fun h=>absurd rfl h⟩
 ·rw [if_neg hn]
  have h8:=hl.le8
  have p:=grpF_parts (D:=D) hk 8 l hl hn h8
  have f:=grpF_fewer (D:=D) hk 8 l hl hn h8
  refine ⟨⟨fun c hc=>?_,?_⟩,⟨fun c hc=>?_,fun h1 c hc=>?_⟩,fun x=>?_,fun h=>by rw [List.length_map];exact f.2 h,fun _ e=>p.some (List.map_eq_nil_iff.1 e),fun _=>by rw [List.length_map];exact p.one⟩
  ·obtain ⟨m,hm,rfl⟩:=List.mem_map.1 hc
   exact ofF_ok (p.ris m hm).1 (p.ris m hm).2.1
  ·rw [List.pairwise_map];exact p.apart
  ·obtain ⟨m,hm,rfl⟩:=List.mem_map.1 hc
   exact (p.ris m hm).2.2
  ·obtain ⟨m,hm,rfl⟩:=List.mem_map.1 hc
   rw [List.length_map] at h1
   refine p.enough ?_ m hm
   have:=p.one
   omega
  ·rw [p.mem x]
   unfold isIn
   constructor
   ·rintro ⟨c,hc,hx⟩
    obtain ⟨m,hm,rfl⟩:=List.mem_map.1 hc
    exact ⟨m,hm,hx⟩
   ·rintro ⟨m,hm,hx⟩
    exact ⟨_,List.mem_map_of_mem hm,hx⟩
end Go.PE
