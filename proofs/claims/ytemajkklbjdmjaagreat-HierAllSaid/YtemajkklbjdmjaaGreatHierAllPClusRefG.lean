/-
  Plain lemmas on the functions.
  Conditions: none.
-/
import Derived.Test.YtemajkklbjdmjaaGreatHierAllPClusRef2
set_option linter.unusedVariables false
set_option linter.unusedSimpArgs false
set_option maxRecDepth 20000
namespace Go.PE
theorem ref_parted_is {d:List (List Int)} (h:OkD d) {k:Nat} (hk:1≤k) (hk2:k≤100) (cs:List Cl) (hl:cs.length≤1000) (i:Nat) (hi:i<cs.length) (hr:Ris cs[i].1) (h2:2≤cs[i].1.length) :
  pleachref7_parted d cs (i:Int) (k:Int)=some ((partF (eD d) k cs i,()),()):=by
 unfold pleachref7_parted partF
 have e0:List.getD cs i ([],0)=cs[i]:=getD_at hi _
 have e1:List.getD cs i zc=cs[i]:=getD_at hi _
 have t:=(splitF_spec (D:=eD d) hk hr h2).1
 have l1:=t.ra.le8
 have l2:=t.rb.le8
 rw [toNat_nat,e0,e1,ct (by simp only [Bool.and_eq_true,decide_eq_true_eq];omega),ref_Split_is h _ hr hk hk2]
 dsimp only [Option.bind_some]
 rw [ct (by simp only [Bool.and_eq_true,decide_eq_true_eq];omega),cbp (by rw [List.drop_zero,List.length_take];omega),ref_Of_is h _ (fun x hx=>t.ra.range hx) (by omega),ref_Of_is h _ (fun x hx=>t.rb.range hx) (by omega)]
 dsimp only [Option.bind_some]
 rw [inext (by omega),cbp (by rw [List.nil_append,List.drop_zero,List.length_take];omega),ct (by simp only [Bool.and_eq_true,decide_eq_true_eq];omega),toNat_nat,toNat_nat,List.take_length]
 rw [cbp (by simp only [List.nil_append,List.drop_zero,List.length_append,List.length_take,List.length_drop,List.length_cons,List.length_nil];omega),List.nil_append,List.drop_zero]
theorem rgroup_walk (n:Nat) (hn20:20<n) {d:List (List Int)} (h:OkD d) {k:Nat} (hk:1≤k) (hk2:k≤100):∀ (g:Nat) (l:List Int),Ris l→l≠[]→l.length≤g→∀ (q m:Nat) (pre rest:List Cl),l.length<q→2*(grpF (eD d) k g l).length≤m→pre.length+rest.length+l.length≤500 →
  pleachref7_Group_L3 n m (pleachref7_Group_L1 n m) q d (k:Int) ((pre.length:Nat):Int) (pre++ofF (eD d) l::rest) =
   pleachref7_Group_L1 n (m+1 - (grpF (eD d) k g l).length) d (k:Int) ((pre.length+(grpF (eD d) k g l).length:Nat):Int) (pre++(grpF (eD d) k g l).map (ofF (eD d))++rest)
 | 0,l,_,hn,hg,q,m,pre,rest,hq,hm,hb=>absurd (List.length_eq_zero_iff.1 (by omega)) hn
 | g+1,l,hl,hn,hg,0,m,pre,rest,hq,hm,hb=>by omega
 | g+1,l,hl,hn,hg,q+1,m,pre,rest,hq,hm,hb=>by
  have hi:pre.length<(pre++ofF (eD d) l::rest).length:=by simp
  have e1:pleachref7_Group_L3 n m (pleachref7_Group_L1 n m) (q+1) d (k:Int) ((pre.length:Nat):Int) (pre++ofF (eD d) l::rest)=pleachref7_Group_B3 (pleachref7_Group_L3 n m (pleachref7_Group_L1 n m) q) (pleachref7_Group_L1 n m) d (k:Int) ((pre.length:Nat):Int) (pre++ofF (eD d) l::rest):=rfl
  rw [e1]
  unfold pleachref7_Group_B3
  have e0:List.getD (pre++ofF (eD d) l::rest) pre.length ([],0)=ofF (eD d) l:=by rw [getD_at hi,at_mid]
  have hw:IntKind.wrap .i64 ((IntKind.wrap .i64 (3*(k:Int))) - 1)=((3*k - 1:Nat):Int):=by rw [wi64 (x:=3*(k:Int)) (by omega) (by omega),wi64 (by omega) (by omega)];omega
  rw [toNat_nat,e0,hw,ct (by simp only [Bool.and_eq_true,decide_eq_true_eq];omega),ct (by simp only [Bool.and_eq_true,decide_eq_true_eq];omega)]
  have eg:grpF (eD d) k (g+1) l=if l.length≤3*k - 1 then [l] else grpF (eD d) k g (splitF (eD d) k l).1++grpF (eD d) k g (splitF (eD d) k l).2:=by
   conv=>lhs;unfold grpF
  rw [eg] at hm ⊢
  by_cases h2:l.length≤3*k - 1
  ·rw [if_pos h2,cdn (show ¬ (((ofF (eD d) l).1.length:Int)>_) by show ¬ ((l.length:Int)>_);omega),inext (by omega)]
   simp
  ·rw [if_neg h2,cdp (show (((ofF (eD d) l).1.length:Int)>_) by show ((l.length:Int)>_);omega)]
   rw [if_neg h2] at hm
   have hp:=ref_parted_is h hk hk2 (pre++ofF (eD d) l::rest) (by simp;omega) pre.length hi (by rw [at_mid];exact hl) (by rw [at_mid];show 2≤l.length;omega)
   rw [partF_at] at hp
   rw [hp]
   dsimp only [Option.bind_some]
   obtain ⟨s1,s2,s3,s4,s5⟩:=splitF_short (D:=eD d) hk hl (by omega)
   have t:=(splitF_spec (D:=eD d) hk hl (by omega)).1
   generalize splitF (eD d) k l=S at *
   have pa:=grpF_pos (D:=eD d) hk t.ra s1 (show S.1.length≤g by omega)
   have pb:=grpF_pos (D:=eD d) hk t.rb s2 (show S.2.length≤g by omega)
   have fa:=(grpF_fewer (D:=eD d) hk g S.1 t.ra s1 (by omega)).1
   rw [List.length_append] at hm ⊢
   rw [rgroup_walk n hn20 h hk hk2 g S.1 t.ra s1 (by omega) q m pre (ofF (eD d) S.2::rest) (by omega) (by omega) (by rw [List.length_cons];omega)]
   have em:m+1 - (grpF (eD d) k g S.1).length=(m - (grpF (eD d) k g S.1).length)+1:=by omega
   have hlb:=t.rb.le8
   rw [em]
   have ib:=rgroup_walk n hn20 h hk hk2 g S.2 t.rb s2 (by omega) n (m - (grpF (eD d) k g S.1).length) (pre++(grpF (eD d) k g S.1).map (ofF (eD d))) rest (by omega) (by omega) (by rw [List.length_append,List.length_map];omega)
   rw [List.length_append,List.length_map] at ib
   have step:pleachref7_Group_L1 n ((m - (grpF (eD d) k g S.1).length)+1) d (k:Int) ((pre.length+(grpF (eD d) k g S.1).length:Nat):Int) (pre++(grpF (eD d) k g S.1).map (ofF (eD d))++ofF (eD d) S.2::rest) =
     pleachref7_Group_L3 n (m - (grpF (eD d) k g S.1).length) (pleachref7_Group_L1 n (m - (grpF (eD d) k g S.1).length)) n d (k:Int) ((pre.length+(grpF (eD d) k g S.1).length:Nat):Int) (pre++(grpF (eD d) k g S.1).map (ofF (eD d))++ofF (eD d) S.2::rest):=by
    show pleachref7_Group_B1 (pleachref7_Group_L2 n (m - (grpF (eD d) k g S.1).length) (pleachref7_Group_L1 n (m - (grpF (eD d) k g S.1).length)) n) d (k:Int) _ _=_
    unfold pleachref7_Group_B1
    rw [cdp (by simp;omega)]
    obtain ⟨n,rfl⟩:∃ n',n=n'+1:=⟨n - 1,by omega⟩
    rfl
   rw [step,ib]
   have en:m - (grpF (eD d) k g S.1).length+1 - (grpF (eD d) k g S.2).length=m+1 - ((grpF (eD d) k g S.1).length+(grpF (eD d) k g S.2).length):=by omega
   rw [en,List.map_append,Nat.add_assoc pre.length]
   simp only [List.append_assoc]
theorem ref_Group_is {d:List (List Int)} (h:OkD d) {k:Nat} (hk:1≤k) (hk2:k≤100) (l:List Int) (hl:Ris l):pleachref7_Group d l (k:Int)=some ((groupF (eD d) k l,()),()):=by
 have h8:=hl.le8
 show pleachref7_Group_T (pleachref7_Group_L1 1099511627776 1099511627776) d l (k:Int)=_
 unfold pleachref7_Group_T groupF
 by_cases hn:l=[]
 ·rw [ceqp (by rw [hn];rfl),if_pos hn]
 have:=List.length_pos_iff.2 hn
 rw [ceqn (by omega),if_neg hn,ref_Of_is h l (fun x hx=>hl.range hx) (by omega)]
 dsimp only [Option.bind_some]
 have f:=(grpF_fewer (D:=eD d) hk 8 l hl hn h8).1
 have key:∀ n m:Nat,20<n→20≤m→pleachref7_Group_L1 n m d (k:Int) 0 [ofF (eD d) l]=some (((grpF (eD d) k 8 l).map (ofF (eD d)),()),()):=by
  intro n m hn20 hm
  obtain ⟨m,rfl⟩:∃ m',m=m'+1:=⟨m - 1,by omega⟩
  have e0:pleachref7_Group_L1 n (m+1) d (k:Int) 0 [ofF (eD d) l]=pleachref7_Group_L3 n m (pleachref7_Group_L1 n m) n d (k:Int) ((([]:List Cl).length:Nat):Int) ([]++ofF (eD d) l::[]):=by
   have e00:pleachref7_Group_L1 n (m+1) d (k:Int) 0 [ofF (eD d) l]=pleachref7_Group_B1 (pleachref7_Group_L2 n m (pleachref7_Group_L1 n m) n) d (k:Int) 0 [ofF (eD d) l]:=rfl
   rw [e00]
   unfold pleachref7_Group_B1
   rw [cdp (by simp)]
   obtain ⟨n,rfl⟩:∃ n',n=n'+1:=⟨n - 1,by omega⟩
   rfl
  rw [e0,rgroup_walk n hn20 h hk hk2 8 l hl hn h8 n m [] [] (by omega) (by omega) (by simp;omega)]
  obtain ⟨q,hq⟩:∃ q,m+1 - (grpF (eD d) k 8 l).length=q+1:=⟨m - (grpF (eD d) k 8 l).length,by omega⟩
  rw [hq,List.nil_append,List.append_nil]
  show pleachref7_Group_B1 (pleachref7_Group_L2 n q (pleachref7_Group_L1 n q) n) d (k:Int) _ _=_
  unfold pleachref7_Group_B1
  rw [cdn (by rw [List.length_map,List.length_nil];omega)]
 exact key _ _ (by omega) (by omega)
end Go.PE
