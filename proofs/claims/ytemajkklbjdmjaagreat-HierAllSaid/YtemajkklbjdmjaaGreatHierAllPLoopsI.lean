/-
  Plain lemmas on the functions.
  Conditions: none.
-/
import Derived.Test.YtemajkklbjdmjaaGreatHierAllPNum
set_option linter.unusedVariables false
set_option linter.unusedSimpArgs false
set_option maxRecDepth 20000
namespace Go.PE
theorem getD_at {α:Type} {l:List α} {i:Nat} (h:i<l.length) (d:α):List.getD l i d=l[i]:=by
 rw [List.getD_eq_getElem?_getD,List.getElem?_eq_getElem h];rfl
theorem inext {i:Nat} (h:i<4611686018427387904):IntKind.wrap .i64 ((i:Int)+1)=((i+1:Nat):Int):=by rw [wi64 (by omega) (by omega)];omega
theorem toNat_nat (i:Nat):(i:Int).toNat=i:=rfl
theorem cneq {α:Type} {x y:Int} {a b:α}:(bif x != y then a else b)=if x=y then b else a:=by
 by_cases h:x=y
 ·rw [cnen h,if_pos h]
 ·rw [cnep h,if_neg h]
theorem ceq {α:Type} {x y:Int} {a b:α}:(bif x==y then a else b)=if x=y then a else b:=by
 by_cases h:x=y
 ·rw [ceqp h,if_pos h]
 ·rw [ceqn h,if_neg h]
theorem kinc {k:Int} (h1:0≤k) (h2:k≤1000000):IntKind.wrap .i64 (k+1)=k+1:=wi64 (by omega) (by omega)
theorem ct {α:Type} {c:Bool} {a b:α} (h:c=true):(bif c then a else b)=a:=by rw [h];rfl
theorem cf {α:Type} {c:Bool} {a b:α} (h:c=false):(bif c then a else b)=b:=by rw [h];rfl
theorem ceq2 {a b:Int} {x y:Option ((Bool × Unit) × Unit)}:(bif a==b then x else y)=if a=b then x else y:=ceq
theorem equal_int_loop (n:Nat) (a b:List Int) (hl:a.length=b.length) (h6:a.length≤4000000000000):∀ (k m i:Nat),i+k=a.length→k<m →
  slices_Equal_int_L1 n m a b (a.length:Int) (i:Int)=some ((decide (a.drop i=b.drop i),()),())
 | k,0,i,_,h=>by omega
 | 0,m+1,i,hk,h=>by
  show slices_Equal_int_B1 (slices_Equal_int_L1 n m) a b (a.length:Int) (i:Int)=_
  unfold slices_Equal_int_B1
  rw [cdn (by omega),List.drop_eq_nil_of_le (by omega),List.drop_eq_nil_of_le (by omega)];simp
 | k+1,m+1,i,hk,h=>by
  show slices_Equal_int_B1 (slices_Equal_int_L1 n m) a b (a.length:Int) (i:Int)=_
  unfold slices_Equal_int_B1
  have hi:i<a.length:=by omega
  have hi':i<b.length:=by omega
  rw [cdp (by omega)]
  simp only [cand]
  rw [cdp (by omega),cdp (by omega),cdp (by omega),cdp (by omega),toNat_nat,getD_at hi,getD_at hi',List.drop_eq_getElem_cons hi,List.drop_eq_getElem_cons hi',inext (by omega)]
  generalize a[i]=x
  generalize b[i]=y
  rw [cneq]
  by_cases hxy:x=y
  ·rw [if_pos hxy,equal_int_loop n a b hl h6 k m (i+1) (by omega) (by omega),hxy];simp
  ·rw [if_neg hxy];simp [hxy]
theorem equal_int (a b:List Int) (h6:a.length≤4000000000000) (h7:b.length≤4000000000000) (hf:a.length<1099511627776):slices_Equal_int a b=some ((decide (a=b),()),()):=by
 show slices_Equal_int_T (slices_Equal_int_L1 1099511627776 1099511627776) a b=_
 unfold slices_Equal_int_T
 by_cases hl:a.length=b.length
 ·rw [cnen (by omega)]
  have:=equal_int_loop 1099511627776 a b hl h6 a.length 1099511627776 0 (by omega) (by omega)
  simpa using this
 ·rw [cnep (by omega),decide_eq_false (fun h=>hl (by rw [h]))]
theorem sameInts_loop (n:Nat) (a b:List Int) (hl:a.length=b.length) (h6:a.length≤4000000000000):∀ (k m i:Nat),i+k=a.length→k<m →
  pleachref1_SameInts_L1 n m a b (i:Int)=some ((decide (a.drop i=b.drop i),()),())
 | k,0,i,_,h=>by omega
 | 0,m+1,i,hk,h=>by
  show pleachref1_SameInts_B1 (pleachref1_SameInts_L1 n m) a b (i:Int)=_
  unfold pleachref1_SameInts_B1
  rw [cdn (by omega),List.drop_eq_nil_of_le (by omega),List.drop_eq_nil_of_le (by omega)];simp
 | k+1,m+1,i,hk,h=>by
  show pleachref1_SameInts_B1 (pleachref1_SameInts_L1 n m) a b (i:Int)=_
  unfold pleachref1_SameInts_B1
  have hi:i<a.length:=by omega
  have hi':i<b.length:=by omega
  rw [cdp (by omega)]
  simp only [cand]
  rw [cdp (by omega),cdp (by omega),cdp (by omega),cdp (by omega),toNat_nat,getD_at hi,getD_at hi',List.drop_eq_getElem_cons hi,List.drop_eq_getElem_cons hi',inext (by omega)]
  generalize a[i]=x
  generalize b[i]=y
  rw [cneq]
  by_cases hxy:x=y
  ·rw [if_pos hxy,sameInts_loop n a b hl h6 k m (i+1) (by omega) (by omega),hxy];simp
  ·rw [if_neg hxy];simp [hxy]
theorem sameInts (a b:List Int) (h6:a.length≤1000000000) (h7:b.length≤1000000000):pleachref1_SameInts a b=some ((decide (a=b),()),()):=by
 show pleachref1_SameInts_T (pleachref1_SameInts_L1 1099511627776 1099511627776) a b=_
 unfold pleachref1_SameInts_T
 by_cases hl:a.length=b.length
 ·rw [cnen (by omega)]
  have:=sameInts_loop 1099511627776 a b hl (by omega) a.length 1099511627776 0 (by omega) (by omega)
  simpa using this
 ·rw [cnep (by omega),decide_eq_false (fun h=>hl (by rw [h]))]
theorem index_int_loop (n:Nat) (l:List Int) (v:Int) (h6:l.length≤1000000000):∀ (k m i:Nat),i+k=l.length→k<m →
  ∃ r:Int,slices_Index_int_L1 n m l v (l.length:Int) (i:Int)=some ((r,()),())∧(0≤r↔v∈l.drop i)
 | k,0,i,_,h=>by omega
 | 0,m+1,i,hk,h=>by
  refine ⟨-1,?_,?_⟩
  ·show slices_Index_int_B1 (slices_Index_int_L1 n m) l v (l.length:Int) (i:Int)=_
   unfold slices_Index_int_B1
   rw [cdn (by omega)]
  ·rw [List.drop_eq_nil_of_le (by omega)];simp
 | k+1,m+1,i,hk,h=>by
  have hi:i<l.length:=by omega
  have e:slices_Index_int_L1 n (m+1) l v (l.length:Int) (i:Int)=if v=l[i] then some (((i:Int),()),()) else slices_Index_int_L1 n m l v (l.length:Int) ((i+1:Nat):Int):=by
   show slices_Index_int_B1 (slices_Index_int_L1 n m) l v (l.length:Int) (i:Int)=_
   unfold slices_Index_int_B1
   rw [cdp (by omega),cand,cdp (by omega),cdp (by omega),toNat_nat,getD_at hi,inext (by omega),ceq]
  rw [e,List.drop_eq_getElem_cons hi]
  by_cases hv:v=l[i]
  ·exact ⟨(i:Int),if_pos hv,⟨fun _=>hv▸List.mem_cons_self ..,fun _=>by omega⟩⟩
  ·obtain ⟨r,h1,h2⟩:=index_int_loop n l v h6 k m (i+1) (by omega) (by omega)
   exact ⟨r,by rw [if_neg hv,h1],by rw [h2,List.mem_cons];exact ⟨.inr,fun h=>h.elim (fun e=>absurd e hv) id⟩⟩
theorem contains_int (l:List Int) (v:Int) (h6:l.length≤1000000000):slices_Contains_int l v=some ((decide (v∈l),()),()):=by
 obtain ⟨r,h1,h2⟩:=index_int_loop 1099511627776 l v h6 l.length 1099511627776 0 (by omega) (by omega)
 unfold slices_Contains_int
 have e:slices_Index_int l v=some ((r,()),()):=h1
 rw [e]
 dsimp only [Option.bind_some]
 rw [List.drop_zero] at h2
 congr 3
 exact decide_eq_decide.2 h2
theorem has_loop (n:Nat) (l:List Int) (v:Int) (h6:l.length≤1000000000):∀ (k m i:Nat),i+k=l.length→k<m →
  pleachref1_Has_L1 n m l v (i:Int)=some ((decide (v∈l.drop i),()),())
 | k,0,i,_,h=>by omega
 | 0,m+1,i,hk,h=>by
  show pleachref1_Has_B1 (pleachref1_Has_L1 n m) l v (i:Int)=_
  unfold pleachref1_Has_B1
  rw [cdn (by omega),List.drop_eq_nil_of_le (by omega)];simp
 | k+1,m+1,i,hk,h=>by
  show pleachref1_Has_B1 (pleachref1_Has_L1 n m) l v (i:Int)=_
  have hi:i<l.length:=by omega
  unfold pleachref1_Has_B1
  rw [cdp (by omega),cand,cdp (by omega),cdp (by omega),toNat_nat,getD_at hi,inext (by omega),ceq,List.drop_eq_getElem_cons hi]
  by_cases hv:l[i]=v
  ·rw [if_pos hv];simp [hv]
  ·rw [if_neg hv,has_loop n l v h6 k m (i+1) (by omega) (by omega)]
   congr 3
   exact decide_eq_decide.2 (by rw [List.mem_cons];exact ⟨.inr,fun h=>h.elim (fun e=>absurd e.symm hv) id⟩)
theorem has_eq (l:List Int) (v:Int) (h6:l.length≤1000000000):pleachref1_Has l v=some ((decide (v∈l),()),()):=by
 have:=has_loop 1099511627776 l v h6 l.length 1099511627776 0 (by omega) (by omega)
 rw [List.drop_zero] at this
 exact this
theorem indexFunc_int_loop (n:Nat) (l:List Int) (f:Int × Unit→Option (Bool × Unit)) (p:Int→Bool) (hf:∀ x∈l,f (x,())=some (p x,())) (h6:l.length≤1000000000):∀ (k m i:Nat),i+k=l.length→k<m →
  slices_IndexFunc_int_L1 n m l f (l.length:Int) (i:Int)=some ((if i+(l.drop i).findIdx p<l.length then ((i+(l.drop i).findIdx p:Nat):Int) else -1,()),())
 | k,0,i,_,h=>by omega
 | 0,m+1,i,hk,h=>by
  show slices_IndexFunc_int_B1 (slices_IndexFunc_int_L1 n m) l f (l.length:Int) (i:Int)=_
  unfold slices_IndexFunc_int_B1
  rw [cdn (by omega),List.drop_eq_nil_of_le (by omega),if_neg (by simp;omega)]
 | k+1,m+1,i,hk,h=>by
  have hi:i<l.length:=by omega
  have e:slices_IndexFunc_int_L1 n (m+1) l f (l.length:Int) (i:Int)=bif p l[i] then some (((i:Int),()),()) else slices_IndexFunc_int_L1 n m l f (l.length:Int) ((i+1:Nat):Int):=by
   show slices_IndexFunc_int_B1 (slices_IndexFunc_int_L1 n m) l f (l.length:Int) (i:Int)=_
   unfold slices_IndexFunc_int_B1
   rw [cdp (by omega),cand,cdp (by omega),cdp (by omega),toNat_nat,getD_at hi,inext (by omega),hf _ (List.getElem_mem hi)]
   rfl
  rw [e,List.drop_eq_getElem_cons hi,List.findIdx_cons]
  cases hv:p l[i] with
  | true=>simp only [cond_true];rw [if_pos (by omega)];rfl
  | false=>
   simp only [cond_false]
   rw [indexFunc_int_loop n l f p hf h6 k m (i+1) (by omega) (by omega)]
   have e2:i+1+(l.drop (i+1)).findIdx p=i+((l.drop (i+1)).findIdx p+1):=by omega
   rw [e2]
theorem indexFunc_int (l:List Int) (f:Int × Unit→Option (Bool × Unit)) (p:Int→Bool) (hf:∀ x∈l,f (x,())=some (p x,())) (h6:l.length≤1000000000):slices_IndexFunc_int l f=some ((if l.findIdx p<l.length then ((l.findIdx p:Nat):Int) else -1,()),()):=by
 have:=indexFunc_int_loop 1099511627776 l f p hf h6 l.length 1099511627776 0 (by omega) (by omega)
 rw [List.drop_zero,Nat.zero_add] at this
 exact this
end Go.PE
