/-
  Plain lemmas on the functions.
  Conditions: none.
-/
import Derived.Test.YtemajkklbjdmjaaGreatHierAllPHierBase
set_option linter.unusedVariables false
set_option linter.unusedSimpArgs false
set_option maxRecDepth 20000
namespace Go.PE
theorem sameClusters_loop (n:Nat) (a b:List Cl) (hl:a.length=b.length) (ha:∀ c∈a,c.1.length≤1000000) (hb:∀ c∈b,c.1.length≤1000000) (h6:a.length≤1000000):∀ (k m i:Nat),i+k=a.length→k<m →
  pleachref7_SameClusters_L1 n m a b (i:Int)=some ((decide (a.drop i=b.drop i),()),())
 | k,0,i,_,h=>by omega
 | 0,m+1,i,hk,h=>by
  show pleachref7_SameClusters_B1 (pleachref7_SameClusters_L1 n m) a b (i:Int)=_
  unfold pleachref7_SameClusters_B1
  rw [cdn (by omega),List.drop_eq_nil_of_le (by omega),List.drop_eq_nil_of_le (by omega)];simp
 | k+1,m+1,i,hk,h=>by
  show pleachref7_SameClusters_B1 (pleachref7_SameClusters_L1 n m) a b (i:Int)=_
  have hi:i<a.length:=by omega
  have hi':i<b.length:=by omega
  have la:=ha _ (List.getElem_mem hi)
  have lb:=hb _ (List.getElem_mem hi')
  unfold pleachref7_SameClusters_B1
  rw [cdp (by omega)]
  have c1:(decide ((0:Int)≤(i:Int))&&decide ((i:Int)<(a.length:Int)))=true:=by simp only [Bool.and_eq_true,decide_eq_true_eq];omega
  have c2:(decide ((0:Int)≤(i:Int))&&decide ((i:Int)<(b.length:Int)))=true:=by simp only [Bool.and_eq_true,decide_eq_true_eq];omega
  simp only [c1,c2,cond_true]
  rw [toNat_nat,getD_at hi,getD_at hi',List.drop_eq_getElem_cons hi,List.drop_eq_getElem_cons hi',inext (by omega)]
  generalize a[i]=x at *
  generalize b[i]=y at *
  have hxy:x=y↔x.1=y.1∧x.2=y.2:=Prod.ext_iff
  by_cases h2:x.2=y.2
  ·rw [cnen h2,sameInts _ _ (by omega) (by omega)]
   dsimp only [Option.bind_some]
   by_cases h1:x.1=y.1
   ·rw [decide_eq_true h1,nt,cond_false,sameClusters_loop n a b hl ha hb h6 k m (i+1) (by omega) (by omega)]
    have:x=y:=hxy.2 ⟨h1,h2⟩
    subst this
    simp
   ·rw [decide_eq_false h1,nf,cond_true,decide_eq_false (fun e=>h1 (hxy.1 (List.cons.inj e).1).1)]
  ·rw [cnep h2,decide_eq_false (fun e=>h2 (hxy.1 (List.cons.inj e).1).2)]
theorem sameClusters (a b:List Cl) (ha:∀ c∈a,c.1.length≤1000000) (hb:∀ c∈b,c.1.length≤1000000) (h6:a.length≤1000000):pleachref7_SameClusters a b=some ((decide (a=b),()),()):=by
 show pleachref7_SameClusters_T (pleachref7_SameClusters_L1 1099511627776 1099511627776) a b=_
 unfold pleachref7_SameClusters_T
 by_cases hl:a.length=b.length
 ·rw [cnen (by omega)]
  have:=sameClusters_loop 1099511627776 a b hl ha hb h6 a.length 1099511627776 0 (by omega) (by omega)
  simpa using this
 ·rw [cnep (by omega),decide_eq_false (fun h=>hl (by rw [h]))]
end Go.PE
