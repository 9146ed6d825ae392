/-
  Plain lemmas on the functions.
  Conditions: none.
-/
import Derived.Test.YtemajkklbjdmjaaGreatHierAllPDist
set_option linter.unusedVariables false
set_option linter.unusedSimpArgs false
set_option maxRecDepth 20000
namespace Go.PE
theorem OkD.at {d:List (List Int)} (h:OkD d) {i k:Nat} (hi:i<8) (hk:k<8):List.getD (List.getD d i []) k 0=e0 d i k:=rfl
theorem mayDist_rows (n:Nat) (d:List (List Int)) (h:OkD d):∀ (k m i:Nat),i+k=8→k<m→pleachref1_MayDist_L1 n m d (i:Int)=pleachref1_MayDist_L2 n n d 0
 | k,0,i,_,hm=>by omega
 | 0,m+1,i,hk,hm=>by
  show pleachref1_MayDist_B1 (pleachref1_MayDist_L1 n m) (pleachref1_MayDist_L2 n n) d (i:Int)=_
  unfold pleachref1_MayDist_B1
  rw [cdn (by have:=h.len;omega)]
 | k+1,m+1,i,hk,hm=>by
  show pleachref1_MayDist_B1 (pleachref1_MayDist_L1 n m) (pleachref1_MayDist_L2 n n) d (i:Int)=_
  unfold pleachref1_MayDist_B1
  have hl:=h.len
  have hr:=h.rows i (by omega)
  rw [cdp (by omega),cand,cdp (by omega),cdp (by omega),toNat_nat,cnen (by omega),inext (by omega),mayDist_rows n d h k m (i+1) (by omega) (by omega)]
theorem mayDist_cols (n:Nat) (d:List (List Int)) (h:OkD d) (L:List (List Int)→Int→Option ((Bool × Unit) × Unit)) (m1:Nat) (i:Nat) (hi:i<8):∀ (k m j:Nat),j+k=8→k<m →
  pleachref1_MayDist_L3 n m1 L m d (i:Int) (j:Int)=L d ((i+1:Nat):Int)
 | k,0,j,_,hm=>by omega
 | 0,m+1,j,hk,hm=>by
  show pleachref1_MayDist_B3 (pleachref1_MayDist_L3 n m1 L m) L d (i:Int) (j:Int)=_
  unfold pleachref1_MayDist_B3
  rw [cdn (by have:=h.len;omega),inext (by omega)]
 | k+1,m+1,j,hk,hm=>by
  show pleachref1_MayDist_B3 (pleachref1_MayDist_L3 n m1 L m) L d (i:Int) (j:Int)=_
  unfold pleachref1_MayDist_B3
  have hl:=h.len
  have hj:j<8:=by omega
  have hr:=h.rows i hi
  have hr2:=h.rows j hj
  obtain ⟨v1,v2,v3,v4⟩:=h.vals i j hi hj
  unfold e0 at v1 v2 v3 v4
  have c1:decide ((0:Int)≤(i:Int))=true:=decide_eq_true (by omega)
  have c2:decide ((i:Int)<(d.length:Int))=true:=decide_eq_true (by omega)
  have c3:decide ((0:Int)≤(j:Int))=true:=decide_eq_true (by omega)
  have c4:decide ((j:Int)<(d.length:Int))=true:=decide_eq_true (by omega)
  have c5:decide ((j:Int)<((List.getD d i []).length:Int))=true:=decide_eq_true (by omega)
  have c6:decide ((i:Int)<((List.getD d j []).length:Int))=true:=decide_eq_true (by omega)
  dsimp only [toNat_nat]
  simp only [c1,c2,c3,c4,c5,c6,Bool.and_self,cond_true]
  rw [cdn (by omega),cdn (by omega),cnen v3]
  by_cases hij:i=j
  ·rw [ceqp (by omega),cnen (v4 hij),inext (by omega),mayDist_cols n d h L m1 i hi k m (j+1) (by omega) (by omega)]
  ·rw [ceqn (by omega),inext (by omega),mayDist_cols n d h L m1 i hi k m (j+1) (by omega) (by omega)]
theorem mayDist_outer (d:List (List Int)) (h:OkD d):∀ (k m i:Nat),i+k=8→k<m →
  pleachref1_MayDist_L2 1099511627776 m d (i:Int)=some ((true,()),())
 | k,0,i,_,hm=>by omega
 | 0,m+1,i,hk,hm=>by
  show pleachref1_MayDist_B2 (pleachref1_MayDist_L3 1099511627776 m (pleachref1_MayDist_L2 1099511627776 m) 1099511627776) d (i:Int)=_
  unfold pleachref1_MayDist_B2
  rw [cdn (by have:=h.len;omega)]
 | k+1,m+1,i,hk,hm=>by
  show pleachref1_MayDist_B2 (pleachref1_MayDist_L3 1099511627776 m (pleachref1_MayDist_L2 1099511627776 m) 1099511627776) d (i:Int)=_
  unfold pleachref1_MayDist_B2
  have:=mayDist_cols 1099511627776 d h (pleachref1_MayDist_L2 1099511627776 m) m i (by omega) 8 1099511627776 0 rfl (by omega)
  have z0:((0:Nat):Int)=0:=rfl
  rw [z0] at this
  rw [cdp (by have:=h.len;omega),this]
  exact mayDist_outer d h k m (i+1) (by omega) (by omega)
theorem mayDist_eq (d:List (List Int)) (h:OkD d):pleachref1_MayDist d=some ((true,()),()):=by
 show pleachref1_MayDist_T (pleachref1_MayDist_L1 1099511627776 1099511627776) d=_
 unfold pleachref1_MayDist_T
 have h1:=mayDist_rows 1099511627776 d h 8 1099511627776 0 rfl (by omega)
 have h2:=mayDist_outer d h 8 1099511627776 0 rfl (by omega)
 have z0:((0:Nat):Int)=0:=rfl
 rw [z0] at h1 h2
 rw [cnen (by have:=h.len;omega),h1,h2]
end Go.PE
