/-
  Plain lemmas on the functions.
  Conditions: none.
-/
import Derived.Test.YtmfiijdlhjajcaaGreatDoorNodeResumesPBits
set_option linter.unusedVariables false
set_option linter.unusedSimpArgs false
set_option maxRecDepth 20000
namespace Go.PE
theorem Qkw {α:Type} {l:List α} {i:Nat} (h:i<l.length) (d:α):List.getD l i d=l[i]:=by
 rw [List.getD_eq_getElem?_getD,List.getElem?_eq_getElem h];rfl
theorem Qrh {i:Nat} (h:i<4611686018427387904):IntKind.wrap .i64 ((i:Int)+1)=((i+1:Nat):Int):=by rw [Qpx (by omega) (by omega)];omega
theorem Qka (i:Nat):(i:Int).toNat=i:=rfl
theorem Zao {α:Type} {x y:Int} {a b:α}:(bif x != y then a else b)=if x=y then b else a:=by
 by_cases h:x=y
 ·rw [Zj4 h,if_pos h]
 ·rw [Znp h,if_neg h]
theorem ceq {α:Type} {x y:Int} {a b:α}:(bif x==y then a else b)=if x=y then a else b:=by
 by_cases h:x=y
 ·rw [Z1t h,if_pos h]
 ·rw [Z1m h,if_neg h]
theorem Z9z (n:Nat) (a b:List Int) (hl:a.length=b.length) (h6:a.length≤4000000000000):∀ (k m i:Nat),i+k=a.length→k<m →
  Qnj n m a b (a.length:Int) (i:Int)=some ((decide (a.drop i=b.drop i),()),())
 | k,0,i,_,h=>by omega
 | 0,m+1,i,hk,h=>by
  show Qns (Qnj n m) a b (a.length:Int) (i:Int)=_
  unfold Qns
  rw [cdn (by omega),List.drop_eq_nil_of_le (by omega),List.drop_eq_nil_of_le (by omega)];simp
 | k+1,m+1,i,hk,h=>by
  show Qns (Qnj n m) a b (a.length:Int) (i:Int)=_
  unfold Qns
  have hi:i<a.length:=by omega
  have hi':i<b.length:=by omega
  rw [cdp (by omega)]
  simp only [Z8z]
  rw [cdp (by omega),cdp (by omega),cdp (by omega),cdp (by omega),Qka,Qkw hi,Qkw hi',List.drop_eq_getElem_cons hi,List.drop_eq_getElem_cons hi',Qrh (by omega)]
  generalize a[i]=x
  generalize b[i]=y
  rw [Zao]
  by_cases hxy:x=y
  ·rw [if_pos hxy,Z9z n a b hl h6 k m (i+1) (by omega) (by omega),hxy];simp
  ·rw [if_neg hxy];simp [hxy]
theorem Zoz (a b:List Int) (h6:a.length≤4000000000000) (h7:b.length≤4000000000000) (hf:a.length<1099511627776):Qys a b=some ((decide (a=b),()),()):=by
 show Qst (Qnj 1099511627776 1099511627776) a b=_
 unfold Qst
 by_cases hl:a.length=b.length
 ·rw [Zj4 (by omega)]
  have:=Z9z 1099511627776 a b hl h6 a.length 1099511627776 0 (by omega) (by omega)
  simpa using this
 ·rw [Znp (by omega),decide_eq_false (fun h=>hl (by rw [h]))]
theorem Z7j (n:Nat) (a b:List Int) (hl:a.length=b.length) (h6:a.length≤4000000000000):∀ (k m i:Nat),i+k=a.length→k<m →
  Qmy n m a b (a.length:Int) (i:Int)=some ((decide (a.drop i=b.drop i),()),())
 | k,0,i,_,h=>by omega
 | 0,m+1,i,hk,h=>by
  show Qn2 (Qmy n m) a b (a.length:Int) (i:Int)=_
  unfold Qn2
  rw [cdn (by omega),List.drop_eq_nil_of_le (by omega),List.drop_eq_nil_of_le (by omega)];simp
 | k+1,m+1,i,hk,h=>by
  show Qn2 (Qmy n m) a b (a.length:Int) (i:Int)=_
  unfold Qn2
  have hi:i<a.length:=by omega
  have hi':i<b.length:=by omega
  rw [cdp (by omega)]
  simp only [Z8z]
  rw [cdp (by omega),cdp (by omega),cdp (by omega),cdp (by omega),Qka,Qkw hi,Qkw hi',List.drop_eq_getElem_cons hi,List.drop_eq_getElem_cons hi',Qrh (by omega)]
  generalize a[i]=x
  generalize b[i]=y
  rw [Zao]
  by_cases hxy:x=y
  ·rw [if_pos hxy,Z7j n a b hl h6 k m (i+1) (by omega) (by omega),hxy];simp
  ·rw [if_neg hxy];simp [hxy]
theorem Zms (a b:List Int) (h6:a.length≤1000000000) (h7:b.length≤1000000000):Qtu a b=some ((decide (a=b),()),()):=by
 show Qs4 (Qmy 1099511627776 1099511627776) a b=_
 unfold Qs4
 by_cases hl:a.length=b.length
 ·rw [Zj4 (by omega)]
  have:=Z7j 1099511627776 a b hl (by omega) a.length 1099511627776 0 (by omega) (by omega)
  simpa using this
 ·rw [Znp (by omega),decide_eq_false (fun h=>hl (by rw [h]))]
theorem Zby (n:Nat) (a b:List Int) (hl:a.length=b.length) (h6:a.length≤4000000000000):∀ (k m i:Nat),i+k=a.length→k<m →
  Qmb n m a b (i:Int)=some ((decide (a.drop i=b.drop i),()),())
 | k,0,i,_,h=>by omega
 | 0,m+1,i,hk,h=>by
  show Qmf (Qmb n m) a b (i:Int)=_
  unfold Qmf
  rw [cdn (by omega),List.drop_eq_nil_of_le (by omega),List.drop_eq_nil_of_le (by omega)];simp
 | k+1,m+1,i,hk,h=>by
  show Qmf (Qmb n m) a b (i:Int)=_
  unfold Qmf
  have hi:i<a.length:=by omega
  have hi':i<b.length:=by omega
  rw [cdp (by omega)]
  simp only [Z8z]
  rw [cdp (by omega),cdp (by omega),cdp (by omega),cdp (by omega),Qka,Qkw hi,Qkw hi',List.drop_eq_getElem_cons hi,List.drop_eq_getElem_cons hi',Qrh (by omega)]
  generalize a[i]=x
  generalize b[i]=y
  rw [Zao]
  by_cases hxy:x=y
  ·rw [if_pos hxy,Zby n a b hl h6 k m (i+1) (by omega) (by omega),hxy];simp
  ·rw [if_neg hxy];simp [hxy]
theorem Zm3 (a b:List Int) (h6:a.length≤1000000000) (h7:b.length≤1000000000):Qrn a b=some ((decide (a=b),()),()):=by
 show Qqj (Qmb 1099511627776 1099511627776) a b=_
 unfold Qqj
 by_cases hl:a.length=b.length
 ·rw [Zj4 (by omega)]
  have:=Zby 1099511627776 a b hl (by omega) a.length 1099511627776 0 (by omega) (by omega)
  simpa using this
 ·rw [Znp (by omega),decide_eq_false (fun h=>hl (by rw [h]))]
theorem Z9v (n:Nat) (l:List Int) (v:Int) (h6:l.length≤1000000000):∀ (k m i:Nat),i+k=l.length→k<m →
  ∃ r:Int,Qmj n m l v (l.length:Int) (i:Int)=some ((r,()),())∧(0≤r↔v∈l.drop i)
 | k,0,i,_,h=>by omega
 | 0,m+1,i,hk,h=>by
  refine ⟨-1,?_,?_⟩
  ·show Qnn (Qmj n m) l v (l.length:Int) (i:Int)=_
   unfold Qnn
   rw [cdn (by omega)]
  ·rw [List.drop_eq_nil_of_le (by omega)];simp
 | k+1,m+1,i,hk,h=>by
  have hi:i<l.length:=by omega
  have e:Qmj n (m+1) l v (l.length:Int) (i:Int)=if v=l[i] then some (((i:Int),()),()) else Qmj n m l v (l.length:Int) ((i+1:Nat):Int):=by
   show Qnn (Qmj n m) l v (l.length:Int) (i:Int)=_
   unfold Qnn
   rw [cdp (by omega),Z8z,cdp (by omega),cdp (by omega),Qka,Qkw hi,Qrh (by omega),ceq]
  rw [e,List.drop_eq_getElem_cons hi]
  by_cases hv:v=l[i]
  ·exact ⟨(i:Int),if_pos hv,⟨fun _=>hv▸List.mem_cons_self ..,fun _=>by omega⟩⟩
  ·obtain ⟨r,h1,h2⟩:=Z9v n l v h6 k m (i+1) (by omega) (by omega)
   exact ⟨r,by rw [if_neg hv,h1],by rw [h2,List.mem_cons];exact ⟨.inr,fun h=>h.elim (fun e=>absurd e hv) id⟩⟩
theorem Zec (l:List Int) (v:Int) (h6:l.length≤1000000000):Qpk l v=some ((decide (v∈l),()),()):=by
 obtain ⟨r,h1,h2⟩:=Z9v 1099511627776 l v h6 l.length 1099511627776 0 (by omega) (by omega)
 unfold Qpk
 have e:Qyr l v=some ((r,()),()):=h1
 rw [e]
 dsimp only [Option.bind_some]
 rw [List.drop_zero] at h2
 congr 3
 exact decide_eq_decide.2 h2
theorem Zm1 (n:Nat) (l:List Int) (v:Int) (h6:l.length≤1000000000):∀ (k m i:Nat),i+k=l.length→k<m →
  Qr7 n m l v (i:Int)=some ((decide (v∈l.drop i),()),())
 | k,0,i,_,h=>by omega
 | 0,m+1,i,hk,h=>by
  show Qpb (Qr7 n m) l v (i:Int)=_
  unfold Qpb
  rw [cdn (by omega),List.drop_eq_nil_of_le (by omega)];simp
 | k+1,m+1,i,hk,h=>by
  show Qpb (Qr7 n m) l v (i:Int)=_
  have hi:i<l.length:=by omega
  unfold Qpb
  rw [cdp (by omega),Z8z,cdp (by omega),cdp (by omega),Qka,Qkw hi,Qrh (by omega),ceq,List.drop_eq_getElem_cons hi]
  by_cases hv:l[i]=v
  ·rw [if_pos hv];simp [hv]
  ·rw [if_neg hv,Zm1 n l v h6 k m (i+1) (by omega) (by omega)]
   congr 3
   exact decide_eq_decide.2 (by rw [List.mem_cons];exact ⟨.inr,fun h=>h.elim (fun e=>absurd e.symm hv) id⟩)
theorem Zq6 (l:List Int) (v:Int) (h6:l.length≤1000000000):Qqn l v=some ((decide (v∈l),()),()):=by
 have:=Zm1 1099511627776 l v h6 l.length 1099511627776 0 (by omega) (by omega)
 rw [List.drop_zero] at this
 exact this
theorem Z9w (n:Nat) (l:List Int) (f:Int × Unit→Option (Bool × Unit)) (p:Int→Bool) (hf:∀ x,f (x,())=some (p x,())) (h6:l.length≤1000000000):∀ (k m i:Nat),i+k=l.length→k<m →
  ∃ r:Int,Ql3 n m l f (l.length:Int) (i:Int)=some ((r,()),())∧(0≤r↔∃ x∈l.drop i,p x=true)
 | k,0,i,_,h=>by omega
 | 0,m+1,i,hk,h=>by
  refine ⟨-1,?_,?_⟩
  ·show Qm4 (Ql3 n m) l f (l.length:Int) (i:Int)=_
   unfold Qm4
   rw [cdn (by omega)]
  ·rw [List.drop_eq_nil_of_le (by omega)];simp
 | k+1,m+1,i,hk,h=>by
  have hi:i<l.length:=by omega
  have e:Ql3 n (m+1) l f (l.length:Int) (i:Int)=bif p l[i] then some (((i:Int),()),()) else Ql3 n m l f (l.length:Int) ((i+1:Nat):Int):=by
   show Qm4 (Ql3 n m) l f (l.length:Int) (i:Int)=_
   unfold Qm4
   rw [cdp (by omega),Z8z,cdp (by omega),cdp (by omega),Qka,Qkw hi,Qrh (by omega),hf]
   rfl
  rw [e,List.drop_eq_getElem_cons hi]
  cases hv:p l[i] with
  | true=>exact ⟨(i:Int),rfl,⟨fun _=>⟨_,List.mem_cons_self ..,hv⟩,fun _=>by omega⟩⟩
  | false=>
   obtain ⟨r,h1,h2⟩:=Z9w n l f p hf h6 k m (i+1) (by omega) (by omega)
   refine ⟨r,by rw [cond_false,h1],?_⟩
   rw [h2]
   constructor
   ·rintro ⟨x,hx,hp⟩;exact ⟨x,List.mem_cons_of_mem _ hx,hp⟩
   ·rintro ⟨x,hx,hp⟩
    rcases List.mem_cons.1 hx with rfl | hx
    ·rw [hv] at hp;cases hp
    ·exact ⟨x,hx,hp⟩
theorem Zeq (l:List Int) (f:Int × Unit→Option (Bool × Unit)) (p:Int→Bool) (hf:∀ x,f (x,())=some (p x,())) (h6:l.length≤1000000000):Qow l f=some ((l.any p,()),()):=by
 obtain ⟨r,h1,h2⟩:=Z9w 1099511627776 l f p hf h6 l.length 1099511627776 0 (by omega) (by omega)
 unfold Qow
 have e:Qu7 l f=some ((r,()),()):=h1
 rw [e]
 dsimp only [Option.bind_some]
 rw [List.drop_zero] at h2
 congr 3
 rw [Bool.eq_iff_iff,decide_eq_true_eq,List.any_eq_true]
 exact h2
end Go.PE
