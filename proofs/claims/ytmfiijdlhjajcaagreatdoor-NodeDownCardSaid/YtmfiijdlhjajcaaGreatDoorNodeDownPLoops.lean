/-
  Plain lemmas on the functions.
  Conditions: none.
-/
import Derived.Test.YtmfiijdlhjajcaaGreatDoorNodeDownPBits
set_option linter.unusedVariables false
set_option linter.unusedSimpArgs false
set_option maxRecDepth 20000
namespace Go.PE
theorem Qkl {α:Type} {l:List α} {i:Nat} (h:i<l.length) (d:α):List.getD l i d=l[i]:=by
 rw [List.getD_eq_getElem?_getD,List.getElem?_eq_getElem h];rfl
theorem Qr9 {i:Nat} (h:i<4611686018427387904):IntKind.wrap .i64 ((i:Int)+1)=((i+1:Nat):Int):=by rw [Qqd (by omega) (by omega)];omega
theorem Qk9 (i:Nat):(i:Int).toNat=i:=rfl
theorem Z9x {α:Type} {x y:Int} {a b:α}:(bif x != y then a else b)=if x=y then b else a:=by
 by_cases h:x=y
 ·rw [Zgl h,if_pos h]
 ·rw [Zk3 h,if_neg h]
theorem ceq {α:Type} {x y:Int} {a b:α}:(bif x==y then a else b)=if x=y then a else b:=by
 by_cases h:x=y
 ·rw [Z2y h,if_pos h]
 ·rw [Z09 h,if_neg h]
theorem Z92 (n:Nat) (a b:List Int) (hl:a.length=b.length) (h6:a.length≤4000000000000):∀ (k m i:Nat),i+k=a.length→k<m →
  Qnk n m a b (a.length:Int) (i:Int)=some ((decide (a.drop i=b.drop i),()),())
 | k,0,i,_,h=>by omega
 | 0,m+1,i,hk,h=>by
  show Qne (Qnk n m) a b (a.length:Int) (i:Int)=_
  unfold Qne
  rw [cdn (by omega),List.drop_eq_nil_of_le (by omega),List.drop_eq_nil_of_le (by omega)];simp
 | k+1,m+1,i,hk,h=>by
  show Qne (Qnk n m) a b (a.length:Int) (i:Int)=_
  unfold Qne
  have hi:i<a.length:=by omega
  have hi':i<b.length:=by omega
  rw [cdp (by omega)]
  simp only [Z86]
  rw [cdp (by omega),cdp (by omega),cdp (by omega),cdp (by omega),Qk9,Qkl hi,Qkl hi',List.drop_eq_getElem_cons hi,List.drop_eq_getElem_cons hi',Qr9 (by omega)]
  generalize a[i]=x
  generalize b[i]=y
  rw [Z9x]
  by_cases hxy:x=y
  ·rw [if_pos hxy,Z92 n a b hl h6 k m (i+1) (by omega) (by omega),hxy];simp
  ·rw [if_neg hxy];simp [hxy]
theorem Zoj (a b:List Int) (h6:a.length≤4000000000000) (h7:b.length≤4000000000000) (hf:a.length<1099511627776):Qye a b=some ((decide (a=b),()),()):=by
 show Qsh (Qnk 1099511627776 1099511627776) a b=_
 unfold Qsh
 by_cases hl:a.length=b.length
 ·rw [Zgl (by omega)]
  have:=Z92 1099511627776 a b hl h6 a.length 1099511627776 0 (by omega) (by omega)
  simpa using this
 ·rw [Zk3 (by omega),decide_eq_false (fun h=>hl (by rw [h]))]
theorem Z6p (n:Nat) (a b:List Int) (hl:a.length=b.length) (h6:a.length≤4000000000000):∀ (k m i:Nat),i+k=a.length→k<m →
  Qn2 n m a b (a.length:Int) (i:Int)=some ((decide (a.drop i=b.drop i),()),())
 | k,0,i,_,h=>by omega
 | 0,m+1,i,hk,h=>by
  show Qmv (Qn2 n m) a b (a.length:Int) (i:Int)=_
  unfold Qmv
  rw [cdn (by omega),List.drop_eq_nil_of_le (by omega),List.drop_eq_nil_of_le (by omega)];simp
 | k+1,m+1,i,hk,h=>by
  show Qmv (Qn2 n m) a b (a.length:Int) (i:Int)=_
  unfold Qmv
  have hi:i<a.length:=by omega
  have hi':i<b.length:=by omega
  rw [cdp (by omega)]
  simp only [Z86]
  rw [cdp (by omega),cdp (by omega),cdp (by omega),cdp (by omega),Qk9,Qkl hi,Qkl hi',List.drop_eq_getElem_cons hi,List.drop_eq_getElem_cons hi',Qr9 (by omega)]
  generalize a[i]=x
  generalize b[i]=y
  rw [Z9x]
  by_cases hxy:x=y
  ·rw [if_pos hxy,Z6p n a b hl h6 k m (i+1) (by omega) (by omega),hxy];simp
  ·rw [if_neg hxy];simp [hxy]
theorem Zmx (a b:List Int) (h6:a.length≤1000000000) (h7:b.length≤1000000000):Qtj a b=some ((decide (a=b),()),()):=by
 show Qs0 (Qn2 1099511627776 1099511627776) a b=_
 unfold Qs0
 by_cases hl:a.length=b.length
 ·rw [Zgl (by omega)]
  have:=Z6p 1099511627776 a b hl (by omega) a.length 1099511627776 0 (by omega) (by omega)
  simpa using this
 ·rw [Zk3 (by omega),decide_eq_false (fun h=>hl (by rw [h]))]
theorem Zad (n:Nat) (a b:List Int) (hl:a.length=b.length) (h6:a.length≤4000000000000):∀ (k m i:Nat),i+k=a.length→k<m →
  Qmd n m a b (i:Int)=some ((decide (a.drop i=b.drop i),()),())
 | k,0,i,_,h=>by omega
 | 0,m+1,i,hk,h=>by
  show Qmc (Qmd n m) a b (i:Int)=_
  unfold Qmc
  rw [cdn (by omega),List.drop_eq_nil_of_le (by omega),List.drop_eq_nil_of_le (by omega)];simp
 | k+1,m+1,i,hk,h=>by
  show Qmc (Qmd n m) a b (i:Int)=_
  unfold Qmc
  have hi:i<a.length:=by omega
  have hi':i<b.length:=by omega
  rw [cdp (by omega)]
  simp only [Z86]
  rw [cdp (by omega),cdp (by omega),cdp (by omega),cdp (by omega),Qk9,Qkl hi,Qkl hi',List.drop_eq_getElem_cons hi,List.drop_eq_getElem_cons hi',Qr9 (by omega)]
  generalize a[i]=x
  generalize b[i]=y
  rw [Z9x]
  by_cases hxy:x=y
  ·rw [if_pos hxy,Zad n a b hl h6 k m (i+1) (by omega) (by omega),hxy];simp
  ·rw [if_neg hxy];simp [hxy]
theorem Zpr (a b:List Int) (h6:a.length≤1000000000) (h7:b.length≤1000000000):Quu a b=some ((decide (a=b),()),()):=by
 show Qqe (Qmd 1099511627776 1099511627776) a b=_
 unfold Qqe
 by_cases hl:a.length=b.length
 ·rw [Zgl (by omega)]
  have:=Zad 1099511627776 a b hl (by omega) a.length 1099511627776 0 (by omega) (by omega)
  simpa using this
 ·rw [Zk3 (by omega),decide_eq_false (fun h=>hl (by rw [h]))]
theorem Z91 (n:Nat) (l:List Int) (v:Int) (h6:l.length≤1000000000):∀ (k m i:Nat),i+k=l.length→k<m →
  ∃ r:Int,Qmi n m l v (l.length:Int) (i:Int)=some ((r,()),())∧(0≤r↔v∈l.drop i)
 | k,0,i,_,h=>by omega
 | 0,m+1,i,hk,h=>by
  refine ⟨-1,?_,?_⟩
  ·show Qnl (Qmi n m) l v (l.length:Int) (i:Int)=_
   unfold Qnl
   rw [cdn (by omega)]
  ·rw [List.drop_eq_nil_of_le (by omega)];simp
 | k+1,m+1,i,hk,h=>by
  have hi:i<l.length:=by omega
  have e:Qmi n (m+1) l v (l.length:Int) (i:Int)=if v=l[i] then some (((i:Int),()),()) else Qmi n m l v (l.length:Int) ((i+1:Nat):Int):=by
   show Qnl (Qmi n m) l v (l.length:Int) (i:Int)=_
   unfold Qnl
   rw [cdp (by omega),Z86,cdp (by omega),cdp (by omega),Qk9,Qkl hi,Qr9 (by omega),ceq]
  rw [e,List.drop_eq_getElem_cons hi]
  by_cases hv:v=l[i]
  ·exact ⟨(i:Int),if_pos hv,⟨fun _=>hv▸List.mem_cons_self ..,fun _=>by omega⟩⟩
  ·obtain ⟨r,h1,h2⟩:=Z91 n l v h6 k m (i+1) (by omega) (by omega)
   exact ⟨r,by rw [if_neg hv,h1],by rw [h2,List.mem_cons];exact ⟨.inr,fun h=>h.elim (fun e=>absurd e hv) id⟩⟩
theorem Zcv (l:List Int) (v:Int) (h6:l.length≤1000000000):Qpm l v=some ((decide (v∈l),()),()):=by
 obtain ⟨r,h1,h2⟩:=Z91 1099511627776 l v h6 l.length 1099511627776 0 (by omega) (by omega)
 unfold Qpm
 have e:Qyb l v=some ((r,()),()):=h1
 rw [e]
 dsimp only [Option.bind_some]
 rw [List.drop_zero] at h2
 congr 3
 exact decide_eq_decide.2 h2
theorem Zlt (n:Nat) (l:List Int) (v:Int) (h6:l.length≤1000000000):∀ (k m i:Nat),i+k=l.length→k<m →
  Qr8 n m l v (i:Int)=some ((decide (v∈l.drop i),()),())
 | k,0,i,_,h=>by omega
 | 0,m+1,i,hk,h=>by
  show Qp6 (Qr8 n m) l v (i:Int)=_
  unfold Qp6
  rw [cdn (by omega),List.drop_eq_nil_of_le (by omega)];simp
 | k+1,m+1,i,hk,h=>by
  show Qp6 (Qr8 n m) l v (i:Int)=_
  have hi:i<l.length:=by omega
  unfold Qp6
  rw [cdp (by omega),Z86,cdp (by omega),cdp (by omega),Qk9,Qkl hi,Qr9 (by omega),ceq,List.drop_eq_getElem_cons hi]
  by_cases hv:l[i]=v
  ·rw [if_pos hv];simp [hv]
  ·rw [if_neg hv,Zlt n l v h6 k m (i+1) (by omega) (by omega)]
   congr 3
   exact decide_eq_decide.2 (by rw [List.mem_cons];exact ⟨.inr,fun h=>h.elim (fun e=>absurd e.symm hv) id⟩)
theorem Zpt (l:List Int) (v:Int) (h6:l.length≤1000000000):Qqk l v=some ((decide (v∈l),()),()):=by
 have:=Zlt 1099511627776 l v h6 l.length 1099511627776 0 (by omega) (by omega)
 rw [List.drop_zero] at this
 exact this
theorem Z8p (n:Nat) (l:List Int) (f:Int × Unit→Option (Bool × Unit)) (p:Int→Bool) (hf:∀ x,f (x,())=some (p x,())) (h6:l.length≤1000000000):∀ (k m i:Nat),i+k=l.length→k<m →
  ∃ r:Int,Ql8 n m l f (l.length:Int) (i:Int)=some ((r,()),())∧(0≤r↔∃ x∈l.drop i,p x=true)
 | k,0,i,_,h=>by omega
 | 0,m+1,i,hk,h=>by
  refine ⟨-1,?_,?_⟩
  ·show Qm1 (Ql8 n m) l f (l.length:Int) (i:Int)=_
   unfold Qm1
   rw [cdn (by omega)]
  ·rw [List.drop_eq_nil_of_le (by omega)];simp
 | k+1,m+1,i,hk,h=>by
  have hi:i<l.length:=by omega
  have e:Ql8 n (m+1) l f (l.length:Int) (i:Int)=bif p l[i] then some (((i:Int),()),()) else Ql8 n m l f (l.length:Int) ((i+1:Nat):Int):=by
   show Qm1 (Ql8 n m) l f (l.length:Int) (i:Int)=_
   unfold Qm1
   rw [cdp (by omega),Z86,cdp (by omega),cdp (by omega),Qk9,Qkl hi,Qr9 (by omega),hf]
   rfl
  rw [e,List.drop_eq_getElem_cons hi]
  cases hv:p l[i] with
  | true=>exact ⟨(i:Int),rfl,⟨fun _=>⟨_,List.mem_cons_self ..,hv⟩,fun _=>by omega⟩⟩
  | false=>
   obtain ⟨r,h1,h2⟩:=Z8p n l f p hf h6 k m (i+1) (by omega) (by omega)
   refine ⟨r,by rw [cond_false,h1],?_⟩
   rw [h2]
   constructor
   ·rintro ⟨x,hx,hp⟩;exact ⟨x,List.mem_cons_of_mem _ hx,hp⟩
   ·rintro ⟨x,hx,hp⟩
    rcases List.mem_cons.1 hx with rfl | hx
    ·rw [hv] at hp;cases hp
    ·exact ⟨x,hx,hp⟩
theorem Zdu (l:List Int) (f:Int × Unit→Option (Bool × Unit)) (p:Int→Bool) (hf:∀ x,f (x,())=some (p x,())) (h6:l.length≤1000000000):Qox l f=some ((l.any p,()),()):=by
 obtain ⟨r,h1,h2⟩:=Z8p 1099511627776 l f p hf h6 l.length 1099511627776 0 (by omega) (by omega)
 unfold Qox
 have e:Qtz l f=some ((r,()),()):=h1
 rw [e]
 dsimp only [Option.bind_some]
 rw [List.drop_zero] at h2
 congr 3
 rw [Bool.eq_iff_iff,decide_eq_true_eq,List.any_eq_true]
 exact h2
end Go.PE
