/-
  Plain lemmas on the functions.
  Conditions: none.
-/
import Derived.Test.YtmfiijdlhjajcaaGreatDoorNodeDeafPBits
set_option linter.unusedVariables false
set_option linter.unusedSimpArgs false
set_option maxRecDepth 20000
namespace Go.PE
theorem Qms {α:Type} {l:List α} {i:Nat} (h:i<l.length) (d:α):List.getD l i d=l[i]:=by
 rw [List.getD_eq_getElem?_getD,List.getElem?_eq_getElem h];rfl
theorem Qwl {i:Nat} (h:i<4611686018427387904):IntKind.wrap .i64 ((i:Int)+1)=((i+1:Nat):Int):=by rw [Qsk (by omega) (by omega)];omega
theorem Qkl (i:Nat):(i:Int).toNat=i:=rfl
theorem Zjv {α:Type} {x y:Int} {a b:α}:(bif x != y then a else b)=if x=y then b else a:=by
 by_cases h:x=y
 ·rw [Zni h,if_pos h]
 ·rw [Zr7 h,if_neg h]
theorem ceq {α:Type} {x y:Int} {a b:α}:(bif x==y then a else b)=if x=y then a else b:=by
 by_cases h:x=y
 ·rw [Zdw h,if_pos h]
 ·rw [Zdd h,if_neg h]
theorem Zuv {a b:Int} {x y:Option ((Bool × Unit) × Unit)}:(bif a==b then x else y)=if a=b then x else y:=ceq
theorem Za8 (n:Nat) (a b:List Int) (hl:a.length=b.length) (h6:a.length≤4000000000000):∀ (k m i:Nat),i+k=a.length→k<m →
  Qnp n m a b (a.length:Int) (i:Int)=some ((decide (a.drop i=b.drop i),()),())
 | k,0,i,_,h=>by omega
 | 0,m+1,i,hk,h=>by
  show Qnm (Qnp n m) a b (a.length:Int) (i:Int)=_
  unfold Qnm
  rw [cdn (by omega),List.drop_eq_nil_of_le (by omega),List.drop_eq_nil_of_le (by omega)];simp
 | k+1,m+1,i,hk,h=>by
  show Qnm (Qnp n m) a b (a.length:Int) (i:Int)=_
  unfold Qnm
  have hi:i<a.length:=by omega
  have hi':i<b.length:=by omega
  rw [cdp (by omega)]
  simp only [Z9t]
  rw [cdp (by omega),cdp (by omega),cdp (by omega),cdp (by omega),Qkl,Qms hi,Qms hi',List.drop_eq_getElem_cons hi,List.drop_eq_getElem_cons hi',Qwl (by omega)]
  generalize a[i]=x
  generalize b[i]=y
  rw [Zjv]
  by_cases hxy:x=y
  ·rw [if_pos hxy,Za8 n a b hl h6 k m (i+1) (by omega) (by omega),hxy];simp
  ·rw [if_neg hxy];simp [hxy]
theorem Zqf (a b:List Int) (h6:a.length≤4000000000000) (h7:b.length≤4000000000000) (hf:a.length<1099511627776):Qz3 a b=some ((decide (a=b),()),()):=by
 show Qt1 (Qnp 1099511627776 1099511627776) a b=_
 unfold Qt1
 by_cases hl:a.length=b.length
 ·rw [Zni (by omega)]
  have:=Za8 1099511627776 a b hl h6 a.length 1099511627776 0 (by omega) (by omega)
  simpa using this
 ·rw [Zr7 (by omega),decide_eq_false (fun h=>hl (by rw [h]))]
theorem Z8f (n:Nat) (a b:List Int) (hl:a.length=b.length) (h6:a.length≤4000000000000):∀ (k m i:Nat),i+k=a.length→k<m →
  Qn5 n m a b (a.length:Int) (i:Int)=some ((decide (a.drop i=b.drop i),()),())
 | k,0,i,_,h=>by omega
 | 0,m+1,i,hk,h=>by
  show Qmz (Qn5 n m) a b (a.length:Int) (i:Int)=_
  unfold Qmz
  rw [cdn (by omega),List.drop_eq_nil_of_le (by omega),List.drop_eq_nil_of_le (by omega)];simp
 | k+1,m+1,i,hk,h=>by
  show Qmz (Qn5 n m) a b (a.length:Int) (i:Int)=_
  unfold Qmz
  have hi:i<a.length:=by omega
  have hi':i<b.length:=by omega
  rw [cdp (by omega)]
  simp only [Z9t]
  rw [cdp (by omega),cdp (by omega),cdp (by omega),cdp (by omega),Qkl,Qms hi,Qms hi',List.drop_eq_getElem_cons hi,List.drop_eq_getElem_cons hi',Qwl (by omega)]
  generalize a[i]=x
  generalize b[i]=y
  rw [Zjv]
  by_cases hxy:x=y
  ·rw [if_pos hxy,Z8f n a b hl h6 k m (i+1) (by omega) (by omega),hxy];simp
  ·rw [if_neg hxy];simp [hxy]
theorem Zpy (a b:List Int) (h6:a.length≤1000000000) (h7:b.length≤1000000000):Qu0 a b=some ((decide (a=b),()),()):=by
 show Qsc (Qn5 1099511627776 1099511627776) a b=_
 unfold Qsc
 by_cases hl:a.length=b.length
 ·rw [Zni (by omega)]
  have:=Z8f 1099511627776 a b hl (by omega) a.length 1099511627776 0 (by omega) (by omega)
  simpa using this
 ·rw [Zr7 (by omega),decide_eq_false (fun h=>hl (by rw [h]))]
theorem Zbg (n:Nat) (a b:List Int) (hl:a.length=b.length) (h6:a.length≤4000000000000):∀ (k m i:Nat),i+k=a.length→k<m →
  Qma n m a b (i:Int)=some ((decide (a.drop i=b.drop i),()),())
 | k,0,i,_,h=>by omega
 | 0,m+1,i,hk,h=>by
  show Qm6 (Qma n m) a b (i:Int)=_
  unfold Qm6
  rw [cdn (by omega),List.drop_eq_nil_of_le (by omega),List.drop_eq_nil_of_le (by omega)];simp
 | k+1,m+1,i,hk,h=>by
  show Qm6 (Qma n m) a b (i:Int)=_
  unfold Qm6
  have hi:i<a.length:=by omega
  have hi':i<b.length:=by omega
  rw [cdp (by omega)]
  simp only [Z9t]
  rw [cdp (by omega),cdp (by omega),cdp (by omega),cdp (by omega),Qkl,Qms hi,Qms hi',List.drop_eq_getElem_cons hi,List.drop_eq_getElem_cons hi',Qwl (by omega)]
  generalize a[i]=x
  generalize b[i]=y
  rw [Zjv]
  by_cases hxy:x=y
  ·rw [if_pos hxy,Zbg n a b hl h6 k m (i+1) (by omega) (by omega),hxy];simp
  ·rw [if_neg hxy];simp [hxy]
theorem Zoz (a b:List Int) (h6:a.length≤1000000000) (h7:b.length≤1000000000):Qs4 a b=some ((decide (a=b),()),()):=by
 show Qqd (Qma 1099511627776 1099511627776) a b=_
 unfold Qqd
 by_cases hl:a.length=b.length
 ·rw [Zni (by omega)]
  have:=Zbg 1099511627776 a b hl (by omega) a.length 1099511627776 0 (by omega) (by omega)
  simpa using this
 ·rw [Zr7 (by omega),decide_eq_false (fun h=>hl (by rw [h]))]
theorem Zae (n:Nat) (l:List Int) (v:Int) (h6:l.length≤1000000000):∀ (k m i:Nat),i+k=l.length→k<m →
  ∃ r:Int,Qmf n m l v (l.length:Int) (i:Int)=some ((r,()),())∧(0≤r↔v∈l.drop i)
 | k,0,i,_,h=>by omega
 | 0,m+1,i,hk,h=>by
  refine ⟨-1,?_,?_⟩
  ·show Qnk (Qmf n m) l v (l.length:Int) (i:Int)=_
   unfold Qnk
   rw [cdn (by omega)]
  ·rw [List.drop_eq_nil_of_le (by omega)];simp
 | k+1,m+1,i,hk,h=>by
  have hi:i<l.length:=by omega
  have e:Qmf n (m+1) l v (l.length:Int) (i:Int)=if v=l[i] then some (((i:Int),()),()) else Qmf n m l v (l.length:Int) ((i+1:Nat):Int):=by
   show Qnk (Qmf n m) l v (l.length:Int) (i:Int)=_
   unfold Qnk
   rw [cdp (by omega),Z9t,cdp (by omega),cdp (by omega),Qkl,Qms hi,Qwl (by omega),ceq]
  rw [e,List.drop_eq_getElem_cons hi]
  by_cases hv:v=l[i]
  ·exact ⟨(i:Int),if_pos hv,⟨fun _=>hv▸List.mem_cons_self ..,fun _=>by omega⟩⟩
  ·obtain ⟨r,h1,h2⟩:=Zae n l v h6 k m (i+1) (by omega) (by omega)
   exact ⟨r,by rw [if_neg hv,h1],by rw [h2,List.mem_cons];exact ⟨.inr,fun h=>h.elim (fun e=>absurd e hv) id⟩⟩
theorem Zm8 (l:List Int) (v:Int) (h6:l.length≤1000000000):Qpp l v=some ((decide (v∈l),()),()):=by
 obtain ⟨r,h1,h2⟩:=Zae 1099511627776 l v h6 l.length 1099511627776 0 (by omega) (by omega)
 unfold Qpp
 have e:Qz4 l v=some ((r,()),()):=h1
 rw [e]
 dsimp only [Option.bind_some]
 rw [List.drop_zero] at h2
 congr 3
 exact decide_eq_decide.2 h2
theorem Zow (n:Nat) (l:List Int) (v:Int) (h6:l.length≤1000000000):∀ (k m i:Nat),i+k=l.length→k<m →
  Qrj n m l v (i:Int)=some ((decide (v∈l.drop i),()),())
 | k,0,i,_,h=>by omega
 | 0,m+1,i,hk,h=>by
  show Qpc (Qrj n m) l v (i:Int)=_
  unfold Qpc
  rw [cdn (by omega),List.drop_eq_nil_of_le (by omega)];simp
 | k+1,m+1,i,hk,h=>by
  show Qpc (Qrj n m) l v (i:Int)=_
  have hi:i<l.length:=by omega
  unfold Qpc
  rw [cdp (by omega),Z9t,cdp (by omega),cdp (by omega),Qkl,Qms hi,Qwl (by omega),ceq,List.drop_eq_getElem_cons hi]
  by_cases hv:l[i]=v
  ·rw [if_pos hv];simp [hv]
  ·rw [if_neg hv,Zow n l v h6 k m (i+1) (by omega) (by omega)]
   congr 3
   exact decide_eq_decide.2 (by rw [List.mem_cons];exact ⟨.inr,fun h=>h.elim (fun e=>absurd e.symm hv) id⟩)
theorem Zru (l:List Int) (v:Int) (h6:l.length≤1000000000):Qqy l v=some ((decide (v∈l),()),()):=by
 have:=Zow 1099511627776 l v h6 l.length 1099511627776 0 (by omega) (by omega)
 rw [List.drop_zero] at this
 exact this
theorem Zaa (n:Nat) (l:List Int) (f:Int × Unit→Option (Bool × Unit)) (p:Int→Bool) (hf:∀ x,f (x,())=some (p x,())) (h6:l.length≤1000000000):∀ (k m i:Nat),i+k=l.length→k<m →
  ∃ r:Int,Ql1 n m l f (l.length:Int) (i:Int)=some ((r,()),())∧(0≤r↔∃ x∈l.drop i,p x=true)
 | k,0,i,_,h=>by omega
 | 0,m+1,i,hk,h=>by
  refine ⟨-1,?_,?_⟩
  ·show Qlt (Ql1 n m) l f (l.length:Int) (i:Int)=_
   unfold Qlt
   rw [cdn (by omega)]
  ·rw [List.drop_eq_nil_of_le (by omega)];simp
 | k+1,m+1,i,hk,h=>by
  have hi:i<l.length:=by omega
  have e:Ql1 n (m+1) l f (l.length:Int) (i:Int)=bif p l[i] then some (((i:Int),()),()) else Ql1 n m l f (l.length:Int) ((i+1:Nat):Int):=by
   show Qlt (Ql1 n m) l f (l.length:Int) (i:Int)=_
   unfold Qlt
   rw [cdp (by omega),Z9t,cdp (by omega),cdp (by omega),Qkl,Qms hi,Qwl (by omega),hf]
   rfl
  rw [e,List.drop_eq_getElem_cons hi]
  cases hv:p l[i] with
  | true=>exact ⟨(i:Int),rfl,⟨fun _=>⟨_,List.mem_cons_self ..,hv⟩,fun _=>by omega⟩⟩
  | false=>
   obtain ⟨r,h1,h2⟩:=Zaa n l f p hf h6 k m (i+1) (by omega) (by omega)
   refine ⟨r,by rw [cond_false,h1],?_⟩
   rw [h2]
   constructor
   ·rintro ⟨x,hx,hp⟩;exact ⟨x,List.mem_cons_of_mem _ hx,hp⟩
   ·rintro ⟨x,hx,hp⟩
    rcases List.mem_cons.1 hx with rfl | hx
    ·rw [hv] at hp;cases hp
    ·exact ⟨x,hx,hp⟩
theorem Zg6 (l:List Int) (f:Int × Unit→Option (Bool × Unit)) (p:Int→Bool) (hf:∀ x,f (x,())=some (p x,())) (h6:l.length≤1000000000):Qp9 l f=some ((l.any p,()),()):=by
 obtain ⟨r,h1,h2⟩:=Zaa 1099511627776 l f p hf h6 l.length 1099511627776 0 (by omega) (by omega)
 unfold Qp9
 have e:Qu7 l f=some ((r,()),()):=h1
 rw [e]
 dsimp only [Option.bind_some]
 rw [List.drop_zero] at h2
 congr 3
 rw [Bool.eq_iff_iff,decide_eq_true_eq,List.any_eq_true]
 exact h2
end Go.PE
