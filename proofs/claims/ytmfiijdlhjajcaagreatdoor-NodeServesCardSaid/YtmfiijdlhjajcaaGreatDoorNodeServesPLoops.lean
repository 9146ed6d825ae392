/-
  Plain lemmas on the functions.
  Conditions: none.
-/
import Derived.Test.YtmfiijdlhjajcaaGreatDoorNodeServesPBits
set_option linter.unusedVariables false
set_option linter.unusedSimpArgs false
set_option maxRecDepth 20000
namespace Go.PE
theorem Qkm {α:Type} {l:List α} {i:Nat} (h:i<l.length) (d:α):List.getD l i d=l[i]:=by
 rw [List.getD_eq_getElem?_getD,List.getElem?_eq_getElem h];rfl
theorem Qqh {i:Nat} (h:i<4611686018427387904):IntKind.wrap .i64 ((i:Int)+1)=((i+1:Nat):Int):=by rw [Qq3 (by omega) (by omega)];omega
theorem Qk9 (i:Nat):(i:Int).toNat=i:=rfl
theorem Zd0 {α:Type} {x y:Int} {a b:α}:(bif x != y then a else b)=if x=y then b else a:=by
 by_cases h:x=y
 ·rw [Zk0 h,if_pos h]
 ·rw [Znw h,if_neg h]
theorem ceq {α:Type} {x y:Int} {a b:α}:(bif x==y then a else b)=if x=y then a else b:=by
 by_cases h:x=y
 ·rw [Z2n h,if_pos h]
 ·rw [Z0t h,if_neg h]
theorem Zae (n:Nat) (a b:List Int) (hl:a.length=b.length) (h6:a.length≤4000000000000):∀ (k m i:Nat),i+k=a.length→k<m →
  Qnz n m a b (a.length:Int) (i:Int)=some ((decide (a.drop i=b.drop i),()),())
 | k,0,i,_,h=>by omega
 | 0,m+1,i,hk,h=>by
  show Qnr (Qnz n m) a b (a.length:Int) (i:Int)=_
  unfold Qnr
  rw [cdn (by omega),List.drop_eq_nil_of_le (by omega),List.drop_eq_nil_of_le (by omega)];simp
 | k+1,m+1,i,hk,h=>by
  show Qnr (Qnz n m) a b (a.length:Int) (i:Int)=_
  unfold Qnr
  have hi:i<a.length:=by omega
  have hi':i<b.length:=by omega
  rw [cdp (by omega)]
  simp only [Zab]
  rw [cdp (by omega),cdp (by omega),cdp (by omega),cdp (by omega),Qk9,Qkm hi,Qkm hi',List.drop_eq_getElem_cons hi,List.drop_eq_getElem_cons hi',Qqh (by omega)]
  generalize a[i]=x
  generalize b[i]=y
  rw [Zd0]
  by_cases hxy:x=y
  ·rw [if_pos hxy,Zae n a b hl h6 k m (i+1) (by omega) (by omega),hxy];simp
  ·rw [if_neg hxy];simp [hxy]
theorem Zpq (a b:List Int) (h6:a.length≤4000000000000) (h7:b.length≤4000000000000) (hf:a.length<1099511627776):Qzp a b=some ((decide (a=b),()),()):=by
 show Qtg (Qnz 1099511627776 1099511627776) a b=_
 unfold Qtg
 by_cases hl:a.length=b.length
 ·rw [Zk0 (by omega)]
  have:=Zae 1099511627776 a b hl h6 a.length 1099511627776 0 (by omega) (by omega)
  simpa using this
 ·rw [Znw (by omega),decide_eq_false (fun h=>hl (by rw [h]))]
theorem Z88 (n:Nat) (a b:List Int) (hl:a.length=b.length) (h6:a.length≤4000000000000):∀ (k m i:Nat),i+k=a.length→k<m →
  Qnb n m a b (a.length:Int) (i:Int)=some ((decide (a.drop i=b.drop i),()),())
 | k,0,i,_,h=>by omega
 | 0,m+1,i,hk,h=>by
  show Qnf (Qnb n m) a b (a.length:Int) (i:Int)=_
  unfold Qnf
  rw [cdn (by omega),List.drop_eq_nil_of_le (by omega),List.drop_eq_nil_of_le (by omega)];simp
 | k+1,m+1,i,hk,h=>by
  show Qnf (Qnb n m) a b (a.length:Int) (i:Int)=_
  unfold Qnf
  have hi:i<a.length:=by omega
  have hi':i<b.length:=by omega
  rw [cdp (by omega)]
  simp only [Zab]
  rw [cdp (by omega),cdp (by omega),cdp (by omega),cdp (by omega),Qk9,Qkm hi,Qkm hi',List.drop_eq_getElem_cons hi,List.drop_eq_getElem_cons hi',Qqh (by omega)]
  generalize a[i]=x
  generalize b[i]=y
  rw [Zd0]
  by_cases hxy:x=y
  ·rw [if_pos hxy,Z88 n a b hl h6 k m (i+1) (by omega) (by omega),hxy];simp
  ·rw [if_neg hxy];simp [hxy]
theorem Zop (a b:List Int) (h6:a.length≤1000000000) (h7:b.length≤1000000000):Qu5 a b=some ((decide (a=b),()),()):=by
 show Qsr (Qnb 1099511627776 1099511627776) a b=_
 unfold Qsr
 by_cases hl:a.length=b.length
 ·rw [Zk0 (by omega)]
  have:=Z88 1099511627776 a b hl (by omega) a.length 1099511627776 0 (by omega) (by omega)
  simpa using this
 ·rw [Znw (by omega),decide_eq_false (fun h=>hl (by rw [h]))]
theorem Zbt (n:Nat) (a b:List Int) (hl:a.length=b.length) (h6:a.length≤4000000000000):∀ (k m i:Nat),i+k=a.length→k<m →
  Qml n m a b (i:Int)=some ((decide (a.drop i=b.drop i),()),())
 | k,0,i,_,h=>by omega
 | 0,m+1,i,hk,h=>by
  show Qmq (Qml n m) a b (i:Int)=_
  unfold Qmq
  rw [cdn (by omega),List.drop_eq_nil_of_le (by omega),List.drop_eq_nil_of_le (by omega)];simp
 | k+1,m+1,i,hk,h=>by
  show Qmq (Qml n m) a b (i:Int)=_
  unfold Qmq
  have hi:i<a.length:=by omega
  have hi':i<b.length:=by omega
  rw [cdp (by omega)]
  simp only [Zab]
  rw [cdp (by omega),cdp (by omega),cdp (by omega),cdp (by omega),Qk9,Qkm hi,Qkm hi',List.drop_eq_getElem_cons hi,List.drop_eq_getElem_cons hi',Qqh (by omega)]
  generalize a[i]=x
  generalize b[i]=y
  rw [Zd0]
  by_cases hxy:x=y
  ·rw [if_pos hxy,Zbt n a b hl h6 k m (i+1) (by omega) (by omega),hxy];simp
  ·rw [if_neg hxy];simp [hxy]
theorem Zmz (a b:List Int) (h6:a.length≤1000000000) (h7:b.length≤1000000000):Qs8 a b=some ((decide (a=b),()),()):=by
 show Qr2 (Qml 1099511627776 1099511627776) a b=_
 unfold Qr2
 by_cases hl:a.length=b.length
 ·rw [Zk0 (by omega)]
  have:=Zbt 1099511627776 a b hl (by omega) a.length 1099511627776 0 (by omega) (by omega)
  simpa using this
 ·rw [Znw (by omega),decide_eq_false (fun h=>hl (by rw [h]))]
theorem Zar (n:Nat) (l:List Int) (v:Int) (h6:l.length≤1000000000):∀ (k m i:Nat),i+k=l.length→k<m →
  ∃ r:Int,Qmw n m l v (l.length:Int) (i:Int)=some ((r,()),())∧(0≤r↔v∈l.drop i)
 | k,0,i,_,h=>by omega
 | 0,m+1,i,hk,h=>by
  refine ⟨-1,?_,?_⟩
  ·show Qnu (Qmw n m) l v (l.length:Int) (i:Int)=_
   unfold Qnu
   rw [cdn (by omega)]
  ·rw [List.drop_eq_nil_of_le (by omega)];simp
 | k+1,m+1,i,hk,h=>by
  have hi:i<l.length:=by omega
  have e:Qmw n (m+1) l v (l.length:Int) (i:Int)=if v=l[i] then some (((i:Int),()),()) else Qmw n m l v (l.length:Int) ((i+1:Nat):Int):=by
   show Qnu (Qmw n m) l v (l.length:Int) (i:Int)=_
   unfold Qnu
   rw [cdp (by omega),Zab,cdp (by omega),cdp (by omega),Qk9,Qkm hi,Qqh (by omega),ceq]
  rw [e,List.drop_eq_getElem_cons hi]
  by_cases hv:v=l[i]
  ·exact ⟨(i:Int),if_pos hv,⟨fun _=>hv▸List.mem_cons_self ..,fun _=>by omega⟩⟩
  ·obtain ⟨r,h1,h2⟩:=Zar n l v h6 k m (i+1) (by omega) (by omega)
   exact ⟨r,by rw [if_neg hv,h1],by rw [h2,List.mem_cons];exact ⟨.inr,fun h=>h.elim (fun e=>absurd e hv) id⟩⟩
theorem Zes (l:List Int) (v:Int) (h6:l.length≤1000000000):Qq7 l v=some ((decide (v∈l),()),()):=by
 obtain ⟨r,h1,h2⟩:=Zar 1099511627776 l v h6 l.length 1099511627776 0 (by omega) (by omega)
 unfold Qq7
 have e:Qzr l v=some ((r,()),()):=h1
 rw [e]
 dsimp only [Option.bind_some]
 rw [List.drop_zero] at h2
 congr 3
 exact decide_eq_decide.2 h2
theorem Zn8 (n:Nat) (l:List Int) (v:Int) (h6:l.length≤1000000000):∀ (k m i:Nat),i+k=l.length→k<m →
  Qrw n m l v (i:Int)=some ((decide (v∈l.drop i),()),())
 | k,0,i,_,h=>by omega
 | 0,m+1,i,hk,h=>by
  show Qpy (Qrw n m) l v (i:Int)=_
  unfold Qpy
  rw [cdn (by omega),List.drop_eq_nil_of_le (by omega)];simp
 | k+1,m+1,i,hk,h=>by
  show Qpy (Qrw n m) l v (i:Int)=_
  have hi:i<l.length:=by omega
  unfold Qpy
  rw [cdp (by omega),Zab,cdp (by omega),cdp (by omega),Qk9,Qkm hi,Qqh (by omega),ceq,List.drop_eq_getElem_cons hi]
  by_cases hv:l[i]=v
  ·rw [if_pos hv];simp [hv]
  ·rw [if_neg hv,Zn8 n l v h6 k m (i+1) (by omega) (by omega)]
   congr 3
   exact decide_eq_decide.2 (by rw [List.mem_cons];exact ⟨.inr,fun h=>h.elim (fun e=>absurd e.symm hv) id⟩)
theorem Zri (l:List Int) (v:Int) (h6:l.length≤1000000000):Qrc l v=some ((decide (v∈l),()),()):=by
 have:=Zn8 1099511627776 l v h6 l.length 1099511627776 0 (by omega) (by omega)
 rw [List.drop_zero] at this
 exact this
theorem Zal (n:Nat) (l:List Int) (f:Int × Unit→Option (Bool × Unit)) (p:Int→Bool) (hf:∀ x,f (x,())=some (p x,())) (h6:l.length≤1000000000):∀ (k m i:Nat),i+k=l.length→k<m →
  ∃ r:Int,Qld n m l f (l.length:Int) (i:Int)=some ((r,()),())∧(0≤r↔∃ x∈l.drop i,p x=true)
 | k,0,i,_,h=>by omega
 | 0,m+1,i,hk,h=>by
  refine ⟨-1,?_,?_⟩
  ·show Qmb (Qld n m) l f (l.length:Int) (i:Int)=_
   unfold Qmb
   rw [cdn (by omega)]
  ·rw [List.drop_eq_nil_of_le (by omega)];simp
 | k+1,m+1,i,hk,h=>by
  have hi:i<l.length:=by omega
  have e:Qld n (m+1) l f (l.length:Int) (i:Int)=bif p l[i] then some (((i:Int),()),()) else Qld n m l f (l.length:Int) ((i+1:Nat):Int):=by
   show Qmb (Qld n m) l f (l.length:Int) (i:Int)=_
   unfold Qmb
   rw [cdp (by omega),Zab,cdp (by omega),cdp (by omega),Qk9,Qkm hi,Qqh (by omega),hf]
   rfl
  rw [e,List.drop_eq_getElem_cons hi]
  cases hv:p l[i] with
  | true=>exact ⟨(i:Int),rfl,⟨fun _=>⟨_,List.mem_cons_self ..,hv⟩,fun _=>by omega⟩⟩
  | false=>
   obtain ⟨r,h1,h2⟩:=Zal n l f p hf h6 k m (i+1) (by omega) (by omega)
   refine ⟨r,by rw [cond_false,h1],?_⟩
   rw [h2]
   constructor
   ·rintro ⟨x,hx,hp⟩;exact ⟨x,List.mem_cons_of_mem _ hx,hp⟩
   ·rintro ⟨x,hx,hp⟩
    rcases List.mem_cons.1 hx with rfl | hx
    ·rw [hv] at hp;cases hp
    ·exact ⟨x,hx,hp⟩
theorem Zfj (l:List Int) (f:Int × Unit→Option (Bool × Unit)) (p:Int→Bool) (hf:∀ x,f (x,())=some (p x,())) (h6:l.length≤1000000000):Qpc l f=some ((l.any p,()),()):=by
 obtain ⟨r,h1,h2⟩:=Zal 1099511627776 l f p hf h6 l.length 1099511627776 0 (by omega) (by omega)
 unfold Qpc
 have e:Qv5 l f=some ((r,()),()):=h1
 rw [e]
 dsimp only [Option.bind_some]
 rw [List.drop_zero] at h2
 congr 3
 rw [Bool.eq_iff_iff,decide_eq_true_eq,List.any_eq_true]
 exact h2
end Go.PE
