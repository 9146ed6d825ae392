/-
  Plain lemmas on the functions.
  Conditions: none.
-/
import Derived.Test.YtmfiijdlhjajcaaGreatDoorNodeDownPPicks
set_option linter.unusedVariables false
set_option linter.unusedSimpArgs false
set_option maxRecDepth 20000
namespace Go.PE
theorem Znn (x:Int):Qmp x=some ((inR 0 1000000 x,()),()):=by
 unfold Qmp inR
 by_cases h:0≤x
 ·rw [cdp (by omega),decide_eq_true h];rfl
 ·rw [cdn (by omega),decide_eq_false h];rfl
theorem Zh4 (a b:Int):Ql4 (a,b)=some ((decide (1≤a∧a≤b∧b≤1000000),()),()):=by
 unfold Ql4
 dsimp only
 by_cases h:1≤a
 ·rw [cdp (by omega)]
  by_cases h2:a≤b
  ·rw [cdp (by omega)];congr 3;exact decide_eq_decide.2 (by omega)
  ·rw [cdn (by omega),decide_eq_false (by omega)]
 ·rw [cdn (by omega),decide_eq_false (by omega)]
theorem Zpi (a b:Qk7):eqM a b=eqM b a:=by
 rw [Bool.eq_iff_iff,Qx2,Qx2];exact ⟨Eq.symm,Eq.symm⟩
theorem Zmb (m:Qk7):Zg4 m=(decide (1≤m.1∧m.1≤9∧1≤m.2.1∧m.2.1≤8∧1≤m.2.2.1∧m.2.2.1≤8∧m.2.1≠m.2.2.1∧1≤m.2.2.2.1∧m.2.2.2.1≤1073741824)&&Qw5 m):=by
 rw [Bool.eq_iff_iff]
 unfold Zg4
 simp only [Bool.and_eq_true,decide_eq_true_eq,Zrr,Zqs,Qkn,bne_iff_ne]
 grind
theorem Zg5 (m:Qk7) (h6:m.pa.length≤1000000000):Qsk m=some ((Zg4 m,()),()):=by
 have hs:∀ x:Qk7,x.pa.length≤1000000000→Qka x m=some ((eqM m x,()),()):=fun x hx=>by rw [Zki x m hx h6,Zpi]
 have hp:Qo0 m.2.2.2.2.2.2.1=some ((Qos m.pa,()),()):=Z6c m.pa h6
 have h6':m.2.2.2.2.2.2.1.length≤1000000000:=h6
 rw [Zmb]
 unfold Qsk
 by_cases g1:m.1<1
 ·rw [cdp g1,decide_eq_false (by omega)];rfl
 rw [cdn g1]
 by_cases g2:m.1>9
 ·rw [cdp g2,decide_eq_false (by omega)];rfl
 rw [cdn g2]
 by_cases g3:m.2.1<1
 ·rw [cdp g3,decide_eq_false (by omega)];rfl
 rw [cdn g3]
 by_cases g4:m.2.1>8
 ·rw [cdp g4,decide_eq_false (by omega)];rfl
 rw [cdn g4]
 by_cases g5:m.2.2.1<1
 ·rw [cdp g5,decide_eq_false (by omega)];rfl
 rw [cdn g5]
 by_cases g6:m.2.2.1>8
 ·rw [cdp g6,decide_eq_false (by omega)];rfl
 rw [cdn g6]
 by_cases g7:m.2.1=m.2.2.1
 ·rw [Z2y g7,decide_eq_false (by omega)];rfl
 rw [Z09 g7]
 by_cases g8:m.2.2.2.1<1
 ·rw [cdp g8,decide_eq_false (by omega)];rfl
 rw [cdn g8]
 by_cases g9:m.2.2.2.1>1073741824
 ·rw [cdp g9,decide_eq_false (by omega)];rfl
 rw [cdn g9,decide_eq_true (show 1≤m.1∧m.1≤9∧1≤m.2.1∧m.2.1≤8∧1≤m.2.2.1∧m.2.2.1≤8∧m.2.1≠m.2.2.1∧1≤m.2.2.2.1∧m.2.2.2.1≤1073741824 by omega),Bool.true_and]
 unfold Qw5
 simp only [ceq]
 by_cases k2:m.1=2
 ·simp only [if_pos k2]
  rw [hp,Znn,hs _ (by simpa [Qk7.pa] using h6')]
  simp only [Option.bind_some,Z3o]
  congr 3
  rw [Bool.eq_iff_iff]
  simp only [Bool.and_eq_true,decide_eq_true_eq,Qkn,Qk7.ep,Qk7.ag,Qk7.pa,Qk7.lo,Qk7.hi,eb]
  grind
 by_cases k5:m.1=5
 ·simp only [if_pos k5,if_neg k2]
  rw [hp,Znn,hs _ (by simpa [Qk7.pa] using h6')]
  simp only [Option.bind_some,Z3o]
  congr 3
  rw [Bool.eq_iff_iff]
  simp only [Bool.and_eq_true,decide_eq_true_eq,Qkn,Qk7.ep,Qk7.ag,Qk7.pa,Qk7.lo,Qk7.hi,eb]
  grind
 by_cases k7:m.1=7
 ·simp only [if_pos k7,if_neg k2,if_neg k5]
  rw [Znn,hs _ (by simp [Qk7.pa])]
  simp only [Option.bind_some,Z3o]
  congr 3
  rw [Bool.eq_iff_iff]
  simp only [Bool.and_eq_true,decide_eq_true_eq,Qkn,Qk7.ep,Qk7.ag,Qk7.pa,Qk7.lo,Qk7.hi,Qk7.tx,eb]
  grind
 by_cases k8:m.1=8
 ·simp only [if_pos k8,if_neg k2,if_neg k5,if_neg k7,if_pos (show m.1=8∨m.1=9 from Or.inl k8)]
  rw [Zh4,hs _ (by simp [Qk7.pa])]
  simp only [Option.bind_some,Z3o]
  congr 3
  rw [Bool.eq_iff_iff]
  simp only [Bool.and_eq_true,decide_eq_true_eq,Qkn,Qk7.ep,Qk7.ag,Qk7.pa,Qk7.lo,Qk7.hi,Qk7.tx,eb]
  grind
 by_cases k9:m.1=9
 ·simp only [if_pos k9,if_neg k2,if_neg k5,if_neg k7,if_neg k8,if_pos (show m.1=8∨m.1=9 from Or.inr k9)]
  rw [Zh4,hs _ (by simp [Qk7.pa])]
  simp only [Option.bind_some,Z3o]
  congr 3
  rw [Bool.eq_iff_iff]
  simp only [Bool.and_eq_true,decide_eq_true_eq,Qkn,Qk7.ep,Qk7.ag,Qk7.pa,Qk7.lo,Qk7.hi,Qk7.tx,eb]
  grind
 ·simp only [if_neg k2,if_neg k5,if_neg k7,if_neg k8,if_neg k9,if_neg (show ¬ (m.1=8∨m.1=9) from fun h=>h.elim k8 k9)]
  rw [hs _ (by simp [Qk7.pa])]
  rfl
theorem Z4g (n:Nat) (L:List Int→Int→Int→Option ((Int × Unit) × Unit)) (m1:Nat) (l:List Int) (i:Int):∀ (k m c j:Nat),j+k=8→k<m→c<4294967296 →
  Qmq n m1 L m l (c:Int) i (j:Int)=L l ((Zpc k c:Nat):Int) (IntKind.wrap .i64 (i+1))
 | k,0,c,j,_,h,_=>by omega
 | 0,m+1,c,j,hk,h,hc=>by
  show Qo8 (Qmq n m1 L m) L l (c:Int) i (j:Int)=_
  unfold Qo8
  rw [cdn (by omega)];rfl
 | k+1,m+1,c,j,hk,h,hc=>by
  show Qo8 (Qmq n m1 L m) L l (c:Int) i (j:Int)=_
  unfold Qo8
  have e1:IntKind.wrap .u32 (Int.tdiv (c:Int) 2)=((c / 2:Nat):Int):=by
   rw [Int.tdiv_eq_ediv_of_nonneg (by omega),Zr3 (by omega) (by omega)];rfl
  have e3:Int.tmod (c:Int) 2=((c % 2:Nat):Int):=by rw [Int.tmod_eq_emod_of_nonneg (by omega)];rfl
  have e2:IntKind.wrap .u32 ((BitVec.ofInt 32 ((c / 2:Nat):Int) ^^^ BitVec.ofInt 32 3988292384).toNat)=((c / 2 ^^^ 3988292384:Nat):Int):=Zqt (b:=3988292384) (by omega) (by omega)
  rw [cdp (by omega),e1,e3,e2,Qr9 (by omega),ceq]
  have ec:Zpc (k+1) c=Zpc k (Z4q c):=rfl
  rw [ec]
  by_cases hp:c % 2=1
  ·have es:Z4q c=c / 2 ^^^ 3988292384:=if_pos hp
   rw [if_pos (by omega),es]
   exact Z4g n L m1 l i k m _ (j+1) (by omega) (by omega) (es▸Zbt hc)
  ·have es:Z4q c=c / 2:=if_neg hp
   rw [if_neg (by omega),es]
   exact Z4g n L m1 l i k m _ (j+1) (by omega) (by omega) (by omega)
theorem Zaf (l:List Int) (hb:Qki l) (h6:l.length≤1000000000):∀ (k m i c:Nat),i+k=l.length→k<m→c<4294967296 →
  Qnz 1099511627776 m l (c:Int) (i:Int)=some ((((Zqu c (l.drop i) ^^^ 4294967295:Nat):Int),()),())
 | k,0,i,c,_,h,_=>by omega
 | 0,m+1,i,c,hk,h,hc=>by
  show Qo9 (Qmq 1099511627776 m (Qnz 1099511627776 m) 1099511627776) l (c:Int) (i:Int)=_
  unfold Qo9
  have e2:IntKind.wrap .u32 ((BitVec.ofInt 32 4294967295 ^^^ BitVec.ofInt 32 (c:Int)).toNat)=((c ^^^ 4294967295:Nat):Int):=by
   have:=Zqt (a:=4294967295) (b:=c) (by omega) hc
   rw [Nat.xor_comm] at this
   exact this
  rw [cdn (by omega),e2,List.drop_eq_nil_of_le (by omega)];rfl
 | k+1,m+1,i,c,hk,h,hc=>by
  show Qo9 (Qmq 1099511627776 m (Qnz 1099511627776 m) 1099511627776) l (c:Int) (i:Int)=_
  unfold Qo9
  have hi:i<l.length:=by omega
  have hx:=hb l[i] (List.getElem_mem hi)
  rw [cdp (by omega),Z86,cdp (by omega),cdp (by omega),Qk9,Qkl hi,List.drop_eq_getElem_cons hi]
  generalize l[i]=x at *
  obtain ⟨x,rfl⟩:∃ y:Nat,x=(y:Int):=⟨x.toNat,by omega⟩
  rw [Zr3 (x:=(x:Int)) (by omega) (by omega),Zqt hc (by omega)]
  have hlt:c ^^^ x<4294967296:=Zn6 hc (by omega)
  have:=Z4g 1099511627776 (Qnz 1099511627776 m) m l (i:Int) 8 1099511627776 (c ^^^ x) 0 rfl (by omega) hlt
  have e0:((0:Nat):Int)=0:=rfl
  rw [e0] at this
  rw [this,Qr9 (by omega),Zaf l hb h6 k m (i+1) _ (by omega) (by omega) (Zhl 8 hlt)]
  rfl
theorem Zkh (l:List Int) (hb:Qki l) (h6:l.length≤1000000000):Z0e l=some ((((Zqr l:Nat):Int),()),()):=by
 have:=Zaf l hb h6 l.length 1099511627776 0 4294967295 (by omega) (by omega) (by omega)
 rw [List.drop_zero] at this
 exact this
theorem Zcr (n:Nat) (tx:ByteArray) (ht:tx.size≤100) (l:List Int) (hl:∀ x∈l,0≤x∧x≤1073741824) (h6:l.length≤1000) (a b c d e f:Int) (p:List Int) (g j:Int):∀ (k m i:Nat) (xs:List Int),Qki xs→i+k=l.length→k<m→xs.length+10*k≤100000 →
  Qml n m (i:Int) a b c d e f p g j tx l xs=some ((xs++Zcx (l.drop i)++Ze4 (Qx5 tx)++Zjs (Zqr (xs++Zcx (l.drop i)++Ze4 (Qx5 tx))),()),())
 | k,0,i,xs,_,_,h,_=>by omega
 | 0,m+1,i,xs,hb,hk,h,hx=>by
  show Qmj (Qml n m) (i:Int) a b c d e f p g j tx l xs=_
  unfold Qmj
  have hlen:(xs++Ze4 (Qx5 tx)).length≤200000:=by
   unfold Ze4
   rw [List.length_append,List.length_append];have:=Qv6 (Qx5 tx).length;have:=Qre tx;omega
  have hby:Qki (xs++Ze4 (Qx5 tx)):=Qp4.2 ⟨hb,Zc5 (Z4s _)⟩
  have e0:xs++(enc tx.size++Qx5 tx)=xs++Ze4 (Qx5 tx):=by unfold Ze4;rw [Qre]
  rw [cdn (by omega),Zfc xs tx (by omega) (by omega),List.drop_eq_nil_of_le (by omega),e0]
  dsimp only [Option.bind_some]
  rw [Zkh _ hby (by omega)]
  dsimp only [Option.bind_some]
  rw [cbp (by omega),Zlo (Znq hby)]
  simp only [Zcx,List.append_nil]
 | k+1,m+1,i,xs,hb,hk,h,hx=>by
  show Qmj (Qml n m) (i:Int) a b c d e f p g j tx l xs=_
  unfold Qmj
  have hi:i<l.length:=by omega
  have hv:=hl l[i] (List.getElem_mem hi)
  rw [cdp (by omega),Z86,cdp (by omega),cdp (by omega),Z86,cdp (by omega),cdp (by omega),Qk9,Qkl hi,List.drop_eq_getElem_cons hi]
  generalize l[i]=x at *
  obtain ⟨x,rfl⟩:∃ y:Nat,x=(y:Int):=⟨x.toNat,by omega⟩
  rw [Z96 xs x (by omega) (by omega)]
  dsimp only [Option.bind_some]
  have:=Qv6 x
  rw [Qr9 (by omega),Zcr n tx ht l hl h6 a b c d e f p g j k m (i+1) (xs++enc x) (Qp4.2 ⟨hb,Za4 x⟩) (by omega) (by omega) (by rw [List.length_append];omega)]
  have e1:xs++enc x++Zcx (l.drop (i+1))=xs++Zcx ((x:Int)::l.drop (i+1)):=by rw [List.append_assoc];rfl
  rw [e1]
theorem Z8v (m:Qk7) (h6:m.pa.length≤1000000000):Qso m=some ((Zbr m,()),()):=by
 show Qqo (Qml 1099511627776 1099511627776) m=_
 unfold Qqo
 rw [Zg5 m h6]
 dsimp only [Option.bind_some]
 unfold Zbr
 cases hm:Zg4 m with
 | false=>rfl
 | true=>
  have ho:=Z4w hm
  have hp:m.2.2.2.2.2.2.1.length≤10:=ho.pl
  have h1:=Zcr 1099511627776 m.tx (by have:=ho.tx;omega) (Zci m) ho.nums.2 (by have:=ho.nums.1;have:=ho.pl;omega) m.1 m.2.1 m.2.2.1 m.2.2.2.1 m.2.2.2.2.1 m.2.2.2.2.2.1 m.2.2.2.2.2.2.1 m.2.2.2.2.2.2.2.1 m.2.2.2.2.2.2.2.2.1 (Zci m).length 1099511627776 0 [] (by intro x hx;cases hx) (by omega) (by have:=ho.nums.1;have:=ho.pl;omega) (by have:=ho.nums.1;have:=ho.pl;simp;omega)
  rw [nt,if_pos rfl]
  simp only [cond_false]
  rw [cbp (by omega),cbp (by rw [List.length_append];simp;omega)]
  rw [List.drop_zero] at h1
  exact h1
structure RB (s:List Int × Bool) (o:Option (List Int)):Prop where
 by':Qki s.1
 len:s.1.length≤1000000000
 is':match o with | some l=>s.1=l∧s.2=false | none=>s.2=true
def fin (b:List Int) (m:Qk7) (o:Option (List Int)):Option Qk7:=
 match o with
 | none=>none
 | some _=>if Zbr m=b then some m else none
theorem RB.byo {s:List Int × Bool} {o:Option (List Int)} (h:RB s o):∀ l,o=some l→Qki l:=by
 intro l e;subst e
 obtain ⟨h1,h2⟩:=h.is'
 rw [← h1];exact h.by'
end Go.PE
