/-
  Plain lemmas on the functions.
  Conditions: none.
-/
import Derived.Test.YtmfiijdlhjajcaaGreatDoorNodeServesPPicks
set_option linter.unusedVariables false
set_option linter.unusedSimpArgs false
set_option maxRecDepth 20000
namespace Go.PE
theorem Zov (x:Int):Qn5 x=some ((inR 0 1000000 x,()),()):=by
 unfold Qn5 inR
 by_cases h:0≤x
 ·rw [cdp (by omega),decide_eq_true h];rfl
 ·rw [cdn (by omega),decide_eq_false h];rfl
theorem Zj1 (a b:Int):Qla (a,b)=some ((decide (1≤a∧a≤b∧b≤1000000),()),()):=by
 unfold Qla
 dsimp only
 by_cases h:1≤a
 ·rw [cdp (by omega)]
  by_cases h2:a≤b
  ·rw [cdp (by omega)];congr 3;exact decide_eq_decide.2 (by omega)
  ·rw [cdn (by omega),decide_eq_false (by omega)]
 ·rw [cdn (by omega),decide_eq_false (by omega)]
theorem Zqx (a b:Qk7):eqM a b=eqM b a:=by
 rw [Bool.eq_iff_iff,Qwo,Qwo];exact ⟨Eq.symm,Eq.symm⟩
theorem Zob (m:Qk7):Zhn m=(decide (1≤m.1∧m.1≤9∧1≤m.2.1∧m.2.1≤8∧1≤m.2.2.1∧m.2.2.1≤8∧m.2.1≠m.2.2.1∧1≤m.2.2.2.1∧m.2.2.2.1≤1073741824)&&Qvq m):=by
 rw [Bool.eq_iff_iff]
 unfold Zhn
 simp only [Bool.and_eq_true,decide_eq_true_eq,Ztb,Zs9,Qki,bne_iff_ne]
 grind
theorem Zi7 (m:Qk7) (h6:m.pa.length≤1000000000):Qti m=some ((Zhn m,()),()):=by
 have hs:∀ x:Qk7,x.pa.length≤1000000000→Qkb x m=some ((eqM m x,()),()):=fun x hx=>by rw [Zlz x m hx h6,Zqx]
 have hp:Qp0 m.2.2.2.2.2.2.1=some ((Qpk m.pa,()),()):=Z90 m.pa h6
 have h6':m.2.2.2.2.2.2.1.length≤1000000000:=h6
 rw [Zob]
 unfold Qti
 by_cases g1:m.1<1
 ·rw [cdp g1,decide_eq_false (by omega)];rfl
 rw [cdn g1]
 by_cases g2:m.1>9
 ·rw [cdp g2,decide_eq_false (by omega)];rfl
 rw [cdn g2]
 by_cases g3:m.2.1<1
 ·rw [cdp g3,decide_eq_false (by omega)];rfl
 rw [cdn g3]
 by_cases g4:m.2.1>8
 ·rw [cdp g4,decide_eq_false (by omega)];rfl
 rw [cdn g4]
 by_cases g5:m.2.2.1<1
 ·rw [cdp g5,decide_eq_false (by omega)];rfl
 rw [cdn g5]
 by_cases g6:m.2.2.1>8
 ·rw [cdp g6,decide_eq_false (by omega)];rfl
 rw [cdn g6]
 by_cases g7:m.2.1=m.2.2.1
 ·rw [Z2n g7,decide_eq_false (by omega)];rfl
 rw [Z0t g7]
 by_cases g8:m.2.2.2.1<1
 ·rw [cdp g8,decide_eq_false (by omega)];rfl
 rw [cdn g8]
 by_cases g9:m.2.2.2.1>1073741824
 ·rw [cdp g9,decide_eq_false (by omega)];rfl
 rw [cdn g9,decide_eq_true (show 1≤m.1∧m.1≤9∧1≤m.2.1∧m.2.1≤8∧1≤m.2.2.1∧m.2.2.1≤8∧m.2.1≠m.2.2.1∧1≤m.2.2.2.1∧m.2.2.2.1≤1073741824 by omega),Bool.true_and]
 unfold Qvq
 simp only [ceq]
 by_cases k2:m.1=2
 ·simp only [if_pos k2]
  rw [hp,Zov,hs _ (by simpa [Qk7.pa] using h6')]
  simp only [Option.bind_some,Z4o]
  congr 3
  rw [Bool.eq_iff_iff]
  simp only [Bool.and_eq_true,decide_eq_true_eq,Qki,Qk7.ep,Qk7.ag,Qk7.pa,Qk7.lo,Qk7.hi,eb]
  grind
 by_cases k5:m.1=5
 ·simp only [if_pos k5,if_neg k2]
  rw [hp,Zov,hs _ (by simpa [Qk7.pa] using h6')]
  simp only [Option.bind_some,Z4o]
  congr 3
  rw [Bool.eq_iff_iff]
  simp only [Bool.and_eq_true,decide_eq_true_eq,Qki,Qk7.ep,Qk7.ag,Qk7.pa,Qk7.lo,Qk7.hi,eb]
  grind
 by_cases k7:m.1=7
 ·simp only [if_pos k7,if_neg k2,if_neg k5]
  rw [Zov,hs _ (by simp [Qk7.pa])]
  simp only [Option.bind_some,Z4o]
  congr 3
  rw [Bool.eq_iff_iff]
  simp only [Bool.and_eq_true,decide_eq_true_eq,Qki,Qk7.ep,Qk7.ag,Qk7.pa,Qk7.lo,Qk7.hi,Qk7.tx,eb]
  grind
 by_cases k8:m.1=8
 ·simp only [if_pos k8,if_neg k2,if_neg k5,if_neg k7,if_pos (show m.1=8∨m.1=9 from Or.inl k8)]
  rw [Zj1,hs _ (by simp [Qk7.pa])]
  simp only [Option.bind_some,Z4o]
  congr 3
  rw [Bool.eq_iff_iff]
  simp only [Bool.and_eq_true,decide_eq_true_eq,Qki,Qk7.ep,Qk7.ag,Qk7.pa,Qk7.lo,Qk7.hi,Qk7.tx,eb]
  grind
 by_cases k9:m.1=9
 ·simp only [if_pos k9,if_neg k2,if_neg k5,if_neg k7,if_neg k8,if_pos (show m.1=8∨m.1=9 from Or.inr k9)]
  rw [Zj1,hs _ (by simp [Qk7.pa])]
  simp only [Option.bind_some,Z4o]
  congr 3
  rw [Bool.eq_iff_iff]
  simp only [Bool.and_eq_true,decide_eq_true_eq,Qki,Qk7.ep,Qk7.ag,Qk7.pa,Qk7.lo,Qk7.hi,Qk7.tx,eb]
  grind
 ·simp only [if_neg k2,if_neg k5,if_neg k7,if_neg k8,if_neg k9,if_neg (show ¬ (m.1=8∨m.1=9) from fun h=>h.elim k8 k9)]
  rw [hs _ (by simp [Qk7.pa])]
  rfl
theorem Z6o (n:Nat) (L:List Int→Int→Int→Option ((Int × Unit) × Unit)) (m1:Nat) (l:List Int) (i:Int):∀ (k m c j:Nat),j+k=8→k<m→c<4294967296 →
  Qn8 n m1 L m l (c:Int) i (j:Int)=L l ((Zqp k c:Nat):Int) (IntKind.wrap .i64 (i+1))
 | k,0,c,j,_,h,_=>by omega
 | 0,m+1,c,j,hk,h,hc=>by
  show Qoz (Qn8 n m1 L m) L l (c:Int) i (j:Int)=_
  unfold Qoz
  rw [cdn (by omega)];rfl
 | k+1,m+1,c,j,hk,h,hc=>by
  show Qoz (Qn8 n m1 L m) L l (c:Int) i (j:Int)=_
  unfold Qoz
  have e1:IntKind.wrap .u32 (Int.tdiv (c:Int) 2)=((c / 2:Nat):Int):=by
   rw [Int.tdiv_eq_ediv_of_nonneg (by omega),Zsq (by omega) (by omega)];rfl
  have e3:Int.tmod (c:Int) 2=((c % 2:Nat):Int):=by rw [Int.tmod_eq_emod_of_nonneg (by omega)];rfl
  have e2:IntKind.wrap .u32 ((BitVec.ofInt 32 ((c / 2:Nat):Int) ^^^ BitVec.ofInt 32 3988292384).toNat)=((c / 2 ^^^ 3988292384:Nat):Int):=Zsa (b:=3988292384) (by omega) (by omega)
  rw [cdp (by omega),e1,e3,e2,Qqh (by omega),ceq]
  have ec:Zqp (k+1) c=Zqp k (Z6m c):=rfl
  rw [ec]
  by_cases hp:c % 2=1
  ·have es:Z6m c=c / 2 ^^^ 3988292384:=if_pos hp
   rw [if_pos (by omega),es]
   exact Z6o n L m1 l i k m _ (j+1) (by omega) (by omega) (es▸Ze1 hc)
  ·have es:Z6m c=c / 2:=if_neg hp
   rw [if_neg (by omega),es]
   exact Z6o n L m1 l i k m _ (j+1) (by omega) (by omega) (by omega)
theorem Zcm (l:List Int) (hb:Qkn l) (h6:l.length≤1000000000):∀ (k m i c:Nat),i+k=l.length→k<m→c<4294967296 →
  Qon 1099511627776 m l (c:Int) (i:Int)=some ((((Zsu c (l.drop i) ^^^ 4294967295:Nat):Int),()),())
 | k,0,i,c,_,h,_=>by omega
 | 0,m+1,i,c,hk,h,hc=>by
  show Qos (Qn8 1099511627776 m (Qon 1099511627776 m) 1099511627776) l (c:Int) (i:Int)=_
  unfold Qos
  have e2:IntKind.wrap .u32 ((BitVec.ofInt 32 4294967295 ^^^ BitVec.ofInt 32 (c:Int)).toNat)=((c ^^^ 4294967295:Nat):Int):=by
   have:=Zsa (a:=4294967295) (b:=c) (by omega) hc
   rw [Nat.xor_comm] at this
   exact this
  rw [cdn (by omega),e2,List.drop_eq_nil_of_le (by omega)];rfl
 | k+1,m+1,i,c,hk,h,hc=>by
  show Qos (Qn8 1099511627776 m (Qon 1099511627776 m) 1099511627776) l (c:Int) (i:Int)=_
  unfold Qos
  have hi:i<l.length:=by omega
  have hx:=hb l[i] (List.getElem_mem hi)
  rw [cdp (by omega),Zab,cdp (by omega),cdp (by omega),Qk9,Qkm hi,List.drop_eq_getElem_cons hi]
  generalize l[i]=x at *
  obtain ⟨x,rfl⟩:∃ y:Nat,x=(y:Int):=⟨x.toNat,by omega⟩
  rw [Zsq (x:=(x:Int)) (by omega) (by omega),Zsa hc (by omega)]
  have hlt:c ^^^ x<4294967296:=Zny hc (by omega)
  have:=Z6o 1099511627776 (Qon 1099511627776 m) m l (i:Int) 8 1099511627776 (c ^^^ x) 0 rfl (by omega) hlt
  have e0:((0:Nat):Int)=0:=rfl
  rw [e0] at this
  rw [this,Qqh (by omega),Zcm l hb h6 k m (i+1) _ (by omega) (by omega) (Zjv 8 hlt)]
  rfl
theorem Zlm (l:List Int) (hb:Qkn l) (h6:l.length≤1000000000):Z2c l=some ((((Zrm l:Nat):Int),()),()):=by
 have:=Zcm l hb h6 l.length 1099511627776 0 4294967295 (by omega) (by omega) (by omega)
 rw [List.drop_zero] at this
 exact this
theorem Zeq (n:Nat) (tx:ByteArray) (ht:tx.size≤100) (l:List Int) (hl:∀ x∈l,0≤x∧x≤1073741824) (h6:l.length≤1000) (a b c d e f:Int) (p:List Int) (g j:Int):∀ (k m i:Nat) (xs:List Int),Qkn xs→i+k=l.length→k<m→xs.length+10*k≤100000 →
  Qmz n m (i:Int) a b c d e f p g j tx l xs=some ((xs++Zef (l.drop i)++Zfq (Qyl tx)++Zkj (Zrm (xs++Zef (l.drop i)++Zfq (Qyl tx))),()),())
 | k,0,i,xs,_,_,h,_=>by omega
 | 0,m+1,i,xs,hb,hk,h,hx=>by
  show Qn2 (Qmz n m) (i:Int) a b c d e f p g j tx l xs=_
  unfold Qn2
  have hlen:(xs++Zfq (Qyl tx)).length≤200000:=by
   unfold Zfq
   rw [List.length_append,List.length_append];have:=Qw4 (Qyl tx).length;have:=Qs5 tx;omega
  have hby:Qkn (xs++Zfq (Qyl tx)):=Qpo.2 ⟨hb,Zdi (Z64 _)⟩
  have e0:xs++(enc tx.size++Qyl tx)=xs++Zfq (Qyl tx):=by unfold Zfq;rw [Qs5]
  rw [cdn (by omega),Zh4 xs tx (by omega) (by omega),List.drop_eq_nil_of_le (by omega),e0]
  dsimp only [Option.bind_some]
  rw [Zlm _ hby (by omega)]
  dsimp only [Option.bind_some]
  rw [cbp (by omega),Zng (Zp1 hby)]
  simp only [Zef,List.append_nil]
 | k+1,m+1,i,xs,hb,hk,h,hx=>by
  show Qn2 (Qmz n m) (i:Int) a b c d e f p g j tx l xs=_
  unfold Qn2
  have hi:i<l.length:=by omega
  have hv:=hl l[i] (List.getElem_mem hi)
  rw [cdp (by omega),Zab,cdp (by omega),cdp (by omega),Zab,cdp (by omega),cdp (by omega),Qk9,Qkm hi,List.drop_eq_getElem_cons hi]
  generalize l[i]=x at *
  obtain ⟨x,rfl⟩:∃ y:Nat,x=(y:Int):=⟨x.toNat,by omega⟩
  rw [Zag xs x (by omega) (by omega)]
  dsimp only [Option.bind_some]
  have:=Qw4 x
  rw [Qqh (by omega),Zeq n tx ht l hl h6 a b c d e f p g j k m (i+1) (xs++enc x) (Qpo.2 ⟨hb,Zd5 x⟩) (by omega) (by omega) (by rw [List.length_append];omega)]
  have e1:xs++enc x++Zef (l.drop (i+1))=xs++Zef ((x:Int)::l.drop (i+1)):=by rw [List.append_assoc];rfl
  rw [e1]
theorem Zhp (m:Qk7) (h6:m.pa.length≤1000000000):Qol m=some ((Zft m,()),()):=by
 show Qri (Qmz 1099511627776 1099511627776) m=_
 unfold Qri
 rw [Zi7 m h6]
 dsimp only [Option.bind_some]
 unfold Zft
 cases hm:Zhn m with
 | false=>rfl
 | true=>
  have ho:=Zbe hm
  have hp:m.2.2.2.2.2.2.1.length≤10:=ho.pl
  have h1:=Zeq 1099511627776 m.tx (by have:=ho.tx;omega) (Ze6 m) ho.nums.2 (by have:=ho.nums.1;have:=ho.pl;omega) m.1 m.2.1 m.2.2.1 m.2.2.2.1 m.2.2.2.2.1 m.2.2.2.2.2.1 m.2.2.2.2.2.2.1 m.2.2.2.2.2.2.2.1 m.2.2.2.2.2.2.2.2.1 (Ze6 m).length 1099511627776 0 [] (by intro x hx;cases hx) (by omega) (by have:=ho.nums.1;have:=ho.pl;omega) (by have:=ho.nums.1;have:=ho.pl;simp;omega)
  rw [nt,if_pos rfl]
  simp only [cond_false]
  rw [cbp (by omega),cbp (by rw [List.length_append];simp;omega)]
  rw [List.drop_zero] at h1
  exact h1
structure RB (s:List Int × Bool) (o:Option (List Int)):Prop where
 by':Qkn s.1
 len:s.1.length≤1000000000
 is':match o with | some l=>s.1=l∧s.2=false | none=>s.2=true
def fin (b:List Int) (m:Qk7) (o:Option (List Int)):Option Qk7:=
 match o with
 | none=>none
 | some _=>if Zft m=b then some m else none
theorem RB.byo {s:List Int × Bool} {o:Option (List Int)} (h:RB s o):∀ l,o=some l→Qkn l:=by
 intro l e;subst e
 obtain ⟨h1,h2⟩:=h.is'
 rw [← h1];exact h.by'
end Go.PE
