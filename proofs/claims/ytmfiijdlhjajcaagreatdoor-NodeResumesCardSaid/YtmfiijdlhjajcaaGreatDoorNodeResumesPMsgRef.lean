/-
  Plain lemmas on the functions.
  Conditions: none.
-/
import Derived.Test.YtmfiijdlhjajcaaGreatDoorNodeResumesPPicks
set_option linter.unusedVariables false
set_option linter.unusedSimpArgs false
set_option maxRecDepth 20000
namespace Go.PE
theorem Zo9 (x:Int):Qms x=some ((inR 0 1000000 x,()),()):=by
 unfold Qms inR
 by_cases h:0≤x
 ·rw [cdp (by omega),decide_eq_true h];rfl
 ·rw [cdn (by omega),decide_eq_false h];rfl
theorem Zi3 (a b:Int):Ql1 (a,b)=some ((decide (1≤a∧a≤b∧b≤1000000),()),()):=by
 unfold Ql1
 dsimp only
 by_cases h:1≤a
 ·rw [cdp (by omega)]
  by_cases h2:a≤b
  ·rw [cdp (by omega)];congr 3;exact decide_eq_decide.2 (by omega)
  ·rw [cdn (by omega),decide_eq_false (by omega)]
 ·rw [cdn (by omega),decide_eq_false (by omega)]
theorem Zps (a b:Qk7):eqM a b=eqM b a:=by
 rw [Bool.eq_iff_iff,Qwk,Qwk];exact ⟨Eq.symm,Eq.symm⟩
theorem Zng (m:Qk7):Zi5 m=(decide (1≤m.1∧m.1≤9∧1≤m.2.1∧m.2.1≤8∧1≤m.2.2.1∧m.2.2.1≤8∧m.2.1≠m.2.2.1∧1≤m.2.2.2.1∧m.2.2.2.1≤1073741824)&&Qux m):=by
 rw [Bool.eq_iff_iff]
 unfold Zi5
 simp only [Bool.and_eq_true,decide_eq_true_eq,Zrx,Zr9,Qkg,bne_iff_ne]
 grind
theorem Zgp (m:Qk7) (h6:m.pa.length≤1000000000):Qsv m=some ((Zi5 m,()),()):=by
 have hs:∀ x:Qk7,x.pa.length≤1000000000→Qk9 x m=some ((eqM m x,()),()):=fun x hx=>by rw [Zla x m hx h6,Zps]
 have hp:Qo5 m.2.2.2.2.2.2.1=some ((Qnc m.pa,()),()):=Z6s m.pa h6
 have h6':m.2.2.2.2.2.2.1.length≤1000000000:=h6
 rw [Zng]
 unfold Qsv
 by_cases g1:m.1<1
 ·rw [cdp g1,decide_eq_false (by omega)];rfl
 rw [cdn g1]
 by_cases g2:m.1>9
 ·rw [cdp g2,decide_eq_false (by omega)];rfl
 rw [cdn g2]
 by_cases g3:m.2.1<1
 ·rw [cdp g3,decide_eq_false (by omega)];rfl
 rw [cdn g3]
 by_cases g4:m.2.1>8
 ·rw [cdp g4,decide_eq_false (by omega)];rfl
 rw [cdn g4]
 by_cases g5:m.2.2.1<1
 ·rw [cdp g5,decide_eq_false (by omega)];rfl
 rw [cdn g5]
 by_cases g6:m.2.2.1>8
 ·rw [cdp g6,decide_eq_false (by omega)];rfl
 rw [cdn g6]
 by_cases g7:m.2.1=m.2.2.1
 ·rw [Z1t g7,decide_eq_false (by omega)];rfl
 rw [Z1m g7]
 by_cases g8:m.2.2.2.1<1
 ·rw [cdp g8,decide_eq_false (by omega)];rfl
 rw [cdn g8]
 by_cases g9:m.2.2.2.1>1073741824
 ·rw [cdp g9,decide_eq_false (by omega)];rfl
 rw [cdn g9,decide_eq_true (show 1≤m.1∧m.1≤9∧1≤m.2.1∧m.2.1≤8∧1≤m.2.2.1∧m.2.2.1≤8∧m.2.1≠m.2.2.1∧1≤m.2.2.2.1∧m.2.2.2.1≤1073741824 by omega),Bool.true_and]
 unfold Qux
 simp only [ceq]
 by_cases k2:m.1=2
 ·simp only [if_pos k2]
  rw [hp,Zo9,hs _ (by simpa [Qk7.pa] using h6')]
  simp only [Option.bind_some,Z3s]
  congr 3
  rw [Bool.eq_iff_iff]
  simp only [Bool.and_eq_true,decide_eq_true_eq,Qkg,Qk7.ep,Qk7.ag,Qk7.pa,Qk7.lo,Qk7.hi,eb]
  grind
 by_cases k5:m.1=5
 ·simp only [if_pos k5,if_neg k2]
  rw [hp,Zo9,hs _ (by simpa [Qk7.pa] using h6')]
  simp only [Option.bind_some,Z3s]
  congr 3
  rw [Bool.eq_iff_iff]
  simp only [Bool.and_eq_true,decide_eq_true_eq,Qkg,Qk7.ep,Qk7.ag,Qk7.pa,Qk7.lo,Qk7.hi,eb]
  grind
 by_cases k7:m.1=7
 ·simp only [if_pos k7,if_neg k2,if_neg k5]
  rw [Zo9,hs _ (by simp [Qk7.pa])]
  simp only [Option.bind_some,Z3s]
  congr 3
  rw [Bool.eq_iff_iff]
  simp only [Bool.and_eq_true,decide_eq_true_eq,Qkg,Qk7.ep,Qk7.ag,Qk7.pa,Qk7.lo,Qk7.hi,Qk7.tx,eb]
  grind
 by_cases k8:m.1=8
 ·simp only [if_pos k8,if_neg k2,if_neg k5,if_neg k7,if_pos (show m.1=8∨m.1=9 from Or.inl k8)]
  rw [Zi3,hs _ (by simp [Qk7.pa])]
  simp only [Option.bind_some,Z3s]
  congr 3
  rw [Bool.eq_iff_iff]
  simp only [Bool.and_eq_true,decide_eq_true_eq,Qkg,Qk7.ep,Qk7.ag,Qk7.pa,Qk7.lo,Qk7.hi,Qk7.tx,eb]
  grind
 by_cases k9:m.1=9
 ·simp only [if_pos k9,if_neg k2,if_neg k5,if_neg k7,if_neg k8,if_pos (show m.1=8∨m.1=9 from Or.inr k9)]
  rw [Zi3,hs _ (by simp [Qk7.pa])]
  simp only [Option.bind_some,Z3s]
  congr 3
  rw [Bool.eq_iff_iff]
  simp only [Bool.and_eq_true,decide_eq_true_eq,Qkg,Qk7.ep,Qk7.ag,Qk7.pa,Qk7.lo,Qk7.hi,Qk7.tx,eb]
  grind
 ·simp only [if_neg k2,if_neg k5,if_neg k7,if_neg k8,if_neg k9,if_neg (show ¬ (m.1=8∨m.1=9) from fun h=>h.elim k8 k9)]
  rw [hs _ (by simp [Qk7.pa])]
  rfl
theorem Z58 (n:Nat) (L:List Int→Int→Int→Option ((Int × Unit) × Unit)) (m1:Nat) (l:List Int) (i:Int):∀ (k m c j:Nat),j+k=8→k<m→c<4294967296 →
  Qmw n m1 L m l (c:Int) i (j:Int)=L l ((Zpj k c:Nat):Int) (IntKind.wrap .i64 (i+1))
 | k,0,c,j,_,h,_=>by omega
 | 0,m+1,c,j,hk,h,hc=>by
  show Qo4 (Qmw n m1 L m) L l (c:Int) i (j:Int)=_
  unfold Qo4
  rw [cdn (by omega)];rfl
 | k+1,m+1,c,j,hk,h,hc=>by
  show Qo4 (Qmw n m1 L m) L l (c:Int) i (j:Int)=_
  unfold Qo4
  have e1:IntKind.wrap .u32 (Int.tdiv (c:Int) 2)=((c / 2:Nat):Int):=by
   rw [Int.tdiv_eq_ediv_of_nonneg (by omega),Zrl (by omega) (by omega)];rfl
  have e3:Int.tmod (c:Int) 2=((c % 2:Nat):Int):=by rw [Int.tmod_eq_emod_of_nonneg (by omega)];rfl
  have e2:IntKind.wrap .u32 ((BitVec.ofInt 32 ((c / 2:Nat):Int) ^^^ BitVec.ofInt 32 3988292384).toNat)=((c / 2 ^^^ 3988292384:Nat):Int):=Zr7 (b:=3988292384) (by omega) (by omega)
  rw [cdp (by omega),e1,e3,e2,Qrh (by omega),ceq]
  have ec:Zpj (k+1) c=Zpj k (Z5f c):=rfl
  rw [ec]
  by_cases hp:c % 2=1
  ·have es:Z5f c=c / 2 ^^^ 3988292384:=if_pos hp
   rw [if_pos (by omega),es]
   exact Z58 n L m1 l i k m _ (j+1) (by omega) (by omega) (es▸Zcz hc)
  ·have es:Z5f c=c / 2:=if_neg hp
   rw [if_neg (by omega),es]
   exact Z58 n L m1 l i k m _ (j+1) (by omega) (by omega) (by omega)
theorem Zc9 (l:List Int) (hb:Qkj l) (h6:l.length≤1000000000):∀ (k m i c:Nat),i+k=l.length→k<m→c<4294967296 →
  Qo1 1099511627776 m l (c:Int) (i:Int)=some ((((Zrc c (l.drop i) ^^^ 4294967295:Nat):Int),()),())
 | k,0,i,c,_,h,_=>by omega
 | 0,m+1,i,c,hk,h,hc=>by
  show Qob (Qmw 1099511627776 m (Qo1 1099511627776 m) 1099511627776) l (c:Int) (i:Int)=_
  unfold Qob
  have e2:IntKind.wrap .u32 ((BitVec.ofInt 32 4294967295 ^^^ BitVec.ofInt 32 (c:Int)).toNat)=((c ^^^ 4294967295:Nat):Int):=by
   have:=Zr7 (a:=4294967295) (b:=c) (by omega) hc
   rw [Nat.xor_comm] at this
   exact this
  rw [cdn (by omega),e2,List.drop_eq_nil_of_le (by omega)];rfl
 | k+1,m+1,i,c,hk,h,hc=>by
  show Qob (Qmw 1099511627776 m (Qo1 1099511627776 m) 1099511627776) l (c:Int) (i:Int)=_
  unfold Qob
  have hi:i<l.length:=by omega
  have hx:=hb l[i] (List.getElem_mem hi)
  rw [cdp (by omega),Z8z,cdp (by omega),cdp (by omega),Qka,Qkw hi,List.drop_eq_getElem_cons hi]
  generalize l[i]=x at *
  obtain ⟨x,rfl⟩:∃ y:Nat,x=(y:Int):=⟨x.toNat,by omega⟩
  rw [Zrl (x:=(x:Int)) (by omega) (by omega),Zr7 hc (by omega)]
  have hlt:c ^^^ x<4294967296:=Zn1 hc (by omega)
  have:=Z58 1099511627776 (Qo1 1099511627776 m) m l (i:Int) 8 1099511627776 (c ^^^ x) 0 rfl (by omega) hlt
  have e0:((0:Nat):Int)=0:=rfl
  rw [e0] at this
  rw [this,Qrh (by omega),Zc9 l hb h6 k m (i+1) _ (by omega) (by omega) (Ziy 8 hlt)]
  rfl
theorem Zld (l:List Int) (hb:Qkj l) (h6:l.length≤1000000000):Z11 l=some ((((Zqi l:Nat):Int),()),()):=by
 have:=Zc9 l hb h6 l.length 1099511627776 0 4294967295 (by omega) (by omega) (by omega)
 rw [List.drop_zero] at this
 exact this
theorem Ze4 (n:Nat) (tx:ByteArray) (ht:tx.size≤100) (l:List Int) (hl:∀ x∈l,0≤x∧x≤1073741824) (h6:l.length≤1000) (a b c d e f:Int) (p:List Int) (g j:Int):∀ (k m i:Nat) (xs:List Int),Qkj xs→i+k=l.length→k<m→xs.length+10*k≤100000 →
  Qml n m (i:Int) a b c d e f p g j tx l xs=some ((xs++Ze1 (l.drop i)++Zey (Qxn tx)++Zka (Zqi (xs++Ze1 (l.drop i)++Zey (Qxn tx))),()),())
 | k,0,i,xs,_,_,h,_=>by omega
 | 0,m+1,i,xs,hb,hk,h,hx=>by
  show Qmr (Qml n m) (i:Int) a b c d e f p g j tx l xs=_
  unfold Qmr
  have hlen:(xs++Zey (Qxn tx)).length≤200000:=by
   unfold Zey
   rw [List.length_append,List.length_append];have:=Qvn (Qxn tx).length;have:=Qrj tx;omega
  have hby:Qkj (xs++Zey (Qxn tx)):=Qp7.2 ⟨hb,Zcu (Z5o _)⟩
  have e0:xs++(enc tx.size++Qxn tx)=xs++Zey (Qxn tx):=by unfold Zey;rw [Qrj]
  rw [cdn (by omega),Zf2 xs tx (by omega) (by omega),List.drop_eq_nil_of_le (by omega),e0]
  dsimp only [Option.bind_some]
  rw [Zld _ hby (by omega)]
  dsimp only [Option.bind_some]
  rw [cbp (by omega),Zmn (Zoe hby)]
  simp only [Ze1,List.append_nil]
 | k+1,m+1,i,xs,hb,hk,h,hx=>by
  show Qmr (Qml n m) (i:Int) a b c d e f p g j tx l xs=_
  unfold Qmr
  have hi:i<l.length:=by omega
  have hv:=hl l[i] (List.getElem_mem hi)
  rw [cdp (by omega),Z8z,cdp (by omega),cdp (by omega),Z8z,cdp (by omega),cdp (by omega),Qka,Qkw hi,List.drop_eq_getElem_cons hi]
  generalize l[i]=x at *
  obtain ⟨x,rfl⟩:∃ y:Nat,x=(y:Int):=⟨x.toNat,by omega⟩
  rw [Z9k xs x (by omega) (by omega)]
  dsimp only [Option.bind_some]
  have:=Qvn x
  rw [Qrh (by omega),Ze4 n tx ht l hl h6 a b c d e f p g j k m (i+1) (xs++enc x) (Qp7.2 ⟨hb,Zb9 x⟩) (by omega) (by omega) (by rw [List.length_append];omega)]
  have e1:xs++enc x++Ze1 (l.drop (i+1))=xs++Ze1 ((x:Int)::l.drop (i+1)):=by rw [List.append_assoc];rfl
  rw [e1]
theorem Z9n (m:Qk7) (h6:m.pa.length≤1000000000):Qsm m=some ((Zeu m,()),()):=by
 show Qr0 (Qml 1099511627776 1099511627776) m=_
 unfold Qr0
 rw [Zgp m h6]
 dsimp only [Option.bind_some]
 unfold Zeu
 cases hm:Zi5 m with
 | false=>rfl
 | true=>
  have ho:=Zcs hm
  have hp:m.2.2.2.2.2.2.1.length≤10:=ho.pl
  have h1:=Ze4 1099511627776 m.tx (by have:=ho.tx;omega) (Zcm m) ho.nums.2 (by have:=ho.nums.1;have:=ho.pl;omega) m.1 m.2.1 m.2.2.1 m.2.2.2.1 m.2.2.2.2.1 m.2.2.2.2.2.1 m.2.2.2.2.2.2.1 m.2.2.2.2.2.2.2.1 m.2.2.2.2.2.2.2.2.1 (Zcm m).length 1099511627776 0 [] (by intro x hx;cases hx) (by omega) (by have:=ho.nums.1;have:=ho.pl;omega) (by have:=ho.nums.1;have:=ho.pl;simp;omega)
  rw [nt,if_pos rfl]
  simp only [cond_false]
  rw [cbp (by omega),cbp (by rw [List.length_append];simp;omega)]
  rw [List.drop_zero] at h1
  exact h1
structure RB (s:List Int × Bool) (o:Option (List Int)):Prop where
 by':Qkj s.1
 len:s.1.length≤1000000000
 is':match o with | some l=>s.1=l∧s.2=false | none=>s.2=true
def fin (b:List Int) (m:Qk7) (o:Option (List Int)):Option Qk7:=
 match o with
 | none=>none
 | some _=>if Zeu m=b then some m else none
theorem RB.byo {s:List Int × Bool} {o:Option (List Int)} (h:RB s o):∀ l,o=some l→Qkj l:=by
 intro l e;subst e
 obtain ⟨h1,h2⟩:=h.is'
 rw [← h1];exact h.by'
end Go.PE
