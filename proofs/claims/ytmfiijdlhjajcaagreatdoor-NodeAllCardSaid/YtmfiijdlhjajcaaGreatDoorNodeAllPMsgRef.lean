/-
  Plain lemmas on the functions.
  Conditions: none.
-/
import Derived.Test.YtmfiijdlhjajcaaGreatDoorNodeAllPNum
set_option linter.unusedVariables false
set_option linter.unusedSimpArgs false
set_option maxRecDepth 20000
namespace Go.PE
theorem Zx6 (x:Int):Qo5 x=some ((inR 0 1000000 x,()),()):=by
 unfold Qo5 inR
 by_cases h:0≤x
 ·rw [cdp (by omega),decide_eq_true h];rfl
 ·rw [cdn (by omega),decide_eq_false h];rfl
theorem Zql (a b:Int):Ql1 (a,b)=some ((decide (1≤a∧a≤b∧b≤1000000),()),()):=by
 unfold Ql1
 dsimp only
 by_cases h:1≤a
 ·rw [cdp (by omega)]
  by_cases h2:a≤b
  ·rw [cdp (by omega)];congr 3;exact decide_eq_decide.2 (by omega)
  ·rw [cdn (by omega),decide_eq_false (by omega)]
 ·rw [cdn (by omega),decide_eq_false (by omega)]
theorem Zz0 (a b:Qka):eqM a b=eqM b a:=by
 rw [Bool.eq_iff_iff,Z00,Z00];exact ⟨Eq.symm,Eq.symm⟩
theorem Zw0 (m:Qka):Zoz m=(decide (1≤m.1∧m.1≤9∧1≤m.2.1∧m.2.1≤8∧1≤m.2.2.1∧m.2.2.1≤8∧m.2.1≠m.2.2.1∧1≤m.2.2.2.1∧m.2.2.2.1≤1073741824)&&Qyr m):=by
 rw [Bool.eq_iff_iff]
 unfold Zoz
 simp only [Bool.and_eq_true,decide_eq_true_eq,X18,X0m,Qkt,bne_iff_ne]
 grind
theorem Zot (m:Qka) (h6:m.pa.length≤1000000000):Qvr m=some ((Zoz m,()),()):=by
 have hs:∀ x:Qka,x.pa.length≤1000000000→Qkd x m=some ((eqM m x,()),()):=fun x hx=>by rw [Zo9 x m hx h6,Zz0]
 have hp:Qpw m.2.2.2.2.2.2.1=some ((Qqz m.pa,()),()):=Zdt m.pa h6
 have a:m.2.2.2.2.2.2.1.length≤1000000000:=h6
 rw [Zw0]
 unfold Qvr
 by_cases g1:m.1<1
 ·rw [cdp g1,decide_eq_false (by omega)];rfl
 rw [cdn g1]
 by_cases g2:m.1>9
 ·rw [cdp g2,decide_eq_false (by omega)];rfl
 rw [cdn g2]
 by_cases g3:m.2.1<1
 ·rw [cdp g3,decide_eq_false (by omega)];rfl
 rw [cdn g3]
 by_cases g4:m.2.1>8
 ·rw [cdp g4,decide_eq_false (by omega)];rfl
 rw [cdn g4]
 by_cases g5:m.2.2.1<1
 ·rw [cdp g5,decide_eq_false (by omega)];rfl
 rw [cdn g5]
 by_cases g6:m.2.2.1>8
 ·rw [cdp g6,decide_eq_false (by omega)];rfl
 rw [cdn g6]
 by_cases g7:m.2.1=m.2.2.1
 ·rw [Z65 g7,decide_eq_false (by omega)];rfl
 rw [Z3n g7]
 by_cases g8:m.2.2.2.1<1
 ·rw [cdp g8,decide_eq_false (by omega)];rfl
 rw [cdn g8]
 by_cases g9:m.2.2.2.1>1073741824
 ·rw [cdp g9,decide_eq_false (by omega)];rfl
 rw [cdn g9,decide_eq_true (show 1≤m.1∧m.1≤9∧1≤m.2.1∧m.2.1≤8∧1≤m.2.2.1∧m.2.2.1≤8∧m.2.1≠m.2.2.1∧1≤m.2.2.2.1∧m.2.2.2.1≤1073741824 by omega),Bool.true_and]
 unfold Qyr
 simp only [ceq]
 by_cases k2:m.1=2
 ·simp only [if_pos k2]
  rw [hp,Zx6,hs _ (by simpa [Qka.pa] using a)]
  simp only [Option.bind_some,Z9m]
  congr 3
  rw [Bool.eq_iff_iff]
  simp only [Bool.and_eq_true,decide_eq_true_eq,Qkt,Qka.ep,Qka.ag,Qka.pa,Qka.lo,Qka.hi,eb]
  grind
 by_cases k5:m.1=5
 ·simp only [if_pos k5,if_neg k2]
  rw [hp,Zx6,hs _ (by simpa [Qka.pa] using a)]
  simp only [Option.bind_some,Z9m]
  congr 3
  rw [Bool.eq_iff_iff]
  simp only [Bool.and_eq_true,decide_eq_true_eq,Qkt,Qka.ep,Qka.ag,Qka.pa,Qka.lo,Qka.hi,eb]
  grind
 by_cases k7:m.1=7
 ·simp only [if_pos k7,if_neg k2,if_neg k5]
  rw [Zx6,hs _ (by simp [Qka.pa])]
  simp only [Option.bind_some,Z9m]
  congr 3
  rw [Bool.eq_iff_iff]
  simp only [Bool.and_eq_true,decide_eq_true_eq,Qkt,Qka.ep,Qka.ag,Qka.pa,Qka.lo,Qka.hi,Qka.tx,eb]
  grind
 by_cases k8:m.1=8
 ·simp only [if_pos k8,if_neg k2,if_neg k5,if_neg k7,if_pos (show m.1=8∨m.1=9 from Or.inl k8)]
  rw [Zql,hs _ (by simp [Qka.pa])]
  simp only [Option.bind_some,Z9m]
  congr 3
  rw [Bool.eq_iff_iff]
  simp only [Bool.and_eq_true,decide_eq_true_eq,Qkt,Qka.ep,Qka.ag,Qka.pa,Qka.lo,Qka.hi,Qka.tx,eb]
  grind
 by_cases k9:m.1=9
 ·simp only [if_pos k9,if_neg k2,if_neg k5,if_neg k7,if_neg k8,if_pos (show m.1=8∨m.1=9 from Or.inr k9)]
  rw [Zql,hs _ (by simp [Qka.pa])]
  simp only [Option.bind_some,Z9m]
  congr 3
  rw [Bool.eq_iff_iff]
  simp only [Bool.and_eq_true,decide_eq_true_eq,Qkt,Qka.ep,Qka.ag,Qka.pa,Qka.lo,Qka.hi,Qka.tx,eb]
  grind
 ·simp only [if_neg k2,if_neg k5,if_neg k7,if_neg k8,if_neg k9,if_neg (show ¬ (m.1=8∨m.1=9) from fun h=>h.elim k8 k9)]
  rw [hs _ (by simp [Qka.pa])]
  rfl
theorem Zb7 (n:Nat) (L:List Int→Int→Int→Option ((Int × Unit) × Unit)) (m1:Nat) (l:List Int) (i:Int):∀ (k m c j:Nat),j+k=8→k<m→c<4294967296 →
  Qo8 n m1 L m l (c:Int) i (j:Int)=L l ((Zzc k c:Nat):Int) (wJ (i+1))
 | k,0,c,j,_,h,_=>by omega
 | 0,m+1,c,j,hk,h,hc=>by
  show Qq1 (Qo8 n m1 L m) L l (c:Int) i (j:Int)=_
  unfold Qq1
  rw [cdn (by omega)];rfl
 | k+1,m+1,c,j,hk,h,hc=>by
  show Qq1 (Qo8 n m1 L m) L l (c:Int) i (j:Int)=_
  unfold Qq1
  have e1:IntKind.wrap .u32 (Int.tdiv (c:Int) 2)=((c / 2:Nat):Int):=by
   rw [Int.tdiv_eq_ediv_of_nonneg (by omega),X0r (by omega) (by omega)];rfl
  have e3:Int.tmod (c:Int) 2=((c % 2:Nat):Int):=by rw [Int.tmod_eq_emod_of_nonneg (by omega)];rfl
  have e2:IntKind.wrap .u32 ((BitVec.ofInt 32 ((c / 2:Nat):Int) ^^^ BitVec.ofInt 32 3988292384).toNat)=((c / 2 ^^^ 3988292384:Nat):Int):=X0o (b:=3988292384) (by omega) (by omega)
  rw [cdp (by omega),e1,e3,e2,Qoq (by omega),ceq]
  have ec:Zzc (k+1) c=Zzc k (Zaq c):=rfl
  rw [ec]
  by_cases hp:c % 2=1
  ·have es:Zaq c=c / 2 ^^^ 3988292384:=if_pos hp
   rw [if_pos (by omega),es]
   exact Zb7 n L m1 l i k m _ (j+1) (by omega) (by omega) (es▸Zkt hc)
  ·have es:Zaq c=c / 2:=if_neg hp
   rw [if_neg (by omega),es]
   exact Zb7 n L m1 l i k m _ (j+1) (by omega) (by omega) (by omega)
theorem Zjj (l:List Int) (hb:Qkf l) (h6:l.length≤1000000000):∀ (k m i c:Nat),i+k=l.length→k<m→c<4294967296 →
  Qq3 1099511627776 m l (c:Int) (i:Int)=some ((((X0s c (l.drop i) ^^^ 4294967295:Nat):Int),()),())
 | k,0,i,c,_,h,_=>by omega
 | 0,m+1,i,c,hk,h,hc=>by
  show Qq7 (Qo8 1099511627776 m (Qq3 1099511627776 m) 1099511627776) l (c:Int) (i:Int)=_
  unfold Qq7
  have e2:IntKind.wrap .u32 ((BitVec.ofInt 32 4294967295 ^^^ BitVec.ofInt 32 (c:Int)).toNat)=((c ^^^ 4294967295:Nat):Int):=by
   have:=X0o (a:=4294967295) (b:=c) (by omega) hc
   rw [Nat.xor_comm] at this
   exact this
  rw [cdn (by omega),e2,List.drop_eq_nil_of_le (by omega)];rfl
 | k+1,m+1,i,c,hk,h,hc=>by
  show Qq7 (Qo8 1099511627776 m (Qq3 1099511627776 m) 1099511627776) l (c:Int) (i:Int)=_
  unfold Qq7
  have hi:i<l.length:=by omega
  have hx:=hb l[i] (List.getElem_mem hi)
  rw [cdp (by omega),Zb1,cdp (by omega),cdp (by omega),Qkb,Qkq hi,List.drop_eq_getElem_cons hi]
  generalize l[i]=x at *
  obtain ⟨x,rfl⟩:∃ y:Nat,x=(y:Int):=⟨x.toNat,by omega⟩
  rw [X0r (x:=(x:Int)) (by omega) (by omega),X0o hc (by omega)]
  have d:c ^^^ x<4294967296:=Zw9 hc (by omega)
  have:=Zb7 1099511627776 (Qq3 1099511627776 m) m l (i:Int) 8 1099511627776 (c ^^^ x) 0 rfl (by omega) d
  have e0:((0:Nat):Int)=0:=rfl
  rw [e0] at this
  rw [this,Qoq (by omega),Zjj l hb h6 k m (i+1) _ (by omega) (by omega) (Zra 8 d)]
  rfl
theorem Zuz (l:List Int) (hb:Qkf l) (h6:l.length≤1000000000):Z6h l=some ((((Zzw l:Nat):Int),()),()):=by
 have:=Zjj l hb h6 l.length 1099511627776 0 4294967295 (by omega) (by omega) (by omega)
 rw [List.drop_zero] at this
 exact this
theorem Zlm (n:Nat) (tx:ByteArray) (ht:tx.size≤100) (l:List Int) (hl:∀ x∈l,0≤x∧x≤1073741824) (h6:l.length≤1000) (a b c d e f:Int) (p:List Int) (g j:Int):∀ (k m i:Nat) (xs:List Int),Qkf xs→i+k=l.length→k<m→xs.length+10*k≤100000 →
  Qny n m (i:Int) a b c d e f p g j tx l xs=some ((xs++Zjt (l.drop i)++Zme (Qzn tx)++Zr7 (Zzw (xs++Zjt (l.drop i)++Zme (Qzn tx))),()),())
 | k,0,i,xs,_,_,h,_=>by omega
 | 0,m+1,i,xs,hb,hk,h,hx=>by
  show Qnx (Qny n m) (i:Int) a b c d e f p g j tx l xs=_
  unfold Qnx
  have q:(xs++Zme (Qzn tx)).length≤200000:=by
   unfold Zme
   rw [List.length_append,List.length_append];have:=Qz6 (Qzn tx).length;have:=Qu6 tx;omega
  have o:Qkf (xs++Zme (Qzn tx)):=Qr1.2 ⟨hb,Zkz (Zb2 _)⟩
  have e0:xs++(enc tx.size++Qzn tx)=xs++Zme (Qzn tx):=by unfold Zme;rw [Qu6]
  rw [cdn (by omega),Zop xs tx (by omega) (by omega),List.drop_eq_nil_of_le (by omega),e0]
  dsimp only [Option.bind_some]
  rw [Zuz _ o (by omega)]
  dsimp only [Option.bind_some]
  rw [cbp (by omega),Zvj (Zxy o)]
  simp only [Zjt,List.append_nil]
 | k+1,m+1,i,xs,hb,hk,h,hx=>by
  show Qnx (Qny n m) (i:Int) a b c d e f p g j tx l xs=_
  unfold Qnx
  have hi:i<l.length:=by omega
  have hv:=hl l[i] (List.getElem_mem hi)
  rw [cdp (by omega),Zb1,cdp (by omega),cdp (by omega),Zb1,cdp (by omega),cdp (by omega),Qkb,Qkq hi,List.drop_eq_getElem_cons hi]
  generalize l[i]=x at *
  obtain ⟨x,rfl⟩:∃ y:Nat,x=(y:Int):=⟨x.toNat,by omega⟩
  rw [Zgk xs x (by omega) (by omega)]
  dsimp only [Option.bind_some]
  have:=Qz6 x
  rw [Qoq (by omega),Zlm n tx ht l hl h6 a b c d e f p g j k m (i+1) (xs++enc x) (Qr1.2 ⟨hb,Zhw x⟩) (by omega) (by omega) (by rw [List.length_append];omega)]
  have e1:xs++enc x++Zjt (l.drop (i+1))=xs++Zjt ((x:Int)::l.drop (i+1)):=by rw [List.append_assoc];rfl
  rw [e1]
theorem Zgb (m:Qka) (h6:m.pa.length≤1000000000):Qlg m=some ((Zfu m,()),()):=by
 show Qt8 (Qny 1099511627776 1099511627776) m=_
 unfold Qt8
 rw [Zot m h6]
 dsimp only [Option.bind_some]
 unfold Zfu
 cases hm:Zoz m with
 | false=>rfl
 | true=>
  have ho:=Z3w hm
  have hp:m.2.2.2.2.2.2.1.length≤10:=ho.pl
  have h1:=Zlm 1099511627776 m.tx (by have:=ho.tx;omega) (Zj7 m) ho.nums.2 (by have:=ho.nums.1;have:=ho.pl;omega) m.1 m.2.1 m.2.2.1 m.2.2.2.1 m.2.2.2.2.1 m.2.2.2.2.2.1 m.2.2.2.2.2.2.1 m.2.2.2.2.2.2.2.1 m.2.2.2.2.2.2.2.2.1 (Zj7 m).length 1099511627776 0 [] (by intro x hx;cases hx) (by omega) (by have:=ho.nums.1;have:=ho.pl;omega) (by have:=ho.nums.1;have:=ho.pl;simp;omega)
  rw [nt,if_pos rfl]
  simp only [cond_false]
  rw [cbp (by omega),cbp (by rw [List.length_append];simp;omega)]
  rw [List.drop_zero] at h1
  exact h1
structure RB (s:List Int × Bool) (o:Option (List Int)):Prop where
 by':Qkf s.1
 len:s.1.length≤1000000000
 is':match o with | some l=>s.1=l∧s.2=false | none=>s.2=true
theorem Z2l {s:List Int × Bool} {o:Option (List Int)} (h:RB s o) :
  ∃ s',Qkc s=some ((((Qnk o).1:Int),()),(s',()))∧RB s' (Qnk o).2:=by
 obtain ⟨hb,hl,hs⟩:=h
 obtain ⟨l,e⟩:=s
 simp only at hb hl
 have eT:=Ze7 l hb (by omega)
 have e1:((l.length:Int)).toNat=l.length:=rfl
 unfold Qkc Qnk
 dsimp only
 cases hd:dec l with
 | none=>
  rw [hd,Zt7] at eT
  rw [eT]
  dsimp only [Option.bind_some,nt,nf,cond_false,cond_true]
  cases o with
  | none=>exact ⟨_,rfl,hb,hl,rfl⟩
  | some l'=>
   obtain ⟨h1,h2⟩:=hs
   simp only at h1
   subst h1
   simp only [hd]
   exact ⟨_,rfl,hb,hl,rfl⟩
 | some p=>
  obtain ⟨v,n⟩:=p
  obtain ⟨h0,h1,h2,h3⟩:=Zqq hb hd
  rw [hd,Zsf] at eT
  rw [eT]
  dsimp only [Option.bind_some,nt,nf,cond_false,cond_true]
  cases o with
  | none=>
   have hs:e=true:=hs
   subst hs
   exact ⟨_,rfl,hb,hl,rfl⟩
  | some l'=>
   obtain ⟨a,b⟩:=hs
   simp only at a b
   subst a b
   simp only [hd,cond_false]
   rw [Zb1,Zb1,cdp (by omega),cdp (by omega),cdp (by omega),e1,List.take_length,Qkb]
   exact ⟨_,rfl,Qyx hb n,by simp only [List.length_drop];omega,rfl,rfl⟩
theorem Zxl {s:List Int × Bool} {o:Option (List Int)} (h:RB s o) :
  ∃ s',Qmo s=some (((Zp5 o).1,()),(s',()))∧RB s' (Zp5 o).2:=by
 obtain ⟨hb,hl,hs⟩:=h
 obtain ⟨l,e⟩:=s
 simp only at hb hl
 have eT:=Zm2 l hb (by omega)
 have e1:((l.length:Int)).toNat=l.length:=rfl
 unfold Qmo Zp5
 dsimp only
 cases hd:Zxz l with
 | none=>
  rw [hd,Zpn] at eT
  rw [eT]
  dsimp only [Option.bind_some,nt,nf,cond_false,cond_true]
  cases o with
  | none=>exact ⟨_,rfl,hb,hl,rfl⟩
  | some l'=>
   obtain ⟨h1,h2⟩:=hs
   simp only at h1
   subst h1
   simp only [hd]
   exact ⟨_,rfl,hb,hl,rfl⟩
 | some p=>
  obtain ⟨t,n⟩:=p
  obtain ⟨h0,h1,h2⟩:=Zxc hb hd
  rw [hd,Zpq] at eT
  rw [eT]
  dsimp only [Option.bind_some,nt,nf,cond_false,cond_true]
  cases o with
  | none=>
   have hs:e=true:=hs
   subst hs
   exact ⟨_,rfl,hb,hl,rfl⟩
  | some l'=>
   obtain ⟨a,b⟩:=hs
   simp only at a b
   subst a b
   simp only [hd,cond_false]
   rw [Zb1,Zb1,cdp (by omega),cdp (by omega),cdp (by omega),e1,List.take_length,Qkb]
   exact ⟨_,rfl,Qyx hb n,by simp only [List.length_drop];omega,rfl,rfl⟩
def fin (b:List Int) (m:Qka) (o:Option (List Int)):Option Qka:=
 match o with
 | none=>none
 | some _=>if Zfu m=b then some m else none
theorem Zvq {s:List Int × Bool} {o:Option (List Int)} (h:RB s o) (b:List Int) (hb:Qkf b) (a1 a2 a3 a4 a5 a6:Int) (p:List Int) (hp:p.length≤1000000000) :
  (Option.bind (Qkc s) fun (a:(Int × Unit) × (X0a × Unit))=>
 Option.bind (Qkc a.2.1) fun (c:(Int × Unit) × (X0a × Unit))=>
 Option.bind (Qmo c.2.1) fun (d:Zwm × (X0a × Unit))=>
 bif d.2.1.2 then
  some ((X01,false,()),())
 else
  Option.bind (Qlg (a1,a2,a3,a4,a5,a6,p,a.1.1,c.1.1,d.1.1)) fun (e:((List Int) × Unit) × Unit)=>
  bif !(Qek (Q58 e.1.1) (Q58 b)) then
  some ((X01,false,()),())
  else
  some (((a1,a2,a3,a4,a5,a6,p,a.1.1,c.1.1,d.1.1),true,()),()))=some (Zup (fin b (a1,a2,a3,a4,a5,a6,p,(Zp2 o).1.1,(Zp2 o).1.2.1,(Zp2 o).1.2.2) (Zp2 o).2)):=by
 obtain ⟨s1,e1,h1⟩:=Z2l h
 obtain ⟨s2,e2,h2⟩:=Z2l h1
 obtain ⟨s3,e3,h3⟩:=Zxl h2
 rw [e1];dsimp only [Option.bind_some]
 rw [e2];dsimp only [Option.bind_some]
 rw [e3];dsimp only [Option.bind_some]
 unfold Zp2
 dsimp only
 generalize Zp5 (Qnk (Qnk o).2).2=q at *
 obtain ⟨tx,o'⟩:=q
 cases o' with
 | none=>
  rw [show s3.2=true from h3.is']
  rfl
 | some l=>
  rw [show s3.2=false from h3.is'.2]
  simp only [cond_false]
  rw [Zgb (a1,a2,a3,a4,a5,a6,p,((Qnk o).1:Int),((Qnk (Qnk o).2).1:Int),tx) hp]
  dsimp only [Option.bind_some]
  unfold fin
  generalize (a1,a2,a3,a4,a5,a6,p,((Qnk o).1:Int),((Qnk (Qnk o).2).1:Int),tx)=m
  by_cases he:Zfu m=b
  ·have:Qek (Q58 (Zfu m)) (Q58 b)=true:=Ziv.2 (by rw [he])
   rw [this];simp only [he,if_true];rfl
  ·have:Qek (Q58 (Zfu m)) (Q58 b)=false:=by
    rw [← Bool.not_eq_true];intro h;exact he (Zuy (Zpi _) hb (Ziv.1 h))
   rw [this];simp only [he,if_false];rfl
theorem Zqo (n:Nat) (b:List Int) (hb:Qkf b) (j1 j2 j3 j4 j5 j6 j7 j8:Int) (jt:ByteArray) (jl:List Int) (a1 a2 a3 a4 a5 a6 g j:Int) (tx:ByteArray):∀ (k m:Nat) (s:List Int × Bool) (o:Option (List Int)) (a:List Int),RB s o→k<m→a.length+k≤1073741824→(Qu9 k o a).1.length≤1000000000 →
  Qn2 n m b (k:Int) j1 j2 j3 j4 j5 j6 j7 j8 jt jl s.1 s.2 a1 a2 a3 a4 a5 a6 g j tx a =
   some (Zup (fin b (a1,a2,a3,a4,a5,a6,(Qu9 k o a).1,(Zp2 (Qu9 k o a).2).1.1,(Zp2 (Qu9 k o a).2).1.2.1,(Zp2 (Qu9 k o a).2).1.2.2) (Zp2 (Qu9 k o a).2).2))
 | k,0,s,o,a,_,h,_,_=>by omega
 | 0,m+1,s,o,a,hs,h,hl,hq=>by
  show Qnd (Qn2 n m) b ((0:Nat):Int) j1 j2 j3 j4 j5 j6 j7 j8 jt jl s.1 s.2 a1 a2 a3 a4 a5 a6 g j tx a=_
  unfold Qnd
  rw [cdn (by omega)]
  exact Zvq hs b hb a1 a2 a3 a4 a5 a6 a hq
 | k+1,m+1,s,o,a,hs,h,hl,hq=>by
  show Qnd (Qn2 n m) b ((k+1:Nat):Int) j1 j2 j3 j4 j5 j6 j7 j8 jt jl s.1 s.2 a1 a2 a3 a4 a5 a6 g j tx a=_
  unfold Qnd
  rw [cdp (by omega)]
  cases o with
  | none=>
   have hx:s.2=true:=hs.is'
   have e1:s=(s.1,true):=by rw [← hx]
   have:=Zvq hs b hb a1 a2 a3 a4 a5 a6 a hq
   rw [e1] at this
   rw [hx]
   simp only [nt,cond_false]
   exact this
  | some l=>
   obtain ⟨h1,h2⟩:=hs.is'
   obtain ⟨s1,e1,r1⟩:=Z2l hs
   have e0:s=(s.1,s.2):=rfl
   rw [e0] at e1
   rw [e1,h2]
   simp only [nf,cond_true,Option.bind_some]
   rw [cbp (by omega),Qor (by omega) (by omega)]
   have ek:((k+1:Nat):Int) - 1=(k:Int):=by omega
   rw [ek]
   exact Zqo n b hb j1 j2 j3 j4 j5 j6 j7 j8 jt jl a1 a2 a3 a4 a5 a6 g j tx k m s1 _ _ r1 (by omega) (by rw [List.length_append,List.length_singleton];omega) hq
def Zxq (l:List Int):Qka × Option (List Int):=
 let a1:=Qnk (some l);let a2:=Qnk a1.2;let a3:=Qnk a2.2;let a4:=Qnk a3.2;let a5:=Qnk a4.2;let a6:=Qnk a5.2;let a7:=Qnk a6.2
 let p:=Qu9 a7.1 a7.2 []
 let e:=Zp2 p.2
 (((a1.1:Int),(a2.1:Int),(a3.1:Int),(a4.1:Int),(a5.1:Int),(a6.1:Int),p.1,e.1.1,e.1.2.1,e.1.2.2),e.2)
def Zyn (o:Option (List Int)):Nat:=match o with | some l=>l.length+1 | none=>0
theorem Z8a (o:Option (List Int)) (h:∀ l,o=some l→Qkf l):Zyn (Qnk o).2≤Zyn o∧(∀ l,o=some l→Zyn (Qnk o).2<Zyn o)∧(∀ l,(Qnk o).2=some l→Qkf l):=by
 unfold Qnk
 cases o with
 | none=>exact ⟨by simp [Zyn],by intro l e;(cases e),by intro l e;(cases e)⟩
 | some l=>
  simp only
  cases hd:dec l with
  | none=>simp [Zyn]
  | some q=>
   obtain ⟨v,n⟩:=q
   have:=Zqq (h l rfl) hd
   simp only [Zyn,List.length_drop]
   refine ⟨by omega,fun _ _=>by omega,?_⟩
   intro l' e
   cases e
   exact Qyx (h l rfl) n
theorem Zn5:∀ (k:Nat) (o:Option (List Int)) (a:List Int),(∀ l,o=some l→Qkf l)→(Qu9 k o a).1.length≤a.length+Zyn o
 | 0,o,a,_=>by simp [Qu9]
 | k+1,none,a,_=>by simp [Qu9]
 | k+1,some l,a,h=>by
  obtain ⟨_,h2,h3⟩:=Z8a (some l) h
  have h2:=h2 l rfl
  have:=Zn5 k (Qnk (some l)).2 (a++[((Qnk (some l)).1:Int)]) h3
  rw [List.length_append,List.length_singleton] at this
  show (Qu9 k (Qnk (some l)).2 (a++[((Qnk (some l)).1:Int)])).1.length≤_
  omega
theorem RB.byo {s:List Int × Bool} {o:Option (List Int)} (h:RB s o):∀ l,o=some l→Qkf l:=by
 intro l e;subst e
 obtain ⟨h1,h2⟩:=h.is'
 rw [← h1];exact h.by'
theorem Zwb (m:Qka) (h:OkM m) (r:List Int):Zxq (body m++r)=(m,some r):=by
 have h1:=h.kd;have h2:=h.fr;have h3:=h.to;have h4:=h.inc;have h5:=h.ep;have h6:=h.ag;have h7:=h.pl;have h8:=h.pa;have h9:=h.lo;have a:=h.hi;have b:=h.tx
 obtain ⟨kd,fr,to,inc,ep,ag,pa,lo,hi,tx⟩:=m
 simp only [Qka.kd,Qka.fr,Qka.to,Qka.inc,Qka.ep,Qka.ag,Qka.pa,Qka.lo,Qka.hi,Qka.tx] at h1 h2 h3 h4 h5 h6 h7 h8 h9 a b
 have e:body (kd,fr,to,inc,ep,ag,pa,lo,hi,tx)++r =
   Zlh kd++(Zlh fr++(Zlh to++(Zlh inc++(Zlh ep++(Zlh ag++(Zlh (pa.length:Int)++(Zjt pa++(Zlh lo++(Zlh hi++(Zme (Qzn tx)++r)))))))))):=by
  unfold body Zj7
  rw [Ziq,Ziq]
  simp only [Zjt,List.append_nil,List.append_assoc,Qka.kd,Qka.fr,Qka.to,Qka.inc,Qka.ep,Qka.ag,Qka.pa,Qka.lo,Qka.hi,Qka.tx]
 rw [e]
 unfold Zxq
 dsimp only
 rw [Qqr kd _ (by omega)];dsimp only
 rw [Qqr fr _ (by omega)];dsimp only
 rw [Qqr to _ (by omega)];dsimp only
 rw [Qqr inc _ (by omega)];dsimp only
 rw [Qqr ep _ (by omega)];dsimp only
 rw [Qqr ag _ (by omega)];dsimp only
 rw [Qqr (pa.length:Int) _ (by omega)];dsimp only
 rw [Qkb,Zk6 pa [] _ (fun x hx=>by have:=h8 x hx;omega)]
 unfold Zp2
 dsimp only
 rw [Qqr lo _ (by omega)];dsimp only
 rw [Qqr hi _ (by omega)];dsimp only
 rw [Zsb tx r (by omega)];dsimp only
 rw [Int.toNat_of_nonneg (by omega),Int.toNat_of_nonneg (by omega),Int.toNat_of_nonneg (by omega),Int.toNat_of_nonneg (by omega),Int.toNat_of_nonneg (by omega),Int.toNat_of_nonneg (by omega),Int.toNat_of_nonneg (by omega),Int.toNat_of_nonneg (by omega)]
 rfl
def Zx7 (b:List Int):Option Qka:=
 if b.length<4 then none else fin b (Zxq (b.take (b.length - 4))).1 (Zxq (b.take (b.length - 4))).2
theorem Zzi (b:List Int):Zx7 b=Zjz b:=by
 cases ht:Zjz b with
 | some m=>
  obtain ⟨hm,hb⟩:=Z9n ht
  have e:Zfu m=body m++Zr7 (Zzw (body m)):=by unfold Zfu;rw [if_pos hm]
  have el:b.length=(body m).length+4:=by rw [hb,e,List.length_append,Zo2]
  have e2:b.take (b.length - 4)=body m++[]:=by
   rw [el,hb,e,show (body m).length+4 - 4=(body m).length by omega,List.take_left,List.append_nil]
  unfold Zx7
  rw [e2,Zwb m (Z3w hm),if_neg (by omega)]
  unfold fin
  simp only
  rw [if_pos hb.symm]
 | none=>
  cases hr:Zx7 b with
  | none=>rfl
  | some m=>
   exfalso
   unfold Zx7 at hr
   split at hr
   ·cases hr
   ·unfold fin at hr
    split at hr
    ·cases hr
    ·split at hr
     ·rename_i h2
      have h3:=Option.some.inj hr
      rw [h3] at h2
      have hm:=Ztl (m:=m) (by rw [h2];omega)
      have:=Zwz hm
      rw [h2,ht] at this
      cases this
     ·cases hr
theorem Zoq (b:List Int) (hb:Qkf b) (hl:b.length≤100000000):Qyi b=some (Zup (Zjz b)):=by
 rw [← Zzi]
 show Qsh (Qn2 1099511627776 1099511627776) b=_
 unfold Qsh Zx7
 by_cases h4:b.length<4
 ·rw [cdp (by omega),if_pos h4];rfl
 rw [cdn (by omega),if_neg h4,Qor (by omega) (by omega),Zb1,cdp (by omega),cdp (by omega)]
 have e1:((b.length:Int) - 4).toNat=b.length - 4:=by omega
 rw [e1,List.drop_zero]
 have a:Qkf (b.take (b.length - 4)):=Zee hb _
 have c:(b.take (b.length - 4)).length≤100000000:=by rw [List.length_take];omega
 generalize b.take (b.length - 4)=l at *
 have h0:RB (l,false) (some l):=⟨a,by show l.length≤_;omega,rfl,rfl⟩
 unfold Zxq
 dsimp only
 obtain ⟨s1,e1,h1⟩:=Z2l h0
 rw [e1];dsimp only [Option.bind_some]
 obtain ⟨s2,e2,h2⟩:=Z2l h1
 rw [e2];dsimp only [Option.bind_some]
 obtain ⟨s3,e3,h3⟩:=Z2l h2
 rw [e3];dsimp only [Option.bind_some]
 obtain ⟨s4,e4,h4⟩:=Z2l h3
 rw [e4];dsimp only [Option.bind_some]
 obtain ⟨s5,e5,h5⟩:=Z2l h4
 rw [e5];dsimp only [Option.bind_some]
 obtain ⟨s6,e6,h6⟩:=Z2l h5
 rw [e6];dsimp only [Option.bind_some]
 obtain ⟨s7,e7,h7⟩:=Z2l h6
 rw [e7];dsimp only [Option.bind_some]
 have l1:=(Z8a _ h0.byo).1
 have l2:=(Z8a _ h1.byo).1
 have l3:=(Z8a _ h2.byo).1
 have l4:=(Z8a _ h3.byo).1
 have l5:=(Z8a _ h4.byo).1
 have l6:=(Z8a _ h5.byo).1
 have l7:=(Z8a _ h6.byo).1
 have hv:=Zx3 _ h6.byo
 have ls:=Zn5 (Qnk (Qnk (Qnk (Qnk (Qnk (Qnk (Qnk (some l)).2).2).2).2).2).2).1 (Qnk (Qnk (Qnk (Qnk (Qnk (Qnk (Qnk (some l)).2).2).2).2).2).2).2 [] h7.byo
 have l0:Zyn (some l)≤100000001:=by unfold Zyn;simp only;omega
 simp only [List.length_nil] at ls
 exact Zqo 1099511627776 b hb 0 0 0 0 0 0 0 0 zB [] _ _ _ _ _ _ 0 0 zB _ 1099511627776 s7 _ [] h7 (by omega) (by simp;omega) (by omega)
theorem ct {α:Type} {c:Bool} {a b:α} (h:c=true):(bif c then a else b)=a:=by rw [h];rfl
abbrev Kid:=Int × Int × Int
def Zhh {α:Type} (key:α→Int):List α→Prop
 | []=>True
 | x::r=>(∀ y∈r,key x<key y)∧Zhh key r
def Z16 {α:Type} (key:α→Int) (v:Int):List α→Nat
 | []=>0
 | x::r=>if key x<v then Z16 key v r+1 else 0
theorem Zod {α:Type} (key:α→Int) (v:Int):∀ l:List α,Z16 key v l≤l.length
 | []=>Nat.le_refl _
 | x::r=>by
  unfold Z16
  split
  ·have:=Zod key v r;rw [List.length_cons];omega
  ·omega
theorem Zny {α:Type} {key:α→Int} {v:Int}:∀ {l:List α},Zhh key l→∀ {i:Nat} (h:i<l.length),key l[i]<v↔i<Z16 key v l
 | [],_,i,h=>absurd h (by simp)
 | x::r,hr,0,h=>by
  show key x<v↔_
  unfold Z16;split
  ·exact ⟨fun _=>by omega,fun _=>by assumption⟩
  ·exact ⟨fun h=>by contradiction,fun h=>by omega⟩
 | x::r,hr,i+1,h=>by
  have hi:i<r.length:=by rw [List.length_cons] at h;omega
  show key r[i]<v↔_
  unfold Z16;split
  ·rw [Zny hr.2 hi];omega
  ·have:=hr.1 _ (List.getElem_mem hi)
   exact ⟨fun h=>by omega,fun h=>by omega⟩
def Zm7 {α:Type} (key:α→Int) (v:Int):List α→Option α
 | []=>none
 | x::r=>if key x=v then some x else Zm7 key v r
theorem Zon {α:Type} {key:α→Int} {v:Int}:∀ {l:List α} {x:α},Zm7 key v l=some x→x∈l∧key x=v
 | [],x,h=>by cases h
 | y::r,x,h=>by
  unfold Zm7 at h
  split at h
  ·cases h;exact ⟨List.mem_cons_self ..,by assumption⟩
  ·have:=Zon h;exact ⟨List.mem_cons_of_mem _ this.1,this.2⟩
theorem Z5g {α:Type} {key:α→Int} {v:Int}:∀ {l:List α},Zm7 key v l=none↔∀ x∈l,key x≠v
 | []=>by simp [Zm7]
 | y::r=>by
  unfold Zm7
  split
  ·simp;intro h;contradiction
  ·rw [Z5g];simp;intro _;assumption
theorem Z9t {α:Type} {key:α→Int} {v:Int}:∀ {l:List α},Zhh key l→(Zm7 key v l=none∧(∀ (h:Z16 key v l<l.length),v<key l[Z16 key v l]))∨(∃ h:Z16 key v l<l.length,Zm7 key v l=some l[Z16 key v l]∧key l[Z16 key v l]=v)
 | [],_=>.inl ⟨rfl,fun h=>absurd h (by simp)⟩
 | x::r,hr=>by
  by_cases h1:key x<v
  ·have e1:Z16 key v (x::r)=Z16 key v r+1:=by show (if key x<v then Z16 key v r+1 else 0)=_;rw [if_pos h1]
   have e2:Zm7 key v (x::r)=Zm7 key v r:=by show (if key x=v then _ else _)=_;rw [if_neg (by omega)]
   rcases Z9t (v:=v) hr.2 with ⟨a,b⟩ | ⟨h,a,b⟩
   ·refine .inl ⟨e2.trans a,fun h=>?_⟩
    simp only [e1,List.getElem_cons_succ] at h ⊢
    exact b (by rw [List.length_cons] at h;omega)
   ·refine .inr ⟨by rw [e1,List.length_cons];omega,?_⟩
    simp only [e1,List.getElem_cons_succ]
    exact ⟨e2.trans a,b⟩
  ·have e1:Z16 key v (x::r)=0:=by show (if key x<v then Z16 key v r+1 else 0)=_;rw [if_neg h1]
   by_cases h2:key x=v
   ·refine .inr ⟨by rw [e1,List.length_cons];omega,?_⟩
    simp only [e1,List.getElem_cons_zero]
    exact ⟨by show (if key x=v then _ else _)=_;rw [if_pos h2],h2⟩
   ·refine .inl ⟨?_,fun h=>?_⟩
    ·rw [Z5g]
     intro y hy
     rcases List.mem_cons.1 hy with rfl | hy
     ·exact h2
     ·have:=hr.1 y hy;omega
    ·simp only [e1,List.getElem_cons_zero];omega
def Zr2 {α:Type} (key:α→Int) (k:α):List α→List α
 | []=>[k]
 | x::r=>if key k<key x then k::x::r else x::Zr2 key k r
def Z3e {α:Type} (key:α→Int) (v:Int) (l:List α):List α:=l.filter fun k=>key k != v
theorem Zb6 {α:Type} {key:α→Int} (p:α→Bool):∀ {l:List α},Zhh key l→Zhh key (l.filter p)
 | [],_=>trivial
 | x::r,h=>by
  rw [List.filter_cons]
  split
  ·exact ⟨fun y hy=>h.1 y (List.mem_filter.1 hy).1,Zb6 p h.2⟩
  ·exact Zb6 p h.2
theorem Zhk {α:Type} {key:α→Int} {k y:α}:∀ {l:List α},y∈Zr2 key k l↔y=k∨y∈l
 | []=>by simp [Zr2]
 | x::r=>by
  unfold Zr2
  split
  ·simp
  ·rw [List.mem_cons,Zhk,List.mem_cons]
   constructor
   ·rintro (h | h | h)<;>simp [h]
   ·rintro (h | h | h)<;>simp [h]
theorem Zom {α:Type} {key:α→Int} {k:α}:∀ {l:List α},Zhh key l→(∀ y∈l,key y≠key k)→Zhh key (Zr2 key k l)
 | [],_,_=>⟨fun y hy=>(by cases hy),trivial⟩
 | x::r,h,hn=>by
  unfold Zr2
  have hx:=hn x (List.mem_cons_self ..)
  split
  ·refine ⟨fun y hy=>?_,h⟩
   rcases List.mem_cons.1 hy with rfl | hy
   ·assumption
   ·have:=h.1 y hy;omega
  ·refine ⟨fun y hy=>?_,Zom h.2 fun y hy=>hn y (List.mem_cons_of_mem _ hy)⟩
   rcases Zhk.1 hy with rfl | hy
   ·omega
   ·exact h.1 y hy
theorem Zuq {α:Type} {key:α→Int} {k:α}:∀ {l:List α},Zhh key l→(∀ y∈l,key y≠key k)→Zr2 key k l=l.take (Z16 key (key k) l)++k::l.drop (Z16 key (key k) l)
 | [],_,_=>rfl
 | x::r,h,hn=>by
  have hx:=hn x (List.mem_cons_self ..)
  unfold Zr2 Z16
  by_cases h1:key x<key k
  ·rw [if_neg (by omega),if_pos h1,List.take_succ_cons,List.drop_succ_cons,List.cons_append,Zuq h.2 fun y hy=>hn y (List.mem_cons_of_mem _ hy)]
  ·rw [if_pos (by omega),if_neg h1];rfl
theorem Zq1 {α:Type} {key:α→Int} {v:Int} {l:List α} (h:∀ x∈l,key x≠v):Z3e key v l=l:=by
 unfold Z3e;rw [List.filter_eq_self];intro x hx;exact bne_iff_ne.2 (h x hx)
theorem Zi5 {α:Type} {key:α→Int} {v:Int} {l:List α} {x:α}:x∈Z3e key v l↔x∈l∧key x≠v:=by
 unfold Z3e;rw [List.mem_filter,bne_iff_ne]
theorem Zzx {α:Type} {key:α→Int} {k:α}:∀ {l:List α},Zhh key l→∀ (h:Z16 key (key k) l<l.length),key l[Z16 key (key k) l]=key k→l.set (Z16 key (key k) l) k=Zr2 key k (Z3e key (key k) l)
 | [],_,h,_=>absurd h (by simp)
 | x::r,hr,h,he=>by
  by_cases h1:key x<key k
  ·have e1:Z16 key (key k) (x::r)=Z16 key (key k) r+1:=by show (if key x<key k then Z16 key (key k) r+1 else 0)=_;rw [if_pos h1]
   simp only [e1,List.getElem_cons_succ,List.set_cons_succ] at h he ⊢
   have e2:Z3e key (key k) (x::r)=x::Z3e key (key k) r:=by unfold Z3e;rw [List.filter_cons,if_pos (bne_iff_ne.2 (by omega))]
   rw [e2,Zzx hr.2 (by rw [List.length_cons] at h;omega) he]
   show _=if key k<key x then _ else _
   rw [if_neg (by omega)]
  ·have e1:Z16 key (key k) (x::r)=0:=by show (if key x<key k then Z16 key (key k) r+1 else 0)=_;rw [if_neg h1]
   simp only [e1,List.getElem_cons_zero,List.set_cons_zero] at h he ⊢
   have e2:Z3e key (key k) (x::r)=r:=by
    unfold Z3e
    rw [List.filter_cons,if_neg (by simp [he])]
    exact Zq1 (fun y hy=>by have:=hr.1 y hy;omega)
   rw [e2]
   cases r with
   | nil=>rfl
   | cons y q=>
    have:=hr.1 y (List.mem_cons_self ..)
    show _=if key k<key y then _ else _
    rw [if_pos (by omega)]
theorem Zmi {α:Type} {key:α→Int} {a b:Int}:∀ {l:List α},Zhh key l→(∀ x∈l,a≤key x∧key x≤b)→(l.length:Int)≤max (b - a+1) 0
 | [],_,_=>by simp;omega
 | x::r,h,hb=>by
  have hx:=hb x (List.mem_cons_self ..)
  have:=Zmi (a:=key x+1) (b:=b) h.2 (fun y hy=>⟨by have:=h.1 y hy;omega,(hb y (List.mem_cons_of_mem _ hy)).2⟩)
  rw [List.length_cons];omega
abbrev kid (k:Kid):Int:=k.1
def Qwx (l:List Kid) (id:Int):Option Kid:=Zm7 kid id l
def Zyl (l:List Kid) (id inc:Int):Bool:=match Qwx l id with | some k=>decide (inc<k.2.1) | none=>false
def Z9d (l:List Kid) (k:Kid):List Kid:=if Zyl l k.1 k.2.1=true then l else Zr2 kid k (Z3e kid k.1 l)
def Z02 (l:List Kid) (now:Int):List Kid:=l.filter fun k=>decide (now - k.2.2≤20)
def Zuj (x:Int):Prop:=-1152921504606846976≤x∧x≤1152921504606846976
structure KOk (l:List Kid):Prop where
 rise:Zhh kid l
 rng:∀ k∈l,1≤k.1∧k.1≤8∧0≤k.2.1∧k.2.1≤1073741824∧0≤k.2.2∧k.2.2≤1125899906842624
theorem KOk.len {l:List Kid} (h:KOk l):l.length≤8:=by
 have:=Zmi (a:=1) (b:=8) h.rise (fun x hx=>⟨(h.rng x hx).1,(h.rng x hx).2.1⟩)
 omega
theorem KOk.nil:KOk []:=⟨trivial,fun k h=>by cases h⟩
theorem KOk.filter {l:List Kid} (h:KOk l) (p:Kid→Bool):KOk (l.filter p):=⟨Zb6 p h.rise,fun k hk=>h.rng k (List.mem_filter.1 hk).1⟩
theorem KOk.hear {l:List Kid} (h:KOk l) {k:Kid} (hk:1≤k.1∧k.1≤8∧0≤k.2.1∧k.2.1≤1073741824∧0≤k.2.2∧k.2.2≤1125899906842624):KOk (Z9d l k):=by
 unfold Z9d
 split
 ·exact h
 ·refine ⟨Zom (Zb6 _ h.rise) fun y hy=>(Zi5.1 hy).2,fun y hy=>?_⟩
  rcases Zhk.1 hy with rfl | hy
  ·exact hk
  ·exact h.rng y (Zi5.1 hy).1
abbrev Qo4:=Int × ByteArray
abbrev Evt:=Int × Int × Int × ByteArray × Int
abbrev Qo3:=Int × Int × List Qo4 × List Qo4 × List Evt × Int × Int
abbrev Zet (i:Qo4):Int:=i.1
def Zuu (l:List Qo4) (n:Int):Option Qo4:=Zm7 Zet n l
def Zfi (l:List Qo4) (i:Qo4):List Qo4:=
 match l.getLast? with
 | some x=>if i.1≤x.1 then l else (l++[i]).drop (l.length+1 - 6)
 | none=>[i]
def Zwy (l:List Qo4) (next:Int) (x:Qo4):List Qo4:=if x.1<next∨8≤x.1 - next∨(Zuu l x.1).isSome=true then l else Zr2 Zet x l
def Za2 (i:Qo4):Evt:=(1,i.1,i.1,i.2,0)
def Zlc (lo hi why:Int):Evt:=(2,lo,hi,zB,why)
def Z0g (top:Int):Int→List Qo4→List Qo4→List Evt→Int→Int→Qo3
 | next,ring,[],log,a,b=>(next,top,ring,[],log,a,b)
 | next,ring,x::r,log,a,b=>if x.1=next then Z0g top (next+1) (Zfi ring x) r (log++[Za2 x]) 0 0 else (next,top,ring,x::r,log,a,b)
def Z0d (f:Qo3):Qo3:=Z0g f.2.1 f.1 f.2.2.1 f.2.2.2.1 f.2.2.2.2.1 f.2.2.2.2.2.1 f.2.2.2.2.2.2
def Zvk (l:List Qo4):Int:=match l with | []=>0 | x::_=>x.1
def Qqh (hi why:Int) (f:Qo3):Qo3:=
 let to:=match f.2.2.2.1 with | []=>hi | x::_=>if x.1≤hi then x.1 - 1 else hi
 let g:Qo3:=if f.1≤to then (to+1,f.2.1,f.2.2.1,f.2.2.2.1,f.2.2.2.2.1++[Zlc f.1 to why],0,0) else (f.1,f.2.1,f.2.2.1,f.2.2.2.1,f.2.2.2.2.1,0,0)
 if g.1≤hi then Z0d g else g
def Qwr (hi why:Int):Nat→Qo3→Qo3
 | 0,f=>f
 | n+1,f=>if f.1≤hi then Qwr hi why n (Qqh hi why f) else f
def Z01 (f:Qo3) (hi why:Int):Qo3:=if f.1<1∨1000000<hi then f else Qwr hi why (f.2.2.2.1.length+1) f
def Ql5 (f:Qo3) (top:Int):Qo3:=if 0<f.1∧top≤1000000 then (f.1,max f.2.1 top,f.2.2) else f
def Z9x (f:Qo3) (next:Int):Qo3:=if 0<f.1 then Ql5 f (next - 1) else if 1≤next∧next≤1000000 then (next,f.2) else f
def Zyc (f:Qo3) (t:ByteArray):Option Qo3:=
 let n:=max f.1 1
 if 12<t.size∨1000000<n then none else some (n+1,n,Zfi f.2.2.1 (n,t),f.2.2.2.1,f.2.2.2.2.1++[Za2 (n,t)],f.2.2.2.2.2)
def Z60 (f:Qo3) (i:Qo4):Qo3:=
 if f.1=0∨i.1<1∨1000000<i.1∨12<i.2.size then f else
 let g:=Ql5 f i.1
 Z0d (g.1,g.2.1,g.2.2.1,Zwy g.2.2.2.1 g.1 i,g.2.2.2.2)
def Z40 (f:Qo3) (lo hi:Int):Qo3:=
 if f.1=0∨lo<1∨hi<lo∨1000000<hi then f else
 let g:=Ql5 f hi
 if g.1<lo∨hi<g.1 then g else Z0d (Z01 g hi 1)
def Zg6 (f:Qo3):Option (Int × Int):=
 let hi:=match f.2.2.2.1 with | []=>f.2.1 | x::_=>x.1 - 1
 if f.1=0∨hi<f.1 then none else some (f.1,hi)
def Z6r (f:Qo3) (now:Int):Qo3 × Option (Int × Int):=
 match Zg6 f with
 | none=>(f,none)
 | some s=>
  if f.2.2.2.2.2.1=0∨f.2.2.2.2.2.2≤now then
   if 3≤f.2.2.2.2.2.1 then (Z0d (Z01 f s.2 2),none)
   else ((f.1,f.2.1,f.2.2.1,f.2.2.2.1,f.2.2.2.2.1,f.2.2.2.2.2.1+1,now+2*2 ^ f.2.2.2.2.2.1.toNat),some s)
  else (f,none)
def Zrz (l:Qmq) (n:Int):Qmq:=
 match l.getLast? with
 | some s=>if s.2+1=n then l.dropLast++[(s.1,n)] else l++[(n,n)]
 | none=>[(n,n)]
def Z0j (ring:List Qo4) (top:Int):Nat→Int→List Qo4→List (Int × Int)→List Qo4 × List (Int × Int)
 | 0,n,a,b=>(a,b)
 | k+1,n,a,b=>
  if top<n then (a,b) else
  match Zuu ring n with
  | some i=>Z0j ring top k (n+1) (a++[i]) b
  | none=>Z0j ring top k (n+1) a (Zrz b n)
def Qoz (f:Qo3) (lo hi:Int):List Qo4 × List (Int × Int):=if f.1=0 then ([],[]) else Z0j f.2.2.1 (min hi (f.1 - 1)) 8 lo [] []
structure FOk (f:Qo3):Prop where
 next:0≤f.1∧f.1≤1000001
 top:0≤f.2.1∧f.2.1≤1000000
 ring:Zhh Zet f.2.2.1
 ring1:∀ i∈f.2.2.1,1≤i.1∧i.1<f.1
 ringl:f.2.2.1.length≤6
 win:Zhh Zet f.2.2.2.1
 win1:∀ i∈f.2.2.2.1,f.1<i.1∧i.1≤1000000∧i.1<f.1+8
 win0:f.1=0→f.2.2.2.1=[]
 log:(f.2.2.2.2.1.length:Int)≤f.1
 tries:0≤f.2.2.2.2.2.1∧f.2.2.2.2.2.1≤3
 due:0≤f.2.2.2.2.2.2∧f.2.2.2.2.2.2≤2251799813685248
structure Zs0 (f:Qo3):Prop where
 next:1≤f.1∧f.1≤1000001
 top:0≤f.2.1∧f.2.1≤1000000
 ring:Zhh Zet f.2.2.1
 ring1:∀ i∈f.2.2.1,1≤i.1∧i.1<f.1
 ringl:f.2.2.1.length≤6
 win:Zhh Zet f.2.2.2.1
 win1:∀ i∈f.2.2.2.1,f.1≤i.1∧i.1≤1000000∧i.1<f.1+8
 log:(f.2.2.2.2.1.length:Int)≤f.1
 tries:0≤f.2.2.2.2.2.1∧f.2.2.2.2.2.1≤3
 due:0≤f.2.2.2.2.2.2∧f.2.2.2.2.2.2≤2251799813685248
theorem FOk.none:FOk (0,0,[],[],[],0,0):=⟨⟨by decide,by decide⟩,⟨by decide,by decide⟩,trivial,fun i h=>(by cases h),by simp,trivial,fun i h=>(by cases h),fun _=>rfl,by simp,⟨by decide,by decide⟩,⟨by decide,by decide⟩⟩
theorem FOk.to' {f:Qo3} (h:FOk f) (h1:1≤f.1):Zs0 f:=⟨⟨h1,h.next.2⟩,h.top,h.ring,h.ring1,h.ringl,h.win,fun i hi=>by have:=h.win1 i hi;exact ⟨by omega,this.2⟩,h.log,h.tries,h.due⟩
theorem Zsj {α:Type} {key:α→Int} {k:α}:∀ {l:List α},Zhh key l→(∀ y∈l,key y<key k)→Zhh key (l++[k])
 | [],_,_=>⟨fun y hy=>(by cases hy),trivial⟩
 | x::r,h,hn=>by
  refine ⟨fun y hy=>?_,Zsj h.2 fun y hy=>hn y (List.mem_cons_of_mem _ hy)⟩
  rcases List.mem_append.1 hy with hy | hy
  ·exact h.1 y hy
  ·rcases List.mem_singleton.1 hy with rfl;exact hn x (List.mem_cons_self ..)
theorem Zso {α:Type} {key:α→Int}:∀ (n:Nat) {l:List α},Zhh key l→Zhh key (l.drop n)
 | 0,_,h=>h
 | n+1,[],h=>trivial
 | n+1,x::r,h=>Zso n h.2
theorem Zyj {l:List Qo4} {i:Qo4} (h:∀ x∈l,x.1<i.1):Zfi l i=(l++[i]).drop (l.length+1 - 6):=by
 unfold Zfi
 split
 ·rename_i x hx
  have:=h x (List.mem_of_getLast? hx)
  rw [if_neg (by omega)]
 ·rename_i hx
  rw [List.getLast?_eq_none_iff] at hx
  subst hx;rfl
theorem Zuf {l:List Qo4} {i:Qo4} (h:Zhh Zet l) (h1:∀ x∈l,1≤x.1∧x.1<i.1) (h2:l.length≤6) (hi:1≤i.1):Zhh Zet (Zfi l i)∧(∀ x∈Zfi l i,1≤x.1∧x.1<i.1+1)∧(Zfi l i).length≤6:=by
 rw [Zyj fun x hx=>(h1 x hx).2]
 refine ⟨Zso _ (Zsj h fun y hy=>(h1 y hy).2),fun x hx=>?_,by rw [List.length_drop,List.length_append,List.length_singleton];omega⟩
 rcases List.mem_append.1 (List.mem_of_mem_drop hx) with hx | hx
 ·have:=h1 x hx;omega
 ·rcases List.mem_singleton.1 hx with rfl;omega
theorem z33:(0:Int)≤0∧(0:Int)≤3:=⟨by decide,by decide⟩
theorem z22:(0:Int)≤0∧(0:Int)≤2251799813685248:=⟨by decide,by decide⟩
theorem Zr0 (top:Int):∀ (w:List Qo4) (next:Int) (ring:List Qo4) (log:List Evt) (a b:Int),Zs0 (next,top,ring,w,log,a,b)→FOk (Z0g top next ring w log a b)∧next≤(Z0g top next ring w log a b).1
 | [],next,ring,log,a,b,h=>⟨⟨⟨by have:=h.next.1;show (0:Int)≤next;simp only at this;omega,h.next.2⟩,h.top,h.ring,h.ring1,h.ringl,h.win,fun i hi=>(by cases hi),fun _=>rfl,h.log,h.tries,h.due⟩,Int.le_refl _⟩
 | x::r,next,ring,log,a,b,h=>by
  unfold Z0g
  obtain ⟨h1,h2,h3,h4,h5,h6,h7,h8,h9,c⟩:=h
  simp only at h1 h2 h3 h4 h5 h6 h7 h8 h9 c
  by_cases hx:x.1=next
  ·rw [if_pos hx]
   have d:=h7 x (List.mem_cons_self ..)
   obtain ⟨a1,a2,a3⟩:=Zuf (i:=x) h3 (by rw [hx];exact h4) h5 (by omega)
   have:=Zr0 top r (next+1) (Zfi ring x) (log++[Za2 x]) 0 0 ⟨by simp only;omega,h2,a1,by rw [hx] at a2;exact a2,a3,h6.2,fun i hi=>by
    have p:=h7 i (List.mem_cons_of_mem _ hi);have q:=h6.1 i hi;simp only [Zet] at q ⊢;omega,by simp only [List.length_append,List.length_singleton];omega,z33,z22⟩
   exact ⟨this.1,by have:=this.2;omega⟩
  ·rw [if_neg hx]
   refine ⟨⟨by simp only;omega,h2,h3,h4,h5,h6,fun i hi=>?_,fun h0=>by simp only at h0;omega,h8,h9,c⟩,Int.le_refl _⟩
   have p:=h7 i hi
   simp only
   rcases List.mem_cons.1 hi with rfl | hi
   ·omega
   ·have q:=h6.1 i hi;have p':=h7 x (List.mem_cons_self ..);simp only [Zet] at q;omega
theorem Zml {f:Qo3} (h:Zs0 f):FOk (Z0d f)∧f.1≤(Z0d f).1:=Zr0 _ _ _ _ _ _ _ h
theorem Zrl {f:Qo3} {hi why:Int} (h:Zs0 f) (hh:f.1≤hi) (h6:hi≤1000000) :
  Zs0 (Qqh hi why f)∧f.1<(Qqh hi why f).1∧(hi<(Qqh hi why f).1∨(Qqh hi why f).2.2.2.1.length<f.2.2.2.1.length):=by
 obtain ⟨n,t,r,w,l,a,b⟩:=f
 obtain ⟨h1,h2,h3,h4,h5,d,h7,h8,h9,k⟩:=h
 simp only at h1 h2 h3 h4 h5 d h7 h8 h9 k hh ⊢
 have z:=z33
 have z2:=z22
 cases w with
 | nil=>
  unfold Qqh
  simp only
  rw [if_pos hh]
  simp only
  rw [if_neg (by omega)]
  exact ⟨⟨by simp only;omega,h2,h3,fun i c=>by have:=h4 i c;simp only;omega,h5,d,fun i c=>(by cases c),by simp only [List.length_append,List.length_singleton];omega,z,z2⟩,by simp only;omega,.inl (by simp only;omega)⟩
 | cons x q=>
  have hx:=h7 x (List.mem_cons_self ..)
  unfold Qqh
  simp only
  by_cases h0:x.1≤hi
  ·rw [if_pos h0]
   have key:∀ g:Qo3,g=(x.1,t,r,x::q,g.2.2.2.2.1,0,0)→(g.2.2.2.2.1.length:Int)≤x.1→Zs0 (if g.1≤hi then Z0d g else g)∧n<(if g.1≤hi then Z0d g else g).1∧(hi<(if g.1≤hi then Z0d g else g).1∨(if g.1≤hi then Z0d g else g).2.2.2.1.length<q.length+1):=by
    intro g hg hl
    generalize hL:g.2.2.2.2.1=L at hg hl
    subst hg
    simp only
    rw [if_pos h0]
    have m:Z0d (x.1,t,r,x::q,L,0,0)=Z0g t (x.1+1) (Zfi r x) q (L++[Za2 x]) 0 0:=by
     show Z0g _ _ _ (x::q) _ _ _=_
     rw [Z0g];simp only [if_pos]
    obtain ⟨a1,a2,a3⟩:=Zuf (i:=x) h3 (fun y hy=>by have:=h4 y hy;omega) h5 (by omega)
    have hk:=Zr0 t q (x.1+1) (Zfi r x) (L++[Za2 x]) 0 0 ⟨by simp only;omega,h2,a1,a2,a3,d.2,fun i c=>by
     have p:=h7 i (List.mem_cons_of_mem _ c);have q':=d.1 i c;simp only [Zet] at q' ⊢;omega,by simp only [List.length_append,List.length_singleton];omega,z,z2⟩
    rw [m]
    refine ⟨hk.1.to' (by have:=hk.2;omega),by have:=hk.2;omega,.inr ?_⟩
    have j:∀ (w:List Qo4) (next:Int) (ring:List Qo4) (log:List Evt) (a b:Int),(Z0g t next ring w log a b).2.2.2.1.length≤w.length:=by
     intro w
     induction w with
     | nil=>intro next ring log a b;exact Nat.le_refl _
     | cons y s ih=>
      intro next ring log a b
      unfold Z0g
      split
      ·have:=ih (next+1) (Zfi ring y) (log++[Za2 y]) 0 0;rw [List.length_cons];omega
      ·exact Nat.le_refl _
    have:=j q (x.1+1) (Zfi r x) (L++[Za2 x]) 0 0
    omega
   rw [List.length_cons]
   by_cases e:n≤x.1 - 1
   ·rw [if_pos e]
    exact key _ (by simp only [Prod.mk.injEq,and_true,true_and];omega) (by simp only [List.length_append,List.length_singleton];omega)
   ·rw [if_neg e]
    exact key _ (by simp only [Prod.mk.injEq,and_true,true_and];omega) (by simp only;omega)
  ·rw [if_neg h0,if_pos hh]
   simp only
   rw [if_neg (by omega)]
   exact ⟨⟨by simp only;omega,h2,h3,fun i c=>by have:=h4 i c;simp only;omega,h5,d,fun i c=>by
    have p:=h7 i c;simp only
    rcases List.mem_cons.1 c with rfl | c
    ·omega
    ·have q':=d.1 i c;simp only [Zet] at q';omega,by simp only [List.length_append,List.length_singleton];omega,z,z2⟩,by simp only;omega,.inl (by simp only;omega)⟩
theorem Zt2 {hi why:Int} (h6:hi≤1000000):∀ (n:Nat) {f:Qo3},Zs0 f→Zs0 (Qwr hi why n f)∧f.1≤(Qwr hi why n f).1∧(f.2.2.2.1.length<n→hi<(Qwr hi why n f).1)
 | 0,f,h=>⟨h,Int.le_refl _,fun h=>by omega⟩
 | n+1,f,h=>by
  unfold Qwr
  by_cases h1:f.1≤hi
  ·rw [if_pos h1]
   obtain ⟨a,b,c⟩:=Zrl (why:=why) h h1 h6
   obtain ⟨p,q,r⟩:=Zt2 h6 n a
   refine ⟨p,by omega,fun hl=>?_⟩
   rcases c with c | c
   ·omega
   ·exact r (by omega)
  ·rw [if_neg h1];exact ⟨h,Int.le_refl _,fun _=>by omega⟩
theorem Z6g {f:Qo3} (h:Zs0 f) (hi why:Int):Zs0 (Z01 f hi why)∧f.1≤(Z01 f hi why).1:=by
 unfold Z01
 split
 ·exact ⟨h,Int.le_refl _⟩
 ·have:=Zt2 (why:=why) (hi:=hi) (by omega) (f.2.2.2.1.length+1) h
  exact ⟨this.1,this.2.1⟩
theorem Qv9 {f:Qo3} (h:FOk f) (top:Int):FOk (Ql5 f top):=by
 unfold Ql5
 split
 ·rename_i h1
  exact ⟨h.next,by have:=h.top;simp only;omega,h.ring,h.ring1,h.ringl,h.win,h.win1,h.win0,h.log,h.tries,h.due⟩
 ·exact h
theorem Z8g (f:Qo3) (top:Int):(Ql5 f top).1=f.1∧(Ql5 f top).2.2=f.2.2:=by unfold Ql5;split<;>exact ⟨rfl,rfl⟩
theorem Zix {f:Qo3} (h:FOk f) (next:Int):FOk (Z9x f next):=by
 unfold Z9x
 split
 ·exact Qv9 h _
 ·split
  ·rename_i h0 h1
   have:=h.next
   have e:f.1=0:=by omega
   have hw:=h.win0 e
   exact ⟨by simp only;omega,h.top,h.ring,fun i hi=>by have:=h.ring1 i hi;simp only;omega,h.ringl,h.win,fun i hi=>(by simp only [hw] at hi;cases hi),fun e=>by simp only at e;omega,by have:=h.log;simp only;omega,h.tries,h.due⟩
  ·exact h
theorem Zu9 {w:List Qo4} {next:Int} {x:Qo4} (h:Zhh Zet w) (h1:∀ i∈w,next≤i.1∧i.1≤1000000∧i.1<next+8) (hx:x.1≤1000000):Zhh Zet (Zwy w next x)∧∀ i∈Zwy w next x,next≤i.1∧i.1≤1000000∧i.1<next+8:=by
 unfold Zwy
 split
 ·exact ⟨h,h1⟩
 ·rename_i hn
  have hf:Zuu w x.1=none:=by
   cases hg:Zuu w x.1 with
   | none=>rfl
   | some y=>rw [hg] at hn;simp at hn
  refine ⟨Zom h (Z5g.1 hf),fun i hi=>?_⟩
  rcases Zhk.1 hi with rfl | hi
  ·omega
  ·exact h1 i hi
theorem Zja {f:Qo3} (h:FOk f) (i:Qo4):FOk (Z60 f i)∧f.1≤(Z60 f i).1:=by
 unfold Z60
 split
 ·exact ⟨h,Int.le_refl _⟩
 ·rename_i h0
  have hk:=Qv9 h i.1
  have e:=Z8g f i.1
  have hn:=h.next
  have hp:=Zu9 (next:=(Ql5 f i.1).1) (x:=i) hk.win (fun j hj=>by have:=hk.win1 j hj;omega) (by omega)
  have:=Zml (f:=((Ql5 f i.1).1,(Ql5 f i.1).2.1,(Ql5 f i.1).2.2.1,Zwy (Ql5 f i.1).2.2.2.1 (Ql5 f i.1).1 i,(Ql5 f i.1).2.2.2.2)) ⟨by simp only;omega,hk.top,hk.ring,hk.ring1,hk.ringl,hp.1,hp.2,hk.log,hk.tries,hk.due⟩
  refine ⟨this.1,?_⟩
  have:=this.2
  simp only at this ⊢
  omega
theorem Zhy {f:Qo3} (h:FOk f) (lo hi:Int):FOk (Z40 f lo hi)∧f.1≤(Z40 f lo hi).1:=by
 unfold Z40
 split
 ·exact ⟨h,Int.le_refl _⟩
 ·have hk:=Qv9 h hi
  have e:=(Z8g f hi).1
  simp only
  split
  ·exact ⟨hk,by omega⟩
  ·have hs:=Z6g (hk.to' (by omega)) hi 1
   have:=Zml hs.1
   exact ⟨this.1,by omega⟩
theorem Zig {f:Qo3} (h:FOk f) {now:Int} (h0:0≤now) (h1:now≤1125899906842624):FOk (Z6r f now).1∧f.1≤(Z6r f now).1.1:=by
 unfold Z6r
 split
 ·exact ⟨h,Int.le_refl _⟩
 ·rename_i s hs
  have a:f.1≠0:=by
   intro e;unfold Zg6 at hs;simp only [e,true_or,if_true] at hs;cases hs
  have hn:=h.next
  split
  ·split
   ·have hk:=Z6g (h.to' (by omega)) s.2 2
    have:=Zml hk.1
    exact ⟨this.1,by simp only;omega⟩
   ·refine ⟨⟨h.next,h.top,h.ring,h.ring1,h.ringl,h.win,h.win1,h.win0,h.log,?_,?_⟩,Int.le_refl _⟩
    ·have:=h.tries;simp only;omega
    ·have ht:=h.tries
     simp only
     have:f.2.2.2.2.2.1=0∨f.2.2.2.2.2.1=1∨f.2.2.2.2.2.1=2:=by omega
     have e2:(2:Int)*2 ^ f.2.2.2.2.2.1.toNat≤8∧0≤(2:Int)*2 ^ f.2.2.2.2.2.1.toNat:=by
      rcases this with e | e | e<;>rw [e]<;>decide
     omega
  ·exact ⟨h,Int.le_refl _⟩
theorem Zrm {f g:Qo3} {t:ByteArray} (h:FOk f) (hw:f.2.2.2.1=[]) (hg:Zyc f t=some g):FOk g∧g.2.2.2.1=[]:=by
 unfold Zyc at hg
 simp only at hg
 split at hg
 ·cases hg
 ·rename_i h0
  cases hg
  have hn:=h.next
  obtain ⟨a1,a2,a3⟩:=Zuf (i:=(max f.1 1,t)) h.ring (fun x hx=>by have:=h.ring1 x hx;simp only;omega) h.ringl (by simp only;omega)
  exact ⟨⟨by simp only;omega,by simp only;omega,a1,a2,a3,h.win,fun i hi=>(by simp only [hw] at hi;cases hi),fun e=>hw,by have:=h.log;simp only [List.length_append,List.length_singleton];omega,h.tries,h.due⟩,hw⟩
theorem bt {p q:Prop} {i:Decidable p} {j:Decidable q} (h1:p) (h2:q):(decide p&&decide q)=true:=by rw [decide_eq_true h1,decide_eq_true h2];rfl
theorem idx {n:Int} {i:Nat} (h:(i:Int)<n):(ix (i:Int) n)=true:=bt (by omega) h
theorem cp {α:Type} {p:Prop} {i:Decidable p} {a b:α}:(bif decide p then a else b)=if p then a else b:=by
 by_cases h:p
 ·rw [decide_eq_true h,if_pos h];rfl
 ·rw [decide_eq_false h,if_neg h];rfl
abbrev ebA:ByteArray:=⟨#[]⟩
theorem Zqw {l:List Qo4} (h:l.length≤6) (i:Qo4):(Zfi l i).length≤6:=by
 unfold Zfi
 split
 ·split
  ·exact h
  ·rw [List.length_drop,List.length_append,List.length_singleton];omega
 ·simp
theorem Zl1 (n:Nat) (l:List Qo4) (v:Int) (h6:l.length≤1000000000):∀ (k m i:Nat),i+k=l.length→k<m →
  Qsm n m l v (i:Int)=some ((match Zuu (l.drop i) v with | some x=>(x.2,true,()) | none=>(ebA,false,())),())
 | k,0,i,_,h=>by omega
 | 0,m+1,i,hk,h=>by
  show Qq5 (Qsm n m) l v (i:Int)=_
  unfold Qq5
  rw [cdn (by omega),List.drop_eq_nil_of_le (by omega)];rfl
 | k+1,m+1,i,hk,h=>by
  show Qq5 (Qsm n m) l v (i:Int)=_
  have hi:i<l.length:=by omega
  unfold Qq5
  rw [cdp (by omega),ct (idx (by omega)),ct (idx (by omega)),Qkb,Qkq hi,Qoq (by omega),ceq,List.drop_eq_getElem_cons hi]
  show _=some ((match (if Zet l[i]=v then some l[i] else Zuu (l.drop (i+1)) v) with | some x=>(x.2,true,()) | none=>(ebA,false,())),())
  by_cases hv:l[i].1=v
  ·rw [if_pos hv,if_pos hv]
  ·rw [if_neg hv,if_neg hv,Zl1 n l v h6 k m (i+1) (by omega) (by omega)]
theorem Zqf (l:List Qo4) (v:Int) (h6:l.length≤1000000000):Z0c l v=some ((match Zuu l v with | some x=>(x.2,true,()) | none=>(ebA,false,())),()):=by
 have:=Zl1 1099511627776 l v h6 l.length 1099511627776 0 (by omega) (by omega)
 rw [List.drop_zero] at this
 exact this
theorem Zgi (l:List Qo4) (i:Qo4) (h6:l.length≤6):Qp8 l i=some ((Zfi l i,()),()):=by
 have key:(∀ x,l.getLast?=some x→¬ i.1≤x.1)→Qs0 l i=some ((Zfi l i,()),()):=by
  intro hx
  have e:Zfi l i=(l++[i]).drop (l.length+1 - 6):=by
   unfold Zfi
   split
   ·rename_i x h;rw [if_neg (hx x h)]
   ·rename_i h;rw [List.getLast?_eq_none_iff] at h;subst h;rfl
  have hl:(l++[i]).length=l.length+1:=by rw [List.length_append,List.length_singleton]
  unfold Qs0
  rw [List.nil_append,cbp (by omega),hl]
  by_cases h7:l.length=6
  ·rw [cdp (by omega),ct (bt (by omega) (by omega)),e,h7]
   have:(((6+1:Nat):Int)).toNat=7:=rfl
   rw [this,List.take_of_length_le (by omega)]
  ·rw [cdn (by omega),e,show l.length+1 - 6=0 by omega,List.drop_zero]
 unfold Qp8
 rw [cbp (by omega)]
 cases hl:l.getLast? with
 | none=>
  rw [List.getLast?_eq_none_iff] at hl
  subst hl
  rw [cdn (by simp)]
  exact key (fun x h=>by cases h)
 | some x=>
  have hp:0<l.length:=by
   cases l with
   | nil=>cases hl
   | cons a b=>simp
  rw [cdp (by omega),Qor (by omega) (by omega),ct (bt (by omega) (by omega))]
  have e2:((l.length:Int) - 1).toNat=l.length - 1:=by omega
  have e3:List.getD l (l.length - 1) (0,ebA)=x:=by
   rw [Qkq (by omega)]
   rw [List.getLast?_eq_getElem?,List.getElem?_eq_getElem (by omega)] at hl
   exact Option.some.inj hl
  rw [e2,e3]
  by_cases h1:i.1≤x.1
  ·rw [cdp h1,List.nil_append]
   unfold Zfi;rw [hl];simp only [h1,if_true]
  ·rw [cdn h1];exact key (fun y hy=>by rw [hl] at hy;cases hy;exact h1)
theorem Zo5 (l:List Evt) (n:Int) (t:ByteArray) (h:l.length≤1000000000):Qs4 l n t=some ((l++[Za2 (n,t)],()),()):=by
 unfold Qs4
 rw [cbp (by omega),List.nil_append,cbp (by omega)];rfl
theorem Zo6 (l:List Evt) (a b c:Int) (h:l.length≤1000000000):Qqc l a b c=some ((l++[Zlc a b c],()),()):=by
 unfold Qqc
 rw [cbp (by omega),List.nil_append,cbp (by omega)];rfl
theorem Zno (v:Int):Qp7 [] v=some (([],(0,ebA),false,()),()):=rfl
theorem Zmd (x:Qo4) (r:List Qo4) (v:Int) (h:r.length≤1000000000):Qp7 (x::r) v=if x.1=v then some ((r,x,true,()),()) else some ((x::r,(0,ebA),false,()),()):=by
 unfold Qp7
 rw [Z3n (by rw [List.length_cons];omega),cdp (by rw [List.length_cons];omega),Z8q]
 by_cases hx:x.1=v
 ·rw [if_pos (show (List.getD (x::r) 0 (0,ebA)).1=v from hx),if_pos hx,ct (bt (by rw [List.length_cons];omega) (Int.le_refl _)),cbp (by simp;omega),cdp (by rw [List.length_cons];omega),Int.toNat_natCast,List.take_length]
  rfl
 ·rw [if_neg (show ¬ (List.getD (x::r) 0 (0,ebA)).1=v from hx),if_neg hx]
theorem Zj2 (L) (top:Int) (j1 j2 j3 j4:Int) (j5 j6:List Qo4) (j7:List Evt) (next:Int) (ring w:List Qo4) (log:List Evt) (a b:Int) (o:List Qo4) (h1:0≤next∧next≤1000000000) (h2:ring.length≤6) (h3:w.length≤1000000) (h4:log.length≤100000000) (h5:o.length≤100000000) :
  Qrl L next top ring w a b log j1 j2 j3 j4 j5 j6 j7 o=match w with
   | []=>some (((next,top,ring,[],log,a,b),o,()),())
   | x::r=>if x.1=next then L (next+1) top (Zfi ring x) r 0 0 (log++[Za2 x]) j1 j2 j3 j4 j5 j6 j7 (o++[x]) else some (((next,top,ring,x::r,log,a,b),o,()),()):=by
 unfold Qrl
 cases w with
 | nil=>rw [Zno];rfl
 | cons x r=>
  rw [List.length_cons] at h3
  rw [Zmd x r next (by omega)]
  by_cases hx:x.1=next
  ·rw [if_pos hx]
   dsimp only [Option.bind_some]
   rw [if_pos hx,nt,cond_false,Zo5 _ _ _ (by omega)]
   dsimp only [Option.bind_some]
   rw [Zgi _ _ h2]
   dsimp only [Option.bind_some]
   rw [cbp (by omega),Qor (by omega) (by omega)]
  ·rw [if_neg hx]
   dsimp only [Option.bind_some]
   rw [if_neg hx,nf,cond_true]
theorem Zil (n:Nat) (top:Int) (j1 j2 j3 j4:Int) (j5 j6:List Qo4) (j7:List Evt):∀ (w:List Qo4) (m:Nat) (next:Int) (ring:List Qo4) (log:List Evt) (a b:Int) (o:List Qo4),
  w.length<m→0≤next∧next+w.length≤1000000000→ring.length≤6→w.length≤1000000→log.length+w.length≤100000000→o.length+w.length≤100000000 →
  ∃ q,Qni n m next top ring w a b log j1 j2 j3 j4 j5 j6 j7 o=some ((Z0g top next ring w log a b,q,()),())
 | w,0,next,ring,log,a,b,o,h,_,_,_,_,_=>by omega
 | [],m+1,next,ring,log,a,b,o,h,h1,h2,h3,h4,h5=>by
  refine ⟨o,?_⟩
  show Qrl (Qni n m) next top ring [] a b log j1 j2 j3 j4 j5 j6 j7 o=_
  rw [List.length_nil] at *
  rw [Zj2 _ top j1 j2 j3 j4 j5 j6 j7 next ring [] log a b o (by omega) h2 (by simp) (by omega) (by omega)];rfl
 | x::r,m+1,next,ring,log,a,b,o,h,h1,h2,h3,h4,h5=>by
  rw [List.length_cons] at h h1 h3 h4 h5
  have e:Qni n (m+1) next top ring (x::r) a b log j1 j2 j3 j4 j5 j6 j7 o=_:=Zj2 (Qni n m) top j1 j2 j3 j4 j5 j6 j7 next ring (x::r) log a b o (by omega) h2 (by rw [List.length_cons];omega) (by omega) (by omega)
  rw [e]
  unfold Z0g
  simp only
  by_cases hx:x.1=next
  ·rw [if_pos hx,if_pos hx]
   exact Zil n top j1 j2 j3 j4 j5 j6 j7 r m (next+1) (Zfi ring x) (log++[Za2 x]) 0 0 (o++[x]) (by omega) (by omega) (Zqw h2 x) (by omega) (by rw [List.length_append,List.length_singleton];omega) (by rw [List.length_append,List.length_singleton];omega)
  ·rw [if_neg hx,if_neg hx];exact ⟨o,rfl⟩
structure FSm (f:Qo3):Prop where
 next:0≤f.1∧f.1≤1000001
 ring:f.2.2.1.length≤6
 win:f.2.2.2.1.length≤1000
 log:f.2.2.2.2.1.length≤10000000
theorem Zs0.sm {f:Qo3} (h:Zs0 f):FSm f:=by
 have hl:=Zmi (a:=f.1) (b:=f.1+8) h.win (fun i hi=>by have:=h.win1 i hi;simp only [Zet];omega)
 have hn:=h.next
 have:=h.log
 exact ⟨by omega,h.ringl,by omega,by omega⟩
theorem FOk.sm {f:Qo3} (h:FOk f):FSm f:=by
 have hl:=Zmi (a:=f.1) (b:=f.1+8) h.win (fun i hi=>by have:=h.win1 i hi;simp only [Zet];omega)
 have hn:=h.next
 have:=h.log
 exact ⟨by omega,h.ringl,by omega,by omega⟩
theorem Zv5 (f:Qo3) (h:FSm f):∃ q,Qlq f=some ((Z0d f,q,()),()):=by
 obtain ⟨n,t,r,w,l,a,b⟩:=f
 obtain ⟨h1,h2,h3,h4⟩:=h
 simp only at h1 h2 h3 h4
 have key:∀ m,10000<m→∃ q,Quk 1099511627776 m n t r w l a b 0 0 0 0 [] [] [] []=some ((Z0d (n,t,r,w,l,a,b),q,()),()):=by
  intro m hm
  obtain ⟨m,rfl⟩:∃ m',m=m'+1:=⟨m - 1,by omega⟩
  have e:Quk 1099511627776 (m+1) n t r w l a b 0 0 0 0 [] [] [] []=Qni 1099511627776 (m+1) n t r w a b l 0 0 0 0 [] [] [] []:=rfl
  rw [e]
  exact Zil 1099511627776 t 0 0 0 0 [] [] [] w (m+1) n r l a b [] (by omega) (by omega) h2 (by omega) (by omega) (by simp;omega)
 exact key 1099511627776 (by decide)
theorem Zl5 (l:List Qo4) (h:l.length≤1000000):Qns l=some ((Zvk l,()),()):=by
 unfold Qns
 cases l with
 | nil=>rfl
 | cons x r=>rw [List.length_cons] at h ⊢;rw [Z3n (by omega),cdp (by omega)];rfl
theorem Zo4 (g:Qo3) (h:FSm g) {R:Type} (K:Qo3→Option R):(Option.bind (Qlq g) fun r=>K r.1.1)=K (Z0d g):=by
 obtain ⟨q,e⟩:=Zv5 g h
 rw [e];rfl
theorem Zjs (L) (hi why:Int) (n t:Int) (r w:List Qo4) (l:List Evt) (a b:Int) (j1 j2 j3 j4:Int) (j5 j6:List Qo4) (j7:List Evt) (o:Qmq)
  (h1:0≤n∧n≤1000001) (hh:hi≤1000000) (h2:r.length≤6) (h3:w.length≤1000) (h4:l.length≤5000000) (h5:o.length≤100000000) (hw:∀ i∈w,0≤i.1∧i.1≤1000000) :
  (hi<n→Qoe L hi why n t r w l a b j1 j2 j3 j4 j5 j6 j7 o=some (((n,t,r,w,l,a,b),o,()),())) ∧
  (n≤hi→∃ o',o'.length≤o.length+1∧Qoe L hi why n t r w l a b j1 j2 j3 j4 j5 j6 j7 o=L hi why (Qqh hi why (n,t,r,w,l,a,b)).1 (Qqh hi why (n,t,r,w,l,a,b)).2.1 (Qqh hi why (n,t,r,w,l,a,b)).2.2.1 (Qqh hi why (n,t,r,w,l,a,b)).2.2.2.1 (Qqh hi why (n,t,r,w,l,a,b)).2.2.2.2.1 (Qqh hi why (n,t,r,w,l,a,b)).2.2.2.2.2.1 (Qqh hi why (n,t,r,w,l,a,b)).2.2.2.2.2.2 j1 j2 j3 j4 j5 j6 j7 o'):=by
 have f:∀ (n':Int) (l':List Evt),0≤n'∧n'≤1000001→l'.length≤5000001→FSm (n',t,r,w,l',0,0):=fun n' l' q1 q2=>⟨q1,h2,h3,by simp only;omega⟩
 have h:∀ x:Evt,(l++[x]).length≤5000001:=fun x=>by rw [List.length_append,List.length_singleton];omega
 have d:n≤hi→∃ o',o'.length≤o.length+1∧Qoj hi n l why o t r w L j1 j2 j3 j4 j5 j6 j7=L hi why (hi+1) t r w (l++[Zlc n hi why]) 0 0 j1 j2 j3 j4 j5 j6 j7 o':=by
  intro hn
  refine ⟨o++[(n,hi)],by rw [List.length_append,List.length_singleton];omega,?_⟩
  unfold Qoj
  rw [cdp hn,Zo6 _ _ _ _ (by omega)]
  dsimp only [Option.bind_some]
  rw [cbp (by omega),Qor (by omega) (by omega),cdn (by omega)]
 refine ⟨fun hn=>?_,fun hn=>?_⟩
 ·unfold Qoe
  rw [cdn (by omega)]
 ·unfold Qoe
  rw [cdp hn]
  cases w with
  | nil=>
   rw [cdn (by simp)]
   obtain ⟨o',q1,q2⟩:=d hn
   refine ⟨o',q1,q2.trans ?_⟩
   have e:Qqh hi why (n,t,r,[],l,a,b)=(hi+1,t,r,[],l++[Zlc n hi why],0,0):=by
    unfold Qqh;simp only;rw [if_pos hn];simp only;rw [if_neg (by omega)]
   rw [e]
  | cons x q=>
   have hx:=hw x (List.mem_cons_self ..)
   rw [cdp (by rw [List.length_cons];omega),Zl5 _ (by omega)]
   dsimp only [Option.bind_some]
   show ∃ o':List (Int × Int),o'.length≤o.length+1∧(bif decide (x.1≤hi) then _ else _)=_
   by_cases c:x.1≤hi
   ·rw [cdp c]
    show ∃ o':List (Int × Int),o'.length≤o.length+1∧(bif decide (wJ (x.1 - 1) ≥ n) then _ else _)=_
    rw [Qor (x:=x.1 - 1) (by omega) (by omega)]
    by_cases h7:n≤x.1 - 1
    ·rw [cdp h7]
     show ∃ o':List (Int × Int),o'.length≤o.length+1∧(Option.bind (Qqc l n (wJ (x.1 - 1)) why) _)=_
     rw [Qor (x:=x.1 - 1) (by omega) (by omega),Zo6 _ _ _ _ (by omega)]
     dsimp only [Option.bind_some]
     rw [cbp (by omega)]
     show ∃ o':List (Int × Int),o'.length≤o.length+1∧(bif decide (wJ ((wJ (x.1 - 1))+1)≤hi) then Option.bind (Qlq (wJ ((wJ (x.1 - 1))+1),t,r,x::q,l++[Zlc n (x.1 - 1) why],0,0)) _ else _)=_
     rw [Qor (x:=x.1 - 1) (by omega) (by omega),Qor (x:=x.1 - 1+1) (by omega) (by omega),cdp (by omega)]
     refine ⟨o++[(n,wJ (x.1 - 1))],by rw [List.length_append,List.length_singleton];omega,?_⟩
     have e:Qqh hi why (n,t,r,x::q,l,a,b)=Z0d (x.1 - 1+1,t,r,x::q,l++[Zlc n (x.1 - 1) why],0,0):=by
      unfold Qqh;simp only;rw [if_pos c,if_pos h7];simp only;rw [if_pos (by omega)]
     rw [e]
     exact Zo4 (x.1 - 1+1,t,r,x::q,l++[Zlc n (x.1 - 1) why],0,0) (f _ _ (by omega) (h _)) (fun g=>L hi why g.1 g.2.1 g.2.2.1 g.2.2.2.1 g.2.2.2.2.1 g.2.2.2.2.2.1 g.2.2.2.2.2.2 j1 j2 j3 j4 j5 j6 j7 (o++[(n,wJ (x.1 - 1))]))
    ·rw [cdn h7]
     refine ⟨o,by omega,?_⟩
     unfold Qte
     rw [cdp hn]
     have e:Qqh hi why (n,t,r,x::q,l,a,b)=Z0d (n,t,r,x::q,l,0,0):=by
      unfold Qqh;simp only;rw [if_pos c,if_neg h7];simp only;rw [if_pos hn]
     rw [e]
     exact Zo4 (n,t,r,x::q,l,0,0) (f _ _ (by omega) (by omega)) (fun g=>L hi why g.1 g.2.1 g.2.2.1 g.2.2.2.1 g.2.2.2.2.1 g.2.2.2.2.2.1 g.2.2.2.2.2.2 j1 j2 j3 j4 j5 j6 j7 o)
   ·rw [cdn c]
    obtain ⟨o',q1,q2⟩:=d hn
    refine ⟨o',q1,q2.trans ?_⟩
    have e:Qqh hi why (n,t,r,x::q,l,a,b)=(hi+1,t,r,x::q,l++[Zlc n hi why],0,0):=by
     unfold Qqh;simp only;rw [if_neg c,if_pos hn];simp only;rw [if_neg (by omega)]
    rw [e]
theorem Zs0.wnn {f:Qo3} (h:Zs0 f):∀ i∈f.2.2.2.1,0≤i.1∧i.1≤1000000:=fun i hi=>by have:=h.win1 i hi;have:=h.next;omega
theorem Ztx (hi why:Int):∀ (k:Nat) (f:Qo3),hi<f.1→Qwr hi why k f=f
 | 0,f,h=>rfl
 | k+1,f,h=>by unfold Qwr;rw [if_neg (by omega)]
theorem Zgc (n0:Nat) (hi why:Int) (hh:hi≤1000000) (j1 j2 j3 j4:Int) (j5 j6:List Qo4) (j7:List Evt):∀ (k m:Nat) (f:Qo3) (o:Qmq),Zs0 f→(f.2.2.2.1.length<k∨hi<f.1)→k<m→o.length+k≤100000000 →
  ∃ q,Qol n0 m hi why f.1 f.2.1 f.2.2.1 f.2.2.2.1 f.2.2.2.2.1 f.2.2.2.2.2.1 f.2.2.2.2.2.2 j1 j2 j3 j4 j5 j6 j7 o=some ((Qwr hi why k f,q,()),())
 | k,0,f,o,_,_,h,_=>by omega
 | 0,m+1,f,o,hf,hk,h,ho=>by
  have hs:=hf.sm
  have hn:hi<f.1:=hk.elim (fun h=>absurd h (by omega)) id
  obtain ⟨n,t,r,w,l,a,b⟩:=f
  have:=(Zjs (Qol n0 m) hi why n t r w l a b j1 j2 j3 j4 j5 j6 j7 o hs.next hh hs.ring hs.win (by have:=hf.log;have:=hf.next;simp only at *;omega) (by omega) hf.wnn).1 hn
  exact ⟨o,this⟩
 | k+1,m+1,f,o,hf,hk,h,ho=>by
  have hs:=hf.sm
  obtain ⟨n,t,r,w,l,a,b⟩:=f
  have st:=Zjs (Qol n0 m) hi why n t r w l a b j1 j2 j3 j4 j5 j6 j7 o hs.next hh hs.ring hs.win (by have:=hf.log;have:=hf.next;simp only at *;omega) (by omega) hf.wnn
  by_cases hn:n≤hi
  ·obtain ⟨o',c,e⟩:=st.2 hn
   obtain ⟨a1,a2,a3⟩:=Zrl (why:=why) hf hn hh
   have:=Zgc n0 hi why hh j1 j2 j3 j4 j5 j6 j7 k m (Qqh hi why (n,t,r,w,l,a,b)) o' a1 (by
    rcases a3 with a3 | a3
    ·exact .inr a3
    ·rcases hk with hk | hk
     ·exact .inl (by omega)
     ·exact absurd hn (by simp only at hk;omega)) (by omega) (by omega)
   obtain ⟨q,hq⟩:=this
   refine ⟨q,Eq.trans e (hq.trans ?_)⟩
   rw [show Qwr hi why (k+1) (n,t,r,w,l,a,b)=Qwr hi why k (Qqh hi why (n,t,r,w,l,a,b)) from if_pos hn]
  ·refine ⟨o,Eq.trans (st.1 (by omega)) ?_⟩
   rw [show Qwr hi why (k+1) (n,t,r,w,l,a,b)=(n,t,r,w,l,a,b) from if_neg hn]
theorem Zlv {f:Qo3} (h:Zs0 f) (hi why:Int):∃ q,Qwz f hi why=some ((Z01 f hi why,q,()),()):=by
 show ∃ q,Qv1 (Qqg 1099511627776 1099511627776) f hi why=_
 unfold Qv1 Z01
 have hn:=h.next
 rw [cdn (by omega)]
 by_cases hh:1000000<hi
 ·rw [cdp hh,if_pos (.inr hh)];exact ⟨_,rfl⟩
 ·rw [cdn hh,if_neg (by omega)]
  have key:∀ m,100000<m→∃ q,Qqg 1099511627776 m hi why (decide (hi>1000000)) f.1 f.2.1 f.2.2.1 (g3 f) (g4 f) (g5 f) (h6 f) 0 0 0 0 [] [] [] []=some ((Qwr hi why (f.2.2.2.1.length+1) f,q,()),()):=by
   intro m hm
   obtain ⟨m,rfl⟩:∃ m',m=m'+1:=⟨m - 1,by omega⟩
   have e:Qqg 1099511627776 (m+1) hi why (decide (hi>1000000)) f.1 f.2.1 f.2.2.1 (g3 f) (g4 f) (g5 f) (h6 f) 0 0 0 0 [] [] [] []=Qol 1099511627776 (m+1) hi why f.1 f.2.1 f.2.2.1 f.2.2.2.1 f.2.2.2.2.1 f.2.2.2.2.2.1 f.2.2.2.2.2.2 0 0 0 0 [] [] [] []:=rfl
   rw [e]
   have:=h.sm.win
   exact Zgc 1099511627776 hi why (by omega) 0 0 0 0 [] [] [] (f.2.2.2.1.length+1) (m+1) f [] h (.inl (by omega)) (by omega) (by simp;omega)
  exact key 1099511627776 (by decide)
theorem X1f (a b:Int):(if a>b then a else b)=max b a:=by split<;>omega
theorem Qyy (f:Qo3) (top:Int):Qmp f top=some ((Ql5 f top,()),()):=by
 unfold Qmp Ql5
 by_cases h1:0<f.1
 ·rw [cdp h1]
  by_cases h2:top≤1000000
  ·rw [cdp h2,X1f,if_pos ⟨h1,h2⟩]
  ·rw [cdn h2,if_neg (by omega)]
 ·rw [cdn h1,if_neg (by omega)]
theorem Zl7 (f:Qo3) (next:Int) (h:-1000000000000≤next∧next≤1000000000000):Qtq f next=some ((Z9x f next,()),()):=by
 unfold Qtq Z9x
 by_cases h1:0<f.1
 ·rw [cdp h1,if_pos h1,Qor (by omega) (by omega),Qyy];rfl
 ·rw [cdn h1,if_neg h1]
  by_cases h2:1≤next
  ·rw [cdp h2]
   by_cases h3:next≤1000000
   ·rw [cdp h3,if_pos ⟨h2,h3⟩]
   ·rw [cdn h3,if_neg (by omega)]
  ·rw [cdn h2,if_neg (by omega)]
theorem Zw1 {f:Qo3} (h:FOk f) (t:ByteArray) (ht:t.size≤1000000):Z0k f t=some ((match Zyc f t with | some g=>(g,true,()) | none=>(f,false,())),()):=by
 unfold Z0k Zyc
 have hn:=h.next
 have hs:=h.sm
 have e:(if 1>f.1 then 1 else f.1)=max f.1 1:=by split<;>omega
 simp only [e]
 by_cases h1:12<t.size
 ·rw [cdp (by omega),if_pos (.inl h1)]
 ·rw [cdn (by omega)]
  by_cases h2:1000000<max f.1 1
  ·rw [cdp h2,if_pos (.inr h2)]
  ·rw [cdn h2,if_neg (by omega),Zo5 _ _ _ (by have:=hs.log;show f.2.2.2.2.1.length≤_;omega)]
   dsimp only [Option.bind_some]
   rw [Zgi _ _ hs.ring]
   dsimp only [Option.bind_some]
   rw [Qor (by omega) (by omega)]
theorem Zdd (n:Nat) (l:List Qo4) (x:Qo4) (hl:l.length≤1000):∀ (k m i:Nat) (a:List Qo4),i+k=l.length→k<m→a.length≤2000+i →
  Ql2 n m l true (i:Int) x.1 x.2 a=some ((a++l.drop i,true,()),())
 | k,0,i,a,_,h,_=>by omega
 | 0,m+1,i,a,hk,h,ha=>by
  show Qku (Ql2 n m) l true (i:Int) x.1 x.2 a=_
  unfold Qku
  rw [cdn (by omega),List.drop_eq_nil_of_le (by omega),List.append_nil];rfl
 | k+1,m+1,i,a,hk,h,ha=>by
  show Qku (Ql2 n m) l true (i:Int) x.1 x.2 a=_
  have hi:i<l.length:=by omega
  unfold Qku
  rw [cdp (by omega),nt,cond_false]
  unfold Qsw
  rw [ct (idx (by omega)),cbp (by omega),Qoq (by omega),Qkb,Qkq hi,Zdd n l x hl k m (i+1) _ (by omega) (by omega) (by rw [List.length_append,List.length_singleton];omega),List.drop_eq_getElem_cons hi,List.append_assoc];rfl
theorem Zcs (n:Nat) (l:List Qo4) (x:Qo4) (hl:l.length≤1000):∀ (k m i:Nat) (a:List Qo4),i+k=l.length→k<m→a.length≤i→(∀ y∈l,y.1≠x.1) →
  Ql2 n m l false (i:Int) x.1 x.2 a=some ((a++Zr2 Zet x (l.drop i),true,()),())
 | k,0,i,a,_,h,_,_=>by omega
 | 0,m+1,i,a,hk,h,ha,hx=>by
  show Qku (Ql2 n m) l false (i:Int) x.1 x.2 a=_
  unfold Qku
  rw [cdn (by omega),List.drop_eq_nil_of_le (by omega),nf,cond_true,cbp (by omega)];rfl
 | k+1,m+1,i,a,hk,h,ha,hx=>by
  show Qku (Ql2 n m) l false (i:Int) x.1 x.2 a=_
  have hi:i<l.length:=by omega
  unfold Qku
  rw [cdp (by omega),nf,cond_true,ct (idx (by omega)),Qkb,Qkq hi,List.drop_eq_getElem_cons hi]
  by_cases hc:x.1<l[i].1
  ·rw [cdp hc,cbp (by omega),ct (idx (by omega)),cbp (by rw [List.length_append,List.length_singleton];omega),Qoq (by omega),Zdd n l x hl k m (i+1) _ (by omega) (by omega) (by rw [List.length_append,List.length_append,List.length_singleton,List.length_singleton];omega)]
   rw [show Zr2 Zet x (l[i]::l.drop (i+1))=x::l[i]::l.drop (i+1) from if_pos hc,List.append_assoc,List.append_assoc];rfl
  ·rw [cdn hc]
   unfold Qsw
   rw [ct (idx (by omega)),cbp (by omega),Qoq (by omega),Qkb,Qkq hi,Zcs n l x hl k m (i+1) _ (by omega) (by omega) (by rw [List.length_append,List.length_singleton];omega) hx]
   rw [show Zr2 Zet x (l[i]::l.drop (i+1))=l[i]::Zr2 Zet x (l.drop (i+1)) from if_neg hc,List.append_assoc];rfl
theorem Zre (l:List Qo4) (next:Int) (x:Qo4) (hl:l.length≤1000) (h1:0≤next∧next≤1000000000) (h2:0≤x.1∧x.1≤1000000000):∃ b,Z0p l next x=some ((Zwy l next x,b,()),()):=by
 show ∃ b,Qtg (Ql2 1099511627776 1099511627776) l next x=_
 unfold Qtg Zwy
 rw [Zqf _ _ (by omega),Qor (by omega) (by omega)]
 dsimp only [Option.bind_some]
 by_cases a1:x.1<next
 ·rw [cdp a1,if_pos (.inl a1)];exact ⟨_,rfl⟩
 rw [cdn a1]
 by_cases a2:8≤x.1 - next
 ·rw [cdp a2,if_pos (.inr (.inl a2))];exact ⟨_,rfl⟩
 rw [cdn a2]
 cases hg:Zuu l x.1 with
 | some y=>rw [cond_true,if_pos (.inr (.inr rfl))];exact ⟨_,rfl⟩
 | none=>
  rw [cond_false,if_neg (by simp [a1,a2])]
  have:=Zcs 1099511627776 l x hl l.length 1099511627776 0 [] (by omega) (by omega) (by simp) (Z5g.1 hg)
  rw [List.drop_zero,List.nil_append] at this
  exact ⟨true,this⟩
theorem Zlu {f:Qo3} (h:FOk f) (i:Qo4) (hi:i.2.size≤1000000):Qu1 f i=some ((Z60 f i,()),()):=by
 unfold Qu1 Z60
 have hn:=h.next
 by_cases a1:f.1=0
 ·rw [Z65 a1,if_pos (.inl a1)]
 rw [Z3n a1]
 by_cases a2:i.1<1
 ·rw [cdp a2,if_pos (.inr (.inl a2))]
 rw [cdn a2]
 by_cases a3:1000000<i.1
 ·rw [cdp a3,if_pos (.inr (.inr (.inl a3)))]
 rw [cdn a3]
 by_cases a4:12<i.2.size
 ·rw [cdp (by omega),if_pos (.inr (.inr (.inr a4)))]
 rw [cdn (by omega),if_neg (by omega),Qyy]
 dsimp only [Option.bind_some]
 have hk:=Qv9 h i.1
 have e:=(Z8g f i.1).1
 obtain ⟨b,hb⟩:=Zre (Ql5 f i.1).2.2.2.1 (Ql5 f i.1).1 i hk.sm.win (by omega) (by omega)
 rw [show (g3 (Ql5 f i.1))=(Ql5 f i.1).2.2.2.1 from rfl,hb]
 dsimp only [Option.bind_some]
 have hp:=Zu9 (next:=(Ql5 f i.1).1) (x:=i) hk.win (fun j hj=>by have:=hk.win1 j hj;omega) (by omega)
 exact Zo4 ((Ql5 f i.1).1,(Ql5 f i.1).2.1,(Ql5 f i.1).2.2.1,Zwy (Ql5 f i.1).2.2.2.1 (Ql5 f i.1).1 i,(Ql5 f i.1).2.2.2.2) (Zs0.sm ⟨by simp only;omega,hk.top,hk.ring,hk.ring1,hk.ringl,hp.1,hp.2,hk.log,hk.tries,hk.due⟩) (fun g=>some ((g,()),()))
theorem Zpu (a b:Int):Ql1 (a,b)=some ((decide (1≤a∧a≤b∧b≤1000000),()),()):=by
 unfold Ql1
 simp only [cp]
 by_cases h1:1≤a<;>by_cases h2:a≤b<;>by_cases h3:b≤1000000<;>simp [h1,h2,h3]
theorem Zll {f:Qo3} (h:FOk f) (lo hi:Int):Qts f lo hi=some ((Z40 f lo hi,()),()):=by
 unfold Qts Z40
 have hn:=h.next
 by_cases a1:f.1=0
 ·rw [Z65 a1,if_pos (.inl a1)]
 rw [Z3n a1,Zpu]
 dsimp only [Option.bind_some]
 by_cases a2:1≤lo∧lo≤hi∧hi≤1000000
 ·rw [decide_eq_true a2,nt,cond_false,if_neg (by omega),Qyy]
  dsimp only [Option.bind_some]
  by_cases b1:(Ql5 f hi).1<lo
  ·rw [cdp b1,if_pos (.inl b1)]
  rw [cdn b1]
  by_cases b2:hi<(Ql5 f hi).1
  ·rw [cdp b2,if_pos (.inr b2)]
  rw [cdn b2,if_neg (by omega)]
  have hk:=Qv9 h hi
  have e:=(Z8g f hi).1
  obtain ⟨q,hq⟩:=Zlv (hk.to' (by omega)) hi 1
  rw [hq]
  dsimp only [Option.bind_some]
  exact Zo4 _ (Z6g (hk.to' (by omega)) hi 1).1.sm (fun g=>some ((g,()),()))
 ·rw [decide_eq_false a2,nf,cond_true,if_pos (by omega)]
theorem Ztj {f:Qo3} (h:FOk f):Qww f=some ((match Zg6 f with | some s=>(s,true,()) | none=>((0,0),false,())),()):=by
 unfold Qww Zg6
 have hn:=h.next
 have hs:=h.sm
 obtain ⟨n,t,r,w,l,a,b⟩:=f
 simp only at hn ⊢
 cases w with
 | nil=>
  dsimp only
  rw [cdn (by simp)]
  by_cases a1:n=0
  ·rw [Z65 a1,if_pos (.inl a1)]
  rw [Z3n a1]
  by_cases a2:t<n
  ·rw [cdp a2,if_pos (.inr a2)]
  ·rw [cdn a2,if_neg (by omega)]
 | cons x q=>
  have hx:=h.win1 x (List.mem_cons_self ..)
  have hw:=hs.win
  simp only at hx hw
  dsimp only
  rw [cdp (by show (0:Int)<((q.length+1:Nat):Int);omega),Zl5 _ (by show (x::q).length≤_;omega)]
  dsimp only [Option.bind_some]
  show (bif n==0 then _ else bif decide (wJ (x.1 - 1)<n) then _ else some (((n,wJ (x.1 - 1)),true,()),()))=_
  rw [Qor (by omega) (by omega)]
  by_cases a1:n=0
  ·rw [Z65 a1,if_pos (.inl a1)]
  rw [Z3n a1]
  by_cases a2:x.1 - 1<n
  ·rw [cdp a2,if_pos (.inr a2)]
  ·rw [cdn a2,if_neg (fun e=>e.elim a1 a2)]
theorem Zwd (a b now:Int):Z2k (a,b) now=some ((decide (a=0∨b≤now),()),()):=by
 unfold Z2k
 by_cases h:a=0
 ·rw [Z65 h,decide_eq_true (.inl h)]
 ·rw [Z3n h]
  congr 3
  exact decide_eq_decide.2 ⟨.inr,fun x=>x.elim (fun e=>absurd e h) id⟩
theorem Zt0 (a b now:Int) (h:0≤a∧a≤2) (hn:0≤now∧now≤1125899906842624):Z3q (a,b) now=some (((a+1,now+2*2 ^ a.toNat),()),()):=by
 have key:∀ n m,Qoy n (m+4) now 2 0 a b 0 0=some (((a+1,now+2*2 ^ a.toNat),()),()):=by
  intro n m
  have st:∀ (m:Nat) (g i:Int),0≤g∧g≤100→0≤i∧i≤10→Qoy n (m+1) now g i a b 0 0=if i<a then (if i<3 then Qoy n m now (g*2) (i+1) a b 0 0 else some (((a+1,now+g),()),())) else some (((a+1,now+g),()),()):=by
   intro m g i hg hi
   show Quo (Qoy n m) now g i a b 0 0=_
   unfold Quo
   rw [Qor (x:=g*2) (by omega) (by omega),Qor (x:=i+1) (by omega) (by omega),Qor (x:=a+1) (by omega) (by omega),Qor (x:=now+g) (by omega) (by omega),cp,cp]
  have h3:a=0∨a=1∨a=2:=by omega
  rcases h3 with rfl | rfl | rfl
  ·rw [st _ _ _ (by omega) (by omega),if_neg (by omega)];rfl
  ·rw [st _ _ _ (by omega) (by omega),if_pos (by omega),if_pos (by omega),st _ _ _ (by omega) (by omega),if_neg (by omega)];rfl
  ·rw [st _ _ _ (by omega) (by omega),if_pos (by omega),if_pos (by omega),st _ _ _ (by omega) (by omega),if_pos (by omega),if_pos (by omega),st _ _ _ (by omega) (by omega),if_neg (by omega)];rfl
 exact key 1099511627776 1099511627772
theorem Zns {f:Qo3} (h:FOk f) (now:Int) (hn:0≤now∧now≤1125899906842624):Qs6 f now=some (((Z6r f now).1,(match (Z6r f now).2 with | some s=>(s,true,()) | none=>((0,0),false,()))),()):=by
 unfold Qs6 Z6r
 rw [Ztj h]
 dsimp only [Option.bind_some]
 have a:=h.next
 have ht:=h.tries
 cases hw:Zg6 f with
 | none=>rfl
 | some s=>
  dsimp only
  rw [nt,cond_false,show h5 f=(f.2.2.2.2.2.1,f.2.2.2.2.2.2) from rfl,Zwd]
  dsimp only [Option.bind_some]
  by_cases a1:f.2.2.2.2.2.1=0∨f.2.2.2.2.2.2≤now
  ·rw [decide_eq_true a1,nt,cond_false,if_pos a1]
   have hf:f.1≠0:=by intro e;unfold Zg6 at hw;simp only [e,true_or,if_true] at hw;cases hw
   by_cases a2:3≤f.2.2.2.2.2.1
   ·rw [cdp a2,if_pos a2]
    obtain ⟨q,hq⟩:=Zlv (h.to' (by omega)) s.2 2
    rw [hq]
    dsimp only [Option.bind_some]
    exact Zo4 _ (Z6g (h.to' (by omega)) s.2 2).1.sm (fun g=>some ((g,(0,0),false,()),()))
   ·rw [cdn a2,if_neg a2,Zt0 _ _ _ (by omega) hn]
    rfl
  ·rw [decide_eq_false a1,nf,cond_true,if_neg a1]
abbrev Tie:=Int × Int × Int × Int × Int × Int × List Int × Int × Int × Int × Int × Int × List Kid
abbrev Z27:=Bool × Int × ByteArray × Tie × Qo3 × Int
def Zwg (t:Tie) (a to:Int):Qka:=(a,t.1,to,t.2.1,0,0,[],0,0,ebA)
def Zuk (t:Tie) (a to:Int):Qka:=(a,t.1,to,t.2.1,t.2.2.2.2.2.2.2.1,t.2.2.1 - t.2.2.2.2.2.2.2.2.1,t.2.2.2.2.2.2.1,0,0,ebA)
def Zxp (id inc now gd:Int):Tie:=if id=1 then (id,inc,now,0,0,gd,[1],0,now,0,0,0,[]) else (id,inc,now,0,0,gd,[],0,0,0,0,0,[])
def Zus:Tie→Int→Tie | (id,inc,now,par,pc,gd,pt,ep,bn,asked,til,sp,kids),s=>(id,inc,now,0,0,gd,[],ep,bn,0,til,s,kids)
def Qu3:Tie→Bool | (id,inc,now,par,pc,gd,pt,ep,bn,asked,til,sp,kids)=>decide (id=1∨par≠0∧now - bn≤20)
def Zs1:Tie→Tie × List Qka
 | (id,inc,now,par,pc,gd,pt,ep,bn,asked,til,sp,kids)=>
  if par≠0 then ((id,inc,now,par,pc,gd,pt,ep,bn,asked,til,sp,kids),[]) else
  if asked≠0∧¬ til≤now then ((id,inc,now,par,pc,gd,pt,ep,bn,asked,til,sp,kids),[]) else
  let b:=if asked=0 then sp else sp+1
  let a:=if b=0∧gd≠0∧gd≠id then gd else 1
  ((id,inc,now,par,pc,gd,pt,ep,bn,a,now+3,b,kids),[(1,id,a,inc,0,0,[],0,0,ebA)])
def Zju (t:Tie):List Qka:=
 if t.2.2.1 % 2=0 then (if t.2.2.2.1≠0 then [Zwg t 4 t.2.2.2.1] else [])++(if Qu3 t=true then t.2.2.2.2.2.2.2.2.2.2.2.2.map fun k=>Zuk t 5 k.1 else []) else []
def Zcj:Tie→Tie
 | (id,inc,now,par,pc,gd,pt,ep,bn,asked,til,sp,kids)=>
  if id=1 then
   if (now+1) % 2=0 then (id,inc,now+1,par,pc,gd,pt,ep+1,now+1,asked,til,sp,Z02 kids (now+1))
   else (id,inc,now+1,par,pc,gd,pt,ep,bn,asked,til,sp,Z02 kids (now+1))
  else if par≠0∧¬ now+1 - bn≤20 then (id,inc,now+1,0,0,gd,[],ep,bn,0,til,0,Z02 kids (now+1))
  else (id,inc,now+1,par,pc,gd,pt,ep,bn,asked,til,sp,Z02 kids (now+1))
def Qzq (t:Tie):Tie × List Qka:=if t.1=1 then (Zcj t,[]) else Zs1 (Zcj t)
def Qxr (t:Tie):Tie × List Qka:=((Qzq t).1,(Qzq t).2++Zju (Qzq t).1)
def Zg3 (p:List Int):Int:=if p.length<2 then 1 else if List.getD p (p.length - 2) 0=0 then 1 else List.getD p (p.length - 2) 0
def Qyq:Tie→Qka→Tie × List Qka
 | (id,inc,now,par,pc,gd,pt,ep,bn,asked,til,sp,kids),(kd,fr,to,mi,me,ag,pa,l,hi,tx)=>
  if par≠0∧fr=par then ((id,inc,now,par,pc,gd,pt,ep,bn,asked,til,sp,kids),[]) else
  if asked=0∨asked≠fr∨par≠0 then ((id,inc,now,par,pc,gd,pt,ep,bn,asked,til,sp,kids),[(6,id,fr,inc,0,0,[],0,0,ebA)]) else
  if (Qn0 pa id).2=false∨20<ag then ((id,inc,now,par,pc,gd,pt,ep,bn,0,til,sp+1,kids),[(6,id,fr,inc,0,0,[],0,0,ebA)]) else
  ((id,inc,now,fr,mi,Zg3 pa,(Qn0 pa id).1,me,now - ag,0,til,0,kids),[])
def Zr9 (id:Int):Int:=if id=1 then 8 else 3
def Z5o:Tie→Qka→Int→Tie × List Qka
 | (id,inc,now,par,pc,gd,pt,ep,bn,asked,til,sp,kids),(kd,fr,to,mi,me,ag,pa,l,hi,tx),lo=>
  if kd=1 then
   if Qu3 (id,inc,now,par,pc,gd,pt,ep,bn,asked,til,sp,kids)=false∨fr∈pt∨(Qwx kids fr=none∧Zr9 id≤(kids.length:Int)) then ((id,inc,now,par,pc,gd,pt,ep,bn,asked,til,sp,kids),[(3,id,fr,inc,0,0,[],0,0,ebA)])
   else ((id,inc,now,par,pc,gd,pt,ep,bn,asked,til,sp,Z9d kids (fr,mi,now)),[(2,id,fr,inc,ep,now - bn,pt,lo,0,ebA)])
  else if kd=2 then Qyq (id,inc,now,par,pc,gd,pt,ep,bn,asked,til,sp,kids) (kd,fr,to,mi,me,ag,pa,l,hi,tx)
  else if kd=3 then
   if par≠0∧fr=par then (Zus (id,inc,now,par,pc,gd,pt,ep,bn,asked,til,sp,kids) 0,[])
   else if asked≠0∧asked=fr then ((id,inc,now,par,pc,gd,pt,ep,bn,0,til,sp+1,kids),[])
   else ((id,inc,now,par,pc,gd,pt,ep,bn,asked,til,sp,kids),[])
  else if kd=4 then
   if Qwx kids fr=none then ((id,inc,now,par,pc,gd,pt,ep,bn,asked,til,sp,kids),[(3,id,fr,inc,0,0,[],0,0,ebA)])
   else ((id,inc,now,par,pc,gd,pt,ep,bn,asked,til,sp,Z9d kids (fr,mi,now)),[])
  else if kd=5 then
   if ¬ (par≠0∧fr=par) then ((id,inc,now,par,pc,gd,pt,ep,bn,asked,til,sp,kids),[(6,id,fr,inc,0,0,[],0,0,ebA)])
   else if (Qn0 pa id).2=false then (Zus (id,inc,now,par,pc,gd,pt,ep,bn,asked,til,sp,kids) 1,[(6,id,fr,inc,0,0,[],0,0,ebA)])
   else if bn<now - ag then ((id,inc,now,par,pc,Zg3 pa,(Qn0 pa id).1,me,now - ag,asked,til,sp,kids),[])
   else ((id,inc,now,par,pc,Zg3 pa,(Qn0 pa id).1,ep,bn,asked,til,sp,kids),[])
  else if kd=6 then ((id,inc,now,par,pc,gd,pt,ep,bn,asked,til,sp,Z3e kid fr kids),[])
  else ((id,inc,now,par,pc,gd,pt,ep,bn,asked,til,sp,kids),[])
def Qt3:Tie→Qka→Int→Tie × List Qka
 | (id,inc,now,par,pc,gd,pt,ep,bn,asked,til,sp,kids),(kd,fr,to,mi,me,ag,pa,l,hi,tx),lo=>
  if Zyl kids fr mi=true∨fr=par∧mi<pc then ((id,inc,now,par,pc,gd,pt,ep,bn,asked,til,sp,kids),[])
  else if fr=par∧pc<mi then Z5o (Zus (id,inc,now,par,pc,gd,pt,ep,bn,asked,til,sp,kids) 0) (kd,fr,to,mi,me,ag,pa,l,hi,tx) lo
  else Z5o (id,inc,now,par,pc,gd,pt,ep,bn,asked,til,sp,kids) (kd,fr,to,mi,me,ag,pa,l,hi,tx) lo
def Zgh (t:Tie):List Qka:=(if t.2.2.2.1≠0 then [Zwg t 6 t.2.2.2.1] else [])++t.2.2.2.2.2.2.2.2.2.2.2.2.map fun k=>Zwg t 3 k.1
structure TOk (N:Int) (t:Tie):Prop where
 id:1≤t.1∧t.1≤8
 inc:1≤t.2.1∧t.2.1≤1073741824
 now:0≤t.2.2.1∧t.2.2.1≤N
 par:0≤t.2.2.2.1∧t.2.2.2.1≤8
 pc:0≤t.2.2.2.2.1∧t.2.2.2.2.1≤1073741824
 gd:0≤t.2.2.2.2.2.1∧t.2.2.2.2.2.1≤8
 pt:t.2.2.2.2.2.2.1.length≤10
 ep:0≤t.2.2.2.2.2.2.2.1∧t.2.2.2.2.2.2.2.1≤1073741824+N
 bn:-1073741824≤t.2.2.2.2.2.2.2.2.1∧t.2.2.2.2.2.2.2.2.1≤N
 asked:0≤t.2.2.2.2.2.2.2.2.2.1∧t.2.2.2.2.2.2.2.2.2.1≤8
 til:0≤t.2.2.2.2.2.2.2.2.2.2.1∧t.2.2.2.2.2.2.2.2.2.2.1≤N+3
 sp:0≤t.2.2.2.2.2.2.2.2.2.2.2.1∧t.2.2.2.2.2.2.2.2.2.2.2.1≤N
 kids:KOk t.2.2.2.2.2.2.2.2.2.2.2.2
 big:N≤562949953421312
 one:t.2.2.2.1≠0→t.2.2.2.2.2.2.2.2.2.1=0
theorem TOk.mono {N M:Int} {t:Tie} (h:TOk N t) (h1:N≤M) (h2:M≤562949953421312):TOk M t:=by
 obtain ⟨a1,a2,a3,a4,a5,a6,a7,a8,a9,a,d,e,b,f,c⟩:=h
 exact ⟨a1,a2,by omega,a4,a5,a6,a7,by omega,by omega,a,by omega,by omega,b,h2,c⟩
theorem Qwk {p:List Int} {x:Int} (h:(Qn0 p x).2=true):Qqz (p++[x])=true∧(Qn0 p x).1=p++[x]:=by
 unfold Qn0 at h ⊢
 split at h
 ·rename_i h1;rw [if_pos h1];exact ⟨h1,rfl⟩
 ·cases h
theorem Zqn {p:List Int} {x:Int} (h:Qqz (p++[x])=true):1≤Zg3 p∧Zg3 p≤8:=by
 have hm:=(Qqb h).2
 unfold Zg3
 split
 ·omega
 ·rename_i h2
  have h3:p.length - 2<p.length:=by omega
  have:=hm _ (List.mem_append_left _ (List.getElem_mem h3))
  rw [Qkq h3]
  split<;>omega
structure MSm (m:Qka):Prop where
 fr:1≤m.fr∧m.fr≤8
 inc:0≤m.inc∧m.inc≤1073741824
 ep:0≤m.ep∧m.ep≤1073741824
 ag:0≤m.ag∧m.ag≤1073741824
 pa:m.pa.length≤10
 lo:0≤m.lo∧m.lo≤1000000
 hi:0≤m.hi∧m.hi≤1000000
 tx:m.tx.size≤12
theorem Zmq {N:Int} {t:Tie} (h:TOk N t) {s:Int} (hs:0≤s∧s≤N):TOk N (Zus t s):=by
 obtain ⟨id,inc,now,par,pc,gd,pt,ep,bn,asked,til,sp,kids⟩:=t
 obtain ⟨a1,a2,a3,a4,a5,a6,a7,a8,a9,d,a,e,b,c,f⟩:=h
 rw [Zus]
 exact ⟨a1,a2,a3,by simp,by simp,a6,by simp,a8,a9,by simp,a,hs,b,c,fun _=>rfl⟩
theorem Zrb {N:Int} {t:Tie} (h:TOk N t) (h1:N+1≤562949953421312):TOk (N+1) (Zcj t):=by
 obtain ⟨id,inc,now,par,pc,gd,pt,ep,bn,asked,til,sp,kids⟩:=t
 obtain ⟨a1,a2,a3,a4,a5,a6,a7,a8,a9,b,d,e,a,f,c⟩:=h
 simp only at a1 a2 a3 a4 a5 a6 a7 a8 a9 b d e a c
 rw [Zcj]
 split
 ·split
  ·exact ⟨a1,a2,by simp only;omega,a4,a5,a6,a7,by simp only;omega,by simp only;omega,b,by simp only;omega,by simp only;omega,a.filter _,h1,c⟩
  ·exact ⟨a1,a2,by simp only;omega,a4,a5,a6,a7,by simp only;omega,by simp only;omega,b,by simp only;omega,by simp only;omega,a.filter _,h1,c⟩
 ·split
  ·exact ⟨a1,a2,by simp only;omega,by simp,by simp,a6,by simp,by simp only;omega,by simp only;omega,by simp,by simp only;omega,by simp only;omega,a.filter _,h1,fun _=>rfl⟩
  ·exact ⟨a1,a2,by simp only;omega,a4,a5,a6,a7,by simp only;omega,by simp only;omega,b,by simp only;omega,by simp only;omega,a.filter _,h1,c⟩
theorem X05 {N:Int} {t:Tie} (h:TOk N t) (hs:t.2.2.2.2.2.2.2.2.2.2.2.1+1≤N):TOk N (Zs1 t).1:=by
 obtain ⟨id,inc,now,par,pc,gd,pt,ep,bn,asked,til,sp,kids⟩:=t
 have h':=h
 obtain ⟨a1,a2,a3,a4,a5,a6,a7,a8,a9,b,c,d,a,f,g⟩:=h
 simp only at a1 a2 a3 a4 a5 a6 a7 a8 a9 b c d a hs
 rw [Zs1]
 split
 ·exact h'
 ·split
  ·exact h'
  ·simp only
   exact ⟨a1,a2,a3,a4,a5,a6,a7,a8,a9,by simp only;split<;>omega,by simp only;omega,by simp only;split<;>omega,a,f,fun e=>absurd e (by simp only;omega)⟩
theorem Zmf {N:Int} {t:Tie} (h:TOk N t) (h1:N+1≤562949953421312):TOk (N+1) (Qzq t).1:=by
 have h0:=Zrb h h1
 unfold Qzq
 split
 ·exact h0
 ·refine X05 h0 ?_
  obtain ⟨id,inc,now,par,pc,gd,pt,ep,bn,asked,til,sp,kids⟩:=t
  have:=h.sp
  have:=h.now
  rw [Zcj]
  simp only at *
  split
  ·split<;>simp only<;>omega
  ·split<;>simp only<;>omega
theorem Zay {N:Int} {t:Tie} (h:TOk N t) (h1:N+1≤562949953421312):TOk (N+1) (Qxr t).1:=Zmf h h1
theorem Zvg {N:Int} {t:Tie} {m:Qka} (h:TOk N t) (hm:MSm m) (lo:Int) (h1:N+1≤562949953421312):TOk (N+1) (Z5o t m lo).1:=by
 have h':=h.mono (show N≤N+1 by omega) h1
 have h0:=h
 obtain ⟨id,inc,now,par,pc,gd,pt,ep,bn,asked,til,sp,kids⟩:=t
 obtain ⟨a1,a2,a3,a4,a5,a6,a7,a8,a9,c,d,f,a,g,b⟩:=h
 simp only at a1 a2 a3 a4 a5 a6 a7 a8 a9 c d f a b
 obtain ⟨kd,fr,to,mi,me,ag,pa,l,hi,tx⟩:=m
 obtain ⟨m1,m2,m3,m4,m5,m6,m7,m8⟩:=hm
 dsimp only [Qka.kd,Qka.fr,Qka.to,Qka.inc,Qka.ep,Qka.ag,Qka.pa,Qka.lo,Qka.hi,Qka.tx] at m1 m2 m3 m4 m5 m6 m7 m8
 have hear:KOk (Z9d kids (fr,mi,now)):=a.hear (by simp only;omega)
 have up:∀ {s:Int} {q:List Kid} {az:Int},0≤s∧s≤N+1→KOk q→(az=asked∨az=0)→TOk (N+1) (id,inc,now,par,pc,gd,pt,ep,bn,az,til,s,q):=fun hs hq has=>⟨a1,a2,by simp only;omega,a4,a5,a6,a7,by simp only;omega,by simp only;omega,by simp only;omega,by simp only;omega,hs,hq,h1,fun e=>has.elim (fun x=>x.trans (b e)) (fun x=>x)⟩
 rw [Z5o]
 split
 ·split
  ·exact h'
  ·exact up (by omega) hear (.inl rfl)
 ·split
  ·rw [Qyq]
   split
   ·exact h'
   ·split
    ·exact h'
    ·split
     ·exact up (by omega) a (.inr rfl)
     ·rename_i hb
      have hp:(Qn0 pa id).2=true:=by cases hc:(Qn0 pa id).2<;>simp [hc] at hb ⊢
      have hg:=Zqn (Qwk hp).1
      have hl:=(Qqb (Qwk hp).1).1
      exact ⟨a1,a2,by simp only;omega,by simp only;omega,by simp only;omega,by simp only;omega,by simp only [(Qwk hp).2];exact hl,by simp only;omega,by simp only;omega,by simp,by simp only;omega,by simp only;omega,a,h1,fun _=>rfl⟩
  ·split
   ·split
    ·exact (Zmq h0 (by omega)).mono (by omega) h1
    ·split
     ·exact up (by omega) a (.inr rfl)
     ·exact h'
   ·split
    ·split
     ·exact h'
     ·exact up (by omega) hear (.inl rfl)
    ·split
     ·split
      ·exact h'
      ·split
       ·exact Zmq h' (by omega)
       ·rename_i hb
        have hp:(Qn0 pa id).2=true:=by cases hc:(Qn0 pa id).2<;>simp [hc] at hb ⊢
        have hg:=Zqn (Qwk hp).1
        have hl:=(Qqb (Qwk hp).1).1
        split
        ·exact ⟨a1,a2,by simp only;omega,a4,a5,by simp only;omega,by simp only [(Qwk hp).2];exact hl,by simp only;omega,by simp only;omega,c,by simp only;omega,by simp only;omega,a,h1,b⟩
        ·exact ⟨a1,a2,by simp only;omega,a4,a5,by simp only;omega,by simp only [(Qwk hp).2];exact hl,by simp only;omega,by simp only;omega,c,by simp only;omega,by simp only;omega,a,h1,b⟩
     ·split
      ·exact up (by omega) (a.filter _) (.inl rfl)
      ·exact h'
theorem Zda {N:Int} {t:Tie} {m:Qka} (h:TOk N t) (hm:MSm m) (lo:Int) (h1:N+1≤562949953421312):TOk (N+1) (Qt3 t m lo).1:=by
 obtain ⟨id,inc,now,par,pc,gd,pt,ep,bn,asked,til,sp,kids⟩:=t
 obtain ⟨kd,fr,to,mi,me,ag,pa,l,hi,tx⟩:=m
 rw [Qt3]
 split
 ·exact h.mono (by omega) h1
 ·split
  ·exact Zvg (Zmq h (by have:=h.now;omega)) hm lo h1
  ·exact Zvg h hm lo h1
end Go.PE
