/-
  Plain lemmas on the functions.
  Conditions: none.
-/
import Derived.Test.YtmfiijdlhjajcaaGreatDoorNodeDeafPPicks
set_option linter.unusedVariables false
set_option linter.unusedSimpArgs false
set_option maxRecDepth 20000
namespace Go.PE
theorem Zqc (x:Int):Qmv x=some ((inR 0 1000000 x,()),()):=by
 unfold Qmv inR
 by_cases h:0≤x
 ·rw [cdp (by omega),decide_eq_true h];rfl
 ·rw [cdn (by omega),decide_eq_false h];rfl
theorem Zkc (a b:Int):Qkw (a,b)=some ((decide (1≤a∧a≤b∧b≤1000000),()),()):=by
 unfold Qkw
 dsimp only
 by_cases h:1≤a
 ·rw [cdp (by omega)]
  by_cases h2:a≤b
  ·rw [cdp (by omega)];congr 3;exact decide_eq_decide.2 (by omega)
  ·rw [cdn (by omega),decide_eq_false (by omega)]
 ·rw [cdn (by omega),decide_eq_false (by omega)]
theorem Zrm (a b:Qk7):eqM a b=eqM b a:=by
 rw [Bool.eq_iff_iff,Qwz,Qwz];exact ⟨Eq.symm,Eq.symm⟩
theorem Zpq (m:Qk7):Zg9 m=(decide (1≤m.1∧m.1≤9∧1≤m.2.1∧m.2.1≤8∧1≤m.2.2.1∧m.2.2.1≤8∧m.2.1≠m.2.2.1∧1≤m.2.2.2.1∧m.2.2.2.1≤1073741824)&&Qxu m):=by
 rw [Bool.eq_iff_iff]
 unfold Zg9
 simp only [Bool.and_eq_true,decide_eq_true_eq,Zti,Zsm,Qkm,bne_iff_ne]
 grind
theorem Zj6 (m:Qk7) (h6:m.pa.length≤1000000000):Qsy m=some ((Zg9 m,()),()):=by
 have hs:∀ x:Qk7,x.pa.length≤1000000000→Qkb x m=some ((eqM m x,()),()):=fun x hx=>by rw [Zon x m hx h6,Zrm]
 have hp:Qo0 m.2.2.2.2.2.2.1=some ((Qpn m.pa,()),()):=Z8z m.pa h6
 have h6':m.2.2.2.2.2.2.1.length≤1000000000:=h6
 rw [Zpq]
 unfold Qsy
 by_cases g1:m.1<1
 ·rw [cdp g1,decide_eq_false (by omega)];rfl
 rw [cdn g1]
 by_cases g2:m.1>9
 ·rw [cdp g2,decide_eq_false (by omega)];rfl
 rw [cdn g2]
 by_cases g3:m.2.1<1
 ·rw [cdp g3,decide_eq_false (by omega)];rfl
 rw [cdn g3]
 by_cases g4:m.2.1>8
 ·rw [cdp g4,decide_eq_false (by omega)];rfl
 rw [cdn g4]
 by_cases g5:m.2.2.1<1
 ·rw [cdp g5,decide_eq_false (by omega)];rfl
 rw [cdn g5]
 by_cases g6:m.2.2.1>8
 ·rw [cdp g6,decide_eq_false (by omega)];rfl
 rw [cdn g6]
 by_cases g7:m.2.1=m.2.2.1
 ·rw [Zdw g7,decide_eq_false (by omega)];rfl
 rw [Zdd g7]
 by_cases g8:m.2.2.2.1<1
 ·rw [cdp g8,decide_eq_false (by omega)];rfl
 rw [cdn g8]
 by_cases g9:m.2.2.2.1>1073741824
 ·rw [cdp g9,decide_eq_false (by omega)];rfl
 rw [cdn g9,decide_eq_true (show 1≤m.1∧m.1≤9∧1≤m.2.1∧m.2.1≤8∧1≤m.2.2.1∧m.2.2.1≤8∧m.2.1≠m.2.2.1∧1≤m.2.2.2.1∧m.2.2.2.1≤1073741824 by omega),Bool.true_and]
 unfold Qxu
 simp only [ceq]
 by_cases k2:m.1=2
 ·simp only [if_pos k2]
  rw [hp,Zqc,hs _ (by simpa [Qk7.pa] using h6')]
  simp only [Option.bind_some,Z4u]
  congr 3
  rw [Bool.eq_iff_iff]
  simp only [Bool.and_eq_true,decide_eq_true_eq,Qkm,Qk7.ep,Qk7.ag,Qk7.pa,Qk7.lo,Qk7.hi,eb]
  grind
 by_cases k5:m.1=5
 ·simp only [if_pos k5,if_neg k2]
  rw [hp,Zqc,hs _ (by simpa [Qk7.pa] using h6')]
  simp only [Option.bind_some,Z4u]
  congr 3
  rw [Bool.eq_iff_iff]
  simp only [Bool.and_eq_true,decide_eq_true_eq,Qkm,Qk7.ep,Qk7.ag,Qk7.pa,Qk7.lo,Qk7.hi,eb]
  grind
 by_cases k7:m.1=7
 ·simp only [if_pos k7,if_neg k2,if_neg k5]
  rw [Zqc,hs _ (by simp [Qk7.pa])]
  simp only [Option.bind_some,Z4u]
  congr 3
  rw [Bool.eq_iff_iff]
  simp only [Bool.and_eq_true,decide_eq_true_eq,Qkm,Qk7.ep,Qk7.ag,Qk7.pa,Qk7.lo,Qk7.hi,Qk7.tx,eb]
  grind
 by_cases k8:m.1=8
 ·simp only [if_pos k8,if_neg k2,if_neg k5,if_neg k7,if_pos (show m.1=8∨m.1=9 from Or.inl k8)]
  rw [Zkc,hs _ (by simp [Qk7.pa])]
  simp only [Option.bind_some,Z4u]
  congr 3
  rw [Bool.eq_iff_iff]
  simp only [Bool.and_eq_true,decide_eq_true_eq,Qkm,Qk7.ep,Qk7.ag,Qk7.pa,Qk7.lo,Qk7.hi,Qk7.tx,eb]
  grind
 by_cases k9:m.1=9
 ·simp only [if_pos k9,if_neg k2,if_neg k5,if_neg k7,if_neg k8,if_pos (show m.1=8∨m.1=9 from Or.inr k9)]
  rw [Zkc,hs _ (by simp [Qk7.pa])]
  simp only [Option.bind_some,Z4u]
  congr 3
  rw [Bool.eq_iff_iff]
  simp only [Bool.and_eq_true,decide_eq_true_eq,Qkm,Qk7.ep,Qk7.ag,Qk7.pa,Qk7.lo,Qk7.hi,Qk7.tx,eb]
  grind
 ·simp only [if_neg k2,if_neg k5,if_neg k7,if_neg k8,if_neg k9,if_neg (show ¬ (m.1=8∨m.1=9) from fun h=>h.elim k8 k9)]
  rw [hs _ (by simp [Qk7.pa])]
  rfl
theorem Z6a (n:Nat) (L:List Int→Int→Int→Option ((Int × Unit) × Unit)) (m1:Nat) (l:List Int) (i:Int):∀ (k m c j:Nat),j+k=8→k<m→c<4294967296 →
  Qmw n m1 L m l (c:Int) i (j:Int)=L l ((Zr3 k c:Nat):Int) (IntKind.wrap .i64 (i+1))
 | k,0,c,j,_,h,_=>by omega
 | 0,m+1,c,j,hk,h,hc=>by
  show Qo8 (Qmw n m1 L m) L l (c:Int) i (j:Int)=_
  unfold Qo8
  rw [cdn (by omega)];rfl
 | k+1,m+1,c,j,hk,h,hc=>by
  show Qo8 (Qmw n m1 L m) L l (c:Int) i (j:Int)=_
  unfold Qo8
  have e1:IntKind.wrap .u32 (Int.tdiv (c:Int) 2)=((c / 2:Nat):Int):=by
   rw [Int.tdiv_eq_ediv_of_nonneg (by omega),Zt9 (by omega) (by omega)];rfl
  have e3:Int.tmod (c:Int) 2=((c % 2:Nat):Int):=by rw [Int.tmod_eq_emod_of_nonneg (by omega)];rfl
  have e2:IntKind.wrap .u32 ((BitVec.ofInt 32 ((c / 2:Nat):Int) ^^^ BitVec.ofInt 32 3988292384).toNat)=((c / 2 ^^^ 3988292384:Nat):Int):=Zsn (b:=3988292384) (by omega) (by omega)
  rw [cdp (by omega),e1,e3,e2,Qwl (by omega),ceq]
  have ec:Zr3 (k+1) c=Zr3 k (Qwx c):=rfl
  rw [ec]
  by_cases hp:c % 2=1
  ·have es:Qwx c=c / 2 ^^^ 3988292384:=if_pos hp
   rw [if_pos (by omega),es]
   exact Z6a n L m1 l i k m _ (j+1) (by omega) (by omega) (es▸Z5a hc)
  ·have es:Qwx c=c / 2:=if_neg hp
   rw [if_neg (by omega),es]
   exact Z6a n L m1 l i k m _ (j+1) (by omega) (by omega) (by omega)
theorem Zcw (l:List Int) (hb:Qk9 l) (h6:l.length≤1000000000):∀ (k m i c:Nat),i+k=l.length→k<m→c<4294967296 →
  Qo2 1099511627776 m l (c:Int) (i:Int)=some ((((Zr9 c (l.drop i) ^^^ 4294967295:Nat):Int),()),())
 | k,0,i,c,_,h,_=>by omega
 | 0,m+1,i,c,hk,h,hc=>by
  show Qoa (Qmw 1099511627776 m (Qo2 1099511627776 m) 1099511627776) l (c:Int) (i:Int)=_
  unfold Qoa
  have e2:IntKind.wrap .u32 ((BitVec.ofInt 32 4294967295 ^^^ BitVec.ofInt 32 (c:Int)).toNat)=((c ^^^ 4294967295:Nat):Int):=by
   have:=Zsn (a:=4294967295) (b:=c) (by omega) hc
   rw [Nat.xor_comm] at this
   exact this
  rw [cdn (by omega),e2,List.drop_eq_nil_of_le (by omega)];rfl
 | k+1,m+1,i,c,hk,h,hc=>by
  show Qoa (Qmw 1099511627776 m (Qo2 1099511627776 m) 1099511627776) l (c:Int) (i:Int)=_
  unfold Qoa
  have hi:i<l.length:=by omega
  have hx:=hb l[i] (List.getElem_mem hi)
  rw [cdp (by omega),Z9t,cdp (by omega),cdp (by omega),Qkl,Qms hi,List.drop_eq_getElem_cons hi]
  generalize l[i]=x at *
  obtain ⟨x,rfl⟩:∃ y:Nat,x=(y:Int):=⟨x.toNat,by omega⟩
  rw [Zt9 (x:=(x:Int)) (by omega) (by omega),Zsn hc (by omega)]
  have hlt:c ^^^ x<4294967296:=Zb9 hc (by omega)
  have:=Z6a 1099511627776 (Qo2 1099511627776 m) m l (i:Int) 8 1099511627776 (c ^^^ x) 0 rfl (by omega) hlt
  have e0:((0:Nat):Int)=0:=rfl
  rw [e0] at this
  rw [this,Qwl (by omega),Zcw l hb h6 k m (i+1) _ (by omega) (by omega) (Z6e 8 hlt)]
  rfl
theorem Zo3 (l:List Int) (hb:Qk9 l) (h6:l.length≤1000000000):Z1s l=some ((((Zj8 l:Nat):Int),()),()):=by
 have:=Zcw l hb h6 l.length 1099511627776 0 4294967295 (by omega) (by omega) (by omega)
 rw [List.drop_zero] at this
 exact this
theorem Zf0 (n:Nat) (tx:ByteArray) (ht:tx.size≤100) (l:List Int) (hl:∀ x∈l,0≤x∧x≤1073741824) (h6:l.length≤1000) (a b c d e f:Int) (p:List Int) (g j:Int):∀ (k m i:Nat) (xs:List Int),Qk9 xs→i+k=l.length→k<m→xs.length+10*k≤100000 →
  Qml n m (i:Int) a b c d e f p g j tx l xs=some ((xs++Zde (l.drop i)++Zc8 (Qvz tx)++Z0n (Zj8 (xs++Zde (l.drop i)++Zc8 (Qvz tx))),()),())
 | k,0,i,xs,_,_,h,_=>by omega
 | 0,m+1,i,xs,hb,hk,h,hx=>by
  show Qmm (Qml n m) (i:Int) a b c d e f p g j tx l xs=_
  unfold Qmm
  have hlen:(xs++Zc8 (Qvz tx)).length≤200000:=by
   unfold Zc8
   rw [List.length_append,List.length_append];have:=Qvj (Qvz tx).length;have:=Qrp tx;omega
  have hby:Qk9 (xs++Zc8 (Qvz tx)):=Qpa.2 ⟨hb,Zds (Z60 _)⟩
  have e0:xs++(enc tx.size++Qvz tx)=xs++Zc8 (Qvz tx):=by unfold Zc8;rw [Qrp]
  rw [cdn (by omega),Zid xs tx (by omega) (by omega),List.drop_eq_nil_of_le (by omega),e0]
  dsimp only [Option.bind_some]
  rw [Zo3 _ hby (by omega)]
  dsimp only [Option.bind_some]
  rw [cbp (by omega),Zp0 (Zkz hby)]
  simp only [Zde,List.append_nil]
 | k+1,m+1,i,xs,hb,hk,h,hx=>by
  show Qmm (Qml n m) (i:Int) a b c d e f p g j tx l xs=_
  unfold Qmm
  have hi:i<l.length:=by omega
  have hv:=hl l[i] (List.getElem_mem hi)
  rw [cdp (by omega),Z9t,cdp (by omega),cdp (by omega),Z9t,cdp (by omega),cdp (by omega),Qkl,Qms hi,List.drop_eq_getElem_cons hi]
  generalize l[i]=x at *
  obtain ⟨x,rfl⟩:∃ y:Nat,x=(y:Int):=⟨x.toNat,by omega⟩
  rw [Za9 xs x (by omega) (by omega)]
  dsimp only [Option.bind_some]
  have:=Qvj x
  rw [Qwl (by omega),Zf0 n tx ht l hl h6 a b c d e f p g j k m (i+1) (xs++enc x) (Qpa.2 ⟨hb,Zcd x⟩) (by omega) (by omega) (by rw [List.length_append];omega)]
  have e1:xs++enc x++Zde (l.drop (i+1))=xs++Zde ((x:Int)::l.drop (i+1)):=by rw [List.append_assoc];rfl
  rw [e1]
theorem Z3u (m:Qk7) (h6:m.pa.length≤1000000000):Qmu m=some ((Qtk m,()),()):=by
 show Qrc (Qml 1099511627776 1099511627776) m=_
 unfold Qrc
 rw [Zj6 m h6]
 dsimp only [Option.bind_some]
 unfold Qtk
 cases hm:Zg9 m with
 | false=>rfl
 | true=>
  have ho:=Qz1 hm
  have hp:m.2.2.2.2.2.2.1.length≤10:=ho.pl
  have h1:=Zf0 1099511627776 m.tx (by have:=ho.tx;omega) (Zbx m) ho.nums.2 (by have:=ho.nums.1;have:=ho.pl;omega) m.1 m.2.1 m.2.2.1 m.2.2.2.1 m.2.2.2.2.1 m.2.2.2.2.2.1 m.2.2.2.2.2.2.1 m.2.2.2.2.2.2.2.1 m.2.2.2.2.2.2.2.2.1 (Zbx m).length 1099511627776 0 [] (by intro x hx;cases hx) (by omega) (by have:=ho.nums.1;have:=ho.pl;omega) (by have:=ho.nums.1;have:=ho.pl;simp;omega)
  rw [nt,if_pos rfl]
  simp only [cond_false]
  rw [cbp (by omega),cbp (by rw [List.length_append];simp;omega)]
  rw [List.drop_zero] at h1
  exact h1
structure RB (s:List Int × Bool) (o:Option (List Int)):Prop where
 by':Qk9 s.1
 len:s.1.length≤1000000000
 is':match o with | some l=>s.1=l∧s.2=false | none=>s.2=true
theorem Qy2 {s:List Int × Bool} {o:Option (List Int)} (h:RB s o) :
  ∃ s',Qk8 s=some ((((Qmh o).1:Int),()),(s',()))∧RB s' (Qmh o).2:=by
 obtain ⟨hb,hl,hs⟩:=h
 obtain ⟨l,e⟩:=s
 simp only at hb hl
 have eT:=Z82 l hb (by omega)
 have e1:((l.length:Int)).toNat=l.length:=rfl
 unfold Qk8 Qmh
 dsimp only
 cases hd:dec l with
 | none=>
  rw [hd,Zmw] at eT
  rw [eT]
  dsimp only [Option.bind_some,nt,nf,cond_false,cond_true]
  cases o with
  | none=>exact ⟨_,rfl,hb,hl,rfl⟩
  | some l'=>
   obtain ⟨h1,h2⟩:=hs
   simp only at h1
   subst h1
   simp only [hd]
   exact ⟨_,rfl,hb,hl,rfl⟩
 | some p=>
  obtain ⟨v,n⟩:=p
  obtain ⟨h0,h1,h2,h3⟩:=Zjt hb hd
  rw [hd,Zlm] at eT
  rw [eT]
  dsimp only [Option.bind_some,nt,nf,cond_false,cond_true]
  cases o with
  | none=>
   have hs:e=true:=hs
   subst hs
   exact ⟨_,rfl,hb,hl,rfl⟩
  | some l'=>
   obtain ⟨h1',h2'⟩:=hs
   simp only at h1' h2'
   subst h1' h2'
   simp only [hd,cond_false]
   rw [Z9t,Z9t,cdp (by omega),cdp (by omega),cdp (by omega),e1,List.take_length,Qkl]
   exact ⟨_,rfl,Qvd hb n,by simp only [List.length_drop];omega,rfl,rfl⟩
theorem Zqm {s:List Int × Bool} {o:Option (List Int)} (h:RB s o) :
  ∃ s',Qlu s=some (((Zj7 o).1,()),(s',()))∧RB s' (Zj7 o).2:=by
 obtain ⟨hb,hl,hs⟩:=h
 obtain ⟨l,e⟩:=s
 simp only at hb hl
 have eT:=Zg7 l hb (by omega)
 have e1:((l.length:Int)).toNat=l.length:=rfl
 unfold Qlu Zj7
 dsimp only
 cases hd:Zpl l with
 | none=>
  rw [hd,Zk7] at eT
  rw [eT]
  dsimp only [Option.bind_some,nt,nf,cond_false,cond_true]
  cases o with
  | none=>exact ⟨_,rfl,hb,hl,rfl⟩
  | some l'=>
   obtain ⟨h1,h2⟩:=hs
   simp only at h1
   subst h1
   simp only [hd]
   exact ⟨_,rfl,hb,hl,rfl⟩
 | some p=>
  obtain ⟨t,n⟩:=p
  obtain ⟨h0,h1,h2⟩:=Zr1 hb hd
  rw [hd,Zju] at eT
  rw [eT]
  dsimp only [Option.bind_some,nt,nf,cond_false,cond_true]
  cases o with
  | none=>
   have hs:e=true:=hs
   subst hs
   exact ⟨_,rfl,hb,hl,rfl⟩
  | some l'=>
   obtain ⟨h1',h2'⟩:=hs
   simp only at h1' h2'
   subst h1' h2'
   simp only [hd,cond_false]
   rw [Z9t,Z9t,cdp (by omega),cdp (by omega),cdp (by omega),e1,List.take_length,Qkl]
   exact ⟨_,rfl,Qvd hb n,by simp only [List.length_drop];omega,rfl,rfl⟩
def fin (b:List Int) (m:Qk7) (o:Option (List Int)):Option Qk7:=
 match o with
 | none=>none
 | some _=>if Qtk m=b then some m else none
theorem Zp3 {s:List Int × Bool} {o:Option (List Int)} (h:RB s o) (b:List Int) (hb:Qk9 b) (a1 a2 a3 a4 a5 a6:Int) (p:List Int) (hp:p.length≤1000000000) :
  (Option.bind (Qk8 s) fun (r37:(Int × Unit) × (Zsx × Unit))=>
 Option.bind (Qk8 r37.2.1) fun (r38:(Int × Unit) × (Zsx × Unit))=>
 Option.bind (Qlu r38.2.1) fun (r39:Zpd × (Zsx × Unit))=>
 bif r39.2.1.2 then
  some ((Zs5,false,()),())
 else
  Option.bind (Qmu (a1,a2,a3,a4,a5,a6,p,r37.1.1,r38.1.1,r39.1.1)) fun (r40:((List Int) × Unit) × Unit)=>
  bif !(Qeq (Q5g r40.1.1) (Q5g b)) then
  some ((Zs5,false,()),())
  else
  some (((a1,a2,a3,a4,a5,a6,p,r37.1.1,r38.1.1,r39.1.1),true,()),()))=some (Zpa (fin b (a1,a2,a3,a4,a5,a6,p,(Zir o).1.1,(Zir o).1.2.1,(Zir o).1.2.2) (Zir o).2)):=by
 obtain ⟨s1,e1,h1⟩:=Qy2 h
 obtain ⟨s2,e2,h2⟩:=Qy2 h1
 obtain ⟨s3,e3,h3⟩:=Zqm h2
 rw [e1];dsimp only [Option.bind_some]
 rw [e2];dsimp only [Option.bind_some]
 rw [e3];dsimp only [Option.bind_some]
 unfold Zir
 dsimp only
 generalize Zj7 (Qmh (Qmh o).2).2=q at *
 obtain ⟨tx,o'⟩:=q
 cases o' with
 | none=>
  rw [show s3.2=true from h3.is']
  rfl
 | some l=>
  rw [show s3.2=false from h3.is'.2]
  simp only [cond_false]
  rw [Z3u (a1,a2,a3,a4,a5,a6,p,((Qmh o).1:Int),((Qmh (Qmh o).2).1:Int),tx) hp]
  dsimp only [Option.bind_some]
  unfold fin
  generalize (a1,a2,a3,a4,a5,a6,p,((Qmh o).1:Int),((Qmh (Qmh o).2).1:Int),tx)=m
  by_cases he:Qtk m=b
  ·have:Qeq (Q5g (Qtk m)) (Q5g b)=true:=Zca.2 (by rw [he])
   rw [this];simp only [he,if_true];rfl
  ·have:Qeq (Q5g (Qtk m)) (Q5g b)=false:=by
    rw [← Bool.not_eq_true];intro h;exact he (Zom (Zdf _) hb (Zca.1 h))
   rw [this];simp only [he,if_false];rfl
theorem Zjl (n:Nat) (b:List Int) (hb:Qk9 b) (j1 j2 j3 j4 j5 j6 j7 j8:Int) (jt:ByteArray) (jl:List Int) (a1 a2 a3 a4 a5 a6 g j:Int) (tx:ByteArray):∀ (k m:Nat) (s:List Int × Bool) (o:Option (List Int)) (acc:List Int),RB s o→k<m→acc.length+k≤1073741824→(Qrr k o acc).1.length≤1000000000 →
  Qm7 n m b (k:Int) j1 j2 j3 j4 j5 j6 j7 j8 jt jl s.1 s.2 a1 a2 a3 a4 a5 a6 g j tx acc =
   some (Zpa (fin b (a1,a2,a3,a4,a5,a6,(Qrr k o acc).1,(Zir (Qrr k o acc).2).1.1,(Zir (Qrr k o acc).2).1.2.1,(Zir (Qrr k o acc).2).1.2.2) (Zir (Qrr k o acc).2).2))
 | k,0,s,o,acc,_,h,_,_=>by omega
 | 0,m+1,s,o,acc,hs,h,hl,hq=>by
  show Qmc (Qm7 n m) b ((0:Nat):Int) j1 j2 j3 j4 j5 j6 j7 j8 jt jl s.1 s.2 a1 a2 a3 a4 a5 a6 g j tx acc=_
  unfold Qmc
  rw [cdn (by omega)]
  exact Zp3 hs b hb a1 a2 a3 a4 a5 a6 acc hq
 | k+1,m+1,s,o,acc,hs,h,hl,hq=>by
  show Qmc (Qm7 n m) b ((k+1:Nat):Int) j1 j2 j3 j4 j5 j6 j7 j8 jt jl s.1 s.2 a1 a2 a3 a4 a5 a6 g j tx acc=_
  unfold Qmc
  rw [cdp (by omega)]
  cases o with
  | none=>
   have hx:s.2=true:=hs.is'
   have e1:s=(s.1,true):=by rw [← hx]
   have:=Zp3 hs b hb a1 a2 a3 a4 a5 a6 acc hq
   rw [e1] at this
   rw [hx]
   simp only [nt,cond_false]
   exact this
  | some l=>
   obtain ⟨h1,h2⟩:=hs.is'
   obtain ⟨s1,e1,r1⟩:=Qy2 hs
   have e0:s=(s.1,s.2):=rfl
   rw [e0] at e1
   rw [e1,h2]
   simp only [nf,cond_true,Option.bind_some]
   rw [cbp (by omega),Qsk (by omega) (by omega)]
   have ek:((k+1:Nat):Int) - 1=(k:Int):=by omega
   rw [ek]
   exact Zjl n b hb j1 j2 j3 j4 j5 j6 j7 j8 jt jl a1 a2 a3 a4 a5 a6 g j tx k m s1 _ _ r1 (by omega) (by rw [List.length_append,List.length_singleton];omega) hq
def Zqq (l:List Int):Qk7 × Option (List Int):=
 let a1:=Qmh (some l);let a2:=Qmh a1.2;let a3:=Qmh a2.2;let a4:=Qmh a3.2;let a5:=Qmh a4.2;let a6:=Qmh a5.2;let a7:=Qmh a6.2
 let p:=Qrr a7.1 a7.2 []
 let e:=Zir p.2
 (((a1.1:Int),(a2.1:Int),(a3.1:Int),(a4.1:Int),(a5.1:Int),(a6.1:Int),p.1,e.1.1,e.1.2.1,e.1.2.2),e.2)
def Zr6 (o:Option (List Int)):Nat:=match o with | some l=>l.length+1 | none=>0
theorem Z33 (o:Option (List Int)) (h:∀ l,o=some l→Qk9 l):Zr6 (Qmh o).2≤Zr6 o∧(∀ l,o=some l→Zr6 (Qmh o).2<Zr6 o)∧(∀ l,(Qmh o).2=some l→Qk9 l):=by
 unfold Qmh
 cases o with
 | none=>exact ⟨by simp [Zr6],by intro l e;(cases e),by intro l e;(cases e)⟩
 | some l=>
  simp only
  cases hd:dec l with
  | none=>simp [Zr6]
  | some q=>
   obtain ⟨v,n⟩:=q
   have:=Zjt (h l rfl) hd
   simp only [Zr6,List.length_drop]
   refine ⟨by omega,fun _ _=>by omega,?_⟩
   intro l' e
   cases e
   exact Qvd (h l rfl) n
theorem Zhw:∀ (k:Nat) (o:Option (List Int)) (acc:List Int),(∀ l,o=some l→Qk9 l)→(Qrr k o acc).1.length≤acc.length+Zr6 o
 | 0,o,acc,_=>by simp [Qrr]
 | k+1,none,acc,_=>by simp [Qrr]
 | k+1,some l,acc,h=>by
  obtain ⟨_,h2,h3⟩:=Z33 (some l) h
  have h2:=h2 l rfl
  have:=Zhw k (Qmh (some l)).2 (acc++[((Qmh (some l)).1:Int)]) h3
  rw [List.length_append,List.length_singleton] at this
  show (Qrr k (Qmh (some l)).2 (acc++[((Qmh (some l)).1:Int)])).1.length≤_
  omega
theorem RB.byo {s:List Int × Bool} {o:Option (List Int)} (h:RB s o):∀ l,o=some l→Qk9 l:=by
 intro l e;subst e
 obtain ⟨h1,h2⟩:=h.is'
 rw [← h1];exact h.by'
theorem Zpg (m:Qk7) (h:OkM m) (r:List Int):Zqq (body m++r)=(m,some r):=by
 have h1:=h.kd;have h2:=h.fr;have h3:=h.to;have h4:=h.inc;have h5:=h.ep;have h6:=h.ag;have h7:=h.pl;have h8:=h.pa;have h9:=h.lo;have h10:=h.hi;have h11:=h.tx
 obtain ⟨kd,fr,to,inc,ep,ag,pa,lo,hi,tx⟩:=m
 simp only [Qk7.kd,Qk7.fr,Qk7.to,Qk7.inc,Qk7.ep,Qk7.ag,Qk7.pa,Qk7.lo,Qk7.hi,Qk7.tx] at h1 h2 h3 h4 h5 h6 h7 h8 h9 h10 h11
 have e:body (kd,fr,to,inc,ep,ag,pa,lo,hi,tx)++r =
   Zek kd++(Zek fr++(Zek to++(Zek inc++(Zek ep++(Zek ag++(Zek (pa.length:Int)++(Zde pa++(Zek lo++(Zek hi++(Zc8 (Qvz tx)++r)))))))))):=by
  unfold body Zbx
  rw [Zc3,Zc3]
  simp only [Zde,List.append_nil,List.append_assoc,Qk7.kd,Qk7.fr,Qk7.to,Qk7.inc,Qk7.ep,Qk7.ag,Qk7.pa,Qk7.lo,Qk7.hi,Qk7.tx]
 rw [e]
 unfold Zqq
 dsimp only
 rw [Qow kd _ (by omega)];dsimp only
 rw [Qow fr _ (by omega)];dsimp only
 rw [Qow to _ (by omega)];dsimp only
 rw [Qow inc _ (by omega)];dsimp only
 rw [Qow ep _ (by omega)];dsimp only
 rw [Qow ag _ (by omega)];dsimp only
 rw [Qow (pa.length:Int) _ (by omega)];dsimp only
 rw [Qkl,Zeg pa [] _ (fun x hx=>by have:=h8 x hx;omega)]
 unfold Zir
 dsimp only
 rw [Qow lo _ (by omega)];dsimp only
 rw [Qow hi _ (by omega)];dsimp only
 rw [Zlz tx r (by omega)];dsimp only
 rw [Int.toNat_of_nonneg (by omega),Int.toNat_of_nonneg (by omega),Int.toNat_of_nonneg (by omega),Int.toNat_of_nonneg (by omega),Int.toNat_of_nonneg (by omega),Int.toNat_of_nonneg (by omega),Int.toNat_of_nonneg (by omega),Int.toNat_of_nonneg (by omega)]
 rfl
def Zqu (b:List Int):Option Qk7:=
 if b.length<4 then none else fin b (Zqq (b.take (b.length - 4))).1 (Zqq (b.take (b.length - 4))).2
theorem Zrf (b:List Int):Zqu b=Z67 b:=by
 cases ht:Z67 b with
 | some m=>
  obtain ⟨hm,hb⟩:=Z98 ht
  have e:Qtk m=body m++Z0n (Zj8 (body m)):=by unfold Qtk;rw [if_pos hm]
  have el:b.length=(body m).length+4:=by rw [hb,e,List.length_append,Z1w]
  have e2:b.take (b.length - 4)=body m++[]:=by
   rw [el,hb,e,show (body m).length+4 - 4=(body m).length by omega,List.take_left,List.append_nil]
  unfold Zqu
  rw [e2,Zpg m (Qz1 hm),if_neg (by omega)]
  unfold fin
  simp only
  rw [if_pos hb.symm]
 | none=>
  cases hr:Zqu b with
  | none=>rfl
  | some m=>
   exfalso
   unfold Zqu at hr
   split at hr
   ·cases hr
   ·unfold fin at hr
    split at hr
    ·cases hr
    ·split at hr
     ·rename_i h2
      have h3:=Option.some.inj hr
      rw [h3] at h2
      have hm:=Zgy (m:=m) (by rw [h2];omega)
      have:=Zhg hm
      rw [h2,ht] at this
      cases this
     ·cases hr
theorem Zhu (b:List Int) (hb:Qk9 b) (hl:b.length≤100000000):Qv7 b=some (Zpa (Z67 b)):=by
 rw [← Zrf]
 show Qqt (Qm7 1099511627776 1099511627776) b=_
 unfold Qqt Zqu
 by_cases h4:b.length<4
 ·rw [cdp (by omega),if_pos h4];rfl
 rw [cdn (by omega),if_neg h4,Qsk (by omega) (by omega),Z9t,cdp (by omega),cdp (by omega)]
 have e1:((b.length:Int) - 4).toNat=b.length - 4:=by omega
 rw [e1,List.drop_zero]
 have hb0:Qk9 (b.take (b.length - 4)):=Z84 hb _
 have hl0:(b.take (b.length - 4)).length≤100000000:=by rw [List.length_take];omega
 generalize b.take (b.length - 4)=l at *
 have h0:RB (l,false) (some l):=⟨hb0,by show l.length≤_;omega,rfl,rfl⟩
 unfold Zqq
 dsimp only
 obtain ⟨s1,e1,h1⟩:=Qy2 h0
 rw [e1];dsimp only [Option.bind_some]
 obtain ⟨s2,e2,h2⟩:=Qy2 h1
 rw [e2];dsimp only [Option.bind_some]
 obtain ⟨s3,e3,h3⟩:=Qy2 h2
 rw [e3];dsimp only [Option.bind_some]
 obtain ⟨s4,e4,h4⟩:=Qy2 h3
 rw [e4];dsimp only [Option.bind_some]
 obtain ⟨s5,e5,h5⟩:=Qy2 h4
 rw [e5];dsimp only [Option.bind_some]
 obtain ⟨s6,e6,h6⟩:=Qy2 h5
 rw [e6];dsimp only [Option.bind_some]
 obtain ⟨s7,e7,h7⟩:=Qy2 h6
 rw [e7];dsimp only [Option.bind_some]
 have l1:=(Z33 _ h0.byo).1
 have l2:=(Z33 _ h1.byo).1
 have l3:=(Z33 _ h2.byo).1
 have l4:=(Z33 _ h3.byo).1
 have l5:=(Z33 _ h4.byo).1
 have l6:=(Z33 _ h5.byo).1
 have l7:=(Z33 _ h6.byo).1
 have hv:=Zqn _ h6.byo
 have ls:=Zhw (Qmh (Qmh (Qmh (Qmh (Qmh (Qmh (Qmh (some l)).2).2).2).2).2).2).1 (Qmh (Qmh (Qmh (Qmh (Qmh (Qmh (Qmh (some l)).2).2).2).2).2).2).2 [] h7.byo
 have l0:Zr6 (some l)≤100000001:=by unfold Zr6;simp only;omega
 simp only [List.length_nil] at ls
 exact Zjl 1099511627776 b hb 0 0 0 0 0 0 0 0 (⟨#[]⟩:ByteArray) [] _ _ _ _ _ _ 0 0 (⟨#[]⟩:ByteArray) _ 1099511627776 s7 _ [] h7 (by omega) (by simp;omega) (by omega)
end Go.PE
