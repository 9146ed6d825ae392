/-
  Plain lemmas on the functions.
  Conditions: none.
-/
import Derived.Test.YtmfiijdlhjajcaaGreatDoorNodeServesPCrc
set_option linter.unusedVariables false
set_option linter.unusedSimpArgs false
set_option maxRecDepth 20000
namespace Go.PE
abbrev Qk7:=Int × Int × Int × Int × Int × Int × List Int × Int × Int × ByteArray
def Qk7.kd (m:Qk7):Int:=m.1
def Qk7.fr (m:Qk7):Int:=m.2.1
def Qk7.to (m:Qk7):Int:=m.2.2.1
def Qk7.inc (m:Qk7):Int:=m.2.2.2.1
def Qk7.ep (m:Qk7):Int:=m.2.2.2.2.1
def Qk7.ag (m:Qk7):Int:=m.2.2.2.2.2.1
def Qk7.pa (m:Qk7):List Int:=m.2.2.2.2.2.2.1
def Qk7.lo (m:Qk7):Int:=m.2.2.2.2.2.2.2.1
def Qk7.hi (m:Qk7):Int:=m.2.2.2.2.2.2.2.2.1
def Qk7.tx (m:Qk7):ByteArray:=m.2.2.2.2.2.2.2.2.2
theorem Z4o {a b:Bool}:(bif a then some ((b,()),()) else some ((false,()),()))=some ((a&&b,()),()):=by cases a<;>rfl
def eqM (a b:Qk7):Bool:=(a.1==b.1)&&((a.2.1==b.2.1)&&((a.2.2.1==b.2.2.1)&&((a.2.2.2.1==b.2.2.2.1)&&((a.2.2.2.2.1==b.2.2.2.2.1)&&((a.2.2.2.2.2.1==b.2.2.2.2.2.1)&&(decide (a.2.2.2.2.2.2.1=b.2.2.2.2.2.2.1) &&
 ((a.2.2.2.2.2.2.2.1==b.2.2.2.2.2.2.2.1)&&((a.2.2.2.2.2.2.2.2.1==b.2.2.2.2.2.2.2.2.1)&&Qeq a.2.2.2.2.2.2.2.2.2 b.2.2.2.2.2.2.2.2.2))))))))
theorem Qwo {a b:Qk7}:eqM a b=true↔a=b:=by
 obtain ⟨a1,a2,a3,a4,a5,a6,a7,a8,a9,a10⟩:=a
 obtain ⟨b1,b2,b3,b4,b5,b6,b7,b8,b9,b10⟩:=b
 simp only [eqM,Bool.and_eq_true,beq_iff_eq,Zk3,Prod.mk.injEq,decide_eq_true_eq]
theorem Zqq (a:Qk7):eqM a a=true:=Qwo.2 rfl
theorem Zka (a b:Qk7) (ha:a.pa.length≤1000000000) (hb:b.pa.length≤1000000000):Qqb a b=some ((eqM a b,()),()):=by
 unfold Qqb
 have:=Zpq a.pa b.pa (by omega) (by omega) (by omega)
 simp only [Qk7.pa] at this
 rw [this]
 simp only [Option.bind_some,Z4o]
 rfl
theorem Zlz (a b:Qk7) (ha:a.pa.length≤1000000000) (hb:b.pa.length≤1000000000):Qkb a b=some ((eqM a b,()),()):=by
 unfold Qkb
 have:=Zmz a.pa b.pa ha hb
 simp only [Qk7.pa] at this
 rw [this]
 simp only [Option.bind_some,Z4o]
 congr 3
 rw [Bool.eq_iff_iff]
 simp only [eqM,Bool.and_eq_true]
 constructor
 ·rintro ⟨h1,h2,h3,h4,h5,h6,h7,h8,h9,h10⟩;exact ⟨h1,h2,h3,h4,h5,h6,h10,h7,h8,h9⟩
 ·rintro ⟨h1,h2,h3,h4,h5,h6,h10,h7,h8,h9⟩;exact ⟨h1,h2,h3,h4,h5,h6,h7,h8,h9,h10⟩
def inR (lo hi v:Int):Bool:=decide (lo≤v)&&decide (v≤hi)
theorem Qki {lo hi v:Int}:inR lo hi v=true↔lo≤v∧v≤hi:=by unfold inR;rw [Bool.and_eq_true,decide_eq_true_eq,decide_eq_true_eq]
def Zdf:List Int→List Int→Bool
 | _,[]=>true
 | seen,x::r=>(inR 1 8 x&&!(decide (x∈seen)))&&Zdf (seen++[x]) r
def Qpk (p:List Int):Bool:=decide (1≤p.length)&&(decide (p.length≤10)&&(decide (List.getD p 0 0=1)&&Zdf [] p))
theorem Zer {l:List Int} {i:Nat} (h:i<l.length):l.take (i+1)=l.take i++[l[i]]:=List.take_succ_eq_append_getElem h
theorem Zlj (n:Nat) (p:List Int) (h6:p.length≤1000000000):∀ (k m i:Nat),i+k=p.length→k<m →
  ∃ e:IV,Qs4 n m p p (p.length:Int) (i:Int)=some ((e,()),())∧(!(IV.is e 222))=Zdf (p.take i) (p.drop i)
 | k,0,i,_,h=>by omega
 | 0,m+1,i,hk,h=>by
  refine ⟨IV.nil,?_,?_⟩
  ·show Qwi (Qs4 n m) p p (p.length:Int) (i:Int)=_
   unfold Qwi
   rw [cdn (by omega)]
  ·rw [List.drop_eq_nil_of_le (by omega)];rfl
 | k+1,m+1,i,hk,h=>by
  have hi:i<p.length:=by omega
  have e:Qs4 n (m+1) p p (p.length:Int) (i:Int)=bif inR 1 8 p[i]&&!(decide (p[i]∈p.take i)) then Qs4 n m p p (p.length:Int) ((i+1:Nat):Int) else some ((IV.mk 222 [.int .i64 (i:Int)],()),()):=by
   show Qwi (Qs4 n m) p p (p.length:Int) (i:Int)=_
   unfold Qwi
   simp only [Zab]
   rw [cdp (by omega),cdp (by omega),cdp (by omega),Qk9,Qkm hi,List.drop_zero,Zes _ _ (by rw [List.length_take];omega),Qqh (by omega)]
   dsimp only [Option.bind_some]
   rw [cdp (show (0:Int)≤(i:Int) by omega),cdp (show (i:Int)≤(p.length:Int) by omega)]
   generalize p[i]=x
   by_cases h1:x<1
   ·rw [cdp h1]
    have:inR 1 8 x=false:=by unfold inR;rw [decide_eq_false (by omega)];rfl
    rw [this];rfl
   ·rw [cdn h1]
    by_cases h2:x>8
    ·rw [cdp h2]
     have:inR 1 8 x=false:=by unfold inR;rw [decide_eq_false (show ¬ x≤8 by omega),Bool.and_false]
     rw [this];rfl
    ·rw [cdn h2]
     have:inR 1 8 x=true:=Qki.2 (by omega)
     rw [this]
     cases decide (x∈p.take i)<;>rfl
  rw [e,List.drop_eq_getElem_cons hi]
  cases hc:(inR 1 8 p[i]&&!(decide (p[i]∈p.take i))) with
  | true=>
   obtain ⟨e',h1,h2⟩:=Zlj n p h6 k m (i+1) (by omega) (by omega)
   refine ⟨e',h1,?_⟩
   rw [h2,Zer hi]
   conv=>rhs;unfold Zdf
   rw [hc];rfl
  | false=>
   refine ⟨_,rfl,?_⟩
   unfold Zdf
   rw [hc]
   simp [IV.is]
theorem Zei (p:List Int) (h6:p.length≤1000000000):Z0v p=some ((Qpk p,()),()):=by
 unfold Z0v
 have key:∃ e:IV,Zfx p=some ((e,()),())∧(!(IV.is e 222))=Qpk p:=by
  show ∃ e:IV,Z6j (Qs4 1099511627776 1099511627776) p=_∧_
  unfold Z6j
  by_cases h1:p.length<1
  ·rw [cdp (by omega)]
   refine ⟨_,rfl,?_⟩
   unfold Qpk;rw [decide_eq_false (show ¬ 1≤p.length by omega)];simp [IV.is]
  rw [cdn (by omega)]
  by_cases h2:p.length>10
  ·rw [cdp (by omega)]
   refine ⟨_,rfl,?_⟩
   unfold Qpk;rw [decide_eq_false (show ¬ p.length≤10 by omega)];simp [IV.is]
  rw [cdn (by omega),cdp (by omega),Zd0]
  by_cases h3:List.getD p 0 0=1
  ·rw [if_pos h3]
   obtain ⟨e,a1,a2⟩:=Zlj 1099511627776 p h6 p.length 1099511627776 0 (by omega) (by omega)
   refine ⟨e,a1,?_⟩
   rw [a2,List.take_zero,List.drop_zero]
   unfold Qpk
   rw [decide_eq_true (show 1≤p.length by omega),decide_eq_true (show p.length≤10 by omega),decide_eq_true h3]
   simp
  ·rw [if_neg h3]
   refine ⟨_,rfl,?_⟩
   unfold Qpk;rw [decide_eq_false h3];simp [IV.is]
 obtain ⟨e,h1,h2⟩:=key
 rw [h1]
 dsimp only [Option.bind_some]
 rw [h2]
theorem Qpp (lo hi:Int) (l:List Int) (h6:l.length≤1000):Qp1 lo hi l=some ((l.all (inR lo hi),()),()):=by
 unfold Qp1
 rw [Zfj l _ (fun x=>!(inR lo hi x)) (fun x=>?_) (by omega)]
 ·dsimp only [Option.bind_some]
  congr 3
  rw [Bool.eq_iff_iff]
  simp
 ·dsimp only
  unfold Z81
  by_cases h:x<lo
  ·rw [cdp h]
   have:inR lo hi x=false:=by unfold inR;rw [decide_eq_false (by omega)];rfl
   rw [this];rfl
  ·rw [cdn h]
   dsimp only [Option.bind_some]
   congr 2
   unfold inR
   rw [decide_eq_true (show lo≤x by omega),Bool.true_and,← decide_not]
   exact decide_eq_decide.2 (by omega)
def eb:ByteArray:=⟨#[]⟩
def Qvq (m:Qk7):Bool:=
 if m.1=2 then (inR 0 1073741824 m.ep&&inR 0 1073741824 m.ag)&&(Qpk m.pa&&(inR 0 1000000 m.lo&&eqM m (m.1,m.2.1,m.2.2.1,m.2.2.2.1,m.2.2.2.2.1,m.2.2.2.2.2.1,m.2.2.2.2.2.2.1,m.2.2.2.2.2.2.2.1,0,eb)))
 else if m.1=5 then (inR 0 1073741824 m.ep&&inR 0 1073741824 m.ag)&&(Qpk m.pa&&(inR 0 1000000 m.hi&&eqM m (m.1,m.2.1,m.2.2.1,m.2.2.2.1,m.2.2.2.2.1,m.2.2.2.2.2.1,m.2.2.2.2.2.2.1,0,m.2.2.2.2.2.2.2.2.1,eb)))
 else if m.1=7 then inR 1 1000000 m.lo&&(decide ((m.tx.size:Int)≤12)&&eqM m (m.1,m.2.1,m.2.2.1,m.2.2.2.1,0,0,[],m.2.2.2.2.2.2.2.1,0,m.2.2.2.2.2.2.2.2.2))
 else if m.1=8∨m.1=9 then decide (m.lo≤m.hi)&&((inR 1 1000000 m.lo&&inR 1 1000000 m.hi)&&eqM m (m.1,m.2.1,m.2.2.1,m.2.2.2.1,0,0,[],m.2.2.2.2.2.2.2.1,m.2.2.2.2.2.2.2.2.1,eb))
 else eqM m (m.1,m.2.1,m.2.2.1,m.2.2.2.1,0,0,[],0,0,eb)
def Zhn (m:Qk7):Bool:=inR 1 9 m.1&&((inR 1 8 m.2.1&&inR 1 8 m.2.2.1)&&((m.2.1 != m.2.2.1)&&(inR 1 1073741824 m.2.2.2.1&&Qvq m)))
theorem Ztb (p:Int→Bool) (a:Int):[a].all p=p a:=by simp
theorem Zs9 (p:Int→Bool) (a b:Int):[a,b].all p=(p a&&p b):=by simp
theorem Zsk:inR 0 1000000 0=true:=by decide
theorem Zi1 (m:Qk7) (h6:m.pa.length≤1000000000):Z9c m=some ((Qvq m,()),()):=by
 have hs:∀ b:Qk7,b.pa.length≤1000000000→Qqb m b=some ((eqM m b,()),()):=fun b hb=>Zka m b h6 hb
 have hp:Z0v m.2.2.2.2.2.2.1=some ((Qpk m.pa,()),()):=Zei m.pa h6
 have h6':m.2.2.2.2.2.2.1.length≤1000000000:=h6
 unfold Z9c Zjm Qvq
 dsimp only [Option.bind_some]
 simp only [ceq]
 by_cases k2:m.1=2
 ·simp only [if_pos k2]
  rw [Qpp _ _ _ (by simp),hp,Qpp _ _ _ (by simp),hs _ (by simpa [Qk7.pa] using h6')]
  simp only [Option.bind_some,Z4o,Zs9,Zsk,Bool.and_true]
  rfl
 by_cases k5:m.1=5
 ·have e2:¬ m.1=2:=k2
  simp only [if_pos k5,if_neg e2]
  rw [Qpp _ _ _ (by simp),hp,Qpp _ _ _ (by simp),hs _ (by simpa [Qk7.pa] using h6')]
  simp only [Option.bind_some,Z4o,Zs9,Zsk,Bool.true_and]
  rfl
 by_cases k7:m.1=7
 ·simp only [if_pos k7,if_neg k2,if_neg k5]
  rw [Qpp _ _ _ (by simp),hs _ (by simp [Qk7.pa])]
  simp only [Option.bind_some,Z4o,Ztb]
  rfl
 by_cases k8:m.1=8
 ·simp only [if_pos k8,if_neg k2,if_neg k5,if_neg k7,if_pos (show m.1=8∨m.1=9 from Or.inl k8)]
  rw [Qpp _ _ _ (by simp),hs _ (by simp [Qk7.pa])]
  simp only [Option.bind_some,Z4o,Zs9]
  rfl
 by_cases k9:m.1=9
 ·simp only [if_pos k9,if_neg k2,if_neg k5,if_neg k7,if_neg k8,if_pos (show m.1=8∨m.1=9 from Or.inr k9)]
  rw [Qpp _ _ _ (by simp),hs _ (by simp [Qk7.pa])]
  simp only [Option.bind_some,Z4o,Zs9]
  rfl
 ·simp only [if_neg k2,if_neg k5,if_neg k7,if_neg k8,if_neg k9,if_neg (show ¬ (m.1=8∨m.1=9) from fun h=>h.elim k8 k9)]
  rw [hs _ (by simp [Qk7.pa])]
  simp only [Option.bind_some]
  rfl
theorem Zmk (m:Qk7) (h6:m.pa.length≤1000000000):Zjk m=some ((Zhn m,()),()):=by
 unfold Zjk
 rw [Qpp _ _ _ (by simp),Qpp _ _ _ (by simp),Qpp _ _ _ (by simp),Zi1 m h6]
 simp only [Option.bind_some,Z4o,Ztb,Zs9]
 rfl
end Go.PE
