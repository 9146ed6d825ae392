/-
  Plain lemmas on the functions.
  Conditions: none.
-/
import Derived.Test.YtmfiijdlhjajcaaGreatDoorNodeDownPPickNum
set_option linter.unusedVariables false
set_option linter.unusedSimpArgs false
set_option maxRecDepth 20000
namespace Go.PE
theorem Zd3 (n:Nat) (p:List Int) (h6:p.length≤1000000000):∀ (k m i:Nat),i+k=p.length→k<m →
  Qmn n m p (i:Int)=some ((Zbp (p.take i) (p.drop i),()),())
 | k,0,i,_,h=>by omega
 | 0,m+1,i,hk,h=>by
  show Qmm (Qmn n m) p (i:Int)=_
  unfold Qmm
  rw [cdn (by omega),List.drop_eq_nil_of_le (by omega)];rfl
 | k+1,m+1,i,hk,h=>by
  have hi:i<p.length:=by omega
  show Qmm (Qmn n m) p (i:Int)=_
  unfold Qmm
  have c1:decide ((0:Int)≤(i:Int))=true:=decide_eq_true (by omega)
  have c2:decide ((i:Int)<(p.length:Int))=true:=decide_eq_true (by omega)
  have c3:decide ((i:Int)≤(p.length:Int))=true:=decide_eq_true (by omega)
  simp only [c1,c2,c3,Bool.and_self,cond_true]
  rw [Qk9,Qkl hi,List.drop_zero,Zpt _ _ (by rw [List.length_take];omega),Qr9 (by omega)]
  dsimp only [Option.bind_some]
  rw [Zd3 n p h6 k m (i+1) (by omega) (by omega),List.drop_eq_getElem_cons hi,Zdi hi]
  conv=>rhs;unfold Zbp
  generalize p[i]=x
  by_cases h1:x<1
  ·rw [cdp h1]
   have:inR 1 8 x=false:=by unfold inR;rw [decide_eq_false (by omega)];rfl
   rw [this];rfl
  ·rw [cdn h1]
   by_cases h2:x>8
   ·rw [cdp h2]
    have:inR 1 8 x=false:=by unfold inR;rw [decide_eq_false (show ¬ x≤8 by omega),Bool.and_false]
    rw [this];rfl
   ·rw [cdn h2]
    have:inR 1 8 x=true:=Qkn.2 (by omega)
    rw [this]
    cases decide (x∈p.take i)<;>simp
theorem Z6c (p:List Int) (h6:p.length≤1000000000):Qo0 p=some ((Qos p,()),()):=by
 show Qqm (Qmn 1099511627776 1099511627776) p=_
 unfold Qqm Qos
 by_cases h1:p.length<1
 ·rw [cdp (by omega),decide_eq_false (show ¬ 1≤p.length by omega)];rfl
 rw [cdn (by omega)]
 by_cases h2:p.length>10
 ·rw [cdp (by omega),decide_eq_false (show ¬ p.length≤10 by omega)];simp
 rw [cdn (by omega),cdp (by omega),Z9x]
 by_cases h3:List.getD p 0 0=1
 ·rw [if_pos h3]
  have:=Zd3 1099511627776 p h6 p.length 1099511627776 0 (by omega) (by omega)
  rw [List.take_zero,List.drop_zero] at this
  rw [decide_eq_true (show 1≤p.length by omega),decide_eq_true (show p.length≤10 by omega),decide_eq_true h3]
  simp only [Bool.true_and]
  exact this
 ·rw [if_neg h3,decide_eq_false h3];simp
def Qm9 (p:List Int) (x:Int):List Int × Bool:=if Qos (p++[x])=true then (p++[x],true) else ([],false)
theorem Z15 (p:List Int) (x:Int) (h6:p.length≤100000000):Qmu p x=some (((Qm9 p x).1,(Qm9 p x).2,()),()):=by
 unfold Qmu Qm9
 rw [List.nil_append,cbp (by omega),cbp (by omega),Z6c _ (by rw [List.length_append];simp;omega)]
 dsimp only [Option.bind_some]
 cases Qos (p++[x])<;>rfl
theorem Zc7 (n:Nat):∀ (k m:Nat) (s:List Int × Int) (p:List Int),Z8y s→Qos p=true→k<m→k≤1000000 →
  ∃ (q:List Int) (s':List Int × Int),Qll n m (k:Int) s.1 s.2 p=some ((q,()),(s',()))∧Qos q=true∧Z8y s'
 | k,0,s,p,_,_,h,_=>by omega
 | 0,m+1,s,p,hs,hp,h,_=>by
  show ∃ q s',Qlk (Qll n m) ((0:Nat):Int) s.1 s.2 p=_∧_
  unfold Qlk
  rw [cdn (by omega)]
  exact ⟨p,s,rfl,hp,hs⟩
 | k+1,m+1,s,p,hs,hp,h,hm=>by
  show ∃ q s',Qlk (Qll n m) ((k+1:Nat):Int) s.1 s.2 p=_∧_
  unfold Qlk
  obtain ⟨r,s1,e,hr,h1⟩:=Qn8 hs 7 (by omega)
  have e0:s=(s.1,s.2):=rfl
  rw [e0] at e
  rw [cdp (by omega),e]
  dsimp only [Option.bind_some]
  rw [Z15 p _ (by have:=(Qof hp).1;omega)]
  dsimp only [Option.bind_some]
  have ek:IntKind.wrap .i64 (((k+1:Nat):Int) - 1)=(k:Int):=by rw [Qqd (by omega) (by omega)];omega
  unfold Qm9
  cases hq:Qos (p++[IntKind.wrap .i64 (2+(r:Int))]) with
  | true=>
   rw [if_pos rfl]
   rw [ek]
   exact Zc7 n k m s1 _ h1 hq (by omega) (by omega)
  | false=>
   rw [if_neg (by decide)]
   rw [ek]
   exact Zc7 n k m s1 _ h1 hp (by omega) (by omega)
theorem Zht {s:List Int × Int} (h:Z8y s):∃ (p:List Int) (s':List Int × Int),Qkh s=some ((p,()),(s',()))∧Qos p=true∧Z8y s':=by
 show ∃ p s',Qoy (Qll 1099511627776 1099511627776) s=_∧_
 unfold Qoy
 obtain ⟨r,s1,e,hr,h1⟩:=Qn8 h 4 (by omega)
 rw [e];dsimp only [Option.bind_some]
 exact Zc7 1099511627776 r 1099511627776 s1 [1] h1 (by decide) (by omega) (by omega)
def Zne (m:Qk7):Prop:=∀ x∈Zci m,0≤x∧x<128
noncomputable def Zhp (to fr:Int) (s:List Int × Int):Option ((Qk7 × Unit) × ((List Int × Int) × Unit)):=
 Option.bind (Qk5 s 9) fun (r2:(Int × Unit) × (Zcu × Unit))=>
 Option.bind (Qk5 r2.2.1 3) fun (r3:(Int × Unit) × (Zcu × Unit))=>
 bif (IntKind.wrap .i64 (1+r2.1.1))==2 then
  Option.bind (Qk5 r3.2.1 20) fun (r4:(Int × Unit) × (Zcu × Unit))=>
  Option.bind (Qk5 r4.2.1 25) fun (r5:(Int × Unit) × (Zcu × Unit))=>
  Option.bind (Qkh r5.2.1) fun (r6:((List Int) × Unit) × (Zcu × Unit))=>
  Option.bind (Qk5 r6.2.1 9) fun (r7:(Int × Unit) × (Zcu × Unit))=>
  some (((IntKind.wrap .i64 (1+r2.1.1),fr,to,IntKind.wrap .i64 (1+r3.1.1),r4.1.1,r5.1.1,r6.1.1,r7.1.1,0,(⟨#[]⟩:ByteArray)),()),(r7.2.1,()))
 else
 bif (IntKind.wrap .i64 (1+r2.1.1))==5 then
  Option.bind (Qk5 r3.2.1 20) fun (r8:(Int × Unit) × (Zcu × Unit))=>
  Option.bind (Qk5 r8.2.1 25) fun (r9:(Int × Unit) × (Zcu × Unit))=>
  Option.bind (Qkh r9.2.1) fun (r10:((List Int) × Unit) × (Zcu × Unit))=>
  Option.bind (Qk5 r10.2.1 12) fun (r11:(Int × Unit) × (Zcu × Unit))=>
  some (((IntKind.wrap .i64 (1+r2.1.1),fr,to,IntKind.wrap .i64 (1+r3.1.1),r8.1.1,r9.1.1,r10.1.1,0,r11.1.1,(⟨#[]⟩:ByteArray)),()),(r11.2.1,()))
 else
 bif (IntKind.wrap .i64 (1+r2.1.1))==7 then
  Option.bind (Qk5 r3.2.1 12) fun (r12:(Int × Unit) × (Zcu × Unit))=>
  Option.bind (Qlq r12.2.1) fun (r13:Zpp × (Zcu × Unit))=>
  some (((IntKind.wrap .i64 (1+r2.1.1),fr,to,IntKind.wrap .i64 (1+r3.1.1),0,0,[],IntKind.wrap .i64 (1+r12.1.1),0,r13.1.1),()),(r13.2.1,()))
 else
 bif (IntKind.wrap .i64 (1+r2.1.1))==8 then
  bif (IntKind.wrap .i64 (1+r2.1.1))==8 then
  Option.bind (Qk5 r3.2.1 9) fun (r14:(Int × Unit) × (Zcu × Unit))=>
  Option.bind (Qk5 r14.2.1 6) fun (r15:(Int × Unit) × (Zcu × Unit))=>
  some (((IntKind.wrap .i64 (1+r2.1.1),fr,to,IntKind.wrap .i64 (1+r3.1.1),0,0,[],IntKind.wrap .i64 (1+r14.1.1),IntKind.wrap .i64 ((IntKind.wrap .i64 (1+r14.1.1))+r15.1.1),(⟨#[]⟩:ByteArray)),()),(r15.2.1,()))
  else
  some (((IntKind.wrap .i64 (1+r2.1.1),fr,to,IntKind.wrap .i64 (1+r3.1.1),0,0,[],0,0,(⟨#[]⟩:ByteArray)),()),(r3.2.1,()))
 else
 bif (IntKind.wrap .i64 (1+r2.1.1))==9 then
  Option.bind (Qk5 r3.2.1 9) fun (r16:(Int × Unit) × (Zcu × Unit))=>
  Option.bind (Qk5 r16.2.1 6) fun (r17:(Int × Unit) × (Zcu × Unit))=>
  some (((IntKind.wrap .i64 (1+r2.1.1),fr,to,IntKind.wrap .i64 (1+r3.1.1),0,0,[],IntKind.wrap .i64 (1+r16.1.1),IntKind.wrap .i64 ((IntKind.wrap .i64 (1+r16.1.1))+r17.1.1),(⟨#[]⟩:ByteArray)),()),(r17.2.1,()))
 else
  some (((IntKind.wrap .i64 (1+r2.1.1),fr,to,IntKind.wrap .i64 (1+r3.1.1),0,0,[],0,0,(⟨#[]⟩:ByteArray)),()),(r3.2.1,()))
theorem Znr (s:List Int × Int) (to:Int):Qkp s to=Option.bind (Qk5 s 8) fun (r1:(Int × Unit) × (Zcu × Unit))=>
  bif (IntKind.wrap .i64 (1+r1.1.1))==to then Zhp to (IntKind.wrap .i64 (1+(Int.tmod to 8))) r1.2.1 else Zhp to (IntKind.wrap .i64 (1+r1.1.1)) r1.2.1:=rfl
theorem Zbu {m:Qk7} (h1:inR 1 9 m.1=true) (h2:inR 1 8 m.2.1=true) (h3:inR 1 8 m.2.2.1=true) (h4:m.2.1≠m.2.2.1) (h5:inR 1 1073741824 m.2.2.2.1=true) (h6:Qw5 m=true):Zg4 m=true:=by
 unfold Zg4;rw [h1,h2,h3,h5,h6,bne_iff_ne.2 h4];rfl
theorem Zh6 (to fr:Int) (hto:1≤to∧to≤8) (hfr:1≤fr∧fr≤8) (hne:fr≠to) {s:List Int × Int} (h:Z8y s) :
  ∃ (m:Qk7) (s':List Int × Int),Zhp to fr s=some ((m,()),(s',()))∧Zg4 m=true∧m.to=to∧Zne m∧Z8y s':=by
 unfold Zhp
 obtain ⟨k,s2,e2,hk,h2⟩:=Qn8 h 9 (by omega)
 rw [e2];dsimp only [Option.bind_some]
 obtain ⟨i,s3,e3,hi,h3⟩:=Qn8 h2 3 (by omega)
 rw [e3];dsimp only [Option.bind_some]
 rw [Qqd (x:=1+(k:Int)) (by omega) (by omega),Qqd (x:=1+(i:Int)) (by omega) (by omega)]
 have q1:inR 1 9 (1+(k:Int))=true:=Qkn.2 (by omega)
 have q2:inR 1 8 fr=true:=Qkn.2 hfr
 have q3:inR 1 8 to=true:=Qkn.2 hto
 have q5:inR 1 1073741824 (1+(i:Int))=true:=Qkn.2 (by omega)
 have Zl5:∀ (e a:Int) (p:List Int) (lo hi:Int) (tx:ByteArray),0≤e∧e<128→0≤a∧a<128→p.length≤10→(∀ x∈p,1≤x∧x≤8)→0≤lo∧lo<128→0≤hi∧hi<128→Zne (1+(k:Int),fr,to,1+(i:Int),e,a,p,lo,hi,tx):=by
  intro e a p lo hi tx a1 a2 a3 a4 a5 a6 x hx
  unfold Zci at hx
  simp only [List.mem_append,List.mem_cons,List.not_mem_nil,or_false,Qk7.kd,Qk7.fr,Qk7.to,Qk7.inc,Qk7.ep,Qk7.ag,Qk7.pa,Qk7.lo,Qk7.hi] at hx
  rcases hx with (hx | hx) | hx
  ·omega
  ·have:=a4 x hx;omega
  ·omega
 simp only [ceq]
 by_cases k2:1+(k:Int)=2
 ·rw [if_pos k2]
  obtain ⟨a,s4,e4,ha,h4⟩:=Qn8 h3 20 (by omega)
  rw [e4];dsimp only [Option.bind_some]
  obtain ⟨b,s5,e5,hb,h5⟩:=Qn8 h4 25 (by omega)
  rw [e5];dsimp only [Option.bind_some]
  obtain ⟨p,s6,e6,hp,h6⟩:=Zht h5
  rw [e6];dsimp only [Option.bind_some]
  obtain ⟨c,s7,e7,hc,h7⟩:=Qn8 h6 9 (by omega)
  rw [e7];dsimp only [Option.bind_some]
  refine ⟨_,s7,rfl,Zbu q1 q2 q3 hne q5 ?_,rfl,Zl5 _ _ _ _ _ _ (by omega) (by omega) (Qof hp).1 (Qof hp).2 (by omega) (by omega),h7⟩
  unfold Qw5
  rw [if_pos k2]
  simp only [Bool.and_eq_true,Qx2,Qkn,Qk7.ep,Qk7.ag,Qk7.pa,Qk7.lo]
  exact ⟨⟨by omega,by omega⟩,hp,by omega,rfl⟩
 rw [if_neg k2]
 by_cases k5:1+(k:Int)=5
 ·rw [if_pos k5]
  obtain ⟨a,s4,e4,ha,h4⟩:=Qn8 h3 20 (by omega)
  rw [e4];dsimp only [Option.bind_some]
  obtain ⟨b,s5,e5,hb,h5⟩:=Qn8 h4 25 (by omega)
  rw [e5];dsimp only [Option.bind_some]
  obtain ⟨p,s6,e6,hp,h6⟩:=Zht h5
  rw [e6];dsimp only [Option.bind_some]
  obtain ⟨c,s7,e7,hc,h7⟩:=Qn8 h6 12 (by omega)
  rw [e7];dsimp only [Option.bind_some]
  refine ⟨_,s7,rfl,Zbu q1 q2 q3 hne q5 ?_,rfl,Zl5 _ _ _ _ _ _ (by omega) (by omega) (Qof hp).1 (Qof hp).2 (by omega) (by omega),h7⟩
  unfold Qw5
  rw [if_neg k2,if_pos k5]
  simp only [Bool.and_eq_true,Qx2,Qkn,Qk7.ep,Qk7.ag,Qk7.pa,Qk7.hi]
  exact ⟨⟨by omega,by omega⟩,hp,by omega,rfl⟩
 rw [if_neg k5]
 by_cases k7:1+(k:Int)=7
 ·rw [if_pos k7]
  obtain ⟨a,s4,e4,ha,h4⟩:=Qn8 h3 12 (by omega)
  rw [e4];dsimp only [Option.bind_some]
  obtain ⟨t,s5,e5,ht,h5⟩:=Znl h4
  rw [e5];dsimp only [Option.bind_some]
  rw [Qqd (x:=1+(a:Int)) (by omega) (by omega)]
  refine ⟨_,s5,rfl,Zbu q1 q2 q3 hne q5 ?_,rfl,Zl5 _ _ _ _ _ _ (by omega) (by omega) (by simp) (by simp) (by omega) (by omega),h5⟩
  unfold Qw5
  rw [if_neg k2,if_neg k5,if_pos k7]
  simp only [Bool.and_eq_true,Qx2,Qkn,decide_eq_true_eq,Qk7.lo,Qk7.tx]
  refine ⟨?_,?_,?_⟩<;>first | omega | exact decide_eq_true (by omega) | rfl | trivial
 rw [if_neg k7]
 by_cases k8:1+(k:Int)=8
 ·rw [if_pos k8,if_pos k8]
  obtain ⟨a,s4,e4,ha,h4⟩:=Qn8 h3 9 (by omega)
  rw [e4];dsimp only [Option.bind_some]
  obtain ⟨b,s5,e5,hb,h5⟩:=Qn8 h4 6 (by omega)
  rw [e5];dsimp only [Option.bind_some]
  rw [Qqd (x:=1+(a:Int)) (by omega) (by omega),Qqd (x:=1+(a:Int)+(b:Int)) (by omega) (by omega)]
  refine ⟨_,s5,rfl,Zbu q1 q2 q3 hne q5 ?_,rfl,Zl5 _ _ _ _ _ _ (by omega) (by omega) (by simp) (by simp) (by omega) (by omega),h5⟩
  unfold Qw5
  rw [if_neg k2,if_neg k5,if_neg k7,if_pos (Or.inl k8)]
  simp only [Bool.and_eq_true,Qx2,Qkn,decide_eq_true_eq,Qk7.lo,Qk7.hi]
  refine ⟨?_,⟨?_,?_⟩,?_⟩<;>first | omega | exact decide_eq_true (by omega) | rfl | trivial
 rw [if_neg k8]
 by_cases k9:1+(k:Int)=9
 ·rw [if_pos k9]
  obtain ⟨a,s4,e4,ha,h4⟩:=Qn8 h3 9 (by omega)
  rw [e4];dsimp only [Option.bind_some]
  obtain ⟨b,s5,e5,hb,h5⟩:=Qn8 h4 6 (by omega)
  rw [e5];dsimp only [Option.bind_some]
  rw [Qqd (x:=1+(a:Int)) (by omega) (by omega),Qqd (x:=1+(a:Int)+(b:Int)) (by omega) (by omega)]
  refine ⟨_,s5,rfl,Zbu q1 q2 q3 hne q5 ?_,rfl,Zl5 _ _ _ _ _ _ (by omega) (by omega) (by simp) (by simp) (by omega) (by omega),h5⟩
  unfold Qw5
  rw [if_neg k2,if_neg k5,if_neg k7,if_pos (Or.inr k9)]
  simp only [Bool.and_eq_true,Qx2,Qkn,decide_eq_true_eq,Qk7.lo,Qk7.hi]
  refine ⟨?_,⟨?_,?_⟩,?_⟩<;>first | omega | exact decide_eq_true (by omega) | rfl | trivial
 rw [if_neg k9]
 refine ⟨_,s3,rfl,Zbu q1 q2 q3 hne q5 ?_,rfl,Zl5 _ _ _ _ _ _ (by omega) (by omega) (by simp) (by simp) (by omega) (by omega),h3⟩
 unfold Qw5
 rw [if_neg k2,if_neg k5,if_neg k7,if_neg (fun h=>h.elim k8 k9)]
 exact Qx2.2 rfl
theorem Zm4 {s:List Int × Int} (h:Z8y s) (to:Int) (hto:1≤to∧to≤8) :
  ∃ (m:Qk7) (s':List Int × Int),Qkp s to=some ((m,()),(s',()))∧Zg4 m=true∧m.to=to∧Zne m∧Z8y s':=by
 rw [Znr]
 obtain ⟨r,s1,e,hr,h1⟩:=Qn8 h 8 (by omega)
 rw [e];dsimp only [Option.bind_some]
 have et:Int.tmod to 8=to % 8:=Int.tmod_eq_emod_of_nonneg (by omega)
 rw [Qqd (x:=1+(r:Int)) (by omega) (by omega),et,Qqd (x:=1+to % 8) (by omega) (by omega),ceq]
 by_cases hc:1+(r:Int)=to
 ·rw [if_pos hc]
  exact Zh6 to _ hto (by omega) (by omega) h1
 ·rw [if_neg hc]
  exact Zh6 to _ hto (by omega) hc h1
end Go.PE
