/-
  Plain lemmas on the functions.
  Conditions: none.
-/
import Derived.Test.YtmfiijdlhjajcaaGreatDoorNodeDownPProgNode2
set_option linter.unusedVariables false
set_option linter.unusedSimpArgs false
set_option maxRecDepth 20000
namespace Go.PE
theorem Zll (n:Nat) (n':Zbs) (mm:Qk7) (nts:List (Int × Int)) (hl:nts.length≤1000):∀ (k m i:Nat) (acc:List Qk7),i+k=nts.length→k<m→acc.length≤10000+i →
  Qql n m (nts.length:Int) (i:Int) n'.1 n'.2.1 n'.2.2.1 n'.2.2.2.1.1 n'.2.2.2.1.2.1 n'.2.2.2.1.2.2.1 n'.2.2.2.1.2.2.2.1 n'.2.2.2.1.2.2.2.2.1 n'.2.2.2.1.2.2.2.2.2.1 n'.2.2.2.1.2.2.2.2.2.2.1 n'.2.2.2.1.2.2.2.2.2.2.2.1 n'.2.2.2.1.2.2.2.2.2.2.2.2.1 n'.2.2.2.1.2.2.2.2.2.2.2.2.2.1 n'.2.2.2.1.2.2.2.2.2.2.2.2.2.2.1 n'.2.2.2.1.2.2.2.2.2.2.2.2.2.2.2.1 n'.2.2.2.1.2.2.2.2.2.2.2.2.2.2.2.2 n'.2.2.2.2.1.1 n'.2.2.2.2.1.2.1 n'.2.2.2.2.1.2.2.1 n'.2.2.2.2.1.2.2.2.1 n'.2.2.2.2.1.2.2.2.2.1 n'.2.2.2.2.1.2.2.2.2.2.1 n'.2.2.2.2.1.2.2.2.2.2.2 n'.2.2.2.2.2 mm.1 mm.2.1 mm.2.2.1 mm.2.2.2.1 mm.2.2.2.2.1 mm.2.2.2.2.2.1 mm.2.2.2.2.2.2.1 mm.2.2.2.2.2.2.2.1 mm.2.2.2.2.2.2.2.2.1 mm.2.2.2.2.2.2.2.2.2 acc nts=some ((acc++(nts.drop i).map (ntM n'.2.2.2.1 mm.fr),()),())
 | k,0,i,acc,_,h,_=>by omega
 | 0,m+1,i,acc,hk,h,ha=>by
  show Qs8 (Qql n m) (nts.length:Int) (i:Int) n'.1 n'.2.1 n'.2.2.1 n'.2.2.2.1.1 n'.2.2.2.1.2.1 n'.2.2.2.1.2.2.1 n'.2.2.2.1.2.2.2.1 n'.2.2.2.1.2.2.2.2.1 n'.2.2.2.1.2.2.2.2.2.1 n'.2.2.2.1.2.2.2.2.2.2.1 n'.2.2.2.1.2.2.2.2.2.2.2.1 n'.2.2.2.1.2.2.2.2.2.2.2.2.1 n'.2.2.2.1.2.2.2.2.2.2.2.2.2.1 n'.2.2.2.1.2.2.2.2.2.2.2.2.2.2.1 n'.2.2.2.1.2.2.2.2.2.2.2.2.2.2.2.1 n'.2.2.2.1.2.2.2.2.2.2.2.2.2.2.2.2 n'.2.2.2.2.1.1 n'.2.2.2.2.1.2.1 n'.2.2.2.2.1.2.2.1 n'.2.2.2.2.1.2.2.2.1 n'.2.2.2.2.1.2.2.2.2.1 n'.2.2.2.2.1.2.2.2.2.2.1 n'.2.2.2.2.1.2.2.2.2.2.2 n'.2.2.2.2.2 mm.1 mm.2.1 mm.2.2.1 mm.2.2.2.1 mm.2.2.2.2.1 mm.2.2.2.2.2.1 mm.2.2.2.2.2.2.1 mm.2.2.2.2.2.2.2.1 mm.2.2.2.2.2.2.2.2.1 mm.2.2.2.2.2.2.2.2.2 acc nts=_
  unfold Qs8
  rw [cdn (by omega),List.drop_eq_nil_of_le (by omega)];simp
 | k+1,m+1,i,acc,hk,h,ha=>by
  show Qs8 (Qql n m) (nts.length:Int) (i:Int) n'.1 n'.2.1 n'.2.2.1 n'.2.2.2.1.1 n'.2.2.2.1.2.1 n'.2.2.2.1.2.2.1 n'.2.2.2.1.2.2.2.1 n'.2.2.2.1.2.2.2.2.1 n'.2.2.2.1.2.2.2.2.2.1 n'.2.2.2.1.2.2.2.2.2.2.1 n'.2.2.2.1.2.2.2.2.2.2.2.1 n'.2.2.2.1.2.2.2.2.2.2.2.2.1 n'.2.2.2.1.2.2.2.2.2.2.2.2.2.1 n'.2.2.2.1.2.2.2.2.2.2.2.2.2.2.1 n'.2.2.2.1.2.2.2.2.2.2.2.2.2.2.2.1 n'.2.2.2.1.2.2.2.2.2.2.2.2.2.2.2.2 n'.2.2.2.2.1.1 n'.2.2.2.2.1.2.1 n'.2.2.2.2.1.2.2.1 n'.2.2.2.2.1.2.2.2.1 n'.2.2.2.2.1.2.2.2.2.1 n'.2.2.2.2.1.2.2.2.2.2.1 n'.2.2.2.2.1.2.2.2.2.2.2 n'.2.2.2.2.2 mm.1 mm.2.1 mm.2.2.1 mm.2.2.2.1 mm.2.2.2.2.1 mm.2.2.2.2.2.1 mm.2.2.2.2.2.2.1 mm.2.2.2.2.2.2.2.1 mm.2.2.2.2.2.2.2.2.1 mm.2.2.2.2.2.2.2.2.2 acc nts=_
  have hi:i<nts.length:=by omega
  unfold Qs8 Qtm
  rw [cdp (by omega),ct (idx (by omega)),ct (idx (by omega)),Qk9,Qkl hi]
  dsimp only [Option.bind_some]
  rw [cbp (by omega),Qr9 (by omega)]
  refine Eq.trans (Zll n n' mm nts hl k m (i+1) _ (by omega) (by omega) (by rw [List.length_append,List.length_singleton];omega)) ?_
  rw [List.drop_eq_getElem_cons hi,List.map_cons,List.append_assoc];rfl
theorem Zlx (n q:Nat) (hq:2000<q) (n':Zbs) (mm:Qk7) (its:List Qnb) (nts:List (Int × Int)) (hl:nts.length≤1000) (hl2:its.length≤1000):∀ (k m i:Nat) (acc:List Qk7),i+k=its.length→k<m→acc.length≤i →
  Qsa q m (its.length:Int) (i:Int) n'.1 n'.2.1 n'.2.2.1 n'.2.2.2.1.1 n'.2.2.2.1.2.1 n'.2.2.2.1.2.2.1 n'.2.2.2.1.2.2.2.1 n'.2.2.2.1.2.2.2.2.1 n'.2.2.2.1.2.2.2.2.2.1 n'.2.2.2.1.2.2.2.2.2.2.1 n'.2.2.2.1.2.2.2.2.2.2.2.1 n'.2.2.2.1.2.2.2.2.2.2.2.2.1 n'.2.2.2.1.2.2.2.2.2.2.2.2.2.1 n'.2.2.2.1.2.2.2.2.2.2.2.2.2.2.1 n'.2.2.2.1.2.2.2.2.2.2.2.2.2.2.2.1 n'.2.2.2.1.2.2.2.2.2.2.2.2.2.2.2.2 n'.2.2.2.2.1.1 n'.2.2.2.2.1.2.1 n'.2.2.2.2.1.2.2.1 n'.2.2.2.2.1.2.2.2.1 n'.2.2.2.2.1.2.2.2.2.1 n'.2.2.2.2.1.2.2.2.2.2.1 n'.2.2.2.2.1.2.2.2.2.2.2 n'.2.2.2.2.2 mm.1 mm.2.1 mm.2.2.1 mm.2.2.2.1 mm.2.2.2.2.1 mm.2.2.2.2.2.1 mm.2.2.2.2.2.2.1 mm.2.2.2.2.2.2.2.1 mm.2.2.2.2.2.2.2.2.1 mm.2.2.2.2.2.2.2.2.2 acc nts its=some ((acc++(its.drop i).map (itM n'.2.2.2.1 mm.fr)++nts.map (ntM n'.2.2.2.1 mm.fr),()),())
 | k,0,i,acc,_,h,_=>by omega
 | 0,m+1,i,acc,hk,h,ha=>by
  show Qs9 (Qsa q m) (Qql q q) (its.length:Int) (i:Int) n'.1 n'.2.1 n'.2.2.1 n'.2.2.2.1.1 n'.2.2.2.1.2.1 n'.2.2.2.1.2.2.1 n'.2.2.2.1.2.2.2.1 n'.2.2.2.1.2.2.2.2.1 n'.2.2.2.1.2.2.2.2.2.1 n'.2.2.2.1.2.2.2.2.2.2.1 n'.2.2.2.1.2.2.2.2.2.2.2.1 n'.2.2.2.1.2.2.2.2.2.2.2.2.1 n'.2.2.2.1.2.2.2.2.2.2.2.2.2.1 n'.2.2.2.1.2.2.2.2.2.2.2.2.2.2.1 n'.2.2.2.1.2.2.2.2.2.2.2.2.2.2.2.1 n'.2.2.2.1.2.2.2.2.2.2.2.2.2.2.2.2 n'.2.2.2.2.1.1 n'.2.2.2.2.1.2.1 n'.2.2.2.2.1.2.2.1 n'.2.2.2.2.1.2.2.2.1 n'.2.2.2.2.1.2.2.2.2.1 n'.2.2.2.2.1.2.2.2.2.2.1 n'.2.2.2.2.1.2.2.2.2.2.2 n'.2.2.2.2.2 mm.1 mm.2.1 mm.2.2.1 mm.2.2.2.1 mm.2.2.2.2.1 mm.2.2.2.2.2.1 mm.2.2.2.2.2.2.1 mm.2.2.2.2.2.2.2.1 mm.2.2.2.2.2.2.2.2.1 mm.2.2.2.2.2.2.2.2.2 acc nts its=_
  unfold Qs9
  rw [cdn (by omega),List.drop_eq_nil_of_le (by omega),List.map_nil,List.append_nil]
  have:=Zll q n' mm nts hl nts.length q 0 acc (by omega) (by omega) (by omega)
  rw [List.drop_zero] at this
  exact this
 | k+1,m+1,i,acc,hk,h,ha=>by
  show Qs9 (Qsa q m) (Qql q q) (its.length:Int) (i:Int) n'.1 n'.2.1 n'.2.2.1 n'.2.2.2.1.1 n'.2.2.2.1.2.1 n'.2.2.2.1.2.2.1 n'.2.2.2.1.2.2.2.1 n'.2.2.2.1.2.2.2.2.1 n'.2.2.2.1.2.2.2.2.2.1 n'.2.2.2.1.2.2.2.2.2.2.1 n'.2.2.2.1.2.2.2.2.2.2.2.1 n'.2.2.2.1.2.2.2.2.2.2.2.2.1 n'.2.2.2.1.2.2.2.2.2.2.2.2.2.1 n'.2.2.2.1.2.2.2.2.2.2.2.2.2.2.1 n'.2.2.2.1.2.2.2.2.2.2.2.2.2.2.2.1 n'.2.2.2.1.2.2.2.2.2.2.2.2.2.2.2.2 n'.2.2.2.2.1.1 n'.2.2.2.2.1.2.1 n'.2.2.2.2.1.2.2.1 n'.2.2.2.2.1.2.2.2.1 n'.2.2.2.2.1.2.2.2.2.1 n'.2.2.2.2.1.2.2.2.2.2.1 n'.2.2.2.2.1.2.2.2.2.2.2 n'.2.2.2.2.2 mm.1 mm.2.1 mm.2.2.1 mm.2.2.2.1 mm.2.2.2.2.1 mm.2.2.2.2.2.1 mm.2.2.2.2.2.2.1 mm.2.2.2.2.2.2.2.1 mm.2.2.2.2.2.2.2.2.1 mm.2.2.2.2.2.2.2.2.2 acc nts its=_
  have hi:i<its.length:=by omega
  unfold Qs9 Qtm
  rw [cdp (by omega),ct (idx (by omega)),ct (idx (by omega)),Qk9,Qkl hi]
  dsimp only [Option.bind_some]
  rw [cbp (by omega),Qr9 (by omega)]
  refine Eq.trans (Zlx n q hq n' mm its nts hl hl2 k m (i+1) _ (by omega) (by omega) (by rw [List.length_append,List.length_singleton];omega)) ?_
  rw [List.drop_eq_getElem_cons hi,List.map_cons]
  simp only [List.append_assoc,List.singleton_append,List.cons_append];rfl
theorem Z9o (ring:List Qnb) (top:Int):∀ (k:Nat) (n:Int) (a:List Qnb) (b:List (Int × Int)),(Z0z ring top k n a b).1.length≤a.length+k∧(Z0z ring top k n a b).2.length≤b.length+k
 | 0,n,a,b=>⟨Nat.le_refl _,Nat.le_refl _⟩
 | k+1,n,a,b=>by
  unfold Z0z
  split
  ·exact ⟨Nat.le_add_right _ _,Nat.le_add_right _ _⟩
  ·split
   ·rename_i i _
    have:=Z9o ring top k (n+1) (a++[i]) b
    rw [List.length_append,List.length_singleton] at this;omega
   ·have:=Z9o ring top k (n+1) a (Zoq b n)
    have h2:=Zlh b n
    omega
theorem Zec (f:Qni) (lo hi:Int):(Qx8 f lo hi).1.length≤8∧(Qx8 f lo hi).2.length≤8:=by
 unfold Qx8
 split
 ·simp
 ·have:=Z9o f.2.2.1 (min hi (f.1 - 1)) 8 lo [] []
  simp at this;exact this
theorem Zem (t:Tie) (f:Qni) (m:Qk7):(Qy8 t f m).length≤16:=by
 unfold Qy8
 have:=Zec f m.lo m.hi
 split
 ·split
  ·rw [List.length_append,List.length_map,List.length_map];omega
  ·simp
 ·simp
theorem Zn3 {n':Zbs} (hk:KOk n'.2.2.2.1.2.2.2.2.2.2.2.2.2.2.2.2) (hf:FOk n'.2.2.2.2.1) {mm:Qk7} (h1:1≤mm.lo∧mm.lo≤1000000) (h2:mm.hi≤1000000):Z4e n' mm=some ((Qy8 n'.2.2.2.1 n'.2.2.2.2.1 mm,()),()):=by
 have key:∀ q,100000<q→Qzm (Qsa q q) n' mm=some ((Qy8 n'.2.2.2.1 n'.2.2.2.2.1 mm,()),()):=by
  intro q hq
  unfold Qzm Qy8
  rw [show h12 (g3 n')=n'.2.2.2.1.2.2.2.2.2.2.2.2.2.2.2.2 from rfl,Zih hk,show mm.2.1=mm.fr from rfl]
  dsimp only [Option.bind_some]
  cases hfk:Qug n'.2.2.2.1.2.2.2.2.2.2.2.2.2.2.2.2 mm.fr with
  | none=>rfl
  | some k=>
   dsimp only
   rw [nt,cond_false,show g3 mm=mm.inc from rfl,Z9x]
   by_cases a:k.2.1=mm.inc
   ·rw [if_pos a,if_pos a,show g4 n'=n'.2.2.2.2.1 from rfl,show g7 mm=mm.lo from rfl,show g8 mm=mm.hi from rfl,Zmh hf _ _ h1 h2]
    dsimp only [Option.bind_some]
    have hl:=Zec n'.2.2.2.2.1 mm.lo mm.hi
    have:=Zlx 0 q (by omega) n' mm (Qx8 n'.2.2.2.2.1 mm.lo mm.hi).1 (Qx8 n'.2.2.2.2.1 mm.lo mm.hi).2 (by omega) (by omega) (Qx8 n'.2.2.2.2.1 mm.lo mm.hi).1.length q 0 [] (by omega) (by omega) (by simp)
    rw [List.drop_zero,List.nil_append] at this
    exact this
   ·rw [if_neg a,if_neg a]
 exact key 1099511627776 (by decide)
theorem Zhc (t:Tie) (m:Qk7) (lo:Int):(Qsz t m lo).2.length≤1:=by
 have c1:∀ t:Tie,(Z4a t m lo).2.length≤1:=by
  intro t
  obtain ⟨id,inc,now,par,pinc,grand,path,ep,born,asked,til,step,kids⟩:=t
  obtain ⟨kd,fr,to,mi,me,ag,pa,l,hi,tx⟩:=m
  rw [Z4a]
  split
  ·split<;>simp
  ·split
   ·rw [Qv0]
    split
    ·simp
    ·split
     ·simp
     ·split<;>simp
   ·split
    ·split
     ·simp
     ·split<;>simp
    ·split
     ·split<;>simp
     ·split
      ·split
       ·simp
       ·split
        ·simp
        ·split<;>simp
      ·split<;>simp
 obtain ⟨id,inc,now,par,pinc,grand,path,ep,born,asked,til,step,kids⟩:=t
 obtain ⟨kd,fr,to,mi,me,ag,pa,l,hi,tx⟩:=m
 rw [Qsz]
 split
 ·simp
 ·split
  ·exact c1 _
  ·exact c1 _
theorem Znz {N:Int} {n:Zbs} (h:NOk N n) (hN:N+1≤562949953421312) {b:List Int} (hb:Qki b) (hl:b.length≤1000000000) {m:Qk7} (ht:Zf0 b=some m) (hto:m.to=n.2.2.2.1.1):Qtl n b=some (((Zd5 n m).1,(Zd5 n m).2,()),()):=by
 have hmay:=(Zmi ht).1
 have hok:=Z4w hmay
 have hm:=hok.msm
 have hnext:=h.feed.next
 have hc:=Znx h hm hN
 have hkd:m.kd=8→1≤m.lo:=by
  intro e
  unfold Zg4 at hmay
  simp only [Bool.and_eq_true] at hmay
  have hf:=hmay.2.2.2.2
  unfold Qw5 at hf
  have e':m.1=8:=e
  simp only [e'] at hf
  simp at hf
  exact (Qkn.1 hf.2.1.1).1
 unfold Qtl
 rw [Zqj h.nsm]
 dsimp only [Option.bind_some]
 rw [h.on,nt,cond_false,Zdg b hb hl,ht,show Zqw (some m)=((m,true,()),()) from rfl]
 dsimp only [Option.bind_some]
 rw [nt,cond_false,Zgl (show m.2.2.1=(g3 n).1 from hto)]
 have e1:(if 1>(g4 n).1 then 1 else (g4 n).1)=max n.2.2.2.2.1.1 1:=by show (if 1>n.2.2.2.2.1.1 then 1 else n.2.2.2.2.1.1)=_;split<;>omega
 rw [e1,show g3 n=n.2.2.2.1 from rfl,Zoi h.tie hN hm]
 dsimp only [Option.bind_some]
 have hT:=Zbk h.tie hm (max n.2.2.2.2.1.1 1) hN
 have hlen:=Zhc n.2.2.2.1 m (max n.2.2.2.2.1.1 1)
 generalize hr:Qsz n.2.2.2.1 m (max n.2.2.2.2.1.1 1)=r at *
 have hx:∀ f:Qni,(u4 (u3 n r.1) f)=(n.1,n.2.1,n.2.2.1,r.1,f,n.2.2.2.2.2):=fun f=>rfl
 have hfd:Qzv (u3 n r.1) m (g3 n.2.2.2.1)=some ((Qwf r.1 n.2.2.2.2.1 m n.2.2.2.1.2.2.2.1,()),()):=Zp2 (n:=(u3 n r.1)) h.feed hm _
 have hf2:=Zev (t:=r.1) h.feed (m:=m) n.2.2.2.1.2.2.2.1
 have hext:=Zgo r.1 n.2.2.2.2.1 m n.2.2.2.1.2.2.2.1
 have htw:=Zqj (n:=(n.1,n.2.1,n.2.2.1,r.1,Qwf r.1 n.2.2.2.2.1 m n.2.2.2.1.2.2.2.1,n.2.2.2.2.2)) ⟨hT.path,hT.kids.len,hf2.sm⟩
 have hdn:=Zq1 (n':=(n.1,n.2.1,n.2.2.1,r.1,Qwf r.1 n.2.2.2.2.1 m n.2.2.2.1.2.2.2.1,n.2.2.2.2.2)) hext hf2.sm hT.kids.len
 have hdl:=Zkc r.1 hT.kids.len (Ze5 n.2.2.2.2.1 (Qwf r.1 n.2.2.2.2.1 m n.2.2.2.1.2.2.2.1))
 have hnl:(Ze5 n.2.2.2.2.1 (Qwf r.1 n.2.2.2.2.1 m n.2.2.2.1.2.2.2.1)).length≤10000000:=by unfold Ze5;rw [List.length_drop];have:=hf2.sm.log;omega
 have ec:Zd5 n m=((n.1,n.2.1,n.2.2.1,r.1,Qwf r.1 n.2.2.2.2.1 m n.2.2.2.1.2.2.2.1,n.2.2.2.2.2),(r.2++(if m.kd=8 then Qy8 r.1 n.2.2.2.2.1 m else []))++dnM r.1 (Ze5 n.2.2.2.2.1 (Qwf r.1 n.2.2.2.2.1 m n.2.2.2.1.2.2.2.1))):=by unfold Zd5;rw [hr]
 rw [ec,show m.1=m.kd from rfl,ceq,hfd]
 by_cases k8:m.kd=8
 ·have hsl:=Zem r.1 n.2.2.2.2.1 m
  rw [if_pos k8,if_pos k8,show Z4e (u3 n r.1) m=some ((Qy8 r.1 n.2.2.2.2.1 m,()),()) from Zn3 (n':=(u3 n r.1)) hT.kids h.feed ⟨hkd k8,hm.lo.2⟩ hm.hi.2]
  dsimp only [Option.bind_some]
  rw [cbp (by omega),hx,htw]
  dsimp only [Option.bind_some]
  rw [show g4 n=n.2.2.2.2.1 from rfl,hdn]
  dsimp only [Option.bind_some]
  rw [cbp (by rw [List.length_append];show _+(dnM r.1 _).length≤_;omega)]
 ·rw [if_neg k8,if_neg k8,List.append_nil]
  dsimp only [Option.bind_some]
  rw [hx,htw]
  dsimp only [Option.bind_some]
  rw [show g4 n=n.2.2.2.2.1 from rfl,hdn]
  dsimp only [Option.bind_some]
  rw [cbp (by show _+(dnM r.1 _).length≤_;omega)]
end Go.PE
