/-
  Plain lemmas on the functions.
  Conditions: none.
-/
import Derived.Test.YtmfiijdlhjajcaaGreatDoorNodeResumesPPairRef2
set_option linter.unusedVariables false
set_option linter.unusedSimpArgs false
set_option maxRecDepth 20000
namespace Go.PE
theorem Z9i (n:Nat) (l:List Kid) (h6:l.length≤1000000000):∀ (k m i:Nat),i+k=l.length→k<m→Qmd n m l l (i:Int)=some ((true,()),())
 | k,0,i,_,h=>by omega
 | 0,m+1,i,hk,h=>by
  show Qme (Qmd n m) l l (i:Int)=_
  unfold Qme
  rw [cdn (by omega)]
 | k+1,m+1,i,hk,h=>by
  show Qme (Qmd n m) l l (i:Int)=_
  unfold Qme
  rw [cdp (by omega),ct (idx (by omega)),ct (idx (by omega)),beq_self_eq_true,beq_self_eq_true,beq_self_eq_true,Qrh (by omega)]
  exact Z9i n l h6 k m (i+1) (by omega) (by omega)
theorem Zoo (l:List Kid) (h6:l.length≤1000000000):Qv1 l l=some ((true,()),()):=by
 show Qql (Qmd 1099511627776 1099511627776) l l=_
 unfold Qql
 rw [Zj4 rfl]
 exact Z9i 1099511627776 l h6 l.length 1099511627776 0 (by omega) (by omega)
theorem Z7m (n:Nat) (l:List Qnf) (h6:l.length≤1000000000):∀ (k m i:Nat),i+k=l.length→k<m→Qlq n m l l (i:Int)=some ((true,()),())
 | k,0,i,_,h=>by omega
 | 0,m+1,i,hk,h=>by
  show Qlk (Qlq n m) l l (i:Int)=_
  unfold Qlk
  rw [cdn (by omega)]
 | k+1,m+1,i,hk,h=>by
  show Qlk (Qlq n m) l l (i:Int)=_
  unfold Qlk
  rw [cdp (by omega),ct (idx (by omega)),ct (idx (by omega)),beq_self_eq_true,Zd5,Qrh (by omega)]
  exact Z7m n l h6 k m (i+1) (by omega) (by omega)
theorem Zhb (l:List Qnf) (h6:l.length≤1000000000):Qqf l l=some ((true,()),()):=by
 show Qox (Qlq 1099511627776 1099511627776) l l=_
 unfold Qox
 rw [Zj4 rfl]
 exact Z7m 1099511627776 l h6 l.length 1099511627776 0 (by omega) (by omega)
theorem Z9y (n:Nat) (l:List Evt) (h6:l.length≤1000000000):∀ (k m i:Nat),i+k=l.length→k<m→Qlb n m l l (i:Int)=some ((true,()),())
 | k,0,i,_,h=>by omega
 | 0,m+1,i,hk,h=>by
  show Qla (Qlb n m) l l (i:Int)=_
  unfold Qla
  rw [cdn (by omega)]
 | k+1,m+1,i,hk,h=>by
  show Qla (Qlb n m) l l (i:Int)=_
  unfold Qla
  rw [cdp (by omega),ct (idx (by omega)),ct (idx (by omega)),beq_self_eq_true,beq_self_eq_true,beq_self_eq_true,beq_self_eq_true,Zd5,Qrh (by omega)]
  exact Z9y n l h6 k m (i+1) (by omega) (by omega)
theorem Zo8 (l:List Evt) (h6:l.length≤1000000000):Qsi l l=some ((true,()),()):=by
 show Qof (Qlb 1099511627776 1099511627776) l l=_
 unfold Qof
 rw [Zj4 rfl]
 exact Z9y 1099511627776 l h6 l.length 1099511627776 0 (by omega) (by omega)
structure NSm (n:Zio):Prop where
 path:n.2.2.2.1.2.2.2.2.2.2.1.length≤10
 kids:n.2.2.2.1.2.2.2.2.2.2.2.2.2.2.2.2.length≤8
 feed:FSm n.2.2.2.2.1
theorem Zot (n:Zio) (h:NSm n):Qr1 n n=some ((true,()),()):=by
 have hp:=h.path
 have hk:=h.kids
 obtain ⟨_,h1,h2,h3⟩:=h.feed
 obtain ⟨on,inc,name,⟨id,ti,now,par,pinc,grand,path,ep,born,asked,til,step,kids⟩,⟨nx,top,ring,win,log,tr,du⟩,bad⟩:=n
 dsimp only at hp hk h1 h2 h3
 have ht:∀ t:Tie,t.2.2.2.2.2.2.1.length≤10→t.2.2.2.2.2.2.2.2.2.2.2.2.length≤8→Qro t t=some ((true,()),()):=by
  intro t a b
  unfold Qro
  simp only [beq_self_eq_true,cond_true]
  rw [Zm3 _ _ (by show t.2.2.2.2.2.2.1.length≤_;omega) (by show t.2.2.2.2.2.2.1.length≤_;omega),decide_eq_true rfl]
  dsimp only [Option.bind_some]
  rw [cond_true,Zoo _ (by show t.2.2.2.2.2.2.2.2.2.2.2.2.length≤_;omega)];rfl
 have hf:∀ f:Qnq,f.2.2.1.length≤6→f.2.2.2.1.length≤1000→f.2.2.2.2.1.length≤10000000→Qqt f f=some ((true,()),()):=by
  intro f a b c
  unfold Qqt
  simp only [beq_self_eq_true,cond_true]
  rw [Zhb _ (by omega)]
  dsimp only [Option.bind_some]
  rw [cond_true,Zhb _ (by show f.2.2.2.1.length≤_;omega)]
  dsimp only [Option.bind_some]
  rw [cond_true,Zo8 _ (by show f.2.2.2.2.1.length≤_;omega)]
  rfl
 unfold Qr1
 simp only [beq_self_eq_true,cond_true,Zd5]
 rw [ht _ hp hk]
 dsimp only [Option.bind_some]
 rw [cond_true,hf _ h1 h2 h3]
 rfl
theorem NOk.nsm {N:Int} {n:Zio} (h:NOk N n):NSm n:=⟨h.tie.path,h.tie.kids.len,h.feed.sm⟩
end Go.PE
