/-
  Plain lemmas on the functions.
  Conditions: none.
-/
import Derived.Test.YtmfiijdlhjajcaaGreatDoorNodeServesPPairRef2
set_option linter.unusedVariables false
set_option linter.unusedSimpArgs false
set_option maxRecDepth 20000
namespace Go.PE
theorem Zah (n:Nat) (l:List Kid) (h6:l.length≤1000000000):∀ (k m i:Nat),i+k=l.length→k<m→Qmn n m l l (i:Int)=some ((true,()),())
 | k,0,i,_,h=>by omega
 | 0,m+1,i,hk,h=>by
  show Qmp (Qmn n m) l l (i:Int)=_
  unfold Qmp
  rw [cdn (by omega)]
 | k+1,m+1,i,hk,h=>by
  show Qmp (Qmn n m) l l (i:Int)=_
  unfold Qmp
  rw [cdp (by omega),ct (idx (by omega)),ct (idx (by omega)),beq_self_eq_true,beq_self_eq_true,beq_self_eq_true,Qqh (by omega)]
  exact Zah n l h6 k m (i+1) (by omega) (by omega)
theorem Zpy (l:List Kid) (h6:l.length≤1000000000):Qvo l l=some ((true,()),()):=by
 show Qqk (Qmn 1099511627776 1099511627776) l l=_
 unfold Qqk
 rw [Zk0 rfl]
 exact Zah 1099511627776 l h6 l.length 1099511627776 0 (by omega) (by omega)
theorem Z80 (n:Nat) (l:List Qn4) (h6:l.length≤1000000000):∀ (k m i:Nat),i+k=l.length→k<m→Qlr n m l l (i:Int)=some ((true,()),())
 | k,0,i,_,h=>by omega
 | 0,m+1,i,hk,h=>by
  show Qlz (Qlr n m) l l (i:Int)=_
  unfold Qlz
  rw [cdn (by omega)]
 | k+1,m+1,i,hk,h=>by
  show Qlz (Qlr n m) l l (i:Int)=_
  unfold Qlz
  rw [cdp (by omega),ct (idx (by omega)),ct (idx (by omega)),beq_self_eq_true,Z9e,Qqh (by omega)]
  exact Z80 n l h6 k m (i+1) (by omega) (by omega)
theorem Zij (l:List Qn4) (h6:l.length≤1000000000):Qqp l l=some ((true,()),()):=by
 show Qpg (Qlr 1099511627776 1099511627776) l l=_
 unfold Qpg
 rw [Zk0 rfl]
 exact Z80 1099511627776 l h6 l.length 1099511627776 0 (by omega) (by omega)
theorem Zad (n:Nat) (l:List Evt) (h6:l.length≤1000000000):∀ (k m i:Nat),i+k=l.length→k<m→Qll n m l l (i:Int)=some ((true,()),())
 | k,0,i,_,h=>by omega
 | 0,m+1,i,hk,h=>by
  show Qlj (Qll n m) l l (i:Int)=_
  unfold Qlj
  rw [cdn (by omega)]
 | k+1,m+1,i,hk,h=>by
  show Qlj (Qll n m) l l (i:Int)=_
  unfold Qlj
  rw [cdp (by omega),ct (idx (by omega)),ct (idx (by omega)),beq_self_eq_true,beq_self_eq_true,beq_self_eq_true,beq_self_eq_true,Z9e,Qqh (by omega)]
  exact Zad n l h6 k m (i+1) (by omega) (by omega)
theorem Zpz (l:List Evt) (h6:l.length≤1000000000):Qt6 l l=some ((true,()),()):=by
 show Qoq (Qll 1099511627776 1099511627776) l l=_
 unfold Qoq
 rw [Zk0 rfl]
 exact Zad 1099511627776 l h6 l.length 1099511627776 0 (by omega) (by omega)
structure NSm (n:Zih):Prop where
 path:n.2.2.2.1.2.2.2.2.2.2.1.length≤10
 kids:n.2.2.2.1.2.2.2.2.2.2.2.2.2.2.2.2.length≤8
 feed:FSm n.2.2.2.2.1
theorem Zq8 (n:Zih) (h:NSm n):Qmk n n=some ((true,()),()):=by
 have hp:=h.path
 have hk:=h.kids
 obtain ⟨_,h1,h2,h3⟩:=h.feed
 obtain ⟨on,inc,name,⟨id,ti,now,par,pinc,grand,path,ep,born,asked,til,step,kids⟩,⟨nx,top,ring,win,log,tr,du⟩,bad⟩:=n
 dsimp only at hp hk h1 h2 h3
 have ht:∀ t:Tie,t.2.2.2.2.2.2.1.length≤10→t.2.2.2.2.2.2.2.2.2.2.2.2.length≤8→Qsc t t=some ((true,()),()):=by
  intro t a b
  unfold Qsc
  simp only [beq_self_eq_true,cond_true]
  rw [Zmz _ _ (by show t.2.2.2.2.2.2.1.length≤_;omega) (by show t.2.2.2.2.2.2.1.length≤_;omega),decide_eq_true rfl]
  dsimp only [Option.bind_some]
  rw [cond_true,Zpy _ (by show t.2.2.2.2.2.2.2.2.2.2.2.2.length≤_;omega)];rfl
 have hf:∀ f:Qo0,f.2.2.1.length≤6→f.2.2.2.1.length≤1000→f.2.2.2.2.1.length≤10000000→Qrr f f=some ((true,()),()):=by
  intro f a b c
  unfold Qrr
  simp only [beq_self_eq_true,cond_true]
  rw [Zij _ (by omega)]
  dsimp only [Option.bind_some]
  rw [cond_true,Zij _ (by show f.2.2.2.1.length≤_;omega)]
  dsimp only [Option.bind_some]
  rw [cond_true,Zpz _ (by show f.2.2.2.2.1.length≤_;omega)]
  rfl
 unfold Qmk
 simp only [beq_self_eq_true,cond_true,Z9e]
 rw [ht _ hp hk]
 dsimp only [Option.bind_some]
 rw [cond_true,hf _ h1 h2 h3]
 rfl
theorem NOk.nsm {N:Int} {n:Zih} (h:NOk N n):NSm n:=⟨h.tie.path,h.tie.kids.len,h.feed.sm⟩
end Go.PE
