/-
  Plain lemmas on the functions.
  Conditions: none.
-/
import Derived.Test.YtmfiijdlhjajcaaGreatDoorNodeDeafPPairRef2
set_option linter.unusedVariables false
set_option linter.unusedSimpArgs false
set_option maxRecDepth 20000
namespace Go.PE
theorem Zao (n:Nat) (l:List Kid) (h6:l.length≤1000000000):∀ (k m i:Nat),i+k=l.length→k<m→Qm5 n m l l (i:Int)=some ((true,()),())
 | k,0,i,_,h=>by omega
 | 0,m+1,i,hk,h=>by
  show Qm9 (Qm5 n m) l l (i:Int)=_
  unfold Qm9
  rw [cdn (by omega)]
 | k+1,m+1,i,hk,h=>by
  show Qm9 (Qm5 n m) l l (i:Int)=_
  unfold Qm9
  rw [cdp (by omega),ct (idx (by omega)),ct (idx (by omega)),beq_self_eq_true,beq_self_eq_true,beq_self_eq_true,Qwl (by omega)]
  exact Zao n l h6 k m (i+1) (by omega) (by omega)
theorem Zqp (l:List Kid) (h6:l.length≤1000000000):Qv5 l l=some ((true,()),()):=by
 show Qqu (Qm5 1099511627776 1099511627776) l l=_
 unfold Qqu
 rw [Zni rfl]
 exact Zao 1099511627776 l h6 l.length 1099511627776 0 (by omega) (by omega)
theorem Z7q (n:Nat) (l:List Qtl) (h6:l.length≤1000000000):∀ (k m i:Nat),i+k=l.length→k<m→Qlc n m l l (i:Int)=some ((true,()),())
 | k,0,i,_,h=>by omega
 | 0,m+1,i,hk,h=>by
  show Qlh (Qlc n m) l l (i:Int)=_
  unfold Qlh
  rw [cdn (by omega)]
 | k+1,m+1,i,hk,h=>by
  show Qlh (Qlc n m) l l (i:Int)=_
  unfold Qlh
  rw [cdp (by omega),ct (idx (by omega)),ct (idx (by omega)),beq_self_eq_true,Zed,Qwl (by omega)]
  exact Z7q n l h6 k m (i+1) (by omega) (by omega)
theorem Zjh (l:List Qtl) (h6:l.length≤1000000000):Qqn l l=some ((true,()),()):=by
 show Qoy (Qlc 1099511627776 1099511627776) l l=_
 unfold Qoy
 rw [Zni rfl]
 exact Z7q 1099511627776 l h6 l.length 1099511627776 0 (by omega) (by omega)
theorem Zaj (n:Nat) (l:List Evt) (h6:l.length≤1000000000):∀ (k m i:Nat),i+k=l.length→k<m→Ql6 n m l l (i:Int)=some ((true,()),())
 | k,0,i,_,h=>by omega
 | 0,m+1,i,hk,h=>by
  show Ql5 (Ql6 n m) l l (i:Int)=_
  unfold Ql5
  rw [cdn (by omega)]
 | k+1,m+1,i,hk,h=>by
  show Ql5 (Ql6 n m) l l (i:Int)=_
  unfold Ql5
  rw [cdp (by omega),ct (idx (by omega)),ct (idx (by omega)),beq_self_eq_true,beq_self_eq_true,beq_self_eq_true,beq_self_eq_true,Zed,Qwl (by omega)]
  exact Zaj n l h6 k m (i+1) (by omega) (by omega)
theorem Zr2 (l:List Evt) (h6:l.length≤1000000000):Qsp l l=some ((true,()),()):=by
 show Qol (Ql6 1099511627776 1099511627776) l l=_
 unfold Qol
 rw [Zni rfl]
 exact Zaj 1099511627776 l h6 l.length 1099511627776 0 (by omega) (by omega)
structure NSm (n:Zlj):Prop where
 path:n.2.2.2.1.2.2.2.2.2.2.1.length≤10
 kids:n.2.2.2.1.2.2.2.2.2.2.2.2.2.2.2.2.length≤8
 feed:FSm n.2.2.2.2.1
theorem Zmv (n:Zlj) (h:NSm n):Qm1 n n=some ((true,()),()):=by
 have hp:=h.path
 have hk:=h.kids
 obtain ⟨_,h1,h2,h3⟩:=h.feed
 obtain ⟨on,inc,name,⟨id,ti,now,par,pinc,grand,path,ep,born,asked,til,step,kids⟩,⟨nx,top,ring,win,log,tr,du⟩,bad⟩:=n
 dsimp only at hp hk h1 h2 h3
 have ht:∀ t:Tie,t.2.2.2.2.2.2.1.length≤10→t.2.2.2.2.2.2.2.2.2.2.2.2.length≤8→Qrw t t=some ((true,()),()):=by
  intro t a b
  unfold Qrw
  simp only [beq_self_eq_true,cond_true]
  rw [Zoz _ _ (by show t.2.2.2.2.2.2.1.length≤_;omega) (by show t.2.2.2.2.2.2.1.length≤_;omega),decide_eq_true rfl]
  dsimp only [Option.bind_some]
  rw [cond_true,Zqp _ (by show t.2.2.2.2.2.2.2.2.2.2.2.2.length≤_;omega)];rfl
 have hf:∀ f:Quh,f.2.2.1.length≤6→f.2.2.2.1.length≤1000→f.2.2.2.2.1.length≤10000000→Qr6 f f=some ((true,()),()):=by
  intro f a b c
  unfold Qr6
  simp only [beq_self_eq_true,cond_true]
  rw [Zjh _ (by omega)]
  dsimp only [Option.bind_some]
  rw [cond_true,Zjh _ (by show f.2.2.2.1.length≤_;omega)]
  dsimp only [Option.bind_some]
  rw [cond_true,Zr2 _ (by show f.2.2.2.2.1.length≤_;omega)]
  rfl
 unfold Qm1
 simp only [beq_self_eq_true,cond_true,Zed]
 rw [ht _ hp hk]
 dsimp only [Option.bind_some]
 rw [cond_true,hf _ h1 h2 h3]
 rfl
theorem NOk.nsm {N:Int} {n:Zlj} (h:NOk N n):NSm n:=⟨h.tie.path,h.tie.kids.len,h.feed.sm⟩
end Go.PE
