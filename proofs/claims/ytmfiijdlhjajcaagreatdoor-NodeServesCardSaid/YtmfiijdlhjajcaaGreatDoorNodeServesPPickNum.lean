/-
  Plain lemmas on the functions.
  Conditions: none.
-/
import Derived.Test.YtmfiijdlhjajcaaGreatDoorNodeServesPMsgTake
set_option linter.unusedVariables false
set_option linter.unusedSimpArgs false
set_option maxRecDepth 20000
namespace Go.PE
theorem Zt5 {α:Type} {x y:Int} {a b:α} (h:x≠y):(bif !(x==y) then a else b)=a:=by rw [beq_eq_false_iff_ne.2 h];rfl
structure Zao (s:List Int × Int):Prop where
 by':Qkn s.1
 len:s.1.length≤1000000000
 at':0≤s.2∧s.2≤(s.1.length:Int)
theorem Qnl {s:List Int × Int} (h:Zao s) (m:Int) (hm:1≤m∧m≤1000) :
  ∃ (r:Nat) (s':List Int × Int),Qk5 s m=some (((r:Int),()),(s',()))∧(r:Int)<m∧Zao s':=by
 obtain ⟨hb,hl,ha⟩:=h
 obtain ⟨l,n⟩:=s
 simp only at hb hl ha
 unfold Qk5
 by_cases h1:n ≥ (l.length:Int)
 ·rw [cdp h1]
  exact ⟨0,(l,n),rfl,by omega,hb,hl,ha⟩
 ·rw [cdn h1,cdn (show ¬ m<1 by omega)]
  dsimp only
  rw [Qq3 (x:=n+1) (by omega) (by omega),Qq3 (x:=n+1 - 1) (by omega) (by omega),Zab,cdp (by omega),cdp (by omega),Zt5 (by omega)]
  have hx:=Zkx hb (i:=(n+1 - 1).toNat) (by omega)
  generalize List.getD l (n+1 - 1).toNat 0=x at *
  rw [Qq3 (x:=x) (by omega) (by omega),Int.tmod_eq_emod_of_nonneg hx.1]
  have h5:=Int.emod_nonneg x (show m≠0 by omega)
  have h6:=Int.emod_lt_of_pos x (show 0<m by omega)
  refine ⟨(x % m).toNat,(l,n+1),?_,by omega,hb,hl,by show 0≤n+1;omega,by show n+1≤(l.length:Int);omega⟩
  rw [Int.toNat_of_nonneg h5]
theorem Zs6 {l:List Int} (hb:Qkn l) (hl:l.length≤1000000000):Zao (l,0):=⟨hb,hl,by show (0:Int)≤0;omega,by show (0:Int)≤_;omega⟩
theorem Zpl {s:List Int × Int} (h:Zao s):∃ (t:ByteArray) (s':List Int × Int),Qm2 s=some ((t,()),(s',()))∧t.size≤12∧Zao s':=by
 obtain ⟨r,s',e,hr,hs⟩:=Qnl h 5 (by omega)
 unfold Qm2
 rw [e];dsimp only [Option.bind_some]
 rw [Zab,cdp (by omega),cdp (by omega),Zab,cdp (by omega),cdp (by omega),Qk9]
 refine ⟨_,s',rfl,?_,hs⟩
 have:r=0∨r=1∨r=2∨r=3∨r=4:=by omega
 rcases this with rfl | rfl | rfl | rfl | rfl<;>decide
end Go.PE
