/-
  Plain lemmas on the functions.
  Conditions: none.
-/
import Derived.Test.YtemajkklbjdmjaaGreatHierAllPLoopsI
set_option linter.unusedVariables false
set_option linter.unusedSimpArgs false
set_option maxRecDepth 20000
namespace Go.PE
theorem ceqn' {α:Type} {x y:Int} {a b:α} (h:x≠y):(bif !(x==y) then a else b)=a:=by rw [beq_eq_false_iff_ne.2 h];rfl
structure PkOk (s:List Int × Int):Prop where
 by':isBytes s.1
 len:s.1.length≤1000000000
 at':0≤s.2∧s.2≤(s.1.length:Int)
theorem pk_num {s:List Int × Int} (h:PkOk s) (m:Int) (hm:1≤m∧m≤1000) :
  ∃ (r:Nat) (s':List Int × Int),pleachmade_Picks_Num s m=some (((r:Int),()),(s',()))∧(r:Int)<m∧PkOk s':=by
 obtain ⟨hb,hl,ha⟩:=h
 obtain ⟨l,n⟩:=s
 simp only at hb hl ha
 unfold pleachmade_Picks_Num
 by_cases h1:n ≥ (l.length:Int)
 ·rw [cdp h1]
  exact ⟨0,(l,n),rfl,by omega,hb,hl,ha⟩
 ·rw [cdn h1,cdn (show ¬ m<1 by omega)]
  dsimp only
  rw [wi64 (x:=n+1) (by omega) (by omega),wi64 (x:=n+1 - 1) (by omega) (by omega),cand,cdp (by omega),cdp (by omega),ceqn' (by omega)]
  have hx:=getD_byte hb (i:=(n+1 - 1).toNat) (by omega)
  generalize List.getD l (n+1 - 1).toNat 0=x at *
  rw [wi64 (x:=x) (by omega) (by omega),Int.tmod_eq_emod_of_nonneg hx.1]
  have h5:=Int.emod_nonneg x (show m≠0 by omega)
  have h6:=Int.emod_lt_of_pos x (show 0<m by omega)
  refine ⟨(x % m).toNat,(l,n+1),?_,by omega,hb,hl,by show 0≤n+1;omega,by show n+1≤(l.length:Int);omega⟩
  rw [Int.toNat_of_nonneg h5]
theorem pk_made {l:List Int} (hb:isBytes l) (hl:l.length≤1000000000):PkOk (l,0):=⟨hb,hl,by show (0:Int)≤0;omega,by show (0:Int)≤_;omega⟩
end Go.PE
