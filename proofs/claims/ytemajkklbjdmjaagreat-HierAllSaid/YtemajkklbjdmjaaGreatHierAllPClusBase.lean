/-
  Plain lemmas on the functions.
  Conditions: none.
-/
import Derived.Test.YtemajkklbjdmjaaGreatHierAllPClusFun3
set_option linter.unusedVariables false
set_option linter.unusedSimpArgs false
set_option maxRecDepth 20000
namespace Go.PE
theorem wf_sl8' {N:Nat} {l:List Int} (h:wfTy (.sl N (.int .u8)) l):isBytes l:=fun x hx=>wf_u8.1 (h.2 x hx)
theorem least_is {x:Int} (h:0≤x∧x<256):∃ k:Nat,1≤k∧k≤3∧IntKind.wrap .i64 (1+(IntKind.wrap .i64 (Int.tmod x 3)))=(k:Int):=by
 rw [Int.tmod_eq_emod_of_nonneg h.1,wi64 (x:=x % 3) (by omega) (by omega),wi64 (by omega) (by omega)]
 exact ⟨(1+x % 3).toNat,by omega,by omega,by omega⟩
theorem groupF_total {D:Int→Int→Int} {k:Nat} (hk:1≤k) {l:List Int} (hl:Ris l):total (groupF D k l)=l.length:=by
 have key:∀ (n:Nat) (l:List Int),Ris l→l≠[]→l.length≤n→total ((grpF D k n l).map (ofF D))=l.length:=by
  intro n
  induction n with
  | zero=>intro l _ hn h;exact absurd (List.length_eq_zero_iff.1 (by omega)) hn
  | succ n ih=>
   intro l hl hn h
   unfold grpF
   by_cases hc:l.length≤3*k - 1
   ·rw [if_pos hc];unfold total ofF;simp
   ·rw [if_neg hc]
    obtain ⟨s1,s2,s3,s4,s5⟩:=splitF_short (D:=D) hk hl (by omega)
    have t:=(splitF_spec (D:=D) hk hl (by omega)).1
    have ia:=ih _ t.ra s1 (by omega)
    have ib:=ih _ t.rb s2 (by omega)
    unfold total at ia ib ⊢
    rw [List.map_append,List.map_append,List.sum_append_nat,ia,ib,s5]
 unfold groupF
 by_cases hn:l=[]
 ·rw [if_pos hn,hn];rfl
 ·rw [if_neg hn];exact key 8 l hl hn hl.le8
end Go.PE
