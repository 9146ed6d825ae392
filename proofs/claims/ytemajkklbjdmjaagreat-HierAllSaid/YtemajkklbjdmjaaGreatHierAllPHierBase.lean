/-
  Plain lemmas on the functions.
  Conditions: none.
-/
import Derived.Test.YtemajkklbjdmjaaGreatHierAllPHierFun1
set_option linter.unusedVariables false
set_option linter.unusedSimpArgs false
set_option maxRecDepth 20000
namespace Go.PE
theorem begun9:pleachlaw9_begun=some ((true,()),()):=by kernel_rfl
def wb (w:Int) (i:Nat):Bool:=(IntKind.wrap .u8 ((BitVec.ofInt 8 (Int.fdiv w (2 ^ (min i 8))) &&& BitVec.ofInt 8 1).toNat))==1
theorem wb_def (w:Int) (i:Nat):((IntKind.wrap .u8 ((BitVec.ofInt 8 (Int.fdiv w (2 ^ (min i 8))) &&& BitVec.ofInt 8 1).toNat))==1)=wb w i:=rfl
theorem wb_ne (w:Int) (i:Nat):((IntKind.wrap .u8 ((BitVec.ofInt 8 (Int.fdiv w (2 ^ (min i 8))) &&& BitVec.ofInt 8 1).toNat)) != 1)=!wb w i:=rfl
theorem wb_all:∀ w:Fin 256,((∀ i:Fin 8,wb (w.val:Int) i.val=false)↔w.val=0):=by decide +kernel
theorem wb_none {w:Int} (h:0≤w∧w<256):(∀ i:Nat,i<8→wb w i=false)↔w=0:=by
 have:=wb_all ⟨w.toNat,by omega⟩
 have e:((w.toNat:Nat):Int)=w:=by omega
 simp only [e] at this
 constructor
 ·intro g
  have:=this.1 (fun i=>g i.val i.isLt)
  omega
 ·intro g i hi
  exact this.2 (by omega) ⟨i,hi⟩
theorem joinH_in {d:List (List Int)} {k:Nat} (hk:1≤k) {L:List (List Cl)} (h:HOk d k L) {id:Int} (hid:1≤id∧id≤8) :
  (∀ x,isIn (lowF (joinH d k L id)) x↔isIn (lowF L) x∨x=id)∧total (lowF (joinH d k L id))=total (lowF L)+(if 0≤homeF (lowF L) id then 0 else 1):=by
 unfold joinH
 by_cases hc:0≤homeF (lowF L) id
 ·rw [if_pos (.inr (.inr hc)),if_pos hc]
  have:=homeF_pos.1 hc
  exact ⟨fun x=>⟨.inl,fun hx=>hx.elim (fun h=>h) (fun e=>e▸this)⟩,rfl⟩
 ·rw [if_neg (by omega)]
  have hno:¬ isIn (lowF L) id:=fun hx=>hc (homeF_pos.2 hx)
  have hj:=joinF_clus (D:=eD d) hk (at_:=downF (eD d) id L) (id:=id) (by omega) (by omega) h.clus
  have hat:lowF L=[]∨0≤downF (eD d) id L∧downF (eD d) id L<((lowF L).length:Int):=by
   by_cases hn:L=[]
   ·left;rw [hn];rfl
   ·right
    obtain ⟨r,e,t,_⟩:=h.tower hk hn
    have:=downF_ok (r:=r) (cs:=lowF L) hk (by rw [← e];exact t) id hno
    rw [← e] at this
    exact this
  rw [(HOk.of hk hj.1 (hj.2.1 h.sized)).2]
  exact hj.2.2 hat
theorem leaveH_in {d:List (List Int)} {k:Nat} (hk:1≤k) {L:List (List Cl)} (h:HOk d k L) {id:Int} :
  (∀ x,isIn (lowF (leaveH d k L id)) x↔isIn (lowF L) x∧x≠id)∧total (lowF (leaveH d k L id))+(if 0≤homeF (lowF L) id then 1 else 0)=total (lowF L):=by
 unfold leaveH
 by_cases hc:homeF (lowF L) id<0
 ·rw [if_pos hc,if_neg (by omega)]
  have hno:¬ isIn (lowF L) id:=fun hx=>by have:=homeF_pos.2 hx;omega
  exact ⟨fun x=>⟨fun hx=>⟨hx,fun e=>hno (e▸hx)⟩,fun hx=>hx.1⟩,rfl⟩
 ·rw [if_neg hc]
  have hj:=leaveF_clus (D:=eD d) hk (id:=id) h.clus
  rw [(HOk.of hk hj.1 (hj.2.1 h.sized)).2]
  exact hj.2.2
theorem isIn_range {D:Int→Int→Int} {cs:List Cl} (h:Clus D cs) {x:Int} (hx:isIn cs x):1≤x∧x≤8:=by
 obtain ⟨c,hc,hm⟩:=hx
 exact (h.ris c hc).1.range hm
def inB (who:Int) (i:Nat) (x:Int):Prop:=1≤x∧x≤(i:Int)∧wb who (x - 1).toNat=true
theorem inB_next {who:Int} {i:Nat} (x:Int):inB who (i+1) x↔inB who i x∨(x=(i:Int)+1∧wb who i=true):=by
 unfold inB
 by_cases e:x=(i:Int)+1
 ·have:(x - 1).toNat=i:=by omega
  rw [this]
  constructor
  ·exact fun h=>.inr ⟨e,h.2.2⟩
  ·rintro (h | h)
   ·omega
   ·exact ⟨by omega,by omega,h.2⟩
 ·constructor
  ·exact fun h=>.inl ⟨h.1,by omega,h.2.2⟩
  ·rintro (h | h)
   ·exact ⟨h.1,by omega,h.2.2⟩
   ·exact absurd h.1 e
end Go.PE
