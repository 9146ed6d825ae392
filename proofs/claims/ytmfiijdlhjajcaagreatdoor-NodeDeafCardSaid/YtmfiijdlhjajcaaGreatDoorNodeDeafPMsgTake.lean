/-
  Plain lemmas on the functions.
  Conditions: none.
-/
import Derived.Test.YtmfiijdlhjajcaaGreatDoorNodeDeafPMsgCode
set_option linter.unusedVariables false
set_option linter.unusedSimpArgs false
set_option maxRecDepth 20000
namespace Go.PE
theorem Qow (x:Int) (r:List Int) (h:0≤x∧x≤1073741824):Qmh (some (Zek x++r))=(x.toNat,some r):=by
 unfold Qmh Zek
 simp only
 rw [Zoc _ _ (by omega)]
 simp only [List.drop_left]
theorem Zeg:∀ (p acc r:List Int),(∀ x∈p,0≤x∧x≤1073741824)→Qrr p.length (some (Zde p++r)) acc=(acc++p,some r)
 | [],acc,r,_=>by simp [Qrr,Zde]
 | x::p,acc,r,h=>by
  have hx:=h x (List.mem_cons_self ..)
  show Qrr p.length (Qmh (some ((Zek x++Zde p)++r))).2 (acc++[((Qmh (some ((Zek x++Zde p)++r))).1:Int)])=_
  rw [List.append_assoc,Qow _ _ hx]
  simp only
  rw [Zeg p _ r (fun y hy=>h y (List.mem_cons_of_mem _ hy)),Int.toNat_of_nonneg hx.1,List.append_assoc];rfl
theorem Zlz (t:ByteArray) (r:List Int) (h:t.size≤1000):Zj7 (some (Zc8 (Qvz t)++r))=(t,some r):=by
 unfold Zj7
 simp only
 rw [Zrr _ _ (by rw [Qrp];omega)]
 simp only [List.drop_left,Zkj]
theorem Z8e (m:Qk7) (h:OkM m) (r:List Int):Zra (body m++r)=(m,some r):=by
 have h1:=h.kd;have h2:=h.fr;have h3:=h.to;have h4:=h.inc;have h5:=h.ep;have h6:=h.ag;have h7:=h.pl;have h8:=h.pa;have h9:=h.lo;have h10:=h.hi;have h11:=h.tx
 obtain ⟨kd,fr,to,inc,ep,ag,pa,lo,hi,tx⟩:=m
 simp only [Qk7.kd,Qk7.fr,Qk7.to,Qk7.inc,Qk7.ep,Qk7.ag,Qk7.pa,Qk7.lo,Qk7.hi,Qk7.tx] at h1 h2 h3 h4 h5 h6 h7 h8 h9 h10 h11
 have e:body (kd,fr,to,inc,ep,ag,pa,lo,hi,tx)++r =
   Zek kd++(Zek fr++(Zek to++(Zek inc++(Zek ep++(Zek ag++(Zek (pa.length:Int)++(Zde pa++(Zek lo++(Zek hi++(Zc8 (Qvz tx)++r)))))))))):=by
  unfold body Zbx
  rw [Zc3,Zc3]
  simp only [Zde,List.append_nil,List.append_assoc,Qk7.kd,Qk7.fr,Qk7.to,Qk7.inc,Qk7.ep,Qk7.ag,Qk7.pa,Qk7.lo,Qk7.hi,Qk7.tx]
 rw [e]
 unfold Zra
 dsimp only
 rw [Qow kd _ (by omega)];dsimp only
 rw [Qow fr _ (by omega)];dsimp only
 rw [Qow to _ (by omega)];dsimp only
 rw [Qow inc _ (by omega)];dsimp only
 rw [Qow ep _ (by omega)];dsimp only
 rw [Qow ag _ (by omega)];dsimp only
 rw [Qow (pa.length:Int) _ (by omega)];dsimp only
 rw [Qkl,if_neg (by omega),Zeg pa [] _ (fun x hx=>by have:=h8 x hx;omega)]
 unfold Zir
 dsimp only
 rw [Qow lo _ (by omega)];dsimp only
 rw [Qow hi _ (by omega)];dsimp only
 rw [Zlz tx r (by omega)];dsimp only
 rw [Int.toNat_of_nonneg (by omega),Int.toNat_of_nonneg (by omega),Int.toNat_of_nonneg (by omega),Int.toNat_of_nonneg (by omega),Int.toNat_of_nonneg (by omega),Int.toNat_of_nonneg (by omega),Int.toNat_of_nonneg (by omega),Int.toNat_of_nonneg (by omega)]
 rfl
def Z67 (b:List Int):Option Qk7:=
 if b.length<4 then none else
 match Zra (b.take (b.length - 4)) with
 | (m,some _)=>if Qtk m=b then some m else none
 | (_,none)=>none
theorem Zgy {m:Qk7} (h:4≤(Qtk m).length):Zg9 m=true:=by
 unfold Qtk at h
 split at h
 ·assumption
 ·simp at h
theorem Zhg {m:Qk7} (h:Zg9 m=true):Z67 (Qtk m)=some m:=by
 have e:Qtk m=body m++Z0n (Zj8 (body m)):=by unfold Qtk;rw [if_pos h]
 unfold Z67
 have el:(Qtk m).length=(body m).length+4:=by rw [e,List.length_append,Z1w]
 have e2:(Qtk m).take ((Qtk m).length - 4)=body m++[]:=by
  rw [el,e,show (body m).length+4 - 4=(body m).length by omega,List.take_left,List.append_nil]
 rw [e2,Z8e m (Qz1 h),if_neg (by omega)]
 simp only
 rw [if_pos trivial]
theorem Z98 {b:List Int} {m:Qk7} (h:Z67 b=some m):Zg9 m=true∧b=Qtk m:=by
 unfold Z67 at h
 split at h
 ·cases h
 ·rename_i hl
  split at h
  ·split at h
   ·rename_i h2
    have h3:_=m:=Option.some.inj h
    subst h3
    exact ⟨Zgy (by rw [h2];omega),h2.symm⟩
   ·cases h
  ·cases h
theorem Ztc {a b:Qk7} (ha:Zg9 a=true) (h:Qtk a=Qtk b):a=b:=by
 have h1:=Zhg ha
 have hb:Zg9 b=true:=Zgy (by
  rw [← h];unfold Qtk;rw [if_pos ha,List.length_append,Z1w];omega)
 have h2:=Zhg hb
 rw [h,h2] at h1
 exact (Option.some.inj h1).symm
theorem Zp7 {a b:Qk7} {r:List Int} (ha:Zg9 a=true) (hb:Zg9 b=true) (h:Qtk a++r=Qtk b):a=b∧r=[]:=by
 have ea:Qtk a=body a++Z0n (Zj8 (body a)):=by unfold Qtk;rw [if_pos ha]
 have eb:Qtk b=body b++Z0n (Zj8 (body b)):=by unfold Qtk;rw [if_pos hb]
 have h1:=Z8e a (Qz1 ha) (Z0n (Zj8 (body a))++r)
 have h2:=Z8e b (Qz1 hb) (Z0n (Zj8 (body b)))
 rw [← List.append_assoc,← ea,h,eb,h2] at h1
 have e:b=a:=congrArg Prod.fst h1
 subst e
 refine ⟨rfl,?_⟩
 have:=congrArg List.length h
 rw [List.length_append] at this
 exact List.eq_nil_of_length_eq_zero (by omega)
theorem Zt6 {m:Qk7} (h:Zg9 m=true) (k:Nat) (hk:k<(Qtk m).length):Z67 ((Qtk m).take k)=none:=by
 cases ht:Z67 ((Qtk m).take k) with
 | none=>rfl
 | some a=>
  obtain ⟨h1,h2⟩:=Z98 ht
  have h3:Qtk a++(Qtk m).drop k=Qtk m:=by rw [← h2,List.take_append_drop]
  have h4:=(Zp7 h1 h h3).2
  have:=congrArg List.length h4
  rw [List.length_drop,List.length_nil] at this
  omega
theorem Zsq {m:Qk7} (h:Zg9 m=true) (x:Int):Z67 (Qtk m++[x])=none:=by
 cases ht:Z67 (Qtk m++[x]) with
 | none=>rfl
 | some a=>
  obtain ⟨h1,h2⟩:=Z98 ht
  have h4:=(Zp7 h h1 h2).2
  cases h4
theorem Zsu {m:Qk7} (h:Zg9 m=true) (i:Nat) (hi:i<(Qtk m).length) (y:Int) (hy:0≤y∧y<256) (hn:List.getD (Qtk m) i 0≠y):Z67 ((Qtk m).set i y)=none:=by
 cases ht:Z67 ((Qtk m).set i y) with
 | none=>rfl
 | some a=>
  exfalso
  obtain ⟨h1,h2⟩:=Z98 ht
  have em:Qtk m=body m++Z0n (Zj8 (body m)):=by unfold Qtk;rw [if_pos h]
  have ea:Qtk a=body a++Z0n (Zj8 (body a)):=by unfold Qtk;rw [if_pos h1]
  have hne:Qtk a≠Qtk m:=by
   intro e
   rw [← h2] at e
   apply hn
   have h5:List.getD ((Qtk m).set i y) i 0=y:=by
    rw [List.getD_eq_getElem?_getD,List.getElem?_set_self hi];rfl
   rw [e] at h5;exact h5
  by_cases hb:i<(body m).length
  ·have h3:body a++Z0n (Zj8 (body a))=(body m).set i y++Z0n (Zj8 (body m)):=by
    rw [← ea,← h2,em,List.set_append_left _ _ hb]
   have hlen:(body a).length=((body m).set i y).length:=by
    have:=congrArg List.length h3
    rw [List.length_append,List.length_append,Z1w,Z1w] at this
    omega
   obtain ⟨h4,h5⟩:=List.append_inj h3 hlen
   have h6:=Zqy (Zkz (Z96 a)) (Zkz (Z96 m)) h5
   rw [h4] at h6
   have h7:=Zqv (Z96 m) hb hy h6
   apply hn
   rw [em,← h7]
   simp only [List.getD_eq_getElem?_getD,List.getElem?_append_left hb]
  ·have h3:body a++Z0n (Zj8 (body a))=body m++(Z0n (Zj8 (body m))).set (i - (body m).length) y:=by
    rw [← ea,← h2,em,List.set_append_right _ _ (by omega)]
   have h4:=Z8e a (Qz1 h1) (Z0n (Zj8 (body a)))
   rw [h3,Z8e m (Qz1 h)] at h4
   have e:m=a:=congrArg Prod.fst h4
   subst e
   exact hne rfl
theorem Zql {R:Type} (i:DecidableEq R) (a:Option R):@Qav R i a a=a:=if_pos rfl
def Zs5:Qk7:=Zje
def Zpa (o:Option Qk7):(Qk7 × Bool × Unit) × Unit:=
 match o with
 | some m=>((m,true,()),())
 | none=>((Zs5,false,()),())
theorem Zn1 (b:List Int) (hb:Qk9 b) (hl:b.length≤1000000000):Zcm b=some (Zpa (Z67 b)):=by
 unfold Zcm Z3c Z67
 by_cases h4:b.length<4
 ·rw [cdp (by omega),if_pos h4];rfl
 rw [cdn (by omega),if_neg h4,Qsk (by omega) (by omega),Z9t,cdp (by omega),cdp (by omega)]
 have e1:((b.length:Int) - 4).toNat=b.length - 4:=by omega
 rw [e1,List.drop_zero]
 obtain ⟨s',h1,h2⟩:=Zpx (b.take (b.length - 4)) (Z84 hb _) (by rw [List.length_take];omega)
 rw [h1]
 have h3:=Zrc (b.take (b.length - 4))
 generalize Zra (b.take (b.length - 4))=q at *
 obtain ⟨m,o⟩:=q
 simp only at h2 h3
 dsimp only [Option.bind_some]
 rw [Zo6 m (by omega)]
 dsimp only [Option.bind_some]
 rw [Zpy _ _ (by have:=Zlg m;omega) hl]
 cases o with
 | none=>
  obtain ⟨a,ha⟩:=h2.is'
  rw [ha]
  simp only [IV.is,beq_self_eq_true,cond_true]
  rfl
 | some l=>
  obtain ⟨h5,h6⟩:=h2.is'
  rw [h6]
  simp only [IV.is,cond_false,Option.bind_some]
  have hd:(List.isEmpty (Qtk m))=true→decide (Qtk m=b)=false:=by
   intro he
   rw [List.isEmpty_iff] at he
   rw [decide_eq_false]
   intro e
   rw [he] at e
   rw [← e] at h4
   simp at h4
  cases hem:List.isEmpty (Qtk m) with
  | true=>
   rw [hd hem]
   have hd':=hd hem
   rw [decide_eq_false_iff_not] at hd'
   simp only [nt,nf,cond_true,cond_false]
   rw [Zql,if_neg hd']
   rfl
  | false=>
   simp only [nt,nf,cond_true,cond_false]
   by_cases he:Qtk m=b
   ·rw [decide_eq_true he,if_pos he];rfl
   ·rw [decide_eq_false he,if_neg he];rfl
end Go.PE
