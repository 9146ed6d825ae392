/-
  Plain lemmas on the functions.
  Conditions: none.
-/
import Derived.Test.YtmfiijdlhjajcaaGreatDoorNodeServesPMsgCode
set_option linter.unusedVariables false
set_option linter.unusedSimpArgs false
set_option maxRecDepth 20000
namespace Go.PE
theorem Qym (x:Int) (r:List Int) (h:0≤x∧x≤1073741824):Qrd (some (Zla x++r))=(x.toNat,some r):=by
 unfold Qrd Zla
 simp only
 rw [Zpj _ _ (by omega)]
 simp only [List.drop_left]
theorem Zie:∀ (p acc r:List Int),(∀ x∈p,0≤x∧x≤1073741824)→Z26 p.length (some (Zef p++r)) acc=(acc++p,some r)
 | [],acc,r,_=>by simp [Z26,Zef]
 | x::p,acc,r,h=>by
  have hx:=h x (List.mem_cons_self ..)
  show Z26 p.length (Qrd (some ((Zla x++Zef p)++r))).2 (acc++[((Qrd (some ((Zla x++Zef p)++r))).1:Int)])=_
  rw [List.append_assoc,Qym _ _ hx]
  simp only
  rw [Zie p _ r (fun y hy=>h y (List.mem_cons_of_mem _ hy)),Int.toNat_of_nonneg hx.1,List.append_assoc];rfl
theorem Zpw (t:ByteArray) (r:List Int) (h:t.size≤1000):Znm (some (Zfq (Qyl t)++r))=(t,some r):=by
 unfold Znm
 simp only
 rw [Zr0 _ _ (by rw [Qs5];omega)]
 simp only [List.drop_left,Zj5]
theorem Zq7 (m:Qk7) (h:OkM m) (r:List Int):Zqf (body m++r)=(m,some r):=by
 have h1:=h.kd;have h2:=h.fr;have h3:=h.to;have h4:=h.inc;have h5:=h.ep;have h6:=h.ag;have h7:=h.pl;have h8:=h.pa;have h9:=h.lo;have h10:=h.hi;have h11:=h.tx
 obtain ⟨kd,fr,to,inc,ep,ag,pa,lo,hi,tx⟩:=m
 simp only [Qk7.kd,Qk7.fr,Qk7.to,Qk7.inc,Qk7.ep,Qk7.ag,Qk7.pa,Qk7.lo,Qk7.hi,Qk7.tx] at h1 h2 h3 h4 h5 h6 h7 h8 h9 h10 h11
 have e:body (kd,fr,to,inc,ep,ag,pa,lo,hi,tx)++r =
   Zla kd++(Zla fr++(Zla to++(Zla inc++(Zla ep++(Zla ag++(Zla (pa.length:Int)++(Zef pa++(Zla lo++(Zla hi++(Zfq (Qyl tx)++r)))))))))):=by
  unfold body Ze6
  rw [Zje,Zje]
  simp only [Zef,List.append_nil,List.append_assoc,Qk7.kd,Qk7.fr,Qk7.to,Qk7.inc,Qk7.ep,Qk7.ag,Qk7.pa,Qk7.lo,Qk7.hi,Qk7.tx]
 rw [e]
 unfold Zqf
 dsimp only
 rw [Qym kd _ (by omega)];dsimp only
 rw [Qym fr _ (by omega)];dsimp only
 rw [Qym to _ (by omega)];dsimp only
 rw [Qym inc _ (by omega)];dsimp only
 rw [Qym ep _ (by omega)];dsimp only
 rw [Qym ag _ (by omega)];dsimp only
 rw [Qym (pa.length:Int) _ (by omega)];dsimp only
 rw [Qk9,if_neg (by omega),Zie pa [] _ (fun x hx=>by have:=h8 x hx;omega)]
 unfold Zqc
 dsimp only
 rw [Qym lo _ (by omega)];dsimp only
 rw [Qym hi _ (by omega)];dsimp only
 rw [Zpw tx r (by omega)];dsimp only
 rw [Int.toNat_of_nonneg (by omega),Int.toNat_of_nonneg (by omega),Int.toNat_of_nonneg (by omega),Int.toNat_of_nonneg (by omega),Int.toNat_of_nonneg (by omega),Int.toNat_of_nonneg (by omega),Int.toNat_of_nonneg (by omega),Int.toNat_of_nonneg (by omega)]
 rfl
def Zmb (b:List Int):Option Qk7:=
 if b.length<4 then none else
 match Zqf (b.take (b.length - 4)) with
 | (m,some _)=>if Zft m=b then some m else none
 | (_,none)=>none
theorem Zq5 {m:Qk7} (h:4≤(Zft m).length):Zhn m=true:=by
 unfold Zft at h
 split at h
 ·assumption
 ·simp at h
theorem Zpg {m:Qk7} (h:Zhn m=true):Zmb (Zft m)=some m:=by
 have e:Zft m=body m++Zkj (Zrm (body m)):=by unfold Zft;rw [if_pos h]
 unfold Zmb
 have el:(Zft m).length=(body m).length+4:=by rw [e,List.length_append,Zle]
 have e2:(Zft m).take ((Zft m).length - 4)=body m++[]:=by
  rw [el,e,show (body m).length+4 - 4=(body m).length by omega,List.take_left,List.append_nil]
 rw [e2,Zq7 m (Zbe h),if_neg (by omega)]
 simp only
 rw [if_pos trivial]
theorem Znn {b:List Int} {m:Qk7} (h:Zmb b=some m):Zhn m=true∧b=Zft m:=by
 unfold Zmb at h
 split at h
 ·cases h
 ·rename_i hl
  split at h
  ·split at h
   ·rename_i h2
    have h3:_=m:=Option.some.inj h
    subst h3
    exact ⟨Zq5 (by rw [h2];omega),h2.symm⟩
   ·cases h
  ·cases h
theorem Zpn {R:Type} (i:DecidableEq R) (a:Option R):@Qav R i a a=a:=if_pos rfl
def Ztd:Qk7:=Qzj
def Zsr (o:Option Qk7):(Qk7 × Bool × Unit) × Unit:=
 match o with
 | some m=>((m,true,()),())
 | none=>((Ztd,false,()),())
theorem Zld (b:List Int) (hb:Qkn b) (hl:b.length≤1000000000):Zd8 b=some (Zsr (Zmb b)):=by
 unfold Zd8 Z3a Zmb
 by_cases h4:b.length<4
 ·rw [cdp (by omega),if_pos h4];rfl
 rw [cdn (by omega),if_neg h4,Qq3 (by omega) (by omega),Zab,cdp (by omega),cdp (by omega)]
 have e1:((b.length:Int) - 4).toNat=b.length - 4:=by omega
 rw [e1,List.drop_zero]
 obtain ⟨s',h1,h2⟩:=Znz (b.take (b.length - 4)) (Zet hb _) (by rw [List.length_take];omega)
 rw [h1]
 have h3:=Zqv (b.take (b.length - 4))
 generalize Zqf (b.take (b.length - 4))=q at *
 obtain ⟨m,o⟩:=q
 simp only at h2 h3
 dsimp only [Option.bind_some]
 rw [Zmm m (by omega)]
 dsimp only [Option.bind_some]
 rw [Zop _ _ (by have:=Zn9 m;omega) hl]
 cases o with
 | none=>
  obtain ⟨a,ha⟩:=h2.is'
  rw [ha]
  simp only [IV.is,beq_self_eq_true,cond_true]
  rfl
 | some l=>
  obtain ⟨h5,h6⟩:=h2.is'
  rw [h6]
  simp only [IV.is,cond_false,Option.bind_some]
  have hd:(List.isEmpty (Zft m))=true→decide (Zft m=b)=false:=by
   intro he
   rw [List.isEmpty_iff] at he
   rw [decide_eq_false]
   intro e
   rw [he] at e
   rw [← e] at h4
   simp at h4
  cases hem:List.isEmpty (Zft m) with
  | true=>
   rw [hd hem]
   have hd':=hd hem
   rw [decide_eq_false_iff_not] at hd'
   simp only [nt,nf,cond_true,cond_false]
   rw [Zpn,if_neg hd']
   rfl
  | false=>
   simp only [nt,nf,cond_true,cond_false]
   by_cases he:Zft m=b
   ·rw [decide_eq_true he,if_pos he];rfl
   ·rw [decide_eq_false he,if_neg he];rfl
end Go.PE
