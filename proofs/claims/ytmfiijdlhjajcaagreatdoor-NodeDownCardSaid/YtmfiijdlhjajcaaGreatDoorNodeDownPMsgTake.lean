/-
  Plain lemmas on the functions.
  Conditions: none.
-/
import Derived.Test.YtmfiijdlhjajcaaGreatDoorNodeDownPMsgCode
set_option linter.unusedVariables false
set_option linter.unusedSimpArgs false
set_option maxRecDepth 20000
namespace Go.PE
theorem Qxe (x:Int) (r:List Int) (h:0≤x∧x≤1073741824):Qqi (some (Zji x++r))=(x.toNat,some r):=by
 unfold Qqi Zji
 simp only
 rw [Zo1 _ _ (by omega)]
 simp only [List.drop_left]
theorem Zgs:∀ (p acc r:List Int),(∀ x∈p,0≤x∧x≤1073741824)→Z0u p.length (some (Zcx p++r)) acc=(acc++p,some r)
 | [],acc,r,_=>by simp [Z0u,Zcx]
 | x::p,acc,r,h=>by
  have hx:=h x (List.mem_cons_self ..)
  show Z0u p.length (Qqi (some ((Zji x++Zcx p)++r))).2 (acc++[((Qqi (some ((Zji x++Zcx p)++r))).1:Int)])=_
  rw [List.append_assoc,Qxe _ _ hx]
  simp only
  rw [Zgs p _ r (fun y hy=>h y (List.mem_cons_of_mem _ hy)),Int.toNat_of_nonneg hx.1,List.append_assoc];rfl
theorem Zoo (t:ByteArray) (r:List Int) (h:t.size≤1000):Zma (some (Ze4 (Qx5 t)++r))=(t,some r):=by
 unfold Zma
 simp only
 rw [Zp7 _ _ (by rw [Qre];omega)]
 simp only [List.drop_left,Zhn]
theorem Znb (m:Qk7) (h:OkM m) (r:List Int):Zow (body m++r)=(m,some r):=by
 have h1:=h.kd;have h2:=h.fr;have h3:=h.to;have h4:=h.inc;have h5:=h.ep;have h6:=h.ag;have h7:=h.pl;have h8:=h.pa;have h9:=h.lo;have h10:=h.hi;have h11:=h.tx
 obtain ⟨kd,fr,to,inc,ep,ag,pa,lo,hi,tx⟩:=m
 simp only [Qk7.kd,Qk7.fr,Qk7.to,Qk7.inc,Qk7.ep,Qk7.ag,Qk7.pa,Qk7.lo,Qk7.hi,Qk7.tx] at h1 h2 h3 h4 h5 h6 h7 h8 h9 h10 h11
 have e:body (kd,fr,to,inc,ep,ag,pa,lo,hi,tx)++r =
   Zji kd++(Zji fr++(Zji to++(Zji inc++(Zji ep++(Zji ag++(Zji (pa.length:Int)++(Zcx pa++(Zji lo++(Zji hi++(Ze4 (Qx5 tx)++r)))))))))):=by
  unfold body Zci
  rw [Zhq,Zhq]
  simp only [Zcx,List.append_nil,List.append_assoc,Qk7.kd,Qk7.fr,Qk7.to,Qk7.inc,Qk7.ep,Qk7.ag,Qk7.pa,Qk7.lo,Qk7.hi,Qk7.tx]
 rw [e]
 unfold Zow
 dsimp only
 rw [Qxe kd _ (by omega)];dsimp only
 rw [Qxe fr _ (by omega)];dsimp only
 rw [Qxe to _ (by omega)];dsimp only
 rw [Qxe inc _ (by omega)];dsimp only
 rw [Qxe ep _ (by omega)];dsimp only
 rw [Qxe ag _ (by omega)];dsimp only
 rw [Qxe (pa.length:Int) _ (by omega)];dsimp only
 rw [Qk9,if_neg (by omega),Zgs pa [] _ (fun x hx=>by have:=h8 x hx;omega)]
 unfold Zot
 dsimp only
 rw [Qxe lo _ (by omega)];dsimp only
 rw [Qxe hi _ (by omega)];dsimp only
 rw [Zoo tx r (by omega)];dsimp only
 rw [Int.toNat_of_nonneg (by omega),Int.toNat_of_nonneg (by omega),Int.toNat_of_nonneg (by omega),Int.toNat_of_nonneg (by omega),Int.toNat_of_nonneg (by omega),Int.toNat_of_nonneg (by omega),Int.toNat_of_nonneg (by omega),Int.toNat_of_nonneg (by omega)]
 rfl
def Zf0 (b:List Int):Option Qk7:=
 if b.length<4 then none else
 match Zow (b.take (b.length - 4)) with
 | (m,some _)=>if Zbr m=b then some m else none
 | (_,none)=>none
theorem Znf {m:Qk7} (h:4≤(Zbr m).length):Zg4 m=true:=by
 unfold Zbr at h
 split at h
 ·assumption
 ·simp at h
theorem Zns {m:Qk7} (h:Zg4 m=true):Zf0 (Zbr m)=some m:=by
 have e:Zbr m=body m++Zjs (Zqr (body m)):=by unfold Zbr;rw [if_pos h]
 unfold Zf0
 have el:(Zbr m).length=(body m).length+4:=by rw [e,List.length_append,Zjx]
 have e2:(Zbr m).take ((Zbr m).length - 4)=body m++[]:=by
  rw [el,e,show (body m).length+4 - 4=(body m).length by omega,List.take_left,List.append_nil]
 rw [e2,Znb m (Z4w h),if_neg (by omega)]
 simp only
 rw [if_pos trivial]
theorem Zmi {b:List Int} {m:Qk7} (h:Zf0 b=some m):Zg4 m=true∧b=Zbr m:=by
 unfold Zf0 at h
 split at h
 ·cases h
 ·rename_i hl
  split at h
  ·split at h
   ·rename_i h2
    have h3:_=m:=Option.some.inj h
    subst h3
    exact ⟨Znf (by rw [h2];omega),h2.symm⟩
   ·cases h
  ·cases h
theorem Zng {R:Type} (i:DecidableEq R) (a:Option R):@Qav R i a a=a:=if_pos rfl
def Zrm:Qk7:=Zkx
def Zqw (o:Option Qk7):(Qk7 × Bool × Unit) × Unit:=
 match o with
 | some m=>((m,true,()),())
 | none=>((Zrm,false,()),())
theorem Zdg (b:List Int) (hb:Qki b) (hl:b.length≤1000000000):Zbh b=some (Zqw (Zf0 b)):=by
 unfold Zbh Z1t Zf0
 by_cases h4:b.length<4
 ·rw [cdp (by omega),if_pos h4];rfl
 rw [cdn (by omega),if_neg h4,Qqd (by omega) (by omega),Z86,cdp (by omega),cdp (by omega)]
 have e1:((b.length:Int) - 4).toNat=b.length - 4:=by omega
 rw [e1,List.drop_zero]
 obtain ⟨s',h1,h2⟩:=Zmy (b.take (b.length - 4)) (Zdj hb _) (by rw [List.length_take];omega)
 rw [h1]
 have h3:=Zpk (b.take (b.length - 4))
 generalize Zow (b.take (b.length - 4))=q at *
 obtain ⟨m,o⟩:=q
 simp only at h2 h3
 dsimp only [Option.bind_some]
 rw [Zl7 m (by omega)]
 dsimp only [Option.bind_some]
 rw [Zmx _ _ (by have:=Zle m;omega) hl]
 cases o with
 | none=>
  obtain ⟨a,ha⟩:=h2.is'
  rw [ha]
  simp only [IV.is,beq_self_eq_true,cond_true]
  rfl
 | some l=>
  obtain ⟨h5,h6⟩:=h2.is'
  rw [h6]
  simp only [IV.is,cond_false,Option.bind_some]
  have hd:(List.isEmpty (Zbr m))=true→decide (Zbr m=b)=false:=by
   intro he
   rw [List.isEmpty_iff] at he
   rw [decide_eq_false]
   intro e
   rw [he] at e
   rw [← e] at h4
   simp at h4
  cases hem:List.isEmpty (Zbr m) with
  | true=>
   rw [hd hem]
   have hd':=hd hem
   rw [decide_eq_false_iff_not] at hd'
   simp only [nt,nf,cond_true,cond_false]
   rw [Zng,if_neg hd']
   rfl
  | false=>
   simp only [nt,nf,cond_true,cond_false]
   by_cases he:Zbr m=b
   ·rw [decide_eq_true he,if_pos he];rfl
   ·rw [decide_eq_false he,if_neg he];rfl
end Go.PE
