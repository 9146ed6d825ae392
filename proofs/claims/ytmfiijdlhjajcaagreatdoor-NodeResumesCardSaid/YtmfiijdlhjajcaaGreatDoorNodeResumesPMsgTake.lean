/-
  Plain lemmas on the functions.
  Conditions: none.
-/
import Derived.Test.YtmfiijdlhjajcaaGreatDoorNodeResumesPMsgCode
set_option linter.unusedVariables false
set_option linter.unusedSimpArgs false
set_option maxRecDepth 20000
namespace Go.PE
theorem Qxt (x:Int) (r:List Int) (h:0≤x∧x≤1073741824):Qqp (some (Zki x++r))=(x.toNat,some r):=by
 unfold Qqp Zki
 simp only
 rw [Zof _ _ (by omega)]
 simp only [List.drop_left]
theorem Zhj:∀ (p acc r:List Int),(∀ x∈p,0≤x∧x≤1073741824)→Z1i p.length (some (Ze1 p++r)) acc=(acc++p,some r)
 | [],acc,r,_=>by simp [Z1i,Ze1]
 | x::p,acc,r,h=>by
  have hx:=h x (List.mem_cons_self ..)
  show Z1i p.length (Qqp (some ((Zki x++Ze1 p)++r))).2 (acc++[((Qqp (some ((Zki x++Ze1 p)++r))).1:Int)])=_
  rw [List.append_assoc,Qxt _ _ hx]
  simp only
  rw [Zhj p _ r (fun y hy=>h y (List.mem_cons_of_mem _ hy)),Int.toNat_of_nonneg hx.1,List.append_assoc];rfl
theorem Zo1 (t:ByteArray) (r:List Int) (h:t.size≤1000):Znk (some (Zey (Qxn t)++r))=(t,some r):=by
 unfold Znk
 simp only
 rw [Zq4 _ _ (by rw [Qrj];omega)]
 simp only [List.drop_left,Ziv]
theorem Zp2 (m:Qk7) (h:OkM m) (r:List Int):Zpf (body m++r)=(m,some r):=by
 have h1:=h.kd;have h2:=h.fr;have h3:=h.to;have h4:=h.inc;have h5:=h.ep;have h6:=h.ag;have h7:=h.pl;have h8:=h.pa;have h9:=h.lo;have h10:=h.hi;have h11:=h.tx
 obtain ⟨kd,fr,to,inc,ep,ag,pa,lo,hi,tx⟩:=m
 simp only [Qk7.kd,Qk7.fr,Qk7.to,Qk7.inc,Qk7.ep,Qk7.ag,Qk7.pa,Qk7.lo,Qk7.hi,Qk7.tx] at h1 h2 h3 h4 h5 h6 h7 h8 h9 h10 h11
 have e:body (kd,fr,to,inc,ep,ag,pa,lo,hi,tx)++r =
   Zki kd++(Zki fr++(Zki to++(Zki inc++(Zki ep++(Zki ag++(Zki (pa.length:Int)++(Ze1 pa++(Zki lo++(Zki hi++(Zey (Qxn tx)++r)))))))))):=by
  unfold body Zcm
  rw [Zip,Zip]
  simp only [Ze1,List.append_nil,List.append_assoc,Qk7.kd,Qk7.fr,Qk7.to,Qk7.inc,Qk7.ep,Qk7.ag,Qk7.pa,Qk7.lo,Qk7.hi,Qk7.tx]
 rw [e]
 unfold Zpf
 dsimp only
 rw [Qxt kd _ (by omega)];dsimp only
 rw [Qxt fr _ (by omega)];dsimp only
 rw [Qxt to _ (by omega)];dsimp only
 rw [Qxt inc _ (by omega)];dsimp only
 rw [Qxt ep _ (by omega)];dsimp only
 rw [Qxt ag _ (by omega)];dsimp only
 rw [Qxt (pa.length:Int) _ (by omega)];dsimp only
 rw [Qka,if_neg (by omega),Zhj pa [] _ (fun x hx=>by have:=h8 x hx;omega)]
 unfold Zp7
 dsimp only
 rw [Qxt lo _ (by omega)];dsimp only
 rw [Qxt hi _ (by omega)];dsimp only
 rw [Zo1 tx r (by omega)];dsimp only
 rw [Int.toNat_of_nonneg (by omega),Int.toNat_of_nonneg (by omega),Int.toNat_of_nonneg (by omega),Int.toNat_of_nonneg (by omega),Int.toNat_of_nonneg (by omega),Int.toNat_of_nonneg (by omega),Int.toNat_of_nonneg (by omega),Int.toNat_of_nonneg (by omega)]
 rfl
def Zkz (b:List Int):Option Qk7:=
 if b.length<4 then none else
 match Zpf (b.take (b.length - 4)) with
 | (m,some _)=>if Zeu m=b then some m else none
 | (_,none)=>none
theorem Zol {m:Qk7} (h:4≤(Zeu m).length):Zi5 m=true:=by
 unfold Zeu at h
 split at h
 ·assumption
 ·simp at h
theorem Zom {m:Qk7} (h:Zi5 m=true):Zkz (Zeu m)=some m:=by
 have e:Zeu m=body m++Zka (Zqi (body m)):=by unfold Zeu;rw [if_pos h]
 unfold Zkz
 have el:(Zeu m).length=(body m).length+4:=by rw [e,List.length_append,Zjo]
 have e2:(Zeu m).take ((Zeu m).length - 4)=body m++[]:=by
  rw [el,e,show (body m).length+4 - 4=(body m).length by omega,List.take_left,List.append_nil]
 rw [e2,Zp2 m (Zcs h),if_neg (by omega)]
 simp only
 rw [if_pos trivial]
theorem Zn9 {b:List Int} {m:Qk7} (h:Zkz b=some m):Zi5 m=true∧b=Zeu m:=by
 unfold Zkz at h
 split at h
 ·cases h
 ·rename_i hl
  split at h
  ·split at h
   ·rename_i h2
    have h3:_=m:=Option.some.inj h
    subst h3
    exact ⟨Zol (by rw [h2];omega),h2.symm⟩
   ·cases h
  ·cases h
theorem Zo6 {R:Type} (i:DecidableEq R) (a:Option R):@Qav R i a a=a:=if_pos rfl
def Zro:Qk7:=Zr8
def Zrd (o:Option Qk7):(Qk7 × Bool × Unit) × Unit:=
 match o with
 | some m=>((m,true,()),())
 | none=>((Zro,false,()),())
theorem Zjl (b:List Int) (hb:Qkj b) (hl:b.length≤1000000000):Zap b=some (Zrd (Zkz b)):=by
 unfold Zap Z2d Zkz
 by_cases h4:b.length<4
 ·rw [cdp (by omega),if_pos h4];rfl
 rw [cdn (by omega),if_neg h4,Qpx (by omega) (by omega),Z8z,cdp (by omega),cdp (by omega)]
 have e1:((b.length:Int) - 4).toNat=b.length - 4:=by omega
 rw [e1,List.drop_zero]
 obtain ⟨s',h1,h2⟩:=Znm (b.take (b.length - 4)) (Zdl hb _) (by rw [List.length_take];omega)
 rw [h1]
 have h3:=Zpx (b.take (b.length - 4))
 generalize Zpf (b.take (b.length - 4))=q at *
 obtain ⟨m,o⟩:=q
 simp only at h2 h3
 dsimp only [Option.bind_some]
 rw [Zlg m (by omega)]
 dsimp only [Option.bind_some]
 rw [Zms _ _ (by have:=Zmk m;omega) hl]
 cases o with
 | none=>
  obtain ⟨a,ha⟩:=h2.is'
  rw [ha]
  simp only [IV.is,beq_self_eq_true,cond_true]
  rfl
 | some l=>
  obtain ⟨h5,h6⟩:=h2.is'
  rw [h6]
  simp only [IV.is,cond_false,Option.bind_some]
  have hd:(List.isEmpty (Zeu m))=true→decide (Zeu m=b)=false:=by
   intro he
   rw [List.isEmpty_iff] at he
   rw [decide_eq_false]
   intro e
   rw [he] at e
   rw [← e] at h4
   simp at h4
  cases hem:List.isEmpty (Zeu m) with
  | true=>
   rw [hd hem]
   have hd':=hd hem
   rw [decide_eq_false_iff_not] at hd'
   simp only [nt,nf,cond_true,cond_false]
   rw [Zo6,if_neg hd']
   rfl
  | false=>
   simp only [nt,nf,cond_true,cond_false]
   by_cases he:Zeu m=b
   ·rw [decide_eq_true he,if_pos he];rfl
   ·rw [decide_eq_false he,if_neg he];rfl
end Go.PE
