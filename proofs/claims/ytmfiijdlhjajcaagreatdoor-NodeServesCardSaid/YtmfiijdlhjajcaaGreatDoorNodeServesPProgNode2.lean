/-
  Plain lemmas on the functions.
  Conditions: none.
-/
import Derived.Test.YtmfiijdlhjajcaaGreatDoorNodeServesPProgNode
set_option linter.unusedVariables false
set_option linter.unusedSimpArgs false
set_option maxRecDepth 20000
namespace Go.PE
theorem Zr7 {n:Zih} (hf:FOk n.2.2.2.2.1) {m:Qk7} (hm:MSm m) (was:Int):Z13 n m was=some ((Qxq n.2.2.2.1 n.2.2.2.2.1 m was,()),()):=by
 obtain ⟨kd,fr,to,mi,me,ag,pa,lo,hi,tx⟩:=m
 have hlo:=hm.lo
 have htx:=hm.tx
 dsimp only [Qk7.kd,Qk7.fr,Qk7.to,Qk7.inc,Qk7.ep,Qk7.ag,Qk7.pa,Qk7.lo,Qk7.hi,Qk7.tx] at hlo htx
 have J1:Z0u (kd,fr,to,mi,me,ag,pa,lo,hi,tx) n=some ((if kd=7 then Z70 n.2.2.2.2.1 (lo,tx) else if kd=9 then Z6y n.2.2.2.2.1 lo hi else n.2.2.2.2.1,()),()):=by
  unfold Z0u
  dsimp only [g3,g4,g5,g6,g7,g8,g9,g10,g11,g12,h3,h4,h5,h6,h7,h8,h9,h10,h11,h12,u0,u1,u2,u3,u4,u5,u6,u7,u8,u9,u10,u11,u12,e1,e2,e3,e4,e5,e6,e7,e8,e9,e10,e11,e12]
  rw [Zqt hf _ (by dsimp only;omega),Zqg hf,ceq,ceq]
  dsimp only [Option.bind_some]
  split
  ·rfl
  ·split<;>rfl
 have J2:Z11 (kd,fr,to,mi,me,ag,pa,lo,hi,tx) was n=some ((if kd=5∧was=fr then Ql8 n.2.2.2.2.1 hi else if kd=7 then Z70 n.2.2.2.2.1 (lo,tx) else if kd=9 then Z6y n.2.2.2.2.1 lo hi else n.2.2.2.2.1,()),()):=by
  unfold Z11
  rw [J1]
  dsimp only [g3,g4,g5,g6,g7,g8,g9,g10,g11,g12,h3,h4,h5,h6,h7,h8,h9,h10,h11,h12,u0,u1,u2,u3,u4,u5,u6,u7,u8,u9,u10,u11,u12,e1,e2,e3,e4,e5,e6,e7,e8,e9,e10,e11,e12]
  rw [Zci hf.sm,ceq,ceq]
  dsimp only [Option.bind_some]
  by_cases a:kd=5
  ·rw [if_pos a]
   by_cases b:was=fr
   ·rw [if_pos b,if_pos (show kd=5∧was=fr from ⟨a,b⟩)]
   ·rw [if_neg b,if_neg (show ¬ (kd=5∧was=fr) from fun e=>b e.2)]
  ·rw [if_neg a,if_neg (show ¬ (kd=5∧was=fr) from fun e=>a e.1)]
 unfold Z13
 rw [J2,Qxq]
 dsimp only [g3,g4,g5,g6,g7,g8,g9,g10,g11,g12,h3,h4,h5,h6,h7,h8,h9,h10,h11,h12,u0,u1,u2,u3,u4,u5,u6,u7,u8,u9,u10,u11,u12,e1,e2,e3,e4,e5,e6,e7,e8,e9,e10,e11,e12,Qk7.kd,Qk7.fr,Qk7.to,Qk7.inc,Qk7.ep,Qk7.ag,Qk7.pa,Qk7.lo,Qk7.hi,Qk7.tx]
 rw [Zqh hf.sm _ (by omega)]
 dsimp only [Option.bind_some]
 rw [Qq3 (x:=lo - 1) (by omega) (by omega),Zci (Zgd hf lo).sm,ceq,Zs5,ceq,ceq,Zd0]
 dsimp only [Option.bind_some]
 by_cases a:fr=n.2.2.2.1.2.2.2.1
 ·rw [if_pos a]
  by_cases b:mi=n.2.2.2.1.2.2.2.2.1
  ·rw [if_pos b,if_neg (show ¬ ¬ (fr=n.2.2.2.1.2.2.2.1∧mi=n.2.2.2.1.2.2.2.2.1) from fun e=>e ⟨a,b⟩)]
   by_cases c:kd=2
   ·rw [if_pos c]
    by_cases d:was=fr
    ·rw [if_pos d,if_neg (show ¬ (kd=2∧was≠fr) from fun e=>e.2 d)]
    ·rw [if_neg d,if_pos (show kd=2∧was≠fr from ⟨c,d⟩)]
   ·rw [if_neg c,if_neg (show ¬ (kd=2∧was≠fr) from fun e=>c e.1)]
  ·rw [if_neg b,if_pos (show ¬ (fr=n.2.2.2.1.2.2.2.1∧mi=n.2.2.2.1.2.2.2.2.1) from fun e=>b e.2)]
 ·rw [if_neg a,if_pos (show ¬ (fr=n.2.2.2.1.2.2.2.1∧mi=n.2.2.2.1.2.2.2.2.1) from fun e=>a e.1)]
theorem Zqu (l:Qrf) (s:Int × Int) (h:l.getLast?=some s) (n:Int):l.set (l.length - 1) (s.1,n)=l.dropLast++[(s.1,n)]:=by
 have hp:l≠[]:=by rintro rfl;cases h
 obtain ⟨q,e⟩:∃ q,l=l.dropLast++[q]:=⟨_,(List.dropLast_concat_getLast hp).symm⟩
 have e2:q=s:=by rw [e,List.getLast?_concat] at h;exact Option.some.inj h
 have hl:l.dropLast.length=l.length - 1:=List.length_dropLast
 conv=>lhs;rw [e]
 rw [List.length_append,List.length_singleton,Nat.add_sub_cancel,List.set_append_right _ _ (Nat.le_refl _),Nat.sub_self];rfl
theorem Znf (l:Qrf) (n:Int):(Zn7 l n).length≤l.length+1:=by
 unfold Zn7
 split
 ·split
  ·rw [List.length_append,List.length_dropLast,List.length_singleton];omega
  ·rw [List.length_append,List.length_singleton];omega
 ·simp
theorem Zgf (n:Nat) (lo hi nx top:Int) (ring win:List Qn4) (log:List Evt) (a b:Int) (hr:Zb9 Z99 ring) (hl:ring.length≤1000000) (h1:1≤lo) (h2:hi≤1000000) (h3:lo≤1000000):∀ (k m i:Nat) (its:List Qn4) (nts:Qrf),i+k=8→k<m→its.length≤i→nts.length≤i →
  Qsx n m lo hi (lo+(i:Int)) nx top ring win log a b its nts=some (((Qv3 ring hi k (lo+(i:Int)) its nts).1,(Qv3 ring hi k (lo+(i:Int)) its nts).2,()),())
 | k,0,i,its,nts,_,h,_,_=>by omega
 | 0,m+1,i,its,nts,hk,h,hi1,hn1=>by
  show Qu4 (Qsx n m) lo hi (lo+(i:Int)) nx top ring win log a b its nts=_
  unfold Qu4
  rw [Qq3 (x:=lo+(i:Int) - lo) (by omega) (by omega),cdn (show ¬ lo+(i:Int) - lo<8 by omega)]
  cases decide (lo+(i:Int)≤hi)<;>rfl
 | k+1,m+1,i,its,nts,hk,h,hi1,hn1=>by
  show Qu4 (Qsx n m) lo hi (lo+(i:Int)) nx top ring win log a b its nts=_
  have ih:=fun its nts h1 h2=>Zgf n lo hi nx top ring win log a b hr hl ‹1≤lo› ‹hi≤1000000› h3 k m (i+1) its nts (by omega) (by omega) h1 h2
  have e1:IntKind.wrap .i64 (lo+(i:Int)+1)=lo+((i+1:Nat):Int):=by rw [Qq3 (by omega) (by omega)];omega
  have e2:lo+(i:Int)+1=lo+((i+1:Nat):Int):=by omega
  unfold Qu4
  rw [Qq3 (x:=lo+(i:Int) - lo) (by omega) (by omega),cdp (show lo+(i:Int) - lo<8 by omega),e1,cp]
  unfold Qv3
  by_cases a1:hi<lo+(i:Int)
  ·rw [if_neg (by omega),if_pos a1]
  rw [if_pos (by omega),if_neg a1,Zrs hr hl,e2]
  dsimp only [Option.bind_some]
  cases hg:Zn1 ring (lo+(i:Int)) with
  | some x=>
   dsimp only
   rw [cond_true,cond_true,cbp (by omega)]
   have hx:x=(lo+(i:Int),x.2):=by
    have:=(Zc6 hg).2
    simp only [Z99] at this
    rw [← this]
   rw [← hx]
   exact ih _ _ (by rw [List.length_append,List.length_singleton];omega) (by omega)
  | none=>
   dsimp only
   rw [cond_false,cond_false,cdn (show ¬ lo+(i:Int)<1 by omega),cdn (show ¬ lo+(i:Int)>1000000 by omega)]
   have J2:(∀ s,nts.getLast?=some s→¬ s.2+1=lo+(i:Int))→Z10 nts (Qsx n m) lo hi (lo+(i:Int)) nx top ring win log a b its=some (((Qv3 ring hi k (lo+((i+1:Nat):Int)) its (Zn7 nts (lo+(i:Int)))).1,(Qv3 ring hi k (lo+((i+1:Nat):Int)) its (Zn7 nts (lo+(i:Int)))).2,()),()):=by
    intro hs
    have e:Zn7 nts (lo+(i:Int))=nts++[(lo+(i:Int),lo+(i:Int))]:=by
     unfold Zn7
     split
     ·rename_i s h;rw [if_neg (hs s h)]
     ·rename_i h;rw [List.getLast?_eq_none_iff] at h;subst h;rfl
    unfold Z10
    rw [cbp (by omega),e1,e]
    exact ih _ _ (by omega) (by rw [List.length_append,List.length_singleton];omega)
   cases hl2:nts.getLast? with
   | none=>
    have:nts=[]:=List.getLast?_eq_none_iff.1 hl2
    rw [cdn (by rw [this];simp)]
    exact J2 (fun s e=>by rw [hl2] at e;cases e)
   | some s=>
    have hp:0<nts.length:=by
     cases nts with
     | nil=>cases hl2
     | cons a b=>simp
    have e5:((nts.length:Int) - 1).toNat=nts.length - 1:=by omega
    have e6:List.getD nts (nts.length - 1) (0,0)=s:=by
     rw [Qkm (by omega)]
     rw [List.getLast?_eq_getElem?,List.getElem?_eq_getElem (by omega)] at hl2
     exact Option.some.inj hl2
    have hh:(decide (0≤(nts.length:Int) - 1)&&decide ((nts.length:Int) - 1<(nts.length:Int)))=true:=bt (by omega) (by omega)
    rw [cdp (by omega),Qq3 (x:=(nts.length:Int) - 1) (by omega) (by omega),ct hh,ct hh,e5,e6,Qq3 (x:=lo+(i:Int) - 1) (by omega) (by omega),ceq]
    by_cases q:s.2=lo+(i:Int) - 1
    ·rw [if_pos q,ct hh,ct hh,Zqu nts s hl2]
     have e:Zn7 nts (lo+(i:Int))=nts.dropLast++[(s.1,lo+(i:Int))]:=by
      unfold Zn7
      rw [hl2]
      dsimp only
      rw [if_pos (by omega)]
     rw [← e]
     exact ih _ _ (by omega) (by have:=Znf nts (lo+(i:Int));omega)
    ·rw [if_neg q]
     exact J2 (fun s' e=>by rw [hl2] at e;cases e;omega)
theorem Znq {f:Qo0} (h:FOk f) (lo hi:Int) (h1:1≤lo∧lo≤1000000) (h2:hi≤1000000):Zdm f lo hi=some (((Quv f lo hi).1,(Quv f lo hi).2,()),()):=by
 have hn:=h.next
 have hs:=h.sm
 have key:∀ n m,100<m→Z43 (Qsx n m) f lo hi=some (((Quv f lo hi).1,(Quv f lo hi).2,()),()):=by
  intro n m hm
  unfold Z43 Quv
  by_cases a:f.1=0
  ·rw [cdp (by omega),if_pos a]
  ·rw [cdn (by omega),if_neg a,Qq3 (by omega) (by omega)]
   have e:(if f.1 - 1<hi then f.1 - 1 else hi)=min hi (f.1 - 1):=by split<;>omega
   rw [e]
   have:=Zgf n lo (min hi (f.1 - 1)) f.1 f.2.1 f.2.2.1 f.2.2.2.1 f.2.2.2.2.1 f.2.2.2.2.2.1 f.2.2.2.2.2.2 h.ring (by have:=hs.ring;omega) h1.1 (by omega) h1.2 8 m 0 [] [] (by omega) (by omega) (by simp) (by simp)
   rw [show lo+((0:Nat):Int)=lo by omega] at this
   exact this
 exact key 1099511627776 1099511627776 (by decide)
end Go.PE
