/-
  Plain lemmas on the functions.
  Conditions: none.
-/
import Derived.Test.YtmfiijdlhjajcaaGreatDoorNodeServesPProgNode3
set_option linter.unusedVariables false
set_option linter.unusedSimpArgs false
set_option maxRecDepth 20000
namespace Go.PE
theorem Zrc (n m2:Nat) (r2:Qko) (i:Nat) (j0 j1 j2 j3:Int) (j4 j5:Bool) (j6 j7 j8 j9:Int) (j10 j11:Bool) (j12 j13 j14 j15 j16:Int) (j17:Bool) (j18 j19 j20 j21 j22:Int) (j23:Bool) (j24 j25 j26 j27 j28:Int) (j29:Bool) (j30 j31 j32 j33 j34:Int) (j35:Bool) (j36 j37 j38 j39 j40 j41:Int) (j42:Bool) (x1:Bool) (x2:Int) (x3:ByteArray) (t1 t2 t3 t4 t5 t6:Int) (t7:List Int) (t8 t9 t10 t11 t12:Int) (kids:List Kid) (f1 f2:Int) (f3 f4:List Qn4) (f5:List Evt) (f6 f7 bd:Int) (kd fr mt mi me ma lo hi:Int) (mx:ByteArray) (mp:List Int) (l:List Qk7) (hi':i<l.length) (hl:l.length≤1000000000) (hr:f3.length≤1000):∀ (c m j:Nat) (had:Bool),j+c=f3.length→c<m →
  Qkx n m2 r2 m (i:Int) had (j:Int) j0 j1 j2 j3 j4 j5 j6 j7 j8 j9 j10 j11 j12 j13 j14 j15 j16 j17 j18 j19 j20 j21 j22 j23 j24 j25 j26 j27 j28 j29 j30 j31 j32 j33 j34 j35 j36 j37 j38 j39 j40 j41 j42 kd fr mt mi me ma lo hi mx mp l x1 x2 x3 t1 t2 t3 t4 t5 t6 t7 t8 t9 t10 t11 t12 kids f1 f2 f3 f4 f5 f6 f7 bd=bif !((had||(f3.drop j).any (fun r=>r.1==l[i].lo&&Qeq r.2 l[i].tx))==(l[i].kd==7)) then some ((false,()),()) else r2 (IntKind.wrap .i64 ((i:Int)+1)) x1 x2 x3 t1 t2 t3 t4 t5 t6 t7 t8 t9 t10 t11 t12 kids f1 f2 f3 f4 f5 f6 f7 bd kd fr mt mi me ma lo hi mx mp l
 | c,0,j,had,_,hm=>by omega
 | 0,m+1,j,had,hc,hm=>by
  have hI:(decide (0≤(i:Int))&&decide ((i:Int)<(l.length:Int)))=true:=idx (by omega)
  show Qlm (Qkx n m2 r2 m) r2 (i:Int) had (j:Int) j0 j1 j2 j3 j4 j5 j6 j7 j8 j9 j10 j11 j12 j13 j14 j15 j16 j17 j18 j19 j20 j21 j22 j23 j24 j25 j26 j27 j28 j29 j30 j31 j32 j33 j34 j35 j36 j37 j38 j39 j40 j41 j42 kd fr mt mi me ma lo hi mx mp l x1 x2 x3 t1 t2 t3 t4 t5 t6 t7 t8 t9 t10 t11 t12 kids f1 f2 f3 f4 f5 f6 f7 bd=_
  unfold Qlm
  rw [cdn (show ¬ ((j:Int)<(f3.length:Int)) by omega),List.drop_eq_nil_of_le (by omega),List.any_nil,Bool.or_false]
  simp only [hI,cond_true,Qk9,Qkm hi',Zsp,Zsf,Zss,Zoz,Zse,Zsv,Zsj,Zsc,Zst,Zsy]
 | c+1,m+1,j,had,hc,hm=>by
  have hj:j<f3.length:=by omega
  have hI:(decide (0≤(i:Int))&&decide ((i:Int)<(l.length:Int)))=true:=idx (by omega)
  have hJ:(decide (0≤(j:Int))&&decide ((j:Int)<(f3.length:Int)))=true:=idx (by omega)
  have hw:=Qqh (i:=j) (by omega)
  have ih:=fun h=>Zrc n m2 r2 i j0 j1 j2 j3 j4 j5 j6 j7 j8 j9 j10 j11 j12 j13 j14 j15 j16 j17 j18 j19 j20 j21 j22 j23 j24 j25 j26 j27 j28 j29 j30 j31 j32 j33 j34 j35 j36 j37 j38 j39 j40 j41 j42 x1 x2 x3 t1 t2 t3 t4 t5 t6 t7 t8 t9 t10 t11 t12 kids f1 f2 f3 f4 f5 f6 f7 bd kd fr mt mi me ma lo hi mx mp l hi' hl hr c m (j+1) h (by omega) (by omega)
  show Qlm (Qkx n m2 r2 m) r2 (i:Int) had (j:Int) j0 j1 j2 j3 j4 j5 j6 j7 j8 j9 j10 j11 j12 j13 j14 j15 j16 j17 j18 j19 j20 j21 j22 j23 j24 j25 j26 j27 j28 j29 j30 j31 j32 j33 j34 j35 j36 j37 j38 j39 j40 j41 j42 kd fr mt mi me ma lo hi mx mp l x1 x2 x3 t1 t2 t3 t4 t5 t6 t7 t8 t9 t10 t11 t12 kids f1 f2 f3 f4 f5 f6 f7 bd=_
  unfold Qlm
  rw [cdp (show (j:Int)<(f3.length:Int) by omega),List.drop_eq_getElem_cons hj,List.any_cons]
  cases had with
  | true=>
   simp only [cond_true,hw]
   rw [ih true,Bool.true_or,Bool.true_or]
  | false=>
   simp only [hI,hJ,cond_true,cond_false,Qk9,Qkm hi',Qkm hj,hw,Zsp,Zsf,Zss,Zoz,Zse,Zsv,Zsj,Zsc,Zst,Zsy]
   by_cases e:f3[j].1=l[i].lo
   ·rw [Z2n e,ih,Bool.false_or,beq_iff_eq.2 e,Bool.true_and]
   ·rw [Z0t e,ih,Bool.false_or,Bool.false_or,beq_eq_false_iff_ne.2 e,Bool.false_and,Bool.false_or]
theorem Zrf (n m2:Nat) (r2:Qko) (i:Nat) (j0 j1 j2 j3:Int) (j4 j5 j6:Bool) (j7 j8 j9 j10 j11:Int) (j12:Bool) (j13 j14 j15 j16 j17:Int) (j18:Bool) (j19 j20 j21 j22 j23:Int) (j24:Bool) (j25 j26 j27 j28 j29:Int) (j30:Bool) (j31 j32 j33 j34 j35 j36:Int) (j37:Bool) (x1:Bool) (x2:Int) (x3:ByteArray) (t1 t2 t3 t4 t5 t6:Int) (t7:List Int) (t8 t9 t10 t11 t12:Int) (kids:List Kid) (f1 f2:Int) (f3 f4:List Qn4) (f5:List Evt) (f6 f7 bd:Int) (kd fr mt mi me ma lo hi:Int) (mx:ByteArray) (mp:List Int) (l:List Qk7) (hi':i<l.length) (hl:l.length≤1000000000) (hr:f3.length≤1000):∀ (c m j:Nat) (had:Bool),j+c=f3.length→c<m →
  Qkz n m2 r2 m (i:Int) had (j:Int) j0 j1 j2 j3 j4 j5 j6 j7 j8 j9 j10 j11 j12 j13 j14 j15 j16 j17 j18 j19 j20 j21 j22 j23 j24 j25 j26 j27 j28 j29 j30 j31 j32 j33 j34 j35 j36 j37 kd fr mt mi me ma lo hi mx mp l x1 x2 x3 t1 t2 t3 t4 t5 t6 t7 t8 t9 t10 t11 t12 kids f1 f2 f3 f4 f5 f6 f7 bd=bif !((had||(f3.drop j).any (fun r=>r.1==l[i].lo&&Qeq r.2 l[i].tx))==(l[i].kd==7)) then some ((false,()),()) else r2 (IntKind.wrap .i64 ((i:Int)+1)) x1 x2 x3 t1 t2 t3 t4 t5 t6 t7 t8 t9 t10 t11 t12 kids f1 f2 f3 f4 f5 f6 f7 bd kd fr mt mi me ma lo hi mx mp l
 | c,0,j,had,_,hm=>by omega
 | 0,m+1,j,had,hc,hm=>by
  have hI:(decide (0≤(i:Int))&&decide ((i:Int)<(l.length:Int)))=true:=idx (by omega)
  show Qli (Qkz n m2 r2 m) r2 (i:Int) had (j:Int) j0 j1 j2 j3 j4 j5 j6 j7 j8 j9 j10 j11 j12 j13 j14 j15 j16 j17 j18 j19 j20 j21 j22 j23 j24 j25 j26 j27 j28 j29 j30 j31 j32 j33 j34 j35 j36 j37 kd fr mt mi me ma lo hi mx mp l x1 x2 x3 t1 t2 t3 t4 t5 t6 t7 t8 t9 t10 t11 t12 kids f1 f2 f3 f4 f5 f6 f7 bd=_
  unfold Qli
  rw [cdn (show ¬ ((j:Int)<(f3.length:Int)) by omega),List.drop_eq_nil_of_le (by omega),List.any_nil,Bool.or_false]
  simp only [hI,cond_true,Qk9,Qkm hi',Zsp,Zsf,Zss,Zoz,Zse,Zsv,Zsj,Zsc,Zst,Zsy]
 | c+1,m+1,j,had,hc,hm=>by
  have hj:j<f3.length:=by omega
  have hI:(decide (0≤(i:Int))&&decide ((i:Int)<(l.length:Int)))=true:=idx (by omega)
  have hJ:(decide (0≤(j:Int))&&decide ((j:Int)<(f3.length:Int)))=true:=idx (by omega)
  have hw:=Qqh (i:=j) (by omega)
  have ih:=fun h=>Zrf n m2 r2 i j0 j1 j2 j3 j4 j5 j6 j7 j8 j9 j10 j11 j12 j13 j14 j15 j16 j17 j18 j19 j20 j21 j22 j23 j24 j25 j26 j27 j28 j29 j30 j31 j32 j33 j34 j35 j36 j37 x1 x2 x3 t1 t2 t3 t4 t5 t6 t7 t8 t9 t10 t11 t12 kids f1 f2 f3 f4 f5 f6 f7 bd kd fr mt mi me ma lo hi mx mp l hi' hl hr c m (j+1) h (by omega) (by omega)
  show Qli (Qkz n m2 r2 m) r2 (i:Int) had (j:Int) j0 j1 j2 j3 j4 j5 j6 j7 j8 j9 j10 j11 j12 j13 j14 j15 j16 j17 j18 j19 j20 j21 j22 j23 j24 j25 j26 j27 j28 j29 j30 j31 j32 j33 j34 j35 j36 j37 kd fr mt mi me ma lo hi mx mp l x1 x2 x3 t1 t2 t3 t4 t5 t6 t7 t8 t9 t10 t11 t12 kids f1 f2 f3 f4 f5 f6 f7 bd=_
  unfold Qli
  rw [cdp (show (j:Int)<(f3.length:Int) by omega),List.drop_eq_getElem_cons hj,List.any_cons]
  cases had with
  | true=>
   simp only [cond_true,hw]
   rw [ih true,Bool.true_or,Bool.true_or]
  | false=>
   simp only [hI,hJ,cond_true,cond_false,Qk9,Qkm hi',Qkm hj,hw,Zsp,Zsf,Zss,Zoz,Zse,Zsv,Zsj,Zsc,Zst,Zsy]
   by_cases e:f3[j].1=l[i].lo
   ·rw [Z2n e,ih,Bool.false_or,beq_iff_eq.2 e,Bool.true_and]
   ·rw [Z0t e,ih,Bool.false_or,Bool.false_or,beq_eq_false_iff_ne.2 e,Bool.false_and,Bool.false_or]
structure SvP (qf ql qh qn:Int) (ring:List Qn4) (x:Qk7):Prop where
 to:x.to=qf
 kd:x.kd=7∨x.kd=9
 lo:ql≤x.lo
 hi:x.lo≤qh
 hi2:x.hi≤qh
 nx:x.lo<qn
 nx2:x.hi<max qn 1
 d:x.kd=7→∃ r∈ring,r.1=x.lo∧r.2=x.tx
 n:x.kd=9→∀ r∈ring,r.1≠x.lo
theorem Zsz (n:Nat) (x1:Bool) (x2:Int) (x3:ByteArray) (t1 t2 t3 t4 t5 t6:Int) (t7:List Int) (t8 t9 t10 t11 t12:Int) (kids:List Kid) (f1 f2:Int) (f3 f4:List Qn4) (f5:List Evt) (f6 f7 bd:Int) (kd fr mt mi me ma lo hi:Int) (mx:ByteArray) (mp:List Int) (l:List Qk7) (hn:f3.length<n) (hr:f3.length≤1000) (hl:l.length≤1000000000) (hP:∀ x∈l,SvP fr lo hi f1 f3 x) (hE:0<l.length∨f1≤lo):∀ (c m i:Nat),i+c=l.length→c<m →
  Qkc n m (i:Int) x1 x2 x3 t1 t2 t3 t4 t5 t6 t7 t8 t9 t10 t11 t12 kids f1 f2 f3 f4 f5 f6 f7 bd kd fr mt mi me ma lo hi mx mp l=some ((true,()),())
 | c,0,i,_,hm=>by omega
 | 0,m+1,i,hc,hm=>by
  show Qln (Qkx n m (Qkc n m) n) (Qkz n m (Qkc n m) n) (i:Int) x1 x2 x3 t1 t2 t3 t4 t5 t6 t7 t8 t9 t10 t11 t12 kids f1 f2 f3 f4 f5 f6 f7 bd kd fr mt mi me ma lo hi mx mp l=_
  unfold Qln
  rw [cdn (show ¬ ((i:Int)<(l.length:Int)) by omega)]
  by_cases e:0<l.length
  ·rw [cdp (show (l.length:Int)>0 by omega)]
  ·rw [cdn (show ¬ ((l.length:Int)>0) by omega),decide_eq_true (show lo ≥ f1 from hE.resolve_left e)]
 | c+1,m+1,i,hc,hm=>by
  have hi':i<l.length:=by omega
  have hI:(decide (0≤(i:Int))&&decide ((i:Int)<(l.length:Int)))=true:=idx (by omega)
  have hx:=hP l[i] (List.getElem_mem hi')
  have p1:=hx.to
  have p2:=hx.kd
  have p3:=hx.lo
  have p4:=hx.hi
  have p5:=hx.hi2
  have p6:=hx.nx
  have p7:=hx.nx2
  have ih:=Zsz n x1 x2 x3 t1 t2 t3 t4 t5 t6 t7 t8 t9 t10 t11 t12 kids f1 f2 f3 f4 f5 f6 f7 bd kd fr mt mi me ma lo hi mx mp l hn hr hl hP hE c m (i+1) (by omega) (by omega)
  show Qln (Qkx n m (Qkc n m) n) (Qkz n m (Qkc n m) n) (i:Int) x1 x2 x3 t1 t2 t3 t4 t5 t6 t7 t8 t9 t10 t11 t12 kids f1 f2 f3 f4 f5 f6 f7 bd kd fr mt mi me ma lo hi mx mp l=_
  unfold Qln
  rw [cdp (show (i:Int)<(l.length:Int) by omega)]
  simp only [hI,cond_true,Qk9,Qkm hi',Zsp,Zsf,Zss,Zoz,Zse,Zsv,Zsj,Zsc,Zst,Zsy]
  have q7:¬ (l[i].hi ≥ (if 1>f1 then 1 else f1)):=by split<;>omega
  rw [Zk0 p1]
  by_cases k7:l[i].kd=7
  ·rw [Zk0 k7,cdn (show ¬ (l[i].lo<lo) by omega),cdn (show ¬ (l[i].lo>hi) by omega),cdn (show ¬ (l[i].hi>hi) by omega),cdn (show ¬ (l[i].lo ≥ f1) by omega),cdn q7]
   refine Eq.trans (Zrf n m (Qkc n m) i _ _ _ _ _ _ _ _ _ _ _ _ _ _ _ _ _ _ _ _ _ _ _ _ _ _ _ _ _ _ _ _ _ _ _ _ _ _ x1 x2 x3 t1 t2 t3 t4 t5 t6 t7 t8 t9 t10 t11 t12 kids f1 f2 f3 f4 f5 f6 f7 bd kd fr mt mi me ma lo hi mx mp l hi' hl hr f3.length n 0 false (Nat.zero_add _) hn) ?_
   obtain ⟨r,r1,r2,r3⟩:=hx.d k7
   rw [List.drop_zero,List.any_eq_true.2 ⟨r,r1,by rw [r2,r3,Z9e,beq_self_eq_true];rfl⟩,k7]
   rw [show (!((false||true)==((7:Int)==7)))=false from rfl,cond_false,Qqh (by omega)]
   exact ih
  ·have k9:=p2.resolve_left k7
   rw [Znw k7,Zk0 k9,cdn (show ¬ (l[i].lo<lo) by omega),cdn (show ¬ (l[i].lo>hi) by omega),cdn (show ¬ (l[i].hi>hi) by omega),cdn (show ¬ (l[i].lo ≥ f1) by omega),cdn q7]
   refine Eq.trans (Zrc n m (Qkc n m) i _ _ _ _ _ _ _ _ _ _ _ _ _ _ _ _ _ _ _ _ _ _ _ _ _ _ _ _ _ _ _ _ _ _ _ _ _ _ _ _ _ _ _ x1 x2 x3 t1 t2 t3 t4 t5 t6 t7 t8 t9 t10 t11 t12 kids f1 f2 f3 f4 f5 f6 f7 bd kd fr mt mi me ma lo hi mx mp l hi' hl hr f3.length n 0 false (Nat.zero_add _) hn) ?_
   have ha:f3.any (fun r=>r.1==l[i].lo&&Qeq r.2 l[i].tx)=false:=by
    rw [List.any_eq_false]
    intro r hr
    rw [beq_eq_false_iff_ne.2 (hx.n k9 r hr)];simp
   rw [List.drop_zero,ha,k9]
   rw [show (!((false||false)==((9:Int)==7)))=false from rfl,cond_false,Qqh (by omega)]
   exact ih
theorem Zsh (n:Nat) (x1:Bool) (x2:Int) (x3:ByteArray) (t1 t2 t3 t4 t5 t6:Int) (t7:List Int) (t8 t9 t10 t11 t12:Int) (kids:List Kid) (f1 f2:Int) (f3 f4:List Qn4) (f5:List Evt) (f6 f7 bd:Int) (kd fr mt mi me ma lo hi:Int) (mx:ByteArray) (mp:List Int) (l:List Qk7) (hk:kids.length≤1000):∀ (c m i:Nat) (is:Bool),i+c=kids.length→c<m →
  Qkp n m is (i:Int) x1 x2 x3 t1 t2 t3 t4 t5 t6 t7 t8 t9 t10 t11 t12 kids f1 f2 f3 f4 f5 f6 f7 bd kd fr mt mi me ma lo hi mx mp l=bif (is||(kids.drop i).any (fun k=>k.1==fr&&k.2.1==mi)) then Qkc n n 0 x1 x2 x3 t1 t2 t3 t4 t5 t6 t7 t8 t9 t10 t11 t12 kids f1 f2 f3 f4 f5 f6 f7 bd kd fr mt mi me ma lo hi mx mp l else some (((l.length:Int)==0,()),())
 | c,0,i,is,_,hm=>by omega
 | 0,m+1,i,is,hc,hm=>by
  show Qlo (Qkp n m) (Qkc n n) is (i:Int) x1 x2 x3 t1 t2 t3 t4 t5 t6 t7 t8 t9 t10 t11 t12 kids f1 f2 f3 f4 f5 f6 f7 bd kd fr mt mi me ma lo hi mx mp l=_
  unfold Qlo
  rw [cdn (show ¬ ((i:Int)<(kids.length:Int)) by omega),List.drop_eq_nil_of_le (by omega),List.any_nil,Bool.or_false]
  cases is<;>rfl
 | c+1,m+1,i,is,hc,hm=>by
  have hj:i<kids.length:=by omega
  have hJ:(decide (0≤(i:Int))&&decide ((i:Int)<(kids.length:Int)))=true:=idx (by omega)
  have hw:=Qqh (i:=i) (by omega)
  have ih:=fun h=>Zsh n x1 x2 x3 t1 t2 t3 t4 t5 t6 t7 t8 t9 t10 t11 t12 kids f1 f2 f3 f4 f5 f6 f7 bd kd fr mt mi me ma lo hi mx mp l hk c m (i+1) h (by omega) (by omega)
  show Qlo (Qkp n m) (Qkc n n) is (i:Int) x1 x2 x3 t1 t2 t3 t4 t5 t6 t7 t8 t9 t10 t11 t12 kids f1 f2 f3 f4 f5 f6 f7 bd kd fr mt mi me ma lo hi mx mp l=_
  unfold Qlo
  rw [cdp (show (i:Int)<(kids.length:Int) by omega),List.drop_eq_getElem_cons hj,List.any_cons]
  cases is with
  | true=>
   simp only [cond_true,hw]
   rw [ih true,Bool.true_or,Bool.true_or]
  | false=>
   simp only [hJ,cond_true,cond_false,Qk9,Qkm hj,hw]
   by_cases e:kids[i].1=fr
   ·rw [Z2n e,ih,Bool.false_or,beq_iff_eq.2 e,Bool.true_and]
   ·rw [Z0t e,ih,Bool.false_or,Bool.false_or,beq_eq_false_iff_ne.2 e,Bool.false_and,Bool.false_or]
theorem Zn5 {α:Type} {key:α→Int}:∀ {l:List α},Zb9 key l→∀ {x y:α},x∈l→y∈l→key x=key y→x=y
 | [],_,x,y,h,_,_=>by cases h
 | z::r,hr,x,y,hx,hy,e=>by
  rcases List.mem_cons.1 hx with h1 | h1
  ·rcases List.mem_cons.1 hy with h2 | h2
   ·rw [h1,h2]
   ·have:=hr.1 y h2
    rw [h1] at e
    omega
  ·rcases List.mem_cons.1 hy with h2 | h2
   ·have:=hr.1 x h1
    rw [h2] at e
    omega
   ·exact Zn5 hr.2 h1 h2 e
theorem Zqe {l:List (Int × Int)} {n:Int} {P:Int × Int→Prop} (h:∀ s∈l,P s) (h1:P (n,n)) (h2:∀ s∈l,s.2+1=n→P (s.1,n)):(∀ s∈Zn7 l n,P s)∧0<(Zn7 l n).length:=by
 unfold Zn7
 split
 ·rename_i s hs
  have hm:s∈l:=List.mem_of_getLast? hs
  split
  ·rename_i e
   refine ⟨fun x hx=>?_,by simp⟩
   rcases List.mem_append.1 hx with hx | hx
   ·exact h x (List.dropLast_subset _ hx)
   ·rw [List.mem_singleton.1 hx];exact h2 s hm e
  ·refine ⟨fun x hx=>?_,by simp⟩
   rcases List.mem_append.1 hx with hx | hx
   ·exact h x hx
   ·rw [List.mem_singleton.1 hx];exact h1
 ·exact ⟨fun x hx=>by rw [List.mem_singleton.1 hx];exact h1,by simp⟩
theorem Zay (ring:List Qn4) (lo top:Int):∀ (k:Nat) (n:Int) (a:List Qn4) (b:Qrf),lo≤n→(∀ i∈a,i∈ring∧lo≤i.1∧i.1≤top)→(∀ s∈b,lo≤s.1∧s.1≤s.2∧s.2≤top∧∀ r∈ring,r.1≠s.1) →
  (∀ i∈(Qv3 ring top k n a b).1,i∈ring∧lo≤i.1∧i.1≤top)∧(∀ s∈(Qv3 ring top k n a b).2,lo≤s.1∧s.1≤s.2∧s.2≤top∧∀ r∈ring,r.1≠s.1)∧(0<a.length+b.length∨(0<k∧n≤top)→0<(Qv3 ring top k n a b).1.length+(Qv3 ring top k n a b).2.length)
 | 0,n,a,b,hn,ha,hb=>⟨ha,hb,fun h=>h.elim id fun h=>by omega⟩
 | k+1,n,a,b,hn,ha,hb=>by
  unfold Qv3
  split
  ·exact ⟨ha,hb,fun h=>h.elim id fun h=>by omega⟩
  ·rename_i ht
   split
   ·rename_i i hi
    obtain ⟨h1,h2⟩:=Zc6 hi
    simp only [Z99] at h2
    obtain ⟨r1,r2,r3⟩:=Zay ring lo top k (n+1) (a++[i]) b (by omega) (fun x hx=>by
     rcases List.mem_append.1 hx with hx | hx
     ·exact ha x hx
     ·rw [List.mem_singleton.1 hx];exact ⟨h1,by omega,by omega⟩) hb
    exact ⟨r1,r2,fun _=>r3 (.inl (by rw [List.length_append,List.length_singleton];omega))⟩
   ·rename_i hi
    have hno:=Qwf.1 hi
    obtain ⟨q1,q2⟩:=Zqe (l:=b) (n:=n) (P:=fun s=>lo≤s.1∧s.1≤s.2∧s.2≤top∧∀ r∈ring,r.1≠s.1) hb ⟨hn,Int.le_refl _,by dsimp only;omega,hno⟩ (fun s hs e=>by
     obtain ⟨b1,b2,b3,b4⟩:=hb s hs
     exact ⟨b1,by dsimp only;omega,by dsimp only;omega,b4⟩)
    obtain ⟨r1,r2,r3⟩:=Zay ring lo top k (n+1) a (Zn7 b n) (by omega) ha q1
    exact ⟨r1,r2,fun _=>r3 (.inl (by omega))⟩
theorem Zr8 {t:Tie} {f:Qo0} (hf:FOk f) {m:Qk7} (hlo:1≤m.lo) (hhi:m.lo≤m.hi) {k:Kid} (hk:Quk t.2.2.2.2.2.2.2.2.2.2.2.2 m.fr=some k) (hi:k.2.1=m.inc):(∀ x∈Qt4 t f m,SvP m.fr m.lo m.hi f.1 f.2.2.1 x)∧(0<(Qt4 t f m).length∨f.1≤m.lo):=by
 have e:Qt4 t f m=(Quv f m.lo m.hi).1.map (itM t m.fr)++(Quv f m.lo m.hi).2.map (ntM t m.fr):=by
  unfold Qt4
  rw [hk]
  dsimp only
  rw [if_pos hi]
 rw [e]
 have hn:=hf.next
 unfold Quv
 by_cases h0:f.1=0
 ·rw [if_pos h0]
  exact ⟨fun x hx=>(by cases hx),.inr (by omega)⟩
 ·rw [if_neg h0]
  obtain ⟨r1,r2,r3⟩:=Zay f.2.2.1 m.lo (min m.hi (f.1 - 1)) 8 m.lo [] [] (Int.le_refl _) (fun x hx=>by cases hx) (fun x hx=>by cases hx)
  refine ⟨fun x hx=>?_,?_⟩
  ·rcases List.mem_append.1 hx with hx | hx
   ·obtain ⟨i,hi,rfl⟩:=List.mem_map.1 hx
    obtain ⟨a1,a2,a3⟩:=r1 i hi
    exact ⟨rfl,.inl rfl,a2,by show i.1≤_;omega,by show (0:Int)≤_;omega,by show i.1<_;omega,by show (0:Int)<_;omega,fun _=>⟨i,a1,rfl,rfl⟩,fun h=>absurd h (by decide:¬ (7:Int)=9)⟩
   ·obtain ⟨i,hi,rfl⟩:=List.mem_map.1 hx
    obtain ⟨a1,a2,a3,a4⟩:=r2 i hi
    exact ⟨rfl,.inr rfl,a1,by show i.1≤_;omega,by show i.2≤_;omega,by show i.1<_;omega,by show i.2<_;omega,fun h=>absurd h (by decide:¬ (9:Int)=7),fun _=>a4⟩
  ·by_cases h1:f.1≤m.lo
   ·exact .inr h1
   ·have:=r3 (.inr ⟨by omega,by omega⟩)
    rw [List.length_append,List.length_map,List.length_map]
    exact .inl this
theorem Zt7 (t:Tie) {m:Qk7} (h8:m.kd=8) (hp:m.fr≠t.2.2.2.1) (x:Int):Qut t m x=(t,[]):=by
 obtain ⟨id,inc,now,par,pinc,grand,path,ep,born,asked,til,step,kids⟩:=t
 obtain ⟨kd,fr,to,mi,me,ag,pa,l,hi,tx⟩:=m
 have h8':kd=8:=h8
 have hp':fr≠par:=hp
 subst h8'
 rw [Qut]
 split
 ·rfl
 ·rw [if_neg (fun e=>hp' e.1),Z6g,if_neg (by decide),if_neg (by decide),if_neg (by decide),if_neg (by decide),if_neg (by decide),if_neg (by decide)]
theorem Zsn (n:Zih) {m:Qk7} (h8:m.kd=8) (hp:m.fr≠n.2.2.2.1.2.2.2.1):Zgc n m=(n,Qt4 n.2.2.2.1 n.2.2.2.2.1 m):=by
 unfold Zgc
 rw [Zt7 _ h8 hp]
 dsimp only
 rw [if_pos h8]
 have e:Qxq n.2.2.2.1 n.2.2.2.2.1 m n.2.2.2.1.2.2.2.1=n.2.2.2.2.1:=by
  obtain ⟨kd,fr,to,mi,me,ag,pa,l,hi,tx⟩:=m
  rw [Qxq,if_pos (fun e=>hp e.1)]
 rw [e,Zp9,List.nil_append]
 show (n,Qt4 n.2.2.2.1 n.2.2.2.2.1 m++[])=_
 rw [List.append_nil]
theorem Zrz {fr id mi lo hi:Int} (h1:1≤fr∧fr≤8) (h2:1≤id∧id≤8) (hn:fr≠id) (hm:1≤mi∧mi≤1073741824) (hl:1≤lo∧lo≤hi∧hi≤1000000):Zhn (8,fr,id,mi,0,0,[],lo,hi,(⟨#[]⟩:ByteArray))=true:=by
 refine Zaz (Qki.2 (by simp)) (Qki.2 h1) (Qki.2 h2) hn (Qki.2 hm) ?_
 unfold Qvq
 rw [if_neg (show ¬ (8:Int)=2 by decide),if_neg (show ¬ (8:Int)=5 by decide),if_neg (show ¬ (8:Int)=7 by decide),if_pos (.inl rfl)]
 simp only [Bool.and_eq_true]
 exact ⟨decide_eq_true hl.2.1,⟨Qki.2 ⟨hl.1,by show lo≤_;omega⟩,Qki.2 ⟨by show 1≤hi;omega,hl.2.2⟩⟩,Zqq _⟩
theorem Zpd {n:Zih} (h:NOk 120 n) {fr mi lo hi:Int} (h1:1≤fr∧fr≤8) (hn:fr≠n.2.2.2.1.1) (hp:fr≠n.2.2.2.1.2.2.2.1) (hm:1≤mi∧mi≤1073741824) (hl:1≤lo∧lo≤hi∧hi≤1000000) (q q2:Nat) (hq:100<q) (hq2:100<q2) :
  (Option.bind (Qol (8,fr,n.2.2.2.1.1,mi,0,0,[],lo,hi,(⟨#[]⟩:ByteArray))) fun r3=>
    Option.bind (Qwd n r3.1.1) fun r4=>
    Option.bind (Qmk r4.1.1 n) fun r5=>
    bif !r5.1.1 then
    some ((false,()),())
    else
    Qkp q q2 false 0 n.1 n.2.1 n.2.2.1 n.2.2.2.1.1 n.2.2.2.1.2.1 n.2.2.2.1.2.2.1 n.2.2.2.1.2.2.2.1 n.2.2.2.1.2.2.2.2.1 n.2.2.2.1.2.2.2.2.2.1 n.2.2.2.1.2.2.2.2.2.2.1 n.2.2.2.1.2.2.2.2.2.2.2.1 n.2.2.2.1.2.2.2.2.2.2.2.2.1 n.2.2.2.1.2.2.2.2.2.2.2.2.2.1 n.2.2.2.1.2.2.2.2.2.2.2.2.2.2.1 n.2.2.2.1.2.2.2.2.2.2.2.2.2.2.2.1 n.2.2.2.1.2.2.2.2.2.2.2.2.2.2.2.2 n.2.2.2.2.1.1 n.2.2.2.2.1.2.1 n.2.2.2.2.1.2.2.1 n.2.2.2.2.1.2.2.2.1 n.2.2.2.2.1.2.2.2.2.1 n.2.2.2.2.1.2.2.2.2.2.1 n.2.2.2.2.1.2.2.2.2.2.2 n.2.2.2.2.2 8 fr n.2.2.2.1.1 mi 0 0 lo hi (⟨#[]⟩:ByteArray) [] r4.1.2.1:Option Qk8)=some ((true,()),()):=by
 have hid:=h.tie.id
 have hk:=h.tie.kids
 have hkl:=hk.len
 have hsm:=h.nsm
 have hmay:=Zrz h1 hid hn hm hl
 have hput:=Zn9 (8,fr,n.2.2.2.1.1,mi,0,0,[],lo,hi,(⟨#[]⟩:ByteArray))
 have hc:=Zq9 h (by decide) (Zoc (8,fr,n.2.2.2.1.1,mi,0,0,[],lo,hi,(⟨#[]⟩:ByteArray))) (by omega) (Zpg hmay) rfl
 rw [Zsn n (m:=(8,fr,n.2.2.2.1.1,mi,0,0,[],lo,hi,(⟨#[]⟩:ByteArray))) rfl hp] at hc
 have hsl:=Zgp n.2.2.2.1 n.2.2.2.2.1 (8,fr,n.2.2.2.1.1,mi,0,0,[],lo,hi,(⟨#[]⟩:ByteArray))
 have hrl:=h.feed.ringl
 rw [Zhp _ (by simp [Qk7.pa])]
 dsimp only [Option.bind_some]
 rw [hc]
 dsimp only [Option.bind_some]
 rw [Zq8 n hsm]
 dsimp only [Option.bind_some]
 rw [nt,cond_false]
 refine Eq.trans (Zsh q _ _ _ _ _ _ _ _ _ _ _ _ _ _ _ _ _ _ _ _ _ _ _ _ 8 fr n.2.2.2.1.1 mi 0 0 lo hi _ _ _ (by omega) n.2.2.2.1.2.2.2.2.2.2.2.2.2.2.2.2.length q2 0 false (Nat.zero_add _) (by omega)) ?_
 rw [List.drop_zero,Bool.false_or]
 cases hf:Quk n.2.2.2.1.2.2.2.2.2.2.2.2.2.2.2.2 fr with
 | none=>
  have hno:=Qwf.1 hf
  rw [List.any_eq_false.2 (fun k hk=>by rw [beq_eq_false_iff_ne.2 (hno k hk)];simp),cond_false]
  have e:Qt4 n.2.2.2.1 n.2.2.2.2.1 (8,fr,n.2.2.2.1.1,mi,0,0,[],lo,hi,(⟨#[]⟩:ByteArray))=[]:=by
   unfold Qt4
   rw [show Qk7.fr (8,fr,n.2.2.2.1.1,mi,0,0,[],lo,hi,(⟨#[]⟩:ByteArray))=fr from rfl,hf]
  rw [e];rfl
 | some k=>
  obtain ⟨k1,k2⟩:=Zc6 hf
  simp only [kid] at k2
  by_cases hi':k.2.1=mi
  ·rw [List.any_eq_true.2 ⟨k,k1,by rw [k2,hi',beq_self_eq_true,beq_self_eq_true];rfl⟩,cond_true]
   obtain ⟨p1,p2⟩:=Zr8 h.feed (t:=n.2.2.2.1) (m:=(8,fr,n.2.2.2.1.1,mi,0,0,[],lo,hi,(⟨#[]⟩:ByteArray))) hl.1 hl.2.1 hf hi'
   exact Zsz q _ _ _ _ _ _ _ _ _ _ _ _ _ _ _ _ _ _ _ _ _ _ _ _ 8 fr n.2.2.2.1.1 mi 0 0 lo hi _ _ _ (by omega) (by omega) (by omega) p1 p2 _ q 0 (Nat.zero_add _) (by omega)
  ·rw [List.any_eq_false.2 (fun y hy=>by
    by_cases hy1:y.1=fr
    ·have:y=k:=Zn5 hk.rise hy k1 (by simp only [kid];omega)
     rw [this,beq_eq_false_iff_ne.2 hi'];simp
    ·rw [beq_eq_false_iff_ne.2 hy1];simp),cond_false]
   have e:Qt4 n.2.2.2.1 n.2.2.2.2.1 (8,fr,n.2.2.2.1.1,mi,0,0,[],lo,hi,(⟨#[]⟩:ByteArray))=[]:=by
    unfold Qt4
    rw [show Qk7.fr (8,fr,n.2.2.2.1.1,mi,0,0,[],lo,hi,(⟨#[]⟩:ByteArray))=fr from rfl,hf]
    dsimp only
    rw [if_neg (show ¬ (k.2.1=Qk7.inc (8,fr,n.2.2.2.1.1,mi,0,0,[],lo,hi,(⟨#[]⟩:ByteArray))) from hi')]
   rw [e];rfl
theorem Zs1:Qyf=some ((true,()),()):=by kernel_rfl
theorem Z1q {A:Nat} (picks:List Int) (by' a b who:Int) (h:Qhw [.val (.sl A (.int .u8)),.val (.int .u8),.val (.int .u8),.val (.int .u8),.val (.int .u8)] (picks,by',a,b,who,())):Qqf picks by' a b who=some ((true,()),()):=by
 obtain ⟨w1,w2,w3,w4,w5,_⟩:=h
 have hb1:Qkn picks:=fun x hx=>Zpt.1 (w1.2 x hx)
 have hy:0≤by'∧by'<256:=Zpt.1 w2
 have ha:0≤a∧a<256:=Zpt.1 w3
 have hb:0≤b∧b<256:=Zpt.1 w4
 have hw:0≤who∧who<256:=Zpt.1 w5
 have key:∀ q q2,100<q→100<q2→Qom (Qkp q q2) picks by' a b who=some ((true,()),()):=by
  intro q q2 hq hq2
  unfold Qom Qr6
  rw [Zs1]
  dsimp only [Option.bind_some]
  rw [nt,cond_false]
  by_cases a1:150<picks.length
  ·rw [cdp (by omega)]
  rw [cdn (by omega)]
  have e1:IntKind.wrap .i64 (1+(IntKind.wrap .i64 (Int.tmod who 8)))=1+who % 8:=by
   rw [Int.tmod_eq_emod_of_nonneg (by omega),Qq3 (x:=who % 8) (by omega) (by omega),Qq3 (by omega) (by omega)]
  have e2:IntKind.wrap .i64 (1+(IntKind.wrap .i64 (Int.tmod by' 8)))=1+by' % 8:=by
   rw [Int.tmod_eq_emod_of_nonneg (by omega),Qq3 (x:=by' % 8) (by omega) (by omega),Qq3 (by omega) (by omega)]
  have e3:IntKind.wrap .i64 (1+(IntKind.wrap .i64 (Int.tmod a 12)))=1+a % 12:=by
   rw [Int.tmod_eq_emod_of_nonneg (by omega),Qq3 (x:=a % 12) (by omega) (by omega),Qq3 (by omega) (by omega)]
  have e4:IntKind.wrap .i64 ((1+a % 12)+(IntKind.wrap .i64 (Int.tmod b 12)))=1+a % 12+b % 12:=by
   rw [Int.tmod_eq_emod_of_nonneg (by omega),Qq3 (x:=b % 12) (by omega) (by omega),Qq3 (by omega) (by omega)]
  rw [e1,e2,e3,e4]
  obtain ⟨n,en,hn,hid,hti,hbad,hf0,hkid⟩:=Zqi picks hb1 (by omega) (1+who % 8) (by omega)
  rw [en]
  dsimp only [Option.bind_some]
  by_cases b1:1+by' % 8=1+who % 8
  ·rw [Z2n b1]
  rw [Z0t b1]
  have J:(bif (1+by' % 8)==(g3 (g3 n)) then some ((true,()),()) else Option.bind (Qol (8,1+by' % 8,1+who % 8,1,0,0,[],1+a % 12,1+a % 12+b % 12,(⟨#[]⟩:ByteArray))) fun r3=>
    Option.bind (Qwd n r3.1.1) fun r4=>
    Option.bind (Qmk r4.1.1 n) fun r5=>
    bif !r5.1.1 then
    some ((false,()),())
    else
    Qkp q q2 false 0 n.1 n.2.1 n.2.2.1 n.2.2.2.1.1 n.2.2.2.1.2.1 n.2.2.2.1.2.2.1 n.2.2.2.1.2.2.2.1 n.2.2.2.1.2.2.2.2.1 n.2.2.2.1.2.2.2.2.2.1 n.2.2.2.1.2.2.2.2.2.2.1 n.2.2.2.1.2.2.2.2.2.2.2.1 n.2.2.2.1.2.2.2.2.2.2.2.2.1 n.2.2.2.1.2.2.2.2.2.2.2.2.2.1 n.2.2.2.1.2.2.2.2.2.2.2.2.2.2.1 n.2.2.2.1.2.2.2.2.2.2.2.2.2.2.2.1 n.2.2.2.1.2.2.2.2.2.2.2.2.2.2.2.2 n.2.2.2.2.1.1 n.2.2.2.2.1.2.1 n.2.2.2.2.1.2.2.1 n.2.2.2.2.1.2.2.2.1 n.2.2.2.2.1.2.2.2.2.1 n.2.2.2.2.1.2.2.2.2.2.1 n.2.2.2.2.1.2.2.2.2.2.2 n.2.2.2.2.2 8 (1+by' % 8) (1+who % 8) 1 0 0 (1+a % 12) (1+a % 12+b % 12) (⟨#[]⟩:ByteArray) [] r4.1.2.1:Option Qk8)=some ((true,()),()):=by
   by_cases c:1+by' % 8=n.2.2.2.1.2.2.2.1
   ·rw [Z2n (show 1+by' % 8=g3 (g3 n) from c)]
   ·rw [Z0t (show 1+by' % 8≠g3 (g3 n) from c),← hid]
    exact Zpd hn (by omega) (by omega) c (by omega) (by omega) q q2 hq hq2
  by_cases b2:by' ≥ 64
  ·rw [cdp b2]
   have hkl:=hn.tie.kids.len
   by_cases b3:0<n.2.2.2.1.2.2.2.2.2.2.2.2.2.2.2.2.length
   ·rw [cdp (show (((h12 (g3 n)).length:Int)>0) by show ((n.2.2.2.1.2.2.2.2.2.2.2.2.2.2.2.2.length:Int)>0);omega)]
    have b4:((h12 (g3 n)).length:Int)≠0:=by show (n.2.2.2.1.2.2.2.2.2.2.2.2.2.2.2.2.length:Int)≠0;omega
    rw [ct (show (!(((h12 (g3 n)).length:Int)==0))=true by rw [beq_eq_false_iff_ne.2 b4];rfl),Qq3 (x:=by') (by omega) (by omega)]
    have e5:Int.tmod by' ((h12 (g3 n)).length:Int)=((by'.toNat % n.2.2.2.1.2.2.2.2.2.2.2.2.2.2.2.2.length:Nat):Int):=by
     show Int.tmod by' (n.2.2.2.1.2.2.2.2.2.2.2.2.2.2.2.2.length:Int)=_
     rw [Int.tmod_eq_emod_of_nonneg (by omega)]
     first
      | rw [Int.natCast_emod,Int.toNat_of_nonneg hy.1]
      | rw [Int.natCast_mod,Int.toNat_of_nonneg hy.1]
      | rw [Int.ofNat_emod,Int.toNat_of_nonneg hy.1]
    have hj:by'.toNat % n.2.2.2.1.2.2.2.2.2.2.2.2.2.2.2.2.length<n.2.2.2.1.2.2.2.2.2.2.2.2.2.2.2.2.length:=Nat.mod_lt _ b3
    rw [e5]
    generalize by'.toNat % n.2.2.2.1.2.2.2.2.2.2.2.2.2.2.2.2.length=j at hj
    have e6:List.getD (h12 (g3 n)) ((j:Int).toNat) (0,0,0)=n.2.2.2.1.2.2.2.2.2.2.2.2.2.2.2.2[j]:=by
     rw [Qk9];exact Qkm hj _
    rw [ct (idx (show (j:Int)<((h12 (g3 n)).length:Int) by show (j:Int)<(n.2.2.2.1.2.2.2.2.2.2.2.2.2.2.2.2.length:Int);omega)),e6]
    have hm:=List.getElem_mem hj
    have g1:=hn.tie.kids.rng _ hm
    have g2:=hkid.2 _ hm
    generalize n.2.2.2.1.2.2.2.2.2.2.2.2.2.2.2.2[j]=k at g1 g2
    by_cases c:k.1=n.2.2.2.1.2.2.2.1
    ·rw [Z2n (show k.1=g3 (g3 n) from c)]
    ·rw [Z0t (show k.1≠g3 (g3 n) from c),← hid]
     exact Zpd hn ⟨g1.1,g1.2.1⟩ (by omega) c ⟨g2.2,g1.2.2.2.1⟩ (by omega) q q2 hq hq2
   ·rw [cdn (show ¬ (((h12 (g3 n)).length:Int)>0) by show ¬ ((n.2.2.2.1.2.2.2.2.2.2.2.2.2.2.2.2.length:Int)>0);omega)]
    exact J
  ·rw [cdn b2]
   exact J
 exact key 1099511627776 1099511627776 (by decide) (by decide)
end Go.PE
