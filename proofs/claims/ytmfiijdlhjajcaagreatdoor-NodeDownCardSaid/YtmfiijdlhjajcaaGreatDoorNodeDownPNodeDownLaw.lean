/-
  Plain lemmas on the functions.
  Conditions: none.
-/
import Derived.Test.YtmfiijdlhjajcaaGreatDoorNodeDownPProgNode3
set_option linter.unusedVariables false
set_option linter.unusedSimpArgs false
set_option maxRecDepth 20000
namespace Go.PE
def rel (q kd fr:Int) (mm:Qk7):Bool:=decide (mm.to=q)&&((decide (mm.kd=7)||decide (mm.kd=9))&&!(decide (kd=8)&&decide (mm.to=fr)))
def Zoc (f:Evt→Qk7) (told:List Evt):Prop:=∀ e∈told,(f e).lo=e.2.1∧((f e).kd=7→e.1=1∧(f e).tx=e.2.2.2.1)∧((f e).kd=9→e.1=2∧(f e).hi=e.2.2.1)
theorem Zif (n m1:Nat) (r1:Qmr) (told:List Evt) (f:Evt→Qk7) (hf:Zoc f told) (hT:told.length≤1000000000) (k:Nat) (kd fr mt mi me ma ml mh:Int) (mx:ByteArray) (mp:List Int) (x1:Bool) (x2:Int) (x3:ByteArray) (t1 t2 t3 t4 t5 t6:Int) (t7:List Int) (t8 t9 t10 t11 t12:Int) (kids:List Kid) (f1 f2:Int) (f3 f4:List Qnb) (f5:List Evt) (f6 f7 bd:Int) (l:List Qk7) (hk:k<kids.length) (hkl:kids.length≤1000) (hl:l.length≤1000000000):∀ (c m i p:Nat),i+c=l.length→c<m→p≤told.length→(l.drop i).filter (rel kids[k].1 kd fr)=(told.drop p).map f →
  Qke n m1 r1 m told (k:Int) (p:Int) (i:Int) kd fr mt mi me ma ml mh mx mp x1 x2 x3 t1 t2 t3 t4 t5 t6 t7 t8 t9 t10 t11 t12 kids f1 f2 f3 f4 f5 f6 f7 bd l=r1 told (IntKind.wrap .i64 ((k:Int)+1)) kd fr mt mi me ma ml mh mx mp x1 x2 x3 t1 t2 t3 t4 t5 t6 t7 t8 t9 t10 t11 t12 kids f1 f2 f3 f4 f5 f6 f7 bd l
 | c,0,i,p,_,hm,_,_=>by omega
 | 0,m+1,i,p,hc,hm,hp,hr=>by
  show Qm0 (Qke n m1 r1 m) r1 told (k:Int) (p:Int) (i:Int) kd fr mt mi me ma ml mh mx mp x1 x2 x3 t1 t2 t3 t4 t5 t6 t7 t8 t9 t10 t11 t12 kids f1 f2 f3 f4 f5 f6 f7 bd l=_
  rw [List.drop_eq_nil_of_le (by omega)] at hr
  have h1:=congrArg List.length hr
  rw [List.filter_nil,List.length_map,List.length_drop,List.length_nil] at h1
  unfold Qm0
  rw [cdn (by omega),Zgl (show (p:Int)=(told.length:Int) by omega)]
 | c+1,m+1,i,p,hc,hm,hp,hr=>by
  have hi:i<l.length:=by omega
  have hI:(decide (0≤(i:Int))&&decide ((i:Int)<(l.length:Int)))=true:=idx (by omega)
  have hK:(decide (0≤(k:Int))&&decide ((k:Int)<(kids.length:Int)))=true:=idx (by omega)
  have hw:=Qr9 (i:=i) (by omega)
  rw [List.drop_eq_getElem_cons hi,List.filter_cons] at hr
  have skip:rel kids[k].1 kd fr l[i]=false→Qke n m1 r1 m told (k:Int) (p:Int) ((i+1:Nat):Int) kd fr mt mi me ma ml mh mx mp x1 x2 x3 t1 t2 t3 t4 t5 t6 t7 t8 t9 t10 t11 t12 kids f1 f2 f3 f4 f5 f6 f7 bd l=r1 told (IntKind.wrap .i64 ((k:Int)+1)) kd fr mt mi me ma ml mh mx mp x1 x2 x3 t1 t2 t3 t4 t5 t6 t7 t8 t9 t10 t11 t12 kids f1 f2 f3 f4 f5 f6 f7 bd l:=fun e=>
   Zif n m1 r1 told f hf hT k kd fr mt mi me ma ml mh mx mp x1 x2 x3 t1 t2 t3 t4 t5 t6 t7 t8 t9 t10 t11 t12 kids f1 f2 f3 f4 f5 f6 f7 bd l hk hkl hl c m (i+1) p (by omega) (by omega) hp (by rw [if_neg (by rw [e];exact Bool.false_ne_true)] at hr;exact hr)
  have J2:(l[i].kd=7∨l[i].kd=9)→rel kids[k].1 kd fr l[i]=true→Qoz (p:Int) told (i:Int) l (Qke n m1 r1 m) (k:Int) kd fr mt mi me ma ml mh mx mp x1 x2 x3 t1 t2 t3 t4 t5 t6 t7 t8 t9 t10 t11 t12 kids f1 f2 f3 f4 f5 f6 f7 bd=r1 told (IntKind.wrap .i64 ((k:Int)+1)) kd fr mt mi me ma ml mh mx mp x1 x2 x3 t1 t2 t3 t4 t5 t6 t7 t8 t9 t10 t11 t12 kids f1 f2 f3 f4 f5 f6 f7 bd l:=by
   intro h79 e
   rw [if_pos e] at hr
   have hpl:p<told.length:=by
    rcases Nat.lt_or_ge p told.length with h | h
    ·exact h
    ·rw [List.drop_eq_nil_of_le h] at hr;cases hr
   have hP:(decide (0≤(p:Int))&&decide ((p:Int)<(told.length:Int)))=true:=idx (by omega)
   rw [List.drop_eq_getElem_cons hpl,List.map_cons] at hr
   obtain ⟨h1,h2⟩:=List.cons.inj hr
   obtain ⟨a1,a2,a3⟩:=hf told[p] (List.getElem_mem hpl)
   rw [← h1] at a1 a2 a3
   have go:Qke n m1 r1 m told (k:Int) ((p+1:Nat):Int) ((i+1:Nat):Int) kd fr mt mi me ma ml mh mx mp x1 x2 x3 t1 t2 t3 t4 t5 t6 t7 t8 t9 t10 t11 t12 kids f1 f2 f3 f4 f5 f6 f7 bd l=r1 told (IntKind.wrap .i64 ((k:Int)+1)) kd fr mt mi me ma ml mh mx mp x1 x2 x3 t1 t2 t3 t4 t5 t6 t7 t8 t9 t10 t11 t12 kids f1 f2 f3 f4 f5 f6 f7 bd l:=
    Zif n m1 r1 told f hf hT k kd fr mt mi me ma ml mh mx mp x1 x2 x3 t1 t2 t3 t4 t5 t6 t7 t8 t9 t10 t11 t12 kids f1 f2 f3 f4 f5 f6 f7 bd l hk hkl hl c m (i+1) (p+1) (by omega) (by omega) (by omega) h2
   have hw2:=Qr9 (i:=p) (by omega)
   have J1:Qon (i:Int) l (p:Int) told (Qke n m1 r1 m) (k:Int) kd fr mt mi me ma ml mh mx mp x1 x2 x3 t1 t2 t3 t4 t5 t6 t7 t8 t9 t10 t11 t12 kids f1 f2 f3 f4 f5 f6 f7 bd=r1 told (IntKind.wrap .i64 ((k:Int)+1)) kd fr mt mi me ma ml mh mx mp x1 x2 x3 t1 t2 t3 t4 t5 t6 t7 t8 t9 t10 t11 t12 kids f1 f2 f3 f4 f5 f6 f7 bd l:=by
    unfold Qon
    simp only [hI,hP,cond_true,Qk9,Qkl hi,Qkl hpl,hw,hw2,Zrg,Zra,Zrc,Zpj,Zrb,Zr9,Zrd,Zre,Zr6,Zr7]
    by_cases k9:l[i].kd=9
    ·rw [Z2y k9,Zgl (a3 k9).1,Zgl (a3 k9).2];exact go
    ·rw [Z09 k9];exact go
   unfold Qoz
   rw [cdn (by omega)]
   simp only [hI,hP,cond_true,Qk9,Qkl hi,Qkl hpl,Zrg,Zra,Zrc,Zpj,Zrb,Zr9,Zrd,Zre,Zr6,Zr7]
   rw [Zgl a1]
   by_cases k7:l[i].kd=7
   ·rw [Z2y k7,Zgl (a2 k7).1,(a2 k7).2,Zmj,nt,cond_false];exact J1
   ·rw [Z09 k7];exact J1
  have J3:(l[i].kd=7∨l[i].kd=9)→l[i].to=kids[k].1→Qov kd (i:Int) l fr (Qke n m1 r1 m) told (k:Int) (p:Int) mt mi me ma ml mh mx mp x1 x2 x3 t1 t2 t3 t4 t5 t6 t7 t8 t9 t10 t11 t12 kids f1 f2 f3 f4 f5 f6 f7 bd=r1 told (IntKind.wrap .i64 ((k:Int)+1)) kd fr mt mi me ma ml mh mx mp x1 x2 x3 t1 t2 t3 t4 t5 t6 t7 t8 t9 t10 t11 t12 kids f1 f2 f3 f4 f5 f6 f7 bd l:=by
   intro h79 ht
   have e1:(decide (l[i].kd=7)||decide (l[i].kd=9))=true:=by
    rcases h79 with h | h<;>simp [h]
   unfold Qov
   simp only [hI,cond_true,Qk9,Qkl hi,hw,Zrg,Zra,Zrc,Zpj,Zrb,Zr9,Zrd,Zre,Zr6,Zr7]
   by_cases k8:kd=8
   ·rw [Z2y k8]
    by_cases kf:l[i].to=fr
    ·rw [Z2y kf];exact skip (by unfold rel;rw [decide_eq_true k8,decide_eq_true kf];simp)
    ·rw [Z09 kf];exact J2 h79 (by unfold rel;rw [e1,decide_eq_false kf,decide_eq_true ht];simp)
   ·rw [Z09 k8];exact J2 h79 (by unfold rel;rw [e1,decide_eq_false k8,decide_eq_true ht];simp)
  show Qm0 (Qke n m1 r1 m) r1 told (k:Int) (p:Int) (i:Int) kd fr mt mi me ma ml mh mx mp x1 x2 x3 t1 t2 t3 t4 t5 t6 t7 t8 t9 t10 t11 t12 kids f1 f2 f3 f4 f5 f6 f7 bd l=_
  unfold Qm0
  rw [cdp (show (i:Int)<(l.length:Int) by omega)]
  simp only [hI,hK,cond_true,Qk9,Qkl hi,Qkl hk,hw,Zrg,Zra,Zrc,Zpj,Zrb,Zr9,Zrd,Zre,Zr6,Zr7]
  by_cases a1:l[i].to=kids[k].1
  ·rw [Zgl a1]
   by_cases k7:l[i].kd=7
   ·rw [Zgl k7];exact J3 (.inl k7) a1
   ·rw [Zk3 k7]
    by_cases k9:l[i].kd=9
    ·rw [Zgl k9];exact J3 (.inr k9) a1
    ·rw [Zk3 k9];exact skip (by unfold rel;rw [decide_eq_false k7,decide_eq_false k9];simp)
  ·rw [Zk3 a1];exact skip (by unfold rel;rw [decide_eq_false a1];simp)
theorem Zlf (n:Nat) (told:List Evt) (hT:told.length≤1000000000) (kd fr mt mi me ma ml mh:Int) (mx:ByteArray) (mp:List Int) (x1:Bool) (x2:Int) (x3:ByteArray) (t1 t2 t3 t4 t5 t6:Int) (t7:List Int) (t8 t9 t10 t11 t12:Int) (kids:List Kid) (f1 f2:Int) (f3 f4:List Qnb) (f5:List Evt) (f6 f7 bd:Int) (l:List Qk7) (hkl:kids.length≤1000) (hl:l.length≤1000000000) (hn:l.length<n) (H:∀ (k:Nat) (hk:k<kids.length),∃ f,Zoc f told∧l.filter (rel kids[k].1 kd fr)=told.map f):∀ (c m k:Nat),k+c=kids.length→c<m →
  Qkt n m told (k:Int) kd fr mt mi me ma ml mh mx mp x1 x2 x3 t1 t2 t3 t4 t5 t6 t7 t8 t9 t10 t11 t12 kids f1 f2 f3 f4 f5 f6 f7 bd l=some ((true,()),())
 | c,0,k,_,hm=>by omega
 | 0,m+1,k,hc,hm=>by
  show Qlw (Qke n m (Qkt n m) n) told (k:Int) kd fr mt mi me ma ml mh mx mp x1 x2 x3 t1 t2 t3 t4 t5 t6 t7 t8 t9 t10 t11 t12 kids f1 f2 f3 f4 f5 f6 f7 bd l=_
  unfold Qlw
  rw [cdn (by omega)]
 | c+1,m+1,k,hc,hm=>by
  have hk:k<kids.length:=by omega
  obtain ⟨f,hf,hr⟩:=H k hk
  show Qlw (Qke n m (Qkt n m) n) told (k:Int) kd fr mt mi me ma ml mh mx mp x1 x2 x3 t1 t2 t3 t4 t5 t6 t7 t8 t9 t10 t11 t12 kids f1 f2 f3 f4 f5 f6 f7 bd l=_
  unfold Qlw
  rw [cdp (show (k:Int)<(kids.length:Int) by omega)]
  refine Eq.trans (Zif n m (Qkt n m) told f hf hT k kd fr mt mi me ma ml mh mx mp x1 x2 x3 t1 t2 t3 t4 t5 t6 t7 t8 t9 t10 t11 t12 kids f1 f2 f3 f4 f5 f6 f7 bd l hk hkl hl l.length n 0 0 (by omega) hn (by omega) (by rw [List.drop_zero,List.drop_zero];exact hr)) ?_
  rw [Qr9 (by omega)]
  exact Zlf n told hT kd fr mt mi me ma ml mh mx mp x1 x2 x3 t1 t2 t3 t4 t5 t6 t7 t8 t9 t10 t11 t12 kids f1 f2 f3 f4 f5 f6 f7 bd l hkl hl hn H c m (k+1) (by omega) (by omega)
theorem Zoe (t:Tie) (m:Qk7):∀ x∈(Qv0 t m).2,x.kd≤6:=by
 obtain ⟨id,inc,now,par,pinc,grand,path,ep,born,asked,til,step,kids⟩:=t
 obtain ⟨kd,fr,to,mi,me,ag,pa,l,hi,tx⟩:=m
 rw [Qv0]
 repeat' split
 all_goals first
  | (intro x hx;cases hx;done)
  | (intro x hx;rcases List.mem_singleton.1 hx with rfl;exact (by decide:(6:Int)≤6))
theorem Zlr (t:Tie) (m:Qk7) (lo:Int):∀ x∈(Z4a t m lo).2,x.kd≤6:=by
 obtain ⟨id,inc,now,par,pinc,grand,path,ep,born,asked,til,step,kids⟩:=t
 obtain ⟨kd,fr,to,mi,me,ag,pa,l,hi,tx⟩:=m
 rw [Z4a]
 repeat' split
 all_goals first
  | exact Zoe _ _
  | (intro x hx;cases hx;done)
  | (intro x hx;rcases List.mem_singleton.1 hx with rfl;exact (by decide:(3:Int)≤6))
  | (intro x hx;rcases List.mem_singleton.1 hx with rfl;exact (by decide:(2:Int)≤6))
  | (intro x hx;rcases List.mem_singleton.1 hx with rfl;exact (by decide:(6:Int)≤6))
theorem Zol (t:Tie) (m:Qk7) (lo:Int):∀ x∈(Qsz t m lo).2,x.kd≤6:=by
 obtain ⟨id,inc,now,par,pinc,grand,path,ep,born,asked,til,step,kids⟩:=t
 obtain ⟨kd,fr,to,mi,me,ag,pa,l,hi,tx⟩:=m
 rw [Qsz]
 split
 ·intro x hx;cases hx
 ·split
  ·exact Zlr _ _ _
  ·exact Zlr _ _ _
theorem Zfi {α:Type} {p:α→Bool} {l:List α} (h:∀ x∈l,p x=false):l.filter p=[]:=List.filter_eq_nil_iff.2 fun x hx=>by rw [h x hx];exact Bool.false_ne_true
theorem Zni {q kd fr:Int} (hn:¬ (kd=8∧q=fr)) (g:Kid→Qk7) (hg:∀ x,(g x).to=x.1∧((g x).kd=7∨(g x).kd=9)):∀ {l:List Kid},Z8t kid l→∀ y∈l,y.1=q→(l.map g).filter (rel q kd fr)=[g y]
 | [],_,y,hy,_=>by cases hy
 | x::r,hr,y,hy,hq=>by
  rw [List.map_cons,List.filter_cons]
  have hrel:∀ z:Kid,z.1≠q→rel q kd fr (g z)=false:=fun z hz=>by unfold rel;rw [(hg z).1,decide_eq_false hz];rfl
  rcases List.mem_cons.1 hy with rfl | hy
  ·have e1:(decide ((g y).kd=7)||decide ((g y).kd=9))=true:=by rcases (hg y).2 with h | h<;>simp [h]
   have e2:(decide (kd=8)&&decide (q=fr))=false:=by
    rw [← Bool.not_eq_true,Bool.and_eq_true,decide_eq_true_eq,decide_eq_true_eq];exact hn
   rw [if_pos (by unfold rel;rw [(hg y).1,hq,e1,e2,decide_eq_true rfl];rfl),Zfi]
   intro m hm
   obtain ⟨z,hz,rfl⟩:=List.mem_map.1 hm
   have:=hr.1 z hz
   simp only [kid] at this
   exact hrel z (by omega)
  ·have:=hr.1 y hy
   simp only [kid] at this
   rw [if_neg (by rw [hrel x (by omega)];exact Bool.false_ne_true)]
   exact Zni hn g hg hr.2 y hy hq
theorem Zpm (t:Tie) (e:Evt) (x:Kid):(Zcm t e x).to=x.1∧((Zcm t e x).kd=7∨(Zcm t e x).kd=9):=by
 unfold Zcm
 split
 ·exact ⟨rfl,.inl rfl⟩
 ·exact ⟨rfl,.inr rfl⟩
theorem Zio (t:Tie) {q kd fr:Int} (hn:¬ (kd=8∧q=fr)) (hr:Z8t kid t.2.2.2.2.2.2.2.2.2.2.2.2) {y:Kid} (hy:y∈t.2.2.2.2.2.2.2.2.2.2.2.2) (hq:y.1=q):∀ told:List Evt,(dnM t told).filter (rel q kd fr)=told.map (fun e=>Zcm t e y)
 | []=>rfl
 | e::r=>by
  show (dnK t e _++dnM t r).filter _=_
  rw [List.filter_append,Zio t hn hr hy hq r,show dnK t e t.2.2.2.2.2.2.2.2.2.2.2.2=t.2.2.2.2.2.2.2.2.2.2.2.2.map (Zcm t e) from rfl,Zni hn (Zcm t e) (Zpm t e) hr y hy hq]
  rfl
theorem Zp8 (t:Tie) (y:Kid) {told:List Evt} (h:∀ e∈told,Zrf e):Zoc (fun e=>Zcm t e y) told:=by
 intro e he
 dsimp only
 unfold Zcm
 split
 ·rename_i h1
  exact ⟨rfl,fun _=>⟨h1,rfl⟩,fun x=>absurd x (by decide:¬ (7:Int)=9)⟩
 ·rename_i h1
  exact ⟨rfl,fun x=>absurd x (by decide:¬ (9:Int)=7),fun _=>⟨(h e he).resolve_left h1,rfl⟩⟩
theorem Znm (t:Tie) (f:Qni) (m:Qk7):∀ x∈Qy8 t f m,x.to=m.fr:=by
 unfold Qy8
 intro x hx
 split at hx
 ·split at hx
  ·rcases List.mem_append.1 hx with h | h
   ·obtain ⟨_,_,rfl⟩:=List.mem_map.1 h;rfl
   ·obtain ⟨_,_,rfl⟩:=List.mem_map.1 h;rfl
  ·cases hx
 ·cases hx
theorem Zpv (t:Tie) (f:Qni) {m:Qk7} (h:m.kd=8) (was:Int):Qwf t f m was=f:=by
 obtain ⟨kd,fr,to,mi,me,ag,pa,lo,hi,tx⟩:=m
 have h':kd=8:=h
 subst h'
 rw [Qwf]
 split
 ·rfl
 ·rw [if_neg (fun e=>absurd e.1 (by decide)),if_neg (fun e=>absurd e.1 (by decide)),if_neg (by decide),if_neg (by decide)]
structure Zrl (n:Zbs) (m:Qk7) (x:Zbs) (l:List Qk7):Prop where
 log:n.2.2.2.2.1.2.2.2.2.1.length≤x.2.2.2.2.1.2.2.2.2.1.length
 logl:x.2.2.2.2.1.2.2.2.2.1.length≤10000000
 kids:x.2.2.2.1.2.2.2.2.2.2.2.2.2.2.2.2.length≤8
 len:l.length≤100000000
 H:∀ (k:Nat) (hk:k<x.2.2.2.1.2.2.2.2.2.2.2.2.2.2.2.2.length),∃ f,Zoc f (x.2.2.2.2.1.2.2.2.2.1.drop n.2.2.2.2.1.2.2.2.2.1.length)∧l.filter (rel x.2.2.2.1.2.2.2.2.2.2.2.2.2.2.2.2[k].1 m.kd m.fr)=(x.2.2.2.2.1.2.2.2.2.1.drop n.2.2.2.2.1.2.2.2.2.1.length).map f
theorem Zrp {n:Zbs} (h:NOk 120 n) {m:Qk7} (hm:MSm m):Zrl n m (Zd5 n m).1 (Zd5 n m).2:=by
 have hT:=Zbk h.tie hm (max n.2.2.2.2.1.1 1) (by decide)
 have hlen:=Zhc n.2.2.2.1 m (max n.2.2.2.2.1.1 1)
 have hkd:=Zol n.2.2.2.1 m (max n.2.2.2.2.1.1 1)
 unfold Zd5
 dsimp only
 generalize hr:Qsz n.2.2.2.1 m (max n.2.2.2.2.1.1 1)=r at *
 have hf2:=Zev (t:=r.1) h.feed (m:=m) n.2.2.2.1.2.2.2.1
 have hext:=Zgo r.1 n.2.2.2.2.1 m n.2.2.2.1.2.2.2.1
 have hnew:=hext.new
 have f8:=Zpv r.1 n.2.2.2.2.1 (m:=m)
 generalize hg:Qwf r.1 n.2.2.2.2.1 m n.2.2.2.1.2.2.2.1=g at *
 have hlg:n.2.2.2.2.1.2.2.2.2.1.length≤g.2.2.2.2.1.length:=by rw [hnew.1,List.length_append];omega
 have hgl:=hf2.sm.log
 have hnl:(Ze5 n.2.2.2.2.1 g).length≤10000000:=by unfold Ze5;rw [List.length_drop];omega
 have hdl:=Zkc r.1 hT.kids.len (Ze5 n.2.2.2.2.1 g)
 have hsl:=Zem r.1 n.2.2.2.2.1 m
 have hS:(if m.kd=8 then Qy8 r.1 n.2.2.2.2.1 m else []).length≤16:=by
  split
  ·exact hsl
  ·exact Nat.zero_le _
 refine ⟨hlg,hgl,hT.kids.len,by rw [List.length_append,List.length_append];omega,fun k hk=>?_⟩
 have hk':k<r.1.2.2.2.2.2.2.2.2.2.2.2.2.length:=hk
 show ∃ f,Zoc f (Ze5 n.2.2.2.2.1 g)∧((r.2++(if m.kd=8 then Qy8 r.1 n.2.2.2.2.1 m else []))++dnM r.1 (Ze5 n.2.2.2.2.1 g)).filter (rel (r.1.2.2.2.2.2.2.2.2.2.2.2.2[k]'hk').1 m.kd m.fr)=(Ze5 n.2.2.2.2.1 g).map f
 have fA:∀ q:Int,r.2.filter (rel q m.kd m.fr)=[]:=fun q=>Zfi fun x hx=>by
  have:=hkd x hx
  unfold rel
  rw [decide_eq_false (show ¬ x.kd=7 by omega),decide_eq_false (show ¬ x.kd=9 by omega)];simp
 rw [List.filter_append,List.filter_append,fA,List.nil_append]
 by_cases k8:m.kd=8
 ·have e:g=n.2.2.2.2.1:=by rw [← hg];exact Zpv r.1 n.2.2.2.2.1 k8 _
  refine ⟨fun _=>m,fun x hx=>(by rw [e,Zjf] at hx;cases hx),?_⟩
  rw [if_pos k8,e,Zjf,Zfi]
  ·rfl
  ·intro x hx
   have:=Znm _ _ _ x hx
   unfold rel
   rw [decide_eq_true k8,decide_eq_true this];simp
 ·refine ⟨fun e=>Zcm r.1 e (r.1.2.2.2.2.2.2.2.2.2.2.2.2[k]'hk'),Zp8 r.1 _ hnew.2,?_⟩
  rw [if_neg k8,List.filter_nil,List.nil_append]
  exact Zio r.1 (fun x=>k8 x.1) hT.kids.rise (List.getElem_mem hk') rfl _
def Zou (n:Zbs):Zbs:=(n.1,n.2.1,n.2.2.1,n.2.2.2.1,n.2.2.2.2.1,min (n.2.2.2.2.2+1) 1073741824)
theorem Zqm {n:Zbs} (h:NSm n) (ho:n.1=true) (hbd:0≤n.2.2.2.2.2∧n.2.2.2.2.2≤1073741824) {b:List Int} (hb:Qki b) (hl:b.length≤1000000000) (hd:Zf0 b=none):Qtl n b=some ((Zou n,[],()),()):=by
 have e:(if 1073741824<IntKind.wrap .i64 (n.2.2.2.2.2+1) then 1073741824 else IntKind.wrap .i64 (n.2.2.2.2.2+1))=min (n.2.2.2.2.2+1) 1073741824:=by
  rw [Qqd (by omega) (by omega)];split<;>omega
 have fin:(some (((e5 n (if 1073741824<IntKind.wrap .i64 ((h5 n)+1) then 1073741824 else IntKind.wrap .i64 ((h5 n)+1))),[],()),()):Option (((Zbs) × (List Qk7) × Unit) × Unit))=some ((Zou n,[],()),()):=by
  show some (((n.1,n.2.1,n.2.2.1,n.2.2.2.1,n.2.2.2.2.1,if 1073741824<IntKind.wrap .i64 (n.2.2.2.2.2+1) then 1073741824 else IntKind.wrap .i64 (n.2.2.2.2.2+1)),[],()),())=_
  rw [e];rfl
 unfold Qtl
 rw [Zqj h]
 dsimp only [Option.bind_some]
 rw [ho,nt,cond_false,Zdg b hb hl,hd]
 exact fin
theorem Zm2 {n:Zbs} (h:NOk 120 n) (m:Qk7) (hto:m.to=n.2.2.2.1.1):∃ (x:Zbs) (l:List Qk7),Qtl n (Zbr m)=some ((x,l,()),())∧Zrl n m x l:=by
 have hput:=Zle m
 by_cases hmay:Zg4 m=true
 ·exact ⟨_,_,Znz h (by decide) (Zh8 m) (by omega) (Zns hmay) hto,Zrp h (Z4w hmay).msm⟩
 ·have e:Zf0 (Zbr m)=none:=by
   cases ht:Zf0 (Zbr m) with
   | none=>rfl
   | some a=>
    exfalso
    have h1:Zbr m=[]:=by unfold Zbr;rw [if_neg hmay]
    rw [h1] at ht
    unfold Zf0 at ht
    rw [if_pos (by simp)] at ht
    cases ht
  have hsm:=h.nsm
  refine ⟨_,_,Zqm hsm h.on h.bad (Zh8 m) (by omega) e,Nat.le_refl _,hsm.feed.log,hsm.kids,by simp,fun k hk=>⟨fun _=>m,fun x hx=>?_,?_⟩⟩
  ·rw [show (Zou n).2.2.2.2.1=n.2.2.2.2.1 from rfl,List.drop_length] at hx;cases hx
  ·rw [show (Zou n).2.2.2.2.1=n.2.2.2.2.1 from rfl,List.drop_length];rfl
theorem Zq9:Qxa=some ((true,()),()):=by kernel_rfl
theorem Z2u {A B:Nat} (picks more:List Int) (who:Int) (h:Qhw [.val (.sl A (.int .u8)),.val (.sl B (.int .u8)),.val (.int .u8)] (picks,more,who,())):Qqv picks more who=some ((true,()),()):=by
 obtain ⟨w1,w2,w3,_⟩:=h
 have hb1:Qki picks:=fun x hx=>Zqn.1 (w1.2 x hx)
 have hb2:Qki more:=fun x hx=>Zqn.1 (w2.2 x hx)
 have hw:0≤who∧who<256:=Zqn.1 w3
 have key:∀ n m,100000000<n→100<m→Qps (Qkt n m) picks more who=some ((true,()),()):=by
  intro q q2 hq hq2
  unfold Qps
  rw [Zq9]
  dsimp only [Option.bind_some]
  rw [nt,cond_false]
  by_cases a1:150<picks.length
  ·rw [cdp (by omega)]
  rw [cdn (by omega)]
  by_cases a2:15<more.length
  ·rw [cdp (by omega)]
  rw [cdn (by omega)]
  have e8:Int.tmod who 7=who % 7:=Int.tmod_eq_emod_of_nonneg (by omega)
  rw [e8,Qqd (x:=who % 7) (by omega) (by omega),Qqd (x:=2+who % 7) (by omega) (by omega)]
  obtain ⟨n,en,hn,hid,hti,hbad,hf0⟩:=Zq6 picks hb1 (by omega) (2+who % 7) (by omega)
  rw [en,show Qsw more=some (((more,0),()),()) from rfl]
  dsimp only [Option.bind_some]
  obtain ⟨m,s',em,hmay,hto,_,_⟩:=Zm4 (Zom hb2 (by omega)) (2+who % 7) (by omega)
  rw [em]
  dsimp only [Option.bind_some]
  have hpa:=(Z4w hmay).pl
  have hpa':m.2.2.2.2.2.2.1.length≤1000000000:=by show m.pa.length≤_;omega
  have fin:∀ (x:Zbs) (l:List Qk7) (m':Qk7),Zrl n m' x l→(bif decide ((x.2.2.2.2.1.2.2.2.2.1.length:Int)<(n.2.2.2.2.1.2.2.2.2.1.length:Int)) then some ((false,()),()) else bif (decide (0≤(n.2.2.2.2.1.2.2.2.2.1.length:Int))&&decide ((n.2.2.2.2.1.2.2.2.2.1.length:Int)≤(x.2.2.2.2.1.2.2.2.2.1.length:Int)))&&decide ((x.2.2.2.2.1.2.2.2.2.1.length:Int)≤(x.2.2.2.2.1.2.2.2.2.1.length:Int)) then
    Qkt q q2 (List.drop (n.2.2.2.2.1.2.2.2.2.1.length:Int).toNat (List.take (x.2.2.2.2.1.2.2.2.2.1.length:Int).toNat x.2.2.2.2.1.2.2.2.2.1)) 0 m'.kd m'.fr m'.to m'.inc m'.ep m'.ag m'.lo m'.hi m'.tx m'.pa x.1 x.2.1 x.2.2.1 x.2.2.2.1.1 x.2.2.2.1.2.1 x.2.2.2.1.2.2.1 x.2.2.2.1.2.2.2.1 x.2.2.2.1.2.2.2.2.1 x.2.2.2.1.2.2.2.2.2.1 x.2.2.2.1.2.2.2.2.2.2.1 x.2.2.2.1.2.2.2.2.2.2.2.1 x.2.2.2.1.2.2.2.2.2.2.2.2.1 x.2.2.2.1.2.2.2.2.2.2.2.2.2.1 x.2.2.2.1.2.2.2.2.2.2.2.2.2.2.1 x.2.2.2.1.2.2.2.2.2.2.2.2.2.2.2.1 x.2.2.2.1.2.2.2.2.2.2.2.2.2.2.2.2 x.2.2.2.2.1.1 x.2.2.2.2.1.2.1 x.2.2.2.2.1.2.2.1 x.2.2.2.2.1.2.2.2.1 x.2.2.2.2.1.2.2.2.2.1 x.2.2.2.2.1.2.2.2.2.2.1 x.2.2.2.2.1.2.2.2.2.2.2 x.2.2.2.2.2 l else none:Option Qkd)=some ((true,()),()):=by
   intro x l m' hd
   have d1:=hd.log
   have d2:=hd.logl
   have d3:=hd.kids
   have d4:=hd.len
   rw [cdn (by omega),ct (by rw [bt (by omega) (by omega),decide_eq_true (Int.le_refl _)];rfl),Int.toNat_natCast,Int.toNat_natCast,List.take_length]
   exact Zlf q _ (by rw [List.length_drop];omega) m'.kd m'.fr m'.to m'.inc m'.ep m'.ag m'.lo m'.hi m'.tx m'.pa _ _ _ _ _ _ _ _ _ _ _ _ _ _ _ _ _ _ _ _ _ _ _ _ l (by omega) (by omega) (by omega) hd.H _ q2 0 (Nat.zero_add _) (by omega)
  by_cases hp:n.2.2.2.1.2.2.2.1=0
  ·rw [Zgl (show g3 (g3 n)=0 from hp),Z8v m hpa']
   dsimp only [Option.bind_some]
   obtain ⟨x,l,ex,hd⟩:=Zm2 hn m (hto.trans hid.symm)
   rw [ex]
   dsimp only [Option.bind_some]
   exact fin x l m hd
  ·rw [Zk3 (show g3 (g3 n)≠0 from hp),Z8v (u3 (u1 m (g3 (g3 n))) (g4 (g3 n))) hpa']
   dsimp only [Option.bind_some]
   obtain ⟨x,l,ex,hd⟩:=Zm2 hn (u3 (u1 m (g3 (g3 n))) (g4 (g3 n))) (hto.trans hid.symm)
   rw [ex]
   dsimp only [Option.bind_some]
   exact fin x l (u3 (u1 m (g3 (g3 n))) (g4 (g3 n))) hd
 exact key 1099511627776 1099511627776 (by decide) (by decide)
end Go.PE
